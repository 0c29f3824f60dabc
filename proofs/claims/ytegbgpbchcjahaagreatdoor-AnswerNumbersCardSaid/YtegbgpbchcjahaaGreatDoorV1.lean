import Derived.Test.YtegbgpbchcjahaaGreatDoorPKind
set_option linter.all false
namespace Lp
open Go
variable {o:List Int} {names:List Ba} {op text:Ba} {n mode:Int}
def yI {l:List Nd} {x:Nd} (h:x∈l):x.cnt<=Nd.cntL l:=by
 induction l with
 | nil=>cases h
 | cons y l ih=>
  simp only[Nd.cntL];rcases dD.1 h with e | e
  · rw[e];omega
  have:=ih e;omega
def Nd.ind {p:Nd->Prop} (h:∀ op text n mode names ms kids,(∀ x∈kids,p x)->p (.mk op text n mode names ms kids)):∀ q,p q:=by
 have key:∀ (n:Nat) (q:Nd),q.cnt=n->p q:=by
  intro n
  induction n using Nat.strongRecOn with
  | _ n ih=>
   intro q hq;obtain ⟨op,text,n',mode,names,ms,kids⟩:=q;refine h op text n' mode names ms kids (λx hx=>ih x.cnt ?_ x O);have:=yI hx;simp only[Nd.cnt] at hq;omega
 exact λq=>key q.cnt q O
def qK:∀ l:List Nd,l.length<=Nd.cntL l
 | []=>cW _
 | x::r=>by
  have:=qK r;have h:1<=x.cnt:=by cases x;simp[Nd.cnt]
  simp only[Nd.cntL,dH];omega
inductive Ask where
 | leaf (k:Int)
 | whole (a b:Int)
 | plain
 | pair (m:Int)
 | none
def zb5 (op text:Ba) (n mode:Int) (len:Nat):Ask:=
 if op=tNum then .leaf 1
 else if op=nSel/\0<n then .leaf 3
 else if op=nSel then .leaf 2
 else if op=tFn/\len=1 then .whole 3 2
 else if op=tAgg/\len=1/\zfG text n=true then .whole 2 2
 else if op=tNeg/\len=1 then .plain
 else if op=tBin/\len=2 then .pair mode
 else .none
def Ask.fits:Ask->Nat->Prop
 | .whole _ _,n=>n=1
 | .plain,n=>n=1
 | .pair _,n=>n=2
 | _,_=>True
def Ask.kind:Ask->List Int->Int
 | .leaf k,_=>k
 | .whole a b,ks=>if ks.headD 0=a then b else 0
 | .plain,ks=>if ks.headD 0=3 then 0 else ks.headD 0
 | .pair m,ks=>zgl m (ks.headD 0) (ks.tail.headD 0)
 | .none,_=>0
def aMu (op text:Ba) (n mode:Int) (ks:List Int):aGw op text n mode ks=(zb5 op text n mode ks.length).kind ks:=by
 unfold aGw zb5;repeat' split
 all_goals first | rfl | (simp only[Ask.kind];rw[aB (by assumption)]) | (simp only[Ask.kind];rw[aA (by assumption)])
def aKz (op text:Ba) (n mode:Int) (len:Nat):(zb5 op text n mode len).fits len:=by
 unfold zb5;repeat' split
 all_goals first | trivial | (rename_i h;exact h.2) | (rename_i h;exact h.2.1)
def lC:∀ {l:List Nd} {ks:List Int},Nd.kinds l=some ks->ks.length=l.length
 | [],ks,h=>by simp[Nd.kinds] at h;subst h;rfl
 | x::r,ks,h=>by
  simp only[Nd.kinds] at h;split at h
  · cases h
  cases e:Nd.kinds r with
  | none=>rw[e] at h;cases h
  | some k2=>rw[e] at h;simp at h;subst h;simp[lC e]
def rT (x:Nd):Nd.kinds [x]=if x.kind=0 then none else some [x.kind]:=by simp[Nd.kinds]
def aK0 {l:List Nd} {k:Nat} {x:Nd} (hx:l[k]?=some x) (h:Nd.kinds (l.take k)=some o) (hk:¬x.kind=0):Nd.kinds (l.take (k+1))=some (o++[x.kind]):=by
 rw[zS hx,gE,h,rT,aA hk];rfl
def aHd {l:List Nd} {k:Nat} {x:Nd} (hx:l[k]?=some x) (h:Nd.kinds (l.take k)=some o) (hk:x.kind=0):Nd.kinds l=none:=by
 have e:l=l.take (k+1)++l.drop (k+1):=(dF _ _).symm;rw[e,gE,zS hx,gE,h,rT,aB hk];rfl
def Nd.kindE (q:Nd):Int:=if q.kind=0 then 3 else 0
def zdc (l:List Nd):List Int:=(Nd.kinds l).getD []
def zet (l:List Nd):Int:=if (Nd.kinds l).isSome=true then 0 else 3
def aM6 {l:List Nd} (h:Nd.kinds l=none):[]=zdc l/\3=zet l:=by unfold zdc zet;rw[h];exact⟨rfl,rfl⟩
def aIt {l:List Nd} (h:Nd.kinds l=some o):o=zdc l/\0=zet l:=by unfold zdc zet;rw[h];exact⟨rfl,rfl⟩
def aUi (l:List Nd):(zet l=0/\Nd.kinds l=some (zdc l))\/(zet l=3/\Nd.kinds l=none):=by
 unfold zdc zet;cases Nd.kinds l with
 | none=>exact .inr ⟨rfl,rfl⟩
 | some ks=>exact .inl ⟨rfl,rfl⟩
def aRe {ms:List MatD} {kids:List Nd} (h:Nd.kinds kids=none):(Nd.mk op text n mode names ms kids).kind=0:=by simp only[Nd.kind,h]
def aN0 {ms:List MatD} {kids:List Nd} {ks:List Int} (h:Nd.kinds kids=some ks):(Nd.mk op text n mode names ms kids).kind=(zb5 op text n mode kids.length).kind ks:=by
 simp only[Nd.kind,h];rw[aMu,lC h]
def Nd.checkE (q:Nd):Int:=if q.kind=0\/q.kind=3 then 3 else 0
end Lp
set_option maxHeartbeats 4000000
set_option maxRecDepth 100000
namespace Lp
open Go Go.RowKit Go.Proofs Tryz
variable {l:List Int}
def Ask.d:Ask->D
 | .leaf k=>.ifc 188 (.agg [dI k])
 | .whole a b=>.ifc 191 (.agg [dI a,dI b])
 | .plain=>.ifc 197 (.agg [])
 | .pair m=>.ifc 194 (.agg [dI m])
 | .none=>.v .nilIface
def hd_0 {x:Int} (h:l[0]?=some x):l.headD 0=x:=by
 cases l with
 | nil=>cases h
 | cons y r=>injection h
def hd_1 {x:Int} (h:l[1]?=some x):l.tail.headD 0=x:=by
 cases l with
 | nil=>cases h
 | cons y r=>cases r with
  | nil=>cases h
  | cons z r=>injection h
def aFk:BdP prog #[⟨"kind",3,0,false, "", "leporello/kind",0⟩] [(0,1)]:=λ_=>by kernel_rfl
def aOh:BdP prog #[⟨"kid",3,0,false, "", "leporello/kind",0⟩,⟨"is",3,1,false, "", "leporello/kind",8⟩] [(0,1),(1,1)]:=λ_=>by kernel_rfl
def aV7:BdP prog #[⟨"mode",3,0,false, "", "leporello/kind",0⟩] [(0,1)]:=λ_=>by kernel_rfl
def aU1:BdP prog #[] []:=λ_=>by kernel_rfl
def aL7:FaP prog 191 0 0:=λ_ _ _=>by kernel_rfl
def aOu:IzP prog 3 (.int .i64 0) 1 8:=zdf (by kernel_rfl)
def aHu:Tryz.prog.underlying 147=some (.slice 3):=by kernel_rfl
def aMb (op text:Ba) (n mode:Int) (names:List Ba) (ms:List MatD) (kids:List Nd) :
 CD prog 148 [] [.agg [.s op,.s text,dI n,dI mode,.sh 1 (names.map D.s),.sh 3 (ms.map MatD.d),.sh 7 (kids.map Nd.d)]] (isR (dB (zfG text n))):=by
 refine tZ func148 O O (λC=>?_);refine T.bd 0 O (λbd0=>?_);refine g' 2 O ?_;refine tA O (λg1=>?_);refine gQ 17 [0] O O ?_;refine tD O (λhc2=>?_) (λhc2=>?_)
 · refine gQ 6 [0] O O ?_;refine tAnd 3 3 (c:=decide (n<=(100:Int))) O O O O O O (λhb3 nx4=>?_) ?_
   · have hf5:=aF hb3;refine gQ 3 [0] O O ?_;exact nx4 _ O O (kx 3 O O)
   refine g' 6 O ?_;exact tRs O results148 (.cons (zc (za O) (cB ((by unfold zfG;rw[aB hc2];simp)))) .nil) O HSub.none ⟨O,O⟩
 refine g' 6 O ?_;refine tD O (λhc6=>?_) (λhc6=>?_)
 · refine gQ 6 [0] O O ?_;refine tAnd 3 3 (c:=decide (n<=(2000:Int))) O O O O O O (λhb7 nx8=>?_) ?_
   · have hf9:=aF hb7;refine gQ 3 [0] O O ?_;exact nx8 _ O O (kx 3 O O)
   refine g' 6 O ?_;exact tRs O results148 (.cons (zc (za O) (cB ((by unfold zfG;rw[aA hc2,aB hc6];simp)))) .nil) O HSub.none ⟨O,O⟩
 refine g' 9 O ?_;exact tRs O results148 (.cons (zc (za O) (cB ((by unfold zfG;rw[aA hc2,aA hc6])))) .nil) O HSub.none ⟨O,O⟩
def aW2 (op text:Ba) (n mode:Int) (names:List Ba) (ms:List MatD) (kids:List Nd) :
 CD prog 104 [] [.agg [.s op,.s text,dI n,dI mode,.sh 1 (names.map D.s),.sh 3 (ms.map MatD.d),.sh 7 (kids.map Nd.d)]] (isR (zb5 op text n mode kids.length).d):=by
 refine tZ func104 O O (λC=>?_);refine T.bd 0 O (λbd0=>?_);have hkl:=qK kids;refine g' 2 O ?_;refine tA O (λg1=>?_);refine gQ 13 [0] O O ?_;refine tD O (λhc2=>?_) (λhc2=>?_)
 · refine g' 2 O (tP O (zm [0] [.const (.int .i64 1)] (zv:=cH) O O (.cons (CellD.v O) .nil) (runUnderlying188) zeroValue188 aFk ⟨O,trivial⟩ O) (g' 7 O ?_));have hak:(D.ifc 188 (.agg [dI 1]):D)=(zb5 op text n mode kids.length).d:=(by unfold zb5;rw[aB hc2];rfl);exact tRs O results104 (.cons (zc (za O) (w6 hak)) .nil) O HSub.none ⟨O,O⟩
 refine gQ 6 [0] O O ?_;refine tAnd 3 3 (c:=decide ((0:Int)<n)) O O O O O O (λhb3 nx4=>?_) ?_
 · have hf5:=aF hb3;refine gQ 3 [0] O O ?_;exact nx4 _ O O (kx 3 O O)
 refine g' 3 O ?_;refine tC O (λhc6=>?_) (λhc6=>?_)
 · simp only[bX,bJ] at hc6;refine g' 2 O (tP O (zm [0] [.const (.int .i64 3)] (zv:=cH) O O (.cons (CellD.v O) .nil) (runUnderlying188) zeroValue188 aFk ⟨O,trivial⟩ O) (g' 7 O ?_));have hak:(D.ifc 188 (.agg [dI 3]):D)=(zb5 op text n mode kids.length).d:=(by unfold zb5;rw[aA hc2,aB hc6];rfl);exact tRs O results104 (.cons (zc (za O) (w6 hak)) .nil) O HSub.none ⟨O,O⟩
 simp only[bX,bJ] at hc6;refine gQ 8 [0] O O ?_;refine tD O (λhc7=>?_) (λhc7=>?_)
 · refine g' 2 O (tP O (zm [0] [.const (.int .i64 2)] (zv:=cH) O O (.cons (CellD.v O) .nil) (runUnderlying188) zeroValue188 aFk ⟨O,trivial⟩ O) (g' 7 O ?_));have hak:(D.ifc 188 (.agg [dI 2]):D)=(zb5 op text n mode kids.length).d:=(by unfold zb5;rw[aA hc2,aA (λe=>by have h:=hc6;rcases h with h | h;exact h e.1;exact h e.2),aB hc7];rfl);exact tRs O results104 (.cons (zc (za O) (w6 hak)) .nil) O HSub.none ⟨O,O⟩
 refine gQ 6 [0] O O ?_;refine tAnd 3 4 (c:=decide (((kids.length:Nat):Int)=(1:Int))) O O O O O O (λhb8 nx9=>?_) ?_
 · have hf10:=aF hb8;refine gQ 2 [0] O O (tG O (zH (n:=kids.length) O bM (by simp only[lm,lc,ln])) (g' 1 O ?_));exact nx9 _ O O (kx 4 O O)
 refine g' 3 O ?_;refine tC O (λhc11=>?_) (λhc11=>?_)
 · simp only[bX,bJ] at hc11;refine g' 2 O (tP O (zm [0,1] [.const (.int .i64 3),.const (.int .i64 2)] (zv:=cF) O O (.cons (CellD.v O) (.cons (CellD.v O) .nil)) (runUnderlying191) zeroValue191 aOh ⟨O,O,trivial⟩ O) (g' 7 O ?_));have hak:(D.ifc 191 (.agg [dI 3,dI 2]):D)=(zb5 op text n mode kids.length).d:=(by unfold zb5;rw[aA hc2,aA (λe=>by have h:=hc6;rcases h with h | h;exact h e.1;exact h e.2),aA hc7,aB ⟨hc11.1,by have:=hc11.2;omega⟩];rfl);exact tRs O results104 (.cons (zc (za O) (w6 hak)) .nil) O HSub.none ⟨O,O⟩
 simp only[bX,bJ] at hc11;refine gQ 6 [0] O O ?_;refine tAnd 3 4 (c:=decide (((kids.length:Nat):Int)=(1:Int))) O O O O O O (λhb12 nx13=>?_) ?_
 · have hf14:=aF hb12;refine gQ 2 [0] O O (tG O (zH (n:=kids.length) O bM (by simp only[lm,lc,ln])) (g' 1 O ?_));exact nx13 _ O O (kx 4 O O)
 refine g' 1 O ?_;refine tAnd 9 2 (c:=zfG text n) O O O O O O (λhb15 nx16=>?_) ?_
 · obtain ⟨hf17,hf18⟩:=andT hb15;have hf19:=aF hf17;have hf20:=aF hf18;refine gQ 1 [0] O O (tW O acs (aMb op text n mode names ms kids ) ?_);exact nx16 _ O O (kx 2 O O)
 refine g' 3 O ?_;refine tC O (λhc21=>?_) (λhc21=>?_)
 · simp only[bX,bJ] at hc21;refine g' 2 O (tP O (zm [0,1] [.const (.int .i64 2),.const (.int .i64 2)] (zv:=cF) O O (.cons (CellD.v O) (.cons (CellD.v O) .nil)) (runUnderlying191) zeroValue191 aOh ⟨O,O,trivial⟩ O) (g' 7 O ?_));have hak:(D.ifc 191 (.agg [dI 2,dI 2]):D)=(zb5 op text n mode kids.length).d:=(by unfold zb5;rw[aA hc2,aA (λe=>by have h:=hc6;rcases h with h | h;exact h e.1;exact h e.2),aA hc7,aA (λe=>by have h:=hc11;rcases h with h | h;exact h e.1;(have:=e.2;omega)),aB ⟨hc21.1.1,by have:=hc21.1.2;omega,hc21.2⟩];rfl);exact tRs O results104 (.cons (zc (za O) (w6 hak)) .nil) O HSub.none ⟨O,O⟩
 simp only[bX,bJ] at hc21;refine gQ 6 [0] O O ?_;refine tAnd 3 4 (c:=decide (((kids.length:Nat):Int)=(1:Int))) O O O O O O (λhb22 nx23=>?_) ?_
 · have hf24:=aF hb22;refine gQ 2 [0] O O (tG O (zH (n:=kids.length) O bM (by simp only[lm,lc,ln])) (g' 1 O ?_));exact nx23 _ O O (kx 4 O O)
 refine g' 3 O ?_;refine tC O (λhc25=>?_) (λhc25=>?_)
 · simp only[bX,bJ] at hc25;refine g' 2 O (tP O (zm [] [] (zv:=(.agg #[])) O O (.nil) (runUnderlying197) zeroValue197 aU1 trivial O) (g' 7 O ?_));have hak:(D.ifc 197 (.agg []):D)=(zb5 op text n mode kids.length).d:=(by unfold zb5;rw[aA hc2,aA (λe=>by have h:=hc6;rcases h with h | h;exact h e.1;exact h e.2),aA hc7,aA (λe=>by have h:=hc11;rcases h with h | h;exact h e.1;(have:=e.2;omega)),aA (λe=>by have h:=hc21;rcases h with (h | h) | h;exact h e.1;(have:=e.2.1;omega);(rw[e.2.2] at h;cases h)),aB ⟨hc25.1,by have:=hc25.2;omega⟩];rfl);exact tRs O results104 (.cons (zc (za O) (w6 hak)) .nil) O HSub.none ⟨O,O⟩
 simp only[bX,bJ] at hc25;refine gQ 6 [0] O O ?_;refine tAnd 3 4 (c:=decide (((kids.length:Nat):Int)=(2:Int))) O O O O O O (λhb26 nx27=>?_) ?_
 · have hf28:=aF hb26;refine gQ 2 [0] O O (tG O (zH (n:=kids.length) O bM (by simp only[lm,lc,ln])) (g' 1 O ?_));exact nx27 _ O O (kx 4 O O)
 refine g' 3 O ?_;refine tC O (λhc29=>?_) (λhc29=>?_)
 · simp only[bX,bJ] at hc29;refine gQ 4 [0] O O (tP O (zm [0] [.tmp 77] (zv:=cH) O O (.cons (CellD.v O) .nil) (runUnderlying194) zeroValue194 aV7 ⟨O,trivial⟩ O) (g' 7 O ?_));have hak:(D.ifc 194 (.agg [dI mode]):D)=(zb5 op text n mode kids.length).d:=(by unfold zb5;rw[aA hc2,aA (λe=>by have h:=hc6;rcases h with h | h;exact h e.1;exact h e.2),aA hc7,aA (λe=>by have h:=hc11;rcases h with h | h;exact h e.1;(have:=e.2;omega)),aA (λe=>by have h:=hc21;rcases h with (h | h) | h;exact h e.1;(have:=e.2.1;omega);(rw[e.2.2] at h;cases h)),aA (λe=>by have h:=hc25;rcases h with h | h;exact h e.1;(have:=e.2;omega)),aB ⟨hc29.1,by have:=hc29.2;omega⟩];rfl);exact tRs O results104 (.cons (zc (za O) (w6 hak)) .nil) O HSub.none ⟨O,O⟩
 simp only[bX,bJ] at hc29;refine g' 9 O ?_;have hak:(D.v .nilIface:D)=(zb5 op text n mode kids.length).d:=by unfold zb5;rw[aA hc2,aA (λe=>by have h:=hc6;rcases h with h | h;exact h e.1;exact h e.2),aA hc7,aA (λe=>by have h:=hc11;rcases h with h | h;exact h e.1;(have:=e.2;omega)),aA (λe=>by have h:=hc21;rcases h with (h | h) | h;exact h e.1;(have:=e.2.1;omega);(rw[e.2.2] at h;cases h)),aA (λe=>by have h:=hc25;rcases h with h | h;exact h e.1;(have:=e.2;omega)),aA (λe=>by have h:=hc29;rcases h with h | h;exact h e.1;(have:=e.2;omega))];rfl
 exact tRs O results104 (.cons (zc (za O) (w6 hak)) .nil) O HSub.none ⟨O,O⟩
def aLc (m a b:Int) :
 CD prog 147 [] [.agg [dI m],dI a,dI b] (isR (dI (zgl m a b))):=by
 refine tZ func147 O O (λC=>?_);refine T.bd 0 O (λbd0=>?_);refine g' 2 O ?_;refine tA O (λg1=>?_);refine g' 10 O ?_;refine tOr 2 2 (c:=decide (b=(3:Int))) O O O O O O (λhb2 nx3=>?_) ?_
 · have hf4:=aC hb2;refine g' 2 O ?_;exact nx3 _ O O (kx 2 O O)
 refine g' 3 O ?_;refine tC O (λhc5=>?_) (λhc5=>?_)
 · simp only[bX,bJ] at hc5;refine g' 8 O ?_;exact tRs O results147 (.cons (zc (za O) (w6 (aG (λn=>D.v (.int .i64 n)) (by unfold zgl;rw[aB hc5])))) .nil) O HSub.none ⟨O,O⟩
 simp only[bX,bJ] at hc5;refine g' 5 O ?_;refine tAnd 2 2 (c:=decide (b=(2:Int))) O O O O O O (λhb6 nx7=>?_) ?_
 · have hf8:=aF hb6;refine g' 2 O ?_;exact nx7 _ O O (kx 2 O O)
 refine g' 3 O ?_;refine tC O (λhc9=>?_) (λhc9=>?_)
 · simp only[bX,bJ] at hc9;refine g' 8 O ?_;exact tRs rfl results147 (.cons (zc (za rfl) (w6 (aG (λn=>D.v (.int .i64 n)) (by unfold zgl;rw[aA (λe=>by have h:=hc5;rcases e with e | e;exact h.1 e;exact h.2 e),aB hc9])))) .nil) rfl HSub.none ⟨rfl,rfl⟩
 simp only[bX,bJ] at hc9;refine gQ 8 [0] O O ?_;refine tD O (λhc10=>?_) (λhc10=>?_)
 · refine g' 8 O ?_;exact tRs rfl results147 (.cons (zc (za rfl) (w6 (aG (λn=>D.v (.int .i64 n)) (by unfold zgl;rw[aA (λe=>by have h:=hc5;rcases e with e | e;exact h.1 e;exact h.2 e),aA (λe=>by have h:=hc9;rcases h with h | h;exact h e.1;exact h e.2),aB hc10])))) .nil) rfl HSub.none ⟨rfl,rfl⟩
 refine g' 7 O (tP O (zfe O O O) (g' 4 O ?_));exact tRs rfl results147 (.cons (zc (za rfl) (w6 (aG (λn=>D.v (.int .i64 n)) (by unfold zgl;rw[aA (λe=>by have h:=hc5;rcases e with e | e;exact h.1 e;exact h.2 e),aA (λe=>by have h:=hc9;rcases h with h | h;exact h e.1;exact h e.2),aA (by simpa using hc10)])))) .nil) rfl HSub.none ⟨rfl,rfl⟩
def aNq (k:Int) (l:List Int) :
 CD prog 103 [] [.ifc 188 (.agg [dI k]),.sh 1 (l.map dI)] (isR (dI (Ask.kind (.leaf k) l))):=by
 refine tZ func103 O O (λC=>?_);refine T.bd 1 O (λbd1=>?_);have nl1:=zy bd1;refine g' 9 O (tP O (zbt O (λ_ _=>by kernel_rfl)) (g' 3 O ?_));refine tA O (λg1=>?_);refine gQ 19 [0,0] O O ?_;exact tRs O results103 (.cons (zc (za O) (w6 (aG (λn=>D.v (.int .i64 n)) (by rfl)))) .nil) O HSub.none ⟨O,O⟩
def aGf (a b:Int) (l:List Int) (hl:l.length=1):
 CD prog 103 [] [.ifc 191 (.agg [dI a,dI b]),.sh 1 (l.map dI)] (isR (dI (Ask.kind (.whole a b) l))):=by
 refine tZ func103 O O (λC=>?_);refine T.bd 1 O (λbd1=>?_);have nl1:=zy bd1;refine g' 9 O (tP O ((zb1 (zv:=cH) O (λ_ _=>by kernel_rfl)).cv (Cv.tup (.cons (w7 (by decide)) (gc .nil)))) (g' 3 O ?_));refine tA O (λg1=>?_);refine gQ 16 [0] O O (tP O (zbt O (λ_ _=>by kernel_rfl)) (g' 3 O ?_));refine tA O (λg2=>?_);refine gQ 12 [0] O O (T.keep [0,1,4,5,6,7,8,13,14,15,16,17,18,21,22,23,24,25,26] O ?_);obtain ⟨x1,hx1⟩:=zi l 0 (by omega);refine tDr 5 [(27,.sh 1 (l.map dI),none),(28,.el (dI x1) 0,none),(29,dI x1,none),(30,dP g2 0,none),(31,dI a,none)] [.bx g2 191 (.agg [dI a,dI b]),.bx g1 188 (.agg [dI 0])] (Hn:=[.bx g2 191 (.agg [dI a,dI b]),.bx g1 188 (.agg [dI 0])]) mixed O O O O w8 O ⟨sa_p O O O (zb O),sa_p O O O (zf (k:=0) O O aT bY (by first | rfl | omega) (zd hx1)),sa_p O O O (zJ O bU O),sa_p O O O (zk O aL7 O),sa_p O O O (zl O (i:=0) O bU O),trivial⟩ (tK O (g' 3 O ?_));refine tD O (λhc3=>?_) (λhc3=>?_)
 · refine g' 8 O ?_;exact tRs O results103 (.cons (zc (za O) (w6 (aG (λn=>D.v (.int .i64 n)) (by show _=(if l.headD 0=a then b else 0);rw[hd_0 hx1];first | rw[aA (by simpa using hc3)] | rw[aB (by simpa using hc3)])))) .nil) O HSub.none ⟨O,O⟩
 refine gQ 11 [0] O O ?_;exact tRs O results103 (.cons (zc (za O) (w6 (aG (λn=>D.v (.int .i64 n)) (by show _=(if l.headD 0=a then b else 0);rw[hd_0 hx1];first | rw[aA (by simpa using hc3)] | rw[aB (by simpa using hc3)])))) .nil) O HSub.none ⟨O,O⟩
def aE6  (l:List Int) (hl:l.length=1):
 CD prog 103 [] [.ifc 197 (.agg []),.sh 1 (l.map dI)] (isR (dI (Ask.kind (.plain) l))):=by
 refine tZ func103 O O (λC=>?_);refine T.bd 1 O (λbd1=>?_);have nl1:=zy bd1;obtain ⟨x1,hx1⟩:=zi l 0 (by omega);refine g' 9 O (tP O ((zb1 (zv:=cH) O (λ_ _=>by kernel_rfl)).cv (Cv.tup (.cons (w7 (by decide)) (gc .nil)))) (g' 3 O ?_));refine tA O (λg1=>?_);refine gQ 16 [0] O O (tP O ((zb1 (zv:=cF) O (λ_ _=>by kernel_rfl)).cv (Cv.tup (.cons (w7 (by decide)) (gc .nil)))) (g' 3 O ?_));refine tA O (λg2=>?_);refine gQ 16 [0] O O (tP O ((zb1 (zv:=cH) O (λ_ _=>by kernel_rfl)).cv (Cv.tup (.cons (w7 (by decide)) (gc .nil)))) (g' 3 O ?_));refine tA O (λg3=>?_);refine gQ 16 [0] O O (tP O (zbt O (λ_ _=>by kernel_rfl)) (g' 3 O ?_));refine tA O (λg4=>?_);refine gQ 9 [0] O O (tG O (zf (k:=0) O O aT bY (by first | rfl | omega) (zd hx1)) (g' 5 O ?_));refine tD O (λhc5=>?_) (λhc5=>?_)
 · refine g' 3 O (tP O (zf (k:=0) O O aT bY (by first | rfl | omega) (zd hx1)) (g' 6 O ?_));exact tRs O results103 (.cons (zc (za O) (w6 (aG (λn=>D.v (.int .i64 n)) (by show _=(if l.headD 0=3 then 0 else l.headD 0);first | (rw[hd_0 hx1];first | rw[aA (by simpa using hc5)] | rw[aB (by simpa using hc5)]))))) .nil) O HSub.none ⟨O,O⟩
 refine g' 8 O ?_;exact tRs O results103 (.cons (zc (za O) (w6 (aG (λn=>D.v (.int .i64 n)) (by show _=(if l.headD 0=3 then 0 else l.headD 0);first | (rw[hd_0 hx1];first | rw[aA (by simpa using hc5)] | rw[aB (by simpa using hc5)]))))) .nil) O HSub.none ⟨O,O⟩
def aMw (m:Int) (l:List Int) (hl:l.length=2):
 CD prog 103 [] [.ifc 194 (.agg [dI m]),.sh 1 (l.map dI)] (isR (dI (Ask.kind (.pair m) l))):=by
 refine tZ func103 O O (λC=>?_);refine T.bd 1 O (λbd1=>?_);have nl1:=zy bd1;refine g' 9 O (tP O ((zb1 (zv:=cH) O (λ_ _=>by kernel_rfl)).cv (Cv.tup (.cons (w7 (by decide)) (gc .nil)))) (g' 3 O ?_));refine tA O (λg1=>?_);refine gQ 16 [0] O O (tP O ((zb1 (zv:=cF) O (λ_ _=>by kernel_rfl)).cv (Cv.tup (.cons (w7 (by decide)) (gc .nil)))) (g' 3 O ?_));refine tA O (λg2=>?_);refine gQ 16 [0] O O (tP O (zbt O (λ_ _=>by kernel_rfl)) (g' 3 O ?_));refine tA O (λg3=>?_);refine gQ 11 [0] O O (T.keep [0,1,4,5,6,7,8,9,10,13,14,15,16,17,18,21,22,23,24,25,26,35,36,37,38,39,40] O ?_);obtain ⟨x1,hx1⟩:=zi l 0 (by omega);obtain ⟨x2,hx2⟩:=zi l 1 (by omega);refine tDr 7 [(41,.agg [dI m],none),(42,.sh 1 (l.map dI),none),(43,.el (dI x1) 0,none),(44,dI x1,none),(45,.sh 1 (l.map dI),none),(46,.el (dI x2) 0,none),(47,dI x2,none)] [.bx g3 194 (.agg [dI m]),.bx g2 191 (.agg [dI 0,dI 0]),.bx g1 188 (.agg [dI 0])] (Hn:=[.bx g3 194 (.agg [dI m]),.bx g2 191 (.agg [dI 0,dI 0]),.bx g1 188 (.agg [dI 0])]) mixed O O O O w8 O ⟨sa_p O O O (zbg (d:=.agg [dI m]) O (i:=0) O isAgg194 sizeOf194 O O),sa_p O O O (zb O),sa_p O O O (zf (k:=0) O O aT bY (by first | rfl | omega) (zd hx1)),sa_p O O O (zJ O bU O),sa_p O O O (zb O),sa_p O O O (zf (k:=1) O O aT bY (by first | rfl | omega) (zd hx2)),sa_p O O O (zJ O bU O),trivial⟩ (tK O (tW O acs (aLc m x1 x2) (g' 5 O ?_)));exact tRs O results103 (.cons (zc (za O) (w6 (aG (λn=>D.v (.int .i64 n)) (by show _=zgl m (l.headD 0) (l.tail.headD 0);rw[hd_0 hx1,hd_1 hx2])))) .nil) O HSub.none ⟨O,O⟩
def aN6  (l:List Int) :
 CD prog 103 [] [.v .nilIface,.sh 1 (l.map dI)] (isR (dI (Ask.kind (.none) l))):=by
 refine tZ func103 O O (λC=>?_);refine T.bd 1 O (λbd1=>?_);have nl1:=zy bd1;refine g' 9 O (tP O ((fJ (zv:=cH) O (λ_=>by kernel_rfl)).cv (Cv.tup (.cons (w7 (by decide)) (gc .nil)))) (g' 3 O ?_));refine tA O (λg1=>?_);refine gQ 16 [0] O O (tP O ((fJ (zv:=cF) O (λ_=>by kernel_rfl)).cv (Cv.tup (.cons (w7 (by decide)) (gc .nil)))) (g' 3 O ?_));refine tA O (λg2=>?_);refine gQ 16 [0] O O (tP O ((fJ (zv:=cH) O (λ_=>by kernel_rfl)).cv (Cv.tup (.cons (w7 (by decide)) (gc .nil)))) (g' 3 O ?_));refine tA O (λg3=>?_);refine gQ 16 [0] O O (tP O ((fJ (zv:=(.agg #[])) O (λ_=>by kernel_rfl)).cv (Cv.tup (.cons (w7 (by decide)) (gc .nil)))) (g' 3 O ?_));refine tA O (λg4=>?_);refine gQ 24 [0] O O ?_;exact tRs O results103 (.cons (zc (za O) (w6 (aG (λn=>D.v (.int .i64 n)) (by rfl)))) .nil) O HSub.none ⟨O,O⟩
def aZ5 (a:Ask) (l:List Int) (h:a.fits l.length):CD prog 103 [] [a.d,.sh 1 (l.map dI)] (isR (dI (a.kind l))):=by
 cases a with
 | leaf k=>exact aNq k l
 | whole a b=>exact aGf a b l h
 | plain=>exact aE6 l h
 | pair m=>exact aMw m l h
 | none=>exact aN6 l
def aWk (op text:Ba) (n mode:Int) (names:List Ba) (ms:List MatD) (kids:List Nd) (ih:∀ x∈kids,CD prog 61 [] [Nd.d x] (isR (.tup [dI x.kind,dI x.kindE]))) (hc:Nd.cntL kids<=100000):
 CD prog 102 [] [.agg [.s op,.s text,dI n,dI mode,.sh 1 (names.map D.s),.sh 3 (ms.map MatD.d),.sh 7 (kids.map Nd.d)]] (λr H'=>∃ v0_,r=.tup [.ov v0_,dI (zet kids)]/\H'=[.sl v0_ 1 3 ((zdc kids).map dI)]):=by
 refine tZ func102 O O (λC=>?_);refine T.bd 0 O (λbd0=>?_);have hkl:=qK kids;refine g' 2 O ?_;refine tA O (λg1=>?_);refine gQ 14 [0] O O (tP O (zH (n:=kids.length) O bM (by simp only[lm,lc,ln])) (g' 4 O (tl3 (λ(a_:Nat) (b_:Value) (c_:List Int)=>[(10,.sh 7 (kids.map Nd.d)),(11,dN kids.length),(12,dN a_),(4,.ov b_)]) (λa_ b_ c_=>[.sl b_ 1 3 (c_.map dI),.bx g1 57 (.agg [.s op,.s text,dI n,dI mode,.sh 1 (names.map D.s),.sh 3 (ms.map MatD.d),.sh 7 (kids.map Nd.d)])]) (λa_ b_ c_=>(a_<=kids.length)/\(Nd.kinds (kids.take a_)=some c_)/\(c_.length<=a_)) (λa_ b_ c_=>kids.length-a_) 0 (.slice none 0 0) [] O ⟨sk O,sk O,sk O,sc O (Cv.ov O),trivial⟩ (HSub.nil 1 3) ⟨cT _,O,cW _⟩ ?_)));rintro k ov o ⟨hk,hks,hol⟩;refine g' 6 O ?_;refine tD O (λhc2=>?_) (λhc2=>?_)
 · refine g' 6 O ?_;obtain ⟨x1,hx1⟩:=zi kids k (by omega);obtain ⟨yax1,ybx1,ycx1,ydx1,yex1,yfx1,ygx1⟩:=x1;have hmcx1:=yI (dA hx1);refine tP O (zf (k:=k) O O bM aY (by first | rfl | omega) (zd hx1)) (g' 1 O ?_);refine tA O (λg3=>?_);refine gQ 6 [0,0] O O (tW O acs (ih (Nd.mk yax1 ybx1 ycx1 ydx1 yex1 yfx1 ygx1) (dA hx1)) (g' 14 O ?_));refine tD O (λhc4=>?_) (λhc4=>?_)
   · have hkb:(Nd.mk yax1 ybx1 ycx1 ydx1 yex1 yfx1 ygx1).kind=0:=(by have h:=hc4;unfold Nd.kindE at h;split at h;assumption;exact aH rfl h);obtain ⟨hr1,hr2⟩:=aM6 (aHd hx1 hks hkb);have hr3:(Nd.mk yax1 ybx1 ycx1 ydx1 yex1 yfx1 ygx1).kindE=zet kids:=(by rw[<-hr2];unfold Nd.kindE;rw[aB hkb]);refine g' 14 O (mW (HSub.nil 1 3) (mW (mB (h':=.sl (.slice none 0 0) 1 3 ((zdc kids).map dI)) O (mD (aG (List.map dI) (show []=zdc kids by first | exact hr1 | exact hr3 | exact hr2)))) ?_));exact tRs O results102 (.cons (zc (za O) (Cv.ov O)) (.cons (zc (za O) (w6 (aG (λn=>D.v (.int .i64 n)) (by first | exact hr1 | exact hr3 | exact hr2)))) .nil)) O (mO 1 O) ⟨(.slice none 0 0),O,O⟩
   have hkg:¬(Nd.mk yax1 ybx1 ycx1 ydx1 yex1 yfx1 ygx1).kind=0:=(by have h:(Nd.mk yax1 ybx1 ycx1 ydx1 yex1 yfx1 ygx1).kindE=0:=(by simpa using hc4);intro e;unfold Nd.kindE at h;rw[aB e] at h;cases h);refine g' 5 O (tE O (zw [.tmp 25] O O (.cons (CellD.v O) .nil) O aT bY eH O O O O) ?_);rintro _ _ ⟨g5,rfl,rfl⟩;refine tE O (zG (f:=dI) (l:=o) (l':=[(Nd.mk yax1 ybx1 ycx1 ydx1 yex1 yfx1 ygx1).kind]) (i:=2) O O O (mF (j:=0) O O) aHu aOu O O (by unfold maxLen;(try simp only[la,lc,ln,lm,lt',ld,ls,lr]);omega) (by (try simp only[la,lc,ln,lm,lt',ld,ls,lr]);omega)) ?_;rintro _ _ ⟨v6,rfl,rfl⟩;refine g' 5 O (tP O (zq (c:=((k+1:Nat):Int)) O O (zh (by omega) (by omega))) (g' 2 O (mY 3 O (mY 3 O (mW (mO 2 O) ?_)))));exact tp3 (k+1) v6 (o++[(Nd.mk yax1 ybx1 ycx1 ydx1 yex1 yfx1 ygx1).kind]) (sa O) w8 ⟨by show k+1<=kids.length;omega,aK0 hx1 hks hkg,by simp only[la,jN];omega⟩ (by omega)
 obtain ⟨hr1,hr2⟩:=aIt (by rw[<-hks,c6 (by omega)]:Nd.kinds kids=some o);have hr3:=hr2;refine g' 13 O (mW (mB (h':=.sl ov 1 3 ((zdc kids).map dI)) O (mD (aG (List.map dI) (show o=zdc kids by first | exact hr1 | exact hr3 | exact hr2)))) ?_);exact tRs O results102 (.cons (za O) (.cons (zc (za O) (w6 (aG (λn=>D.v (.int .i64 n)) (by first | exact hr1 | exact hr3 | exact hr2)))) .nil)) O (mO 1 O) ⟨ov,O,O⟩
def of_s (op text:Ba) (n mode:Int) (names:List Ba) (ms:List MatD) (kids:List Nd) (ih:∀ x∈kids,CD prog 61 [] [Nd.d x] (isR (.tup [dI x.kind,dI x.kindE]))) (hc:Nd.cntL kids<=100000):
 CD prog 61 [] [.agg [.s op,.s text,dI n,dI mode,.sh 1 (names.map D.s),.sh 3 (ms.map MatD.d),.sh 7 (kids.map Nd.d)]] (isR (.tup [dI ((Nd.mk op text n mode names ms kids).kind),dI ((Nd.mk op text n mode names ms kids).kindE)])):=by
 refine tZ func61 O O (λC=>?_);refine T.bd 0 O (λbd0=>?_);refine g' 2 O ?_;refine tA O (λg1=>?_);refine gQ 7 [0] O O (tX [] O O acs (aWk op text n mode names ms kids ih (by omega)) ?_);rintro _ _ ⟨kv2,rfl,rfl⟩;have hkc:=aUi kids;refine g' 14 O ?_;refine tD O (λhc3=>?_) (λhc3=>?_)
 · have hkn:=(hkc.resolve_left (λe=>hc3 e.1));have hq0:(Nd.mk op text n mode names ms kids).kind=0:=aRe hkn.2;refine g' 9 O ?_;exact tRs O results61 (.cons (zc (za O) (w6 (aG (λn=>D.v (.int .i64 n)) (by first | exact hq0.symm | (unfold Nd.kindE;rw[aB hq0];try exact hkn.1))))) (.cons (zc (za O) (w6 (aG (λn=>D.v (.int .i64 n)) (by first | exact hq0.symm | (unfold Nd.kindE;rw[aB hq0];try exact hkn.1))))) .nil)) O HSub.none ⟨O,O⟩
 have hky:=(hkc.resolve_right (λe=>by have h:zet kids=0:=(by simpa using hc3);rw[e.1] at h;cases h));have hkk:=aN0 (op:=op) (text:=text) (n:=n) (mode:=mode) (names:=names) (ms:=ms) hky.2;have hfit:(zb5 op text n mode kids.length).fits (zdc kids).length:=by rw[lC hky.2];exact aKz op text n mode kids.length
 refine gQ 5 [1] O O (tW O acs (aW2 op text n mode names ms kids) (g' 1 O (tV [0] O O (ga (.cons (mK (j:=0) O O) .nil)) (aZ5 _ (zdc kids) hfit) O (g' 10 O ?_))));refine tD O (λhc4=>?_) (λhc4=>?_)
 · have hq0:(Nd.mk op text n mode names ms kids).kind=0:=hkk.trans hc4;refine g' 8 O ?_;exact tRs O results61 (.cons (zc (za O) (w6 (aG (λn=>D.v (.int .i64 n)) (by first | exact hq0.symm | (unfold Nd.kindE;rw[aB hq0];try exact hkn.1))))) (.cons (zc (za O) (w6 (aG (λn=>D.v (.int .i64 n)) (by first | exact hq0.symm | (unfold Nd.kindE;rw[aB hq0];try exact hkn.1))))) .nil)) O HSub.none ⟨O,O⟩
 refine g' 10 O ?_;exact tRs O results61 (.cons (zc (za O) (w6 (aG (λn=>D.v (.int .i64 n)) (by first | exact hkk.symm | (unfold Nd.kindE;rw[aA (λe=>hc4 (hkk.symm.trans e))]))))) (.cons (zc (za O) (w6 (aG (λn=>D.v (.int .i64 n)) (by first | exact hkk.symm | (unfold Nd.kindE;rw[aA (λe=>hc4 (hkk.symm.trans e))]))))) .nil)) O HSub.none ⟨O,O⟩
def of_c:∀ q:Nd,q.cnt<=100000->CD prog 61 [] [Nd.d q] (isR (.tup [dI q.kind,dI q.kindE])):=Nd.ind (λop text n mode names ms kids ih hc=>by
 simp only[Nd.cnt] at hc;rw[Nd.d_mk];exact of_s op text n mode names ms kids (λx hx=>ih x hx (by have:=yI hx;omega)) (by omega))
def qM (op text:Ba) (n mode:Int) (names:List Ba) (ms:List MatD) (kids:List Nd) (o a b:Int) (hc:Nd.cntL kids<=10000):
 CD prog 36 [] [.agg [.s op,.s text,dI n,dI mode,.sh 1 (names.map D.s),.sh 3 (ms.map MatD.d),.sh 7 (Nd.ds kids),dI o,dI a,dI b]] (isR (dI ((Nd.mk op text n mode names ms kids).checkE))):=by
 refine tZ func36 O O (λC=>?_);refine T.bd 0 O (λbd0=>?_);refine g' 2 O ?_;refine tA O (λg1=>?_);refine gQ 7 [0] O O (tW O acs (of_c (Nd.mk op text n mode names ms kids) (by simp only[Nd.cnt];omega)) (g' 13 O ?_));refine tAnd 2 2 (c:=decide ((Nd.mk op text n mode names ms kids).kind=(3:Int))) O O O O O O (λhb2 nx3=>?_) ?_
 · have hf4:=aF hb2;refine g' 2 O ?_;exact nx3 _ O O (kx 2 O O)
 refine g' 2 O ?_;refine tC O (λhc5=>?_) (λhc5=>?_)
 · simp only[bX,bJ] at hc5;refine g' 7 O ?_;exact tRs O results36 (.cons (zc (za O) (w6 (aG (λn=>D.v (.int .i64 n)) (by unfold Nd.checkE;unfold Nd.kindE at*;have h:=hc5;split<;>simp_all)))) .nil) O HSub.none ⟨O,O⟩
 simp only[bX,bJ] at hc5;refine g' 9 O ?_;exact tRs O results36 (.cons (zc (za O) (w6 (aG (λn=>D.v (.int .i64 n)) (by unfold Nd.checkE;unfold Nd.kindE at*;have h:=hc5;split<;>simp_all)))) .nil) O HSub.none ⟨O,O⟩
def zbG:FaP prog 48 0 0:=λ_ _ _=>by kernel_rfl
def zcS:FaP prog 48 1 1:=λ_ _ _=>by kernel_rfl
def pY (a b:Ba) (w:World):(callFunc 231 #[.string a,.string b]).run prog w=.ok (.value (.int .i64 (cmpS a b))) w:=by
 rw[run_callFunc_extern func231 (by kernel_rfl) (by kernel_rfl) (by kernel_rfl) (e:=Extern.BytealgCompare.compare) (by kernel_rfl),Lib.run_compareString];rfl
def yE {ty:TypeId} {K:Kd} {H:List Hp} {x y:Operand} {ats:Array TypeId} {a b:Ba} (hx:opS K x=some a) (hy:opS K y=some b):Pu prog (.call { callee:=.value (.func 231),args:=#[x,y],argTypes:=ats }) ty K H (dI (cmpS a b)):=
 ⟨λρ w F hk _ _=>aY2 (vs:=[.string a,.string b]) (zo ρ [x,y]) (by rw[show (#[x,y]:Array Operand).toList=[x,y] from rfl,zeC ρ [x,y] [x,y] (λ_ h=>h)];simp[hk.opS hx,hk.opS hy]) (pY a b) ⟨rfl,rfl⟩⟩
def kL (a:Ba) (b:Ba) :
 CD prog 172 [] [.s a,.s b] (isR (dI (cmpS a b))):=by
 refine tZ func172 O O (λC=>?_);refine T.bd 0 O (λbd0=>?_);have sz0:a.size<=9223372036854775807:=bd0;refine T.bd 1 O (λbd1=>?_);have sz1:b.size<=9223372036854775807:=bd1;refine g' 9 O (tP O (yE O O) (g' 4 O ?_));exact tRs O results172 (.cons (zc (za O) (w6 (aG (λn=>D.v (.int .i64 n)) (by rfl)))) .nil) O HSub.none ⟨O,O⟩
def rG (a:Ba) (b:Ba) :
 CD prog 133 [] [.s a,.s b] (isR (dI (cmpS a b))):=by
 refine tZ func133 O O (λC=>?_);refine T.bd 0 O (λbd0=>?_);have sz0:a.size<=9223372036854775807:=bd0;refine T.bd 1 O (λbd1=>?_);have sz1:b.size<=9223372036854775807:=bd1;refine g' 9 O (tW O acs (kL a b) (g' 4 O ?_));exact tR O HSub.none ⟨O,O⟩
def aJa (x:Int) :
 CD prog 162 [] [dI x] (isR (dB false)):=by
 refine tZ func162 O O (λC=>?_);refine g' 9 O (tP O (zee O O (aD (λh=>h O))) (g' 4 O ?_));exact tR O HSub.none ⟨O,O⟩
def aOi (x:Int) (y:Int) :
 CD prog 113 [] [dI x,dI y] (isR (dI (cmpI x y))):=by
 refine tZ func113 O O (λC=>?_);refine g' 8 O (tW O acs (aJa x) (g' 6 O (tW O acs (aJa y) (g' 29 O ?_))));refine tD O (λhc1=>?_) (λhc1=>?_)
 · refine g' 7 O ?_;exact tRs O results113 (.cons (zc (za O) (w6 (aG (λn=>D.v (.int .i64 n)) (by unfold cmpI;simp[*])))) .nil) O HSub.none ⟨O,O⟩
 refine g' 10 O ?_;refine tD O (λhc2=>?_) (λhc2=>?_)
 · refine g' 7 O ?_;exact tRs O results113 (.cons (zc (za O) (w6 (aG (λn=>D.v (.int .i64 n)) (by unfold cmpI;simp[*])))) .nil) O HSub.none ⟨O,O⟩
 refine g' 8 O ?_;exact tRs O results113 (.cons (zc (za O) (w6 (aG (λn=>D.v (.int .i64 n)) (by unfold cmpI;simp[*])))) .nil) O HSub.none ⟨O,O⟩
def Or_c (ns:List Int) :
 CD prog 112 [] [.sh 1 (ns.map dI)] (isR (dI (zbq ns))):=by
 refine tZ func112 O O (λC=>?_);refine T.bd 0 O (λbd0=>?_);have nl0:=zy bd0;refine g' 14 O (tP O (zH (n:=ns.length) O aT (by simp only[lm,lc,ln])) (g' 4 O (tl1 (λ(a_:Nat)=>[(3,dI 0),(6,.sh 1 (ns.map dI)),(7,dN ns.length),(8,dN a_)]) (λa_=>[]) (λa_=>(a_<=ns.length)/\(zbq ns=zbq (ns.drop a_))) (λa_=>ns.length-a_) 0 O (sa O) w8 ⟨cT _,by simp⟩ ?_)));rintro k ⟨hk,hf⟩;refine g' 6 O ?_;refine tD O (λhc1=>?_) (λhc1=>?_)
 · refine g' 6 O ?_;obtain ⟨x1,hx1⟩:=zi ns k (by omega);refine tP O (zf (k:=k) O O aT bY (by first | rfl | omega) (zd hx1)) (g' 11 O ?_);refine tD O (λhc2=>?_) (λhc2=>?_)
   · refine g' 12 O ?_;exact tRs O results112 (.cons (zc (za O) (w6 (aG (λn=>D.v (.int .i64 n)) (by exact(aD6 hx1 hf (by assumption)).symm)))) .nil) O HSub.none ⟨O,O⟩
   refine g' 4 O (tP O (zq (c:=((k+1:Nat):Int)) O O (zh (by omega) (by omega))) (g' 2 O ?_));exact tp1 (k+1) (sa O) w8 ⟨by omega,sC hx1 hf (by omega)⟩ (by omega)
 refine g' 12 O ?_;exact tRs O results112 (.cons (zc (za O) (w6 (aG (λn=>D.v (.int .i64 n)) (by rw[hf,dX (by omega)];rfl)))) .nil) O HSub.none ⟨O,O⟩
def aFf (a:Lbl) (b:Lbl) :
 CD prog 86 [] [Lbl.d a,Lbl.d b] (isR (dI (zx a b))):=by
 refine tZ func86 O O (λC=>?_);refine T.bd 0 O (λbd0=>?_);refine T.bd 1 O (λbd1=>?_);refine g' 2 O ?_;refine tA O (λg1=>?_);refine tA O (λg2=>?_);refine g' 4 O (T.keep [0,1,2,3,4] O (tDr 9 [(5,dP g1 0,none),(6,.s a.n,none),(7,dP g2 0,none),(8,.s b.n,none),(9,dI (cmpS a.n b.n),none),(10,dP g1 1,none),(11,.s a.v,none),(12,dP g2 1,none),(13,.s b.v,none)] [.bx g2 48 (Lbl.d b),.bx g1 48 (Lbl.d a)] (Hn:=[.bx g2 48 (Lbl.d b),.bx g1 48 (Lbl.d a)]) mixed O O O O w8 O ⟨sa_p O O O (zk O zbG O),sa_p O O O (zl O (i:=1) O bT O),sa_p O O O (zk O zbG O),sa_p O O O (zl O (i:=0) O bT O),sa_q O O O (zal O (gc (gc .nil)) Tryz.call133 (rG a.n b.n) zaf),sa_p O O O (zk O zcS O),sa_p O O O (zl O (i:=1) O bT O),sa_p O O O (zk O zcS O),sa_p O O O (zl O (i:=0) O bT O),trivial⟩ (tK O (tW O acs (rG a.v b.v) (tE O (zw [.tmp 9,.tmp 14] O O (.cons (CellD.v O) (.cons (CellD.v O) .nil)) O aT bY eH O O O O) ?_)))));rintro _ _ ⟨g3,rfl,rfl⟩;refine tV [0] O O (.cons (mK (j:=0) O O) .nil) (Or_c [cmpS a.n b.n,cmpS a.v b.v]) O (g' 4 O ?_);exact tRs O results86 (.cons (zc (za O) (w6 (aG (λn=>D.v (.int .i64 n)) (by rw[eZ];rfl)))) .nil) O HSub.none ⟨O,O⟩
def pC (a b:List Lbl) :
 CD prog 85 [] [.sh 2 (a.map Lbl.d),.sh 2 (b.map Lbl.d),.fn 86 [] []] (isR (dI (zt a b))):=by
 refine tZ func85 O O (λC=>?_);refine T.bd 0 O (λbd0=>?_);have nl0:=zy bd0;refine T.bd 1 O (λbd1=>?_);have nl1:=zy bd1;refine g' 9 O (tP O (zH (n:=a.length) O aM (by simp only[lm,lc,ln])) (g' 4 O (tl1 (λ(a_:Nat)=>[(0,.sh 2 (a.map Lbl.d)),(1,.sh 2 (b.map Lbl.d)),(2,.fn 86 [] []),(11,.sh 2 (a.map Lbl.d)),(12,dN a.length),(13,dN a_)]) (λa_=>[]) (λa_=>(a_<=a.length)/\(zt a b=zt (a.drop a_) (b.drop a_))) (λa_=>a.length-a_) 0 O (sa O) w8 ⟨cT _,by simp⟩ ?_)));rintro k ⟨hk,hf⟩;refine g' 6 O ?_;refine tD O (λhc1=>?_) (λhc1=>?_)
 · refine g' 7 O ?_;obtain ⟨x1,hx1⟩:=zi a k (by omega);refine tP O (zf (k:=k) O O aM aU (by first | rfl | omega) (zd hx1)) (g' 1 O ?_);refine tA O (λg2=>?_);refine gQ 9 [0] O O (tP O (zH (n:=b.length) O aM (by simp only[lm,lc,ln])) (g' 3 O ?_));refine tD O (λhc3=>?_) (λhc3=>?_)
   · refine g' 12 O ?_;exact tRs O results85 (.cons (zc (za O) (w6 (aG (λn=>D.v (.int .i64 n)) (by exact(yC hx1 (by omega) hf).symm)))) .nil) O HSub.none ⟨O,O⟩
   refine g' 6 O ?_;obtain ⟨x2,hx2⟩:=zi b k (by omega);refine tP O (zf (k:=k) O O aM aU (by first | rfl | omega) (zd hx2)) (g' 1 O ?_);refine tA O (λg4=>?_);refine gQ 8 [0,1,0] O O (tW O acs (aFf x1 x2) (g' 9 O ?_));refine tD O (λhc5=>?_) (λhc5=>?_)
   · refine g' 12 O ?_;exact tRs O results85 (.cons (zc (za O) (w6 (aG (λn=>D.v (.int .i64 n)) (by exact(oZ hx1 hx2 hf (by assumption)).symm)))) .nil) O HSub.none ⟨O,O⟩
   refine g' 4 O (tP O (zq (c:=((k+1:Nat):Int)) O O (zh (by omega) (by omega))) (g' 2 O ?_));exact tp1 (k+1) (sa O) HSub.none ⟨by omega,gP hx1 hx2 hf (by omega)⟩ (by omega)
 refine g' 9 O (tP O (zH (n:=a.length) O aM (by simp only[lm,lc,ln])) (g' 1 O (tP O (zH (n:=b.length) O aM (by simp only[lm,lc,ln])) (g' 3 O ?_))));refine tD O (λhc6=>?_) (λhc6=>?_)
 · refine g' 7 O ?_;exact tRs O results85 (.cons (zc (za O) (w6 (aG (λn=>D.v (.int .i64 n)) (by rw[sK (by omega) hf (by omega)];first | rw[aB (by omega)] | rw[aA (by omega)])))) .nil) O HSub.none ⟨O,O⟩
 refine g' 8 O ?_;exact tRs O results85 (.cons (zc (za O) (w6 (aG (λn=>D.v (.int .i64 n)) (by rw[sK (by omega) hf (by omega)];first | rw[aB (by omega)] | rw[aA (by omega)])))) .nil) O HSub.none ⟨O,O⟩
def zcu (a:List Lbl) (b:List Lbl) :
 CD prog 49 [] [.sh 2 (a.map Lbl.d),.sh 2 (b.map Lbl.d)] (isR (dI (zt a b))):=by
 refine tZ func49 O O (λC=>?_);refine T.bd 0 O (λbd0=>?_);have nl0:=zy bd0;refine T.bd 1 O (λbd1=>?_);have nl1:=zy bd1;refine g' 9 O (tW O acs (pC a b) (g' 4 O ?_));exact tR O HSub.none ⟨O,O⟩
def aIq (a:Ba) (b:Ba) :
 CD prog 89 [] [.s a,.s b] (isR (dI (cmpS a b))):=by
 refine tZ func89 O O (λC=>?_);refine T.bd 0 O (λbd0=>?_);have sz0:a.size<=9223372036854775807:=bd0;refine T.bd 1 O (λbd1=>?_);have sz1:b.size<=9223372036854775807:=bd1;refine g' 11 O (tP O (aU3 O O O) (g' 3 O ?_));refine tD O (λhc1=>?_) (λhc1=>?_)
 · refine g' 8 O ?_;exact tRs rfl results89 (.cons (zc (za rfl) (w6 (aG (λn=>D.v (.int .i64 n)) (by rcases fD a b with h | h | h<;>rw[h]<;>omega)))) .nil) rfl HSub.none ⟨rfl,rfl⟩
 refine g' 4 O (tP O (a0w O O O) (g' 3 O ?_));refine tD O (λhc2=>?_) (λhc2=>?_)
 · refine g' 8 O ?_;exact tRs rfl results89 (.cons (zc (za rfl) (w6 (aG (λn=>D.v (.int .i64 n)) (by rcases fD a b with h | h | h<;>rw[h]<;>omega)))) .nil) rfl HSub.none ⟨rfl,rfl⟩
 refine g' 9 O ?_;exact tRs rfl results89 (.cons (zc (za rfl) (w6 (aG (λn=>D.v (.int .i64 n)) (by rcases fD a b with h | h | h<;>rw[h]<;>omega)))) .nil) rfl HSub.none ⟨rfl,rfl⟩
def aEm (o:Int) (a:RowD) (b:RowD) :
 CD prog 66 [] [dI o,RowD.d a,RowD.d b] (isR (dI (zg o a b))):=by
 refine tZ func66 O O (λC=>?_);refine T.bd 1 O (λbd1=>?_);refine T.bd 2 O (λbd2=>?_);refine g' 2 O ?_;refine tA O (λg1=>?_);refine tA O (λg2=>?_);refine gQ 9 [1,0] O O (tW O acs (zcu a.ls b.ls) (g' 16 O ?_));refine tD O (λhc3=>?_) (λhc3=>?_)
 · refine gQ 6 [1,0] O O (tW O acs (aOi a.v b.v) (g' 1 O (tE O (zw [.tmp 20,.tmp 21] O O (.cons (CellD.v O) (.cons (CellD.v O) .nil)) O aT bY eH O O O O) ?_)));rintro _ _ ⟨g4,rfl,rfl⟩;refine tV [0] O O (.cons (mK (j:=0) O O) .nil) (Or_c [cmpI a.v b.v,zt a.ls b.ls]) O (g' 6 O ?_);exact tRs O results66 (.cons (zc (za O) (w6 (aG (λn=>D.v (.int .i64 n)) (by unfold zg;simp[*,eZ])))) .nil) O HSub.none ⟨O,O⟩
 refine g' 6 O ?_;refine tD O (λhc5=>?_) (λhc5=>?_)
 · refine gQ 6 [0,1] O O (tW O acs (aOi b.v a.v) (g' 1 O (tE O (zw [.tmp 30,.tmp 31] O O (.cons (CellD.v O) (.cons (CellD.v O) .nil)) O aT bY eH O O O O) ?_)));rintro _ _ ⟨g6,rfl,rfl⟩;refine tV [0] O O (.cons (mK (j:=0) O O) .nil) (Or_c [cmpI b.v a.v,zt a.ls b.ls]) O (g' 6 O ?_);exact tRs O results66 (.cons (zc (za O) (w6 (aG (λn=>D.v (.int .i64 n)) (by unfold zg;simp[*,eZ])))) .nil) O HSub.none ⟨O,O⟩
 refine g' 10 O ?_;exact tRs O results66 (.cons (zc (za O) (w6 (aG (λn=>D.v (.int .i64 n)) (by unfold zg;simp[*,eZ])))) .nil) O HSub.none ⟨O,O⟩
def fB (a:List Lbl) (b:List Lbl) :
 CD prog 53 [] [.sh 2 (a.map Lbl.d),.sh 2 (b.map Lbl.d)] (isR (dI (zt a b))):=by
 refine tZ func53 O O (λC=>?_);refine T.bd 0 O (λbd0=>?_);have nl0:=zy bd0;refine T.bd 1 O (λbd1=>?_);have nl1:=zy bd1;refine g' 12 O (tl1 (λ(a_:Nat)=>[(0,.sh 2 (a.map Lbl.d)),(1,.sh 2 (b.map Lbl.d)),(5,dN a_)]) (λa_=>[]) (λa_=>(a_<=a.length)/\(a_<=b.length)/\(zt a b=zt (a.drop a_) (b.drop a_))) (λa_=>a.length-a_) 0 O (sa O) w8 ⟨cT _,cT _,by simp⟩ ?_);rintro k ⟨hk,hk2,hf⟩;refine g' 5 O (tP O (zH (n:=a.length) O aM (by simp only[lm,lc,ln])) (g' 2 O ?_));refine tAnd 4 4 (c:=decide (((k:Nat):Int)<((b.length:Nat):Int))) O O O O O O (λhb1 nx2=>?_) ?_
 · have hf3:=aF hb1;refine g' 2 O (tG O (zH (n:=b.length) O aM (by simp only[lm,lc,ln])) (g' 1 O ?_));exact nx2 _ O O (kx 4 O O)
 refine g' 2 O ?_;refine tC O (λhc4=>?_) (λhc4=>?_)
 · simp only[bX,bJ] at hc4;refine g' 5 O (T.keep [0,1,5,7,8,9,10,11,16] O ?_);obtain ⟨x1,hx1⟩:=zi a k (by omega);obtain ⟨x2,hx2⟩:=zi b k (by omega);refine tDr 10 [(19,.sh 2 (a.map Lbl.d),none),(20,dN k,none),(21,.el (Lbl.d x1) 0,none),(22,.el (Lbl.d x1) 0,none),(23,.s x1.n,none),(24,.sh 2 (b.map Lbl.d),none),(25,dN k,none),(26,.el (Lbl.d x2) 0,none),(27,.el (Lbl.d x2) 0,none),(28,.s x2.n,none)] [] (Hn:=[]) mixed O O O O w8 O ⟨sa_p O O O (zb O),sa_p O O O (zb O),sa_p O O O (zf (k:=k) O O aM aU (by first | rfl | omega) (zd hx1)),sa_p O O O (zz O zbG O),sa_p O O O (zJ O bT O),sa_p O O O (zb O),sa_p O O O (zb O),sa_p O O O (zf (k:=k) O O aM aU (by first | rfl | omega) (zd hx2)),sa_p O O O (zz O zbG O),sa_p O O O (zJ O bT O),trivial⟩ (tK O (tW O acs (aIq x1.n x2.n) (g' 10 O ?_)));refine tD O (λhc5=>?_) (λhc5=>?_)
   · refine T.keep [0,1,5,6,7,8,9,10,11,16,19,20,21,22,23,24,25,26,27,28,29,30,31] O (tDr 10 [(32,.sh 2 (a.map Lbl.d),none),(33,dN k,none),(34,.el (Lbl.d x1) 0,none),(35,.el (Lbl.d x1) 1,none),(36,.s x1.v,none),(37,.sh 2 (b.map Lbl.d),none),(38,dN k,none),(39,.el (Lbl.d x2) 0,none),(40,.el (Lbl.d x2) 1,none),(41,.s x2.v,none)] [] (Hn:=[]) mixed O O O O w8 O ⟨sa_p O O O (zb O),sa_p O O O (zb O),sa_p O O O (zf (k:=k) O O aM aU (by first | rfl | omega) (zd hx1)),sa_p O O O (zz O zcS O),sa_p O O O (zJ O bT O),sa_p O O O (zb O),sa_p O O O (zb O),sa_p O O O (zf (k:=k) O O aM aU (by first | rfl | omega) (zd hx2)),sa_p O O O (zz O zcS O),sa_p O O O (zJ O bT O),trivial⟩ (tK O (tW O acs (aIq x1.v x2.v) (g' 9 O ?_))));refine tD O (λhc6=>?_) (λhc6=>?_)
     · refine g' 12 O ?_;exact tRs O results53 (.cons (zc (za O) (w6 (aG (λn=>D.v (.int .i64 n)) (by rw[oZ hx1 hx2 hf (by unfold zx or2;split<;>omega)];unfold zx or2;first | rw[aB (by omega)] | rw[aA (by omega)])))) .nil) O HSub.none ⟨O,O⟩
     refine g' 5 O (tP O (zq (c:=((k+1:Nat):Int)) O O (zh (by omega) (by omega))) (g' 2 O ?_));exact tp1 (k+1) (sa O) w8 ⟨by omega,by omega,gP hx1 hx2 hf (by unfold zx or2;split<;>omega)⟩ (by omega)
   refine g' 8 O ?_;refine tD O (λhc7=>?_) (λhc7=>?_)
   · refine g' 12 O ?_;exact tRs O results53 (.cons (zc (za O) (w6 (aG (λn=>D.v (.int .i64 n)) (by rw[oZ hx1 hx2 hf (by unfold zx or2;split<;>omega)];unfold zx or2;first | rw[aB (by omega)] | rw[aA (by omega)])))) .nil) O HSub.none ⟨O,O⟩
   refine g' 5 O (tP O (zq (c:=((k+1:Nat):Int)) O O (zh (by omega) (by omega))) (g' 2 O ?_));exact tp1 (k+1) (sa O) w8 ⟨by omega,by omega,gP hx1 hx2 hf (by unfold zx or2;split<;>omega)⟩ (by omega)
 simp only[bX,bJ] at hc4;refine g' 10 O (tP O (zH (n:=a.length) O aM (by simp only[lm,lc,ln])) (g' 1 O (tP O (zH (n:=b.length) O aM (by simp only[lm,lc,ln])) (g' 4 O ?_))));refine tD O (λhc8=>?_) (λhc8=>?_)
 · refine g' 8 O ?_;exact tRs O results53 (.cons (zc (za O) (w6 (aG (λn=>D.v (.int .i64 n)) (by rw[hf];first | rw[kD (by omega) (by omega) (by omega)] | rw[fR (by omega) (by omega)] | rw[fS (by omega) (by omega)])))) .nil) O HSub.none ⟨O,O⟩
 refine g' 3 O (tP O (zH (n:=a.length) O aM (by simp only[lm,lc,ln])) (g' 1 O (tP O (zH (n:=b.length) O aM (by simp only[lm,lc,ln])) (g' 4 O ?_))));refine tD O (λhc9=>?_) (λhc9=>?_)
 · refine g' 8 O ?_;exact tRs O results53 (.cons (zc (za O) (w6 (aG (λn=>D.v (.int .i64 n)) (by rw[hf];first | rw[kD (by omega) (by omega) (by omega)] | rw[fR (by omega) (by omega)] | rw[fS (by omega) (by omega)])))) .nil) O HSub.none ⟨O,O⟩
 refine g' 9 O ?_;exact tRs O results53 (.cons (zc (za O) (w6 (aG (λn=>D.v (.int .i64 n)) (by rw[hf];first | rw[kD (by omega) (by omega) (by omega)] | rw[fR (by omega) (by omega)] | rw[fS (by omega) (by omega)])))) .nil) O HSub.none ⟨O,O⟩
end Lp
