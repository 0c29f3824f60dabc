import Derived.Test.YtpfgeaoijfgglaaGreatDoorPKind
set_option linter.unusedVariables false
namespace Lp
open Go
variable {o:List Int} {names:List ByteArray} {op text:ByteArray} {n mode:Int}
theorem cnt_mem {l:List Nd} {x:Nd} (h:x∈l):x.cnt<=Nd.cntL l:=by
 induction l with
 | nil=>cases h
 | cons y l ih=>
  simp only[Nd.cntL];rcases dF.1 h with e | e
  · rw[e];omega
  have:=ih e;omega
theorem Nd.ind {p:Nd->Prop} (h:∀ op text n mode names ms kids,(∀ x∈kids,p x)->p (.mk op text n mode names ms kids)):∀ q,p q:=by
 have key:∀ (n:Nat) (q:Nd),q.cnt=n->p q:=by
  intro n
  induction n using Nat.strongRecOn with
  | _ n ih=>
   intro q hq;obtain ⟨op,text,n',mode,names,ms,kids⟩:=q;refine h op text n' mode names ms kids (λx hx=>ih x.cnt ?_ x O);have:=cnt_mem hx;simp only[Nd.cnt] at hq;omega
 exact λq=>key q.cnt q O
theorem cntL_len:∀ l:List Nd,l.length<=Nd.cntL l
 | []=>cX _
 | x::r=>by
  have:=cntL_len r;have h:1<=x.cnt:=by cases x;simp[Nd.cnt]
  simp only[Nd.cntL,dE];omega
inductive Ask where
 | leaf (k:Int)
 | whole (a b:Int)
 | plain
 | pair (m:Int)
 | none
def zbg (op text:ByteArray) (n mode:Int) (len:Nat):Ask:=
 if op=tNum then .leaf 1
 else if op=nSel/\0<n then .leaf 3
 else if op=nSel then .leaf 2
 else if op=tFn/\len=1 then .whole 3 2
 else if op=tAgg/\len=1/\zeh text n=true then .whole 2 2
 else if op=tNeg/\len=1 then .plain
 else if op=tBin/\len=2 then .pair mode
 else .none
def Ask.fits:Ask->Nat->Prop
 | .whole _ _,n=>n=1
 | .plain,n=>n=1
 | .pair _,n=>n=2
 | _,_=>True
def Ask.kind:Ask->List Int->Int
 | .leaf k,_=>k
 | .whole a b,ks=>if ks.headD 0=a then b else 0
 | .plain,ks=>if ks.headD 0=3 then 0 else ks.headD 0
 | .pair m,ks=>zeR m (ks.headD 0) (ks.tail.headD 0)
 | .none,_=>0
theorem ask_kind (op text:ByteArray) (n mode:Int) (ks:List Int):kindOf op text n mode ks=(zbg op text n mode ks.length).kind ks:=by
 unfold kindOf zbg;repeat' split
 all_goals first | rfl | (simp only[Ask.kind];rw[if_pos (by assumption)]) | (simp only[Ask.kind];rw[if_neg (by assumption)])
theorem ask_fits (op text:ByteArray) (n mode:Int) (len:Nat):(zbg op text n mode len).fits len:=by
 unfold zbg;repeat' split
 all_goals first | trivial | (rename_i h;exact h.2) | (rename_i h;exact h.2.1)
theorem kinds_len:∀ {l:List Nd} {ks:List Int},Nd.kinds l=some ks->ks.length=l.length
 | [],ks,h=>by simp[Nd.kinds] at h;subst h;rfl
 | x::r,ks,h=>by
  simp only[Nd.kinds] at h;split at h
  · cases h
  cases e:Nd.kinds r with
  | none=>rw[e] at h;cases h
  | some k2=>rw[e] at h;simp at h;subst h;simp[kinds_len e]
theorem kinds_one (x:Nd):Nd.kinds [x]=if x.kind=0 then none else some [x.kind]:=by simp[Nd.kinds]
theorem kinds_go {l:List Nd} {k:Nat} {x:Nd} (hx:l[k]?=some x) (h:Nd.kinds (l.take k)=some o) (hk:¬x.kind=0):Nd.kinds (l.take (k+1))=some (o++[x.kind]):=by
 rw[zT hx,kinds_app,h,kinds_one,if_neg hk];rfl
theorem kinds_bad {l:List Nd} {k:Nat} {x:Nd} (hx:l[k]?=some x) (h:Nd.kinds (l.take k)=some o) (hk:x.kind=0):Nd.kinds l=none:=by
 have e:l=l.take (k+1)++l.drop (k+1):=(dH _ _).symm;rw[e,kinds_app,zT hx,kinds_app,h,kinds_one,if_pos hk];rfl
def Nd.kindE (q:Nd):Int:=if q.kind=0 then 3 else 0
def zcd (l:List Nd):List Int:=(Nd.kinds l).getD []
def zdm (l:List Nd):Int:=if (Nd.kinds l).isSome=true then 0 else 3
theorem kinds_no {l:List Nd} (h:Nd.kinds l=none):[]=zcd l/\3=zdm l:=by unfold zcd zdm;rw[h];exact⟨rfl,rfl⟩
theorem kinds_yes {l:List Nd} (h:Nd.kinds l=some o):o=zcd l/\0=zdm l:=by unfold zcd zdm;rw[h];exact⟨rfl,rfl⟩
theorem kindE_c (l:List Nd):(zdm l=0/\Nd.kinds l=some (zcd l))\/(zdm l=3/\Nd.kinds l=none):=by
 unfold zcd zdm;cases Nd.kinds l with
 | none=>exact .inr ⟨rfl,rfl⟩
 | some ks=>exact .inl ⟨rfl,rfl⟩
theorem kind_no {ms:List MatD} {kids:List Nd} (h:Nd.kinds kids=none):(Nd.mk op text n mode names ms kids).kind=0:=by simp only[Nd.kind,h]
theorem kind_yes {ms:List MatD} {kids:List Nd} {ks:List Int} (h:Nd.kinds kids=some ks):(Nd.mk op text n mode names ms kids).kind=(zbg op text n mode kids.length).kind ks:=by
 simp only[Nd.kind,h];rw[ask_kind,kinds_len h]
def Nd.checkE (q:Nd):Int:=if q.kind=0\/q.kind=3 then 3 else 0
end Lp
set_option linter.unusedSimpArgs false
set_option maxHeartbeats 4000000
set_option maxRecDepth 100000
namespace Lp
open Go Go.RowKit Go.Proofs Tryz
variable {l:List Int}
def Ask.d:Ask->D
 | .leaf k=>.ifc 192 (.agg [dI k])
 | .whole a b=>.ifc 195 (.agg [dI a,dI b])
 | .plain=>.ifc 201 (.agg [])
 | .pair m=>.ifc 198 (.agg [dI m])
 | .none=>.v .nilIface
theorem hd_0 {x:Int} (h:l[0]?=some x):l.headD 0=x:=by
 cases l with
 | nil=>cases h
 | cons y r=>injection h
theorem hd_1 {x:Int} (h:l[1]?=some x):l.tail.headD 0=x:=by
 cases l with
 | nil=>cases h
 | cons y r=>cases r with
  | nil=>cases h
  | cons z r=>injection h
theorem bd_192:BdP prog #[⟨"kind",3,0,false, "", "leporello/kind",0⟩] [(0,1)]:=λ_=>by kernel_rfl
theorem bd_195:BdP prog #[⟨"kid",3,0,false, "", "leporello/kind",0⟩,⟨"is",3,1,false, "", "leporello/kind",8⟩] [(0,1),(1,1)]:=λ_=>by kernel_rfl
theorem bd_198:BdP prog #[⟨"mode",3,0,false, "", "leporello/kind",0⟩] [(0,1)]:=λ_=>by kernel_rfl
theorem bd_201:BdP prog #[] []:=λ_=>by kernel_rfl
theorem fa_195_0:FaP prog 195 0 0:=λ_ _ _=>by kernel_rfl
theorem infz_3:IzP prog 3 (.int .i64 0) 1 8:=za3 (by kernel_rfl)
theorem und_153:Tryz.prog.underlying 153=some (.slice 3):=by kernel_rfl
theorem kright_c (op text:ByteArray) (n mode:Int) (names:List ByteArray) (ms:List MatD) (kids:List Nd) :
 CD prog 160 [] [.agg [.s op,.s text,dI n,dI mode,.sh 1 (names.map D.s),.sh 3 (ms.map MatD.d),.sh 7 (kids.map Nd.d)]] (isR (dB (zeh text n))):=by
 refine tZ func160 O O (λC=>?_);refine T.bd 0 O (λbd0=>?_);refine g' 2 O ?_;refine tA O (λg1=>?_);refine gQ 17 [0] O O ?_;refine tD O (λhc2=>?_) (λhc2=>?_)
 · refine gQ 6 [0] O O ?_;refine tAnd 3 3 (c:=decide (n<=(100:Int))) O O O O O O (λhb3 nx4=>?_) ?_
   · have hf5:=of_decide_eq_true hb3;refine gQ 3 [0] O O ?_;exact nx4 _ O O (kx 3 O O)
   refine g' 6 O ?_;exact tRs O results160 (.cons (zf (zd O) (cB ((by unfold zeh;rw[if_pos hc2];simp)))) .nil) O HSub.none ⟨O,O⟩
 refine g' 6 O ?_;refine tD O (λhc6=>?_) (λhc6=>?_)
 · refine gQ 6 [0] O O ?_;refine tAnd 3 3 (c:=decide (n<=(2000:Int))) O O O O O O (λhb7 nx8=>?_) ?_
   · have hf9:=of_decide_eq_true hb7;refine gQ 3 [0] O O ?_;exact nx8 _ O O (kx 3 O O)
   refine g' 6 O ?_;exact tRs O results160 (.cons (zf (zd O) (cB ((by unfold zeh;rw[if_neg hc2,if_pos hc6];simp)))) .nil) O HSub.none ⟨O,O⟩
 refine g' 9 O ?_;exact tRs O results160 (.cons (zf (zd O) (cB ((by unfold zeh;rw[if_neg hc2,if_neg hc6])))) .nil) O HSub.none ⟨O,O⟩
theorem asks_c (op text:ByteArray) (n mode:Int) (names:List ByteArray) (ms:List MatD) (kids:List Nd) :
 CD prog 118 [] [.agg [.s op,.s text,dI n,dI mode,.sh 1 (names.map D.s),.sh 3 (ms.map MatD.d),.sh 7 (kids.map Nd.d)]] (isR (zbg op text n mode kids.length).d):=by
 refine tZ func118 O O (λC=>?_);refine T.bd 0 O (λbd0=>?_);have hkl:=cntL_len kids;refine g' 2 O ?_;refine tA O (λg1=>?_);refine gQ 13 [0] O O ?_;refine tD O (λhc2=>?_) (λhc2=>?_)
 · refine g' 2 O (tP O (zr [0] [.const (.int .i64 1)] (zv:=cG) O O (.cons (CellD.v O) .nil) (runUnderlying192) zeroValue192 bd_192 ⟨O,trivial⟩ O) (g' 7 O ?_));have hak:(D.ifc 192 (.agg [dI 1]):D)=(zbg op text n mode kids.length).d:=(by unfold zbg;rw[if_pos hc2];rfl);exact tRs O results118 (.cons (zf (zd O) (wO hak)) .nil) O HSub.none ⟨O,O⟩
 refine gQ 6 [0] O O ?_;refine tAnd 3 3 (c:=decide ((0:Int)<n)) O O O O O O (λhb3 nx4=>?_) ?_
 · have hf5:=of_decide_eq_true hb3;refine gQ 3 [0] O O ?_;exact nx4 _ O O (kx 3 O O)
 refine g' 3 O ?_;refine tC O (λhc6=>?_) (λhc6=>?_)
 · simp only[bX,bJ] at hc6;refine g' 2 O (tP O (zr [0] [.const (.int .i64 3)] (zv:=cG) O O (.cons (CellD.v O) .nil) (runUnderlying192) zeroValue192 bd_192 ⟨O,trivial⟩ O) (g' 7 O ?_));have hak:(D.ifc 192 (.agg [dI 3]):D)=(zbg op text n mode kids.length).d:=(by unfold zbg;rw[if_neg hc2,if_pos hc6];rfl);exact tRs O results118 (.cons (zf (zd O) (wO hak)) .nil) O HSub.none ⟨O,O⟩
 simp only[bX,bJ] at hc6;refine gQ 8 [0] O O ?_;refine tD O (λhc7=>?_) (λhc7=>?_)
 · refine g' 2 O (tP O (zr [0] [.const (.int .i64 2)] (zv:=cG) O O (.cons (CellD.v O) .nil) (runUnderlying192) zeroValue192 bd_192 ⟨O,trivial⟩ O) (g' 7 O ?_));have hak:(D.ifc 192 (.agg [dI 2]):D)=(zbg op text n mode kids.length).d:=(by unfold zbg;rw[if_neg hc2,if_neg (λe=>by have h:=hc6;rcases h with h | h;exact h e.1;exact h e.2),if_pos hc7];rfl);exact tRs O results118 (.cons (zf (zd O) (wO hak)) .nil) O HSub.none ⟨O,O⟩
 refine gQ 6 [0] O O ?_;refine tAnd 3 4 (c:=decide (((kids.length:Nat):Int)=(1:Int))) O O O O O O (λhb8 nx9=>?_) ?_
 · have hf10:=of_decide_eq_true hb8;refine gQ 2 [0] O O (tG O (zJ (n:=kids.length) O runUnderlying62 (by simp only[lm,lc,ln])) (g' 1 O ?_));exact nx9 _ O O (kx 4 O O)
 refine g' 3 O ?_;refine tC O (λhc11=>?_) (λhc11=>?_)
 · simp only[bX,bJ] at hc11;refine g' 2 O (tP O (zr [0,1] [.const (.int .i64 3),.const (.int .i64 2)] (zv:=cH) O O (.cons (CellD.v O) (.cons (CellD.v O) .nil)) (runUnderlying195) zeroValue195 bd_195 ⟨O,O,trivial⟩ O) (g' 7 O ?_));have hak:(D.ifc 195 (.agg [dI 3,dI 2]):D)=(zbg op text n mode kids.length).d:=(by unfold zbg;rw[if_neg hc2,if_neg (λe=>by have h:=hc6;rcases h with h | h;exact h e.1;exact h e.2),if_neg hc7,if_pos ⟨hc11.1,by have:=hc11.2;omega⟩];rfl);exact tRs O results118 (.cons (zf (zd O) (wO hak)) .nil) O HSub.none ⟨O,O⟩
 simp only[bX,bJ] at hc11;refine gQ 6 [0] O O ?_;refine tAnd 3 4 (c:=decide (((kids.length:Nat):Int)=(1:Int))) O O O O O O (λhb12 nx13=>?_) ?_
 · have hf14:=of_decide_eq_true hb12;refine gQ 2 [0] O O (tG O (zJ (n:=kids.length) O runUnderlying62 (by simp only[lm,lc,ln])) (g' 1 O ?_));exact nx13 _ O O (kx 4 O O)
 refine g' 1 O ?_;refine tAnd 9 2 (c:=zeh text n) O O O O O O (λhb15 nx16=>?_) ?_
 · obtain ⟨hf17,hf18⟩:=andT hb15;have hf19:=of_decide_eq_true hf17;have hf20:=of_decide_eq_true hf18;refine gQ 1 [0] O O (tW O acs (kright_c op text n mode names ms kids ) ?_);exact nx16 _ O O (kx 2 O O)
 refine g' 3 O ?_;refine tC O (λhc21=>?_) (λhc21=>?_)
 · simp only[bX,bJ] at hc21;refine g' 2 O (tP O (zr [0,1] [.const (.int .i64 2),.const (.int .i64 2)] (zv:=cH) O O (.cons (CellD.v O) (.cons (CellD.v O) .nil)) (runUnderlying195) zeroValue195 bd_195 ⟨O,O,trivial⟩ O) (g' 7 O ?_));have hak:(D.ifc 195 (.agg [dI 2,dI 2]):D)=(zbg op text n mode kids.length).d:=(by unfold zbg;rw[if_neg hc2,if_neg (λe=>by have h:=hc6;rcases h with h | h;exact h e.1;exact h e.2),if_neg hc7,if_neg (λe=>by have h:=hc11;rcases h with h | h;exact h e.1;(have:=e.2;omega)),if_pos ⟨hc21.1.1,by have:=hc21.1.2;omega,hc21.2⟩];rfl);exact tRs O results118 (.cons (zf (zd O) (wO hak)) .nil) O HSub.none ⟨O,O⟩
 simp only[bX,bJ] at hc21;refine gQ 6 [0] O O ?_;refine tAnd 3 4 (c:=decide (((kids.length:Nat):Int)=(1:Int))) O O O O O O (λhb22 nx23=>?_) ?_
 · have hf24:=of_decide_eq_true hb22;refine gQ 2 [0] O O (tG O (zJ (n:=kids.length) O runUnderlying62 (by simp only[lm,lc,ln])) (g' 1 O ?_));exact nx23 _ O O (kx 4 O O)
 refine g' 3 O ?_;refine tC O (λhc25=>?_) (λhc25=>?_)
 · simp only[bX,bJ] at hc25;refine g' 2 O (tP O (zr [] [] (zv:=(.agg #[])) O O (.nil) (runUnderlying201) zeroValue201 bd_201 trivial O) (g' 7 O ?_));have hak:(D.ifc 201 (.agg []):D)=(zbg op text n mode kids.length).d:=(by unfold zbg;rw[if_neg hc2,if_neg (λe=>by have h:=hc6;rcases h with h | h;exact h e.1;exact h e.2),if_neg hc7,if_neg (λe=>by have h:=hc11;rcases h with h | h;exact h e.1;(have:=e.2;omega)),if_neg (λe=>by have h:=hc21;rcases h with (h | h) | h;exact h e.1;(have:=e.2.1;omega);(rw[e.2.2] at h;cases h)),if_pos ⟨hc25.1,by have:=hc25.2;omega⟩];rfl);exact tRs O results118 (.cons (zf (zd O) (wO hak)) .nil) O HSub.none ⟨O,O⟩
 simp only[bX,bJ] at hc25;refine gQ 6 [0] O O ?_;refine tAnd 3 4 (c:=decide (((kids.length:Nat):Int)=(2:Int))) O O O O O O (λhb26 nx27=>?_) ?_
 · have hf28:=of_decide_eq_true hb26;refine gQ 2 [0] O O (tG O (zJ (n:=kids.length) O runUnderlying62 (by simp only[lm,lc,ln])) (g' 1 O ?_));exact nx27 _ O O (kx 4 O O)
 refine g' 3 O ?_;refine tC O (λhc29=>?_) (λhc29=>?_)
 · simp only[bX,bJ] at hc29;refine gQ 4 [0] O O (tP O (zr [0] [.tmp 77] (zv:=cG) O O (.cons (CellD.v O) .nil) (runUnderlying198) zeroValue198 bd_198 ⟨O,trivial⟩ O) (g' 7 O ?_));have hak:(D.ifc 198 (.agg [dI mode]):D)=(zbg op text n mode kids.length).d:=(by unfold zbg;rw[if_neg hc2,if_neg (λe=>by have h:=hc6;rcases h with h | h;exact h e.1;exact h e.2),if_neg hc7,if_neg (λe=>by have h:=hc11;rcases h with h | h;exact h e.1;(have:=e.2;omega)),if_neg (λe=>by have h:=hc21;rcases h with (h | h) | h;exact h e.1;(have:=e.2.1;omega);(rw[e.2.2] at h;cases h)),if_neg (λe=>by have h:=hc25;rcases h with h | h;exact h e.1;(have:=e.2;omega)),if_pos ⟨hc29.1,by have:=hc29.2;omega⟩];rfl);exact tRs O results118 (.cons (zf (zd O) (wO hak)) .nil) O HSub.none ⟨O,O⟩
 simp only[bX,bJ] at hc29;refine g' 9 O ?_;have hak:(D.v .nilIface:D)=(zbg op text n mode kids.length).d:=by unfold zbg;rw[if_neg hc2,if_neg (λe=>by have h:=hc6;rcases h with h | h;exact h e.1;exact h e.2),if_neg hc7,if_neg (λe=>by have h:=hc11;rcases h with h | h;exact h e.1;(have:=e.2;omega)),if_neg (λe=>by have h:=hc21;rcases h with (h | h) | h;exact h e.1;(have:=e.2.1;omega);(rw[e.2.2] at h;cases h)),if_neg (λe=>by have h:=hc25;rcases h with h | h;exact h e.1;(have:=e.2;omega)),if_neg (λe=>by have h:=hc29;rcases h with h | h;exact h e.1;(have:=e.2;omega))];rfl
 exact tRs O results118 (.cons (zf (zd O) (wO hak)) .nil) O HSub.none ⟨O,O⟩
theorem pairof_c (m a b:Int) :
 CD prog 159 [] [.agg [dI m],dI a,dI b] (isR (dI (zeR m a b))):=by
 refine tZ func159 O O (λC=>?_);refine T.bd 0 O (λbd0=>?_);refine g' 2 O ?_;refine tA O (λg1=>?_);refine g' 10 O ?_;refine tOr 2 2 (c:=decide (b=(3:Int))) O O O O O O (λhb2 nx3=>?_) ?_
 · have hf4:=of_decide_eq_false hb2;refine g' 2 O ?_;exact nx3 _ O O (kx 2 O O)
 refine g' 3 O ?_;refine tC O (λhc5=>?_) (λhc5=>?_)
 · simp only[bX,bJ] at hc5;refine g' 8 O ?_;exact tRs O results159 (.cons (zf (zd O) (wO (congrArg (λn=>D.v (.int .i64 n)) (by unfold zeR;rw[if_pos hc5])))) .nil) O HSub.none ⟨O,O⟩
 simp only[bX,bJ] at hc5;refine g' 5 O ?_;refine tAnd 2 2 (c:=decide (b=(2:Int))) O O O O O O (λhb6 nx7=>?_) ?_
 · have hf8:=of_decide_eq_true hb6;refine g' 2 O ?_;exact nx7 _ O O (kx 2 O O)
 refine g' 3 O ?_;refine tC O (λhc9=>?_) (λhc9=>?_)
 · simp only[bX,bJ] at hc9;refine g' 8 O ?_;exact tRs rfl results159 (.cons (zf (zd rfl) (wO (congrArg (λn=>D.v (.int .i64 n)) (by unfold zeR;rw[if_neg (λe=>by have h:=hc5;rcases e with e | e;exact h.1 e;exact h.2 e),if_pos hc9])))) .nil) rfl HSub.none ⟨rfl,rfl⟩
 simp only[bX,bJ] at hc9;refine gQ 8 [0] O O ?_;refine tD O (λhc10=>?_) (λhc10=>?_)
 · refine g' 8 O ?_;exact tRs rfl results159 (.cons (zf (zd rfl) (wO (congrArg (λn=>D.v (.int .i64 n)) (by unfold zeR;rw[if_neg (λe=>by have h:=hc5;rcases e with e | e;exact h.1 e;exact h.2 e),if_neg (λe=>by have h:=hc9;rcases h with h | h;exact h e.1;exact h e.2),if_pos hc10])))) .nil) rfl HSub.none ⟨rfl,rfl⟩
 refine g' 7 O (tP O (zfq O O O) (g' 4 O ?_));exact tRs rfl results159 (.cons (zf (zd rfl) (wO (congrArg (λn=>D.v (.int .i64 n)) (by unfold zeR;rw[if_neg (λe=>by have h:=hc5;rcases e with e | e;exact h.1 e;exact h.2 e),if_neg (λe=>by have h:=hc9;rcases h with h | h;exact h e.1;exact h e.2),if_neg (by simpa using hc10)])))) .nil) rfl HSub.none ⟨rfl,rfl⟩
theorem kof_leaf (k:Int) (l:List Int) :
 CD prog 117 [] [.ifc 192 (.agg [dI k]),.sh 1 (l.map dI)] (isR (dI (Ask.kind (.leaf k) l))):=by
 refine tZ func117 O O (λC=>?_);refine T.bd 1 O (λbd1=>?_);have nl1:=zz bd1;refine g' 9 O (tP O (zaG O (λ_ _=>by kernel_rfl)) (g' 3 O ?_));refine tA O (λg1=>?_);refine gQ 19 [0,0] O O ?_;exact tRs O results117 (.cons (zf (zd O) (wO (congrArg (λn=>D.v (.int .i64 n)) (by rfl)))) .nil) O HSub.none ⟨O,O⟩
theorem kof_whole (a b:Int) (l:List Int) (hl:l.length=1):
 CD prog 117 [] [.ifc 195 (.agg [dI a,dI b]),.sh 1 (l.map dI)] (isR (dI (Ask.kind (.whole a b) l))):=by
 refine tZ func117 O O (λC=>?_);refine T.bd 1 O (λbd1=>?_);have nl1:=zz bd1;refine g' 9 O (tP O ((zam (zv:=cG) O (λ_ _=>by kernel_rfl)).cv (Cv.tup (.cons (wP (by decide)) (gc .nil)))) (g' 3 O ?_));refine tA O (λg1=>?_);refine gQ 16 [0] O O (tP O (zaG O (λ_ _=>by kernel_rfl)) (g' 3 O ?_));refine tA O (λg2=>?_);refine gQ 12 [0] O O (T.keep [0,1,4,5,6,7,8,13,14,15,16,17,18,21,22,23,24,25,26] O ?_);obtain ⟨x1,hx1⟩:=zj l 0 (by omega);refine tDr 5 [(27,.sh 1 (l.map dI),none),(28,.el (dI x1) 0,none),(29,dI x1,none),(30,dP g2 0,none),(31,dI a,none)] [.bx g2 195 (.agg [dI a,dI b]),.bx g1 192 (.agg [dI 0])] (Hn:=[.bx g2 195 (.agg [dI a,dI b]),.bx g1 192 (.agg [dI 0])]) mixed O O O O wQ O ⟨sa_p O O O (zc O),sa_p O O O (zi (k:=0) O O runUnderlying153 sizeOf3 (by first | rfl | omega) (ze hx1)),sa_p O O O (zac O isAgg3 O),sa_p O O O (zo O fa_195_0 O),sa_p O O O (zp O (i:=0) O isAgg3 O),trivial⟩ (tK O (g' 3 O ?_));refine tD O (λhc3=>?_) (λhc3=>?_)
 · refine g' 8 O ?_;exact tRs O results117 (.cons (zf (zd O) (wO (congrArg (λn=>D.v (.int .i64 n)) (by show _=(if l.headD 0=a then b else 0);rw[hd_0 hx1];first | rw[if_neg (by simpa using hc3)] | rw[if_pos (by simpa using hc3)])))) .nil) O HSub.none ⟨O,O⟩
 refine gQ 11 [0] O O ?_;exact tRs O results117 (.cons (zf (zd O) (wO (congrArg (λn=>D.v (.int .i64 n)) (by show _=(if l.headD 0=a then b else 0);rw[hd_0 hx1];first | rw[if_neg (by simpa using hc3)] | rw[if_pos (by simpa using hc3)])))) .nil) O HSub.none ⟨O,O⟩
theorem kof_plain  (l:List Int) (hl:l.length=1):
 CD prog 117 [] [.ifc 201 (.agg []),.sh 1 (l.map dI)] (isR (dI (Ask.kind (.plain) l))):=by
 refine tZ func117 O O (λC=>?_);refine T.bd 1 O (λbd1=>?_);have nl1:=zz bd1;obtain ⟨x1,hx1⟩:=zj l 0 (by omega);refine g' 9 O (tP O ((zam (zv:=cG) O (λ_ _=>by kernel_rfl)).cv (Cv.tup (.cons (wP (by decide)) (gc .nil)))) (g' 3 O ?_));refine tA O (λg1=>?_);refine gQ 16 [0] O O (tP O ((zam (zv:=cH) O (λ_ _=>by kernel_rfl)).cv (Cv.tup (.cons (wP (by decide)) (gc .nil)))) (g' 3 O ?_));refine tA O (λg2=>?_);refine gQ 16 [0] O O (tP O ((zam (zv:=cG) O (λ_ _=>by kernel_rfl)).cv (Cv.tup (.cons (wP (by decide)) (gc .nil)))) (g' 3 O ?_));refine tA O (λg3=>?_);refine gQ 16 [0] O O (tP O (zaG O (λ_ _=>by kernel_rfl)) (g' 3 O ?_));refine tA O (λg4=>?_);refine gQ 9 [0] O O (tG O (zi (k:=0) O O runUnderlying153 sizeOf3 (by first | rfl | omega) (ze hx1)) (g' 5 O ?_));refine tD O (λhc5=>?_) (λhc5=>?_)
 · refine g' 3 O (tP O (zi (k:=0) O O runUnderlying153 sizeOf3 (by first | rfl | omega) (ze hx1)) (g' 6 O ?_));exact tRs O results117 (.cons (zf (zd O) (wO (congrArg (λn=>D.v (.int .i64 n)) (by show _=(if l.headD 0=3 then 0 else l.headD 0);first | (rw[hd_0 hx1];first | rw[if_neg (by simpa using hc5)] | rw[if_pos (by simpa using hc5)]))))) .nil) O HSub.none ⟨O,O⟩
 refine g' 8 O ?_;exact tRs O results117 (.cons (zf (zd O) (wO (congrArg (λn=>D.v (.int .i64 n)) (by show _=(if l.headD 0=3 then 0 else l.headD 0);first | (rw[hd_0 hx1];first | rw[if_neg (by simpa using hc5)] | rw[if_pos (by simpa using hc5)]))))) .nil) O HSub.none ⟨O,O⟩
theorem kof_pair (m:Int) (l:List Int) (hl:l.length=2):
 CD prog 117 [] [.ifc 198 (.agg [dI m]),.sh 1 (l.map dI)] (isR (dI (Ask.kind (.pair m) l))):=by
 refine tZ func117 O O (λC=>?_);refine T.bd 1 O (λbd1=>?_);have nl1:=zz bd1;refine g' 9 O (tP O ((zam (zv:=cG) O (λ_ _=>by kernel_rfl)).cv (Cv.tup (.cons (wP (by decide)) (gc .nil)))) (g' 3 O ?_));refine tA O (λg1=>?_);refine gQ 16 [0] O O (tP O ((zam (zv:=cH) O (λ_ _=>by kernel_rfl)).cv (Cv.tup (.cons (wP (by decide)) (gc .nil)))) (g' 3 O ?_));refine tA O (λg2=>?_);refine gQ 16 [0] O O (tP O (zaG O (λ_ _=>by kernel_rfl)) (g' 3 O ?_));refine tA O (λg3=>?_);refine gQ 11 [0] O O (T.keep [0,1,4,5,6,7,8,9,10,13,14,15,16,17,18,21,22,23,24,25,26,35,36,37,38,39,40] O ?_);obtain ⟨x1,hx1⟩:=zj l 0 (by omega);obtain ⟨x2,hx2⟩:=zj l 1 (by omega);refine tDr 7 [(41,.agg [dI m],none),(42,.sh 1 (l.map dI),none),(43,.el (dI x1) 0,none),(44,dI x1,none),(45,.sh 1 (l.map dI),none),(46,.el (dI x2) 0,none),(47,dI x2,none)] [.bx g3 198 (.agg [dI m]),.bx g2 195 (.agg [dI 0,dI 0]),.bx g1 192 (.agg [dI 0])] (Hn:=[.bx g3 198 (.agg [dI m]),.bx g2 195 (.agg [dI 0,dI 0]),.bx g1 192 (.agg [dI 0])]) mixed O O O O wQ O ⟨sa_p O O O (zaS (d:=.agg [dI m]) O (i:=0) O isAgg198 sizeOf198 O O),sa_p O O O (zc O),sa_p O O O (zi (k:=0) O O runUnderlying153 sizeOf3 (by first | rfl | omega) (ze hx1)),sa_p O O O (zac O isAgg3 O),sa_p O O O (zc O),sa_p O O O (zi (k:=1) O O runUnderlying153 sizeOf3 (by first | rfl | omega) (ze hx2)),sa_p O O O (zac O isAgg3 O),trivial⟩ (tK O (tW O acs (pairof_c m x1 x2) (g' 5 O ?_)));exact tRs O results117 (.cons (zf (zd O) (wO (congrArg (λn=>D.v (.int .i64 n)) (by show _=zeR m (l.headD 0) (l.tail.headD 0);rw[hd_0 hx1,hd_1 hx2])))) .nil) O HSub.none ⟨O,O⟩
theorem kof_none  (l:List Int) :
 CD prog 117 [] [.v .nilIface,.sh 1 (l.map dI)] (isR (dI (Ask.kind (.none) l))):=by
 refine tZ func117 O O (λC=>?_);refine T.bd 1 O (λbd1=>?_);have nl1:=zz bd1;refine g' 9 O (tP O ((p_assert_n (zv:=cG) O (λ_=>by kernel_rfl)).cv (Cv.tup (.cons (wP (by decide)) (gc .nil)))) (g' 3 O ?_));refine tA O (λg1=>?_);refine gQ 16 [0] O O (tP O ((p_assert_n (zv:=cH) O (λ_=>by kernel_rfl)).cv (Cv.tup (.cons (wP (by decide)) (gc .nil)))) (g' 3 O ?_));refine tA O (λg2=>?_);refine gQ 16 [0] O O (tP O ((p_assert_n (zv:=cG) O (λ_=>by kernel_rfl)).cv (Cv.tup (.cons (wP (by decide)) (gc .nil)))) (g' 3 O ?_));refine tA O (λg3=>?_);refine gQ 16 [0] O O (tP O ((p_assert_n (zv:=(.agg #[])) O (λ_=>by kernel_rfl)).cv (Cv.tup (.cons (wP (by decide)) (gc .nil)))) (g' 3 O ?_));refine tA O (λg4=>?_);refine gQ 24 [0] O O ?_;exact tRs O results117 (.cons (zf (zd O) (wO (congrArg (λn=>D.v (.int .i64 n)) (by rfl)))) .nil) O HSub.none ⟨O,O⟩
theorem kof_c (a:Ask) (l:List Int) (h:a.fits l.length):CD prog 117 [] [a.d,.sh 1 (l.map dI)] (isR (dI (a.kind l))):=by
 cases a with
 | leaf k=>exact kof_leaf k l
 | whole a b=>exact kof_whole a b l h
 | plain=>exact kof_plain l h
 | pair m=>exact kof_pair m l h
 | none=>exact kof_none l
theorem kids_s (op text:ByteArray) (n mode:Int) (names:List ByteArray) (ms:List MatD) (kids:List Nd) (ih:∀ x∈kids,CD prog 78 [] [Nd.d x] (isR (.tup [dI x.kind,dI x.kindE]))) (hc:Nd.cntL kids<=100000):
 CD prog 116 [] [.agg [.s op,.s text,dI n,dI mode,.sh 1 (names.map D.s),.sh 3 (ms.map MatD.d),.sh 7 (kids.map Nd.d)]] (λr H'=>∃ v0_,r=.tup [.ov v0_,dI (zdm kids)]/\H'=[.sl v0_ 1 3 ((zcd kids).map dI)]):=by
 refine tZ func116 O O (λC=>?_);refine T.bd 0 O (λbd0=>?_);have hkl:=cntL_len kids;refine g' 2 O ?_;refine tA O (λg1=>?_);refine gQ 14 [0] O O (tP O (zJ (n:=kids.length) O runUnderlying62 (by simp only[lm,lc,ln])) (g' 4 O (tl3 (λ(a_:Nat) (b_:Value) (c_:List Int)=>[(10,.sh 7 (kids.map Nd.d)),(11,dN kids.length),(12,dN a_),(4,.ov b_)]) (λa_ b_ c_=>[.sl b_ 1 3 (c_.map dI),.bx g1 64 (.agg [.s op,.s text,dI n,dI mode,.sh 1 (names.map D.s),.sh 3 (ms.map MatD.d),.sh 7 (kids.map Nd.d)])]) (λa_ b_ c_=>(a_<=kids.length)/\(Nd.kinds (kids.take a_)=some c_)/\(c_.length<=a_)) (λa_ b_ c_=>kids.length-a_) 0 (.slice none 0 0) [] O ⟨sk O,sk O,sk O,sc O (Cv.ov O),trivial⟩ (HSub.nil 1 3) ⟨cU _,O,cX _⟩ ?_)));rintro k ov o ⟨hk,hks,hol⟩;refine g' 6 O ?_;refine tD O (λhc2=>?_) (λhc2=>?_)
 · refine g' 6 O ?_;obtain ⟨x1,hx1⟩:=zj kids k (by omega);obtain ⟨yax1,ybx1,ycx1,ydx1,yex1,yfx1,ygx1⟩:=x1;have hmcx1:=cnt_mem (dW hx1);refine tP O (zi (k:=k) O O runUnderlying62 sizeOf64 (by first | rfl | omega) (ze hx1)) (g' 1 O ?_);refine tA O (λg3=>?_);refine gQ 6 [0,0] O O (tW O acs (ih (Nd.mk yax1 ybx1 ycx1 ydx1 yex1 yfx1 ygx1) (dW hx1)) (g' 14 O ?_));refine tD O (λhc4=>?_) (λhc4=>?_)
   · have hkb:(Nd.mk yax1 ybx1 ycx1 ydx1 yex1 yfx1 ygx1).kind=0:=(by have h:=hc4;unfold Nd.kindE at h;split at h;assumption;exact absurd rfl h);obtain ⟨hr1,hr2⟩:=kinds_no (kinds_bad hx1 hks hkb);have hr3:(Nd.mk yax1 ybx1 ycx1 ydx1 yex1 yfx1 ygx1).kindE=zdm kids:=(by rw[<-hr2];unfold Nd.kindE;rw[if_pos hkb]);refine g' 14 O (mP (HSub.nil 1 3) (mP (wT (h':=.sl (.slice none 0 0) 1 3 ((zcd kids).map dI)) O (wV (congrArg (List.map dI) (show []=zcd kids by first | exact hr1 | exact hr3 | exact hr2)))) ?_));exact tRs O results116 (.cons (zf (zd O) (Cv.ov O)) (.cons (zf (zd O) (wO (congrArg (λn=>D.v (.int .i64 n)) (by first | exact hr1 | exact hr3 | exact hr2)))) .nil)) O (mB 1 O) ⟨(.slice none 0 0),O,O⟩
   have hkg:¬(Nd.mk yax1 ybx1 ycx1 ydx1 yex1 yfx1 ygx1).kind=0:=(by have h:(Nd.mk yax1 ybx1 ycx1 ydx1 yex1 yfx1 ygx1).kindE=0:=(by simpa using hc4);intro e;unfold Nd.kindE at h;rw[if_pos e] at h;cases h);refine g' 5 O (tE O (zt [.tmp 25] O O (.cons (CellD.v O) .nil) O runUnderlying153 sizeOf3 zeroValue3 O O O O) ?_);rintro _ _ ⟨g5,rfl,rfl⟩;refine tE O (zx (f:=dI) (l:=o) (l':=[(Nd.mk yax1 ybx1 ycx1 ydx1 yex1 yfx1 ygx1).kind]) (i:=2) O O O (wX (j:=0) O O) und_153 infz_3 O O (by unfold maxLen;(try simp only[la,lc,ln,lm,lt',ld,ls,lr]);omega) (by (try simp only[la,lc,ln,lm,lt',ld,ls,lr]);omega)) ?_;rintro _ _ ⟨v6,rfl,rfl⟩;refine g' 5 O (tP O (zw (c:=((k+1:Nat):Int)) O O (zk (by omega) (by omega))) (g' 2 O (mR 3 O (mR 3 O (mP (mB 2 O) ?_)))));exact tp3 (k+1) v6 (o++[(Nd.mk yax1 ybx1 ycx1 ydx1 yex1 yfx1 ygx1).kind]) (sa O) wQ ⟨by show k+1<=kids.length;omega,kinds_go hx1 hks hkg,by simp only[la,cR];omega⟩ (by omega)
 obtain ⟨hr1,hr2⟩:=kinds_yes (by rw[<-hks,dA (by omega)]:Nd.kinds kids=some o);have hr3:=hr2;refine g' 13 O (mP (wT (h':=.sl ov 1 3 ((zcd kids).map dI)) O (wV (congrArg (List.map dI) (show o=zcd kids by first | exact hr1 | exact hr3 | exact hr2)))) ?_);exact tRs O results116 (.cons (zd O) (.cons (zf (zd O) (wO (congrArg (λn=>D.v (.int .i64 n)) (by first | exact hr1 | exact hr3 | exact hr2)))) .nil)) O (mB 1 O) ⟨ov,O,O⟩
theorem of_s (op text:ByteArray) (n mode:Int) (names:List ByteArray) (ms:List MatD) (kids:List Nd) (ih:∀ x∈kids,CD prog 78 [] [Nd.d x] (isR (.tup [dI x.kind,dI x.kindE]))) (hc:Nd.cntL kids<=100000):
 CD prog 78 [] [.agg [.s op,.s text,dI n,dI mode,.sh 1 (names.map D.s),.sh 3 (ms.map MatD.d),.sh 7 (kids.map Nd.d)]] (isR (.tup [dI ((Nd.mk op text n mode names ms kids).kind),dI ((Nd.mk op text n mode names ms kids).kindE)])):=by
 refine tZ func78 O O (λC=>?_);refine T.bd 0 O (λbd0=>?_);refine g' 2 O ?_;refine tA O (λg1=>?_);refine gQ 7 [0] O O (tX [] O O acs (kids_s op text n mode names ms kids ih (by omega)) ?_);rintro _ _ ⟨kv2,rfl,rfl⟩;have hkc:=kindE_c kids;refine g' 14 O ?_;refine tD O (λhc3=>?_) (λhc3=>?_)
 · have hkn:=(hkc.resolve_left (λe=>hc3 e.1));have hq0:(Nd.mk op text n mode names ms kids).kind=0:=kind_no hkn.2;refine g' 9 O ?_;exact tRs O results78 (.cons (zf (zd O) (wO (congrArg (λn=>D.v (.int .i64 n)) (by first | exact hq0.symm | (unfold Nd.kindE;rw[if_pos hq0];try exact hkn.1))))) (.cons (zf (zd O) (wO (congrArg (λn=>D.v (.int .i64 n)) (by first | exact hq0.symm | (unfold Nd.kindE;rw[if_pos hq0];try exact hkn.1))))) .nil)) O HSub.none ⟨O,O⟩
 have hky:=(hkc.resolve_right (λe=>by have h:zdm kids=0:=(by simpa using hc3);rw[e.1] at h;cases h));have hkk:=kind_yes (op:=op) (text:=text) (n:=n) (mode:=mode) (names:=names) (ms:=ms) hky.2;have hfit:(zbg op text n mode kids.length).fits (zcd kids).length:=by rw[kinds_len hky.2];exact ask_fits op text n mode kids.length
 refine gQ 5 [1] O O (tW O acs (asks_c op text n mode names ms kids) (g' 1 O (tV [0] O O (ga (.cons (w7 (j:=0) O O) .nil)) (kof_c _ (zcd kids) hfit) O (g' 10 O ?_))));refine tD O (λhc4=>?_) (λhc4=>?_)
 · have hq0:(Nd.mk op text n mode names ms kids).kind=0:=hkk.trans hc4;refine g' 8 O ?_;exact tRs O results78 (.cons (zf (zd O) (wO (congrArg (λn=>D.v (.int .i64 n)) (by first | exact hq0.symm | (unfold Nd.kindE;rw[if_pos hq0];try exact hkn.1))))) (.cons (zf (zd O) (wO (congrArg (λn=>D.v (.int .i64 n)) (by first | exact hq0.symm | (unfold Nd.kindE;rw[if_pos hq0];try exact hkn.1))))) .nil)) O HSub.none ⟨O,O⟩
 refine g' 10 O ?_;exact tRs O results78 (.cons (zf (zd O) (wO (congrArg (λn=>D.v (.int .i64 n)) (by first | exact hkk.symm | (unfold Nd.kindE;rw[if_neg (λe=>hc4 (hkk.symm.trans e))]))))) (.cons (zf (zd O) (wO (congrArg (λn=>D.v (.int .i64 n)) (by first | exact hkk.symm | (unfold Nd.kindE;rw[if_neg (λe=>hc4 (hkk.symm.trans e))]))))) .nil)) O HSub.none ⟨O,O⟩
theorem of_c:∀ q:Nd,q.cnt<=100000->CD prog 78 [] [Nd.d q] (isR (.tup [dI q.kind,dI q.kindE])):=Nd.ind (λop text n mode names ms kids ih hc=>by
 simp only[Nd.cnt] at hc;rw[Nd.d_mk];exact of_s op text n mode names ms kids (λx hx=>ih x hx (by have:=cnt_mem hx;omega)) (by omega))
theorem check_c (op text:ByteArray) (n mode:Int) (names:List ByteArray) (ms:List MatD) (kids:List Nd) (o a b:Int) (hc:Nd.cntL kids<=10000):
 CD prog 51 [] [.agg [.s op,.s text,dI n,dI mode,.sh 1 (names.map D.s),.sh 3 (ms.map MatD.d),.sh 7 (Nd.ds kids),dI o,dI a,dI b]] (isR (dI ((Nd.mk op text n mode names ms kids).checkE))):=by
 refine tZ func51 O O (λC=>?_);refine T.bd 0 O (λbd0=>?_);refine g' 2 O ?_;refine tA O (λg1=>?_);refine gQ 7 [0] O O (tW O acs (of_c (Nd.mk op text n mode names ms kids) (by simp only[Nd.cnt];omega)) (g' 13 O ?_));refine tAnd 2 2 (c:=decide ((Nd.mk op text n mode names ms kids).kind=(3:Int))) O O O O O O (λhb2 nx3=>?_) ?_
 · have hf4:=of_decide_eq_true hb2;refine g' 2 O ?_;exact nx3 _ O O (kx 2 O O)
 refine g' 2 O ?_;refine tC O (λhc5=>?_) (λhc5=>?_)
 · simp only[bX,bJ] at hc5;refine g' 7 O ?_;exact tRs O results51 (.cons (zf (zd O) (wO (congrArg (λn=>D.v (.int .i64 n)) (by unfold Nd.checkE;unfold Nd.kindE at*;have h:=hc5;split<;>simp_all)))) .nil) O HSub.none ⟨O,O⟩
 simp only[bX,bJ] at hc5;refine g' 9 O ?_;exact tRs O results51 (.cons (zf (zd O) (wO (congrArg (λn=>D.v (.int .i64 n)) (by unfold Nd.checkE;unfold Nd.kindE at*;have h:=hc5;split<;>simp_all)))) .nil) O HSub.none ⟨O,O⟩
theorem zbZ:FaP prog 40 0 0:=λ_ _ _=>by kernel_rfl
theorem zbY:FaP prog 40 1 1:=λ_ _ _=>by kernel_rfl
theorem ext_cmpstring (a b:ByteArray) (w:World):(callFunc 230 #[.string a,.string b]).run prog w=.ok (.value (.int .i64 (cmpS a b))) w:=by
 rw[run_callFunc_extern func230 (by kernel_rfl) (by kernel_rfl) (by kernel_rfl) (e:=Extern.BytealgCompare.compare) (by kernel_rfl),Lib.run_compareString];rfl
theorem p_cmpstring {ty:TypeId} {K:Kd} {H:List Hp} {x y:Operand} {ats:Array TypeId} {a b:ByteArray} (hx:opS K x=some a) (hy:opS K y=some b):Pu prog (.call { callee:=.value (.func 230),args:=#[x,y],argTypes:=ats }) ty K H (dI (cmpS a b)):=
 ⟨λρ w F hk _ _=>e_ext (vs:=[.string a,.string b]) (zm ρ [x,y]) (by rw[show (#[x,y]:Array Operand).toList=[x,y] from rfl,zbU ρ [x,y] [x,y] (λ_ h=>h)];simp[hk.opS hx,hk.opS hy]) (ext_cmpstring a b) ⟨rfl,rfl⟩⟩
theorem CompareString_c (a:ByteArray) (b:ByteArray) :
 CD prog 180 [] [.s a,.s b] (isR (dI (cmpS a b))):=by
 refine tZ func180 O O (λC=>?_);refine T.bd 0 O (λbd0=>?_);have sz0:a.size<=9223372036854775807:=bd0;refine T.bd 1 O (λbd1=>?_);have sz1:b.size<=9223372036854775807:=bd1;refine g' 9 O (tP O (p_cmpstring O O) (g' 4 O ?_));exact tRs O results180 (.cons (zf (zd O) (wO (congrArg (λn=>D.v (.int .i64 n)) (by rfl)))) .nil) O HSub.none ⟨O,O⟩
theorem Compare_c (a:ByteArray) (b:ByteArray) :
 CD prog 143 [] [.s a,.s b] (isR (dI (cmpS a b))):=by
 refine tZ func143 O O (λC=>?_);refine T.bd 0 O (λbd0=>?_);have sz0:a.size<=9223372036854775807:=bd0;refine T.bd 1 O (λbd1=>?_);have sz1:b.size<=9223372036854775807:=bd1;refine g' 9 O (tW O acs (CompareString_c a b) (g' 4 O ?_));exact tR O HSub.none ⟨O,O⟩
theorem isNaN_c (x:Int) :
 CD prog 99 [] [dI x] (isR (dB false)):=by
 refine tZ func99 O O (λC=>?_);refine g' 9 O (tP O (zeu O O (decide_eq_false (λh=>h O))) (g' 4 O ?_));exact tR O HSub.none ⟨O,O⟩
theorem cmpI_c (x:Int) (y:Int) :
 CD prog 64 [] [dI x,dI y] (isR (dI (cmpI x y))):=by
 refine tZ func64 O O (λC=>?_);refine g' 8 O (tW O acs (isNaN_c x) (g' 6 O (tW O acs (isNaN_c y) (g' 29 O ?_))));refine tD O (λhc1=>?_) (λhc1=>?_)
 · refine g' 7 O ?_;exact tRs O results64 (.cons (zf (zd O) (wO (congrArg (λn=>D.v (.int .i64 n)) (by unfold cmpI;simp[*])))) .nil) O HSub.none ⟨O,O⟩
 refine g' 10 O ?_;refine tD O (λhc2=>?_) (λhc2=>?_)
 · refine g' 7 O ?_;exact tRs O results64 (.cons (zf (zd O) (wO (congrArg (λn=>D.v (.int .i64 n)) (by unfold cmpI;simp[*])))) .nil) O HSub.none ⟨O,O⟩
 refine g' 8 O ?_;exact tRs O results64 (.cons (zf (zd O) (wO (congrArg (λn=>D.v (.int .i64 n)) (by unfold cmpI;simp[*])))) .nil) O HSub.none ⟨O,O⟩
theorem Or_c (ns:List Int) :
 CD prog 63 [] [.sh 1 (ns.map dI)] (isR (dI (zaL ns))):=by
 refine tZ func63 O O (λC=>?_);refine T.bd 0 O (λbd0=>?_);have nl0:=zz bd0;refine g' 14 O (tP O (zJ (n:=ns.length) O runUnderlying153 (by simp only[lm,lc,ln])) (g' 4 O (tl1 (λ(a_:Nat)=>[(3,dI 0),(6,.sh 1 (ns.map dI)),(7,dN ns.length),(8,dN a_)]) (λa_=>[]) (λa_=>(a_<=ns.length)/\(zaL ns=zaL (ns.drop a_))) (λa_=>ns.length-a_) 0 O (sa O) wQ ⟨cU _,by simp⟩ ?_)));rintro k ⟨hk,hf⟩;refine g' 6 O ?_;refine tD O (λhc1=>?_) (λhc1=>?_)
 · refine g' 6 O ?_;obtain ⟨x1,hx1⟩:=zj ns k (by omega);refine tP O (zi (k:=k) O O runUnderlying153 sizeOf3 (by first | rfl | omega) (ze hx1)) (g' 11 O ?_);refine tD O (λhc2=>?_) (λhc2=>?_)
   · refine g' 12 O ?_;exact tRs O results63 (.cons (zf (zd O) (wO (congrArg (λn=>D.v (.int .i64 n)) (by exact(firstNZ_at hx1 hf (by assumption)).symm)))) .nil) O HSub.none ⟨O,O⟩
   refine g' 4 O (tP O (zw (c:=((k+1:Nat):Int)) O O (zk (by omega) (by omega))) (g' 2 O ?_));exact tp1 (k+1) (sa O) wQ ⟨by omega,firstNZ_next hx1 hf (by omega)⟩ (by omega)
 refine g' 12 O ?_;exact tRs O results63 (.cons (zf (zd O) (wO (congrArg (λn=>D.v (.int .i64 n)) (by rw[hf,dQ (by omega)];rfl)))) .nil) O HSub.none ⟨O,O⟩
theorem order_c (a:Lbl) (b:Lbl) :
 CD prog 98 [] [Lbl.d a,Lbl.d b] (isR (dI (zA a b))):=by
 refine tZ func98 O O (λC=>?_);refine T.bd 0 O (λbd0=>?_);refine T.bd 1 O (λbd1=>?_);refine g' 2 O ?_;refine tA O (λg1=>?_);refine tA O (λg2=>?_);refine g' 4 O (T.keep [0,1,2,3,4] O (tDr 9 [(5,dP g1 0,none),(6,.s a.n,none),(7,dP g2 0,none),(8,.s b.n,none),(9,dI (cmpS a.n b.n),none),(10,dP g1 1,none),(11,.s a.v,none),(12,dP g2 1,none),(13,.s b.v,none)] [.bx g2 40 (Lbl.d b),.bx g1 40 (Lbl.d a)] (Hn:=[.bx g2 40 (Lbl.d b),.bx g1 40 (Lbl.d a)]) mixed O O O O wQ O ⟨sa_p O O O (zo O zbZ O),sa_p O O O (zp O (i:=1) O isAgg9 O),sa_p O O O (zo O zbZ O),sa_p O O O (zp O (i:=0) O isAgg9 O),sa_q O O O (zU O (gc (gc .nil)) Tryz.call143 (Compare_c a.n b.n) zN),sa_p O O O (zo O zbY O),sa_p O O O (zp O (i:=1) O isAgg9 O),sa_p O O O (zo O zbY O),sa_p O O O (zp O (i:=0) O isAgg9 O),trivial⟩ (tK O (tW O acs (Compare_c a.v b.v) (tE O (zt [.tmp 9,.tmp 14] O O (.cons (CellD.v O) (.cons (CellD.v O) .nil)) O runUnderlying153 sizeOf3 zeroValue3 O O O O) ?_)))));rintro _ _ ⟨g3,rfl,rfl⟩;refine tV [0] O O (.cons (w7 (j:=0) O O) .nil) (Or_c [cmpS a.n b.n,cmpS a.v b.v]) O (g' 4 O ?_);exact tRs O results98 (.cons (zf (zd O) (wO (congrArg (λn=>D.v (.int .i64 n)) (by rw[firstNZ_two];rfl)))) .nil) O HSub.none ⟨O,O⟩
theorem CompareFunc_c (a b:List Lbl) :
 CD prog 97 [] [.sh 2 (a.map Lbl.d),.sh 2 (b.map Lbl.d),.fn 98 [] []] (isR (dI (zC a b))):=by
 refine tZ func97 O O (λC=>?_);refine T.bd 0 O (λbd0=>?_);have nl0:=zz bd0;refine T.bd 1 O (λbd1=>?_);have nl1:=zz bd1;refine g' 9 O (tP O (zJ (n:=a.length) O runUnderlying41 (by simp only[lm,lc,ln])) (g' 4 O (tl1 (λ(a_:Nat)=>[(0,.sh 2 (a.map Lbl.d)),(1,.sh 2 (b.map Lbl.d)),(2,.fn 98 [] []),(11,.sh 2 (a.map Lbl.d)),(12,dN a.length),(13,dN a_)]) (λa_=>[]) (λa_=>(a_<=a.length)/\(zC a b=zC (a.drop a_) (b.drop a_))) (λa_=>a.length-a_) 0 O (sa O) wQ ⟨cU _,by simp⟩ ?_)));rintro k ⟨hk,hf⟩;refine g' 6 O ?_;refine tD O (λhc1=>?_) (λhc1=>?_)
 · refine g' 7 O ?_;obtain ⟨x1,hx1⟩:=zj a k (by omega);refine tP O (zi (k:=k) O O runUnderlying41 sizeOf40 (by first | rfl | omega) (ze hx1)) (g' 1 O ?_);refine tA O (λg2=>?_);refine gQ 9 [0] O O (tP O (zJ (n:=b.length) O runUnderlying41 (by simp only[lm,lc,ln])) (g' 3 O ?_));refine tD O (λhc3=>?_) (λhc3=>?_)
   · refine g' 12 O ?_;exact tRs O results97 (.cons (zf (zd O) (wO (congrArg (λn=>D.v (.int .i64 n)) (by exact(cmpLs_right hx1 (by omega) hf).symm)))) .nil) O HSub.none ⟨O,O⟩
   refine g' 6 O ?_;obtain ⟨x2,hx2⟩:=zj b k (by omega);refine tP O (zi (k:=k) O O runUnderlying41 sizeOf40 (by first | rfl | omega) (ze hx2)) (g' 1 O ?_);refine tA O (λg4=>?_);refine gQ 8 [0,1,0] O O (tW O acs (order_c x1 x2) (g' 9 O ?_));refine tD O (λhc5=>?_) (λhc5=>?_)
   · refine g' 12 O ?_;exact tRs O results97 (.cons (zf (zd O) (wO (congrArg (λn=>D.v (.int .i64 n)) (by exact(cmpLs_at hx1 hx2 hf (by assumption)).symm)))) .nil) O HSub.none ⟨O,O⟩
   refine g' 4 O (tP O (zw (c:=((k+1:Nat):Int)) O O (zk (by omega) (by omega))) (g' 2 O ?_));exact tp1 (k+1) (sa O) HSub.none ⟨by omega,cmpLs_next hx1 hx2 hf (by omega)⟩ (by omega)
 refine g' 9 O (tP O (zJ (n:=a.length) O runUnderlying41 (by simp only[lm,lc,ln])) (g' 1 O (tP O (zJ (n:=b.length) O runUnderlying41 (by simp only[lm,lc,ln])) (g' 3 O ?_))));refine tD O (λhc6=>?_) (λhc6=>?_)
 · refine g' 7 O ?_;exact tRs O results97 (.cons (zf (zd O) (wO (congrArg (λn=>D.v (.int .i64 n)) (by rw[cmpLs_end (by omega) hf (by omega)];first | rw[if_pos (by omega)] | rw[if_neg (by omega)])))) .nil) O HSub.none ⟨O,O⟩
 refine g' 8 O ?_;exact tRs O results97 (.cons (zf (zd O) (wO (congrArg (λn=>D.v (.int .i64 n)) (by rw[cmpLs_end (by omega) hf (by omega)];first | rw[if_pos (by omega)] | rw[if_neg (by omega)])))) .nil) O HSub.none ⟨O,O⟩
theorem zci (a:List Lbl) (b:List Lbl) :
 CD prog 62 [] [.sh 2 (a.map Lbl.d),.sh 2 (b.map Lbl.d)] (isR (dI (zC a b))):=by
 refine tZ func62 O O (λC=>?_);refine T.bd 0 O (λbd0=>?_);have nl0:=zz bd0;refine T.bd 1 O (λbd1=>?_);have nl1:=zz bd1;refine g' 9 O (tW O acs (CompareFunc_c a b) (g' 4 O ?_));exact tR O HSub.none ⟨O,O⟩
theorem texts_c (a:ByteArray) (b:ByteArray) :
 CD prog 65 [] [.s a,.s b] (isR (dI (cmpS a b))):=by
 refine tZ func65 O O (λC=>?_);refine T.bd 0 O (λbd0=>?_);have sz0:a.size<=9223372036854775807:=bd0;refine T.bd 1 O (λbd1=>?_);have sz1:b.size<=9223372036854775807:=bd1;refine g' 11 O (tP O (p_lts O O O) (g' 3 O ?_));refine tD O (λhc1=>?_) (λhc1=>?_)
 · refine g' 8 O ?_;exact tRs rfl results65 (.cons (zf (zd rfl) (wO (congrArg (λn=>D.v (.int .i64 n)) (by rcases cmpS_cases a b with h | h | h<;>rw[h]<;>omega)))) .nil) rfl HSub.none ⟨rfl,rfl⟩
 refine g' 4 O (tP O (p_gts O O O) (g' 3 O ?_));refine tD O (λhc2=>?_) (λhc2=>?_)
 · refine g' 8 O ?_;exact tRs rfl results65 (.cons (zf (zd rfl) (wO (congrArg (λn=>D.v (.int .i64 n)) (by rcases cmpS_cases a b with h | h | h<;>rw[h]<;>omega)))) .nil) rfl HSub.none ⟨rfl,rfl⟩
 refine g' 9 O ?_;exact tRs rfl results65 (.cons (zf (zd rfl) (wO (congrArg (λn=>D.v (.int .i64 n)) (by rcases cmpS_cases a b with h | h | h<;>rw[h]<;>omega)))) .nil) rfl HSub.none ⟨rfl,rfl⟩
theorem compare_c (o:Int) (a:RowD) (b:RowD) :
 CD prog 34 [] [dI o,RowD.d a,RowD.d b] (isR (dI (zh o a b))):=by
 refine tZ func34 O O (λC=>?_);refine T.bd 1 O (λbd1=>?_);refine T.bd 2 O (λbd2=>?_);refine g' 2 O ?_;refine tA O (λg1=>?_);refine tA O (λg2=>?_);refine gQ 9 [1,0] O O (tW O acs (zci a.ls b.ls) (g' 16 O ?_));refine tD O (λhc3=>?_) (λhc3=>?_)
 · refine gQ 6 [1,0] O O (tW O acs (cmpI_c a.v b.v) (g' 1 O (tE O (zt [.tmp 20,.tmp 21] O O (.cons (CellD.v O) (.cons (CellD.v O) .nil)) O runUnderlying153 sizeOf3 zeroValue3 O O O O) ?_)));rintro _ _ ⟨g4,rfl,rfl⟩;refine tV [0] O O (.cons (w7 (j:=0) O O) .nil) (Or_c [cmpI a.v b.v,zC a.ls b.ls]) O (g' 6 O ?_);exact tRs O results34 (.cons (zf (zd O) (wO (congrArg (λn=>D.v (.int .i64 n)) (by unfold zh;simp[*,firstNZ_two])))) .nil) O HSub.none ⟨O,O⟩
 refine g' 6 O ?_;refine tD O (λhc5=>?_) (λhc5=>?_)
 · refine gQ 6 [0,1] O O (tW O acs (cmpI_c b.v a.v) (g' 1 O (tE O (zt [.tmp 30,.tmp 31] O O (.cons (CellD.v O) (.cons (CellD.v O) .nil)) O runUnderlying153 sizeOf3 zeroValue3 O O O O) ?_)));rintro _ _ ⟨g6,rfl,rfl⟩;refine tV [0] O O (.cons (w7 (j:=0) O O) .nil) (Or_c [cmpI b.v a.v,zC a.ls b.ls]) O (g' 6 O ?_);exact tRs O results34 (.cons (zf (zd O) (wO (congrArg (λn=>D.v (.int .i64 n)) (by unfold zh;simp[*,firstNZ_two])))) .nil) O HSub.none ⟨O,O⟩
 refine g' 10 O ?_;exact tRs O results34 (.cons (zf (zd O) (wO (congrArg (λn=>D.v (.int .i64 n)) (by unfold zh;simp[*,firstNZ_two])))) .nil) O HSub.none ⟨O,O⟩
theorem zeP (o:Int) (a:RowD) (b:RowD) :
 CD prog 19 [] [dI o,RowD.d a,RowD.d b] (isR (dB (less o a b))):=by
 refine tZ func19 O O (λC=>?_);refine T.bd 1 O (λbd1=>?_);refine T.bd 2 O (λbd2=>?_);refine g' 2 O ?_;refine tA O (λg1=>?_);refine tA O (λg2=>?_);refine gQ 8 [1,0] O O (tW O acs (compare_c o a b) (g' 5 O ?_));exact tRs O results19 (.cons (zf (zd O) (cB ((by rfl)))) .nil) O HSub.none ⟨O,O⟩
theorem refCompare_c (a:List Lbl) (b:List Lbl) :
 CD prog 35 [] [.sh 2 (a.map Lbl.d),.sh 2 (b.map Lbl.d)] (isR (dI (zC a b))):=by
 refine tZ func35 O O (λC=>?_);refine T.bd 0 O (λbd0=>?_);have nl0:=zz bd0;refine T.bd 1 O (λbd1=>?_);have nl1:=zz bd1;refine g' 12 O (tl1 (λ(a_:Nat)=>[(0,.sh 2 (a.map Lbl.d)),(1,.sh 2 (b.map Lbl.d)),(5,dN a_)]) (λa_=>[]) (λa_=>(a_<=a.length)/\(a_<=b.length)/\(zC a b=zC (a.drop a_) (b.drop a_))) (λa_=>a.length-a_) 0 O (sa O) wQ ⟨cU _,cU _,by simp⟩ ?_);rintro k ⟨hk,hk2,hf⟩;refine g' 5 O (tP O (zJ (n:=a.length) O runUnderlying41 (by simp only[lm,lc,ln])) (g' 2 O ?_));refine tAnd 4 4 (c:=decide (((k:Nat):Int)<((b.length:Nat):Int))) O O O O O O (λhb1 nx2=>?_) ?_
 · have hf3:=of_decide_eq_true hb1;refine g' 2 O (tG O (zJ (n:=b.length) O runUnderlying41 (by simp only[lm,lc,ln])) (g' 1 O ?_));exact nx2 _ O O (kx 4 O O)
 refine g' 2 O ?_;refine tC O (λhc4=>?_) (λhc4=>?_)
 · simp only[bX,bJ] at hc4;refine g' 5 O (T.keep [0,1,5,7,8,9,10,11,16] O ?_);obtain ⟨x1,hx1⟩:=zj a k (by omega);obtain ⟨x2,hx2⟩:=zj b k (by omega);refine tDr 10 [(19,.sh 2 (a.map Lbl.d),none),(20,dN k,none),(21,.el (Lbl.d x1) 0,none),(22,.el (Lbl.d x1) 0,none),(23,.s x1.n,none),(24,.sh 2 (b.map Lbl.d),none),(25,dN k,none),(26,.el (Lbl.d x2) 0,none),(27,.el (Lbl.d x2) 0,none),(28,.s x2.n,none)] [] (Hn:=[]) mixed O O O O wQ O ⟨sa_p O O O (zc O),sa_p O O O (zc O),sa_p O O O (zi (k:=k) O O runUnderlying41 sizeOf40 (by first | rfl | omega) (ze hx1)),sa_p O O O (zW O zbZ O),sa_p O O O (zac O isAgg9 O),sa_p O O O (zc O),sa_p O O O (zc O),sa_p O O O (zi (k:=k) O O runUnderlying41 sizeOf40 (by first | rfl | omega) (ze hx2)),sa_p O O O (zW O zbZ O),sa_p O O O (zac O isAgg9 O),trivial⟩ (tK O (tW O acs (texts_c x1.n x2.n) (g' 10 O ?_)));refine tD O (λhc5=>?_) (λhc5=>?_)
   · refine T.keep [0,1,5,6,7,8,9,10,11,16,19,20,21,22,23,24,25,26,27,28,29,30,31] O (tDr 10 [(32,.sh 2 (a.map Lbl.d),none),(33,dN k,none),(34,.el (Lbl.d x1) 0,none),(35,.el (Lbl.d x1) 1,none),(36,.s x1.v,none),(37,.sh 2 (b.map Lbl.d),none),(38,dN k,none),(39,.el (Lbl.d x2) 0,none),(40,.el (Lbl.d x2) 1,none),(41,.s x2.v,none)] [] (Hn:=[]) mixed O O O O wQ O ⟨sa_p O O O (zc O),sa_p O O O (zc O),sa_p O O O (zi (k:=k) O O runUnderlying41 sizeOf40 (by first | rfl | omega) (ze hx1)),sa_p O O O (zW O zbY O),sa_p O O O (zac O isAgg9 O),sa_p O O O (zc O),sa_p O O O (zc O),sa_p O O O (zi (k:=k) O O runUnderlying41 sizeOf40 (by first | rfl | omega) (ze hx2)),sa_p O O O (zW O zbY O),sa_p O O O (zac O isAgg9 O),trivial⟩ (tK O (tW O acs (texts_c x1.v x2.v) (g' 9 O ?_))));refine tD O (λhc6=>?_) (λhc6=>?_)
     · refine g' 12 O ?_;exact tRs O results35 (.cons (zf (zd O) (wO (congrArg (λn=>D.v (.int .i64 n)) (by rw[cmpLs_at hx1 hx2 hf (by unfold zA or2;split<;>omega)];unfold zA or2;first | rw[if_pos (by omega)] | rw[if_neg (by omega)])))) .nil) O HSub.none ⟨O,O⟩
     refine g' 5 O (tP O (zw (c:=((k+1:Nat):Int)) O O (zk (by omega) (by omega))) (g' 2 O ?_));exact tp1 (k+1) (sa O) wQ ⟨by omega,by omega,cmpLs_next hx1 hx2 hf (by unfold zA or2;split<;>omega)⟩ (by omega)
   refine g' 8 O ?_;refine tD O (λhc7=>?_) (λhc7=>?_)
   · refine g' 12 O ?_;exact tRs O results35 (.cons (zf (zd O) (wO (congrArg (λn=>D.v (.int .i64 n)) (by rw[cmpLs_at hx1 hx2 hf (by unfold zA or2;split<;>omega)];unfold zA or2;first | rw[if_pos (by omega)] | rw[if_neg (by omega)])))) .nil) O HSub.none ⟨O,O⟩
   refine g' 5 O (tP O (zw (c:=((k+1:Nat):Int)) O O (zk (by omega) (by omega))) (g' 2 O ?_));exact tp1 (k+1) (sa O) wQ ⟨by omega,by omega,cmpLs_next hx1 hx2 hf (by unfold zA or2;split<;>omega)⟩ (by omega)
 simp only[bX,bJ] at hc4;refine g' 10 O (tP O (zJ (n:=a.length) O runUnderlying41 (by simp only[lm,lc,ln])) (g' 1 O (tP O (zJ (n:=b.length) O runUnderlying41 (by simp only[lm,lc,ln])) (g' 4 O ?_))));refine tD O (λhc8=>?_) (λhc8=>?_)
 · refine g' 8 O ?_;exact tRs O results35 (.cons (zf (zd O) (wO (congrArg (λn=>D.v (.int .i64 n)) (by rw[hf];first | rw[cmpLs_nil (by omega) (by omega) (by omega)] | rw[cmpLs_nil_l (by omega) (by omega)] | rw[cmpLs_nil_r (by omega) (by omega)])))) .nil) O HSub.none ⟨O,O⟩
 refine g' 3 O (tP O (zJ (n:=a.length) O runUnderlying41 (by simp only[lm,lc,ln])) (g' 1 O (tP O (zJ (n:=b.length) O runUnderlying41 (by simp only[lm,lc,ln])) (g' 4 O ?_))));refine tD O (λhc9=>?_) (λhc9=>?_)
 · refine g' 8 O ?_;exact tRs O results35 (.cons (zf (zd O) (wO (congrArg (λn=>D.v (.int .i64 n)) (by rw[hf];first | rw[cmpLs_nil (by omega) (by omega) (by omega)] | rw[cmpLs_nil_l (by omega) (by omega)] | rw[cmpLs_nil_r (by omega) (by omega)])))) .nil) O HSub.none ⟨O,O⟩
 refine g' 9 O ?_;exact tRs O results35 (.cons (zf (zd O) (wO (congrArg (λn=>D.v (.int .i64 n)) (by rw[hf];first | rw[cmpLs_nil (by omega) (by omega) (by omega)] | rw[cmpLs_nil_l (by omega) (by omega)] | rw[cmpLs_nil_r (by omega) (by omega)])))) .nil) O HSub.none ⟨O,O⟩
theorem refLess_c (o:Int) (a:RowD) (b:RowD) :
 CD prog 20 [] [dI o,RowD.d a,RowD.d b] (isR (dB (less o a b))):=by
 refine tZ func20 O O (λC=>?_);refine T.bd 1 O (λbd1=>?_);refine T.bd 2 O (λbd2=>?_);refine g' 2 O ?_;refine tA O (λg1=>?_);refine tA O (λg2=>?_);refine g' 9 O ?_;refine tAnd 2 5 (c:=decide (a.v≠b.v)) O O O O O O (λhb3 nx4=>?_) ?_
 · have hf5:=of_decide_eq_true hb3;refine gQ 5 [1,0] O O ?_;exact nx4 _ O O (kx 5 O O)
 refine g' 2 O ?_;refine tC O (λhc6=>?_) (λhc6=>?_)
 · simp only[bX,bJ] at hc6;refine gQ 12 [1,0] O O ?_;exact tRs O results20 (.cons (zf (zd O) (cB ((by first | rw[less_ref1 (by omega) (by omega)] | rw[less_ref2 (by omega) (by omega)] | rw[less_ref3 (by omega) (by omega)])))) .nil) O HSub.none ⟨O,O⟩
 simp only[bX,bJ] at hc6;refine g' 8 O ?_;refine tAnd 2 5 (c:=decide (a.v≠b.v)) O O O O O O (λhb7 nx8=>?_) ?_
 · have hf9:=of_decide_eq_true hb7;refine gQ 5 [1,0] O O ?_;exact nx8 _ O O (kx 5 O O)
 refine g' 2 O ?_;refine tC O (λhc10=>?_) (λhc10=>?_)
 · simp only[bX,bJ] at hc10;refine gQ 12 [1,0] O O ?_;exact tRs O results20 (.cons (zf (zd O) (cB ((by first | rw[less_ref1 (by omega) (by omega)] | rw[less_ref2 (by omega) (by omega)] | rw[less_ref3 (by omega) (by omega)])))) .nil) O HSub.none ⟨O,O⟩
 simp only[bX,bJ] at hc10;refine gQ 8 [1,0] O O (tW O acs (refCompare_c a.ls b.ls) (g' 5 O ?_));exact tRs O results20 (.cons (zf (zd O) (cB ((by first | rw[less_ref1 (by omega) (by omega)] | rw[less_ref2 (by omega) (by omega)] | rw[less_ref3 (by omega) (by omega)])))) .nil) O HSub.none ⟨O,O⟩
end Lp
