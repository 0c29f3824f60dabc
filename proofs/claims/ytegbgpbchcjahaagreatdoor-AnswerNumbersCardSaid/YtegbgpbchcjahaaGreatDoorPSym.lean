import Derived.Lib.QuietBelow
import Derived.Lib.SmallJoins
import Derived.Test.YtegbgpbchcjahaaGreatDoorPQuo
set_option linter.all false
namespace Lp
open Go
variable {s:Ba} {l:List UInt8} {n a:Nat} {p:Nat} {f:Int->Bool} {ns:List Int} {k:Nat}
def gb (l:List UInt8) (k:Nat):Nat:=(l.getD k 0).toNat
def zc4 (l:List UInt8) (k:Nat):Bool:=decide (k<l.length)&&gb l k / 64==2
def decL (l:List UInt8):Nat×Nat:=
 if gb l 0<128 then(gb l 0,1)
 else if (gb l 0 / 32==6&&zc4 l 1)=true then
  if gb l 0 % 32*64+gb l 1 % 64>=128 then(gb l 0 % 32*64+gb l 1 % 64,2) else(65533,1)
 else if (gb l 0 / 16==14&&zc4 l 1&&zc4 l 2)=true then
  if (decide (gb l 0 % 16*4096+gb l 1 % 64*64+gb l 2 % 64>=2048)&&Utf8.valid ((gb l 0 % 16*4096+gb l 1 % 64*64+gb l 2 % 64:Nat):Int))=true then(gb l 0 % 16*4096+gb l 1 % 64*64+gb l 2 % 64,3) else(65533,1)
 else if (gb l 0 / 8==30&&zc4 l 1&&zc4 l 2&&zc4 l 3)=true then
  if (decide (gb l 0 % 8*262144+gb l 1 % 64*4096+gb l 2 % 64*64+gb l 3 % 64>=65536)&&Utf8.valid ((gb l 0 % 8*262144+gb l 1 % 64*4096+gb l 2 % 64*64+gb l 3 % 64:Nat):Int))=true then(gb l 0 % 8*262144+gb l 1 % 64*4096+gb l 2 % 64*64+gb l 3 % 64,4) else(65533,1)
 else(65533,1)
def aP4 {p k:Nat}:gb (bts s p) k=(s.get! (p+k)).toNat:=by
 unfold gb bts;rw[d6,j8];rcases cZ (p+k) s.size with h | h
 · have h':p+k<s.data.toList.length:=(by simpa using h);rw[dL h'];congr 1;simp[ByteArray.get!,h]
 rw[jU (by simpa using h)];have e2:s.get! (p+k)=default:=by
  show s.data[p+k]! =_;exact getElem!_neg _ _ (by simpa using h)
 rw[e2];rfl
def aMg {p k:Nat}:zc4 (bts s p) k=(decide (p+k<s.size)&&(s.get! (p+k)).toNat / 64==2):=by
 unfold zc4;rw[aP4,zfZ];congr 1;rw[decide_eq_decide];omega
def lX:Utf8.decode s p=decL (bts s p):=by
 unfold Utf8.decode decL;simp only[aP4,aMg,j5,Utf8.runeError]
def zbK:decR s p=(decL (bts s p)).1:=by unfold decR;rw[lX]
def zcV:decW s p=(decL (bts s p)).2:=by unfold decW;rw[lX]
def zgz (l:List UInt8):bts ⟨l.toArray⟩ 0=l:=by unfold bts;simp
def zdr {p k:Nat}:(bts s p).drop k=bts s (p+k):=by unfold bts;rw[List.drop_drop]
def zbL (l:List UInt8):1<=(decL l).2:=by have:=z6 ⟨l.toArray⟩ 0;rw[zcV,zgz] at this;exact this
def zfY (h:l≠[]):(decL l).2<=l.length:=by
 have:=zaK ⟨l.toArray⟩ 0 (by
  have:=dW.2 h;show 0<l.toArray.size;simpa using this)
 rw[zcV,zgz] at this;have e:ByteArray.size ⟨l.toArray⟩=l.length:=by show l.toArray.size=_;simp
 omega
def aJb (l:List UInt8):(decL l).1<1114112:=by have:=zcW ⟨l.toArray⟩ 0;rw[zbK,zgz] at this;exact this
def zfq (h:p<s.size):bts s p≠[]:=by rw[za6 h];simp
def zeZ (h:s.size<=p):bts s p=[]:=fG h
def runL (f:Int->Bool) (l:List UInt8):Nat:=if h:l≠[]/\f ((decL l).1:Int)=true then(decL l).2+runL f (l.drop (decL l).2) else 0
termination_by l.length
decreasing_by
 have h1:=zbL l;have h2:=dW.2 h.1;rw[c7];omega
def zcI (h:l≠[]) (hf:f ((decL l).1:Int)=true):runL f l=(decL l).2+runL f (l.drop (decL l).2):=by
 conv=>lhs;unfold runL
 rw[dif_pos ⟨h,hf⟩]
def zds (hf:f ((decL l).1:Int)=false):runL f l=0:=by
 unfold runL;rw[dif_neg (by rw[hf];simp)]
def zcf:runL f []=0:=by unfold runL;rw[dif_neg (by simp)]
def aR4 (f:Int->Bool):∀ (n:Nat) (l:List UInt8),l.length=n->runL f l<=l.length:=by
 intro n
 induction n using Nat.strongRecOn with
 | _ n ih=>
  intro l hl;by_cases h:l≠[]/\f ((decL l).1:Int)=true
  · have h1:=zbL l;have h2:=zfY h.1;have h3:=ih (l.length-(decL l).2) (by omega) (l.drop (decL l).2) c7;rw[c7] at h3;rw[zcI h.1 h.2];omega
  unfold runL;rw[dif_neg h];omega
def zbY (f:Int->Bool) (l:List UInt8):runL f l<=l.length:=aR4 f _ l rfl
def inK (ks:List Int) (r:Int):Bool:=ks.any (λk=>decide (k=zC r))
def idxI (n:Int):Nat->List Int->Int
 | _,[]=> -1
 | k,m::r=>if n=m then(k:Int) else idxI n (k+1) r
def hasI (ns:List Int) (n:Int):Bool:=ns.any (λm=>decide (m=n))
def aCc (n:Int):∀ (ns:List Int) (k:Nat),decide (0<=idxI n k ns)=hasI ns n
 | [],k=>rfl
 | m::r,k=>by
  unfold idxI hasI;by_cases h:n=m
  · have h0:(0:Int)<=(k:Nat):=(by omega);simp[h,h0]
  have h':¬m=n:=λe=>h e.symm
  have:=aCc n r (k+1);unfold hasI at this;rw[aA h,this];simp[h']
def aQj {n m:Int} (hm:ns[k]?=some m) (h:idxI n 0 ns=idxI n k (ns.drop k)) (e:n=m):((k:Nat):Int)=idxI n 0 ns:=by
 rw[h,zb9 hm];unfold idxI;rw[aB e]
def aF1 {n m:Int} (hm:ns[k]?=some m) (h:idxI n 0 ns=idxI n k (ns.drop k)) (e:¬n=m):idxI n 0 ns=idxI n (k+1) (ns.drop (k+1)):=by
 rw[h,zb9 hm];conv=>lhs;unfold idxI
 rw[aA e]
def aMh {n:Int} (hk:ns.length<=k) (h:idxI n 0 ns=idxI n k (ns.drop k)): -1=idxI n 0 ns:=by
 rw[h,jZ.2 hk];rfl
abbrev isLD:Int->Bool:=inK [1,2]
abbrev isD:Int->Bool:=inK [2]
abbrev isB:Int->Bool:=inK [3]
abbrev bl8 (s:Ba):List UInt8:=s.data.toList
def mkB (l:List UInt8):Ba:=⟨l.toArray⟩
def zdv (l:List UInt8):bl8 (mkB l)=l:=by simp[bl8,mkB]
def aAk (s:Ba):mkB (bl8 s)=s:=wH (uZ.1 (by simp[bl8,mkB]))
def gL {a b:Nat} (h:b<=s.size):s.extract a b=mkB (((bl8 s).take b).drop a):=by
 apply wH;apply uZ.1;simp only[mkB,vI,vQ,List.extract,bl8];rw[List.drop_take]
def zaB (l:List UInt8):(mkB l).size=l.length:=by show l.toArray.size=_;simp
def zar (s:Ba):(bl8 s).length=s.size:=by simp[bl8]
structure TokD where
 k:Int
 a:Int
 t:Ba
deriving DecidableEq
def TokD.d (x:TokD):D:=.agg [.v (.int .i64 x.k),.v (.int .i64 x.a),.s x.t]
def zbo:TokD:=⟨0,0,ByteArray.empty⟩
def zca (l:List UInt8):TokD×Nat:=if zbR (mkB (l.take (runL isLD l)))=true then(⟨1,0,mkB (l.take (runL isLD l))⟩,runL isLD l) else(zbo,0)
def digV (l:List UInt8):Nat:=l.foldl (λn b=>10*n+(b.toNat-48)) 0
def digL (n:Nat):List UInt8:=if h:n<10 then [UInt8.ofNat (48+n)] else digL (n / 10)++[UInt8.ofNat (48+n % 10)]
termination_by n
decreasing_by omega
def digB (n:Nat):Ba:=mkB (digL n)
def secB (s:Ba):Nat:=if s=⟨#[115]⟩ then 1 else if s=⟨#[109]⟩ then 60 else if s=⟨#[104]⟩ then 3600 else 0
def numT (l:List UInt8):TokD×Nat:=
 if 13<runL isD l\/1000000000000<digV (l.take (runL isD l)) then(zbo,0)
 else if runL isLD l=runL isD l then(⟨2,0,digB (digV (l.take (runL isD l)))⟩,runL isD l)
 else if secB (mkB ((l.take (runL isLD l)).drop (runL isD l)))=0\/1000000000 / secB (mkB ((l.take (runL isLD l)).drop (runL isD l)))<digV (l.take (runL isD l)) then(zbo,0)
 else(⟨4,0,digB (digV (l.take (runL isD l))*secB (mkB ((l.take (runL isLD l)).drop (runL isD l))))⟩,runL isLD l)
def zaz (b:Bool) (l:List UInt8):Option Nat:=
 if h:l=[] then none
 else if b=true then(zaz false (l.drop (decL l).2)).map (· +(decL l).2)
 else if (decL l).1=92 then(zaz true (l.drop (decL l).2)).map (· +(decL l).2)
 else if (decL l).1=34 then some 0
 else(zaz false (l.drop (decL l).2)).map (· +(decL l).2)
termination_by l.length
decreasing_by all_goals (have h1:=zbL l;have h2:=dW.2 h;rw[c7];omega)
noncomputable def unqB (s:Ba):Option Ba:=open Classical in if h:∃ t,zcd t=s then some h.choose else none
def aFv {s t:Ba} (h:zcd t=s):unqB s=some t:=by
 unfold unqB;have hx:∃ t,zcd t=s:=⟨t,h⟩;rw[dif_pos hx];congr 1;exact aD4 (hx.choose_spec.trans h.symm)
noncomputable def strT (l:List UInt8):TokD×Nat:=
 match zaz true l with
 | none=>(zbo,0)
 | some i=>match unqB (mkB (l.take (i+1))) with
  | none=>(zbo,0)
  | some t=>(⟨3,0,t⟩,i+1)
def zam:List Ba:=[⟨#[61,61]⟩,⟨#[33,61]⟩,⟨#[60,61]⟩,⟨#[62,61]⟩,⟨#[61,126]⟩,⟨#[33,126]⟩,⟨#[43]⟩,⟨#[45]⟩,⟨#[42]⟩,⟨#[47]⟩,⟨#[37]⟩,⟨#[40]⟩,⟨#[41]⟩,⟨#[123]⟩,⟨#[125]⟩,⟨#[91]⟩,⟨#[93]⟩,⟨#[44]⟩,⟨#[61]⟩,⟨#[60]⟩,⟨#[62]⟩]
def zak:List Ba->List UInt8->TokD×Nat
 | [],_=>(zbo,0)
 | x::r,l=>if (bl8 x).isPrefixOf l=true then(⟨5,0,x⟩,x.size) else zak r l
def zbI (l:List UInt8):TokD×Nat:=zak zam l
noncomputable def zj (l:List UInt8):TokD×Nat:=
 if zC ((decL l).1:Int)=1 then zca l else if zC ((decL l).1:Int)=2 then numT l else if (decL l).1=34 then strT l else zbI l
def TokD.put (x:TokD) (a:Nat):TokD:=⟨x.k,(a:Int),x.t⟩
noncomputable def zbE:Nat->List UInt8->Nat->Option (List TokD)
 | 0,l,_=>if l=[] then some [] else none
 | n+1,l,a=>if l=[] then some [] else
  if (zj l).2=0 then none
  else(zbE n ((l.drop (zj l).2).drop (runL isB (l.drop (zj l).2))) (a+(zj l).2+runL isB (l.drop (zj l).2))).map (((zj l).1.put a)::·)
noncomputable def zO (l:List UInt8) (a:Nat):Option (List TokD):=zbE l.length (l.drop (runL isB l)) (a+runL isB l)
def zaR:zbE n [] a=some []:=by cases n<;>simp[zbE]
def zbD (h:l≠[]) (h0:(zj l).2=0):zbE n l a=none:=by cases n<;>simp[zbE,h,h0]
def fQ (h:l≠[]) (h0:(zj l).2≠0):zbE (n+1) l a=(zbE n ((l.drop (zj l).2).drop (runL isB (l.drop (zj l).2))) (a+(zj l).2+runL isB (l.drop (zj l).2))).map (((zj l).1.put a)::·):=by
 conv=>lhs;unfold zbE
 rw[aA h,aA h0]
def xU:∀ (n m:Nat) (l:List UInt8) (a:Nat),l.length<=n->l.length<=m->zbE n l a=zbE m l a:=by
 intro n
 induction n with
 | zero=>
  intro m l a h1 _;have:l=[]:=dC (by omega);subst this;rw[zaR,zaR]
 | succ n ih=>
  intro m l a h1 h2;by_cases h:l=[]
  · subst h;rw[zaR,zaR]
  have hp:=dW.2 h;obtain ⟨m,rfl⟩:∃ k,m=k+1:=⟨m-1,by omega⟩;by_cases h0:(zj l).2=0
  · rw[zbD h h0,zbD h h0]
  rw[fQ h h0,fQ h h0,ih m _ _ (by simp only[c7];omega) (by simp only[c7];omega)]
def zdD (h:l.length<=n):zO l a=zbE n (l.drop (runL isB l)) (a+runL isB l):=xU _ _ _ _ (by simp only[c7];omega) (by simp only[c7];omega)
def zbi (h:l≠[]) (h0:(zj l).2≠0) (hn:l.length<=n):zbE n l a=(zO (l.drop (zj l).2) (a+(zj l).2)).map (((zj l).1.put a)::·):=by
 have hp:=dW.2 h;obtain ⟨n,rfl⟩:∃ k,n=k+1:=⟨n-1,by omega⟩;rw[fQ h h0,zdD (n:=n) (by simp only[c7];omega)]
noncomputable def lexL (s:Ba):List TokD:=if 600<s.size then [] else(zO (bl8 s) 0).getD []
noncomputable def lexE (s:Ba):Int:=if 600<s.size then 1 else if (zO (bl8 s) 0).isSome then 0 else 2
end Lp
namespace Lp
open Go Go.RowKit Go.Proofs
variable {l:List UInt8}
def aFy {P:Program} {f:FuncId} {H:List Hp} {ds:List D} {R:D->List Hp->Prop} (h:∀ w F vs,D.repA w F ds vs->(∀ x∈H,x.ok w F)->Calls P f vs.toArray w (Ret λres w'=>Ext w w'/\∃ r,R r H/\D.rep w' F r res)):CD P f H ds R:=
 ⟨λw F vs hvs hF hH=>(h w F vs hvs hH.ok).mono λe w' he=>by
  obtain ⟨v,rfl,E,r,hR,hr⟩:=he;have k:Keep w F w' F:=⟨λ_ h=>h,λb hb hlt=>E.block b hlt (.inr (cT _))⟩;refine⟨v,rfl,F,r,H,hR,hr,⟨E.size,E.os,E.tape,E.output,E.drawn,λb hb _=>E.block b hb (.inr (cT _)),λ_ h=>h,λ_ h=>.inl h,λb hb=>uF (hF b hb) E.size,⟨hH.apart,λx hx=>?_,λg hg=>⟨.inr hg,(hH.mine g hg).2⟩⟩⟩⟩;have ok:=hH.ok x hx;exact Hp.keep ok k (λg hg=>E.block g (Hp.lt ok hg) (.inr (cT _)))⟩
def aVp {P:Program} {w:World} {name:String} {g:Nat} {k:IntKind} {zs:List Int} {T:TypeId} {fr:Nat×Nat} (hg:P.globalNamed name=some g) (h:w.heap[g]?=some (.cells (zs.map λz=>Value.int k z).toArray T fr)):Lib.TabIs P w name k zs:=by
 unfold Lib.TabIs World.var?;rw[hg];show (match w.heap[g]? with | some (.cells cs _ _)=>some cs | _=>none)=_;rw[h]
def zeP {w w':World} (h:Below w.heap.size w w'):Ext w w':=⟨h.os,h.tape,h.output,h.size,λk hk _=>h.block k hk,by unfold Dr;trivial⟩
def zfc:Array Value:=(Lib.pow10Tab.map λz=>Value.int .u64 z).toArray
abbrev HPow:Hp:=.tab 3 zfc
abbrev HErr (ev:Value):Hp:=.tab 2 #[ev]
def EvOk (ev:Value):Prop:=ev=.nilIface\/∃ te pe,ev=.iface te pe
def aOa:∀ n:Nat,digL n=Lib.decDigits n:=by
 intro n
 induction n using Nat.strongRecOn with
 | _ n ih=>
  unfold digL Lib.decDigits;split
  · rfl
  rw[ih (n / 10) (by omega)]
def aJo:∀ n:Nat,(digL n).length<=n+1:=by
 intro n
 induction n using Nat.strongRecOn with
 | _ n ih=>
  unfold digL;split
  · simp
  rw[cO];have:=ih (n / 10) (by omega);simp only[dH,uJ];omega
def aHj (n:Nat):(digB n).size<=n+1:=by unfold digB;rw[zaB];exact aJo n
def aP2 (n:Nat) (hn:n<=1000000000000):CD Tryz.prog 137 [HPow] [dN n] (λr H'=>r=.s (digB n)/\H'=[HPow]):=
 aFy λw F vs hvs hok=>by
  obtain ⟨u,us,rfl,hu,hus⟩:=hvs;have hu:u=_:=hu;have hus:us=[]:=hus;subst hu;subst hus;obtain ⟨hF,T,fr,hh⟩:=hok _ cR;refine(Any.strconv_Itoa Tryz.laysM171 (n:Int) (by omega) (by omega) w (aVp (by kernel_rfl) hh)).mono λe w' he=>?_
  obtain ⟨rfl,k,os,rfl⟩:=he;refine⟨_,rfl,zeP (below_regrown w (w.drawn+k) os),.s (digB n),⟨rfl,rfl⟩,?_,?_⟩
  · show Value.string _=Value.string _;congr 1;show _=mkB (digL n);unfold mkB Lib.itoa;rw[aA (by omega),aOa];rfl
  have:=aHj n;unfold maxLen;omega
def Digs (l:List UInt8):Prop:=∀ b∈l,48<=b.toNat/\b.toNat<=57
def aBx:∀ (l:List UInt8) (acc:Nat),Digs l->(∃ u,Lib.parseUint10 acc l=.ok u)\/Lib.parseUint10 acc l=.range
 | [],acc,_=>.inl ⟨_,rfl⟩
 | c::r,acc,h=>by
  have hc:=h c cR;unfold Lib.parseUint10;rw[aB hc];split
  · exact .inr rfl
  split
  · exact .inr rfl
  exact aBx r _ (λb hb=>h b (cV _ hb))
def aBo:∀ (l:List UInt8) (acc k:Nat),Digs l->acc<10 ^ k->l.length+k<=13->Lib.parseUint10 acc l=.ok (l.foldl (λn b=>10*n+(b.toNat-48)) acc)/\l.foldl (λn b=>10*n+(b.toNat-48)) acc<10 ^ 13
 | [],acc,k,_,ha,hl=>⟨rfl,uF ha (wP (by omega) (by simpa using hl))⟩
 | c::r,acc,k,h,ha,hl=>by
  have hc:=h c cR;have hk:10 ^ k<=10 ^ 13:=wP (by omega) (by omega);have h13:(10:Nat) ^ 13=10000000000000:=by decide
  have ih:=aBo r (10*acc+(c.toNat-48)) (k+1) (λb hb=>h b (cV _ hb)) (by rw[Nat.pow_succ];omega) (by simp only[dH] at hl;omega);unfold Lib.parseUint10;rw[aB hc,aA (by omega),aA (by omega),wA acc 10];exact ih
def yS (h:Digs l) (hne:l≠[]) (hl:l.length<=13):Lib.atoiAll l=.ok (digV l:Int):=by
 cases l with
 | nil=>exact aH rfl hne
 | cons c r=>
  have hc:=h c cR;obtain ⟨h1,h2⟩:=aBo (c::r) 0 0 h (by decide) (by omega);have h13:(10:Nat) ^ 13=10000000000000:=by decide
  rw[Lib.atoiAll_plain c r (by omega) (by omega)];unfold Lib.parseMag;rw[aA (by simp),h1];unfold Lib.signless;simp only[];rw[aA (by omega)];rfl
def aSe (h:Digs l) (hne:l≠[]):(∃ v,Lib.atoiAll l=.ok v)\/Lib.atoiAll l=.range:=by
 cases l with
 | nil=>exact aH rfl hne
 | cons c r=>
  have hc:=h c cR;have hp:=aBx (c::r) 0 h;rw[Lib.atoiAll_plain c r (by omega) (by omega)];unfold Lib.parseMag;rw[aA (by simp)];unfold Lib.signless;rcases hp with ⟨u,e⟩ | e
  · rw[e];simp only[];split
    · first | exact .inr rfl | exact .inl ⟨_,rfl⟩
    first | exact .inl ⟨_,rfl⟩ | exact .inr rfl
  rw[e];exact .inr rfl
def aU6 (s:Ba) (ev:Value) (hev:EvOk ev) (hd:Digs (bl8 s)) (hne:bl8 s≠[]) (hs:s.size<=1000000):CD Tryz.prog 101 [HErr ev] [.s s] (λr H'=>∃ v x,r=.tup [dI v,x]/\H'=[HErr ev]/\(s.size<=13->v=(digV (bl8 s):Int)/\x=.v .nilIface)/\ -9223372036854775808<=v/\v<=9223372036854775807):=
 aFy λw F vs hvs hok=>by
  obtain ⟨u,us,rfl,hu,hus⟩:=hvs;obtain ⟨hu,hm⟩:=hu;have hus:us=[]:=hus;subst hu;subst hus;rcases aSe hd hne with ⟨v,ha⟩ | ha
  · have hb:=Lib.atoiAll_bounds ha;refine(Any.strconv_Atoi_ok wR s (by omega) v ha w).mono λe w' he=>?_
    obtain ⟨rfl,hw⟩:=he;refine⟨_,rfl,?_,.tup [dI v,.v .nilIface],⟨v,_,rfl,rfl,λh13=>⟨?_,rfl⟩,hb.1,hb.2⟩,⟨_,rfl,_,_,rfl,rfl,_,_,rfl,rfl,rfl⟩⟩
    · rcases hw with rfl | ⟨t,rfl⟩
      · exact Ext.rfl'
      exact zeP (Joins.below_bytesWorld _ w _ t (cW _))
    have:=yS hd hne (by rw[zar];exact h13);rw[this] at ha;injection ha with ha;exact ha.symm
  have hb:=Lib.atoiSat_bounds (bl8 s);obtain ⟨hF,T,fr,hh⟩:=hok _ cR;have hcell:w.cell? ⟨2,0,none⟩=some ev:=by
   unfold World.cell?;rw[hh];rfl
  refine(Any.strconv_Atoi_range wR s (by omega) ha ev w hcell hev).mono λe w' he=>?_
  obtain ⟨N,rfl,_,_,hbel⟩:=he;refine⟨_,rfl,zeP hbel,.tup [dI (Lib.atoiSat (bl8 s)),.any],⟨_,_,rfl,rfl,λh13=>?_,hb.1,hb.2⟩,⟨_,rfl,_,_,rfl,rfl,_,_,rfl,rfl,rfl⟩⟩;have:=yS hd hne (by rw[zar];exact h13);rw[this] at ha;cases ha
end Lp
namespace Lp
open Go
def zD (v:Int):Bool:=decide (-1000000000000<=v)&&decide (v<=1000000000000)
def aAt:List Ba:=[⟨#[61,61]⟩,⟨#[33,61]⟩,⟨#[60]⟩,⟨#[60,61]⟩,⟨#[62]⟩,⟨#[62,61]⟩]
def cmpB (op:Ba):Bool:=hasN aAt op
def zew (ne:Bool) (a b:Int) (out:Bool) (r:Int):Bool:=
 if r=60 then decide (a<b) else if r=62 then decide (b<a) else if r=61/\ne=true then decide (a≠b) else if r=61 then(out||decide (a=b)) else out
def cmpF (op:Ba) (a b:Int):Bool:=(zaI op).foldl (zew (decide (op=⟨#[33,61]⟩)) a b) (decide (op=⟨#[33,61]⟩))
def zaV (v:Int):Int×Int:=if zD v=true then(v,0) else(0,4)
def zcD (a b:Int):Int×Int:=if a≠0/\b≠0/\(1000000000000:Int).tdiv (max b (-b))<max a (-a) then(0,4) else(a*b,0)
def divE (op:Ba) (a b:Int):Int×Int:=if b=0 then(0,5) else if op=⟨#[47]⟩ then(a.tdiv b,0) else(a.tmod b,0)
def zfs (a b:Int):(a.tdiv b).natAbs<=a.natAbs:=by rw[Int.natAbs_tdiv];exact Nat.div_le_self _ _
def aBk {a b:Int} (h:a=0\/b=0\/¬(1000000000000:Int).tdiv (max b (-b))<max a (-a)): -1000000000000<=a*b/\a*b<=1000000000000:=by
 rcases Int.lt_or_eq_of_le (Int.natCast_nonneg b.natAbs) with hb | hb
 · have h2:a.natAbs*b.natAbs<=1000000000000:=by
    rcases h with h | h | h
    · subst h;simp
    · subst h;simp
    have e1:max b (-b)=((b.natAbs:Nat):Int):=(by omega);have e2:max a (-a)=((a.natAbs:Nat):Int):=(by omega);rw[e1,e2,vR (by omega)] at h;have e3:(1000000000000:Int) / ((b.natAbs:Nat):Int)=((1000000000000 / b.natAbs:Nat):Int):=(wM _ _).symm;rw[e3] at h;exact(vO (by omega)).1 (by omega)
   have e:(a*b).natAbs=a.natAbs*b.natAbs:=Int.natAbs_mul a b;omega
 have hb0:b=0:=by omega
 subst hb0;simp
def doE (op:Ba) (a b:Int):Int×Int:=
 if zD a=false\/zD b=false then(0,1)
 else if cmpB op=true then(if cmpF op a b=true then 1 else 0,0)
 else if op=⟨#[43]⟩ then zaV (a+b)
 else if op=⟨#[45]⟩ then zaV (a-b)
 else if op=⟨#[42]⟩ then zcD a b
 else if op=⟨#[47]⟩\/op=⟨#[37]⟩ then divE op a b
 else(0,1)
section
variable {α:Type} {c:α->α->Int}
def seg (L:List α) (a b:Nat):List α:=(L.take b).drop a
def fixI (c:α->α->Int) (a b:Nat) (L:List α):List α:=L.take a++zr c (seg L a b)++L.drop b
def rotL (a m b:Nat) (L:List α):List α:=L.take a++seg L m b++seg L a m++L.drop b
def zck {L:List α} {a b:Nat} (h:b<=L.length):(seg L a b).length=b-a:=by
 unfold seg;rw[c7,cY];omega
def zcl {P X R:List α} {a b:Nat} (ha:a=P.length) (hb:b=P.length+X.length):seg (P++(X++R)) a b=X:=by
 subst ha;subst hb;unfold seg;rw[<-cP,<-cO,wC,uX]
def dec2 {L:List α} {a b:Nat} (h:a<=b) (hb:b<=L.length):∃ P X R,L=P++(X++R)/\P.length=a/\X.length=b-a:=by
 refine⟨L.take a,(L.drop a).take (b-a),(L.drop a).drop (b-a),?_,?_,?_⟩
 · rw[dF,dF]
 · rw[cY];omega
 rw[cY,c7];omega
def aAp {P X:List α} {a:Nat} (ha:a=P.length):(P++X).take a=P:=by subst ha;exact wC ..
def aCk {P X R:List α} {b:Nat} (hb:b=P.length+X.length):(P++(X++R)).drop b=R:=by
 subst hb;rw[<-cP,<-cO,uX]
def zcR {P X R:List α} {a b:Nat} (ha:a=P.length) (hb:b=P.length+X.length):fixI c a b (P++(X++R))=P++(zr c X++R):=by
 unfold fixI;rw[zcl ha hb,aAp ha,aCk hb,cP]
def zdk {P X Y R:List α} {a m b:Nat} (ha:a=P.length) (hm:m=a+X.length) (hb:b=m+Y.length):rotL a m b (P++(X++(Y++R)))=P++(Y++(X++R)):=by
 unfold rotL;rw[aAp ha,zcl (X:=X) ha (by omega)];have e1:seg (P++(X++(Y++R))) m b=Y:=by
  rw[<-cP P X];exact zcl (by rw[cO];omega) (by rw[cO];omega)
 have e2:(P++(X++(Y++R))).drop b=R:=by
  rw[<-cP X Y];exact aCk (by rw[cO];omega)
 rw[e1,e2];simp[cP]
def zb8 (l:List α):(zr c l).length=l.length:=zeJ _ l rfl
def zfm {L:List α} {a b:Nat} (h:a<=b) (hb:b<=L.length):(fixI c a b L).length=L.length:=by
 unfold fixI;rw[cO,cO,zb8,zck hb,cY,c7];omega
def aMk {L:List α} {a m b:Nat} (h:a<=m) (hm:m<=b) (hb:b<=L.length):(rotL a m b L).length=L.length:=by
 unfold rotL;simp only[cO,zck hb,zck (jM hm hb),cY,c7];omega
def zfk (h:Cmp c) {l:List α} (hs:Srt c l):zr c l=l:=(zax h _ l rfl).eq h ⟨hs,λ_=>rfl⟩
def pA (h:Cmp c) {L:List α} {a b:Nat} (hab:a<=b) (hb:b<=L.length) (hs:Srt c (seg L a b)):fixI c a b L=L:=by
 obtain ⟨P,X,R,e,hP,hX⟩:=dec2 hab hb;subst e;have ha:a=P.length:=hP.symm;have hb':b=P.length+X.length:=by omega
 rw[zcR ha hb'];rw[zcl ha hb'] at hs;rw[zfk h hs]
def Srt.app {a b:List α} (ha:Srt c a) (hb:Srt c b) (hab:∀ x∈a,∀ y∈b,c x y<=0):Srt c (a++b):=d7.2 ⟨ha,hb,hab⟩
def Srt.left {a b:List α} (h:Srt c (a++b)):Srt c a:=(d7.1 h).1
def Srt.right {a b:List α} (h:Srt c (a++b)):Srt c b:=(d7.1 h).2.1
def Srt.cross {a b:List α} (h:Srt c (a++b)):∀ x∈a,∀ y∈b,c x y<=0:=(d7.1 h).2.2
def tL (h:Cmp c) {l:List α} {x:α}:x∈zr c l↔x∈l:=(zax h _ l rfl).mem h x
def fN (h:Cmp c) {A1 A2 B1 B2:List α} (hA:Srt c (A1++A2)) (hB:Srt c (B1++B2)) (h1:∀ x∈A1,∀ y∈B2,c x y<=0) (h2:∀ y∈B1,∀ x∈A2,c y x<0):
 zr c (A1++(A2++(B1++B2)))=zr c (A1++B1)++zr c (A2++B2):=by
 refine(zax h _ _ rfl).eq h ⟨?_,λk=>?_⟩
 · refine Srt.app (zax h _ _ rfl).srt (zax h _ _ rfl).srt ?_;intro x hx y hy;rcases jO.1 ((tL h).1 hx) with hx | hx<;>rcases jO.1 ((tL h).1 hy) with hy | hy
   · exact hA.cross x hx y hy
   · exact h1 x hx y hy
   · exact Int.le_of_lt (h2 x hx y hy)
   exact hB.cross x hx y hy
 rw[List.filter_append,(zax h _ _ rfl).same,(zax h _ _ rfl).same];simp only[List.filter_append];have hc:B1.filter (eqv c k)++A2.filter (eqv c k)=A2.filter (eqv c k)++B1.filter (eqv c k):=by
  rcases he:B1.filter (eqv c k) with _ | ⟨y,t⟩
  · simp
  rcases he2:A2.filter (eqv c k) with _ | ⟨x,u⟩
  · simp
  exfalso;have hy:y∈B1.filter (eqv c k):=by rw[he];exact cR
  have hx:x∈A2.filter (eqv c k):=by rw[he2];exact cR
  have hy:=j6.1 hy;have hx:=j6.1 hx;have e1:c k y=0:=by simpa [eqv] using hy.2
  have e2:c k x=0:=by simpa [eqv] using hx.2
  have:=h2 y hy.1 x hx.1;have e3:=h.neg k y;have e4:=(h.tr y k x).e1 (by omega);omega
 simp only[cP];rw[<-cP (B1.filter _),hc,cP]
def kT {L:List α} {a b k:Nat} {x:α} (hx:L[k]?=some x) (h1:a<=k) (h2:k<b):x∈seg L a b:=by
 unfold seg;refine dA (i:=k-a) ?_;rw[j8,j0,show a+(k-a)=k by omega,aB h2,hx]
def ze9 {L:List α} {a b:Nat} {x:α} (h:x∈seg L a b):∃ k,a<=k/\k<b/\L[k]?=some x:=by
 unfold seg at h;obtain ⟨i,hi⟩:=wN.1 h;rw[j8,j0] at hi;split at hi
 · exact⟨a+i,by omega,by omega,hi⟩
 cases hi
def ze8 (h:Cmp c) {L:List α} {a b i j:Nat} {x y:α} (hs:Srt c (seg L a b)) (hi:a<=i) (hij:i<=j) (hj:j<b) (hx:L[i]?=some x) (hy:L[j]?=some y):c x y<=0:=by
 rcases Nat.lt_or_eq_of_le hij with hlt | heq
 · have hx':(seg L a b)[i-a]?=some x:=(by unfold seg;rw[j8,j0,show a+(i-a)=i by omega,aB (by omega),hx]);have hy':(seg L a b)[j-a]?=some y:=(by unfold seg;rw[j8,j0,show a+(j-a)=j by omega,aB (by omega),hy]);obtain ⟨h1,e1⟩:=cQ.1 hx';obtain ⟨h2,e2⟩:=cQ.1 hy';have:=jF.1 hs (i-a) (j-a) h1 h2 (by omega);rw[e1,e2] at this;exact this
 subst heq;rw[hx] at hy;injection hy with hy;rw[hy,h.self];exact u6 _
def zay {L:List α} {a m b:Nat} (h1:a<=m) (h2:m<=b) (hb:b<=L.length):seg L a b=seg L a m++seg L m b:=by
 obtain ⟨P,X,R,e,hP,hX⟩:=dec2 (jM h1 h2) hb;obtain ⟨X1,X2,R',e',hX1,hX2⟩:=dec2 (L:=X) (a:=m-a) (b:=b-a) (by omega) (by omega);have hR:R'=[]:=by
  have:=aG List.length e';simp only[cO] at this;exact dC (by omega)
 subst hR;rw[jL] at e';subst e';subst e;rw[zcl (P:=P) (by omega) (by rw[cO];omega),cP,zcl (X:=X1) (by omega) (by omega),<-cP P,zcl (X:=X2) (by rw[cO];omega) (by rw[cO];omega)]
structure Found (c:α->α->Int) (L:List α) (a m b s e mid:Nat):Prop where
 as_:a<=s
 sm:s<=m
 me:m<=e
 eb:e<=b
 sum:s+e=mid+m
 lo:∀ x∈seg L a s,∀ y∈seg L e b,c x y<=0
 hi:∀ y∈seg L m e,∀ x∈seg L s m,c y x<0
def Found.of (h:Cmp c) {L:List α} {a m b s e mid:Nat} (hA:Srt c (seg L a m)) (hB:Srt c (seg L m b)) (hb:b<=L.length) (as_:a<=s) (sm:s<=m) (me:m<=e) (eb:e<=b) (sum:s+e=mid+m)
 (lo:s=a\/e=b\/∃ x y,L[s-1]?=some x/\L[e]?=some y/\¬c y x<0) (hi:s=m\/e=m\/∃ x y,L[s]?=some x/\L[e-1]?=some y/\c y x<0):Found c L a m b s e mid:=by
 refine⟨as_,sm,me,eb,sum,?_,?_⟩
 · intro x hx y hy;obtain ⟨i,i1,i2,ix⟩:=ze9 hx;obtain ⟨j,j1,j2,jy⟩:=ze9 hy;rcases lo with e1 | e1 | ⟨u,v,hu,hv,huv⟩
   · omega
   · omega
   have h1:=ze8 h hA i1 (show i<=s-1 by omega) (by omega) ix hu;have h2:=ze8 h hB me j1 j2 hv jy;have h3:=h.neg v u;exact(h.tr x v y).le ((h.tr x u v).le h1 (by omega)) h2
 intro y hy x hx;obtain ⟨i,i1,i2,ix⟩:=ze9 hx;obtain ⟨j,j1,j2,jy⟩:=ze9 hy;rcases hi with e1 | e1 | ⟨u,v,hu,hv,huv⟩
 · omega
 · omega
 have h1:=ze8 h hA as_ i1 i2 hu ix;have h2:=ze8 h hB j1 (show j<=e-1 by omega) (by omega) jy hv;exact(h.tr y v x).lt2 h2 ((h.tr v u x).lt1 huv h1)
def Found.parts {L:List α} {a m b s e mid:Nat} (f:Found c L a m b s e mid) (hb:b<=L.length):∃ P A1 A2 B1 B2 R,L=P++(A1++(A2++(B1++(B2++R))))/\P.length=a/\A1.length=s-a/\A2.length=m-s/\B1.length=e-m/\B2.length=b-e/\seg L a s=A1/\seg L s m=A2/\seg L m e=B1/\seg L e b=B2:=by
 have:=f.as_;have:=f.sm;have:=f.me;have:=f.eb;refine⟨L.take a,seg L a s,seg L s m,seg L m e,seg L e b,L.drop b,?_,?_,zck (by omega),zck (by omega),zck (by omega),zck hb,rfl,rfl,rfl,rfl⟩
 · rw[<-cP (seg L m e),<-zay (by omega) (by omega) hb,<-cP (seg L s m),<-zay (by omega) (by omega) hb,<-cP (seg L a s),<-zay (by omega) (by omega) hb];have e1:L.take a++seg L a b=L.take b:=by
    have:(L.take b).take a=L.take a:=(by rw[vN];congr 1;omega);rw[<-this];exact dF ..
   rw[<-cP,e1,dF]
 rw[cY];omega
def Found.merge (h:Cmp c) {L:List α} {a m b s e mid:Nat} (f:Found c L a m b s e mid) (hb:b<=L.length) (hA:Srt c (seg L a m)) (hB:Srt c (seg L m b)):
 fixI c mid b (fixI c a mid (rotL s m e L))=fixI c a b L:=by
 obtain ⟨P,A1,A2,B1,B2,R,eL,lP,l1,l2,l3,l4,s1,s2,s3,s4⟩:=f.parts hb;have:=f.as_;have:=f.sm;have:=f.me;have:=f.eb;have:=f.sum;rw[zay f.as_ f.sm (by omega),s1,s2] at hA;rw[zay f.me f.eb hb,s3,s4] at hB;have hs:=fN h hA hB (by rw[<-s1,<-s4];exact f.lo) (by rw[<-s2,<-s3];exact f.hi);subst eL;have r1:rotL s m e (P++(A1++(A2++(B1++(B2++R)))))=P++(A1++(B1++(A2++(B2++R)))):=by
  rw[<-cP P,zdk (by rw[cO];omega) (by omega) (by omega),cP]
 rw[r1,<-cP A1,zcR (a:=a) (b:=mid) (by omega) (by rw[cO];omega),<-cP A2,<-cP P,
  zcR (a:=mid) (b:=b) (by rw[cO,zb8,cO];omega) (by rw[cO,zb8,cO,cO];omega)]
 rw[show A1++(A2++(B1++(B2++R)))=(A1++(A2++(B1++B2)))++R by simp only[cP]];rw[zcR (a:=a) (b:=b) (by omega) (by simp only[cO];omega),hs];simp only[cP]
def Found.segs {L:List α} {a m b s e mid:Nat} (f:Found c L a m b s e mid) (hb:b<=L.length) (hA:Srt c (seg L a m)) (hB:Srt c (seg L m b)):
 Srt c (seg (rotL s m e L) a s)/\Srt c (seg (rotL s m e L) s mid)/\Srt c (seg (rotL s m e L) mid e)/\Srt c (seg (rotL s m e L) e b)/\(rotL s m e L).length=L.length:=by
 obtain ⟨P,A1,A2,B1,B2,R,eL,lP,l1,l2,l3,l4,s1,s2,s3,s4⟩:=f.parts hb;have:=f.as_;have:=f.sm;have:=f.me;have:=f.eb;have:=f.sum;rw[zay f.as_ f.sm (by omega),s1,s2] at hA;rw[zay f.me f.eb hb,s3,s4] at hB;have hl:(rotL s m e L).length=L.length:=aMk f.sm f.me (by omega);subst eL;have r1:rotL s m e (P++(A1++(A2++(B1++(B2++R)))))=P++(A1++(B1++(A2++(B2++R)))):=by
  rw[<-cP P,zdk (by rw[cO];omega) (by omega) (by omega),cP]
 rw[r1] at hl ⊢;refine⟨?_,?_,?_,?_,hl⟩
 · rw[zcl (X:=A1) (by omega) (by omega)];exact hA.left
 · rw[<-cP P,zcl (X:=B1) (by rw[cO];omega) (by rw[cO];omega)];exact hB.left
 · rw[<-cP A1,<-cP P,zcl (X:=A2) (by simp only[cO];omega) (by simp only[cO];omega)];exact hA.right
 rw[<-cP B1,<-cP A1,<-cP P,zcl (X:=B2) (by simp only[cO];omega) (by simp only[cO];omega)];exact hB.right
def zbX {L:List α} {a b d e:Nat} (hab:a<=b) (hb:b<=L.length) (hbd:b<=d):seg (fixI c a b L) d e=seg L d e:=by
 obtain ⟨P,X,R,eL,hP,hX⟩:=dec2 hab hb;subst eL;rw[zcR (a:=a) (b:=b) (by omega) (by omega)];unfold seg;apply wD;intro i;simp only[j8,j0];split
 · rw[<-cP,<-cP,d5 (by rw[cO,zb8];omega),d5 (by rw[cO];omega)];simp only[cO,zb8]
 rfl
def eQ {L:List α} {a b d e:Nat} (hab:a<=b) (hbd:b<=L.length) (hde:e<=a):seg (fixI c a b L) d e=seg L d e:=by
 obtain ⟨P,X,R,eL,hP,hX⟩:=dec2 hab hbd;subst eL;rw[zcR (a:=a) (b:=b) (by omega) (by omega)];unfold seg;rw[jH (by omega),jH (by omega)]
def eR (h:Cmp c) {L:List α} {a b:Nat} (hab:a<=b) (hb:b<=L.length):Srt c (seg (fixI c a b L) a b):=by
 obtain ⟨P,X,R,eL,hP,hX⟩:=dec2 hab hb;subst eL;rw[zcR (a:=a) (b:=b) (by omega) (by omega),zcl (X:=zr c X) (by omega) (by rw[zb8];omega)];exact(zax h _ _ rfl).srt
def aEs (h:Cmp c) {L:List α} {a b:Nat} (hab:a<=b) (hb:b<=L.length) (k:α):(fixI c a b L).filter (eqv c k)=L.filter (eqv c k):=by
 obtain ⟨P,X,R,eL,hP,hX⟩:=dec2 hab hb;subst eL;rw[zcR (a:=a) (b:=b) (by omega) (by omega)];simp only[List.filter_append,(zax h _ X rfl).same]
def swp (i j:Nat) (L:List α):List α:=match L[i]?,L[j]? with
 | some x,some y=>(L.set i y).set j x
 | _,_=>L
def zf6 {i j:Nat} {L:List α} {x y:α} (hx:L[i]?=some x) (hy:L[j]?=some y):swp i j L=(L.set i y).set j x:=by unfold swp;rw[hx,hy]
def aUl (i j:Nat) (L:List α):(swp i j L).length=L.length:=by unfold swp;split<;>simp
def mvUp:Nat->Nat->List α->List α
 | 0,_,L=>L
 | n+1,k,L=>mvUp n (k+1) (swp k (k+1) L)
def mvDn:Nat->Nat->List α->List α
 | 0,_,L=>L
 | n+1,k,L=>mvDn n (k-1) (swp k (k-1) L)
def aB7 {x:α}:∀ (B P R:List α),mvUp B.length P.length (P++x::(B++R))=P++(B++x::R)
 | [],P,R=>rfl
 | y::B,P,R=>by
  show mvUp B.length (P.length+1) (swp P.length (P.length+1) (P++x::y::(B++R)))=_;have e:swp P.length (P.length+1) (P++x::y::(B++R))=(P++[y])++x::(B++R):=by
   rw[zf6 (x:=x) (y:=y) (by simp) (by rw[d5 (by omega)];simp)];rw[List.set_append_right _ _ (by omega),List.set_append_right _ _ (by omega)];simp
  rw[e,show P.length+1=(P++[y]).length by simp,aB7 B (P++[y]) R];simp
def aCn {x:α}:∀ (n:Nat) (B P R:List α),B.length=n->mvDn n (P.length+n) (P++(B++x::R))=P++x::(B++R)
 | 0,B,P,R,hn=>by rw[dC hn];rfl
 | n+1,B,P,R,hn=>by
  obtain ⟨B',y,eB⟩:∃ B' y,B=B'++[y]:=⟨B.dropLast,B.getLast (by intro e;rw[e] at hn;simp at hn),(List.dropLast_concat_getLast _).symm⟩;subst eB;have hB:B'.length=n:=by simp at hn;exact hn
  show mvDn n (P.length+(n+1)-1) (swp (P.length+(n+1)) (P.length+(n+1)-1) _)=_;have e:swp (P.length+(n+1)) (P.length+(n+1)-1) (P++(B'++[y]++x::R))=P++(B'++x::(y::R)):=by
   have e0:P++(B'++[y]++x::R)=(P++B')++y::x::R:=(by simp);rw[e0,zf6 (x:=x) (y:=y) (by rw[d5 (by simp;omega)];simp only[cO,hB];rw[show P.length+(n+1)-(P.length+n)=1 by omega];rfl) (by rw[d5 (by simp;omega)];simp only[cO,hB];rw[show P.length+(n+1)-1-(P.length+n)=0 by omega];rfl)];rw[List.set_append_right _ _ (by simp;omega),List.set_append_right _ _ (by simp;omega)];simp only[cO,hB];rw[show P.length+(n+1)-(P.length+n)=1 by omega,show P.length+(n+1)-1-(P.length+n)=0 by omega];simp
  rw[e,show P.length+(n+1)-1=P.length+n by omega,aCn n B' P (y::R) hB];simp
def sF {n k:Nat} {L:List α} {x y:α} (hx:L[k]?=some x) (hy:L[k+1]?=some y):mvUp (n+1) k L=mvUp n (k+1) ((L.set k y).set (k+1) x):=by
 show mvUp n (k+1) (swp k (k+1) L)=_;rw[zf6 hx hy]
def sZ {n k:Nat} {L:List α} {x y:α} (hx:L[k]?=some x) (hy:L[k-1]?=some y):mvDn (n+1) k L=mvDn n (k-1) ((L.set k y).set (k-1) x):=by
 show mvDn n (k-1) (swp k (k-1) L)=_;rw[zf6 hx hy]
def xR (x:α):Srt c [x]:=List.pairwise_singleton _ _
def aB3 (h:Cmp c) {L:List α} {a b i:Nat} {x:α} (hb:b<=L.length) (hx:L[a]?=some x) (h1:a+1<=i) (h2:i<=b) (hB:Srt c (seg L (a+1) b))
 (lo:i=a+1\/∃ y,L[i-1]?=some y/\c y x<0) (hi:i=b\/∃ y,L[i]?=some y/\¬c y x<0):mvUp (i-1-a) a L=fixI c a b L:=by
 have hA:seg L a (a+1)=[x]:=by
  have hl:=zck (L:=L) (a:=a) (b:=a+1) (by omega);have hm:x∈seg L a (a+1):=kT hx (by omega) (by omega);obtain ⟨y,hy⟩:=List.length_eq_one_iff.1 (by rw[hl];omega:(seg L a (a+1)).length=1);rw[hy] at hm ⊢;rw[dQ.1 hm]
 have f1:∀ y∈seg L (a+1) i,c y x<0:=by
  intro y hy;obtain ⟨j,j1,j2,jy⟩:=ze9 hy;rcases lo with e | ⟨u,hu,hux⟩
  · omega
  exact(h.tr y u x).lt2 (ze8 h hB j1 (show j<=i-1 by omega) (by omega) jy hu) hux
 have f2:∀ y∈seg L i b,c x y<=0:=by
  intro y hy;obtain ⟨j,j1,j2,jy⟩:=ze9 hy;rcases hi with e | ⟨u,hu,hux⟩
  · omega
  have:=h.neg u x;exact(h.tr x u y).le (by omega) (ze8 h hB h1 j1 j2 hu jy)
 have hL:L=L.take a++x::(seg L (a+1) i++(seg L i b++L.drop b)):=by
  have e1:x::(seg L (a+1) i++(seg L i b++L.drop b))=seg L a b++L.drop b:=by
   rw[zay (show a<=a+1 by omega) (show a+1<=b by omega) hb,hA,zay h1 h2 hb];simp
  rw[e1,<-cP];have e2:L.take a++seg L a b=L.take b:=by
   have:(L.take b).take a=L.take a:=(by rw[vN];congr 1;omega);rw[<-this];exact dF ..
  rw[e2,dF]
 have lP:(L.take a).length=a:=by rw[cY];omega
 have lB:=zck (L:=L) (a:=a+1) (b:=i) (by omega);rw[zay h1 h2 hb] at hB;have key:=fN h (A1:=[]) (A2:=[x]) (B1:=seg L (a+1) i) (B2:=seg L i b) (xR x) hB (λ_ hx=>by cases hx) (λy hy z hz=>by rw[dQ.1 hz];exact f1 y hy);have key2:zr c ([x]++seg L i b)=x::seg L i b:=zfk h (dG.2 ⟨f2,hB.right⟩);have key3:zr c ([]++seg L (a+1) i)=seg L (a+1) i:=zfk h hB.left;have e3:=aB7 (x:=x) (seg L (a+1) i) (L.take a) (seg L i b++L.drop b);rw[<-hL,lP,lB,show i-(a+1)=i-1-a by omega] at e3;rw[e3];unfold fixI;rw[zay (show a<=a+1 by omega) (show a+1<=b by omega) hb,hA,zay h1 h2 hb];have e4:zr c ([x]++(seg L (a+1) i++seg L i b))=seg L (a+1) i++x::seg L i b:=by
  have:=key;rw[key2,key3] at this;simpa using this
 rw[e4];simp
def aBd (h:Cmp c) {L:List α} {a m i:Nat} {x:α} (hx:L[m]?=some x) (h1:a<=i) (h2:i<=m) (hA:Srt c (seg L a m))
 (lo:i=a\/∃ y,L[i-1]?=some y/\¬c x y<0) (hi:i=m\/∃ y,L[i]?=some y/\c x y<0):mvDn (m-i) m L=fixI c a (m+1) L:=by
 have hm:=(cQ.1 hx).1;have hB:seg L m (m+1)=[x]:=by
  have hl:=zck (L:=L) (a:=m) (b:=m+1) (by omega);have hmm:x∈seg L m (m+1):=kT hx (by omega) (by omega);obtain ⟨y,hy⟩:=List.length_eq_one_iff.1 (by rw[hl];omega:(seg L m (m+1)).length=1);rw[hy] at hmm ⊢;rw[dQ.1 hmm]
 have f1:∀ y∈seg L a i,c y x<=0:=by
  intro y hy;obtain ⟨j,j1,j2,jy⟩:=ze9 hy;rcases lo with e | ⟨u,hu,hux⟩
  · omega
  have:=h.neg x u;exact(h.tr y u x).le (ze8 h hA j1 (show j<=i-1 by omega) (by omega) jy hu) (by omega)
 have f2:∀ y∈seg L i m,c x y<0:=by
  intro y hy;obtain ⟨j,j1,j2,jy⟩:=ze9 hy;rcases hi with e | ⟨u,hu,hux⟩
  · omega
  exact(h.tr x u y).lt1 hux (ze8 h hA h1 j1 j2 hu jy)
 have hL:L=L.take a++(seg L a i++(seg L i m++x::L.drop (m+1))):=by
  have e1:seg L a i++(seg L i m++x::L.drop (m+1))=seg L a (m+1)++L.drop (m+1):=by
   rw[zay (show a<=m by omega) (show m<=m+1 by omega) (by omega),hB,zay h1 h2 (by omega)];simp
  rw[e1,<-cP];have e2:L.take a++seg L a (m+1)=L.take (m+1):=by
   have:(L.take (m+1)).take a=L.take a:=(by rw[vN];congr 1;omega);rw[<-this];exact dF ..
  rw[e2,dF]
 have lP:(L.take a).length=a:=by rw[cY];omega
 have lA:=zck (L:=L) (a:=a) (b:=i) (by omega);have lB:=zck (L:=L) (a:=i) (b:=m) (by omega);rw[zay h1 h2 (by omega)] at hA;have key:=fN h (A1:=seg L a i) (A2:=seg L i m) (B1:=[x]) (B2:=[]) hA (xR x) (λ_ _ _ hx=>by cases hx) (λy hy z hz=>by rw[dQ.1 hy];exact f2 z hz);have key2:zr c (seg L a i++[x])=seg L a i++[x]:=zfk h (Srt.app hA.left (xR x) (λy hy z hz=>by rw[dQ.1 hz];exact f1 y hy));have key3:zr c (seg L i m++[])=seg L i m:=by rw[jL];exact zfk h hA.right
 have e3:=aCn (x:=x) _ (seg L i m) (L.take a++seg L a i) (L.drop (m+1)) lB;rw[cP,<-hL,cO,lP,lA,show a+(i-a)+(m-i)=m by omega] at e3;rw[e3];unfold fixI;rw[zay (show a<=m by omega) (show m<=m+1 by omega) (by omega),hB,zay h1 h2 (by omega)];have e4:zr c (seg L a i++seg L i m++[x])=seg L a i++[x]++seg L i m:=by
  have:=key;rw[key2,key3] at this;simpa using this
 rw[e4];simp
def swpN:Nat->Nat->Nat->List α->List α
 | 0,_,_,L=>L
 | n+1,a,b,L=>swpN n (a+1) (b+1) (swp a b L)
def ze7:∀ (n a b:Nat) (L:List α),(swpN n a b L).length=L.length
 | 0,_,_,_=>rfl
 | n+1,a,b,L=>by show (swpN n (a+1) (b+1) (swp a b L)).length=_;rw[ze7 n,aUl]
def rH {n a b:Nat} {L:List α} {x y:α} (hx:L[a]?=some x) (hy:L[b]?=some y):swpN (n+1) a b L=swpN n (a+1) (b+1) ((L.set a y).set b x):=by
 show swpN n (a+1) (b+1) (swp a b L)=_;rw[zf6 hx hy]
def iK:∀ (X Y P Q R:List α),X.length=Y.length->swpN X.length P.length (P.length+X.length+Q.length) (P++(X++(Q++(Y++R))))=P++(Y++(Q++(X++R)))
 | [],[],P,Q,R,_=>rfl
 | x::X,[],P,Q,R,h=>by simp at h
 | [],y::Y,P,Q,R,h=>by simp at h
 | x::X,y::Y,P,Q,R,h=>by
  have h':X.length=Y.length:=by simpa using h
  show swpN X.length (P.length+1) (P.length+(X.length+1)+Q.length+1) (swp P.length (P.length+(X.length+1)+Q.length) (P++(x::X++(Q++(y::Y++R)))))=_;have e:swp P.length (P.length+(X.length+1)+Q.length) (P++(x::X++(Q++(y::Y++R))))=(P++[y])++(X++((Q++[x])++(Y++R))):=by
   have e0:P++(x::X++(Q++(y::Y++R)))=P++x::((X++Q)++y::(Y++R)):=(by simp);rw[e0,zf6 (x:=x) (y:=y) (by simp) (by rw[d5 (by omega),show P.length+(X.length+1)+Q.length-P.length=(X++Q).length+1 by simp;omega,List.getElem?_cons_succ,d5 (by omega)];simp)];rw[List.set_append_right _ _ (by omega),Nat.sub_self,List.set_cons_zero,List.set_append_right _ _ (by omega),show P.length+(X.length+1)+Q.length-P.length=(X++Q).length+1 by simp;omega,List.set_cons_succ,List.set_append_right _ _ (by omega),Nat.sub_self,List.set_cons_zero];simp
  have ih:=iK X Y (P++[y]) (Q++[x]) R h';rw[e];have e2:P.length+(X.length+1)+Q.length+1=(P++[y]).length+X.length+(Q++[x]).length:=by simp;omega
  rw[e2,show P.length+1=(P++[y]).length by simp,ih];simp
def aQf {L:List α} {a m b j:Nat} (hb:b<=L.length) (hm:m<=b) (hj:j=b-m) (hi:a+j<m):rotL a m b L=rotL (a+j) m b (swpN j a m L):=by
 obtain ⟨P,X,R1,e1,hP,hX⟩:=dec2 (L:=L) (a:=a) (b:=m) (by omega) (by omega);obtain ⟨Z,Y,R,e2,hZ,hY⟩:=dec2 (L:=R1) (a:=0) (b:=j) (by omega) (by have:=aG List.length e1;simp only[cO] at this;omega);rw[dC hZ,dY] at e2;obtain ⟨Z',X1,X2,e3,hZ',hX1⟩:=dec2 (L:=X) (a:=0) (b:=j) (by omega) (by omega);rw[dC hZ',dY] at e3;subst e2;subst e3;subst e1;have hl:(X1++X2).length=X1.length+X2.length:=cO;have s:=iK X1 Y P X2 R (by omega);rw[show P.length+X1.length+X2.length=m by omega,show X1.length=j by omega,hP] at s;rw[cP X1,s,<-cP X1,zdk (by omega) (by omega) (by omega),<-cP P Y (X2++_),zdk (P:=P++Y) (X:=X2) (Y:=X1) (by rw[cO];omega) (by omega) (by omega)];simp
def aQa {L:List α} {a m b i:Nat} (hb:b<=L.length) (hm:a<=m) (hi:i=m-a) (hj:m+i<b):rotL a m b L=rotL a m (b-i) (swpN i a (b-i) L):=by
 obtain ⟨P,X,R1,e1,hP,hX⟩:=dec2 (L:=L) (a:=a) (b:=m) (by omega) (by omega);obtain ⟨Z,Y,R,e2,hZ,hY⟩:=dec2 (L:=R1) (a:=0) (b:=b-m) (by omega) (by have:=aG List.length e1;simp only[cO] at this;omega);rw[dC hZ,dY] at e2;obtain ⟨Z',Y1,Y2,e3,hZ',hY1⟩:=dec2 (L:=Y) (a:=0) (b:=b-m-i) (by omega) (by omega);rw[dC hZ',dY] at e3;subst e2;subst e3;subst e1;have hl:(Y1++Y2).length=Y1.length+Y2.length:=cO;have s:=iK X Y2 P Y1 R (by omega);rw[show P.length+X.length+Y1.length=b-i by omega,show X.length=i by omega,hP] at s;rw[cP Y1,s,<-cP Y1,zdk (by omega) (by omega) (by omega),zdk (X:=Y2) (Y:=Y1) (by omega) (by omega) (by omega)];simp
def aO5 {L:List α} {a m b i:Nat} (hb:b<=L.length) (hm:a<=m) (hi:i=m-a) (hj:m+i=b):rotL a m b L=swpN i a m L:=by
 obtain ⟨P,X,R1,e1,hP,hX⟩:=dec2 (L:=L) (a:=a) (b:=m) (by omega) (by omega);obtain ⟨Z,Y,R,e2,hZ,hY⟩:=dec2 (L:=R1) (a:=0) (b:=b-m) (by omega) (by have:=aG List.length e1;simp only[cO] at this;omega);rw[dC hZ,dY] at e2;subst e2;subst e1;have s:=iK X Y P [] R (by omega);rw[uJ,j5,show P.length+X.length=m by omega,show X.length=i by omega,hP] at s;simp only[dY] at s;rw[s,zdk (by omega) (by omega) (by omega)]
def zdS {L:List α} {a b:Nat} (h:L.length<=b):seg L a b=seg L a L.length:=by unfold seg;rw[c6 h,c6 (cW _)]
def pO {L:List α} {a b:Nat} (h:L.length<=a):seg L a b=[]:=by unfold seg;rw[jZ,cY];omega
structure Like (c:α->α->Int) (L0 L:List α):Prop where
 len:L.length=L0.length
 same:∀ x,L.filter (eqv c x)=L0.filter (eqv c x)
def Like.rfl' (L:List α):Like c L L:=⟨rfl,λ_=>rfl⟩
def Like.fix (h:Cmp c) {L0 L:List α} (l:Like c L0 L) {a b:Nat} (hab:a<=b) (hb:b<=L.length):Like c L0 (fixI c a b L):=⟨(zfm hab hb).trans l.len,λx=>(aEs h hab hb x).trans (l.same x)⟩
def Like.sorted (h:Cmp c) {L0 L:List α} (l:Like c L0 L) (hs:Srt c L):L=zr c L0:=Stab.eq h ⟨hs,l.same⟩ (zax h _ L0 rfl)
def AllB (c:α->α->Int) (n:Nat) (L:List α):Prop:=∀ j,Srt c (seg L (j*n) ((j+1)*n))
def AllB.sorted {n:Nat} {L:List α} (h:AllB c n L) (hn:L.length<=n):Srt c L:=by
 have:=h 0;rw[vY,dS,vT,zdS hn] at this;unfold seg at this;simpa using this
structure Ahead (c:α->α->Int) (n a:Nat) (L:List α):Prop where
 ex:∃ i,a=i*n/\∀ j,j<i->Srt c (seg L (j*n) ((j+1)*n))
def Ahead.zero (n:Nat) (L:List α):Ahead c n 0 L:=⟨0,by simp,λj hj=>by omega⟩
def Ahead.next (h:Cmp c) {n a:Nat} {L:List α} (p:Ahead c n a L) (hb:a+n<=L.length):Ahead c n (a+n) (fixI c a (a+n) L):=by
 obtain ⟨i,ea,hs⟩:=p.ex;refine⟨i+1,by rw[Nat.succ_mul,ea],λj hj=>?_⟩;rcases cZ j i with hlt | hge
 · rw[eQ (by omega) hb (by rw[ea];exact jP n hlt)];exact hs j hlt
 have:j=i:=by omega
 subst this;rw[Nat.succ_mul,<-ea];exact eR h (by omega) hb
def Ahead.last (h:Cmp c) {n a:Nat} {L:List α} (p:Ahead c n a L) (ha:a<=L.length) (hb:L.length<a+n):AllB c n (fixI c a L.length L):=by
 obtain ⟨i,ea,hs⟩:=p.ex;intro j;rcases cZ j i with hlt | hge
 · rw[eQ ha (cW _) (by rw[ea];exact jP n hlt)];exact hs j hlt
 have hl:=zfm (c:=c) ha (cW L.length);rcases Nat.eq_or_lt_of_le hge with he | hgt
 · subst he;rw[Nat.succ_mul,<-ea,zdS (by omega),hl];exact eR h ha (cW _)
 have:(i+1)*n<=j*n:=jP n hgt;rw[Nat.succ_mul] at this;rw[pO (by omega)];exact List.Pairwise.nil
structure Half (c:α->α->Int) (n a:Nat) (L:List α):Prop where
 ex:∃ i,a=i*(2*n)/\(∀ j,j<i->Srt c (seg L (j*(2*n)) ((j+1)*(2*n))))/\∀ j,2*i<=j->Srt c (seg L (j*n) ((j+1)*n))
def Half.zero {n:Nat} {L:List α} (h:AllB c n L):Half c n 0 L:=⟨0,by simp,λj hj=>by omega,λj _=>h j⟩
def Half.one {n a:Nat} {L:List α} (p:Half c n a L):Srt c (seg L a (a+n))/\Srt c (seg L (a+n) (a+2*n)):=by
 obtain ⟨i,ea,_,h2⟩:=p.ex;have e0:a=2*i*n:=by rw[ea,wA 2 i,Nat.mul_assoc]
 have h3:=h2 (2*i) (cW _);have h4:=h2 (2*i+1) (by omega);rw[j9,vT,<-e0] at h3;rw[j9 (2*i+1),j9 (2*i),vT,<-e0,vH,<-Nat.two_mul] at h4;exact⟨h3,h4⟩
def Half.next (h:Cmp c) {n a:Nat} {L:List α} (p:Half c n a L) (hb:a+2*n<=L.length):Half c n (a+2*n) (fixI c a (a+2*n) L):=by
 obtain ⟨i,ea,h1,h2⟩:=p.ex;refine⟨i+1,by rw[Nat.succ_mul i,ea],λj hj=>?_,λj hj=>?_⟩
 · rcases cZ j i with hlt | hge
   · rw[eQ (by omega) hb (by rw[ea];exact jP _ hlt)];exact h1 j hlt
   have:j=i:=(by omega);subst this;rw[Nat.succ_mul j,<-ea];exact eR h (by omega) hb
 have:(2*i+2)*n<=j*n:=jP n (by omega);have e0:a=2*i*n:=by rw[ea,wA 2 i,Nat.mul_assoc]
 rw[j9,<-e0] at this;rw[zbX (by omega) hb this];exact h2 j (by omega)
def Half.last {n a:Nat} {L:List α} (p:Half c n a L) (hb:L.length<=a+n):AllB c (2*n) L:=by
 obtain ⟨i,ea,h1,h2⟩:=p.ex;intro j;rcases cZ j i with hlt | hge
 · exact h1 j hlt
 rcases Nat.eq_or_lt_of_le hge with he | hgt
 · subst he;rw[Nat.succ_mul i,<-ea,zdS (by omega)];have:=p.one.1
   rwa [zdS hb] at this
 have:(i+1)*(2*n)<=j*(2*n):=jP _ hgt;rw[Nat.succ_mul i] at this;rw[pO (by omega)];exact List.Pairwise.nil
def Half.last2 (h:Cmp c) {n a:Nat} {L:List α} (p:Half c n a L) (ha:a<=L.length) (hb:L.length<a+2*n):AllB c (2*n) (fixI c a L.length L):=by
 obtain ⟨i,ea,h1,h2⟩:=p.ex;intro j;rcases cZ j i with hlt | hge
 · rw[eQ ha (cW _) (by rw[ea];exact jP _ hlt)];exact h1 j hlt
 have hl:=zfm (c:=c) ha (cW L.length);rcases Nat.eq_or_lt_of_le hge with he | hgt
 · subst he;rw[Nat.succ_mul i,<-ea,zdS (by omega),hl];exact eR h ha (cW _)
 have:(i+1)*(2*n)<=j*(2*n):=jP _ hgt;rw[Nat.succ_mul i] at this;rw[pO (by omega)];exact List.Pairwise.nil
end
end Lp
