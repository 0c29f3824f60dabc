import Derived.Lib.QuietBelow
import Derived.Lib.SmallJoins
import Derived.Test.YtheccaeefigajaaGreatDoorPQuo
set_option linter.unusedSimpArgs false
set_option linter.unusedVariables false
namespace Lp
open Go
variable {s:ByteArray} {l:List UInt8} {n a:Nat} {p:Nat} {f:Int->Bool} {ns:List Int} {k:Nat}
def gb (l:List UInt8) (k:Nat):Nat:=(l.getD k 0).toNat
def za8 (l:List UInt8) (k:Nat):Bool:=decide (k<l.length)&&gb l k / 64==2
def decL (l:List UInt8):Nat×Nat:=
 if gb l 0<128 then(gb l 0,1)
 else if (gb l 0 / 32==6&&za8 l 1)=true then
  if gb l 0 % 32*64+gb l 1 % 64>=128 then(gb l 0 % 32*64+gb l 1 % 64,2) else(65533,1)
 else if (gb l 0 / 16==14&&za8 l 1&&za8 l 2)=true then
  if (decide (gb l 0 % 16*4096+gb l 1 % 64*64+gb l 2 % 64>=2048)&&Utf8.valid ((gb l 0 % 16*4096+gb l 1 % 64*64+gb l 2 % 64:Nat):Int))=true then(gb l 0 % 16*4096+gb l 1 % 64*64+gb l 2 % 64,3) else(65533,1)
 else if (gb l 0 / 8==30&&za8 l 1&&za8 l 2&&za8 l 3)=true then
  if (decide (gb l 0 % 8*262144+gb l 1 % 64*4096+gb l 2 % 64*64+gb l 3 % 64>=65536)&&Utf8.valid ((gb l 0 % 8*262144+gb l 1 % 64*4096+gb l 2 % 64*64+gb l 3 % 64:Nat):Int))=true then(gb l 0 % 8*262144+gb l 1 % 64*4096+gb l 2 % 64*64+gb l 3 % 64,4) else(65533,1)
 else(65533,1)
theorem aRy {p k:Nat}:gb (bts s p) k=(s.get! (p+k)).toNat:=by
 unfold gb bts;rw[dF,uU];rcases c8 (p+k) s.size with h | h
 · have h':p+k<s.data.toList.length:=(by simpa using h);rw[dO h'];congr 1;simp[ByteArray.get!,h]
 rw[j5 (by simpa using h)];have e2:s.get! (p+k)=default:=by
  show s.data[p+k]! =_;exact getElem!_neg _ _ (by simpa using h)
 rw[e2];rfl
theorem aPy {p k:Nat}:za8 (bts s p) k=(decide (p+k<s.size)&&(s.get! (p+k)).toNat / 64==2):=by
 unfold za8;rw[aRy,zeM];congr 1;rw[decide_eq_decide];omega
theorem nN:Utf8.decode s p=decL (bts s p):=by
 unfold Utf8.decode decL;simp only[aRy,aPy,uB,Utf8.runeError]
theorem zbs:decR s p=(decL (bts s p)).1:=by unfold decR;rw[nN]
theorem zb9:decW s p=(decL (bts s p)).2:=by unfold decW;rw[nN]
theorem zgs (l:List UInt8):bts ⟨l.toArray⟩ 0=l:=by unfold bts;simp
theorem zbV {p k:Nat}:(bts s p).drop k=bts s (p+k):=by unfold bts;rw[wE]
theorem zbi (l:List UInt8):1<=(decL l).2:=by have:=zF ⟨l.toArray⟩ 0;rw[zb9,zgs] at this;exact this
theorem zdG (h:l≠[]):(decL l).2<=l.length:=by
 have:=zae ⟨l.toArray⟩ 0 (by
  have:=dE.2 h;show 0<l.toArray.size;simpa using this)
 rw[zb9,zgs] at this;have e:ByteArray.size ⟨l.toArray⟩=l.length:=by show l.toArray.size=_;simp
 omega
theorem aJ8 (l:List UInt8):(decL l).1<1114112:=by have:=zbQ ⟨l.toArray⟩ 0;rw[zbs,zgs] at this;exact this
theorem zdz (h:p<s.size):bts s p≠[]:=by rw[zaN h];simp
theorem zdm (h:s.size<=p):bts s p=[]:=eY h
def runL (f:Int->Bool) (l:List UInt8):Nat:=if h:l≠[]/\f ((decL l).1:Int)=true then(decL l).2+runL f (l.drop (decL l).2) else 0
termination_by l.length
decreasing_by
 have h1:=zbi l;have h2:=dE.2 h.1;rw[cZ];omega
theorem zcD (h:l≠[]) (hf:f ((decL l).1:Int)=true):runL f l=(decL l).2+runL f (l.drop (decL l).2):=by
 conv=>lhs;unfold runL
 rw[dif_pos ⟨h,hf⟩]
theorem zdc (hf:f ((decL l).1:Int)=false):runL f l=0:=by
 unfold runL;rw[dif_neg (by rw[hf];simp)]
theorem zcH:runL f []=0:=by unfold runL;rw[dif_neg (by simp)]
theorem aTb (f:Int->Bool):∀ (n:Nat) (l:List UInt8),l.length=n->runL f l<=l.length:=by
 intro n
 induction n using Nat.strongRecOn with
 | _ n ih=>
  intro l hl;by_cases h:l≠[]/\f ((decL l).1:Int)=true
  · have h1:=zbi l;have h2:=zdG h.1;have h3:=ih (l.length-(decL l).2) (by omega) (l.drop (decL l).2) cZ;rw[cZ] at h3;rw[zcD h.1 h.2];omega
  unfold runL;rw[dif_neg h];omega
theorem zbE (f:Int->Bool) (l:List UInt8):runL f l<=l.length:=aTb f _ l rfl
def inK (ks:List Int) (r:Int):Bool:=ks.any (λk=>decide (k=zD r))
def idxI (n:Int):Nat->List Int->Int
 | _,[]=> -1
 | k,m::r=>if n=m then(k:Int) else idxI n (k+1) r
def hasI (ns:List Int) (n:Int):Bool:=ns.any (λm=>decide (m=n))
theorem aBe (n:Int):∀ (ns:List Int) (k:Nat),decide (0<=idxI n k ns)=hasI ns n
 | [],k=>rfl
 | m::r,k=>by
  unfold idxI hasI;by_cases h:n=m
  · have h0:(0:Int)<=(k:Nat):=(by omega);simp[h,h0]
  have h':¬m=n:=λe=>h e.symm
  have:=aBe n r (k+1);unfold hasI at this;rw[aA h,this];simp[h']
theorem aUr {n m:Int} (hm:ns[k]?=some m) (h:idxI n 0 ns=idxI n k (ns.drop k)) (e:n=m):((k:Nat):Int)=idxI n 0 ns:=by
 rw[h,zeL hm];unfold idxI;rw[aB e]
theorem aLg {n m:Int} (hm:ns[k]?=some m) (h:idxI n 0 ns=idxI n k (ns.drop k)) (e:¬n=m):idxI n 0 ns=idxI n (k+1) (ns.drop (k+1)):=by
 rw[h,zeL hm];conv=>lhs;unfold idxI
 rw[aA e]
theorem aQp {n:Int} (hk:ns.length<=k) (h:idxI n 0 ns=idxI n k (ns.drop k)): -1=idxI n 0 ns:=by
 rw[h,jO.2 hk];rfl
abbrev isLD:Int->Bool:=inK [1,2]
abbrev isD:Int->Bool:=inK [2]
abbrev isB:Int->Bool:=inK [3]
abbrev bl8 (s:ByteArray):List UInt8:=s.data.toList
def mkB (l:List UInt8):ByteArray:=⟨l.toArray⟩
theorem zbt (l:List UInt8):bl8 (mkB l)=l:=by simp[bl8,mkB]
theorem zeJ (s:ByteArray):mkB (bl8 s)=s:=uG (jW.1 (by simp[bl8,mkB]))
theorem zcu {a b:Nat} (h:b<=s.size):s.extract a b=mkB (((bl8 s).take b).drop a):=by
 apply uG;apply jW.1;simp only[mkB,uO,uZ,List.extract,bl8];rw[List.drop_take]
theorem zah (l:List UInt8):(mkB l).size=l.length:=by show l.toArray.size=_;simp
theorem zV (s:ByteArray):(bl8 s).length=s.size:=by simp[bl8]
structure TokD where
 k:Int
 a:Int
 t:ByteArray
deriving DecidableEq
def TokD.d (x:TokD):D:=.agg [.v (.int .i64 x.k),.v (.int .i64 x.a),.s x.t]
def zbm:TokD:=⟨0,0,ByteArray.empty⟩
def zcg (l:List UInt8):TokD×Nat:=if zcC (mkB (l.take (runL isLD l)))=true then(⟨1,0,mkB (l.take (runL isLD l))⟩,runL isLD l) else(zbm,0)
def digV (l:List UInt8):Nat:=l.foldl (λn b=>10*n+(b.toNat-48)) 0
def digL (n:Nat):List UInt8:=if h:n<10 then [UInt8.ofNat (48+n)] else digL (n / 10)++[UInt8.ofNat (48+n % 10)]
termination_by n
decreasing_by omega
def digB (n:Nat):ByteArray:=mkB (digL n)
def secB (s:ByteArray):Nat:=if s=⟨#[115]⟩ then 1 else if s=⟨#[109]⟩ then 60 else if s=⟨#[104]⟩ then 3600 else 0
def numT (l:List UInt8):TokD×Nat:=
 if 13<runL isD l\/1000000000000<digV (l.take (runL isD l)) then(zbm,0)
 else if runL isLD l=runL isD l then(⟨2,0,digB (digV (l.take (runL isD l)))⟩,runL isD l)
 else if secB (mkB ((l.take (runL isLD l)).drop (runL isD l)))=0\/1000000000 / secB (mkB ((l.take (runL isLD l)).drop (runL isD l)))<digV (l.take (runL isD l)) then(zbm,0)
 else(⟨4,0,digB (digV (l.take (runL isD l))*secB (mkB ((l.take (runL isLD l)).drop (runL isD l))))⟩,runL isLD l)
def zal (b:Bool) (l:List UInt8):Option Nat:=
 if h:l=[] then none
 else if b=true then(zal false (l.drop (decL l).2)).map (· +(decL l).2)
 else if (decL l).1=92 then(zal true (l.drop (decL l).2)).map (· +(decL l).2)
 else if (decL l).1=34 then some 0
 else(zal false (l.drop (decL l).2)).map (· +(decL l).2)
termination_by l.length
decreasing_by all_goals (have h1:=zbi l;have h2:=dE.2 h;rw[cZ];omega)
noncomputable def unqB (s:ByteArray):Option ByteArray:=open Classical in if h:∃ t,zak t=s then some h.choose else none
theorem lF {s t:ByteArray} (h:zak t=s):unqB s=some t:=by
 unfold unqB;have hx:∃ t,zak t=s:=⟨t,h⟩;rw[dif_pos hx];congr 1;exact aEv (hx.choose_spec.trans h.symm)
theorem kV (h:∀ t,zak t≠s):unqB s=none:=by
 unfold unqB;rw[dif_neg];rintro ⟨t,ht⟩;exact h t ht
noncomputable def unqT (s:ByteArray):ByteArray:=(unqB s).getD ByteArray.empty
noncomputable def zcm (s:ByteArray):Bool:=(unqB s).isSome
noncomputable def strT (l:List UInt8):TokD×Nat:=
 match zal true l with
 | none=>(zbm,0)
 | some i=>match unqB (mkB (l.take (i+1))) with
  | none=>(zbm,0)
  | some t=>(⟨3,0,t⟩,i+1)
def zY:List ByteArray:=[⟨#[61,61]⟩,⟨#[33,61]⟩,⟨#[60,61]⟩,⟨#[62,61]⟩,⟨#[61,126]⟩,⟨#[33,126]⟩,⟨#[43]⟩,⟨#[45]⟩,⟨#[42]⟩,⟨#[47]⟩,⟨#[37]⟩,⟨#[40]⟩,⟨#[41]⟩,⟨#[123]⟩,⟨#[125]⟩,⟨#[91]⟩,⟨#[93]⟩,⟨#[44]⟩,⟨#[61]⟩,⟨#[60]⟩,⟨#[62]⟩]
def zaj:List ByteArray->List UInt8->TokD×Nat
 | [],_=>(zbm,0)
 | x::r,l=>if (bl8 x).isPrefixOf l=true then(⟨5,0,x⟩,x.size) else zaj r l
def zbS (l:List UInt8):TokD×Nat:=zaj zY l
noncomputable def zg (l:List UInt8):TokD×Nat:=
 if zD ((decL l).1:Int)=1 then zcg l else if zD ((decL l).1:Int)=2 then numT l else if (decL l).1=34 then strT l else zbS l
def TokD.put (x:TokD) (a:Nat):TokD:=⟨x.k,(a:Int),x.t⟩
noncomputable def zbx:Nat->List UInt8->Nat->Option (List TokD)
 | 0,l,_=>if l=[] then some [] else none
 | n+1,l,a=>if l=[] then some [] else
  if (zg l).2=0 then none
  else(zbx n ((l.drop (zg l).2).drop (runL isB (l.drop (zg l).2))) (a+(zg l).2+runL isB (l.drop (zg l).2))).map (((zg l).1.put a)::·)
noncomputable def zQ (l:List UInt8) (a:Nat):Option (List TokD):=zbx l.length (l.drop (runL isB l)) (a+runL isB l)
theorem zaP:zbx n [] a=some []:=by cases n<;>simp[zbx]
theorem zbJ (h:l≠[]) (h0:(zg l).2=0):zbx n l a=none:=by cases n<;>simp[zbx,h,h0]
theorem fG (h:l≠[]) (h0:(zg l).2≠0):zbx (n+1) l a=(zbx n ((l.drop (zg l).2).drop (runL isB (l.drop (zg l).2))) (a+(zg l).2+runL isB (l.drop (zg l).2))).map (((zg l).1.put a)::·):=by
 conv=>lhs;unfold zbx
 rw[aA h,aA h0]
theorem yN:∀ (n m:Nat) (l:List UInt8) (a:Nat),l.length<=n->l.length<=m->zbx n l a=zbx m l a:=by
 intro n
 induction n with
 | zero=>
  intro m l a h1 _;have:l=[]:=d5 (by omega);subst this;rw[zaP,zaP]
 | succ n ih=>
  intro m l a h1 h2;by_cases h:l=[]
  · subst h;rw[zaP,zaP]
  have hp:=dE.2 h;obtain ⟨m,rfl⟩:∃ k,m=k+1:=⟨m-1,by omega⟩;by_cases h0:(zg l).2=0
  · rw[zbJ h h0,zbJ h h0]
  rw[fG h h0,fG h h0,ih m _ _ (by simp only[cZ];omega) (by simp only[cZ];omega)]
theorem zcy (h:l.length<=n):zQ l a=zbx n (l.drop (runL isB l)) (a+runL isB l):=yN _ _ _ _ (by simp only[cZ];omega) (by simp only[cZ];omega)
theorem zaT (h:l≠[]) (h0:(zg l).2≠0) (hn:l.length<=n):zbx n l a=(zQ (l.drop (zg l).2) (a+(zg l).2)).map (((zg l).1.put a)::·):=by
 have hp:=dE.2 h;obtain ⟨n,rfl⟩:∃ k,n=k+1:=⟨n-1,by omega⟩;rw[fG h h0,zcy (n:=n) (by simp only[cZ];omega)]
noncomputable def lexL (s:ByteArray):List TokD:=if 600<s.size then [] else(zQ (bl8 s) 0).getD []
noncomputable def lexE (s:ByteArray):Int:=if 600<s.size then 1 else if (zQ (bl8 s) 0).isSome then 0 else 2
end Lp
namespace Lp
open Go Go.RowKit Go.Proofs
variable {l:List UInt8}
theorem aIx {P:Program} {f:FuncId} {H:List Hp} {ds:List D} {R:D->List Hp->Prop} (h:∀ w F vs,D.repA w F ds vs->(∀ x∈H,x.ok w F)->Calls P f vs.toArray w (Ret λres w'=>Ext w w'/\∃ r,R r H/\D.rep w' F r res)):CD P f H ds R:=
 ⟨λw F vs hvs hF hH=>(h w F vs hvs hH.ok).mono λe w' he=>by
  obtain ⟨v,rfl,E,r,hR,hr⟩:=he;have k:Keep w F w' F:=⟨λ_ h=>h,λb hb hlt=>E.block b hlt (.inr (cX _))⟩;refine⟨v,rfl,F,r,H,hR,hr,⟨E.size,E.os,E.tape,E.output,E.drawn,λb hb _=>E.block b hb (.inr (cX _)),λ_ h=>h,λ_ h=>.inl h,λb hb=>jZ (hF b hb) E.size,⟨hH.apart,λx hx=>?_,λg hg=>⟨.inr hg,(hH.mine g hg).2⟩⟩⟩⟩;have ok:=hH.ok x hx;exact Hp.keep ok k (λg hg=>E.block g (Hp.lt ok hg) (.inr (cX _)))⟩
theorem aZp {P:Program} {w:World} {name:String} {g:Nat} {k:IntKind} {zs:List Int} {T:TypeId} {fr:Nat×Nat} (hg:P.globalNamed name=some g) (h:w.heap[g]?=some (.cells (zs.map λz=>Value.int k z).toArray T fr)):Lib.TabIs P w name k zs:=by
 unfold Lib.TabIs World.var?;rw[hg];show (match w.heap[g]? with | some (.cells cs _ _)=>some cs | _=>none)=_;rw[h]
theorem zeB {w w':World} (h:Below w.heap.size w w'):Ext w w':=⟨h.os,h.tape,h.output,h.size,λk hk _=>h.block k hk,by unfold Dr;trivial⟩
def ze1:Array Value:=(Lib.pow10Tab.map λz=>Value.int .u64 z).toArray
abbrev HPow:Hp:=.tab 0 ze1
abbrev HErr (ev:Value):Hp:=.tab 2 #[ev]
def EvOk (ev:Value):Prop:=ev=.nilIface\/∃ te pe,ev=.iface te pe
theorem aL8:∀ n:Nat,digL n=Lib.decDigits n:=by
 intro n
 induction n using Nat.strongRecOn with
 | _ n ih=>
  unfold digL Lib.decDigits;split
  · rfl
  rw[ih (n / 10) (by omega)]
theorem aMa:∀ n:Nat,(digL n).length<=n+1:=by
 intro n
 induction n using Nat.strongRecOn with
 | _ n ih=>
  unfold digL;split
  · simp
  rw[c7];have:=ih (n / 10) (by omega);simp only[dD,jE];omega
theorem aKc (n:Nat):(digB n).size<=n+1:=by unfold digB;rw[zah];exact aMa n
theorem ze9 (n:Nat) (hn:n<=1000000000000):CD Tryz.prog 97 [HPow] [dN n] (λr H'=>r=.s (digB n)/\H'=[HPow]):=
 aIx λw F vs hvs hok=>by
  obtain ⟨u,us,rfl,hu,hus⟩:=hvs;have hu:u=_:=hu;have hus:us=[]:=hus;subst hu;subst hus;obtain ⟨hF,T,fr,hh⟩:=hok _ cW;refine(Any.strconv_Itoa Tryz.laysM171 (n:Int) (by omega) (by omega) w (aZp (by kernel_rfl) hh)).mono λe w' he=>?_
  obtain ⟨rfl,k,os,rfl⟩:=he;refine⟨_,rfl,zeB (below_regrown w (w.drawn+k) os),.s (digB n),⟨rfl,rfl⟩,?_,?_⟩
  · show Value.string _=Value.string _;congr 1;show _=mkB (digL n);unfold mkB Lib.itoa;rw[aA (by omega),aL8];rfl
  have:=aKc n;unfold maxLen;omega
def Digs (l:List UInt8):Prop:=∀ b∈l,48<=b.toNat/\b.toNat<=57
theorem aDq:∀ (l:List UInt8) (acc:Nat),Digs l->(∃ u,Lib.parseUint10 acc l=.ok u)\/Lib.parseUint10 acc l=.range
 | [],acc,_=>.inl ⟨_,rfl⟩
 | c::r,acc,h=>by
  have hc:=h c cW;unfold Lib.parseUint10;rw[aB hc];split
  · exact .inr rfl
  split
  · exact .inr rfl
  exact aDq r _ (λb hb=>h b (dA _ hb))
theorem aC2:∀ (l:List UInt8) (acc k:Nat),Digs l->acc<10 ^ k->l.length+k<=13->Lib.parseUint10 acc l=.ok (l.foldl (λn b=>10*n+(b.toNat-48)) acc)/\l.foldl (λn b=>10*n+(b.toNat-48)) acc<10 ^ 13
 | [],acc,k,_,ha,hl=>⟨rfl,jZ ha (wR (by omega) (by simpa using hl))⟩
 | c::r,acc,k,h,ha,hl=>by
  have hc:=h c cW;have hk:10 ^ k<=10 ^ 13:=wR (by omega) (by omega);have h13:(10:Nat) ^ 13=10000000000000:=by decide
  have ih:=aC2 r (10*acc+(c.toNat-48)) (k+1) (λb hb=>h b (dA _ hb)) (by rw[Nat.pow_succ];omega) (by simp only[dD] at hl;omega);unfold Lib.parseUint10;rw[aB hc,aA (by omega),aA (by omega),Nat.mul_comm acc 10];exact ih
theorem xQ (h:Digs l) (hne:l≠[]) (hl:l.length<=13):Lib.atoiAll l=.ok (digV l:Int):=by
 cases l with
 | nil=>exact aH rfl hne
 | cons c r=>
  have hc:=h c cW;obtain ⟨h1,h2⟩:=aC2 (c::r) 0 0 h (by decide) (by omega);have h13:(10:Nat) ^ 13=10000000000000:=by decide
  rw[Lib.atoiAll_plain c r (by omega) (by omega)];unfold Lib.parseMag;rw[aA (by simp),h1];unfold Lib.signless;simp only[];rw[aA (by omega)];rfl
theorem aVh (h:Digs l) (hne:l≠[]):(∃ v,Lib.atoiAll l=.ok v)\/Lib.atoiAll l=.range:=by
 cases l with
 | nil=>exact aH rfl hne
 | cons c r=>
  have hc:=h c cW;have hp:=aDq (c::r) 0 h;rw[Lib.atoiAll_plain c r (by omega) (by omega)];unfold Lib.parseMag;rw[aA (by simp)];unfold Lib.signless;rcases hp with ⟨u,e⟩ | e
  · rw[e];simp only[];split
    · first | exact .inr rfl | exact .inl ⟨_,rfl⟩
    first | exact .inl ⟨_,rfl⟩ | exact .inr rfl
  rw[e];exact .inr rfl
theorem aYl (s:ByteArray) (ev:Value) (hev:EvOk ev) (hd:Digs (bl8 s)) (hne:bl8 s≠[]) (hs:s.size<=1000000):CD Tryz.prog 160 [HErr ev] [.s s] (λr H'=>∃ v x,r=.tup [dI v,x]/\H'=[HErr ev]/\(s.size<=13->v=(digV (bl8 s):Int)/\x=.v .nilIface)/\ -9223372036854775808<=v/\v<=9223372036854775807):=
 aIx λw F vs hvs hok=>by
  obtain ⟨u,us,rfl,hu,hus⟩:=hvs;obtain ⟨hu,hm⟩:=hu;have hus:us=[]:=hus;subst hu;subst hus;rcases aVh hd hne with ⟨v,ha⟩ | ha
  · have hb:=Lib.atoiAll_bounds ha;refine(Any.strconv_Atoi_ok wT s (by omega) v ha w).mono λe w' he=>?_
    obtain ⟨rfl,hw⟩:=he;refine⟨_,rfl,?_,.tup [dI v,.v .nilIface],⟨v,_,rfl,rfl,λh13=>⟨?_,rfl⟩,hb.1,hb.2⟩,⟨_,rfl,_,_,rfl,rfl,_,_,rfl,rfl,rfl⟩⟩
    · rcases hw with rfl | ⟨t,rfl⟩
      · exact wU
      exact zeB (Joins.below_bytesWorld _ w _ t (cU _))
    have:=xQ hd hne (by rw[zV];exact h13);rw[this] at ha;injection ha with ha;exact ha.symm
  have hb:=Lib.atoiSat_bounds (bl8 s);obtain ⟨hF,T,fr,hh⟩:=hok _ cW;have hcell:w.cell? ⟨2,0,none⟩=some ev:=by
   unfold World.cell?;rw[hh];rfl
  refine(Any.strconv_Atoi_range wT s (by omega) ha ev w hcell hev).mono λe w' he=>?_
  obtain ⟨N,rfl,_,_,hbel⟩:=he;refine⟨_,rfl,zeB hbel,.tup [dI (Lib.atoiSat (bl8 s)),.any],⟨_,_,rfl,rfl,λh13=>?_,hb.1,hb.2⟩,⟨_,rfl,_,_,rfl,rfl,_,_,rfl,rfl,rfl⟩⟩;have:=xQ hd hne (by rw[zV];exact h13);rw[this] at ha;cases ha
end Lp
namespace Lp
open Go
def rightV (v:Int):Bool:=decide (-1000000000000<=v)&&decide (v<=1000000000000)
section
variable {l:List RowD} {k:Nat} {x:RowD}
end
section
variable {l:List RowD} {i:Nat} {x y:RowD}
end
def metB:ByteArray:=⟨#[109,101,116,114,105,99]⟩
def keyL (mode:Int) (ns:List ByteArray) (l:List Lbl):List Lbl:=
 if mode=1 then aNk l ns true else if mode=2 then aNk (aNk l ns false) [metB] false else aNk l [metB] false
section
variable {f:RowD->Int×Int} {l:List RowD} {k:Nat} {x:RowD}
end
section
variable {op:ByteArray} {v:Int} {left:Bool} {l:List RowD} {k:Nat} {x:RowD}
end
def keyT (mode:Int) (ns:List ByteArray) (r:RowD):ByteArray:=a2f (keyL mode ns r.ls)
def a1j (mode:Int) (ns:List ByteArray) (l:List RowD):List ByteArray:=l.map (keyT mode ns)
def ndT (mode:Int) (ns:List ByteArray) (l:List RowD):Prop:=(a1j mode ns l).Nodup
instance (mode:Int) (ns:List ByteArray) (l:List RowD):Decidable (ndT mode ns l):=inferInstanceAs (Decidable (List.Nodup _))
section
variable {op:ByteArray} {mode:Int} {ns:List ByteArray} {a b:List RowD} {k:Nat} {x:RowD}
end
end Lp
namespace Lp
open Go
structure MatD where
 n:ByteArray
 op:Int
 v:ByteArray
def MatD.d (m:MatD):D:=.agg [.s m.n,.v (.int .i64 m.op),.s m.v]
inductive Nd where
 | mk (op text:ByteArray) (n mode:Int) (names:List ByteArray) (ms:List MatD) (kids:List Nd)
mutual
def Nd.d:Nd->D
 | .mk op text n mode names ms kids=>.agg [.s op,.s text,.v (.int .i64 n),.v (.int .i64 mode),.sh 1 (names.map D.s),.sh 3 (ms.map MatD.d),.sh 7 (Nd.ds kids)]
def Nd.ds:List Nd->List D
 | []=>[]
 | x::r=>Nd.d x::Nd.ds r
end
theorem Nd.ds_eq:∀ l:List Nd,Nd.ds l=l.map Nd.d
 | []=>rfl
 | x::r=>aG (Nd.d x::·) (Nd.ds_eq r)
theorem Nd.d_mk (op text:ByteArray) (n mode:Int) (names:List ByteArray) (ms:List MatD) (kids:List Nd):
 Nd.d (.mk op text n mode names ms kids)=.agg [.s op,.s text,.v (.int .i64 n),.v (.int .i64 mode),.sh 1 (names.map D.s),.sh 3 (ms.map MatD.d),.sh 7 (kids.map Nd.d)]:=by
 rw[<-Nd.ds_eq];rfl
abbrev nSel:ByteArray:=⟨#[115,101,108]⟩
inductive Way where
 | sums (mean:Bool)
 | least
 | most
 | many
 | rank (p:Int)
 | top (n:Int)
def aggN:List ByteArray:=[⟨#[115,117,109]⟩,⟨#[109,105,110]⟩,⟨#[109,97,120]⟩,⟨#[99,111,117,110,116]⟩,⟨#[97,118,103]⟩,⟨#[116,111,112,107]⟩,⟨#[113,117,97,110,116,105,108,101]⟩]
abbrev nTop:ByteArray:=⟨#[116,111,112,107]⟩
abbrev nQ:ByteArray:=⟨#[113,117,97,110,116,105,108,101]⟩
section
variable {f:List RowD->Int×Int} {gs:List (List RowD)} {k:Nat} {x:List RowD}
end
section
variable {mode:Int} {names:List ByteArray} {l:List RowD} {w:Way}
end
end Lp
namespace Lp
open Go
structure Rd where
 l:List TokD
 n:Int
 b:Bool
def Rd.pk (s:Rd):TokD:=s.l.headD zbm
def Rd.is (s:Rd) (k:Int) (ts:List ByteArray):Bool:=decide (s.pk.k=k)&&hasN ts s.pk.t
def Rd.take (s:Rd) (k:Int) (ts:List ByteArray):ByteArray×Bool×Rd:=if s.b=true\/s.is k ts=false then(ByteArray.empty,false,s) else(s.pk.t,true,⟨s.l.tail,s.n,s.b⟩)
def Rd.must (s:Rd) (t:ByteArray):Rd:=⟨(s.take 5 [t]).2.2.l,(s.take 5 [t]).2.2.n,(s.take 5 [t]).2.2.b||!(s.take 5 [t]).2.1⟩
def Rd.any (s:Rd) (k:Int):ByteArray×Rd:=if s.b=true\/s.pk.k≠k then(ByteArray.empty,⟨s.l,s.n,true⟩) else(s.pk.t,⟨s.l.tail,s.n,s.b⟩)
def numV (t:ByteArray):Int:=(digV (bl8 t):Int)
def Rd.number (s:Rd) (k:Int):Int×Rd:=(numV (s.any k).1,(s.any k).2)
def Rd.node (s:Rd):Rd:=⟨s.l,s.n+1,s.b||decide (200<s.n+1)⟩
abbrev zl:ByteArray:=⟨#[40]⟩
abbrev zx:ByteArray:=⟨#[41]⟩
abbrev zu:ByteArray:=⟨#[44]⟩
abbrev zH:ByteArray:=⟨#[123]⟩
abbrev zA:ByteArray:=⟨#[125]⟩
abbrev tSq:ByteArray:=⟨#[91]⟩
abbrev tSqE:ByteArray:=⟨#[93]⟩
abbrev zdB:ByteArray:=⟨#[43]⟩
abbrev z6:ByteArray:=⟨#[45]⟩
abbrev zcb:ByteArray:=⟨#[42]⟩
abbrev zeV:ByteArray:=⟨#[47]⟩
abbrev tMod:ByteArray:=⟨#[37]⟩
abbrev tEqq:ByteArray:=⟨#[61,61]⟩
abbrev tNe:ByteArray:=⟨#[33,61]⟩
abbrev tLt:ByteArray:=⟨#[60]⟩
abbrev tLe:ByteArray:=⟨#[60,61]⟩
abbrev tGt:ByteArray:=⟨#[62]⟩
abbrev tGe:ByteArray:=⟨#[62,61]⟩
abbrev tEq:ByteArray:=⟨#[61]⟩
abbrev zab:ByteArray:=⟨#[61,126]⟩
abbrev zz:ByteArray:=⟨#[33,126]⟩
abbrev tOn:ByteArray:=⟨#[111,110]⟩
abbrev zy:ByteArray:=⟨#[105,103,110,111,114,105,110,103]⟩
abbrev tBy:ByteArray:=⟨#[98,121]⟩
abbrev zm:ByteArray:=⟨#[119,105,116,104,111,117,116]⟩
abbrev tBin:ByteArray:=⟨#[98,105,110]⟩
abbrev tNeg:ByteArray:=⟨#[110,101,103]⟩
abbrev tNum:ByteArray:=⟨#[110,117,109]⟩
abbrev tAgg:ByteArray:=⟨#[97,103,103]⟩
abbrev tFn:ByteArray:=⟨#[102,110]⟩
abbrev zaJ:ByteArray:=⟨#[111,114,100,101,114]⟩
abbrev tAsc:ByteArray:=⟨#[97,115,99]⟩
abbrev zcW:ByteArray:=⟨#[100,101,115,99]⟩
abbrev zar:ByteArray:=⟨#[108,105,109,105,116]⟩
abbrev z8:ByteArray:=⟨#[111,102,102,115,101,116]⟩
def zaF:Nat->List ByteArray->Rd->List ByteArray×Rd
 | 0,o,s=>(o,s)
 | f+1,o,s=>
  if s.b=true then(o,s)
  else if ((s.any 1).2.take 5 [zu]).2.1=true then zaF f (o++[(s.any 1).1]) ((s.any 1).2.take 5 [zu]).2.2
  else(o++[(s.any 1).1],((s.any 1).2.take 5 [zu]).2.2)
def Rd.names (s:Rd):List ByteArray×Rd:=
 if (s.must zl).is 5 [zx]=true then([],(s.must zl).must zx)
 else((zaF ((s.must zl).l.length+1) [] (s.must zl)).1,(zaF ((s.must zl).l.length+1) [] (s.must zl)).2.must zx)
def Rd.mode (s:Rd) (a b:ByteArray):Int×List ByteArray×Rd:=
 if (s.take 1 [a,b]).2.1=false then(0,[],(s.take 1 [a,b]).2.2)
 else if (s.take 1 [a,b]).1=a then(1,(s.take 1 [a,b]).2.2.names) else(2,(s.take 1 [a,b]).2.2.names)
def zaz (part:Rd->Nd×Rd) (signs:List ByteArray):Nat->Nd->Rd->Nd×Rd
 | 0,o,s=>(o,s)
 | f+1,o,s=>
  if (s.take 5 signs).2.1=false then(o,(s.take 5 signs).2.2)
  else
   let m:=(s.take 5 signs).2.2.mode tOn zy;let q:=part m.2.2
   zaz part signs f (.mk tBin (s.take 5 signs).1 0 m.1 m.2.1 [] [o,q.1]) q.2.node
def Rd.level (s:Rd) (part:Rd->Nd×Rd) (signs:List ByteArray):Nd×Rd:=zaz part signs ((part s).2.l.length+1) (part s).1 (part s).2
def noNd:Nd:=.mk ByteArray.empty ByteArray.empty 0 0 [] [] []
def fnN:List ByteArray:=[⟨#[115,117,109,95,111,118,101,114]⟩,⟨#[97,118,103,95,111,118,101,114]⟩,⟨#[109,105,110,95,111,118,101,114]⟩,⟨#[109,97,120,95,111,118,101,114]⟩,⟨#[99,111,117,110,116,95,111,118,101,114]⟩,⟨#[108,97,115,116,95,111,118,101,114]⟩,⟨#[105,110,99,114,101,97,115,101]⟩,⟨#[114,97,116,101]⟩]
def zcP (t:ByteArray):Bool:=hasN aggN t||hasN fnN t||hasN [⟨#[111,114,100,101,114]⟩,⟨#[108,105,109,105,116]⟩,⟨#[111,102,102,115,101,116]⟩,⟨#[97,115,99]⟩,⟨#[100,101,115,99]⟩,⟨#[111,110]⟩,⟨#[105,103,110,111,114,105,110,103]⟩,⟨#[98,121]⟩,⟨#[119,105,116,104,111,117,116]⟩] t
def zU (t:ByteArray):Bool:=decide (t=nTop)||decide (t=nQ)
def opM (t:ByteArray):Int:=if t=tEq then 1 else if t=tNe then 2 else if t=zab then 3 else if t=zz then 4 else 0
def zW:Nat->List MatD->Rd->List MatD×Rd
 | 0,o,s=>(o,s)
 | f+1,o,s=>
  if s.b=true then(o,s)
  else
   let a:=s.any 1;let c:=a.2.take 5 [tEq,tNe,zab,zz];let v:=Rd.any ⟨c.2.2.l,c.2.2.n,c.2.2.b||!c.2.1⟩ 3;let d:=v.2.take 5 [zu]
   if d.2.1=true then zW f (o++[⟨a.1,opM c.1,v.1⟩]) d.2.2 else(o++[⟨a.1,opM c.1,v.1⟩],d.2.2)
section
variable (rm:List MatD->Bool)
def Rd.braces (s:Rd):List MatD×Rd:=
 if (s.must zH).is 5 [zA]=true then([],(s.must zH).must zA)
 else
  let r:=zW ((s.must zH).l.length+1) [] (s.must zH)
  (r.1,⟨(r.2.must zA).l,(r.2.must zA).n,(r.2.must zA).b||!rm r.1⟩)
def Rd.selName (s:Rd):ByteArray×Rd:=if s.pk.k=1/\zcP s.pk.t=false then s.any 1 else(ByteArray.empty,s)
def Rd.selMs (s:Rd) (text:ByteArray):List MatD×Rd:=if s.is 5 [zH]=true then s.braces rm else([],⟨s.l,s.n,s.b||decide (text=ByteArray.empty)⟩)
def Rd.selWin (s:Rd):Int×Rd:=if (s.take 5 [tSq]).2.1=true then((Rd.number (s.take 5 [tSq]).2.2 4).1,(Rd.number (s.take 5 [tSq]).2.2 4).2.must tSqE) else(0,(s.take 5 [tSq]).2.2)
def Rd.selector (s:Rd):Nd×Rd:=
 let a:=s.selName;let m:=a.2.selMs rm a.1;let w:=m.2.selWin
 (.mk nSel a.1 w.1 0 [] m.1 [],w.2.node)
def Rd.aggr (s:Rd) (ex:Rd->Nd×Rd):Nd×Rd:=
 let a:=s.any 1;let m:=a.2.mode tBy zm;let p:=m.2.2.must zl;let k:=if zU a.1=true then(p.number 2) else(0,p)
 let p2:=if zU a.1=true then k.2.must zu else k.2
 let q:=ex p2
 (.mk tAgg a.1 k.1 m.1 m.2.1 [] [q.1],(q.2.must zx).node)
def Rd.prim (s:Rd) (ex:Rd->Nd×Rd):Nd×Rd:=
 if s.b=true then(noNd,s)
 else if s.pk.k=2 then(.mk tNum ByteArray.empty (s.number 2).1 0 [] [] [],(s.number 2).2.node)
 else if s.is 5 [zl]=true then((ex (s.must zl)).1,(ex (s.must zl)).2.must zx)
 else if s.pk.k=1/\hasN aggN s.pk.t=true then s.aggr ex
 else if s.pk.k=1/\hasN fnN s.pk.t=true then
  let a:=s.any 1;let q:=ex (a.2.must zl)
  (.mk tFn a.1 0 0 [] [] [q.1],q.2.node.must zx)
 else s.selector rm
def zaf (ex:Rd->Nd×Rd):Nat->Rd->Nd×Rd
 | 0,s=>(noNd,s)
 | f+1,s=>
  if (s.take 5 [z6]).2.1=true then
   let q:=zaf ex f (s.take 5 [z6]).2.2
   (.mk tNeg ByteArray.empty 0 0 [] [] [q.1],q.2.node)
  else Rd.prim rm (s.take 5 [z6]).2.2 ex
def zcY (ex:Rd->Nd×Rd) (s:Rd):Nd×Rd:=s.level (λs=>zaf rm ex (s.l.length+1) s) [zcb,zeV,tMod]
def sumP (ex:Rd->Nd×Rd) (s:Rd):Nd×Rd:=s.level (zcY rm ex) [zdB,z6]
def zas:Nat->Rd->Nd×Rd
 | 0,s=>(noNd,s)
 | f+1,s=>s.level (sumP rm (zas f)) [tEqq,tNe,tLt,tLe,tGt,tGe]
def Rd.bound (s:Rd) (w:ByteArray):Int×Rd:=
 if (s.take 1 [w]).2.1=false then(-1,(s.take 1 [w]).2.2)
 else(((s.take 1 [w]).2.2.number 2).1,⟨((s.take 1 [w]).2.2.number 2).2.l,((s.take 1 [w]).2.2.number 2).2.n,((s.take 1 [w]).2.2.number 2).2.b||decide (2000<((s.take 1 [w]).2.2.number 2).1)⟩)
def Rd.order (s:Rd):Int×Rd:=
 let a:=s.take 1 [zaJ]
 if a.2.1=false then(0,a.2.2)
 else
  let d:=a.2.2.take 1 [zcW]
  if d.2.1=true then(2,d.2.2)
  else(1,⟨(d.2.2.any 1).2.l,(d.2.2.any 1).2.n,(d.2.2.any 1).2.b||decide ((d.2.2.any 1).1≠tAsc)⟩)
structure QryD where
 root:Nd
 order:Int
 limit:Int
 offset:Int
def zbN (l:List TokD):Option QryD:=
 let e:=zas rm (l.length+1) ⟨l,0,false⟩;let o:=e.2.order;let a:=o.2.bound zar;let b:=a.2.bound z8
 if b.2.b=true\/0<b.2.l.length then none else some ⟨e.1,o.1,a.1,b.1⟩
end
end Lp
namespace Lp
open Go
def Rd.w (s:Rd):Int:=s.n+2*(s.l.length:Int)
structure Stp (c:Int) (s t:Rd):Prop where
 l:t.l <:+s.l
 w:t.w<=s.w+c
 n:s.n<=t.n
theorem mS (s:Rd):Stp 0 s s:=⟨jF _,by omega,wB _⟩
theorem Stp.len {c:Int} {s t:Rd} (h:Stp c s t):t.l.length<=s.l.length:=h.l.length_le
theorem Stp.trans {c d:Int} {s t u:Rd} (h:Stp c s t) (k:Stp d t u):Stp (c+d) s u:=⟨k.l.trans h.l,by have:=h.w;have:=k.w;omega,Int.le_trans h.n k.n⟩
theorem Stp.le {c d:Int} {s t:Rd} (h:Stp c s t) (hc:c<=d):Stp d s t:=⟨h.l,by have:=h.w;omega,h.n⟩
theorem Stp.bad {c:Int} {s t:Rd} (h:Stp c s t) (b:Bool):Stp c s ⟨t.l,t.n,b⟩:=⟨h.l,h.w,h.n⟩
theorem pT {l:List TokD} (h:l≠[]):l.tail.length+1=l.length:=by
 cases l with
 | nil=>exact aH rfl h
 | cons x l=>rfl
theorem zgC {s:Rd} {k:Int} (hk:k≠0) (h:s.pk.k=k):s.l≠[]:=λe=>by
 unfold Rd.pk at h;rw[e] at h;exact hk h.symm
theorem zC (s:Rd) (k:Int) (ts:List ByteArray):Stp 0 s (s.take k ts).2.2:=by
 unfold Rd.take;split
 · exact mS s
 refine⟨uT _,?_,wB _⟩;unfold Rd.w;simp only[wL];omega
theorem zaY {s:Rd} {k:Int} {ts:List ByteArray} (hk:k≠0) (h:(s.take k ts).2.1=true):(s.take k ts).2.2.l.length+1=s.l.length/\Stp (-2) s (s.take k ts).2.2/\s.b=false/\(s.take k ts).2.2.b=false/\s.is k ts=true:=by
 unfold Rd.take at h ⊢;split at h
 · cases h
 rename_i hc;rw[aA hc];have hb:s.b=false:=by cases e:s.b with
  | false=>rfl
  | true=>exact aH (Or.inl e) hc
 have hi:s.is k ts=true:=by cases e:s.is k ts with
  | true=>rfl
  | false=>exact aH (Or.inr e) hc
 have hne:s.l≠[]:=zgC hk (by unfold Rd.is at hi;simp only[cY,aI] at hi;exact hi.1);have hl:=pT hne;refine⟨hl,⟨uT _,?_,wB _⟩,hb,hb,hi⟩;unfold Rd.w;simp only;omega
theorem zr (s:Rd) (t:ByteArray):Stp 0 s (s.must t):=(zC s 5 [t]).bad _
theorem zav (s:Rd) (k:Int):Stp 0 s (s.any k).2:=by
 unfold Rd.any;split
 · exact(mS s).bad _
 refine⟨uT _,?_,wB _⟩;unfold Rd.w;simp only[wL];omega
theorem zfS {s:Rd} {k:Int} (hk:k≠0) (hb:s.b=false) (h:s.pk.k=k):(s.any k).2.l.length+1=s.l.length/\Stp (-2) s (s.any k).2/\(s.any k).1=s.pk.t/\(s.any k).2.b=false:=by
 unfold Rd.any;rw[aA (by rw[hb,h];simp)];have hl:=pT (zgC hk h);refine⟨hl,⟨uT _,?_,wB _⟩,rfl,hb⟩;unfold Rd.w;simp only;omega
theorem zdq (s:Rd):Stp 1 s s.node:=⟨jF _,by unfold Rd.node Rd.w;simp only;omega,by unfold Rd.node;simp only;omega⟩
theorem nI:∀ (f:Nat) (o:List ByteArray) (s:Rd),Stp 0 s (zaF f o s).2
 | 0,o,s=>mS s
 | f+1,o,s=>by
  unfold zaF;split
  · exact mS s
  have h:=(zav s 1).trans (zC (s.any 1).2 5 [zu]);split
  · exact(h.trans (nI f _ _)).le (by omega)
  exact h.le (by omega)
theorem iR (s:Rd):Stp 0 s s.names.2:=by
 unfold Rd.names;split
 · exact((zr s _).trans (zr _ _)).le (by omega)
 exact(((zr s _).trans (nI _ _ _)).trans (zr _ _)).le (by omega)
theorem zaK (s:Rd) (a b:ByteArray):Stp 0 s (s.mode a b).2.2:=by
 unfold Rd.mode;split
 · exact zC s 1 _
 split
 · exact((zC s 1 _).trans (iR _)).le (by omega)
 exact((zC s 1 _).trans (iR _)).le (by omega)
theorem lS {part:Rd->Nd×Rd} {signs:List ByteArray} (hp:∀ s,Stp 1 s (part s).2):∀ (f:Nat) (o:Nd) (s:Rd),Stp 0 s (zaz part signs f o s).2
 | 0,o,s=>mS s
 | f+1,o,s=>by
  unfold zaz;split
  · exact zC s 5 _
  rename_i h;have h:(s.take 5 signs).2.1=true:=by simpa using h
  have h1:=(zaY (by decide) h).2.1;have h2:=h1.trans (zaK (s.take 5 signs).2.2 tOn zy);have h3:=h2.trans (hp ((s.take 5 signs).2.2.mode tOn zy).2.2);have h4:=h3.trans (zdq _);exact(h4.trans (lS hp f _ _)).le (by omega)
theorem kO {part:Rd->Nd×Rd} (hp:∀ s,Stp 1 s (part s).2) (s:Rd) (signs:List ByteArray):Stp 1 s (s.level part signs).2:=by
 unfold Rd.level;exact((hp s).trans (lS hp _ _ _)).le (by omega)
theorem fE:∀ (f:Nat) (o:List MatD) (s:Rd),Stp 0 s (zW f o s).2
 | 0,o,s=>mS s
 | f+1,o,s=>by
  unfold zW;split
  · exact mS s
  have h:=((((zav s 1).trans (zC (s.any 1).2 5 [tEq,tNe,zab,zz])).bad (((s.any 1).2.take 5 [tEq,tNe,zab,zz]).2.2.b||!((s.any 1).2.take 5 [tEq,tNe,zab,zz]).2.1)).trans (zav _ 3)).trans (zC _ 5 [zu]);simp only;split
  · exact(h.trans (fE f _ _)).le (by omega)
  exact h.le (by omega)
theorem zaB (s:Rd) (k:Int):Stp 0 s (s.number k).2:=zav s k
section
variable (rm:List MatD->Bool)
theorem zdk (s:Rd):Stp 0 s (s.braces rm).2:=by
 unfold Rd.braces;split
 · exact((zr s _).trans (zr _ _)).le (by omega)
 exact((((zr s _).trans (fE _ _ _)).trans (zr _ _)).bad _).le (by omega)
theorem gI (s:Rd):Stp 1 s (s.selector rm).2:=by
 have h1:Stp 0 s s.selName.2:=by unfold Rd.selName;split;exact zav s 1;exact mS s
 have h2:∀ (s:Rd) t,Stp 0 s (s.selMs rm t).2:=λs t=>by unfold Rd.selMs;split;exact zdk rm s;exact(mS s).bad _
 have h3:∀ s:Rd,Stp 0 s s.selWin.2:=λs=>by
  unfold Rd.selWin;split
  · exact(((zC s 5 [tSq]).trans (zaB _ 4)).trans (zr _ _)).le (by omega)
  exact zC s 5 _
 exact(((h1.trans (h2 _ _)).trans (h3 _)).trans (zdq _)).le (by omega)
theorem aC7 {s:Rd} {ex:Rd->Nd×Rd} (hp:∀ s,Stp 1 s (ex s).2) (hb:s.b=false) (hk:s.pk.k=1):Stp 1 s (s.aggr ex).2:=by
 have h1:=(zfS (by decide) hb hk).2.1;have h2:=(h1.trans (zaK (s.any 1).2 tBy zm)).trans (zr _ zl);unfold Rd.aggr;simp only;split
 · exact(((((h2.trans (zaB _ 2)).trans (zr _ zu)).trans (hp _)).trans (zr _ zx)).trans (zdq _)).le (by omega)
 exact(((h2.trans (hp _)).trans (zr _ zx)).trans (zdq _)).le (by omega)
theorem aBk {ex:Rd->Nd×Rd} (hp:∀ s,Stp 1 s (ex s).2) (s:Rd):Stp 1 s (s.prim rm ex).2:=by
 unfold Rd.prim;split
 · exact(mS s).le (by omega)
 rename_i hb;have hb:s.b=false:=by simpa using hb
 split
 · exact((zaB s 2).trans (zdq _)).le (by omega)
 split
 · exact(((zr s zl).trans (hp _)).trans (zr _ zx)).le (by omega)
 split
 · rename_i h;exact aC7 hp hb h.1
 split
 · rename_i h;have h1:=(zfS (by decide) hb h.1).2.1;exact((((h1.trans (zr _ zl)).trans (hp _)).trans (zdq _)).trans (zr _ zx)).le (by omega)
 exact gI rm s
theorem zb1 {ex:Rd->Nd×Rd} (hp:∀ s,Stp 1 s (ex s).2):∀ (f:Nat) (s:Rd),Stp 1 s (zaf rm ex f s).2
 | 0,s=>(mS s).le (by omega)
 | f+1,s=>by
  unfold zaf;split
  · rename_i h;exact(((zaY (by decide) h).2.1.trans (zb1 hp f _)).trans (zdq _)).le (by omega)
  exact((zC s 5 _).trans (aBk rm hp _)).le (by omega)
theorem zde {ex:Rd->Nd×Rd} (hp:∀ s,Stp 1 s (ex s).2) (s:Rd):Stp 1 s (zcY rm ex s).2:=kO (λs=>zb1 rm hp _ s) s _
theorem zb5 {ex:Rd->Nd×Rd} (hp:∀ s,Stp 1 s (ex s).2) (s:Rd):Stp 1 s (sumP rm ex s).2:=kO (λs=>zde rm hp s) s _
theorem zap:∀ (f:Nat) (s:Rd),Stp 1 s (zas rm f s).2
 | 0,s=>(mS s).le (by omega)
 | f+1,s=>by unfold zas;exact kO (λs=>zb5 rm (zap f) s) s _
end
end Lp
namespace Lp
open Go
structure RngD where
 lo:Int
 hi:Int
structure SetD where
 all:Bool
 nt:Bool
 items:List RngD
inductive Pt where
 | one (s:SetD)
 | row (l:List Pt)
 | alt (l:List Pt)
 | rep (x:Pt) (none again:Bool)
structure PR where
 l:List Int
 b:Bool
def PR.has (s:PR) (c:Int):Bool:=decide (s.l.head?=some c)
def PR.take (s:PR) (c:Int):Bool×PR:=if s.has c=true then(true,⟨s.l.tail,s.b⟩) else(false,s)
def PR.any (s:PR):Int×PR:=match s.l with
 | []=>(0,⟨[],true⟩)
 | c::r=>(c,⟨r,s.b⟩)
def PR.times (s:PR) (x:Pt):Pt×PR:=
 if s.has 42=true then(.rep x true true,(s.take 42).2)
 else if s.has 43=true then(.rep x false true,(s.take 43).2)
 else if s.has 63=true then(.rep x true false,(s.take 63).2)
 else(x,s)
def PR.member (s:PR):Int×PR:=if s.any.1=92 then s.any.2.any else s.any
def PR.item (s:PR):RngD×PR:=
 let m:=s.member
 if 1<m.2.l.length/\m.2.l.headD 0=45/\m.2.l.tail.headD 0≠93 then(⟨m.1,m.2.any.2.member.1⟩,m.2.any.2.member.2) else(⟨m.1,m.1⟩,m.2)
def zbk (nt:Bool):Nat->List RngD->PR->SetD×PR
 | 0,o,s=>(⟨false,nt,o⟩,s)
 | f+1,o,s=>
  if s.b=true then(⟨false,nt,o⟩,s)
  else if 0<o.length/\s.has 93=true then(⟨false,nt,o⟩,(s.take 93).2)
  else if s.l=[]\/s.has 93=true then(⟨false,nt,o⟩,⟨s.l,true⟩)
  else
   let x:=s.item
   zbk nt f (o++[x.1]) ⟨x.2.l,x.2.b||decide (x.1.hi<x.1.lo)⟩
def PR.cls (s:PR):SetD×PR:=zbk (s.take 94).1 ((s.take 94).2.l.length+2) [] (s.take 94).2
def sgnN:List Int:=[42,43,63,124,41,93]
def PR.atom (s:PR) (alt:PR->Pt×PR):Pt×PR:=
 let c:=s.any
 if c.1=40 then
  let x:=alt c.2
  if x.2.b=true then(x.1,x.2) else(x.1,⟨(x.2.take 41).2.l,!(x.2.take 41).1⟩)
 else if c.1=91 then(.one c.2.cls.1,c.2.cls.2)
 else if c.1=46 then(.one ⟨true,false,[]⟩,c.2)
 else if c.1=92 then(.one ⟨false,false,[⟨c.2.any.1,c.2.any.1⟩]⟩,c.2.any.2)
 else(.one ⟨false,false,[⟨c.1,c.1⟩]⟩,⟨c.2.l,c.2.b||sgnN.any (λx=>decide (x=c.1))⟩)
def PR.stop (s:PR):Bool:=decide (s.l=[])||s.has 124||s.has 41
def zaV (alt:PR->Pt×PR):Nat->List Pt->PR->List Pt×PR
 | 0,o,s=>(o,s)
 | f+1,o,s=>
  if s.b=true\/s.stop=true then(o,s)
  else
   let a:=s.atom alt;let t:=a.2.times a.1
   zaV alt f (o++[t.1]) t.2
def PR.parts (s:PR) (alt:PR->Pt×PR):Pt×PR:=(.row (zaV alt (s.l.length+1) [] s).1,(zaV alt (s.l.length+1) [] s).2)
def zcx (alt:PR->Pt×PR):Nat->List Pt->PR->List Pt×PR
 | 0,o,s=>(o,s)
 | f+1,o,s=>
  if s.has 124=true then
   let p:=(s.take 124).2.parts alt
   zcx alt f (o++[p.1]) p.2
  else(o,s)
def altF:Nat->PR->Pt×PR
 | 0,s=>(.row [],s)
 | f+1,s=>
  let p:=s.parts (altF f);let r:=zcx (altF f) (p.2.l.length+1) [p.1] p.2
  (.alt r.1,r.2)
def patR (l:List Int):Bool:=decide (l.length<=40)&&!(altF (l.length+1) ⟨l,false⟩).2.b&&decide ((altF (l.length+1) ⟨l,false⟩).2.l=[])
theorem mT (s:PR) (c:Int):(s.take c).2.l.length<=s.l.length:=by unfold PR.take;split<;>simp
theorem mU {s:PR} {c:Int} (h:s.has c=true):(s.take c).2.l.length+1=s.l.length:=by
 unfold PR.take;rw[aB h];unfold PR.has at h;simp only[aI] at h;cases e:s.l with
 | nil=>rw[e] at h;cases h
 | cons x r=>simp
theorem mV (s:PR):s.any.2.l.length<=s.l.length:=by unfold PR.any;cases e:s.l<;>simp
theorem mW {s:PR} (h:s.l≠[]):s.any.2.l.length+1=s.l.length:=by
 unfold PR.any;cases e:s.l with
 | nil=>exact aH e h
 | cons x r=>simp
theorem mX (s:PR) (x:Pt):(s.times x).2.l.length<=s.l.length:=by
 unfold PR.times;repeat' split
 all_goals first | exact mT _ _ | exact cU _
theorem PR.member_le (s:PR):s.member.2.l.length<=s.l.length:=by
 unfold PR.member;split
 · exact dY (mV _) (mV _)
 exact mV _
theorem mY {s:PR} (h:s.l≠[]):s.member.2.l.length<s.l.length:=by
 have:=mW h;unfold PR.member;split
 · have:=mV s.any.2;omega
 omega
theorem PR.item_lt {s:PR} (h:s.l≠[]):s.item.2.l.length<s.l.length:=by
 have h1:=mY h;unfold PR.item;simp only;split
 · have h2:=mV s.member.2;have h3:=PR.member_le s.member.2.any.2;simp only;omega
 exact h1
theorem tO (nt:Bool):∀ (f:Nat) (o:List RngD) (s:PR),(zbk nt f o s).2.l.length<=s.l.length
 | 0,o,s=>cU _
 | f+1,o,s=>by
  unfold zbk;split
  · exact cU _
  split
  · exact mT _ _
  split
  · exact cU _
  rename_i h;have h1:=PR.item_lt (s:=s) (λe=>h (Or.inl e));have h2:=tO nt f (o++[s.item.1]) ⟨s.item.2.l,s.item.2.b||decide (s.item.1.hi<s.item.1.lo)⟩;simp only at h2 ⊢;omega
theorem PR.cls_le (s:PR):s.cls.2.l.length<=s.l.length:=dY (tO _ _ _ _) (mT _ _)
theorem mZ {s:PR} {alt:PR->Pt×PR} (ha:∀ s,(alt s).2.l.length<=s.l.length) (h:s.l≠[]):(s.atom alt).2.l.length<s.l.length:=by
 have h1:=mW h;unfold PR.atom;simp only;split
 · have h2:=ha s.any.2;have h3:=mT (alt s.any.2).2 41;split<;>simp only<;>omega
 split
 · have:=PR.cls_le s.any.2;simp only;omega
 split
 · simp only;omega
 split
 · have:=mV s.any.2;simp only;omega
 simp only;omega
theorem rV {alt:PR->Pt×PR} (ha:∀ s,(alt s).2.l.length<=s.l.length):∀ (f:Nat) (o:List Pt) (s:PR),(zaV alt f o s).2.l.length<=s.l.length
 | 0,o,s=>cU _
 | f+1,o,s=>by
  unfold zaV;split
  · exact cU _
  rename_i h;have hne:s.l≠[]:=λe=>h (Or.inr (by unfold PR.stop;rw[aE e];rfl))
  have h1:=mZ ha hne;have h2:=mX (s.atom alt).2 (s.atom alt).1;have h3:=rV ha f (o++[((s.atom alt).2.times (s.atom alt).1).1]) ((s.atom alt).2.times (s.atom alt).1).2;simp only;omega
theorem m0 {alt:PR->Pt×PR} (ha:∀ s,(alt s).2.l.length<=s.l.length) (s:PR):(s.parts alt).2.l.length<=s.l.length:=rV ha _ _ _
theorem aBy {alt:PR->Pt×PR} (ha:∀ s,(alt s).2.l.length<=s.l.length):∀ (f:Nat) (o:List Pt) (s:PR),(zcx alt f o s).2.l.length<=s.l.length
 | 0,o,s=>cU _
 | f+1,o,s=>by
  unfold zcx;split
  · rename_i h;have h1:=mU h;have h2:=m0 ha (s.take 124).2;have h3:=aBy ha f (o++[((s.take 124).2.parts alt).1]) ((s.take 124).2.parts alt).2;simp only;omega
  exact cU _
theorem zfT:∀ (f:Nat) (s:PR),(altF f s).2.l.length<=s.l.length
 | 0,s=>cU _
 | f+1,s=>by
  unfold altF;simp only;exact dY (aBy (zfT f) _ _ _) (m0 (zfT f) s)
abbrev n7 (a b:ByteArray) (c d:Int) (e:List ByteArray) (f:List MatD) (g:List Nd):D:=.agg [.s a,.s b,.v (.int .i64 c),.v (.int .i64 d),.sh 1 (e.map D.s),.sh 3 (f.map MatD.d),.sh 7 (Nd.ds g)]
abbrev n8:D:=.agg [.v (.string ByteArray.empty),.v (.string ByteArray.empty),.v (.int .i64 0),.v (.int .i64 0),.v (.slice none 0 0),.v (.slice none 0 0),.v (.slice none 0 0)]
abbrev n9:Value:=.agg #[(.string ByteArray.empty),(.string ByteArray.empty),(.int .i64 0),(.int .i64 0),(.slice none 0 0),(.slice none 0 0),(.slice none 0 0)]
end Lp
