import Derived.Test.YtegbgpbchcjahaaGreatDoorDH
set_option linter.all false
namespace Lp
open Go
variable {k:Nat} {ns:List Int}
abbrev dN (n:Nat):D:=.v (.int .i64 (n:Int))
structure RowD where
 ls:List Lbl
 v:Int
 deriving DecidableEq
abbrev LLs:=List (List RowD)
def Lbl.d (x:Lbl):D:=.agg [.s x.n,.s x.v]
def RowD.d (x:RowD):D:=.agg [.sh 2 (x.ls.map Lbl.d),.v (.int .i64 x.v)]
def or2 (a b:Int):Int:=if a≠0 then a else b
def zbq:List Int->Int
 | []=>0
 | a::r=>if a≠0 then a else zbq r
def eZ (a b:Int):zbq [a,b]=or2 a b:=by
 unfold zbq zbq zbq or2;split
 · rfl
 split<;>omega
def zx (a b:Lbl):Int:=or2 (cmpS a.n b.n) (cmpS a.v b.v)
def zt:List Lbl->List Lbl->Int
 | [],[]=>0
 | [],_::_=> -1
 | _::_,[]=>1
 | a::r,b::s=>if zx a b≠0 then zx a b else zt r s
def cmpI (a b:Int):Int:=if a<b then -1 else if b<a then 1 else 0
def zg (o:Int) (a b:RowD):Int:=
 if o=1 then or2 (cmpI a.v b.v) (zt a.ls b.ls) else if o=2 then or2 (cmpI b.v a.v) (zt a.ls b.ls) else zt a.ls b.ls
def zbh {α:Type} {xs:List α} {x:α} (h:xs[k]?=some x):xs.drop k=x::xs.drop (k+1):=by
 have hk:=aUy h;rw[uT hk];congr 1;exact(cQ.1 h).2
def oZ {a b:List Lbl} {x y:Lbl} (hx:a[k]?=some x) (hy:b[k]?=some y) (hd:zt a b=zt (a.drop k) (b.drop k)) (hc:zx x y≠0):zt a b=zx x y:=by
 rw[hd,zbh hx,zbh hy];unfold zt;rw[aB hc]
def gP {a b:List Lbl} {x y:Lbl} (hx:a[k]?=some x) (hy:b[k]?=some y) (hd:zt a b=zt (a.drop k) (b.drop k)) (hc:zx x y=0):zt a b=zt (a.drop (k+1)) (b.drop (k+1)):=by
 rw[hd,zbh hx,zbh hy]
 conv=>lhs;unfold zt
 rw[aA (by omega)]
def yC {a b:List Lbl} {x:Lbl} (hx:a[k]?=some x) (hy:b.length<=k) (hd:zt a b=zt (a.drop k) (b.drop k)):zt a b=1:=by
 rw[hd,zbh hx,dX hy];rfl
def sK {a b:List Lbl} (hx:a.length<=k) (hd:zt a b=zt (a.drop k) (b.drop k)) (hk:k<=a.length):zt a b=if a.length<b.length then -1 else 0:=by
 rw[hd,dX hx];split
 · have:b.drop k≠[]:=(by intro h;have:=aG List.length h;simp at this;omega);cases h:b.drop k with
   | nil=>exact aH h this
   | cons y s=>rfl
 rw[dX (by omega)];rfl
def sC {x:Int} (hx:ns[k]?=some x) (h:zbq ns=zbq (ns.drop k)) (hz:x=0):zbq ns=zbq (ns.drop (k+1)):=by
 rw[h,zbh hx];conv=>lhs;unfold zbq
 rw[aA (by omega)]
def aD6 {x:Int} (hx:ns[k]?=some x) (h:zbq ns=zbq (ns.drop k)) (hz:x≠0):zbq ns=x:=by
 rw[h,zbh hx];unfold zbq;rw[aB hz]
def kD {a b:List Lbl} (h1:a.length<=k) (h2:b.length<=k) (_h:k<=a.length):zt (a.drop k) (b.drop k)=0:=by
 rw[dX h1,dX h2];rfl
def fR {a b:List Lbl} (h1:a.length<=k) (h2:k<b.length):zt (a.drop k) (b.drop k)= -1:=by
 obtain ⟨y,hy⟩:=zi b k h2;rw[dX h1,zbh hy];rfl
def fS {a b:List Lbl} (h1:k<a.length) (h2:b.length<=k):zt (a.drop k) (b.drop k)=1:=by
 obtain ⟨y,hy⟩:=zi a k h1;rw[dX h2,zbh hy];rfl
def zcM (ls:List Lbl):Bool:=(ls.take 30).all (λx=>decide (x.n.size<=200)&&decide (x.v.size<=200))&&decide (ls.length<=20)
def eP {α:Type} {f:α->Bool} {xs:List α} {x:α} (hx:xs[k]?=some x) (h:(xs.take k).all f=true) (hf:f x=true):(xs.take (k+1)).all f=true:=by
 rw[zS hx,List.all_append,h];simp[hf]
def gZ {α:Type} {f:α->Bool} {xs:List α} {k n:Nat} {x:α} (hx:xs[k]?=some x) (hk:k<n) (hf:f x=false):(xs.take n).all f=false:=by
 rw[wF];refine⟨x,?_,by simp[hf]⟩;have:(xs.take n)[k]?=some x:=by rw[j0,aB hk];exact hx
 exact dA this
def kX {α:Type} {f:α->Bool} {xs:List α} {k n:Nat} (h:(xs.take k).all f=true) (hk:xs.length<=k\/n<=k):(xs.take n).all f=true:=by
 rw[c8] at h ⊢;intro x hx;refine h x ?_;rcases hk with hk | hk
 · rw[c6 hk];exact uU hx
 have:xs.take n=(xs.take k).take n:=by rw[vN,uO hk]
 rw[this] at hx;exact uU hx
def za1 {α:Type} {xs:List α} {x:α} (h:xs[k]?=some x):x∈xs:=dA h
def zcy {α:Type} [DecidableEq α] {a b:List α} (h:a.length≠b.length):decide (a=b)=false:=by
 rw[aD];rintro rfl;exact h rfl
def nK {α:Type} [DecidableEq α] {a b:List α} {x y:α} (hx:a[k]?=some x) (hy:b[k]?=some y) (h:x≠y):decide (a=b)=false:=by
 rw[aD];rintro rfl;rw[hx] at hy;cases hy;exact h rfl
def zex {α:Type} [DecidableEq α] {a b:List α} (hl:a.length=b.length) (hk:a.length<=k) (h:a.take k=b.take k):decide (a=b)=true:=by
 rw[aE];rwa [c6 hk,c6 (by omega)] at h
def rP {α:Type} {a b:List α} {x y:α} (hx:a[k]?=some x) (hy:b[k]?=some y) (h:a.take k=b.take k) (he:x=y):a.take (k+1)=b.take (k+1):=by rw[zS hx,zS hy,h,he]
def nM {xs:List Lbl} {x:Lbl} (hx:xs[k]?=some x) (hk:k<30) (h:200<x.n.size\/200<x.v.size):zcM xs=false:=by
 unfold zcM;rw[gZ hx hk]
 · rfl
 rw[Bool.and_eq_false_iff,aJ,aJ];omega
def nT {xs:List Lbl} (h:(xs.take k).all (λx=>decide (x.n.size<=200)&&decide (x.v.size<=200))=true) (hk:xs.length<=k\/30<=k):zcM xs=decide (xs.length<=20):=by
 unfold zcM;rw[kX h hk,uV]
def aDl {ls:List Lbl} (h:zcM ls=true):ls.length<=20:=by
 unfold zcM at h;simp only[cU,aI] at h;exact h.2
end Lp
namespace Lp
open Go
def hd (ll:LLs) (k:Nat):Option RowD:=(ll[k]?).bind List.head?
def xT {a b:Int}:or2 (-a) (-b)= - or2 a b:=by unfold or2;split<;>split<;>omega
def aAx (a b:Int):cmpI b a= - cmpI a b:=by unfold cmpI;split<;>split<;>(try split)<;>omega
def gV (a b:Lbl):zx b a= - zx a b:=by unfold zx;rw[zfo a.n,zfo a.v,xT]
def fV:∀ a b:List Lbl,zt b a= - zt a b
 | [],[]=>rfl
 | [],_::_=>rfl
 | _::_,[]=>rfl
 | a::r,b::s=>by
  unfold zt;rw[gV a b,fV r s];split<;>split<;>omega
def aD3 (o:Int) (a b:RowD):zg o b a= - zg o a b:=by
 unfold zg;rw[fV a.ls b.ls];split
 · rw[aAx a.v b.v,xT]
 split
 · rw[aAx b.v a.v,xT]
 rfl
structure Tr (c:Int) (d:Int) (e:Int):Prop where
 le:c<=0->d<=0->e<=0
 lt1:c<0->d<=0->e<0
 lt2:c<=0->d<0->e<0
 e1:c=0->e=d
 e2:d=0->e=c
def oR (a b c:Ba):Tr (cmpS a b) (cmpS b c) (cmpS a c):=by
 have n1:=zfo a b;have n2:=zfo b c;have t:=aDj a b c;refine⟨t,λh1 h2=>?_,λh1 h2=>?_,λh=>?_,λh=>?_⟩
 · have:=t (by omega) h2;rcases Int.lt_or_eq_of_le this with h | h
   · exact h
   rw[zcY] at h;subst h;omega
 · have:=t h1 (by omega);rcases Int.lt_or_eq_of_le this with h | h
   · exact h
   rw[zcY] at h;subst h;omega
 · rw[zcY] at h;rw[h]
 rw[zcY] at h;rw[h]
def aI4 (a b c:Int):Tr (cmpI a b) (cmpI b c) (cmpI a c):=by
 unfold cmpI;refine⟨?_,?_,?_,?_,?_⟩<;>(repeat' split)<;>omega
def aAh {a b c d e f:Int} (h:Tr a b c) (h':Tr d e f):Tr (or2 a d) (or2 b e) (or2 c f):=by
 obtain ⟨h1,h2,h3,h4,h5⟩:=h;obtain ⟨k1,k2,k3,k4,k5⟩:=h';unfold or2;by_cases ha:a=0
 · have hc:=h4 ha;subst hc;rw[aA (by omega)];by_cases hb:c=0
   · rw[aA (by omega),aA (by omega)];exact⟨k1,k2,k3,k4,k5⟩
   rw[aB hb,aB hb];exact⟨λ_ h=>h,λ_ h=>by omega,λ_ h=>h,λ_=>rfl,λh=>by omega⟩
 by_cases hb:b=0
 · have hc:=h5 hb;subst hc;rw[aB ha,aA (by omega),aB ha];exact⟨λh _=>h,λh _=>h,λh _=>by omega,λh=>by omega,λ_=>rfl⟩
 rw[aB ha,aB hb];have:a<=0->b<=0->c<0:=λp q=>h2 (by omega) q
 refine⟨λp q=>?_,λp q=>?_,λp q=>?_,λh=>by omega,λh=>by omega⟩
 · rw[aB (by have:=this p q;omega)];exact h1 p q
 · have:=this (by omega) q;rw[aB (by omega)];exact this
 have:=this p (by omega);rw[aB (by omega)];exact this
def sO (a b c:Lbl):Tr (zx a b) (zx b c) (zx a c):=aAh (oR _ _ _) (oR _ _ _)
def Tr.zero:Tr 0 0 0:=⟨λh _=>h,λh _=>h,λ_ h=>h,λ_=>rfl,λ_=>rfl⟩
def zeR:∀ a b c:List Lbl,Tr (zt a b) (zt b c) (zt a c)
 | [],[],[]=>Tr.zero
 | [],[],_::_=>by constructor<;>(intros;simp_all [zt])
 | [],_::_,[]=>by constructor<;>(intros;simp_all [zt])
 | _::_,[],[]=>by constructor<;>(intros;simp_all [zt])
 | [],_::_,_::_=>by
  constructor<;>intros<;>simp_all [zt]
 | _::_,[],_::_=>by constructor<;>(intros;simp_all [zt])
 | _::_,_::_,[]=>by constructor<;>(intros;simp_all [zt])
 | a::r,b::s,c::t=>by
  have h:=sO a b c;have ih:=zeR r s t;have e:∀ x y:Lbl,∀ p q:List Lbl,zt (x::p) (y::q)=or2 (zx x y) (zt p q):=by
   intro x y p q
   conv=>lhs;unfold zt
   rfl
  rw[e,e,e];exact aAh h ih
def aJd (o:Int) (a b c:RowD):Tr (zg o a b) (zg o b c) (zg o a c):=by
 unfold zg;split
 · exact aAh (aI4 _ _ _) (zeR _ _ _)
 split
 · have:=aI4 c.v b.v a.v;refine aAh ⟨λh1 h2=>this.le h2 h1,λh1 h2=>this.lt2 h2 h1,λh1 h2=>this.lt1 h2 h1,this.e2,this.e1⟩ (zeR _ _ _)
 exact zeR _ _ _
def zC (r:Int):Int:=
 if r<0\/r=65533 then 0 else if (97<=r/\r<=122)\/(65<=r/\r<=90)\/r=95\/128<=r then 1 else if 48<=r/\r<=57 then 2 else if r=32\/r=9\/r=10 then 3 else 4
abbrev dR (n:Int):D:=.v (.int .i32 n)
def zdX:Nat->List Int->Bool
 | n,[]=>decide (1<=n)&&decide (n<=30)
 | n,r::rs=>if zC r≠1/\(zC r≠2\/n=0) then false else zdX (n+1) rs
def zbR (s:Ba):Bool:=zdX 0 (zaI s)
def lD {n:Nat} {r:Int} {rs:List Int} (h:zC r≠1/\(zC r≠2\/n=0)):zdX n (r::rs)=false:=by unfold zdX;rw[aB h]
def gK {n:Nat} {r:Int} {rs:List Int} (h:¬(zC r≠1/\(zC r≠2\/n=0))):zdX n (r::rs)=zdX (n+1) rs:=by
 show (if zC r≠1/\(zC r≠2\/n=0) then false else zdX (n+1) rs)=_;rw[aA h]
def zea (rs:List Int):Bool:=rs.all λr=>decide (zC r=1\/zC r=2)
def zdP {r:Int} {rs:List Int}:zea (r::rs)=(decide (zC r=1\/zC r=2)&&zea rs):=rfl
def nY:∀ (rs:List Int) (n:Nat),1<=n->zdX n rs=(zea rs&&decide (n+rs.length<=30))
 | [],n,h=>by simp[zdX,zea,h]
 | r::rs,n,h=>by
  by_cases hr:zC r=1\/zC r=2
  · rw[gK (by omega),nY rs (n+1) (by omega),zdP,aE hr,uV];congr 1;rw[decide_eq_decide,dH];omega
  rw[lD (by omega),zdP,aD hr];rfl
def zb2 (rs:List Int):zdX 0 rs=(decide (1<=rs.length)&&decide (rs.length<=30)&&decide (zC (rs.getD 0 0)=1)&&zea rs):=by
 cases rs with
 | nil=>simp[zdX]
 | cons r rs=>
  by_cases hr:zC r=1
  · rw[gK (by omega),nY rs 1 (by omega),zdP,aE (show zC r=1\/zC r=2 from .inl hr),uV,Bool.and_comm (zea rs)];have e1:decide (zC ((r::rs).getD 0 0)=1)=true:=aE hr;rw[e1,Bool.and_true];congr 1;rw[wO];simp[Nat.add_comm]
  rw[lD (by omega)];have e1:decide (zC ((r::rs).getD 0 0)=1)=false:=aD hr;rw[e1,uM];rfl
def aDh {rs:List Int} {k:Nat} {x:Int} (hx:rs[k]?=some x) (h:zea (rs.take k)=true) (hk:zC x=1\/zC x=2):zea (rs.take (k+1))=true:=by
 unfold zea at*;exact eP hx h (by simpa using hk)
def sS {rs:List Int} {k:Nat} {x:Int} (hx:rs[k]?=some x) (hk:¬(zC x=1\/zC x=2)):zea rs=false:=by
 unfold zea;rw[wF];exact⟨x,dA hx,by simpa using hk⟩
section
variable {α:Type} {c:α->α->Int}
structure Cmp (c:α->α->Int):Prop where
 neg:∀ a b,c b a= - c a b
 tr:∀ a b d,Tr (c a b) (c b d) (c a d)
def Cmp.self (h:Cmp c) (a:α):c a a=0:=by have:=h.neg a a;omega
def Srt (c:α->α->Int) (l:List α):Prop:=l.Pairwise (λa b=>c a b<=0)
def eqv (c:α->α->Int) (k x:α):Bool:=decide (c k x=0)
structure Stab (c:α->α->Int) (l r:List α):Prop where
 srt:Srt c r
 same:∀ k,r.filter (eqv c k)=l.filter (eqv c k)
def zd5 (h:Cmp c) (a:α):eqv c a a=true:=by unfold eqv;simp[h.self a]
def mR (h:Cmp c):∀ a b:List α,Srt c a->Srt c b->(∀ k,a.filter (eqv c k)=b.filter (eqv c k))->a=b
 | [],[],_,_,_=>rfl
 | [],y::b,_,_,hs=>by
  have:=hs y;rw[List.filter_cons_of_pos (zd5 h y)] at this;cases this
 | x::a,[],_,_,hs=>by
  have:=hs x;rw[List.filter_cons_of_pos (zd5 h x)] at this;cases this
 | x::a,y::b,ha,hb,hs=>by
  have hx:x∈y::b:=by
   have:x∈(y::b).filter (eqv c x):=(by rw[<-hs x,List.filter_cons_of_pos (zd5 h x)];exact cR);exact(j6.1 this).1
  have hy:y∈x::a:=by
   have:y∈(x::a).filter (eqv c y):=(by rw[hs y,List.filter_cons_of_pos (zd5 h y)];exact cR);exact(j6.1 this).1
  have h1:c y x<=0:=by
   rcases dD.1 hx with e | e
   · rw[e,h.self];exact u6 _
   exact(dG.1 hb).1 x e
  have h2:c x y<=0:=by
   rcases dD.1 hy with e | e
   · rw[e,h.self];exact u6 _
   exact(dG.1 ha).1 y e
  have h3:c x y=0:=by have:=h.neg x y;omega
  have e1:eqv c x y=true:=by unfold eqv;simp[h3]
  have:=hs x;rw[List.filter_cons_of_pos (zd5 h x),List.filter_cons_of_pos e1] at this;injection this with hxy _;subst hxy;congr 1;refine mR h a b (dG.1 ha).2 (dG.1 hb).2 (λk=>?_);have:=hs k;simp only[List.filter_cons] at this;split at this
  · injection this
  exact this
def Stab.eq (h:Cmp c) {l a b:List α} (ha:Stab c l a) (hb:Stab c l b):a=b:=mR h a b ha.srt hb.srt (λk=>(ha.same k).trans (hb.same k).symm)
def Stab.mem (h:Cmp c) {l a:List α} (ha:Stab c l a) (x:α):x∈a↔x∈l:=by
 have:=ha.same x;constructor
 · intro hx;have:x∈l.filter (eqv c x):=(by rw[<-this];exact j6.2 ⟨hx,zd5 h x⟩);exact(j6.1 this).1
 intro hx;have:x∈a.filter (eqv c x):=by rw[this];exact j6.2 ⟨hx,zd5 h x⟩
 exact(j6.1 this).1
def insB (c:α->α->Int) (x:α):List α->List α
 | []=>[x]
 | y::r=>if c x y<0 then y::insB c x r else x::y::r
def ins (c:α->α->Int) (x:α) (l:List α):List α:=(insB c x l.reverse).reverse
def yH (x:α):ins c x []=[x]:=rfl
def aOm {x y:α} {l:List α} (h:c x y<0):ins c x (l++[y])=ins c x l++[y]:=by
 unfold ins;rw[List.reverse_append];simp[insB,h]
def aPb {x y:α} {l:List α} (h:¬c x y<0):ins c x (l++[y])=l++[y,x]:=by
 unfold ins;rw[List.reverse_append];simp[insB,h]
def aBu (x:α):∀ l:List α,(insB c x l).length=l.length+1
 | []=>rfl
 | y::r=>by unfold insB;split<;>simp[aBu x r]
def aRt (x:α) (l:List α):(ins c x l).length=l.length+1:=by unfold ins;simp[aBu]
def aKr (h:Cmp c) (x:α):∀ (n:Nat) (l:List α),l.length=n->Srt c l->Srt c (ins c x l)/\(∀ k,(ins c x l).filter (eqv c k)=(l++[x]).filter (eqv c k))/\∀ z∈ins c x l,z=x\/z∈l:=by
 intro n
 induction n with
 | zero=>
  intro l hl _;have:l=[]:=dC hl;subst this;exact⟨by simp[Srt,yH],λk=>rfl,λz hz=>by simp[yH] at hz;exact .inl hz⟩
 | succ n ih=>
  intro l hl hs;obtain ⟨l,y,rfl⟩:∃ q y,l=q++[y]:=by
   have hne:l≠[]:=(by intro e;rw[e] at hl;simp at hl);exact⟨l.dropLast,l.getLast hne,(List.dropLast_concat_getLast hne).symm⟩
  have hq:=d7.1 hs;by_cases hc:c x y<0
  · obtain ⟨i1,i2,i3⟩:=ih l (by simpa using hl) hq.1;rw[aOm hc];refine⟨d7.2 ⟨i1,by simp,λa ha b hb=>?_⟩,λk=>?_,λz hz=>?_⟩
    · simp at hb;subst hb;rcases i3 a ha with rfl | ha'
      · omega
      exact hq.2.2 a ha' b (by simp)
    · rw[List.filter_append,i2 k];simp only[List.filter_append,cP];congr 1;by_cases hx:eqv c k x=true
      · have hy:eqv c k y=false:=by
         unfold eqv at hx ⊢;simp only[aI,aJ] at hx ⊢;intro hy;have e1:=(h.tr k x y).e1 hx;have e2:c k y=0:=hy;omega
        simp[hx,hy]
      simp[hx]
    rcases jO.1 hz with hz | hz
    · rcases i3 z hz with e | e
      · exact .inl e
      exact .inr (uG _ e)
    exact .inr (uK _ hz)
  rw[aPb hc];refine⟨?_,λk=>by simp,λz hz=>by simp at hz ⊢;rcases hz with h | h | h<;>simp[h]⟩;have hyx:c y x<=0:=by have:=h.neg x y;omega
  rw[show l++[y,x]=(l++[y])++[x] by simp];refine d7.2 ⟨hs,by simp,λa ha b hb=>?_⟩;simp at hb;subst hb;rcases jO.1 ha with ha | ha
  · exact(h.tr a y b).le (hq.2.2 a ha y (by simp)) hyx
  simp at ha;subst ha;exact hyx
def zr (c:α->α->Int) (l:List α):List α:=l.foldl (λr x=>ins c x r) []
def gR (l:List α) (x:α):zr c (l++[x])=ins c x (zr c l):=by unfold zr;rw[vA];rfl
def zeJ:∀ (n:Nat) (l:List α),l.length=n->(zr c l).length=n
 | 0,l,h=>by rw[dC h];rfl
 | n+1,l,h=>by
  have hne:l≠[]:=by intro e;rw[e] at h;simp at h
  rw[<-List.dropLast_concat_getLast hne,gR,aRt,zeJ n _ (by simp[h])]
def zax (h:Cmp c):∀ (n:Nat) (l:List α),l.length=n->Stab c l (zr c l)
 | 0,l,hl=>by rw[dC hl];exact⟨by simp[Srt,zr],λ_=>rfl⟩
 | n+1,l,hl=>by
  have hne:l≠[]:=by intro e;rw[e] at hl;simp at hl
  have ih:=zax h n l.dropLast (by simp[hl]);have hi:=aKr h (l.getLast hne) _ (zr c l.dropLast) rfl ih.srt
  conv=>arg 2;rw[<-List.dropLast_concat_getLast hne]
  conv=>arg 3;rw[<-List.dropLast_concat_getLast hne]
  rw[gR];refine⟨hi.1,λk=>?_⟩;rw[hi.2.1 k,List.filter_append,List.filter_append,ih.same k]
def bub (c:α->α->Int) (a:Nat):Nat->List α->List α
 | 0,L=>L
 | j+1,L=>if a<j+1 then match L[j+1]?,L[j]? with
  | some x,some y=>if c x y<0 then bub c a j ((L.set (j+1) y).set j x) else L
  | _,_=>L
 else L
def aPk {a j:Nat} {L:List α} {x y:α} (h:a<j+1) (hx:L[j+1]?=some x) (hy:L[j]?=some y) (hc:c x y<0):bub c a (j+1) L=bub c a j ((L.set (j+1) y).set j x):=by
 conv=>lhs;unfold bub
 rw[aB h,hx,hy];simp only;rw[aB hc]
def aO0 {a j:Nat} {L:List α} {x y:α} (hx:L[j+1]?=some x) (hy:L[j]?=some y) (hc:¬c x y<0):bub c a (j+1) L=L:=by
 unfold bub;split
 · rw[hx,hy];simp only;rw[aA hc]
 rfl
def xH {a j:Nat} {L:List α} {x y:α} (h:a<j) (hx:L[j]?=some x) (hy:L[j-1]?=some y) (hc:c x y<0):bub c a j L=bub c a (j-1) ((L.set j y).set (j-1) x):=by
 obtain ⟨m,rfl⟩:∃ m,j=m+1:=⟨j-1,by omega⟩;exact aPk h hx hy hc
def yX {a j:Nat} {L:List α} {x y:α} (hx:L[j]?=some x) (hy:L[j-1]?=some y) (hc:¬c x y<0):bub c a j L=L:=by
 cases j with
 | zero=>rfl
 | succ j=>exact aO0 hx hy hc
def pP {a j:Nat} {L:List α} (h:j<=a):bub c a j L=L:=by
 cases j with
 | zero=>rfl
 | succ j=>unfold bub;rw[aA (by omega)]
def aNz {A R:List α} {x y:α}:((A++y::x::R).set (A.length+1) y).set A.length x=A++x::y::R:=by
 rw[List.set_append_right _ _ (by omega),List.set_append_right _ _ (by omega)];simp
def aQn {A R:List α} {x:α}:∀ (n:Nat) (P:List α),P.length=n->bub c A.length (A.length+n) (A++P++x::R)=A++ins c x P++R:=by
 intro n
 induction n generalizing R with
 | zero=>intro P hP;rw[dC hP,pP (by omega),yH];simp
 | succ n ih=>
  intro P hP;obtain ⟨P,y,rfl⟩:∃ q y,P=q++[y]:=by
   have hne:P≠[]:=(by intro e;rw[e] at hP;simp at hP);exact⟨P.dropLast,P.getLast hne,(List.dropLast_concat_getLast hne).symm⟩
  have hPn:P.length=n:=by simpa using hP
  have e:A++(P++[y])++x::R=(A++P)++y::x::R:=by simp
  have hx:((A++P)++y::x::R)[A.length+n+1]?=some x:=by rw[d5 (by simp;omega)];simp[hPn]
  have hy:((A++P)++y::x::R)[A.length+n]?=some y:=by rw[d5 (by simp;omega)];simp[hPn]
  rw[e,show A.length+(n+1)=A.length+n+1 by omega];by_cases hc:c x y<0
  · rw[aPk (by omega) hx hy hc,aOm hc];have:=aNz (A:=A++P) (R:=R) (x:=x) (y:=y);rw[cO,hPn] at this;rw[this];have:=ih (R:=y::R) P hPn;rw[cP A P] at this ⊢;rw[this];simp
  rw[aO0 hx hy hc,aPb hc];simp
def isrt (c:α->α->Int) (a b:Nat):Nat->Nat->List α->List α
 | 0,_,L=>L
 | n+1,i,L=>if i<b then isrt c a b n (i+1) (bub c a i L) else L
def zbA {a b n i:Nat} {L:List α} (h:i<b):isrt c a b (n+1) i L=isrt c a b n (i+1) (bub c a i L):=by
 conv=>lhs;unfold isrt
 rw[aB h]
def zbp {a b n i:Nat} {L:List α} (h:b<=i):isrt c a b n i L=L:=by
 cases n with
 | zero=>rfl
 | succ n=>unfold isrt;rw[aA (by omega)]
def nB {A R:List α}:∀ (n:Nat) (S T:List α),T.length=n->isrt c A.length (A.length+S.length+n) n (A.length+S.length) (A++zr c S++T++R)=A++zr c (S++T)++R:=by
 intro n
 induction n with
 | zero=>intro S T hT;rw[dC hT];simp[isrt]
 | succ n ih=>
  intro S T hT;cases T with
  | nil=>simp at hT
  | cons x T=>
   have hTn:T.length=n:=(by simpa using hT);rw[zbA (by omega)];have hb:=aQn (c:=c) (A:=A) (R:=T++R) (x:=x) S.length (zr c S) (zeJ _ _ rfl);rw[show A++zr c S++(x::T)++R=A++zr c S++x::(T++R) by simp,hb];have:=ih (S++[x]) T hTn;rw[gR,cO,jN] at this;rw[show A.length+S.length+(n+1)=A.length+(S.length+1)+n by omega,show A.length+S.length+1=A.length+(S.length+1) by omega];rw[show A++ins c x (zr c S)++(T++R)=A++ins c x (zr c S)++T++R by simp,this];simp
def aLu (l:List α):isrt c 0 l.length l.length 1 l=zr c l:=by
 cases l with
 | nil=>rfl
 | cons x r=>
  have:=nB (c:=c) (A:=[]) (R:=[]) r.length [x] r rfl;simp only[uJ,dS,jN,dY,jL] at this;have e:zr c [x]=[x]:=rfl;rw[e] at this;have h2:isrt c 0 (x::r).length (x::r).length 1 (x::r)=isrt c 0 (1+r.length) r.length 1 ([x]++r):=by
   rw[dH,Nat.add_comm];cases hr:r.length with
   | zero=>rw[zbp (by omega),zbp (by omega)];rfl
   | succ n=>
    have more:∀ (k i:Nat) (L:List α),1+(n+1)<=i+k->isrt c 0 (1+(n+1)) (k+1) i L=isrt c 0 (1+(n+1)) k i L:=by
     intro k
     induction k with
     | zero=>intro i L hk;rw[zbp (by omega),zbp (by omega)]
     | succ k ih=>
      intro i L hk;by_cases hi:i<1+(n+1)
      · rw[zbA hi,zbA hi,ih (i+1) _ (by omega)]
      rw[zbp (by omega),zbp (by omega)]
    have:=more (n+1) 1 (x::r) (by omega);have e1:1+(n+1)=n+1+1:=(by omega);rw[e1] at this ⊢;exact this
  rw[h2,this];rfl
def fF:Cmp zx:=⟨λa b=>gV a b,λa b d=>sO a b d⟩
end
end Lp
namespace Lp
open Go
def okL (x:Lbl):Bool:=zbR x.n&&(!decide (x.v=ByteArray.empty)&&decide (x.v.size<=60))
def zdh:Option Ba->List Lbl->Bool
 | _,[]=>true
 | p,x::r=>okL x&&(!decide (p=some x.n)&&zdh (some x.n) r)
def zfD (o:List Lbl):Nat->Option Ba
 | 0=>none
 | k+1=>(o[k]?).map (·.n)
def zcp (o:List Lbl) (k:Nat):Bool:=zdh (zfD o k) (o.drop k)
def ze5 (o:List Lbl):Bool:=zcp o 0
def zaF (l:List Lbl):Bool:=decide (l.length<=8)&&ze5 (zr zx l)
def zZ (l:List Lbl):List Lbl:=bif zaF l then zr zx l else []
def zcx (l:List Lbl):Int:=bif zaF l then 0 else 1
def zfh {x:Lbl} (h:zbR x.n=false):okL x=false:=by simp[okL,h]
def zfg {x:Lbl} (h:x.v=ByteArray.empty):okL x=false:=by simp[okL,h]
def zff {x:Lbl} (h:(60:Int)<((x.v.size:Nat):Int)):okL x=false:=by
 have:¬x.v.size<=60:=by omega
 simp[okL,this]
def aL9 {x:Lbl} (h1:zbR x.n=true) (h2:¬x.v=ByteArray.empty) (h3:¬(60:Int)<((x.v.size:Nat):Int)):okL x=true:=by
 have:x.v.size<=60:=by omega
 simp[okL,h1,h2,this]
def zez {o:List Lbl} {k:Nat} {y:Lbl} (h:(0:Int)<((k:Nat):Int)) (hy:o[k-1]?=some y):zfD o k=some y.n:=by
 cases k with
 | zero=>simp at h
 | succ k=>simp at hy;simp[zfD,hy]
def aDg {o:List Lbl} {k:Nat} (h:¬(0:Int)<((k:Nat):Int)):zfD o k=none:=by
 have:k=0:=by omega
 subst this;rfl
def zb9 {α:Type} {o:List α} {k:Nat} {x:α} (h:o[k]?=some x):o.drop k=x::o.drop (k+1):=by
 obtain ⟨hk,e⟩:=cQ.1 h;rw[<-e];exact uT hk
def eW {o:List Lbl} {k:Nat} {x:Lbl} (h:o[k]?=some x):zcp o k=(okL x&&(!decide (zfD o k=some x.n)&&zcp o (k+1))):=by
 unfold zcp;rw[zb9 h];simp only[zdh,zfD,h,Option.map_some]
def aDv {o:List Lbl} {k:Nat} (h:o.length<=k):zcp o k=true:=by
 unfold zcp;rw[jZ.2 h];rfl
section
variable {l:List Lbl} {k:Nat} {x:Lbl}
def tU (h:zaF l=false):[]=zZ l/\1=zcx l:=by simp[zZ,zcx,h]
def fZ (h:(8:Int)<((l.length:Nat):Int)):[]=zZ l/\1=zcx l:=tU (by
 have:¬l.length<=8:=by omega
 simp[zaF,this])
def zbf (hk:ze5 (zr zx l)=zcp (zr zx l) k) (hx:(zr zx l)[k]?=some x) (h:okL x=false):[]=zZ l/\1=zcx l:=tU (by simp[zaF,hk,eW hx,h])
def gG (hk:ze5 (zr zx l)=zcp (zr zx l) k) (hx:(zr zx l)[k]?=some x) {n:Ba} (h:zfD (zr zx l) k=some n) (hn:n=x.n):[]=zZ l/\1=zcx l:=tU (by simp[zaF,hk,eW hx,h,hn])
def gD (hk:ze5 (zr zx l)=zcp (zr zx l) k) (hx:(zr zx l).length<=k) (h:l.length<=8):zr zx l=zZ l/\0=zcx l:=by
 have:zaF l=true:=by simp[zaF,hk,aDv hx,h]
 simp[zZ,zcx,this]
def aC8 (hk:ze5 (zr zx l)=zcp (zr zx l) k) (hx:(zr zx l)[k]?=some x) (h:okL x=true) (hp:zfD (zr zx l) k=none):ze5 (zr zx l)=zcp (zr zx l) (k+1):=by
 rw[hk,eW hx,h,hp];simp
def aFg (hk:ze5 (zr zx l)=zcp (zr zx l) k) (hx:(zr zx l)[k]?=some x) (h:okL x=true) {n:Ba} (hp:zfD (zr zx l) k=some n) (hn:¬n=x.n):ze5 (zr zx l)=zcp (zr zx l) (k+1):=by
 rw[hk,eW hx,h,hp];simp[hn]
end
def hasN (ns:List Ba) (n:Ba):Bool:=ns.any (λm=>decide (m=n))
def zb0 (l:List Lbl) (ns:List Ba) (w:Bool):List Lbl:=l.filter (λx=>hasN ns x.n==w)
def getL (l:List Lbl) (n:Ba):Ba:=((l.find? (λx=>decide (x.n=n))).map (·.v)).getD ByteArray.empty
def idxN (n:Ba):Nat->List Ba->Int
 | _,[]=> -1
 | k,m::r=>if n=m then(k:Int) else idxN n (k+1) r
def aAs (n:Ba):∀ (ns:List Ba) (k:Nat),decide (0<=idxN n k ns)=hasN ns n
 | [],k=>rfl
 | m::r,k=>by
  unfold idxN hasN;by_cases h:n=m
  · have h0:(0:Int)<=(k:Nat):=(by omega);simp[h,h0]
  have h':¬m=n:=λe=>h e.symm
  have:=aAs n r (k+1);unfold hasN at this;rw[aA h,this];simp[h']
def aQz {n m:Ba} {ns:List Ba} {k:Nat} (hm:ns[k]?=some m) (h:idxN n 0 ns=idxN n k (ns.drop k)) (e:n=m):((k:Nat):Int)=idxN n 0 ns:=by
 rw[h,zb9 hm];unfold idxN;rw[aB e]
def aFt {n m:Ba} {ns:List Ba} {k:Nat} (hm:ns[k]?=some m) (h:idxN n 0 ns=idxN n k (ns.drop k)) (e:¬n=m):idxN n 0 ns=idxN n (k+1) (ns.drop (k+1)):=by
 rw[h,zb9 hm];conv=>lhs;unfold idxN
 rw[aA e]
def aMs {n:Ba} {ns:List Ba} {k:Nat} (hk:ns.length<=k) (h:idxN n 0 ns=idxN n k (ns.drop k)): -1=idxN n 0 ns:=by
 rw[h,jZ.2 hk];rfl
def aGq {l:List Lbl} {n:Ba} {k:Nat} {x:Lbl} (hx:l[k]?=some x) (h:getL l n=getL (l.drop k) n) (e:x.n=n):x.v=getL l n:=by
 rw[h,zb9 hx];unfold getL;rw[List.find?_cons_of_pos (by simp[e])];rfl
def sJ {l:List Lbl} {n:Ba} {k:Nat} {x:Lbl} (hx:l[k]?=some x) (h:getL l n=getL (l.drop k) n) (e:¬x.n=n):getL l n=getL (l.drop (k+1)) n:=by
 rw[h,zb9 hx];unfold getL;rw[List.find?_cons_of_neg (by simp[e])]
def aA3 {l:List Lbl} {n:Ba} {k:Nat} (hk:l.length<=k) (h:getL l n=getL (l.drop k) n):ByteArray.empty=getL l n:=by
 rw[h,jZ.2 hk];rfl
def aEa {l:List Lbl} {ns:List Ba} {w:Bool} {k:Nat} {x:Lbl} (hx:l[k]?=some x) (h:(hasN ns x.n==w)=true):zb0 (l.take (k+1)) ns w=zb0 (l.take k) ns w++[x]:=by
 rw[zS hx];unfold zb0;rw[List.filter_append];simp[h]
def aC9 {l:List Lbl} {ns:List Ba} {w:Bool} {k:Nat} {x:Lbl} (hx:l[k]?=some x) (h:(hasN ns x.n==w)=false):zb0 (l.take (k+1)) ns w=zb0 (l.take k) ns w:=by
 rw[zS hx];unfold zb0;rw[List.filter_append];simp[h]
def kJ (l:List Lbl) (ns:List Ba) (w:Bool):(zb0 l ns w).length<=l.length:=List.length_filter_le _ _
end Lp
namespace Lp
open Go
variable {s:Ba} {p:Nat} {r:List UInt8}
def encR (x:Nat):List UInt8:=
 if x<=127 then [UInt8.ofNat (x % 256)]
 else if x<=2047 then [UInt8.ofNat (192+x / 64 % 256),UInt8.ofNat (128+x % 256 % 64)]
 else if x<55296\/(57343<x/\x<=65535) then [UInt8.ofNat (224+x / 4096 % 256),UInt8.ofNat (128+x / 64 % 256 % 64),UInt8.ofNat (128+x % 256 % 64)]
 else if 65535<x/\x<=1114111 then [UInt8.ofNat (240+x / 262144 % 256),UInt8.ofNat (128+x / 4096 % 256 % 64),UInt8.ofNat (128+x / 64 % 256 % 64),UInt8.ofNat (128+x % 256 % 64)]
 else [239,191,189]
def hasP (a b:Ba):Bool:=decide (b.size<=a.size)&&decide (a.extract 0 b.size=b)
def wide:Ba:=⟨#[239,191,189]⟩
def hexd:Ba:=⟨#[48,49,50,51,52,53,54,55,56,57,97,98,99,100,101,102]⟩
def hexB (n:Nat):UInt8:=hexd[n]?.getD 0
def zfp (s:Ba) (p:Nat):Nat:=(s[p]?.getD 0).toNat
def zdV (s:Ba) (p:Nat):List UInt8:=
 if decR s p=34\/decR s p=92 then 92::encR (decR s p)
 else if decR s p=10 then [92,110]
 else if decR s p=65533/\hasP (s.extract p s.size) wide=false then [92,120,hexB (zfp s p / 16),hexB (zfp s p % 16)]
 else encR (decR s p)
def zaC (s:Ba) (p:Nat):List UInt8:=if h:p<s.size then zdV s p++zaC s (p+decW s p) else []
termination_by s.size-p
decreasing_by have:=z6 s p;omega
def zcq (h:p<s.size):zaC s p=zdV s p++zaC s (p+decW s p):=by
 conv=>lhs;unfold zaC
 rw[dif_pos h]
def zcr (h:s.size<=p):zaC s p=[]:=by
 unfold zaC;rw[dif_neg (by omega)]
def zbe (s:Ba):List UInt8:=34::(zaC s 0++[34])
def zcd (s:Ba):Ba:=⟨(zbe s).toArray⟩
def aWw (sep:Ba):List Ba->List UInt8
 | []=>[]
 | [x]=>x.data.toList
 | x::y::r=>x.data.toList++sep.data.toList++aWw sep (y::r)
def aYu (sep:Ba) (l:List Ba):Ba:=⟨(aWw sep l).toArray⟩
def aY3 (x:Lbl):Ba:=x.n++(⟨#[61]⟩:Ba)++zcd x.v
def aZ0 (l:List Lbl):Ba:=(⟨#[123]⟩:Ba)++aYu ⟨#[44]⟩ (l.map aY3)++(⟨#[125]⟩:Ba)
def aTv (h:decR s p=34\/decR s p=92):zdV s p=[92]++encR (decR s p):=by unfold zdV;rw[aB h];rfl
def aTe (h:¬(decR s p=34\/decR s p=92)) (h2:decR s p=10):zdV s p=[92,110]:=by unfold zdV;rw[aA h,aB h2]
def aRs (h:¬(decR s p=34\/decR s p=92)) (h2:¬decR s p=10) (h3:decR s p=65533/\hasP (s.extract p s.size) wide=false):zdV s p=[92,120,hexB (zfp s p / 16),hexB (zfp s p % 16)]:=by unfold zdV;rw[aA h,aA h2,aB h3]
def aEx (h:¬(decR s p=34\/decR s p=92)) (h2:¬decR s p=10) (h3:¬(decR s p=65533/\hasP (s.extract p s.size) wide=false)):zdV s p=encR (decR s p):=by unfold zdV;rw[aA h,aA h2,aA h3]
def rK {u:UInt8} (h:s[p]?=some u):u.toNat=zfp s p:=by unfold zfp;rw[h];rfl
def cmpLbl_eq {a b:Lbl}:zx a b=0↔a=b:=by
 constructor
 · intro h;unfold zx or2 at h;split at h
   · contradiction
   rename_i h1;have h1:cmpS a.n b.n=0:=(by omega);have e1:=(zcY _ _).1 h1;have e2:=(zcY _ _).1 h;obtain ⟨_,_⟩:=a;obtain ⟨_,_⟩:=b;simp at e1 e2;simp[e1,e2]
 rintro rfl;have:=gV a a;omega
def cmpLs_eq:∀ {a b:List Lbl},zt a b=0↔a=b
 | [],[]=>by simp[zt]
 | [],_::_=>by simp[zt]
 | _::_,[]=>by simp[zt]
 | a::r,b::s=>by
  unfold zt;split
  · rename_i h;constructor
    · intro h';contradiction
    intro h';cases h';exact aH (cmpLbl_eq.2 rfl) h
  rename_i h;have h:zx a b=0:=by omega
  rw[cmpLs_eq,cmpLbl_eq.1 h];simp
def kQ (l:List Lbl):(zcx l=0/\zaF l=true/\zZ l=zr zx l)\/(zcx l=1/\zZ l=[]):=by
 unfold zZ zcx;cases zaF l<;>simp
def aJu (l:List Lbl):Srt zx (zZ l):=by
 rcases kQ l with ⟨_,_,h⟩ | ⟨_,h⟩<;>rw[h]
 · exact(zax fF _ l rfl).srt
 exact List.Pairwise.nil
def xZ {l:List Lbl} (h:zaF l=true):l.length<=8:=by unfold zaF at h;simp at h;exact h.1
def aFs {l:List Lbl} (h:zaF l=true):ze5 (zr zx l)=true:=by unfold zaF at h;simp at h;exact h.2
def rJ {r:Nat} (h0:0<s.size) (h1:decR s 0=r) (h2:s.size<=decW s 0):zaI s=[(r:Int)]:=by
 unfold zaI;rw[zaw h0,za2 (by omega),h1]
def NSrt (l:List Lbl):Prop:=l.Pairwise (λa b=>cmpS a.n b.n<0)
def aMz {a b:Lbl} (h:zx a b<=0):cmpS a.n b.n<=0:=by
 unfold zx or2 at h;split at h<;>omega
def nS:∀ (l:List Lbl) (p:Option Ba),Srt zx l->zdh p l=true->NSrt l/\∀ x∈l,okL x=true
 | [],_,_,_=>⟨List.Pairwise.nil,λ_ h=>by cases h⟩
 | x::r,p,hs,ht=>by
  have hs':=dG.1 hs;unfold zdh at ht;simp only[cU] at ht;obtain ⟨h1,h2,h3⟩:=ht;have ih:=nS r (some x.n) hs'.2 h3;refine⟨dG.2 ⟨?_,ih.1⟩,?_⟩
  · intro y hy;cases r with
    | nil=>cases hy
    | cons z r=>
     have hxz:cmpS x.n z.n<0:=by
      have h4:=aMz (hs'.1 z cR);have h5:¬x.n=z.n:=by
       unfold zdh at h3;simp only[cU,uA,aJ] at h3;intro e;exact h3.2.1 (aG some e)
      have h6:cmpS x.n z.n≠0:=λe=>h5 ((zcY _ _).1 e)
      omega
     rcases dD.1 hy with e | e
     · rw[e];exact hxz
     have h7:=(dG.1 ih.1).1 y e;exact(oR x.n z.n y.n).lt1 hxz (by omega)
  intro y hy;rcases dD.1 hy with e | e
  · rw[e];exact h1
  exact ih.2 y e
def aPi {l:List Lbl} (h:zcx l=0):NSrt (zZ l)/\∀ x∈zZ l,okL x=true:=by
 rcases kQ l with ⟨_,h2,h3⟩ | ⟨h2,_⟩
 · have hs:=aJu l;rw[h3] at hs ⊢;exact nS _ none hs (aFs h2)
 omega
def bts (s:Ba) (p:Nat):List UInt8:=s.data.toList.drop p
def za6 (h:p<s.size):bts s p=s.get! p::bts s (p+1):=by
 unfold bts;have h':p<s.data.toList.length:=by simpa using h
 rw[uT h'];congr 1;simp[ByteArray.get!,h]
def pW {a b:Nat} (h:UInt8.ofNat a=UInt8.ofNat b):a % 256=b % 256:=by
 have:=aG UInt8.toNat h;simpa using this
def zfA {b:UInt8} {n:Nat} (h:b.toNat=n % 256):b=UInt8.ofNat n:=by
 apply uP.1;simpa using h
def zbC:(s.extract p s.size).data.toList=bts s p:=by
 unfold bts;simp only[vI,vQ,List.extract];rw[c6];simp
def aMl (h:hasP (s.extract p s.size) wide=true):∃ r,bts s p=239::191::189::r:=by
 unfold hasP at h;simp only[cU,aI] at h;have e:=aG (λb:Ba=>b.data.toList) h.2;simp only[vI,vQ,List.extract] at e;have e2:(s.extract p s.size).data.toList.take 3=[239,191,189]:=by
  have e3:List.take wide.size (List.take (s.size-p) (List.drop p s.data.toList))=[239,191,189]:=by simpa [wide] using e
  rw[show wide.size=3 from rfl] at e3;simpa using e3
 rw[zbC] at e2;refine⟨(bts s p).drop 3,?_⟩;have:=(dF 3 (bts s p)).symm;rw[e2] at this;simpa using this
def fG (h:s.size<=p):bts s p=[]:=by unfold bts;rw[jZ];simpa using h
def aPd {a:UInt8} (h:bts s p=a::r):p<s.size:=by
 rcases cZ p s.size with h' | h'
 · exact h'
 rw[fG h'] at h;cases h
def rA {a:UInt8} (h:bts s p=a::r):s.get! p=a/\bts s (p+1)=r:=by
 rw[za6 (aPd h)] at h;injection h with h1 h2;exact⟨h1,h2⟩
def rW (s:Ba) (p:Nat) (h:p<s.size):
 (bts s p=encR (decR s p)++bts s (p+decW s p))\/(decR s p=65533/\decW s p=1/\hasP (s.extract p s.size) wide=false):=by
 by_cases hw:hasP (s.extract p s.size) wide=true
 · left;obtain ⟨r,hr⟩:=aMl hw;obtain ⟨g0,b1⟩:=rA hr;obtain ⟨g1,b2⟩:=rA b1;obtain ⟨g2,b3⟩:=rA b2;have l2:=aPd b2;have hd:Utf8.decode s p=(65533,3):=by
    unfold Utf8.decode;simp only[j5,g0,g1,show p+2=p+1+1 from rfl,g2,show p+1<s.size by omega,l2,decide_true,uV];simp[Utf8.valid]
   have e1:decR s p=65533:=(by unfold decR;rw[hd]);have e2:decW s p=3:=(by unfold decW;rw[hd]);rw[e1,e2,hr,show p+3=p+1+1+1 from rfl,b3];rfl
 have hw:hasP (s.extract p s.size) wide=false:=by simpa using hw
 have l0:(s.get! p).toNat<256:=uY _;have l1:(s.get! (p+1)).toNat<256:=uY _;have l2:(s.get! (p+2)).toNat<256:=uY _;have l3:(s.get! (p+3)).toNat<256:=uY _;have c0:=za6 h;unfold decR decW;unfold Utf8.decode;simp only[j5,Utf8.runeError,cU,aI,beq_iff_eq];by_cases h1:(s.get! p).toNat<128
 · left;rw[aB h1];show _=encR (s.get! p).toNat++_;unfold encR;rw[aB (show (s.get! p).toNat<=127 by omega),c0];congr 1;exact zfA (by omega)
 rw[aA h1];by_cases h2:(s.get! p).toNat / 32=6/\p+1<s.size/\(s.get! (p+1)).toNat / 64=2
 · rw[aB h2];have c1:=za6 h2.2.1;by_cases h3:(s.get! p).toNat % 32*64+(s.get! (p+1)).toNat % 64>=128
   · left;rw[aB h3];show _=encR ((s.get! p).toNat % 32*64+(s.get! (p+1)).toNat % 64)++_;unfold encR;rw[aA (by omega),aB (by omega),c0,c1];show _=_::_::_;congr 1
     · exact zfA (by omega)
     congr 1;exact zfA (by omega)
   right;rw[aA h3];exact⟨rfl,rfl,hw⟩
 rw[aA h2];by_cases h4:((s.get! p).toNat / 16=14/\p+1<s.size/\(s.get! (p+1)).toNat / 64=2)/\p+2<s.size/\(s.get! (p+2)).toNat / 64=2
 · rw[aB h4];have c1:=za6 h4.1.2.1;have c2:=za6 h4.2.1;by_cases h3:(s.get! p).toNat % 16*4096+(s.get! (p+1)).toNat % 64*64+(s.get! (p+2)).toNat % 64>=2048/\Utf8.valid (((s.get! p).toNat % 16*4096+(s.get! (p+1)).toNat % 64*64+(s.get! (p+2)).toNat % 64:Nat):Int)=true
   · left;rw[aB h3];show _=encR ((s.get! p).toNat % 16*4096+(s.get! (p+1)).toNat % 64*64+(s.get! (p+2)).toNat % 64)++_;have hv:=h3.2;unfold Utf8.valid at hv;simp only[jJ,cU,aI] at hv;unfold encR;rw[aA (by omega),aA (by omega),aB (by omega),c0,c1,c2];show _=_::_::_::_;congr 1
     · exact zfA (by omega)
     congr 1
     · exact zfA (by omega)
     congr 1;exact zfA (by omega)
   right;rw[aA h3];exact⟨rfl,rfl,hw⟩
 rw[aA h4];by_cases h5:(((s.get! p).toNat / 8=30/\p+1<s.size/\(s.get! (p+1)).toNat / 64=2)/\p+2<s.size/\(s.get! (p+2)).toNat / 64=2)/\p+3<s.size/\(s.get! (p+3)).toNat / 64=2
 · rw[aB h5];have c1:=za6 h5.1.1.2.1;have c2:=za6 h5.1.2.1;have c3:=za6 h5.2.1;by_cases h3:(s.get! p).toNat % 8*262144+(s.get! (p+1)).toNat % 64*4096+(s.get! (p+2)).toNat % 64*64+(s.get! (p+3)).toNat % 64>=65536/\Utf8.valid (((s.get! p).toNat % 8*262144+(s.get! (p+1)).toNat % 64*4096+(s.get! (p+2)).toNat % 64*64+(s.get! (p+3)).toNat % 64:Nat):Int)=true
   · left;rw[aB h3];show _=encR ((s.get! p).toNat % 8*262144+(s.get! (p+1)).toNat % 64*4096+(s.get! (p+2)).toNat % 64*64+(s.get! (p+3)).toNat % 64)++_;have hv:=h3.2;unfold Utf8.valid at hv;simp only[jJ,cU,aI] at hv;unfold encR;rw[aA (by omega),aA (by omega),aA (by omega),aB (by omega),c0,c1,c2,c3];show _=_::_::_::_::_;congr 1
     · exact zfA (by omega)
     congr 1
     · exact zfA (by omega)
     congr 1
     · exact zfA (by omega)
     congr 1;exact zfA (by omega)
   right;rw[aA h3];exact⟨rfl,rfl,hw⟩
 right;rw[aA h5];exact⟨rfl,rfl,hw⟩
inductive Tok:List UInt8->List UInt8->Prop where
 | esc {c:UInt8}:c=34\/c=92->Tok [92,c] [c]
 | nl:Tok [92,110] [10]
 | hex {b:UInt8}:Tok [92,120,hexB (b.toNat / 16),hexB (b.toNat % 16)] [b]
 | raw {c:Nat}:c<1114112->c≠34->c≠92->c≠10->Tok (encR c) (encR c)
def gS (h:p<s.size):zfp s p=(s.get! p).toNat:=by
 unfold zfp;congr 1;simp[ByteArray.get!,h];rfl
def zdJ (h:p<s.size):∃ src,Tok (zdV s p) src/\bts s p=src++bts s (p+decW s p):=by
 have hl:=zcW s p;rcases rW s p h with e | ⟨e1,e2,e3⟩
 · by_cases h1:decR s p=34\/decR s p=92
   · refine⟨encR (decR s p),?_,e⟩;rw[aTv h1];rcases h1 with h1 | h1<;>rw[h1]
     · exact .esc (.inl rfl)
     exact .esc (.inr rfl)
   by_cases h2:decR s p=10
   · refine⟨encR (decR s p),?_,e⟩;rw[aTe h1 h2,h2];exact .nl
   by_cases h3:decR s p=65533/\hasP (s.extract p s.size) wide=false
   · exfalso;have hr:bts s p=239::191::189::bts s (p+decW s p):=(by rw[e,h3.1];rfl);have:hasP (s.extract p s.size) wide=true:=by
      unfold hasP;have e4:=zbC (s:=s) (p:=p);rw[hr] at e4;have hsz:3<=(s.extract p s.size).size:=by
       have:=aG List.length e4;simp only[Array.length_toList,dH] at this;show 3<=(s.extract p s.size).data.size;omega
      have hx:(s.extract p s.size).extract 0 wide.size=wide:=by
       apply wH;apply uZ.1;rw[vI,vQ,List.extract,e4];rfl
      rw[hx,show wide.size=3 from rfl,aE hsz];simp
     rw[h3.2] at this;cases this
   refine⟨encR (decR s p),?_,e⟩;rw[aEx h1 h2 h3];exact .raw hl (λe=>h1 (.inl e)) (λe=>h1 (.inr e)) h2
 refine⟨[s.get! p],?_,?_⟩
 · rw[aRs (by rw[e1];decide) (by rw[e1];decide) ⟨e1,e3⟩,gS h];exact .hex
 rw[e2];exact za6 h
def elen (b:UInt8):Nat:=if b.toNat<192 then 1 else if b.toNat<224 then 2 else if b.toNat<240 then 3 else 4
def olen:List UInt8->Nat
 | []=>0
 | b::r=>if b=92 then(if r.head?=some 120 then 4 else 2) else elen b
def gI {c:Nat} (hc:c<1114112):∃ b r,encR c=b::r/\(encR c).length=elen b/\(b=92->c=92)/\(b=34->c=34):=by
 have ne:∀ n m:Nat,m<128->128<=n % 256->UInt8.ofNat n≠UInt8.ofNat m:=λn m hm hn e=>by have:=pW e;omega
 unfold encR elen;split
 · refine⟨_,_,rfl,?_,?_,?_⟩
   · have:(UInt8.ofNat (c % 256)).toNat<192:=(by simp;omega);rw[aB this];rfl
   · intro e;have:=pW (b:=92) e;omega
   intro e;have:=pW (b:=34) e;omega
 split
 · refine⟨_,_,rfl,?_,?_,?_⟩
   · have h1:¬(UInt8.ofNat (192+c / 64 % 256)).toNat<192:=(by simp;omega);have h2:(UInt8.ofNat (192+c / 64 % 256)).toNat<224:=(by simp;omega);rw[aA h1,aB h2];rfl
   · intro e;exact aH e (ne _ 92 (by decide) (by omega))
   intro e;exact aH e (ne _ 34 (by decide) (by omega))
 split
 · refine⟨_,_,rfl,?_,?_,?_⟩
   · have h1:¬(UInt8.ofNat (224+c / 4096 % 256)).toNat<192:=(by simp;omega);have h2:¬(UInt8.ofNat (224+c / 4096 % 256)).toNat<224:=(by simp;omega);have h3:(UInt8.ofNat (224+c / 4096 % 256)).toNat<240:=(by simp;omega);rw[aA h1,aA h2,aB h3];rfl
   · intro e;exact aH e (ne _ 92 (by decide) (by omega))
   intro e;exact aH e (ne _ 34 (by decide) (by omega))
 split
 · refine⟨_,_,rfl,?_,?_,?_⟩
   · have h1:¬(UInt8.ofNat (240+c / 262144 % 256)).toNat<192:=(by simp;omega);have h2:¬(UInt8.ofNat (240+c / 262144 % 256)).toNat<224:=(by simp;omega);have h3:¬(UInt8.ofNat (240+c / 262144 % 256)).toNat<240:=(by simp;omega);rw[aA h1,aA h2,aA h3];rfl
   · intro e;exact aH e (ne _ 92 (by decide) (by omega))
   intro e;exact aH e (ne _ 34 (by decide) (by omega))
 refine⟨_,_,rfl,by decide,λe=>aH e (by decide),λe=>aH e (by decide)⟩
def aE7 {o s:List UInt8} (h:Tok o s) (r:List UInt8):olen (o++r)=o.length:=by
 cases h with
 | esc h=>rcases h with h | h<;>rw[h]<;>rfl
 | nl=>rfl
 | hex=>rfl
 | raw hc _ h92 _=>
  obtain ⟨b,t,e,el,hb,_⟩:=gI hc;rw[el,e];show (if b=92 then _ else elen b)=_;rw[aA (λe=>h92 (hb e))]
def aCg:∀ a:Nat,a<16->∀ b:Nat,b<16->hexB a=hexB b->a=b:=by decide
def aSy {o s t:List UInt8} (h:Tok o s) (h':Tok o t):s=t:=by
 have hh:∀ {c:Nat} {x:UInt8} {l:List UInt8},c<1114112->c≠92->encR c=92::l->False:=λ{c _ l} hc hn e=>by
  obtain ⟨b,t,e',_,hb,_⟩:=gI hc;rw[e'] at e;injection e with e _;exact hn (hb e)
 generalize ho:o=o' at h';cases h with
 | esc h=>
  cases h' with
  | esc _=>cases ho;rfl
  | nl=>injection ho with _ ho;injection ho with ho;rw[ho] at h;exact aH h (by decide)
  | hex=>cases ho
  | raw hc _ h92 _=>exact(hh (x:=0) hc h92 ho.symm).elim
 | nl=>
  cases h' with
  | esc h=>injection ho with _ ho;injection ho with ho;rw[<-ho] at h;exact aH h (by decide)
  | nl=>rfl
  | hex=>cases ho
  | raw hc _ h92 _=>exact(hh (x:=0) hc h92 ho.symm).elim
 | @hex a=>
  cases h' with
  | esc h=>cases ho
  | nl=>cases ho
  | @hex b=>
   injection ho with _ ho;injection ho with _ ho;injection ho with h1 ho;injection ho with h2 _;have la:=uY a;have lb:=uY b;have e1:=aCg _ (by omega) _ (by omega) h1;have e2:=aCg _ (by omega) _ (by omega) h2;have:a=b:=uP.1 (by omega);rw[this]
  | raw hc _ h92 _=>exact(hh (x:=0) hc h92 ho.symm).elim
 | raw hc _ h92 _=>
  cases h' with
  | esc h=>exact(hh (x:=0) hc h92 ho).elim
  | nl=>exact(hh (x:=0) hc h92 ho).elim
  | hex=>exact(hh (x:=0) hc h92 ho).elim
  | raw _ _ _ _=>exact ho
def aPg {o s r t:List UInt8} (h:Tok o s):o++r≠34::t:=by
 cases h with
 | esc _=>intro e;injection e with e _;revert e;decide
 | nl=>intro e;injection e with e _;revert e;decide
 | hex=>intro e;injection e with e _;revert e;decide
 | raw hc h34 _ _=>
  obtain ⟨b,u,e,_,_,hb⟩:=gI hc;rw[e];intro e';injection e' with e' _;exact h34 (hb e')
def aUp {o s o' s' r r':List UInt8} (h:Tok o s) (h':Tok o' s') (e:o++r=o'++r'):s=s'/\r=r':=by
 have hl:o.length=o'.length:=by rw[<-aE7 h r,<-aE7 h' r',e]
 obtain ⟨e1,e2⟩:=List.append_inj e hl;subst e1;exact⟨aSy h h',e2⟩
def aFo:∀ (n:Nat) (s t:Ba) (p q:Nat) (r r':List UInt8),s.size-p=n->zaC s p++34::r=zaC t q++34::r'->bts s p=bts t q/\r=r':=by
 intro n
 induction n using Nat.strongRecOn with
 | _ n ih=>
  intro s t p q r r' hn e;rcases cZ p s.size with h | h<;>rcases cZ q t.size with h' | h'
  · obtain ⟨s1,k1,b1⟩:=zdJ h;obtain ⟨s2,k2,b2⟩:=zdJ h';rw[zcq h,zcq h',cP,cP] at e;obtain ⟨e1,e2⟩:=aUp k1 k2 e;have hp:=z6 s p;obtain ⟨e3,e4⟩:=ih _ (by omega) s t _ _ r r' rfl e2;rw[b1,b2,e1,e3];exact⟨rfl,e4⟩
  · obtain ⟨s1,k1,_⟩:=zdJ h;rw[zcq h,zcr h',cP] at e;exact(aPg k1 e).elim
  · obtain ⟨s2,k2,_⟩:=zdJ h';rw[zcr h,zcq h',cP] at e;exact(aPg k2 e.symm).elim
  rw[zcr h,zcr h'] at e;injection e with _ e;rw[fG h,fG h'];exact⟨rfl,e⟩
def aTk {s t:Ba} (h:bts s 0=bts t 0):s=t:=by
 unfold bts at h;simp only[d8] at h;exact wH (uZ.1 h)
def aD4 {s t:Ba} (h:zcd s=zcd t):s=t:=by
 have e:=aG (λb:Ba=>b.data.toList) h;simp only[zcd,zbe] at e;injection e with _ e;exact aTk (aFo _ s t 0 0 [] [] rfl e).1
def yD {p k:Nat}:(s.extract p s.size).get! k=s.get! (p+k):=by
 have hsz:(s.extract p s.size).size=s.size-p:=by simp
 rcases cZ (p+k) s.size with h | h
 · have h1:=za6 (s:=s.extract p s.size) (p:=k) (by omega);have h2:=za6 h;have e:bts (s.extract p s.size) k=bts s (p+k):=by
    show (s.extract p s.size).data.toList.drop k=_;rw[zbC];unfold bts;rw[List.drop_drop]
   rw[e,h2] at h1;injection h1 with h1 _;exact h1.symm
 have e1:(s.extract p s.size).get! k=default:=by
  show (s.extract p s.size).data[k]! =_;exact getElem!_neg _ _ (by simpa using (by omega:s.size-p<=k))
 have e2:s.get! (p+k)=default:=by
  show s.data[p+k]! =_;exact getElem!_neg _ _ (by simpa using h)
 rw[e1,e2]
def fL {p q:Nat}:Utf8.decode (s.extract p s.size) q=Utf8.decode s (p+q):=by
 have hsz:(s.extract p s.size).size=s.size-p:=by simp
 have hc:∀ k,decide (q+k<s.size-p)=decide (p+q+k<s.size):=λk=>by rw[decide_eq_decide];omega
 unfold Utf8.decode;simp only[yD,hsz,hc,<-vH]
def rD {p q:Nat}:decW (s.extract p s.size) q=decW s (p+q):=by unfold decW;rw[fL]
def fC {p q:Nat}:decR (s.extract p s.size) q=decR s (p+q):=by unfold decR;rw[fL]
def zfZ (s:Ba) (p:Nat):(bts s p).length=s.size-p:=by unfold bts;simp
end Lp
