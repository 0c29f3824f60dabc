import Derived.Test.YtegbgpbchcjahaaGreatDoorEngI
set_option linter.all false
namespace Lp
open Go Go.RowKit
inductive D where
 | v (u:Value)
  | ov (u:Value)
 | s (b:Ba)
 | agg (cs:List D)
 | tup (cs:List D)
 | ifc (t:TypeId) (d:D)
 | fn (f:FuncId) (first cap:List D)
  | sh (z:Nat) (xs:List D)
  | shr (z n:Nat) (xs:List D)
  | el (x:D) (o:Nat)
 | any
def One (u:Value):Prop:=∀ c∈u.cells.toList,c.oneCell'=true
abbrev vcs (u:Value):List Value:=u.cells.toList
def One.one {u:Value} (h:u.oneCell'=true):One u:=by
 intro c hc;rw[zdN h] at hc;simp at hc;exact hc ▸ h
def aHp {u:Value} (h:u.oneCell'=true):vcs u=[u]:=by unfold vcs;rw[zdN h]
mutual
def D.rep (w:World) (F:Nat->Prop):D->Value->Prop
 | .v u,a=>a=u
 | .ov u,a=>a=u/\u.oneCell'=true
 | .s b,a=>a=.string b/\b.size<=maxLen
 | .agg cs,a=>∃ vs,a=.agg vs.toArray/\D.repL w F cs vs
 | .tup cs,a=>∃ vs,a=.tuple vs.toArray/\D.repA w F cs vs
 | .ifc t d,a=>∃ u,a=.iface t u/\D.rep w F d u
 | .fn f p q,a=>∃ us vs,a=.func (.func f) us.toArray vs.toArray/\D.repA w F p us/\D.repA w F q vs
 | .sh z xs,a=>∃ A c,a=.slice A xs.length c/\xs.length<=c/\xs.length<=maxLen/\(xs≠[]->∃ b o,A=some ⟨b,o,none⟩/\F b/\D.repC w F z b xs o)
 | .shr z n xs,a=>∃ A c,a=.slice A n c/\n<=xs.length/\xs.length<=c/\xs.length<=maxLen/\(xs≠[]->∃ b o,A=some ⟨b,o,none⟩/\F b/\D.repC w F z b xs o)
 | .el x o,a=>∃ b p u,a=.pointer (some ⟨b,p+o,none⟩)/\F b/\D.rep w F x u/\One u/\At w b p (vcs u)
 | .any,a=>a.oneCell'=true
def D.repL (w:World) (F:Nat->Prop):List D->List Value->Prop
 | [],vs=>vs=[]
 | d::r,vs=>∃ u us,vs=u::us/\u.oneCell'=true/\D.rep w F d u/\D.repL w F r us
def D.repA (w:World) (F:Nat->Prop):List D->List Value->Prop
 | [],vs=>vs=[]
 | d::r,vs=>∃ u us,vs=u::us/\D.rep w F d u/\D.repA w F r us
def D.repC (w:World) (F:Nat->Prop) (z b:Nat):List D->Nat->Prop
 | [],_=>True
 | x::r,o=>(∃ u,D.rep w F x u/\One u/\u.cells.size=z/\At w b o (vcs u))/\D.repC w F z b r (o+z)
end
structure Keep (w:World) (F:Nat->Prop) (w':World) (F':Nat->Prop):Prop where
 sub:∀ b,F b->F' b
 same:∀ b,F b->b<w.heap.size->w'.heap[b]?=w.heap[b]?
def wU {w:World} {F:Nat->Prop}:Keep w F w F:=⟨λ_ h=>h,λ_ _ _=>rfl⟩
def At.same {w w':World} {b o:Nat} {cs:List Value} (h:At w b o cs) (e:w'.heap[b]?=w.heap[b]?):At w' b o cs:=by
 refine⟨?_,λj u hu=>(World.cell?_of_block e).trans (h.2 j u hu)⟩;have h1:(w.heap[b]?).isSome:=by rw[uS h.1];rfl
 rw[<-e] at h1;obtain ⟨x,hx⟩:=Option.isSome_iff_exists.1 h1;exact(jI.1 hx).1
section
variable {w w':World} {F F':Nat->Prop}
mutual
def D.keep (k:Keep w F w' F'):∀ (d:D) (a:Value),D.rep w F d a->D.rep w' F' d a
 | .v _,_,h=>h
 | .ov _,_,h=>h
 | .s _,_,h=>h
 | .agg cs,_,⟨vs,e,h⟩=>⟨vs,e,D.keepL k cs vs h⟩
 | .tup cs,_,⟨vs,e,h⟩=>⟨vs,e,wV k cs vs h⟩
 | .ifc _ d,_,⟨u,e,h⟩=>⟨u,e,D.keep k d u h⟩
 | .fn _ p q,_,⟨us,vs,e,h1,h2⟩=>⟨us,vs,e,wV k p us h1,wV k q vs h2⟩
 | .sh z xs,_,⟨A,c,e,h1,h2,h3⟩=>⟨A,c,e,h1,h2,λhn=>by
  obtain ⟨b,o,e1,e2,e3⟩:=h3 hn;exact⟨b,o,e1,k.sub b e2,D.keepC k z b e2 xs o e3⟩⟩
 | .shr z n xs,_,⟨A,c,e,h0,h1,h2,h3⟩=>⟨A,c,e,h0,h1,h2,λhn=>by
  obtain ⟨b,o,e1,e2,e3⟩:=h3 hn;exact⟨b,o,e1,k.sub b e2,D.keepC k z b e2 xs o e3⟩⟩
 | .el x _,_,⟨b,p,u,e,h1,h2,h3,h4⟩=>⟨b,p,u,e,k.sub b h1,D.keep k x u h2,h3,h4.same (k.same b h1 h4.1)⟩
 | .any,_,h=>h
def D.keepL (k:Keep w F w' F'):∀ (ds:List D) (vs:List Value),D.repL w F ds vs->D.repL w' F' ds vs
 | [],_,h=>h
 | d::r,_,⟨u,us,e,h1,h2,h3⟩=>⟨u,us,e,h1,D.keep k d u h2,D.keepL k r us h3⟩
def wV (k:Keep w F w' F'):∀ (ds:List D) (vs:List Value),D.repA w F ds vs->D.repA w' F' ds vs
 | [],_,h=>h
 | d::r,_,⟨u,us,e,h2,h3⟩=>⟨u,us,e,D.keep k d u h2,wV k r us h3⟩
def D.keepC (k:Keep w F w' F') (z b:Nat) (hb:F b):∀ (xs:List D) (o:Nat),D.repC w F z b xs o->D.repC w' F' z b xs o
 | [],_,h=>h
 | x::r,o,⟨⟨u,h1,h2,h3,h4⟩,h5⟩=>⟨⟨u,D.keep k x u h1,h2,h3,h4.same (k.same b hb h4.1)⟩,D.keepC k z b hb r (o+z) h5⟩
end
end
def D.flat:D->Bool
 | .v _ | .ov _ | .s _ | .any=>true
 | .agg cs=>flatL cs
 | .tup cs=>flatL cs
 | .ifc _ d=>d.flat
 | .fn _ p q=>flatL p&&flatL q
 | _=>false
where flatL:List D->Bool
 | []=>true
 | d::r=>d.flat&&flatL r
section
variable {w w':World} {F F':Nat->Prop}
mutual
def wW:∀ (d:D) (a:Value),d.flat=true->D.rep w F d a->D.rep w' F' d a
 | .v _,_,_,h=>h
 | .ov _,_,_,h=>h
 | .s _,_,_,h=>h
 | .agg cs,_,f,⟨vs,e,h⟩=>⟨vs,e,wX cs vs (by simpa [D.flat] using f) h⟩
 | .tup cs,_,f,⟨vs,e,h⟩=>⟨vs,e,wY cs vs (by simpa [D.flat] using f) h⟩
 | .ifc _ d,_,f,⟨u,e,h⟩=>⟨u,e,wW d u (by simpa [D.flat] using f) h⟩
 | .fn _ p q,_,f,⟨us,vs,e,h1,h2⟩=>by
  simp only[D.flat,cU] at f;exact⟨us,vs,e,wY p us f.1 h1,wY q vs f.2 h2⟩
 | .sh _ _,_,f,_=>by simp[D.flat] at f
 | .el _ _,_,f,_=>by simp[D.flat] at f
 | .shr _ _ _,_,f,_=>by simp[D.flat] at f
 | .any,_,_,h=>h
def wX:∀ (ds:List D) (vs:List Value),D.flat.flatL ds=true->D.repL w F ds vs->D.repL w' F' ds vs
 | [],_,_,h=>h
 | d::r,_,f,⟨u,us,e,h1,h2,h3⟩=>by
  simp only[D.flat.flatL,cU] at f;exact⟨u,us,e,h1,wW d u f.1 h2,wX r us f.2 h3⟩
def wY:∀ (ds:List D) (vs:List Value),D.flat.flatL ds=true->D.repA w F ds vs->D.repA w' F' ds vs
 | [],_,_,h=>h
 | d::r,_,f,⟨u,us,e,h2,h3⟩=>by
  simp only[D.flat.flatL,cU] at f;exact⟨u,us,e,wW d u f.1 h2,wY r us f.2 h3⟩
end
end
def D.cells:D->List D
 | .agg cs=>cs
 | .v (.agg a)=>a.toList.map .v
 | d=>[d]
def aCe {w:World} {F:Nat->Prop}:∀ vs:List Value,(∀ c∈vs,c.oneCell'=true)->D.repL w F (vs.map .v) vs
 | [],_=>rfl
 | u::r,h=>⟨u,r,rfl,h u cR,rfl,aCe r (λc hc=>h c (cV _ hc))⟩
def zbl {w:World} {F:Nat->Prop}:∀ {ds:List D} {vs:List Value},D.repL w F ds vs->vs.length=ds.length
 | [],_,rfl=>rfl
 | _::_,_,⟨_,_,rfl,_,_,h⟩=>by simp[zbl h]
def iI {w:World} {F:Nat->Prop}:∀ {ds:List D} {vs:List Value},D.repA w F ds vs->vs.length=ds.length
 | [],_,rfl=>rfl
 | _::_,_,⟨_,_,rfl,_,h⟩=>by simp[iI h]
def pX {w:World} {F:Nat->Prop}:∀ {ds:List D} {vs:List Value},D.repL w F ds vs->∀ c∈vs,c.oneCell'=true
 | [],_,rfl,_,hc=>by cases hc
 | _::_,_,⟨_,_,rfl,h1,_,h⟩,c,hc=>by
  cases hc with
  | head=>exact h1
  | tail _ hm=>exact pX h c hm
def pK {w:World} {F:Nat->Prop}:∀ {ds:List D} {vs:List Value},D.repL w F ds vs->∀ {j:Nat} {d:D},ds[j]?=some d->∃ u,vs[j]?=some u/\u.oneCell'=true/\D.rep w F d u
 | [],_,rfl,j,d,h=>by simp at h
 | x::r,_,⟨u,us,rfl,h1,h2,h3⟩,j,d,h=>by
  cases j with
  | zero=>simp at h;subst h;exact⟨u,by simp,h1,h2⟩
  | succ j=>obtain ⟨u',e⟩:=pK h3 (j:=j) (d:=d) (by simpa using h);exact⟨u',by simpa using e⟩
def zfa {w:World} {F:Nat->Prop}:∀ {ds es:List D} {vs us:List Value},D.repL w F ds vs->D.repL w F es us->D.repL w F (ds++es) (vs++us)
 | [],_,_,_,rfl,h=>h
 | _::_,_,_,_,⟨u,r,rfl,h1,h2,h3⟩,h=>⟨u,_,rfl,h1,h2,zfa h3 h⟩
def zdE {w:World} {F:Nat->Prop}:∀ {ds:List D} {vs:List Value} (n:Nat),D.repL w F ds vs->D.repL w F (ds.take n) (vs.take n)
 | [],_,n,rfl=>by simp;rfl
 | _::_,_,0,_=>rfl
 | _::_,_,n+1,⟨u,us,rfl,h1,h2,h3⟩=>⟨u,us.take n,rfl,h1,h2,zdE n h3⟩
def zdF {w:World} {F:Nat->Prop}:∀ {ds:List D} {vs:List Value} (n:Nat),D.repL w F ds vs->D.repL w F (ds.drop n) (vs.drop n)
 | [],_,n,rfl=>by simp;rfl
 | _::_,_,0,h=>h
 | _::_,_,n+1,⟨u,us,rfl,h1,h2,h3⟩=>zdF n h3
def wZ {w:World} {F:Nat->Prop} {d:D} {u:Value} (h:D.rep w F d u) (h1:One u):D.repL w F d.cells (vcs u):=by
 have single:∀ {d:D} {u:Value},u.cells=#[u]->One u->D.rep w F d u->D.repL w F [d] (vcs u):=by
  intro d u e h1 h;refine⟨u,[],by simp[vcs,e],h1 u (by simp[e]),h,rfl⟩
 cases d with
 | v a=>
  have h':u=a:=h;subst h';cases u with
  | agg a=>exact aCe _ h1
  | _=>exact single rfl h1 rfl
 | agg cs=>obtain ⟨vs,rfl,hl⟩:=h;simpa [vcs,Value.cells,D.cells] using hl
 | s b=>have h0:=h;obtain ⟨rfl,_⟩:=h;exact single rfl h1 h0
 | ov b=>exact single (zdN (by rw[h.1];exact h.2)) h1 h
 | tup cs=>have h0:=h;obtain ⟨_,rfl,_⟩:=h;exact single rfl h1 h0
 | ifc t x=>have h0:=h;obtain ⟨_,rfl,_⟩:=h;exact single rfl h1 h0
 | fn f p q=>have h0:=h;obtain ⟨_,_,rfl,_⟩:=h;exact single rfl h1 h0
 | sh z xs=>have h0:=h;obtain ⟨_,_,rfl,_⟩:=h;exact single rfl h1 h0
 | el x o=>have h0:=h;obtain ⟨_,_,_,rfl,_⟩:=h;exact single rfl h1 h0
 | shr z n xs=>have h0:=h;obtain ⟨_,_,rfl,_⟩:=h;exact single rfl h1 h0
 | any=>exact single (zdN h) h1 h
def RepE (w:World) (F:Nat->Prop) (z:Nat):List D->List Value->Prop
 | [],us=>us=[]
 | x::r,us=>∃ u t,us=u::t/\D.rep w F x u/\One u/\u.cells.size=z/\RepE w F z r t
section
variable {w w':World} {F F':Nat->Prop} {z:Nat}
def RepE.len:∀ {xs:List D} {us:List Value},RepE w F z xs us->us.length=xs.length
 | [],_,rfl=>rfl
 | _::_,_,⟨_,_,rfl,_,_,_,h⟩=>by simp[RepE.len h]
def RepE.size:∀ {xs:List D} {us:List Value},RepE w F z xs us->∀ u∈us,(vcs u).length=z
 | [],_,rfl,_,hu=>by cases hu
 | _::_,_,⟨_,_,rfl,_,_,h,hr⟩,u,hu=>by
  cases hu with
  | head=>simpa [vcs] using h
  | tail _ hm=>exact RepE.size hr u hm
def RepE.one:∀ {xs:List D} {us:List Value},RepE w F z xs us->∀ u∈us,One u
 | [],_,rfl,_,hu=>by cases hu
 | _::_,_,⟨_,_,rfl,_,h,_,hr⟩,u,hu=>by
  cases hu with
  | head=>exact h
  | tail _ hm=>exact RepE.one hr u hm
def RepE.keep (k:Keep w F w' F'):∀ {xs:List D} {us:List Value},RepE w F z xs us->RepE w' F' z xs us
 | [],_,h=>h
 | _::_,_,⟨u,t,e,h1,h2,h3,h4⟩=>⟨u,t,e,D.keep k _ _ h1,h2,h3,RepE.keep k h4⟩
def RepE.flat:∀ {xs:List D} {us:List Value},D.flat.flatL xs=true->RepE w F z xs us->RepE w' F' z xs us
 | [],_,_,h=>h
 | _::_,_,f,⟨u,t,e,h1,h2,h3,h4⟩=>by
  simp only[D.flat.flatL,cU] at f;exact⟨u,t,e,wW _ _ f.1 h1,h2,h3,RepE.flat f.2 h4⟩
def RepE.get:∀ {xs:List D} {us:List Value},RepE w F z xs us->∀ {k:Nat} {x:D},xs[k]?=some x->∃ u,us[k]?=some u/\D.rep w F x u/\One u/\u.cells.size=z
 | [],_,rfl,_,_,h=>by simp at h
 | _::_,_,⟨u,t,rfl,h1,h2,h3,h4⟩,k,x,h=>by
  cases k with
  | zero=>simp at h;subst h;exact⟨u,by simp,h1,h2,h3⟩
  | succ k=>obtain ⟨u',e⟩:=RepE.get h4 (k:=k) (x:=x) (by simpa using h);exact⟨u',by simpa using e⟩
def RepE.app:∀ {xs ys:List D} {us vs:List Value},RepE w F z xs us->RepE w F z ys vs->RepE w F z (xs++ys) (us++vs)
 | [],_,_,_,rfl,h=>h
 | _::_,_,_,_,⟨u,t,rfl,h1,h2,h3,h4⟩,h=>⟨u,_,rfl,h1,h2,h3,RepE.app h4 h⟩
def RepE.take:∀ {xs:List D} {us:List Value} (n:Nat),RepE w F z xs us->RepE w F z (xs.take n) (us.take n)
 | [],_,n,rfl=>by simp;rfl
 | _::_,_,0,_=>rfl
 | _::_,_,n+1,⟨u,t,rfl,h1,h2,h3,h4⟩=>⟨u,t.take n,rfl,h1,h2,h3,RepE.take n h4⟩
def RepE.drop:∀ {xs:List D} {us:List Value} (n:Nat),RepE w F z xs us->RepE w F z (xs.drop n) (us.drop n)
 | [],_,n,rfl=>by simp;rfl
 | _::_,_,0,h=>h
 | _::_,_,n+1,⟨u,t,rfl,h1,h2,h3,h4⟩=>RepE.drop n h4
def RepE.set:∀ {xs:List D} {us:List Value} (k:Nat) {x:D} {u:Value},RepE w F z xs us->D.rep w F x u->One u->u.cells.size=z->RepE w F z (xs.set k x) (us.set k u)
 | [],_,k,_,_,rfl,_,_,_=>by simp;rfl
 | _::_,_,0,_,u,⟨_,t,rfl,_,_,_,h4⟩,a,b,c=>⟨u,t,rfl,a,b,c,h4⟩
 | _::_,_,k+1,_,u,⟨v,t,rfl,h1,h2,h3,h4⟩,a,b,c=>⟨v,_,rfl,h1,h2,h3,RepE.set k h4 a b c⟩
def RepE.rep (n:Nat) {x:D} {u:Value} (h1:D.rep w F x u) (h2:One u) (h3:u.cells.size=z):RepE w F z (List.replicate n x) (List.replicate n u):=by
 induction n with
 | zero=>exact rfl
 | succ n ih=>exact⟨u,_,vG,h1,h2,h3,ih⟩
def aBn {b:Nat}:∀ {xs:List D} {o:Nat},D.repC w F z b xs o->∃ us,RepE w F z xs us/\∀ i u,us[i]?=some u->At w b (o+i*z) (vcs u)
 | [],_,_=>⟨[],rfl,by simp⟩
 | x::r,o,⟨⟨u,h1,h2,h3,h4⟩,h5⟩=>by
  obtain ⟨us,e1,e2⟩:=aBn h5;refine⟨u::us,⟨u,us,rfl,h1,h2,h3,e1⟩,λi v hv=>?_⟩;cases i with
  | zero=>simp at hv;subst hv;simpa using h4
  | succ i=>have:=e2 i v (by simpa using hv);rw[show o+(i+1)*z=o+z+i*z by rw[j9];omega];exact this
def aA8 {b:Nat}:∀ {xs:List D} {us:List Value} {o:Nat},RepE w F z xs us->(∀ i u,us[i]?=some u->At w b (o+i*z) (vcs u))->D.repC w F z b xs o
 | [],_,_,_,_=>trivial
 | x::r,_,o,⟨u,t,rfl,h1,h2,h3,h4⟩,h=>by
  refine⟨⟨u,h1,h2,h3,by simpa using h 0 u (by simp)⟩,aA8 h4 (λi v hv=>?_)⟩;have:=h (i+1) v (by simpa using hv);rw[show o+z+i*z=o+(i+1)*z by rw[j9];omega];exact this
def D.rep_sl {xs:List D} {a:Value} (hF:∀ b,F b->b<w.heap.size) (h:D.rep w F (.sh z xs) a):∃ us,RepE w F z xs us/\SlT vcs z w 0 w.heap.size a us/\(xs≠[]->∃ b o c,a=.slice (some ⟨b,o,none⟩) xs.length c/\F b)/\xs.length<=maxLen:=by
 obtain ⟨A,c,rfl,h1,h2,h3⟩:=h;cases xs with
 | nil=>exact⟨[],rfl,⟨A,c,rfl,by simp,by simp,by simp,cW _⟩,by simp,by simp⟩
 | cons x r=>
  obtain ⟨b,o,rfl,hb,hc⟩:=h3 (by simp);obtain ⟨us,e1,e2⟩:=aBn hc;have hl:=e1.len;refine⟨us,e1,⟨_,c,by rw[cN,hl],by rw[cN,hl];exact h1,?_,λ_=>⟨b,o,rfl,cT _,hF b hb,λi y hy=>?_⟩,cW _⟩,λ_=>⟨b,o,c,rfl,hb⟩,h2⟩
  · intro y hy;obtain ⟨u,hu,rfl⟩:=uL.1 hy;exact e1.size u hu
  rw[d9] at hy;obtain ⟨u,hu,rfl⟩:=u5.1 hy;exact e2 i u hu
def w4 {xs:List D} {us:List Value} {a:Value} {lo hi:Nat} (hr:RepE w F z xs us) (h:SlT vcs z w lo hi a us) (hb:xs≠[]->∀ g,a.ownBlock=some g->F g) (hm:us.length<=maxLen):D.rep w F (.sh z xs) a:=by
 obtain ⟨A,c,rfl,h2,h3,h4,_⟩:=h;have hl:=hr.len;refine⟨A,c,by rw[cN,hl],by rw[cN,hl] at h2;exact h2,by omega,λhn=>?_⟩;obtain ⟨b,o,rfl,e2,e3,e4⟩:=h4 (by intro e;simp at e;subst e;simp at hl;exact hn (dC hl.symm));refine⟨b,o,rfl,hb hn b rfl,aA8 hr (λi u hu=>e4 i (vcs u) (by rw[d9,hu];rfl))⟩
end
inductive Hp where
 | sl (v:Value) (z:Nat) (T:TypeId) (xs:List D)
 | bx (g:Nat) (T:TypeId) (x:D)
 | sl2 (v0 v:Value) (z:Nat) (T:TypeId) (m:Nat) (xs:List D)
 | slo (u:Value) (z:Nat) (T:TypeId) (xs:List D)
 | it (g:Nat) (s:Ba) (p:Nat)
 | tab (g:Nat) (cs:Array Value)
 | mp (g:Nat) (ks:List Ba) (xs:List D)
def TlB (u:Value) (b:Nat):Prop:=∃ A n c,u=.slice (some A) n c/\0<c/\A.block=b
def TlOk (w:World) (z:Nat) (T:TypeId) (u:Value) (us:List Value):Prop:=
 ∃ A c,u=.slice A us.length c/\us.length<=c/\(c=0\/∃ g p,A=some ⟨g,List.length p*z,none⟩/\Own vcs z T w 0 (.slice (some ⟨g,0,none⟩) (p.length+us.length) (p.length+c)) (p++us))
def Hp.blk:Hp->Nat->Prop
 | .sl v _ _ _=>λb=>v.ownBlock=some b
 | .bx g _ _=>λb=>g=b
 | .it g _ _=>λb=>g=b
 | .tab _ _=>λ_=>False
 | .mp g _ _=>λb=>g=b
 | .slo u _ _ _=>TlB u
 | .sl2 v0 v _ _ _ _=>λb=>v0.ownBlock=some b\/v.ownBlock=some b
def Hp.ok (w:World) (F:Nat->Prop):Hp->Prop
 | .sl v z T xs=>∃ us,RepE w F z xs us/\Own vcs z T w 0 v us
 | .bx g T x=>∃ u,D.rep w F x u/\One u/\w.heap[g]?=some (.cells u.cells T (0,0))
 | .it g s p=>w.heap[g]?=some (.stringIter s p)
 | .tab g cs=>F g/\∃ T fr,w.heap[g]?=some (.cells cs T fr)
 | .mp g ks xs=>∃ es clock us,w.heap[g]?=some (.map es clock)/\es.toList.map (·.key)=ks.map Value.string/\es.toList.map (·.val)=us/\D.repA w F xs us
 | .slo u z T xs=>∃ us,RepE w F z xs us/\TlOk w z T u us
 | .sl2 v0 v z T m xs=>∃ us,RepE w F z xs us/\Own vcs z T w 0 v us/\Own vcs z T w 0 v0 (us.take m)/\m<=xs.length
def Hp.lt {w:World} {F:Nat->Prop} {h:Hp} (ok:h.ok w F) {g:Nat} (hg:h.blk g):g<w.heap.size:=by
 cases h with
 | sl v z T xs=>obtain ⟨us,_,ho⟩:=ok;exact(ho.lt hg).2
 | sl2 v0 v z T m xs=>
  obtain ⟨us,_,ho,ho0,_⟩:=ok;rcases hg with hg | hg
  · exact(ho0.lt hg).2
  exact(ho.lt hg).2
 | bx g' T x=>obtain ⟨u,_,_,hh⟩:=ok;cases hg;exact(jI.1 hh).1
 | it g' s p=>cases hg;exact(jI.1 ok).1
 | tab g' cs=>exact hg.elim
 | mp g' ks xs=>obtain ⟨es,c,us,h,_⟩:=ok;cases hg;exact(jI.1 h).1
 | slo u z T xs=>
  obtain ⟨us,_,A,c,e,_,h⟩:=ok;obtain ⟨A',n,c',e',hc,hb⟩:=hg;rw[e] at e';injection e' with e1 _ e2;rcases h with h | ⟨g0,p,eA,ho⟩
  · omega
  rw[eA] at e1;injection e1 with e1;subst e1;subst hb;exact(ho.lt rfl).2
def Hp.keep {w w':World} {F F':Nat->Prop} {h:Hp} (ok:h.ok w F) (k:Keep w F w' F') (hs:∀ g,h.blk g->w'.heap[g]?=w.heap[g]?):h.ok w' F':=by
 cases h with
 | sl v z T xs=>
  obtain ⟨us,hr,ho⟩:=ok;refine⟨us,hr.keep k,⟨⟨ho.1.1,?_⟩,ho.2⟩⟩;rcases ho.1.2 with hn | ⟨g,cap,cur,rfl,hb,hgg,rest⟩
  · exact .inl hn
  exact .inr ⟨g,cap,cur,rfl,hb,by rw[hs g rfl];exact hgg,rest⟩
 | bx g T x=>obtain ⟨u,hr,h1,hh⟩:=ok;exact⟨u,D.keep k _ _ hr,h1,by rw[hs g rfl];exact hh⟩
 | sl2 v0 v z T m xs=>
  obtain ⟨us,hr,ho,ho0,hm⟩:=ok;refine⟨us,hr.keep k,⟨⟨ho.1.1,?_⟩,ho.2⟩,⟨⟨ho0.1.1,?_⟩,ho0.2⟩,hm⟩
  · rcases ho.1.2 with hn | ⟨g,cap,cur,rfl,hb,hgg,rest⟩
    · exact .inl hn
    exact .inr ⟨g,cap,cur,rfl,hb,by rw[hs g (.inr rfl)];exact hgg,rest⟩
  rcases ho0.1.2 with hn | ⟨g,cap,cur,rfl,hb,hgg,rest⟩
  · exact .inl hn
  exact .inr ⟨g,cap,cur,rfl,hb,by rw[hs g (.inl rfl)];exact hgg,rest⟩
 | it g s p=>show w'.heap[g]?=_;rw[hs g rfl];exact ok
 | tab g cs=>obtain ⟨hF,T,fr,h⟩:=ok;exact⟨k.sub g hF,T,fr,by rw[k.same g hF (jI.1 h).1];exact h⟩
 | mp g ks xs=>obtain ⟨es,c,us,h,h1,h2,h3⟩:=ok;exact⟨es,c,us,by rw[hs g rfl];exact h,h1,h2,wV k _ _ h3⟩
 | slo u z T xs=>
  obtain ⟨us,hr,A,c,e,hle,h⟩:=ok;refine⟨us,hr.keep k,A,c,e,hle,?_⟩;rcases h with h | ⟨g0,p,eA,ho⟩
  · exact .inl h
  rcases uE c with h0 | h0
  · exact .inl h0
  refine .inr ⟨g0,p,eA,⟨⟨ho.1.1,?_⟩,ho.2⟩⟩;rcases ho.1.2 with ⟨hn,_⟩ | ⟨g,cap,cur,e1,hb,hgg,rest⟩
  · cases hn
  have:g0=g:=by injection e1 with e1 _ _;injection e1 with e1;injection e1
  subst this;exact .inr ⟨g0,cap,cur,e1,hb,by rw[hs g0 ⟨_,_,_,by rw[e,eA],h0,rfl⟩];exact hgg,rest⟩
def blks (H:List Hp) (g:Nat):Prop:=∃ h∈H,h.blk g
def zd9 (h h':Hp):Prop:=∀ g,h.blk g->¬h'.blk g
structure HOk (w:World) (F A:Nat->Prop) (H:List Hp):Prop where
 apart:H.Pairwise zd9
 ok:∀ h∈H,h.ok w F
 mine:∀ g,blks H g->A g/\¬F g
structure Ctx where
 w0:World
 Bor:Nat->Prop
 F0:Nat->Prop
structure Good (C:Ctx) (H:List Hp) (w:World) (F:Nat->Prop):Prop where
 size:C.w0.heap.size<=w.heap.size
 os:w.os=C.w0.os
 tape:w.tape=C.w0.tape
 output:w.output=C.w0.output
 drawn:Dr C.w0 w
 frame:∀ b,b<C.w0.heap.size->¬C.Bor b->w.heap[b]?=C.w0.heap[b]?
 fsub:∀ b,C.F0 b->F b
 fnew:∀ b,F b->C.F0 b\/C.w0.heap.size<=b\/C.Bor b
 flt:∀ b,F b->b<w.heap.size
 h:HOk w F (λg=>C.w0.heap.size<=g\/C.Bor g) H
def Good.sub {C:Ctx} {H H':List Hp} {w:World} {F:Nat->Prop} (g:Good C H w F) (hs:H'.Sublist H):Good C H' w F:=
 { g with h:=⟨g.h.apart.sublist hs,λh hh=>g.h.ok h (hs.subset hh),λb ⟨h,hh,e⟩=>g.h.mine b ⟨h,hs.subset hh,e⟩⟩ }
def Good.ext {C:Ctx} {H:List Hp} {w w':World} {F:Nat->Prop} (g:Good C H w F) (E:Ext w w'):Good C H w' F where
 size:=jM g.size E.size
 os:=E.os.trans g.os
 tape:=E.tape.trans g.tape
 output:=E.output.trans g.output
 drawn:=Dr.trans g.drawn E.drawn
 frame:=λb hb hn=>(E.block b (uF hb g.size) (.inr (cT _))).trans (g.frame b hb hn)
 fsub:=g.fsub
 fnew:=g.fnew
 flt:=λb hb=>uF (g.flt b hb) E.size
 h:=⟨g.h.apart,λh hh=>Hp.keep (g.h.ok h hh) ⟨λ_ h=>h,λb _ hb=>E.block b hb (.inr (cT _))⟩ (λb hb=>E.block b (Hp.lt (g.h.ok h hh) hb) (.inr (cT _))),g.h.mine⟩
def Keep.ext {w w':World} {F:Nat->Prop} (E:Ext w w'):Keep w F w' F:=⟨λ_ h=>h,λb _ hb=>E.block b hb (.inr (cT _))⟩
end Lp
namespace Lp
open Go Go.RowKit
abbrev Kd:=List (Nat×D)
def zI:Kd->Nat->Option D
 | [],_=>none
 | (d,v)::r,t=>bif Nat.beq t d then some v else zI r t
def KOk (w:World) (F:Nat->Prop) (ρ:Env) (K:Kd):Prop:=∀ t d,zI K t=some d->D.rep w F d (ρ t)
def upK (K:Kd):Option Tmp->D->Kd
 | some t,d=>(t,d)::K
 | none,_=>K
def KOk.upd {w:World} {F:Nat->Prop} {ρ:Env} {K:Kd} (h:KOk w F ρ K) (t:Option Tmp) {d:D} {v:Value} (hr:D.rep w F d v):KOk w F (upd ρ t v) (upK K t d):=by
 cases t with
 | none=>exact h
 | some t=>
  intro s u hu;simp only[upK,zI] at hu;by_cases e:s=t
  · subst e;rw[show Nat.beq s s=true from jT s] at hu;simp only[cond_true,cX] at hu;subst hu;simpa [Lp.upd] using hr
  rw[zbx e] at hu;simp only[cond_false] at hu;simpa [Lp.upd,e] using h s u hu
def KOk.keep {w w':World} {F F':Nat->Prop} {ρ:Env} {K:Kd} (h:KOk w F ρ K) (k:Keep w F w' F'):KOk w' F' ρ K:=λt d hd=>D.keep k _ _ (h t d hd)
def opD (K:Kd):Operand->Option D
 | .tmp t=>zI K t
 | .const v=>some (.v v)
 | .global g=>some (.v (.pointer (some ⟨g,0,none⟩)))
 | .func f=>some (.fn f [] [])
def KOk.op {w:World} {F:Nat->Prop} {ρ:Env} {K:Kd} (h:KOk w F ρ K) {x:Operand} {d:D} (hx:opD K x=some d):D.rep w F d (ev ρ x):=by
 cases x with
 | tmp t=>exact h t d hx
 | const c=>simp only[opD,cX] at hx;subst hx;rfl
 | global g=>simp only[opD,cX] at hx;subst hx;rfl
 | func f=>simp only[opD,cX] at hx;subst hx;exact⟨[],[],rfl,rfl,rfl⟩
structure Cv (d d':D):Prop where
 out:∀ w F u,D.rep w F d u->D.rep w F d' u
def w5 {d:D}:Cv d d:=⟨λ_ _ _ h=>h⟩
def Cv.nil {z:Nat}:Cv (.v (.slice none 0 0)) (.sh z []):=⟨λ_ _ u h=>by have h:u=_:=h;subst h;exact⟨none,0,rfl,by simp,by simp,by simp⟩⟩
def Cv.str {b:Ba} (h:b.size<=maxLen):Cv (.v (.string b)) (.s b):=⟨λ_ _ _ e=>⟨e,h⟩⟩
def Cv.ov {u:Value} (h:u.oneCell'=true):Cv (.v u) (.ov u):=⟨λ_ _ _ e=>⟨e,h⟩⟩
def w6 {d d':D} (h:d=d'):Cv d d':=⟨λ_ _ _ e=>h ▸ e⟩
def Cv.trans {a b c:D} (h:Cv a b) (k:Cv b c):Cv a c:=⟨λw F u x=>k.out w F u (h.out w F u x)⟩
inductive CvL:List D->List D->Prop
 | nil:CvL [] []
 | cons {d d':D} {r r':List D}:Cv d d'->CvL r r'->CvL (d::r) (d'::r')
def CvL.repL {w:World} {F:Nat->Prop} {ds ds':List D} (h:CvL ds ds'):∀ {vs:List Value},D.repL w F ds vs->D.repL w F ds' vs:=by
 induction h with
 | nil=>exact λh=>h
 | cons hd _ ih=>rintro _ ⟨u,us,rfl,h1,h2,h3⟩;exact⟨u,us,rfl,h1,hd.out _ _ _ h2,ih h3⟩
def CvL.repA {w:World} {F:Nat->Prop} {ds ds':List D} (h:CvL ds ds'):∀ {vs:List Value},D.repA w F ds vs->D.repA w F ds' vs:=by
 induction h with
 | nil=>exact λh=>h
 | cons hd _ ih=>rintro _ ⟨u,us,rfl,h2,h3⟩;exact⟨u,us,rfl,hd.out _ _ _ h2,ih h3⟩
def Cv.agg {cs cs':List D} (h:CvL cs cs'):Cv (.agg cs) (.agg cs'):=⟨λ_ _ _ ⟨vs,e,hl⟩=>⟨vs,e,h.repL hl⟩⟩
def Cv.tup {cs cs':List D} (h:CvL cs cs'):Cv (.tup cs) (.tup cs'):=⟨λ_ _ _ ⟨vs,e,hl⟩=>⟨vs,e,h.repA hl⟩⟩
def w7 {a:Array Value} (h:∀ c∈a.toList,c.oneCell'=true):Cv (.v (.agg a)) (.agg (a.toList.map .v)):=⟨λ_ _ u e=>by
 have e:u=_:=e;subst e;exact⟨a.toList,by simp,aCe _ h⟩⟩
def SubK:Kd->Kd->Prop
 | [],_=>True
 | (t,d')::r,K=>(∃ d,zI K t=some d/\Cv d d')/\SubK r K
def SubK.out:∀ {K' K:Kd},SubK K' K->∀ {w:World} {F:Nat->Prop} {ρ:Env},KOk w F ρ K->KOk w F ρ K'
 | [],_,_,_,_,_,_=>λ_ _ h=>by simp[zI] at h
 | (t,d')::r,K,⟨⟨d,h1,h2⟩,hr⟩,w,F,ρ,hk=>by
  intro s u hu;simp only[zI] at hu;by_cases e:s=t
  · subst e;rw[show Nat.beq s s=true from jT s] at hu;simp only[cond_true,cX] at hu;subst hu;exact h2.out _ _ _ (hk s d h1)
  rw[zbx e] at hu;simp only[cond_false] at hu;exact SubK.out hr hk s u hu
structure HSub (H H':List Hp):Prop where
 out:∀ C w F,Good C H w F->Good C H' w F
def w8 {H:List Hp}:HSub H H:=⟨λ_ _ _ h=>h⟩
def HSub.trans {a b c:List Hp} (h:HSub a b) (k:HSub b c):HSub a c:=⟨λC w F x=>k.out C w F (h.out C w F x)⟩
def w9 {H H':List Hp} (h:H'.Sublist H):HSub H H':=⟨λ_ _ _ g=>g.sub h⟩
def mA {H H':List Hp} (h:H.Perm H'):HSub H H':=⟨λ_ _ _ g=>{ g with h:=⟨(h.pairwise_iff (by intro a b hab g hg hg';exact hab g hg' hg)).1 g.h.apart,λx hx=>g.h.ok x (h.mem_iff.2 hx),λb ⟨x,hx,e⟩=>g.h.mine b ⟨x,h.mem_iff.2 hx,e⟩⟩ }⟩
def HSub.nil {H:List Hp} (z:Nat) (T:TypeId):HSub H (.sl (.slice none 0 0) z T []::H):=⟨λ_ w F g=>{ g with h:=⟨dG.2 ⟨λ_ _ _ hg=>(by cases hg),g.h.apart⟩,λx hx=>by
 cases hx with
 | head=>exact⟨[],rfl,Own.nil _ _⟩
 | tail _ hm=>exact g.h.ok x hm,
 λb ⟨x,hx,e⟩=>by
  cases hx with
  | head=>cases e
  | tail _ hm=>exact g.h.mine b ⟨x,hm,e⟩⟩ }⟩
def mB {H:List Hp} {h h':Hp} (hb:h'.blk=h.blk) (ho:∀ w F,h.ok w F->h'.ok w F):HSub (h::H) (h'::H):=⟨λ_ w F g=>{ g with h:=⟨by
 have:=dG.1 g.h.apart;exact dG.2 ⟨λx hx b e=>this.1 x hx b (hb ▸ e),this.2⟩,λx hx=>by
 cases hx with
 | head=>exact ho _ _ (g.h.ok h cR)
 | tail _ hm=>exact g.h.ok x (cV _ hm),
 λb ⟨x,hx,e⟩=>by
  cases hx with
  | head=>exact g.h.mine b ⟨h,cR,hb ▸ e⟩
  | tail _ hm=>exact g.h.mine b ⟨x,cV _ hm,e⟩⟩ }⟩
def mC {g:Nat} {T:TypeId} {x x':D} (h:Cv x x'):∀ w F,(Hp.bx g T x).ok w F->(Hp.bx g T x').ok w F:=λw F ⟨u,h1,h2,h3⟩=>⟨u,h.out _ _ _ h1,h2,h3⟩
def mD {v:Value} {z:Nat} {T:TypeId} {xs xs':List D} (h:xs=xs'):∀ w F,(Hp.sl v z T xs).ok w F->(Hp.sl v z T xs').ok w F:=λ_ _ k=>h ▸ k
abbrev zbB:=Exit->Env->World->(Nat->Prop)->Prop
structure JD (P:Program) (N:Nat) (C:Ctx) (c:Code) (K:Kd) (H:List Hp) (Q:zbB):Prop where
 out:∀ a w F,Ok N a->KOk w F (zF a) K->Good C H w F->c.wp P (λe a' w'=>Ok N a'/\∃ F',Q e (zF a') w' F') a w
structure PD (C:Ctx) (Q:zbB) (e:Exit) (K:Kd) (H:List Hp):Prop where
 out:∀ ρ w F,KOk w F ρ K->Good C H w F->Q e ρ w F
section code
variable {P:Program} {N:Nat} {C:Ctx} {K:Kd} {H:List Hp} {Q:zbB} {c:Code} {p:List Bool}
def JD.fact {c:Code} {φ:Prop} (hf:∀ w F ρ,KOk w F ρ K->Good C H w F->φ) (h:φ->JD P N C c K H Q):JD P N C c K H Q:=⟨λa w F ok hk g=>(h (hf w F _ hk g)).out a w F ok hk g⟩
def qseq (P:Program) (N:Nat) (b:Code) (Q:zbB):zbB
 | .normal,ρ,w,_=>∀ a,Ok N a->zF a=ρ->b.wp P (λe a' w'=>Ok N a'/\∃ F',Q e (zF a') w' F') a w
 | e,ρ,w,F=>Q e ρ w F
def aXh (pa pb:List Bool) (hk:aWv (cd c p)=true) (ha:p++[false]=pa) (hb:p++[true]=pb) (h:JD P N C (cd c pa) K H (qseq P N (cd c pb) Q)):JD P N C (cd c p) K H Q:=by
 subst ha;subst hb;rw[zfK,zfK] at h;cases hc:cd c p<;>rw[hc] at hk h<;>simp[aWv] at hk
 rename_i a b;simp only[cd,cond_true,cond_false,zgg] at h;refine⟨λa0 w F hok hk g=>?_⟩;refine wp_seq (wp_mono (h.out a0 w F hok hk g) ?_);rintro e a' w' ⟨ok,F',hq⟩;cases e with
 | normal=>exact hq a' ok rfl
 | exit id=>exact⟨ok,F',hq⟩
 | goto k=>exact⟨ok,F',hq⟩
 | ret=>exact⟨ok,F',hq⟩
 | panic ch=>exact⟨ok,F',hq⟩
 | outgrown=>exact⟨ok,F',hq⟩
def yO (pa pb:List Bool) {x:Operand} {t:Bool} (hk:zgy (cd c p)=some x) (ha:p++[false]=pa) (hb:p++[true]=pb) (hx:opD K x=some (.v (.bool t))) (ht:t=true->JD P N C (cd c pa) K H Q) (hf:t=false->JD P N C (cd c pb) K H Q):JD P N C (cd c p) K H Q:=by
 subst ha;subst hb;rw[zfK] at ht hf;cases hc:cd c p<;>rw[hc] at hk ht hf<;>simp[zgy] at hk
 simp only[cd,cond_true,cond_false,zgg] at ht hf;subst hk;refine⟨λa w F ok hk g=>?_⟩;refine wp_cond_split (t:=t) ?_ (λe=>(ht e).out a w F ok hk g) (λe=>(hf e).out a w F ok hk g);rw[aCo];exact hk.op hx
def aFc (pa:List Bool) {x:Operand} (hk:zgy (cd c p)=some x) (ha:p++[false]=pa) (hx:opD K x=some (.v (.bool true))) (ht:JD P N C (cd c pa) K H Q):JD P N C (cd c p) K H Q:=
 yO pa _ hk ha rfl hx (λ_=>ht) (λe=>by cases e)
def aGj (pb:List Bool) {x:Operand} (hk:zgy (cd c p)=some x) (hb:p++[true]=pb) (hx:opD K x=some (.v (.bool false))) (hf:JD P N C (cd c pb) K H Q):JD P N C (cd c p) K H Q:=
 yO _ pb hk rfl hb hx (λe=>by cases e) (λ_=>hf)
def aGa (id:Nat) (Q:zbB):zbB
 | .exit id',ρ,w,F=>if id'=id then Q .normal ρ w F else Q (.exit id') ρ w F
 | e,ρ,w,F=>Q e ρ w F
def aM7 (pa:List Bool) {id:Nat} (hk:aFr (cd c p)=some id) (ha:p++[false]=pa) (h:JD P N C (cd c pa) K H (aGa id Q)):JD P N C (cd c p) K H Q:=by
 subst ha;rw[zfK] at h;cases hc:cd c p<;>rw[hc] at hk h<;>simp[aFr] at hk
 simp only[cd,zgg] at h;subst hk;refine⟨λa w F ok hk g=>?_⟩;refine wp_block (wp_mono (h.out a w F ok hk g) ?_);rintro e a' w' ⟨ok',F',hq⟩;cases e with
 | exit id'=>
  simp only[Exit.inBlock,aGa] at hq ⊢;split
  · rename_i e;rw[aB e] at hq;exact⟨ok',F',hq⟩
  rename_i e;rw[aA e] at hq;exact⟨ok',F',hq⟩
 | normal=>exact⟨ok',F',hq⟩
 | goto k=>exact⟨ok',F',hq⟩
 | ret=>exact⟨ok',F',hq⟩
 | panic ch=>exact⟨ok',F',hq⟩
 | outgrown=>exact⟨ok',F',hq⟩
def aY7 {G:Type} (C:Ctx) (L:G->Kd) (HI:G->List Hp) (I:G->Prop) (μ:G->Nat) (g:G) (Q:zbB):zbB
 | .normal,ρ,w,F=>∃ g',KOk w F ρ (L g')/\Good C (HI g') w F/\I g'/\μ g'<μ g
 | e,ρ,w,F=>Q e ρ w F
def aRl {G:Type} (L:G->Kd) (HI:G->List Hp) (I:G->Prop) (μ:G->Nat) (pa:List Bool) (g:G) (hk:aBr (cd c p)=true) (ha:p++[false]=pa) (hs:SubK (L g) K) (hH:HSub H (HI g)) (hI:I g)
 (h:∀ g,I g->JD P N C (cd c pa) (L g) (HI g) (aY7 C L HI I μ g Q)):JD P N C (cd c p) K H Q:=by
 subst ha;rw[zfK] at h;cases hc:cd c p<;>rw[hc] at hk h<;>simp[aBr] at hk
 rename_i c';simp only[cd,zgg] at h;refine⟨λa w F ok hk gd=>?_⟩;have key:∀ n,∀ a w F,Ok N a->(∃ g,KOk w F (zF a) (L g)/\Good C (HI g) w F/\I g/\μ g=n)->∀ (b:Frame) (k:List Item) (cs:List Frame),
  ∃ e a' w',(Ok N a'/\∃ F',Q e (zF a') w' F')/\Arrives P (lone (b.at a (.code c'::.inLoop c'::k)) cs w) b k cs e a' w':=by
  intro n
  induction n using Nat.strongRecOn with
  | _ n ih=>
   rintro a w F ok ⟨g,hk,gd,hI,hμ⟩ b k cs;obtain ⟨e,a1,w1,hq,harr⟩:=(h g hI).out a w F ok hk gd b (.inLoop c'::k) cs;cases e with
   | normal=>
    obtain ⟨ok1,F1,g',hk',gd',hI',hlt⟩:=hq;obtain ⟨e2,a2,w2,hq2,harr2⟩:=ih (μ g') (hμ ▸ hlt) a1 w1 F1 ok1 ⟨g',hk',gd',hI',rfl⟩ b k cs;exact⟨e2,a2,w2,hq2,.of_steps (Steps.trans harr (.one step_inLoop)) harr2⟩
   | exit id=>exact⟨_,a1,w1,hq,.pass (x:=.inLoop c') rfl (λ_ _=>.inl (by simp)) harr⟩
   | goto l=>exact⟨_,a1,w1,hq,.pass (x:=.inLoop c') rfl (λ_ _=>.inl (by simp)) harr⟩
   | ret=>exact⟨_,a1,w1,hq,.pass (x:=.inLoop c') rfl (λ_ _=>.inl (by simp)) harr⟩
   | panic ch=>exact⟨_,a1,w1,hq,.pass (x:=.inLoop c') rfl (λ_ _=>.inl (by simp)) harr⟩
   | outgrown=>exact⟨_,a1,w1,hq,.pass (x:=.inLoop c') rfl (λ_ _=>.inl (by simp)) harr⟩
 intro b k cs;obtain ⟨e,a',w',hq,harr⟩:=key (μ g) a w F ok ⟨g,hs.out hk,hH.out _ _ _ gd,hI,rfl⟩ b k cs;exact⟨e,a',w',hq,.of_steps (.one step_loop) harr⟩
end code
structure Pu (P:Program) (op:Op) (ty:TypeId) (K:Kd) (H:List Hp) (d:D):Prop where
 out:∀ ρ w F,KOk w F ρ K->(∀ b,F b->b<w.heap.size)->(∀ h∈H,h.ok w F)->EOp P op ty ρ w (λu w'=>w'=w/\D.rep w F d u)
structure Ef (P:Program) (op:Op) (ty:TypeId) (K:Kd) (H:List Hp) (R:D->List Hp->Prop):Prop where
 out:∀ C ρ w F,KOk w F ρ K->Good C H w F->EOp P op ty ρ w (λu w'=>∃ F' d H',R d H'/\D.rep w' F' d u/\Good C H' w' F'/\Keep w F w' F')
section ops
variable {P:Program} {N:Nat} {C:Ctx} {K:Kd} {H:List Hp} {ops:List Oper} {i:Nat} {Kt:Env->World->(Nat->Prop)->Prop}
structure OpsD (P:Program) (N:Nat) (C:Ctx) (ops:List Oper) (i:Nat) (K:Kd) (H:List Hp) (Kt:Env->World->(Nat->Prop)->Prop):Prop where
 out:∀ a w F,Ok N a->KOk w F (zF a) K->Good C H w F->wpOps P ops.toArray (λe a' w'=>e=.normal/\Ok N a'/\∃ F',Kt (zF a') w' F') (List.range' i (ops.length-i)) a w
def OpsD.fact {φ:Prop} (hf:∀ w F ρ,KOk w F ρ K->Good C H w F->φ) (h:φ->OpsD P N C ops i K H Kt):OpsD P N C ops i K H Kt:=⟨λa w F ok hk g=>(h (hf w F _ hk g)).out a w F ok hk g⟩
def aAc {t:Option Tmp} {op:Op} {ty:TypeId} {R:D->List Hp->Prop} (ho:opAt ops i=some (t,op,ty,none)) (hd:dok N t=true) (h:Ef P op ty K H R)
 (next:∀ d H',R d H'->OpsD P N C ops (i+1) (upK K t d) H' Kt):OpsD P N C ops i K H Kt:=by
 refine⟨λa w F ok hk g=>?_⟩;obtain ⟨o,h1,h2,h3,h4,h5⟩:=za0 ho;have hlt:i<ops.length:=by
  rcases cZ i ops.length with hl | hl
  · exact hl
  simp[jU hl] at h1
 rw[show ops.length-i=(ops.length-(i+1))+1 by omega,wI];simp only[wpOps,h1];rw[aB (by unfold Region.wanted;rw[h5])];left;apply zcw;rw[h3,h4,h2];refine(h.out C _ w F hk g).mono ?_;rintro v w' ⟨F',d,H',hR,hrep,g',k⟩;exact(next d H' hR).out _ w' F' (ok.put t v) (by rw[zcB ok hd];exact(hk.keep k).upd t hrep) g'
def Pu.ef {op:Op} {ty:TypeId} {d:D} (h:Pu P op ty K H d):Ef P op ty K H (λd' H'=>d'=d/\H'=H):=
 ⟨λ_ ρ w F hk g=>(h.out ρ w F hk g.flt g.h.ok).mono λ_ _ ⟨e,hr⟩=>by subst e;exact⟨F,d,H,⟨rfl,rfl⟩,hr,g,wU⟩⟩
def Ef.mono {op:Op} {ty:TypeId} {R R':D->List Hp->Prop} (h:Ef P op ty K H R) (hR:∀ d H',R d H'->R' d H'):Ef P op ty K H R':=
 ⟨λC ρ w F hk g=>(h.out C ρ w F hk g).mono λ_ _ ⟨F',d,H',h1,h2⟩=>⟨F',d,H',hR _ _ h1,h2⟩⟩
def zgQ {t:Tmp} {op:Op} {ty:TypeId} {d:D} (ho:opAt ops i=some (some t,op,ty,none)) (hd:Nat.blt t N=true) (h:Pu P op ty K H d)
 (next:OpsD P N C ops (i+1) ((t,d)::K) H Kt):OpsD P N C ops i K H Kt:=
 aAc ho hd h.ef λ_ _ ⟨e1,e2⟩=>by subst e1;subst e2;exact next
def aMj {j:Nat} {want:Bool} {u:Value} {t:Option Tmp} {op:Op} {ty:TypeId} {s:Tmp} {R:D->List Hp->Prop}
 (ho:opAt ops i=some (t,op,ty,some (j,want))) (hd:dok N t=true) (hj:zW ops j=some s) (hs:Nat.blt s N=true) (hb:zI K s=some (.v u)) (h:Ef P op ty K H R)
 (hrun:nb u=some want->∀ d H',R d H'->OpsD P N C ops (i+1) (upK K t d) H' Kt)
 (hskip:nb u≠some want->OpsD P N C ops (i+1) (upK K t (.v undef)) H Kt):OpsD P N C ops i K H Kt:=by
 refine⟨λa w F ok hk g=>?_⟩;obtain ⟨o,h1,h2,h3,h4,h5⟩:=za0 ho;have hlt:i<ops.length:=by
  rcases cZ i ops.length with hl | hl
  · exact hl
  simp[jU hl] at h1
 have hy:yielded ops.toArray a.tmps j=nb u:=by
  have he:zF a s=u:=hk s _ hb;have hts:s<a.tmps.size:=by rw[ok.1];exact zaE.1 hs
  have hg:a.tmps[s]?=some u:=by
   simp only[zF,jG] at he;rw[uS hts] at he ⊢;simpa using he
  unfold yielded;unfold zW at hj;cases hn:nth ops j with
  | none=>rw[hn] at hj;cases hj
  | some oj=>
   rw[hn] at hj;have:ops.toArray[j]?=some oj:=(by rw[zaH] at hn;simpa using hn);rw[this];simp only[wL,hj,hg];cases u<;>rfl
 rw[show ops.length-i=(ops.length-(i+1))+1 by omega,wI];simp only[wpOps,h1];by_cases e:nb u=some want
 · rw[aB (by unfold Region.wanted;rw[h5];simp[hy,e])];left;apply zcw;rw[h3,h4,h2];refine(h.out C _ w F hk g).mono ?_;rintro v w' ⟨F',d,H',hR,hrep,g',k⟩;exact(hrun e d H' hR).out _ w' F' (ok.put t v) (by rw[zcB ok hd];exact(hk.keep k).upd t hrep) g'
 rw[aA (by unfold Region.wanted;rw[h5];simp[hy,e]),h2];exact(hskip e).out _ w F (ok.put t undef) (by rw[zcB ok hd];exact hk.upd t rfl) g
def aEq {j:Nat} {want:Bool} {t:Option Tmp} {op:Op} {ty:TypeId} {s:Tmp} {R:D->List Hp->Prop} (ho:opAt ops i=some (t,op,ty,some (j,want))) (hd:dok N t=true) (hj:zW ops j=some s) (hs:Nat.blt s N=true) (hb:zI K s=some (.v (.bool want))) (h:Ef P op ty K H R)
 (next:∀ d H',R d H'->OpsD P N C ops (i+1) (upK K t d) H' Kt):OpsD P N C ops i K H Kt:=
 aMj ho hd hj hs hb h (λ_=>next) (λhne=>aH rfl hne)
def qG {j:Nat} {want:Bool} {t:Option Tmp} {op:Op} {ty:TypeId} {s:Tmp} {u:Value} (ho:opAt ops i=some (t,op,ty,some (j,want))) (hd:dok N t=true) (hj:zW ops j=some s) (hs:Nat.blt s N=true) (hb:zI K s=some (.v u)) (hu:nb u≠some want)
 (next:OpsD P N C ops (i+1) (upK K t (.v undef)) H Kt):OpsD P N C ops i K H Kt:=by
 refine⟨λa w F ok hk g=>?_⟩;obtain ⟨o,h1,h2,h3,h4,h5⟩:=za0 ho;have hlt:i<ops.length:=by
  rcases cZ i ops.length with hl | hl
  · exact hl
  simp[jU hl] at h1
 have hy:yielded ops.toArray a.tmps j=nb u:=by
  have he:zF a s=u:=hk s _ hb;have hts:s<a.tmps.size:=by rw[ok.1];exact zaE.1 hs
  have hg:a.tmps[s]?=some u:=by
   simp only[zF,jG] at he;rw[uS hts] at he ⊢;simpa using he
  unfold yielded;unfold zW at hj;cases hn:nth ops j with
  | none=>rw[hn] at hj;cases hj
  | some oj=>
   rw[hn] at hj;have:ops.toArray[j]?=some oj:=(by rw[zaH] at hn;simpa using hn);rw[this];simp only[wL,hj,hg];cases u<;>rfl
 rw[show ops.length-i=(ops.length-(i+1))+1 by omega,wI];simp only[wpOps,h1];rw[aA (by unfold Region.wanted;rw[h5];simp[hy,hu]),h2];exact next.out _ w F (ok.put t undef) (by rw[zcB ok hd];exact hk.upd t rfl) g
def aIk {c:Code} {Q:zbB} (hc:zcU c=some false) (h:OpsD P N C (zaL c) 0 K H (λρ w F=>Q .normal ρ w F)):JD P N C c K H Q:=by
 cases c<;>simp[zcU] at hc
 rename_i id ops draw;subst hc;refine⟨λa w F ok hk g=>?_⟩;have:=h.out a w F ok hk g;simp only[zaL,Array.toArray_toList,Nat.sub_zero,Array.length_toList] at this;refine wp_region ?_;rw[j7];refine zaQ ?_ _ _ _ this;rintro e a' w' ⟨rfl,h1,h2⟩;exact⟨h1,h2⟩
end ops
structure CD (P:Program) (f:FuncId) (H:List Hp) (ds:List D) (R:D->List Hp->Prop):Prop where
 out:∀ w F vs,D.repA w F ds vs->(∀ b,F b->b<w.heap.size)->HOk w F (λ_=>True) H->
  Calls P f vs.toArray w (Ret λres w'=>∃ F' r H',R r H'/\D.rep w' F' r res/\Good ⟨w,blks H,F⟩ H' w' F')
def qret (P:Program) (fn:Func) (C:Ctx) (R:D->List Hp->Prop):zbB
 | .normal,ρ,w,_=>∀ tmps:Array Value,(∀ t,tmps.getD t undef=ρ t)->∃ v,(results fn tmps).run P w=.ok v w/\∃ F' r H',R r H'/\D.rep w F' r v/\Good C H' w F'
 | .ret,ρ,w,_=>∀ tmps:Array Value,(∀ t,tmps.getD t undef=ρ t)->∃ v,(results fn tmps).run P w=.ok v w/\∃ F' r H',R r H'/\D.rep w F' r v/\Good C H' w F'
 | _,_,_,_=>False
def zgL (i:Nat):List D->Kd
 | []=>[]
 | v::r=>(i,v)::zgL (i+1) r
def nR {w:World} {F:Nat->Prop}:∀ (ds:List D) (vs:List Value) (i t:Nat) (d:D),D.repA w F ds vs->zI (zgL i ds) t=some d->i<=t/\∃ u,vs[t-i]?=some u/\D.rep w F d u
 | [],_,i,t,d,_,h=>by simp[zgL,zI] at h
 | x::r,_,i,t,d,⟨u,us,rfl,hr,hrs⟩,h=>by
  simp only[zgL,zI] at h;by_cases e:t=i
  · subst e;rw[show Nat.beq t t=true from jT t] at h;simp only[cond_true,cX] at h;subst h;exact⟨cW _,u,by simp,hr⟩
  rw[zbx e] at h;obtain ⟨h1,v,h2,h3⟩:=nR r us (i+1) t d hrs h;refine⟨by omega,v,?_,h3⟩;rw[show t-i=(t-(i+1))+1 by omega];simpa using h2
def mE {H:List Hp} {w:World} {F:Nat->Prop} (hF:∀ b,F b->b<w.heap.size) (h:HOk w F (λ_=>True) H):Good ⟨w,blks H,F⟩ H w F where
 size:=cW _
 os:=rfl
 tape:=rfl
 output:=rfl
 drawn:=Dr.rfl' _
 frame:=λ_ _ _=>rfl
 fsub:=λ_ h=>h
 fnew:=λ_ h=>.inl h
 flt:=hF
 h:=⟨h.apart,h.ok,λg hg=>⟨.inr hg,(h.mine g hg).2⟩⟩
def aKk {P:Program} {f:FuncId} {fn:Func} {N:Nat} {H:List Hp} {ds:List D} {R:D->List Hp->Prop} (hf:P.funcs[f]?=some fn) (hb:fn.body.isSome=true) (hN:fn.ntmps=N) (hs:Nat.ble ds.length N=true)
 (h:∀ C,JD P N C (cd (zap fn) []) (zgL 0 ds) H (qret P fn C R)):CD P f H ds R:=by
 refine⟨λw F vs hvs hF hH=>?_⟩;cases hbody:fn.body with
 | none=>rw[hbody] at hb;cases hb
 | some c=>
  have hs':=dE hs;have hl:=iI hvs;refine calls_of_wp hf hbody ?_;have hc:cd (zap fn) []=c:=by
   have:zap fn=c:=(by unfold zap;rw[hbody];rfl);rw[this];cases c<;>rfl
  have h':=h ⟨w,blks H,F⟩;rw[hc] at h';refine wp_mono (h'.out _ w F ⟨by simp[hN];omega,rfl⟩ ?_ (mE hF hH)) ?_
  · intro t d hd;obtain ⟨_,u,h2,h3⟩:=nR ds vs 0 t d hvs hd;have:zF { tmps:=vs.toArray++Array.replicate (fn.ntmps-vs.toArray.size) undef,defers:=[] } t=u:=by
     simp only[zF,jG];rw[Array.getElem?_append_left (by simpa using (cQ.1 h2).1)];simp only[Nat.sub_zero] at h2;simp[h2]
    first | exact this ▸ h3 | (rw[show zF _ t=u from this];exact h3)
  rintro e a' w' ⟨ok,F',hq⟩;cases e with
  | normal=>
   obtain ⟨v,h1,F2,r,H',h2⟩:=hq a'.tmps (λ_=>rfl);exact⟨ok.2,v,h1,v,rfl,F2,r,H',h2⟩
  | ret=>
   obtain ⟨v,h1,F2,r,H',h2⟩:=hq a'.tmps (λ_=>rfl);exact⟨ok.2,v,h1,v,rfl,F2,r,H',h2⟩
  | _=>exact hq.elim
end Lp
