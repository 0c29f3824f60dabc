import Derived.Test.YtegbgpbchcjahaaGreatDoorPSym
set_option linter.all false
namespace Lp
open Go
structure Hid (p:Prop):Prop where
 out:p
def zB (o:Int):Cmp (zg o):=⟨λa b=>aD3 o a b,λa b d=>aJd o a b d⟩
def aAm {α:Type} {L:List α} {a m b:Nat} (h1:a<=m) (h2:m<=b) (hb:b<=L.length) (h:a=m\/m=b):rotL a m b L=L:=by
 obtain ⟨P,X,R1,e1,hP,hX⟩:=dec2 (L:=L) (a:=a) (b:=m) h1 (by omega);obtain ⟨Z,Y,R,e2,hZ,hY⟩:=dec2 (L:=R1) (a:=0) (b:=b-m) (by omega) (by have:=aG List.length e1;simp only[cO] at this;omega);rw[dC hZ,dY] at e2;subst e2;subst e1;rw[zdk (by omega) (by omega) (by omega)];rcases h with h | h
 · have:X=[]:=dC (by omega);subst this;simp
 have:Y=[]:=dC (by omega);subst this;simp
def iB {α:Type} {c:α->α->Int} {L:List α} {a s b:Nat} (h1:Srt c (seg L a s)) (h2:Srt c (seg L s b)) (ha:a<=s) (hb:s<=b) (hl:b<=L.length) (h:a=s\/s=b):Srt c (seg L a b):=by
 rcases h with rfl | rfl
 · exact h2
 exact h1
def sH {α:Type} {c:α->α->Int} {L:List α} {a b:Nat} (ha:a<=b) (hb:b<=L.length):isrt c a b b (a+1) L=fixI c a b L:=by
 obtain ⟨P,X,R,e,hP,hX⟩:=dec2 ha hb;subst e;rw[zcR (a:=a) (b:=b) (by omega) (by omega)];cases X with
 | nil=>rw[zbp (by simp at hX;omega)];rfl
 | cons x X=>
  have key:=nB (c:=c) (A:=P) (R:=R) X.length [x] X rfl;have e1:zr c [x]=[x]:=rfl;rw[e1] at key;simp only[dH,uJ,cP,List.singleton_append] at key hX;have more:∀ (n m i:Nat) (L:List α),b<=i+n->n<=m->isrt c a b m i L=isrt c a b n i L:=by
   intro n
   induction n with
   | zero=>intro m i L h1 _;rw[zbp (by omega),zbp (by omega)]
   | succ n ih=>
    intro m i L h1 h2;obtain ⟨m,rfl⟩:∃ k,m=k+1:=⟨m-1,by omega⟩;rcases cZ i b with h | h
    · rw[zbA h,zbA h];exact ih m _ _ (by omega) (by omega)
    rw[zbp h,zbp h]
  rw[more X.length b (a+1) _ (by omega) (by omega)];subst hP;rw[show b=P.length+(0+1)+X.length by omega,show P.length+1=P.length+(0+1) by omega];exact key
section
variable {α:Type} {c:α->α->Int}
def zcZ (c:α->α->Int) (l:List α):Prop:=l.Pairwise (λa b=>c a b<0)
def zcZ.srt {l:List α} (h:zcZ c l):Srt c l:=List.Pairwise.imp (λh=>Int.le_of_lt h) h
def zgS (out:List α) (k:Nat) (x:α):List α:=(((out.take k).drop 0)++[x])++((out.take out.length).drop k)
def aCy (out:List α) (k:Nat) (x:α):zgS out k x=out.take k++x::out.drop k:=by unfold zgS;rw[dJ,d8];simp
def lT (out:List α) (k:Nat) (x:α):(zgS out k x).Perm (out++[x]):=by
 rw[aCy];refine(vC).trans ?_;rw[dF];exact(List.perm_append_comm (l₁:=[x]) (l₂:=out))
def tB {out:List α} {k:Nat} {x:α} (h:zcZ c out) (h1:∀ y∈out.take k,c y x<0) (h2:∀ y∈out.drop k,c x y<0):zcZ c (zgS out k x):=by
 rw[aCy];have e:out.take k++out.drop k=out:=dF ..;unfold zcZ at h ⊢;rw[<-e] at h;obtain ⟨a1,a2,a3⟩:=d7.1 h;refine d7.2 ⟨a1,dG.2 ⟨h2,a2⟩,λy hy z hz=>?_⟩;rcases dD.1 hz with e | e
 · rw[e];exact h1 y hy
 exact a3 y hy z e
def aNt (x:α) (l:List α):(ins c x l).Perm (x::l):=by
 have key:∀ l:List α,(insB c x l).Perm (x::l):=by
  intro l
  induction l with
  | nil=>exact List.Perm.refl _
  | cons y r ih=>
   unfold insB;split
   · exact(List.Perm.cons y ih).trans (List.Perm.swap x y r)
   exact List.Perm.refl _
 unfold ins;exact(List.reverse_perm _).trans ((key l.reverse).trans (List.Perm.cons x (List.reverse_perm l)))
def sA (l:List α):(zr c l).Perm l:=by
 have key:∀ (m r:List α),(m.foldl (λr x=>ins c x r) r).Perm (r++m):=by
  intro m
  induction m with
  | nil=>intro r;simp
  | cons x m ih=>
   intro r;refine(ih (ins c x r)).trans ?_;refine(List.Perm.append_right m (aNt x r)).trans ?_;show (x::(r++m)).Perm (r++x::m);exact List.perm_middle.symm
 have:=key l [];rw[dY] at this;exact this
def aKq (h:Cmp c) {a b:List α} (ha:Srt c a) (hb:Srt c b) (hp:a.Perm b) (anti:∀ x∈a,∀ y∈a,c x y=0->x=y):a=b:=by
 refine mR h _ _ ha hb (λk=>?_);have hrep:∀ m:List α,(∀ x∈m,∀ y∈m,c x y=0->x=y)->∀ z∈m.filter (eqv c k),m.filter (eqv c k)=List.replicate (m.filter (eqv c k)).length z:=by
  intro m hm z hz;rw[List.eq_replicate_iff];refine⟨rfl,λw hw=>?_⟩;have h1:=j6.1 hz;have h2:=j6.1 hw;have e1:c k z=0:=by simpa [eqv] using h1.2
  have e2:c k w=0:=by simpa [eqv] using h2.2
  have e3:=h.neg k w;have e4:=(h.tr w k z).e1 (by omega);exact hm w h2.1 z h1.1 (by omega)
 have hpf:=hp.filter (eqv c k);have hl:=hpf.length_eq;rcases hz:a.filter (eqv c k) with _ | ⟨z,r⟩
 · rw[hz] at hl;rw[dC (l:=b.filter (eqv c k)) (by rw[<-hl];rfl)]
 rw[<-hz];have hm:z∈a.filter (eqv c k):=by rw[hz];exact cR
 have hm2:z∈b.filter (eqv c k):=hpf.mem_iff.1 hm;rw[hrep a anti z hm,hrep b (λx hx y hy=>anti x (hp.mem_iff.2 hx) y (hp.mem_iff.2 hy)) z hm2,hl]
def zcZ.anti (h:Cmp c) {l:List α} (hs:zcZ c l):∀ x∈l,∀ y∈l,c x y=0->x=y:=by
 induction l with
 | nil=>intro x hx;cases hx
 | cons a r ih=>
  have hs':=dG.1 hs;intro x hx y hy e;rcases dD.1 hx with ex | ex<;>rcases dD.1 hy with ey | ey
  · rw[ex,ey]
  · have:=hs'.1 y ey;rw[ex] at e;omega
  · have:=hs'.1 x ex;have:=h.neg a x;rw[ey] at e;omega
  exact ih hs'.2 x ex y ey e
def rQ (h:Cmp c) {l m:List α} (hs:zcZ c l) (hp:l.Perm m):zr c m=l:=by
 have h1:=sA (c:=c) m;exact(aKq h hs.srt (zax h _ m rfl).srt (hp.trans h1.symm) (hs.anti h)).symm
end
def NSrt.strict {l:List Lbl} (h:NSrt l):zcZ zx l:=List.Pairwise.imp (λ{a b} h=>by unfold zx or2;rw[aB (by omega)];exact h) h
structure RT (l:List Lbl) (i:Nat) (out:List Lbl):Prop where
 ns:NSrt out
 pm:out.Perm (l.take i)
 ok:∀ x∈out,okL x=true
def RT.zero (l:List Lbl):RT l 0 []:=⟨List.Pairwise.nil,by simp,λ_ h=>by cases h⟩
def RT.len {l out:List Lbl} {i:Nat} (h:RT l i out) (hi:i<=l.length):out.length=i:=by rw[h.pm.length_eq,cY];omega
def RT.next {l out:List Lbl} {i k:Nat} {x:Lbl} (h:RT l i out) (hx:l[i]?=some x) (hok:okL x=true) (h1:∀ j y,j<k->out[j]?=some y->cmpS y.n x.n<0) (h2:k=out.length\/∃ y,out[k]?=some y/\¬cmpS y.n x.n<0/\¬y.n=x.n):RT l (i+1) (zgS out k x):=by
 have hn:∀ y z:Lbl,cmpS y.n z.n<0↔cmpS y.n z.n<0:=λ_ _=>Iff.rfl
 refine⟨?_,?_,?_⟩
 · have:=tB (c:=λa b:Lbl=>cmpS a.n b.n) (out:=out) (k:=k) (x:=x) h.ns (λy hy=>?_) (λy hy=>?_)
   · exact this
   · obtain ⟨j,hj⟩:=wN.1 hy;rw[j0] at hj;split at hj
     · exact h1 j y (by assumption) hj
     cases hj
   rcases h2 with e | ⟨z,hz,h3,h4⟩
   · rw[e,List.drop_length] at hy;cases hy
   have hzx:cmpS x.n z.n<0:=by
    have e1:=zfo z.n x.n;have e2:cmpS z.n x.n≠0:=λe=>h4 ((zcY _ _).1 e)
    omega
   rw[zbh hz] at hy;rcases dD.1 hy with e | e
   · rw[e];exact hzx
   have hs:NSrt (out.take k++out.drop k):=(by rw[dF];exact h.ns);have h5:=(d7.1 hs).2.1;rw[zbh hz] at h5;have h6:=(dG.1 h5).1 y e;exact(oR x.n z.n y.n).lt1 hzx (by omega)
 · refine(lT out k x).trans ?_;rw[zS hx];exact List.Perm.append_right [x] h.pm
 intro y hy;rcases jO.1 ((lT out k x).mem_iff.1 hy) with e | e
 · exact h.ok y e
 rw[dQ.1 e];exact hok
def aEp {l m:List Lbl} (hl:l.length<=8) (hs:NSrt m) (hp:m.Perm l) (hok:∀ x∈m,okL x=true):zaF l=true/\zr zx l=m:=by
 have e:=rQ fF hs.strict hp;refine⟨?_,e⟩;have key:∀ (r:List Lbl) (p:Option Ba),NSrt r->(∀ x∈r,okL x=true)->(∀ n,p=some n->∀ x∈r,cmpS n x.n<0)->zdh p r=true:=by
  intro r
  induction r with
  | nil=>intro _ _ _ _;rfl
  | cons x r ih=>
   intro p h1 h2 h3;have h1':=dG.1 h1;unfold zdh;rw[h2 x cR,ih (some x.n) h1'.2 (λy hy=>h2 y (cV _ hy)) (λn hn y hy=>by injection hn with hn;rw[<-hn];exact h1'.1 y hy)];have:¬p=some x.n:=λhp=>by have:=h3 x.n hp x cR;have e0:=(zcY x.n x.n).2 rfl;omega
   simp[this]
 unfold zaF ze5 zcp;rw[e];simp only[zfD,d8,cU,aI];exact⟨hl,key m none hs hok (λ_ h=>by cases h)⟩
def RT.done {l out:List Lbl} {i:Nat} (h:RT l i out) (hi:l.length<=i) (hl:l.length<=8):out=zZ l/\true=zaF l:=by
 have hp:=h.pm;rw[c6 hi] at hp;obtain ⟨e1,e2⟩:=aEp hl h.ns hp h.ok;unfold zZ;rw[e1,e2];exact⟨rfl,rfl⟩
def qR {l:List Lbl} (h:zaF l=false):[]=zZ l/\false=zaF l:=by unfold zZ;rw[h];exact⟨rfl,rfl⟩
def aD1 {l:List Lbl} (h:zaF l=true) {x:Lbl} (hx:x∈l):okL x=true:=by
 have e:zcx l=0:=by unfold zcx;rw[h];rfl
 have hm:x∈zZ l:=by unfold zZ;rw[h];exact((zax fF _ l rfl).mem fF x).2 hx
 exact(aPi e).2 x hm
def mS {l:List Lbl} {i:Nat} {x:Lbl} (hx:l[i]?=some x) (h:okL x=false):[]=zZ l/\false=zaF l:=qR (by
 rcases e:zaF l with _ | _
 · rfl
 have:=aD1 e (za1 hx);rw[h] at this;cases this)
def RT.long {l:List Lbl} (h:(8:Int)<((l.length:Nat):Int)):[]=zZ l/\false=zaF l:=qR (by
 have:¬l.length<=8:=by omega
 simp[zaF,this])
def RT.bad2 {l out:List Lbl} {i k:Nat} {x y:Lbl} (h:RT l i out) (hx:l[i]?=some x) (hy:out[k]?=some y) (e:y.n=x.n):[]=zZ l/\false=zaF l:=qR (by
 rcases ek:zaF l with _ | _
 · rfl
 exfalso;have e0:zcx l=0:=by unfold zcx;rw[ek];rfl
 have eT:zZ l=zr zx l:=by unfold zZ;rw[ek];rfl
 have hn:=(aPi e0).1;rw[eT] at hn;have hp:=sA (c:=zx) l;have hl:l=l.take i++(x::l.drop (i+1)):=by rw[<-zbh hx,dF]
 have hyt:y∈l.take i:=h.pm.mem_iff.1 (za1 hy);have hnd:(l.map (·.n)).Nodup:=by
  have h1:((zr zx l).map (·.n)).Nodup:=by
   rw[List.Nodup,List.pairwise_map];exact List.Pairwise.imp (λ{a b} hab e=>by have:=(zcY a.n b.n).2 e;omega) hn
  exact(hp.map (·.n)).nodup_iff.1 h1
 rw[hl,u9,List.nodup_append] at hnd;exact hnd.2.2 y.n (uL.2 ⟨y,hyt,rfl⟩) x.n (by simp) e)
def cL (a b:RowD):Int:=zt a.ls b.ls
def cL_cmp:Cmp cL:=⟨λa b=>fV _ _,λa b d=>zeR _ _ _⟩
def ordB (l:List RowD):Bool:=decide ((zr cL l).Pairwise (λa b=>cL a b<0))
def ordL (l:List RowD):List RowD:=bif ordB l then zr cL l else []
def ordE (l:List RowD):Int:=bif ordB l then 0 else 6
def aW0 {l:List RowD} (h:ordB l=false):[]=ordL l/\6=ordE l:=by unfold ordL ordE;rw[h];exact⟨rfl,rfl⟩
def valB (v:Int):Bool:=decide (-1000000000000<=v)&&decide (v<=1000000000000)
def zaG (l:List Lbl):Bool:=zaF l&&decide (zt (zZ l) l=0)
def zdT (l:List RowD):Bool:=l.all (λr=>zaG r.ls&&valB r.v)
def rtL (l:List RowD):List RowD:=bif decide (l.length<=2000)&&zdT l then ordL l else []
def rtE (l:List RowD):Int:=bif decide (l.length<=2000)&&zdT l then ordE l else 1
def pN {l:List RowD} (h:(2000:Int)<((l.length:Nat):Int)):[]=rtL l/\1=rtE l:=by
 have:¬l.length<=2000:=by omega
 unfold rtL rtE;rw[aD this];exact⟨rfl,rfl⟩
def aU0 {l:List RowD} {i:Nat} {x:RowD} (hx:l[i]?=some x) (h:(zaG x.ls&&valB x.v)=false):[]=rtL l/\1=rtE l:=by
 have:zdT l=false:=by unfold zdT;rw[wF];exact⟨x,za1 hx,by rw[h];simp⟩
 unfold rtL rtE;rw[this,uM];exact⟨rfl,rfl⟩
def aYk {l:List RowD} (h1:¬(2000:Int)<((l.length:Nat):Int)) (h2:zdT l=true):ordL l=rtL l/\ordE l=rtE l:=by
 have:l.length<=2000:=by omega
 unfold rtL rtE;rw[aE this,h2];exact⟨rfl,rfl⟩
end Lp
namespace Lp
open Go
def aK3 (l:List Lbl):decide (zcx l=0)=zaF l:=by
 unfold zcx;cases zaF l<;>rfl
def sB (l:List Lbl):(decide (zcx l=0)&&decide (zt (zZ l) l=0))=zaG l:=by
 unfold zaG;rw[aK3]
def zcK (r:RowD):Bool:=zaG r.ls&&zD r.v
def qQ (l:List RowD):zdT l=l.all zcK:=rfl
def gB {r:RowD} (h:zcK r=true):r.ls.length<=8:=by
 unfold zcK zaG at h;simp only[cU] at h;exact xZ h.1.1
def zfC (l:List RowD):Nat->Option RowD
 | 0=>none
 | k+1=>l[k]?
def ltP (p:Option RowD) (x:RowD):Bool:=match p with
 | none=>true
 | some q=>decide (cL q x<0)
def ascB:Option RowD->List RowD->Bool
 | _,[]=>true
 | p,r::l=>zcK r&&(ltP p r&&ascB (some r) l)
def zcc (l:List RowD) (k:Nat):Bool:=ascB (zfC l k) (l.drop k)
def zbc (l:List RowD):Bool:=decide (l.length<=2000)&&zcc l 0
def fE {l:List RowD} {k:Nat} {x:RowD} (h:l[k]?=some x):zcc l k=(zcK x&&(ltP (zfC l k) x&&zcc l (k+1))):=by
 unfold zcc;rw[zb9 h];show (zcK x&&(ltP (zfC l k) x&&ascB (some x) (l.drop (k+1))))=_;rw[show zfC l (k+1)=some x from h]
def aE8 {l:List RowD} {k:Nat} (h:l.length<=k):zcc l k=true:=by
 unfold zcc;rw[jZ.2 h];rfl
def tI {l:List RowD} {k:Nat} {y:RowD} (h:(0:Int)<((k:Nat):Int)) (hy:l[k-1]?=some y):zfC l k=some y:=by
 cases k with
 | zero=>simp at h
 | succ k=>simpa [zfC] using hy
def aDy {l:List RowD} {k:Nat} (h:¬(0:Int)<((k:Nat):Int)):zfC l k=none:=by
 have:k=0:=by omega
 subst this;rfl
section
variable {l:List RowD} {k:Nat} {x:RowD}
def aR3 (h:(2000:Int)<((l.length:Nat):Int)):false=zbc l:=by
 have:¬l.length<=2000:=by omega
 simp[zbc,this]
def aTf (hk:zcc l 0=zcc l k) (hx:l[k]?=some x) (h:zcK x=false):false=zbc l:=by simp[zbc,hk,fE hx,h]
def aSr (hk:zcc l 0=zcc l k) (hx:l[k]?=some x) {y:RowD} (h:zfC l k=some y) (hn:0<=zt y.ls x.ls):false=zbc l:=by
 have:¬cL y x<0:=by unfold cL;omega
 simp[zbc,hk,fE hx,h,ltP,this]
def aUc (hk:zcc l 0=zcc l k) (hx:l.length<=k) (h:¬(2000:Int)<((l.length:Nat):Int)):true=zbc l:=by
 have:l.length<=2000:=by omega
 simp[zbc,hk,aE8 hx,this]
def aLn (hk:zcc l 0=zcc l k) (hx:l[k]?=some x) (h:zcK x=true) (hp:zfC l k=none):zcc l 0=zcc l (k+1):=by rw[hk,fE hx,h,hp];rfl
def aUv (hk:zcc l 0=zcc l k) (hx:l[k]?=some x) (h:zcK x=true) {y:RowD} (hp:zfC l k=some y) (hn:¬0<=zt y.ls x.ls):zcc l 0=zcc l (k+1):=by
 have:cL y x<0:=by unfold cL;omega
 rw[hk,fE hx,h,hp];simp[ltP,this]
end
def aCb:∀ (l:List RowD) (p:Option RowD),ascB p l=true↔(∀ r∈l,zcK r=true)/\zcZ cL l/\(∀ q,p=some q->∀ r∈l,cL q r<0)
 | [],p=>by
  constructor
  · intro _;exact⟨λ_ h=>(by cases h),List.Pairwise.nil,λ_ _ _ h=>(by cases h)⟩
  intro _;rfl
 | r::l,p=>by
  show (zcK r&&(ltP p r&&ascB (some r) l))=true↔_;rw[cU,cU,aCb l (some r)];constructor
  · rintro ⟨h1,h2,h3,h4,h5⟩;refine⟨λy hy=>?_,dG.2 ⟨λy hy=>h5 r rfl y hy,h4⟩,λq hq y hy=>?_⟩
    · rcases dD.1 hy with e | e
      · rw[e];exact h1
      exact h3 y e
    subst hq;have hqr:cL q r<0:=aF h2;rcases dD.1 hy with e | e
    · rw[e];exact hqr
    exact(cL_cmp.tr q r y).lt1 hqr (by have:=h5 r rfl y e;omega)
  rintro ⟨h1,h2,h3⟩;have h2':=dG.1 h2;refine⟨h1 r cR,?_,λy hy=>h1 y (cV _ hy),h2'.2,λq hq y hy=>by injection hq with hq;subst hq;exact h2'.1 y hy⟩;cases p with
  | none=>rfl
  | some q=>exact aE (h3 q rfl r cR)
def zdQ {l:List RowD}:zbc l=true↔l.length<=2000/\zdT l=true/\zcZ cL l:=by
 unfold zbc;rw[cU,aI,qQ,c8];show _/\ascB none l=true↔_;rw[aCb];constructor
 · rintro ⟨h1,h2,h3,_⟩;exact⟨h1,h2,h3⟩
 rintro ⟨h1,h2,h3⟩;exact⟨h1,h2,h3,λ_ h=>(by cases h)⟩
def xG:zg 0=cL:=by funext a b;rfl
def ze1 (s:List RowD) (i:Nat):Prop:=∀ j x y,j+1<i->s[j]?=some x->s[j+1]?=some y->cL x y≠0
def ze1.one (s:List RowD):ze1 s 1:=λj x y h=>by omega
def ze1.next {s:List RowD} {i:Nat} {x y:RowD} (h:ze1 s i) (hi:1<=i) (hx:s[i-1]?=some x) (hy:s[i]?=some y) (hn:¬zt x.ls y.ls=0):ze1 s (i+1):=λj a b hj ha hb=>by
 rcases cZ (j+1) i with e | e
 · exact h j a b e ha hb
 have:j+1=i:=by omega
 subst this;simp only[Nat.add_sub_cancel] at hx;rw[ha] at hx;rw[hb] at hy;injection hx with hx;injection hy with hy;subst hx;subst hy;exact hn
def aI8 {s:List RowD} (h:Srt cL s) (hn:ze1 s s.length):zcZ cL s:=by
 induction s with
 | nil=>exact List.Pairwise.nil
 | cons x r ih=>
  have h':=dG.1 h;have hr:zcZ cL r:=ih h'.2 (λj a b hj ha hb=>hn (j+1) a b (by simp;omega) (by simpa using ha) (by simpa using hb));refine dG.2 ⟨λy hy=>?_,hr⟩;cases r with
  | nil=>cases hy
  | cons z r=>
   have e1:cL x z<=0:=h'.1 z cR;have e2:cL x z≠0:=hn 0 x z (by simp) rfl rfl;rcases dD.1 hy with e | e
   · rw[e];omega
   exact(cL_cmp.tr x z y).lt1 (by omega) (by have:=(dG.1 hr).1 y e;omega)
section
variable {l:List RowD} {i:Nat} {x y:RowD}
def aUt {n:Nat} (h:zdT (l.take n)=true) (hn:l.length<=n):zdT l=true:=by rwa [c6 hn] at h
def qJ (h1:¬(2000:Int)<((l.length:Nat):Int)) (h2:zdT l=true) (hi:1<=i) (hx:(zr (zg 0) l)[i-1]?=some x) (hy:(zr (zg 0) l)[i]?=some y) (e:zt x.ls y.ls=0):[]=rtL l/\6=rtE l:=by
 have hb:ordB l=false:=by
  rcases ek:ordB l with _ | _
  · rfl
  exfalso;have hst:(zr cL l).Pairwise (λa b=>cL a b<0):=by unfold ordB at ek;exact aF ek
  rw[<-xG] at hst;obtain ⟨p1,q1⟩:=cQ.1 hx;obtain ⟨p2,q2⟩:=cQ.1 hy;have:=jF.1 hst (i-1) i p1 p2 (by omega);rw[q1,q2] at this;have e':zg 0 x y=zt x.ls y.ls:=rfl;omega
 obtain ⟨a,b⟩:=aYk h1 h2;obtain ⟨c,d⟩:=aW0 hb;exact⟨c.trans a,d.trans b⟩
def oM (h1:¬(2000:Int)<((l.length:Nat):Int)) (h2:zdT l=true) (hn:ze1 (zr (zg 0) l) i) (hi:(zr (zg 0) l).length<=i):zr (zg 0) l=rtL l/\0=rtE l:=by
 have hst:zcZ cL (zr cL l):=by
  rw[xG] at hn hi;exact aI8 (zax cL_cmp _ l rfl).srt (λj a b hj ha hb=>hn j a b (by omega) ha hb)
 have hb:ordB l=true:=by unfold ordB;exact aE hst
 obtain ⟨a,b⟩:=aYk h1 h2;rw[<-a,<-b];unfold ordL ordE;rw[hb,xG];exact⟨rfl,rfl⟩
end
def xI {l:List RowD} {k:Nat} {x:RowD} (hx:l[k]?=some x) (h:zdT (l.take k)=true) (hr:zcK x=true):zdT (l.take (k+1))=true:=by
 rw[qQ] at*;exact eP hx h hr
def qH {l:List RowD} {i:Nat} {x:RowD} (hx:l[i]?=some x) (h:zcK x=false):[]=rtL l/\1=rtE l:=aU0 hx h
def metB:Ba:=⟨#[109,101,116,114,105,99]⟩
def keyL (mode:Int) (ns:List Ba) (l:List Lbl):List Lbl:=
 if mode=1 then zb0 l ns true else if mode=2 then zb0 (zb0 l ns false) [metB] false else zb0 l [metB] false
def opB (op:Ba):Bool:=decide ((doE op 1 1).2=0)
section
variable {f:RowD->Int×Int} {l:List RowD} {k:Nat} {x:RowD}
end
section
variable {op:Ba} {v:Int} {left:Bool} {l:List RowD} {k:Nat} {x:RowD}
end
def keyT (mode:Int) (ns:List Ba) (r:RowD):Ba:=aZ0 (keyL mode ns r.ls)
def aZw (mode:Int) (ns:List Ba) (l:List RowD):List Ba:=l.map (keyT mode ns)
def ndT (mode:Int) (ns:List Ba) (l:List RowD):Prop:=(aZw mode ns l).Nodup
instance (mode:Int) (ns:List Ba) (l:List RowD):Decidable (ndT mode ns l):=inferInstanceAs (Decidable (List.Nodup _))
section
variable {op:Ba} {mode:Int} {ns:List Ba} {a b:List RowD} {k:Nat} {x:RowD}
end
end Lp
namespace Lp
open Go
def rowsB_iff {l:List RowD}:zdT l=true↔∀ r∈l,zcK r=true:=by rw[qQ,c8]
def aFz {a:List RowD} (h:zbc a=true):∀ r∈a,zcK r=true:=rowsB_iff.1 (zdQ.1 h).2.1
def aRr {op:Ba} (h:cmpB op=true):opB op=true:=by
 have e:doE op 1 1=(if cmpF op 1 1=true then 1 else 0,0):=by unfold doE;rw[aA (by decide),aB h]
 unfold opB;rw[e];rfl
def aWy {op:Ba} (h:cmpB op=true) {a b:Int} (ha:zD a=true) (hb:zD b=true):doE op a b=(if cmpF op a b=true then 1 else 0,0):=by
 unfold doE;rw[aA (by rw[ha,hb];decide),aB h]
def gA {s:Ba} {r q:Nat} (h0:1<s.size) (h1:decR s 0=r) (hw:decW s 0=1) (h2:decR s 1=q) (h3:s.size<=1+decW s 1):zaI s=[(r:Int),(q:Int)]:=by
 unfold zaI;rw[zaw (by omega),hw,h1,zaw (by omega),h2,za2 (by omega)]
def aQv (a b:Int):cmpF ⟨#[61,61]⟩ a b=decide (a=b):=by
 unfold cmpF;rw[gA (r:=61) (q:=61) (by decide) (by decide) (by decide) (by decide) (by decide)];simp[zew]
def aTt (a b:Int):cmpF ⟨#[33,61]⟩ a b=decide (a≠b):=by
 unfold cmpF;rw[gA (r:=33) (q:=61) (by decide) (by decide) (by decide) (by decide) (by decide)];simp[zew]
def aUn (a b:Int):cmpF ⟨#[60]⟩ a b=decide (a<b):=by
 unfold cmpF;rw[rJ (r:=60) (by decide) (by decide) (by decide)];simp[zew]
def aSf (a b:Int):cmpF ⟨#[62]⟩ a b=decide (b<a):=by
 unfold cmpF;rw[rJ (r:=62) (by decide) (by decide) (by decide)];simp[zew]
def aS2 (a b:Int):cmpF ⟨#[60,61]⟩ a b=decide (a<=b):=by
 unfold cmpF;rw[gA (r:=60) (q:=61) (by decide) (by decide) (by decide) (by decide) (by decide)];by_cases h:a<b<;>by_cases h2:a=b<;>simp[zew,h,h2]<;>omega
def aUb (a b:Int):cmpF ⟨#[62,61]⟩ a b=decide (b<=a):=by
 unfold cmpF;rw[gA (r:=62) (q:=61) (by decide) (by decide) (by decide) (by decide) (by decide)];by_cases h:b<a<;>by_cases h2:a=b<;>simp[zew,h,h2]<;>omega
def aKy {a b:Int} (ha:zD a=true) (hb:zD b=true):doE ⟨#[45]⟩ a b=zaV (a-b):=by
 unfold doE;rw[aA (by rw[ha,hb];decide),aA (by decide),aA (by decide),aB rfl]
def aQ9 {a b:Int} (ha:zD a=true) (hb:zD b=true):doE ⟨#[43]⟩ a b=zaV (a+b):=by
 unfold doE;rw[aA (by rw[ha,hb];decide),aA (by decide),aB rfl]
def aHe {ns:List Ba} {n:Ba}:hasN ns n=true↔n∈ns:=by
 unfold hasN;rw[List.any_eq_true];exact⟨λ⟨x,hx,e⟩=>by rw[<-aF e];exact hx,λh=>⟨n,h,aE rfl⟩⟩
def aBm (op:Ba):opB op=(cmpB op||decide (op=⟨#[43]⟩)||decide (op=⟨#[45]⟩)||decide (op=⟨#[42]⟩)||decide (op=⟨#[47]⟩)||decide (op=⟨#[37]⟩)):=by
 by_cases h1:op=⟨#[43]⟩
 · subst h1;decide
 by_cases h2:op=⟨#[45]⟩
 · subst h2;decide
 by_cases h3:op=⟨#[42]⟩
 · subst h3;decide
 by_cases h4:op=⟨#[47]⟩
 · subst h4;decide
 by_cases h5:op=⟨#[37]⟩
 · subst h5;decide
 have hr:¬(zD 1=false\/zD 1=false):=by decide
 cases hc:cmpB op
 · unfold opB doE;rw[aA hr,aA (by rw[hc];decide),aA h1,aA h2,aA h3,aA (λh=>h.elim h4 h5)];simp[h1,h2,h3,h4,h5]
 rw[aRr hc];simp
section
variable {op:Ba} {a b:Int}
def aQg (h:zD a=false\/zD b=false\/opB op=false):doE op a b=(0,1):=by
 by_cases hab:zD a=false\/zD b=false
 · unfold doE;rw[aB hab]
 have ho:opB op=false:=by rcases h with h | h | h;exact aH (.inl h) hab;exact aH (.inr h) hab;exact h
 rw[aBm] at ho;simp only[jE,aJ] at ho;obtain ⟨⟨⟨⟨⟨h0,h1⟩,h2⟩,h3⟩,h4⟩,h5⟩:=ho;unfold doE;rw[aA hab,aA (by rw[h0];decide),aA h1,aA h2,aA h3,aA (λh=>h.elim h4 h5)]
variable (ha:zD a=true) (hb:zD b=true)
include ha hb
theorem nbad:¬(zD a=false\/zD b=false):=by rw[ha,hb];decide
theorem aYd (h:op=⟨#[42]⟩):doE op a b=zcD a b:=by
 subst h;unfold doE;rw[aA (nbad ha hb),aA (by decide),aA (by decide),aA (by decide),aB rfl]
theorem aXy (h:op=⟨#[43]⟩):doE op a b=zaV (a+b):=by subst h;exact aQ9 ha hb
theorem aXi (h:op=⟨#[45]⟩):doE op a b=zaV (a-b):=by subst h;exact aKy ha hb
theorem aV5 (h:op=⟨#[47]⟩):doE op a b=if b=0 then(0,5) else(a.tdiv b,0):=by
 subst h;unfold doE;rw[aA (nbad ha hb),aA (by decide),aA (by decide),aA (by decide),aA (by decide),aB (.inl rfl)];unfold divE;rw[aB rfl]
theorem aW7 (h:op=⟨#[37]⟩):doE op a b=if b=0 then(0,5) else(a.tmod b,0):=by
 subst h;unfold doE;rw[aA (nbad ha hb),aA (by decide),aA (by decide),aA (by decide),aA (by decide),aB (.inr rfl)];unfold divE;by_cases e:b=0
 · rw[aB e,aB e]
 rw[aA e,aA e,aA (by decide)]
theorem do_c (p:Bool) (hc:cmpB op=true) (h:cmpF op a b=p):doE op a b=(if p=true then 1 else 0,0):=by rw[aWy hc ha hb,h]
theorem aXw (h:op=⟨#[61,61]⟩):doE op a b=(if decide (a=b)=true then 1 else 0,0):=by subst h;exact do_c ha hb _ (by decide) (aQv a b)
theorem aW9 (h:op=⟨#[33,61]⟩):doE op a b=(if decide (a≠b)=true then 1 else 0,0):=by subst h;exact do_c ha hb _ (by decide) (aTt a b)
theorem aXq (h:op=⟨#[60]⟩):doE op a b=(if decide (a<b)=true then 1 else 0,0):=by subst h;exact do_c ha hb _ (by decide) (aUn a b)
theorem aVx (h:op=⟨#[60,61]⟩):doE op a b=(if decide (a<=b)=true then 1 else 0,0):=by subst h;exact do_c ha hb _ (by decide) (aS2 a b)
theorem aWm (h:op=⟨#[62]⟩):doE op a b=(if decide (b<a)=true then 1 else 0,0):=by subst h;exact do_c ha hb _ (by decide) (aSf a b)
theorem aVz (h:op=⟨#[62,61]⟩):doE op a b=(if decide (b<=a)=true then 1 else 0,0):=by subst h;exact do_c ha hb _ (by decide) (aUb a b)
omit ha hb
theorem aJl (ho:opB op=true) (h1:¬op=⟨#[43]⟩) (h2:¬op=⟨#[45]⟩) (h3:¬op=⟨#[42]⟩) (h4:¬op=⟨#[47]⟩) (h5:¬op=⟨#[37]⟩) (c1:¬op=⟨#[61,61]⟩) (c2:¬op=⟨#[33,61]⟩) (c3:¬op=⟨#[60]⟩) (c4:¬op=⟨#[60,61]⟩) (c5:¬op=⟨#[62]⟩):op=⟨#[62,61]⟩:=by
 rw[aBm] at ho;simp only[h1,h2,h3,h4,h5,decide_false,jB] at ho;unfold cmpB at ho;rw[aHe] at ho;unfold aAt at ho;simp only[dD,vE,or_false,c1,c2,c3,c4,c5,false_or] at ho;exact ho
theorem zgs:zD a=true↔ -1000000000000<=a/\a<=1000000000000:=by unfold zD;simp only[cU,aI]
theorem aOv (ha:zD a=true):zD (a.tdiv b)=true:=by
 have:=zfs a b;rw[zgs] at*;omega
theorem aG1:a-b*a.tdiv b=a.tmod b:=by have:=Int.mul_tdiv_add_tmod a b;omega
theorem aYg (ha:zD a=true):zD (a-b*a.tdiv b)=true:=by
 rw[aG1];have:(a.tmod b).natAbs<=a.natAbs:=by rw[Int.natAbs_tmod];exact Nat.mod_le _ _
 rw[zgs] at*;omega
theorem aDq:(b*a.tdiv b).natAbs<=a.natAbs:=by
 rw[Int.natAbs_mul,Int.natAbs_tdiv];exact Nat.mul_div_le _ _
theorem aJp (h:¬(a≠0/\b≠0/\(1000000000000:Int).tdiv (max b (-b))<max a (-a))):zcD a b=(a*b,0)/\zD (a*b)=true:=by
 refine⟨by unfold zcD;rw[aA h],?_⟩;rw[zgs];exact aBk (by by_cases h1:a=0;exact .inl h1;by_cases h2:b=0;exact .inr (.inl h2);exact .inr (.inr (λh3=>h ⟨h1,h2,h3⟩)))
end
end Lp
namespace Lp
open Go
structure MatD where
 n:Ba
 op:Int
 v:Ba
def MatD.d (m:MatD):D:=.agg [.s m.n,.v (.int .i64 m.op),.s m.v]
inductive Nd where
 | mk (op text:Ba) (n mode:Int) (names:List Ba) (ms:List MatD) (kids:List Nd)
mutual
def Nd.d:Nd->D
 | .mk op text n mode names ms kids=>.agg [.s op,.s text,.v (.int .i64 n),.v (.int .i64 mode),.sh 1 (names.map D.s),.sh 3 (ms.map MatD.d),.sh 7 (Nd.ds kids)]
def Nd.ds:List Nd->List D
 | []=>[]
 | x::r=>Nd.d x::Nd.ds r
end
theorem Nd.ds_eq:∀ l:List Nd,Nd.ds l=l.map Nd.d
 | []=>rfl
 | x::r=>aG (Nd.d x::·) (Nd.ds_eq r)
theorem Nd.d_mk (op text:Ba) (n mode:Int) (names:List Ba) (ms:List MatD) (kids:List Nd):
 Nd.d (.mk op text n mode names ms kids)=.agg [.s op,.s text,.v (.int .i64 n),.v (.int .i64 mode),.sh 1 (names.map D.s),.sh 3 (ms.map MatD.d),.sh 7 (kids.map Nd.d)]:=by
 rw[<-Nd.ds_eq];rfl
abbrev nSel:Ba:=⟨#[115,101,108]⟩
def byL (mode:Int) (ns:List Ba) (l:List Lbl):List Lbl:=if mode=1\/mode=2 then keyL mode ns l else []
section
variable (κ:RowD->List Lbl)
def zbw:List RowD->List Lbl
 | []=>[]
 | x::_=>κ x
def insG:List (List RowD)->RowD->List (List RowD)
 | [],r=>[[r]]
 | g::gs,r=>if zt (zbw κ g) (κ r)<0 then g::insG gs r else if zbw κ g=κ r then(g++[r])::gs else [r]::g::gs
def zcG (l:List RowD):List (List RowD):=l.foldl (insG κ) []
structure GOk (gs:List (List RowD)):Prop where
 ne:∀ g∈gs,g≠[]
 lt:gs.Pairwise (λa b=>zt (zbw κ a) (zbw κ b)<0)
end
section
variable {κ:RowD->List Lbl} {gs:List (List RowD)} {r:RowD}
theorem iJ {a b c:List Lbl} (h1:zt a b<0) (h2:zt b c<0):zt a c<0:=(zeR a b c).lt1 h1 (by omega)
theorem aBj {a b:List Lbl} (h:¬zt a b<0) (hne:a≠b):zt b a<0:=by
 have h1:=fV a b;have h2:zt a b≠0:=λe=>hne (cmpLs_eq.1 e)
 omega
theorem rZ {g:List RowD} (h:g≠[]):zbw κ (g++[r])=zbw κ g:=by cases g with
 | nil=>exact aH rfl h
 | cons x g=>rfl
theorem aF5 (h:GOk κ gs):∀ g∈insG κ gs r,zbw κ g=κ r\/∃ g'∈gs,zbw κ g=zbw κ g':=by
 induction gs with
 | nil=>intro g hg;rw[show insG κ [] r=[[r]] from rfl,dQ] at hg;subst hg;exact .inl rfl
 | cons a gs ih=>
  have h':GOk κ gs:=⟨λg hg=>h.ne g (cV _ hg),(dG.1 h.lt).2⟩;intro g hg;unfold insG at hg;split at hg
  · rcases dD.1 hg with e | e
    · exact .inr ⟨a,cR,by rw[e]⟩
    rcases ih h' g e with e | ⟨g',h1,h2⟩
    · exact .inl e
    exact .inr ⟨g',cV _ h1,h2⟩
  split at hg
  · rcases dD.1 hg with e | e
    · exact .inr ⟨a,cR,by rw[e,rZ (h.ne a cR)]⟩
    exact .inr ⟨g,cV _ e,rfl⟩
  rcases dD.1 hg with e | e
  · exact .inl (by rw[e];rfl)
  exact .inr ⟨g,e,rfl⟩
theorem aTw (h:GOk κ gs):GOk κ (insG κ gs r):=by
 induction gs with
 | nil=>exact⟨λg hg=>by rw[show insG κ [] r=[[r]] from rfl,dQ] at hg;subst hg;simp,List.pairwise_singleton _ _⟩
 | cons a gs ih=>
  have hp:=dG.1 h.lt;have h':GOk κ gs:=⟨λg hg=>h.ne g (cV _ hg),hp.2⟩;have ha:=h.ne a cR;unfold insG;split
  · rename_i hlt;have i:=ih h';refine⟨λg hg=>?_,dG.2 ⟨λg hg=>?_,i.lt⟩⟩
    · rcases dD.1 hg with e | e
      · rw[e];exact ha
      exact i.ne g e
    rcases aF5 h' g hg with e | ⟨g',h1,h2⟩
    · rw[e];exact hlt
    rw[h2];exact hp.1 g' h1
  rename_i hlt;split
  · rename_i he;refine⟨λg hg=>?_,dG.2 ⟨λg hg=>?_,hp.2⟩⟩
    · rcases dD.1 hg with e | e
      · rw[e];simp
      exact h'.ne g e
    rw[rZ ha];exact hp.1 g hg
  rename_i he;have hr:zt (κ r) (zbw κ a)<0:=aBj hlt he;refine⟨λg hg=>?_,dG.2 ⟨λg hg=>?_,h.lt⟩⟩
  · rcases dD.1 hg with e | e
    · rw[e];simp
    exact h.ne g e
  rcases dD.1 hg with e | e
  · rw[e];exact hr
  exact iJ hr (hp.1 g e)
theorem tT {l:List RowD} {k:Nat} {x:RowD} (h:l[k]?=some x):zcG κ (l.take (k+1))=insG κ (zcG κ (l.take k)) x:=by
 unfold zcG;rw[zS h,vA];rfl
theorem rU (l:List RowD):GOk κ (zcG κ l):=by
 unfold zcG;generalize hs:([]:List (List RowD))=s;have h0:GOk κ s:=by rw[<-hs];exact⟨λ_ h=>(by cases h),List.Pairwise.nil⟩
 clear hs
 induction l generalizing s with
 | nil=>exact h0
 | cons x l ih=>exact ih _ (aTw h0)
theorem aOe:(insG κ gs r).length<=gs.length+1:=by
 induction gs with
 | nil=>exact cW _
 | cons a gs ih=>
  unfold insG;split
  · simp only[dH];omega
  split<;>simp only[dH]<;>omega
theorem nI (l:List RowD):(zcG κ l).length<=l.length:=by
 unfold zcG;have:∀ s:List (List RowD),(l.foldl (insG κ) s).length<=s.length+l.length:=by
  induction l with
  | nil=>intro s;exact cW _
  | cons x l ih=>intro s;have:=ih (insG κ s x);have:=@aOe κ s x;simp only[uI,dH];omega
 simpa using this []
theorem kO (l:List RowD):∀ g∈zcG κ l,g.length<=l.length:=by
 unfold zcG;have hi:∀ (gs:List (List RowD)) (r:RowD) (n:Nat),(∀ g∈gs,g.length<=n)->∀ g∈insG κ gs r,g.length<=n+1:=by
  intro gs r n h
  induction gs with
  | nil=>intro g hg;rw[show insG κ [] r=[[r]] from rfl,dQ] at hg;subst hg;simp
  | cons a gs ih=>
   have ha:=h a cR;intro g hg;unfold insG at hg;split at hg
   · rcases dD.1 hg with e | e
     · rw[e];omega
     exact ih (λg hg=>h g (cV _ hg)) g e
   split at hg
   · rcases dD.1 hg with e | e
     · rw[e];simp;omega
     exact Nat.le_succ_of_le (h g (cV _ e))
   rcases dD.1 hg with e | e
   · rw[e];simp
   exact Nat.le_succ_of_le (h g e)
 have:∀ (s:List (List RowD)) (n:Nat),(∀ g∈s,g.length<=n)->∀ g∈l.foldl (insG κ) s,g.length<=n+l.length:=by
  induction l with
  | nil=>intro s n h;exact h
  | cons x l ih=>intro s n h g hg;have:=ih _ (n+1) (hi s x n h) g hg;simp only[dH];omega
 intro g hg;have:=this [] 0 (λ_ h=>by cases h) g hg;omega
theorem lS (l:List RowD):∀ g∈zcG κ l,∀ x∈g,x∈l:=by
 unfold zcG;have hi:∀ (gs:List (List RowD)) (r:RowD) (p:RowD->Prop),p r->(∀ g∈gs,∀ x∈g,p x)->∀ g∈insG κ gs r,∀ x∈g,p x:=by
  intro gs r p hr h
  induction gs with
  | nil=>intro g hg x hx;rw[show insG κ [] r=[[r]] from rfl,dQ] at hg;subst hg;rw[dQ.1 hx];exact hr
  | cons a gs ih=>
   have ih:=ih (λg hg=>h g (cV _ hg));intro g hg x hx;unfold insG at hg;split at hg
   · rcases dD.1 hg with e | e
     · exact h a cR x (e ▸ hx)
     exact ih g e x hx
   split at hg
   · rcases dD.1 hg with e | e
     · rw[e] at hx;rcases jO.1 hx with hx | hx
       · exact h a cR x hx
       rw[dQ.1 hx];exact hr
     exact h g (cV _ e) x hx
   rcases dD.1 hg with e | e
   · rw[e] at hx;rw[dQ.1 hx];exact hr
   exact h g e x hx
 have:∀ (m:List RowD) (s:List (List RowD)) (p:RowD->Prop),(∀ x∈m,p x)->(∀ g∈s,∀ x∈g,p x)->∀ g∈m.foldl (insG κ) s,∀ x∈g,p x:=by
  intro m
  induction m with
  | nil=>intro s p _ h;exact h
  | cons y m ih=>intro s p hm h;exact ih _ p (λx hx=>hm x (cV _ hx)) (hi s y p (hm y cR) h)
 exact this l [] (· ∈l) (λ_ h=>h) (λ_ h=>by cases h)
structure BsOk (κ:RowD->List Lbl) (gs:List (List RowD)) (key:List Lbl) (i:Nat) (f:Bool):Prop where
 le:i<=gs.length
 lo:∀ t g,t<i->gs[t]?=some g->zt (zbw κ g) key<0
 hi:∀ t g,i<=t->gs[t]?=some g->¬zt (zbw κ g) key<0
 is:f=true↔∃ g,gs[i]?=some g/\zbw κ g=key
theorem aIb {f:Bool} {i:Nat} (h:BsOk κ gs (κ r) i f):insG κ gs r=if f=true then gs.set i ((gs[i]?).getD []++[r]) else gs.take i++[r]::gs.drop i:=by
 induction gs generalizing i with
 | nil=>
  have hi:i=0:=by have:=h.le;simpa using this
  have hf:f=false:=by
   cases f with
   | false=>rfl
   | true=>obtain ⟨g,hg,_⟩:=h.is.1 rfl;simp at hg
  subst hi;subst hf;rfl
 | cons a gs ih=>
  cases i with
  | zero=>
   have h0:=h.hi 0 a (cW _) rfl;unfold insG;rw[aA h0];by_cases he:zbw κ a=κ r
   · rw[aB he,aB (h.is.2 ⟨a,rfl,he⟩)];rfl
   rw[aA he,aA (λe=>by obtain ⟨g,hg,h2⟩:=h.is.1 e;simp at hg;subst hg;exact he h2)];rfl
  | succ i=>
   have h0:=h.lo 0 a (Nat.succ_pos _) rfl;unfold insG;rw[aB h0,ih (i:=i) ⟨by have:=h.le;simpa using this,λt g ht hg=>h.lo (t+1) g (by omega) (by simpa using hg),λt g ht hg=>h.hi (t+1) g (by omega) (by simpa using hg),by simpa using h.is⟩];cases f with
   | true=>simp
   | false=>simp
theorem GOk.pair (h:GOk κ gs) {s t:Nat} {a b:List RowD} (ha:gs[s]?=some a) (hb:gs[t]?=some b) (hst:s<t):zt (zbw κ a) (zbw κ b)<0:=by
 obtain ⟨h1,e1⟩:=cQ.1 ha;obtain ⟨h2,e2⟩:=cQ.1 hb;have:=jF.1 h.lt s t h1 h2 hst
 rwa [e1,e2] at this
theorem GOk.below (h:GOk κ gs) {s t:Nat} {a b:List RowD} {key:List Lbl} (ha:gs[s]?=some a) (hb:gs[t]?=some b) (hst:s<=t) (hk:zt (zbw κ b) key<0):zt (zbw κ a) key<0:=by
 rcases cZ s t with hl | hl
 · exact iJ (h.pair ha hb hl) hk
 have:s=t:=by omega
 subst this;rw[ha] at hb;injection hb with hb;rw[hb];exact hk
end
end Lp
namespace Lp
open Go
def tot (l:List Int):Int:=l.foldl (· +·) 0
theorem aGu (l:List Int):∀ a:Int,l.foldl (· +·) a=a+l.foldl (· +·) 0:=by
 induction l with
 | nil=>intro a;simp
 | cons x l ih=>intro a;rw[uI,uI,ih,ih (0+x)];omega
theorem aNw (x:Int) (l:List Int):tot (x::l)=x+tot l:=by unfold tot;rw[uI,aGu];omega
theorem aAu {l:List Int} {k:Nat} {x:Int} (h:l[k]?=some x):tot (l.take (k+1))=tot (l.take k)+x:=by
 unfold tot;rw[zS h,vA];rfl
def allR (l:List Int):Bool:=l.all zD&&decide (l.length<=2000)
theorem rightV_iff {v:Int}:zD v=true↔ -1000000000000<=v/\v<=1000000000000:=by unfold zD;simp
theorem aPe {l:List Int} (h:l.all zD=true): -1000000000000*(l.length:Int)<=tot l/\tot l<=1000000000000*(l.length:Int):=by
 induction l with
 | nil=>simp[tot]
 | cons x l ih=>
  simp only[List.all_cons,cU] at h;have h1:=rightV_iff.1 h.1;have h2:=ih h.2;rw[aNw];simp only[dH];omega
theorem aBv {l:List Int} {k:Nat} (h:l.all zD=true):(l.take k).all zD=true:=by
 rw[c8] at h ⊢;exact λx hx=>h x (uU hx)
def sumE (l:List Int):Int×Int:=if allR l=true then zaV (tot l) else(0,1)
def a0r (l:List Int):Int×Int:=if l.length=0 then(0,7) else if allR l=true then(Int.tdiv (tot l) l.length,0) else(0,1)
def minL:List Int->Int
 | []=>0
 | x::r=>r.foldl min x
def maxL:List Int->Int
 | []=>0
 | x::r=>r.foldl max x
inductive Way where
 | sums (mean:Bool)
 | least
 | most
 | many
 | rank (p:Int)
 | top (n:Int)
def aggN:List Ba:=[⟨#[115,117,109]⟩,⟨#[109,105,110]⟩,⟨#[109,97,120]⟩,⟨#[99,111,117,110,116]⟩,⟨#[97,118,103]⟩,⟨#[116,111,112,107]⟩,⟨#[113,117,97,110,116,105,108,101]⟩]
abbrev nTop:Ba:=⟨#[116,111,112,107]⟩
abbrev nQ:Ba:=⟨#[113,117,97,110,116,105,108,101]⟩
def srtI (l:List Int):List Int:=l.mergeSort (λx y=>decide (x<=y))
def a0n (p:Int) (n:Nat):Int:=max (Int.tdiv (p*(n:Int)+100-1) 100) 1
def aYx (p:Int) (n:Nat):Nat:=(a0n p n-1).toNat
def a0d (p:Int) (l:List Int):Int:=((srtI l)[aYx p l.length]?).getD 0
def oneW:Way->List Int->Int×Int
 | .sums false,l=>sumE l
 | .sums true,l=>a0r l
 | .least,l=>(minL l,0)
 | .most,l=>(maxL l,0)
 | .many,l=>((l.length:Int),0)
 | .rank p,l=>(a0d p l,0)
 | _,_=>(0,0)
def zbP (f:List RowD->Int×Int):List (List RowD)->Int
 | []=>0
 | g::gs=>if (f g).2≠0 then(f g).2 else zbP f gs
abbrev numF (w:Way):List RowD->Int×Int:=λg=>oneW w (g.map (·.v))
def outR (κ:RowD->List Lbl) (w:Way) (gs:List (List RowD)):List RowD:=gs.map (λg=>⟨zbw κ g,(numF w g).1⟩)
section
variable {f:List RowD->Int×Int} {gs:List (List RowD)} {k:Nat} {x:List RowD}
theorem oC (a b:List (List RowD)) (h:zbP f a=0):zbP f (a++b)=zbP f b:=by
 induction a with
 | nil=>rfl
 | cons y r ih=>
  unfold zbP at h;split at h
  · rename_i e;exact aH h e
  rename_i e;show (if _ then _ else zbP f (r++b))=_;rw[aA e];exact ih h
theorem xM (hx:gs[k]?=some x) (h:zbP f (gs.take k)=0) (e:(f x).2=0):zbP f (gs.take (k+1))=0:=by
 rw[zS hx,oC _ _ h];unfold zbP;rw[aA (by omega)];rfl
theorem aH3 (hx:gs[k]?=some x) (h:zbP f (gs.take k)=0) (e:¬(f x).2=0):zbP f gs=(f x).2:=by
 have:gs=gs.take k++x::gs.drop (k+1):=by
  obtain ⟨hk,e⟩:=cQ.1 hx;rw[<-e,wG,dF]
 rw[this,oC _ _ h];unfold zbP;rw[aB e]
end
section
variable {mode:Int} {names:List Ba} {l:List RowD} {w:Way}
abbrev kapB (mode:Int) (names:List Ba):RowD->List Lbl:=λr=>byL mode names r.ls
def zaj (mode:Int) (names:List Ba) (l:List RowD):List (List RowD):=if zbc l=true then zcG (kapB mode names) l else []
def gdL (w:Way) (mode:Int) (names:List Ba) (l:List RowD):List RowD:=if zbc l=true then(if zbP (numF w) (zaj mode names l)=0 then rtL (outR (kapB mode names) w (zaj mode names l)) else []) else []
def gdE (w:Way) (mode:Int) (names:List Ba) (l:List RowD):Int:=if zbc l=true then(if zbP (numF w) (zaj mode names l)=0 then rtE (outR (kapB mode names) w (zaj mode names l)) else zbP (numF w) (zaj mode names l)) else 1
theorem aA1 (h:zbc l=false):[]=gdL w mode names l/\1=gdE w mode names l:=by unfold gdL gdE;rw[aA (by rw[h];simp),aA (by rw[h];simp)];exact⟨rfl,rfl⟩
theorem aA7 (h:zbc l=true) {k:Nat} {x:List RowD} (hx:(zaj mode names l)[k]?=some x) (h0:zbP (numF w) ((zaj mode names l).take k)=0) (e:¬(numF w x).2=0):[]=gdL w mode names l/\(numF w x).2=gdE w mode names l:=by
 unfold gdL gdE;rw[aB h,aB h,aH3 hx h0 e,aA e,aA e];exact⟨rfl,rfl⟩
theorem aKv (h:zbc l=true) {k:Nat} (h0:zbP (numF w) ((zaj mode names l).take k)=0) (hk:(zaj mode names l).length<=k):rtL (outR (kapB mode names) w ((zaj mode names l).take k))=gdL w mode names l/\rtE (outR (kapB mode names) w ((zaj mode names l).take k))=gdE w mode names l:=by
 rw[c6 hk] at h0 ⊢;unfold gdL gdE;rw[aB h,aB h,aB h0,aB h0];exact⟨rfl,rfl⟩
theorem aEr {κ:RowD->List Lbl} {gs:List (List RowD)} {k:Nat} {x:List RowD} (hx:gs[k]?=some x):outR κ w (gs.take (k+1))=outR κ w (gs.take k)++[⟨zbw κ x,(numF w x).1⟩]:=by
 unfold outR;rw[zS hx,u9];rfl
end
end Lp
namespace Lp
open Go
structure Rd where
 l:List TokD
 n:Int
 b:Bool
def Rd.pk (s:Rd):TokD:=s.l.headD zbo
def Rd.is (s:Rd) (k:Int) (ts:List Ba):Bool:=decide (s.pk.k=k)&&hasN ts s.pk.t
def Rd.take (s:Rd) (k:Int) (ts:List Ba):Ba×Bool×Rd:=if s.b=true\/s.is k ts=false then(ByteArray.empty,false,s) else(s.pk.t,true,⟨s.l.tail,s.n,s.b⟩)
def Rd.must (s:Rd) (t:Ba):Rd:=⟨(s.take 5 [t]).2.2.l,(s.take 5 [t]).2.2.n,(s.take 5 [t]).2.2.b||!(s.take 5 [t]).2.1⟩
def Rd.any (s:Rd) (k:Int):Ba×Rd:=if s.b=true\/s.pk.k≠k then(ByteArray.empty,⟨s.l,s.n,true⟩) else(s.pk.t,⟨s.l.tail,s.n,s.b⟩)
def numV (t:Ba):Int:=(digV (bl8 t):Int)
def Rd.number (s:Rd) (k:Int):Int×Rd:=(numV (s.any k).1,(s.any k).2)
def Rd.node (s:Rd):Rd:=⟨s.l,s.n+1,s.b||decide (200<s.n+1)⟩
abbrev zE:Ba:=⟨#[40]⟩
abbrev zL:Ba:=⟨#[41]⟩
abbrev zV:Ba:=⟨#[44]⟩
abbrev zaq:Ba:=⟨#[123]⟩
abbrev zaW:Ba:=⟨#[125]⟩
abbrev tSq:Ba:=⟨#[91]⟩
abbrev tSqE:Ba:=⟨#[93]⟩
abbrev zdi:Ba:=⟨#[43]⟩
abbrev zaM:Ba:=⟨#[45]⟩
abbrev zc6:Ba:=⟨#[42]⟩
abbrev zfB:Ba:=⟨#[47]⟩
abbrev tMod:Ba:=⟨#[37]⟩
abbrev tEqq:Ba:=⟨#[61,61]⟩
abbrev tNe:Ba:=⟨#[33,61]⟩
abbrev tLt:Ba:=⟨#[60]⟩
abbrev tLe:Ba:=⟨#[60,61]⟩
abbrev tGt:Ba:=⟨#[62]⟩
abbrev tGe:Ba:=⟨#[62,61]⟩
abbrev tEq:Ba:=⟨#[61]⟩
abbrev zbd:Ba:=⟨#[61,126]⟩
abbrev zag:Ba:=⟨#[33,126]⟩
abbrev tOn:Ba:=⟨#[111,110]⟩
abbrev zQ:Ba:=⟨#[105,103,110,111,114,105,110,103]⟩
abbrev tBy:Ba:=⟨#[98,121]⟩
abbrev zN:Ba:=⟨#[119,105,116,104,111,117,116]⟩
abbrev tBin:Ba:=⟨#[98,105,110]⟩
abbrev tNeg:Ba:=⟨#[110,101,103]⟩
abbrev tNum:Ba:=⟨#[110,117,109]⟩
abbrev tAgg:Ba:=⟨#[97,103,103]⟩
abbrev tFn:Ba:=⟨#[102,110]⟩
abbrev zbM:Ba:=⟨#[111,114,100,101,114]⟩
abbrev tAsc:Ba:=⟨#[97,115,99]⟩
abbrev zev:Ba:=⟨#[100,101,115,99]⟩
abbrev zcF:Ba:=⟨#[108,105,109,105,116]⟩
abbrev zb6:Ba:=⟨#[111,102,102,115,101,116]⟩
def namesF:Nat->List Ba->Rd->List Ba×Rd
 | 0,o,s=>(o,s)
 | f+1,o,s=>
  if s.b=true then(o,s)
  else if ((s.any 1).2.take 5 [zV]).2.1=true then namesF f (o++[(s.any 1).1]) ((s.any 1).2.take 5 [zV]).2.2
  else(o++[(s.any 1).1],((s.any 1).2.take 5 [zV]).2.2)
def Rd.names (s:Rd):List Ba×Rd:=
 if (s.must zE).is 5 [zL]=true then([],(s.must zE).must zL)
 else((namesF ((s.must zE).l.length+1) [] (s.must zE)).1,(namesF ((s.must zE).l.length+1) [] (s.must zE)).2.must zL)
def Rd.mode (s:Rd) (a b:Ba):Int×List Ba×Rd:=
 if (s.take 1 [a,b]).2.1=false then(0,[],(s.take 1 [a,b]).2.2)
 else if (s.take 1 [a,b]).1=a then(1,(s.take 1 [a,b]).2.2.names) else(2,(s.take 1 [a,b]).2.2.names)
def zaO (part:Rd->Nd×Rd) (signs:List Ba):Nat->Nd->Rd->Nd×Rd
 | 0,o,s=>(o,s)
 | f+1,o,s=>
  if (s.take 5 signs).2.1=false then(o,(s.take 5 signs).2.2)
  else
   let m:=(s.take 5 signs).2.2.mode tOn zQ;let q:=part m.2.2
   zaO part signs f (.mk tBin (s.take 5 signs).1 0 m.1 m.2.1 [] [o,q.1]) q.2.node
def Rd.level (s:Rd) (part:Rd->Nd×Rd) (signs:List Ba):Nd×Rd:=zaO part signs ((part s).2.l.length+1) (part s).1 (part s).2
def noNd:Nd:=.mk ByteArray.empty ByteArray.empty 0 0 [] [] []
def fnN:List Ba:=[⟨#[115,117,109,95,111,118,101,114]⟩,⟨#[97,118,103,95,111,118,101,114]⟩,⟨#[109,105,110,95,111,118,101,114]⟩,⟨#[109,97,120,95,111,118,101,114]⟩,⟨#[99,111,117,110,116,95,111,118,101,114]⟩,⟨#[108,97,115,116,95,111,118,101,114]⟩,⟨#[105,110,99,114,101,97,115,101]⟩,⟨#[114,97,116,101]⟩]
def zef (t:Ba):Bool:=hasN aggN t||hasN fnN t||hasN [⟨#[111,114,100,101,114]⟩,⟨#[108,105,109,105,116]⟩,⟨#[111,102,102,115,101,116]⟩,⟨#[97,115,99]⟩,⟨#[100,101,115,99]⟩,⟨#[111,110]⟩,⟨#[105,103,110,111,114,105,110,103]⟩,⟨#[98,121]⟩,⟨#[119,105,116,104,111,117,116]⟩] t
def zaA (t:Ba):Bool:=decide (t=nTop)||decide (t=nQ)
def opM (t:Ba):Int:=if t=tEq then 1 else if t=tNe then 2 else if t=zbd then 3 else if t=zag then 4 else 0
def bracesF:Nat->List MatD->Rd->List MatD×Rd
 | 0,o,s=>(o,s)
 | f+1,o,s=>
  if s.b=true then(o,s)
  else
   let a:=s.any 1;let c:=a.2.take 5 [tEq,tNe,zbd,zag];let v:=Rd.any ⟨c.2.2.l,c.2.2.n,c.2.2.b||!c.2.1⟩ 3;let d:=v.2.take 5 [zV]
   if d.2.1=true then bracesF f (o++[⟨a.1,opM c.1,v.1⟩]) d.2.2 else(o++[⟨a.1,opM c.1,v.1⟩],d.2.2)
section
variable (rm:List MatD->Bool)
def Rd.braces (s:Rd):List MatD×Rd:=
 if (s.must zaq).is 5 [zaW]=true then([],(s.must zaq).must zaW)
 else
  let r:=bracesF ((s.must zaq).l.length+1) [] (s.must zaq)
  (r.1,⟨(r.2.must zaW).l,(r.2.must zaW).n,(r.2.must zaW).b||!rm r.1⟩)
def Rd.selName (s:Rd):Ba×Rd:=if s.pk.k=1/\zef s.pk.t=false then s.any 1 else(ByteArray.empty,s)
def Rd.selMs (s:Rd) (text:Ba):List MatD×Rd:=if s.is 5 [zaq]=true then s.braces rm else([],⟨s.l,s.n,s.b||decide (text=ByteArray.empty)⟩)
def Rd.selWin (s:Rd):Int×Rd:=if (s.take 5 [tSq]).2.1=true then((Rd.number (s.take 5 [tSq]).2.2 4).1,(Rd.number (s.take 5 [tSq]).2.2 4).2.must tSqE) else(0,(s.take 5 [tSq]).2.2)
def Rd.selector (s:Rd):Nd×Rd:=
 let a:=s.selName;let m:=a.2.selMs rm a.1;let w:=m.2.selWin
 (.mk nSel a.1 w.1 0 [] m.1 [],w.2.node)
def Rd.aggr (s:Rd) (ex:Rd->Nd×Rd):Nd×Rd:=
 let a:=s.any 1;let m:=a.2.mode tBy zN;let p:=m.2.2.must zE;let k:=if zaA a.1=true then(p.number 2) else(0,p)
 let p2:=if zaA a.1=true then k.2.must zV else k.2
 let q:=ex p2
 (.mk tAgg a.1 k.1 m.1 m.2.1 [] [q.1],(q.2.must zL).node)
def Rd.prim (s:Rd) (ex:Rd->Nd×Rd):Nd×Rd:=
 if s.b=true then(noNd,s)
 else if s.pk.k=2 then(.mk tNum ByteArray.empty (s.number 2).1 0 [] [] [],(s.number 2).2.node)
 else if s.is 5 [zE]=true then((ex (s.must zE)).1,(ex (s.must zE)).2.must zL)
 else if s.pk.k=1/\hasN aggN s.pk.t=true then s.aggr ex
 else if s.pk.k=1/\hasN fnN s.pk.t=true then
  let a:=s.any 1;let q:=ex (a.2.must zE)
  (.mk tFn a.1 0 0 [] [] [q.1],q.2.node.must zL)
 else s.selector rm
def zat (ex:Rd->Nd×Rd):Nat->Rd->Nd×Rd
 | 0,s=>(noNd,s)
 | f+1,s=>
  if (s.take 5 [zaM]).2.1=true then
   let q:=zat ex f (s.take 5 [zaM]).2.2
   (.mk tNeg ByteArray.empty 0 0 [] [] [q.1],q.2.node)
  else Rd.prim rm (s.take 5 [zaM]).2.2 ex
def zfb (ex:Rd->Nd×Rd) (s:Rd):Nd×Rd:=s.level (λs=>zat rm ex (s.l.length+1) s) [zc6,zfB,tMod]
def sumP (ex:Rd->Nd×Rd) (s:Rd):Nd×Rd:=s.level (zfb rm ex) [zdi,zaM]
def za5:Nat->Rd->Nd×Rd
 | 0,s=>(noNd,s)
 | f+1,s=>s.level (sumP rm (za5 f)) [tEqq,tNe,tLt,tLe,tGt,tGe]
def Rd.bound (s:Rd) (w:Ba):Int×Rd:=
 if (s.take 1 [w]).2.1=false then(-1,(s.take 1 [w]).2.2)
 else(((s.take 1 [w]).2.2.number 2).1,⟨((s.take 1 [w]).2.2.number 2).2.l,((s.take 1 [w]).2.2.number 2).2.n,((s.take 1 [w]).2.2.number 2).2.b||decide (2000<((s.take 1 [w]).2.2.number 2).1)⟩)
def Rd.order (s:Rd):Int×Rd:=
 let a:=s.take 1 [zbM]
 if a.2.1=false then(0,a.2.2)
 else
  let d:=a.2.2.take 1 [zev]
  if d.2.1=true then(2,d.2.2)
  else(1,⟨(d.2.2.any 1).2.l,(d.2.2.any 1).2.n,(d.2.2.any 1).2.b||decide ((d.2.2.any 1).1≠tAsc)⟩)
structure QryD where
 root:Nd
 order:Int
 limit:Int
 offset:Int
def zda (l:List TokD):Option QryD:=
 let e:=za5 rm (l.length+1) ⟨l,0,false⟩;let o:=e.2.order;let a:=o.2.bound zcF;let b:=a.2.bound zb6
 if b.2.b=true\/0<b.2.l.length then none else some ⟨e.1,o.1,a.1,b.1⟩
end
abbrev n7 (a b:Ba) (c d:Int) (e:List Ba) (f:List MatD) (g:List Nd):D:=.agg [.s a,.s b,.v (.int .i64 c),.v (.int .i64 d),.sh 1 (e.map D.s),.sh 3 (f.map MatD.d),.sh 7 (Nd.ds g)]
abbrev n8:D:=.agg [.v (.string ByteArray.empty),.v (.string ByteArray.empty),.v (.int .i64 0),.v (.int .i64 0),.v (.slice none 0 0),.v (.slice none 0 0),.v (.slice none 0 0)]
abbrev n9:Value:=.agg #[(.string ByteArray.empty),(.string ByteArray.empty),(.int .i64 0),(.int .i64 0),(.slice none 0 0),(.slice none 0 0),(.slice none 0 0)]
end Lp
