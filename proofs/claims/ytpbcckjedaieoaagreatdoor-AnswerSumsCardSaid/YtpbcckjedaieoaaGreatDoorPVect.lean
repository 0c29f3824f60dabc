import Derived.Test.YtpbcckjedaieoaaGreatDoorPVec
set_option linter.unusedSimpArgs false
set_option linter.unusedVariables false
namespace Lp
open Go
section
variable {α:Type} {c:α->α->Int}
def seg (L:List α) (a b:Nat):List α:=(L.take b).drop a
def fixI (c:α->α->Int) (a b:Nat) (L:List α):List α:=L.take a++zx c (seg L a b)++L.drop b
def rotL (a m b:Nat) (L:List α):List α:=L.take a++seg L m b++seg L a m++L.drop b
theorem zbT {L:List α} {a b:Nat} (h:b<=L.length):(seg L a b).length=b-a:=by
 unfold seg;rw[dL,dG];omega
theorem zbU {P X R:List α} {a b:Nat} (ha:a=P.length) (hb:b=P.length+X.length):seg (P++(X++R)) a b=X:=by
 subst ha;subst hb;unfold seg;rw[<-cY,<-cX,List.take_left,wB]
theorem dec2 {L:List α} {a b:Nat} (h:a<=b) (hb:b<=L.length):∃ P X R,L=P++(X++R)/\P.length=a/\X.length=b-a:=by
 refine⟨L.take a,(L.drop a).take (b-a),(L.drop a).drop (b-a),?_,?_,?_⟩
 · rw[dQ,dQ]
 · rw[dG];omega
 rw[dG,dL];omega
theorem take_dec {P X:List α} {a:Nat} (ha:a=P.length):(P++X).take a=P:=by subst ha;exact List.take_left ..
theorem drop_dec {P X R:List α} {b:Nat} (hb:b=P.length+X.length):(P++(X++R)).drop b=R:=by
 subst hb;rw[<-cY,<-cX,wB]
theorem zcw {P X R:List α} {a b:Nat} (ha:a=P.length) (hb:b=P.length+X.length):fixI c a b (P++(X++R))=P++(zx c X++R):=by
 unfold fixI;rw[zbU ha hb,take_dec ha,drop_dec hb,cY]
theorem zcS {P X Y R:List α} {a m b:Nat} (ha:a=P.length) (hm:m=a+X.length) (hb:b=m+Y.length):rotL a m b (P++(X++(Y++R)))=P++(Y++(X++R)):=by
 unfold rotL;rw[take_dec ha,zbU (X:=X) ha (by omega)];have e1:seg (P++(X++(Y++R))) m b=Y:=by
  rw[<-cY P X];exact zbU (by rw[cX];omega) (by rw[cX];omega)
 have e2:(P++(X++(Y++R))).drop b=R:=by
  rw[<-cY X Y];exact drop_dec (by rw[cX];omega)
 rw[e1,e2];simp[cY]
theorem zbH (l:List α):(zx c l).length=l.length:=zd0 _ l rfl
theorem zeD {L:List α} {a b:Nat} (h:a<=b) (hb:b<=L.length):(fixI c a b L).length=L.length:=by
 unfold fixI;rw[cX,cX,zbH,zbT hb,dG,dL];omega
theorem rotL_len {L:List α} {a m b:Nat} (h:a<=m) (hm:m<=b) (hb:b<=L.length):(rotL a m b L).length=L.length:=by
 unfold rotL;simp only[cX,zbT hb,zbT (jA hm hb),dG,dL];omega
theorem zeA (h:Cmp c) {l:List α} (hs:Srt c l):zx c l=l:=(zap h _ l rfl).eq h ⟨hs,λ_=>rfl⟩
theorem fixI_id (h:Cmp c) {L:List α} {a b:Nat} (hab:a<=b) (hb:b<=L.length) (hs:Srt c (seg L a b)):fixI c a b L=L:=by
 obtain ⟨P,X,R,e,hP,hX⟩:=dec2 hab hb;subst e;have ha:a=P.length:=hP.symm;have hb':b=P.length+X.length:=by omega
 rw[zcw ha hb'];rw[zbU ha hb'] at hs;rw[zeA h hs]
theorem Srt.app {a b:List α} (ha:Srt c a) (hb:Srt c b) (hab:∀ x∈a,∀ y∈b,c x y<=0):Srt c (a++b):=jG.2 ⟨ha,hb,hab⟩
theorem Srt.left {a b:List α} (h:Srt c (a++b)):Srt c a:=(jG.1 h).1
theorem Srt.right {a b:List α} (h:Srt c (a++b)):Srt c b:=(jG.1 h).2.1
theorem Srt.cross {a b:List α} (h:Srt c (a++b)):∀ x∈a,∀ y∈b,c x y<=0:=(jG.1 h).2.2
theorem isort_mem (h:Cmp c) {l:List α} {x:α}:x∈zx c l↔x∈l:=(zap h _ l rfl).mem h x
theorem isort_split (h:Cmp c) {A1 A2 B1 B2:List α} (hA:Srt c (A1++A2)) (hB:Srt c (B1++B2)) (h1:∀ x∈A1,∀ y∈B2,c x y<=0) (h2:∀ y∈B1,∀ x∈A2,c y x<0):
 zx c (A1++(A2++(B1++B2)))=zx c (A1++B1)++zx c (A2++B2):=by
 refine(zap h _ _ rfl).eq h ⟨?_,λk=>?_⟩
 · refine Srt.app (zap h _ _ rfl).srt (zap h _ _ rfl).srt ?_;intro x hx y hy;rcases jK.1 ((isort_mem h).1 hx) with hx | hx<;>rcases jK.1 ((isort_mem h).1 hy) with hy | hy
   · exact hA.cross x hx y hy
   · exact h1 x hx y hy
   · exact Int.le_of_lt (h2 x hx y hy)
   exact hB.cross x hx y hy
 rw[List.filter_append,(zap h _ _ rfl).same,(zap h _ _ rfl).same];simp only[List.filter_append];have hc:B1.filter (eqv c k)++A2.filter (eqv c k)=A2.filter (eqv c k)++B1.filter (eqv c k):=by
  rcases he:B1.filter (eqv c k) with _ | ⟨y,t⟩
  · simp
  rcases he2:A2.filter (eqv c k) with _ | ⟨x,u⟩
  · simp
  exfalso;have hy:y∈B1.filter (eqv c k):=by rw[he];exact c6
  have hx:x∈A2.filter (eqv c k):=by rw[he2];exact c6
  have hy:=jZ.1 hy;have hx:=jZ.1 hx;have e1:c k y=0:=by simpa [eqv] using hy.2
  have e2:c k x=0:=by simpa [eqv] using hx.2
  have:=h2 y hy.1 x hx.1;have e3:=h.neg k y;have e4:=(h.tr y k x).e1 (by omega);omega
 simp only[cY];rw[<-cY (B1.filter _),hc,cY]
theorem get_mem_seg {L:List α} {a b k:Nat} {x:α} (hx:L[k]?=some x) (h1:a<=k) (h2:k<b):x∈seg L a b:=by
 unfold seg;refine d4 (i:=k-a) ?_;rw[uC,j8,show a+(k-a)=k by omega,if_pos h2,hx]
theorem zen {L:List α} {a b:Nat} {x:α} (h:x∈seg L a b):∃ k,a<=k/\k<b/\L[k]?=some x:=by
 unfold seg at h;obtain ⟨i,hi⟩:=wN.1 h;rw[uC,j8] at hi;split at hi
 · exact⟨a+i,by omega,by omega,hi⟩
 cases hi
theorem zem (h:Cmp c) {L:List α} {a b i j:Nat} {x y:α} (hs:Srt c (seg L a b)) (hi:a<=i) (hij:i<=j) (hj:j<b) (hx:L[i]?=some x) (hy:L[j]?=some y):c x y<=0:=by
 rcases Nat.lt_or_eq_of_le hij with hlt | heq
 · have hx':(seg L a b)[i-a]?=some x:=(by unfold seg;rw[uC,j8,show a+(i-a)=i by omega,if_pos (by omega),hx]);have hy':(seg L a b)[j-a]?=some y:=(by unfold seg;rw[uC,j8,show a+(j-a)=j by omega,if_pos (by omega),hy]);obtain ⟨h1,e1⟩:=cZ.1 hx';obtain ⟨h2,e2⟩:=cZ.1 hy';have:=jL.1 hs (i-a) (j-a) h1 h2 (by omega);rw[e1,e2] at this;exact this
 subst heq;rw[hx] at hy;injection hy with hy;rw[hy,h.self];exact vC _
theorem zaq {L:List α} {a m b:Nat} (h1:a<=m) (h2:m<=b) (hb:b<=L.length):seg L a b=seg L a m++seg L m b:=by
 obtain ⟨P,X,R,e,hP,hX⟩:=dec2 (jA h1 h2) hb;obtain ⟨X1,X2,R',e',hX1,hX2⟩:=dec2 (L:=X) (a:=m-a) (b:=b-a) (by omega) (by omega);have hR:R'=[]:=by
  have:=congrArg List.length e';simp only[cX] at this;exact dJ (by omega)
 subst hR;rw[j5] at e';subst e';subst e;rw[zbU (P:=P) (by omega) (by rw[cX];omega),cY,zbU (X:=X1) (by omega) (by omega),<-cY P,zbU (X:=X2) (by rw[cX];omega) (by rw[cX];omega)]
structure Found (c:α->α->Int) (L:List α) (a m b s e mid:Nat):Prop where
 as_:a<=s
 sm:s<=m
 me:m<=e
 eb:e<=b
 sum:s+e=mid+m
 lo:∀ x∈seg L a s,∀ y∈seg L e b,c x y<=0
 hi:∀ y∈seg L m e,∀ x∈seg L s m,c y x<0
theorem Found.of (h:Cmp c) {L:List α} {a m b s e mid:Nat} (hA:Srt c (seg L a m)) (hB:Srt c (seg L m b)) (hb:b<=L.length) (as_:a<=s) (sm:s<=m) (me:m<=e) (eb:e<=b) (sum:s+e=mid+m)
 (lo:s=a\/e=b\/∃ x y,L[s-1]?=some x/\L[e]?=some y/\¬c y x<0) (hi:s=m\/e=m\/∃ x y,L[s]?=some x/\L[e-1]?=some y/\c y x<0):Found c L a m b s e mid:=by
 refine⟨as_,sm,me,eb,sum,?_,?_⟩
 · intro x hx y hy;obtain ⟨i,i1,i2,ix⟩:=zen hx;obtain ⟨j,j1,j2,jy⟩:=zen hy;rcases lo with e1 | e1 | ⟨u,v,hu,hv,huv⟩
   · omega
   · omega
   have h1:=zem h hA i1 (show i<=s-1 by omega) (by omega) ix hu;have h2:=zem h hB me j1 j2 hv jy;have h3:=h.neg v u;exact(h.tr x v y).le ((h.tr x u v).le h1 (by omega)) h2
 intro y hy x hx;obtain ⟨i,i1,i2,ix⟩:=zen hx;obtain ⟨j,j1,j2,jy⟩:=zen hy;rcases hi with e1 | e1 | ⟨u,v,hu,hv,huv⟩
 · omega
 · omega
 have h1:=zem h hA as_ i1 i2 hu ix;have h2:=zem h hB j1 (show j<=e-1 by omega) (by omega) jy hv;exact(h.tr y v x).lt2 h2 ((h.tr v u x).lt1 huv h1)
theorem Found.parts {L:List α} {a m b s e mid:Nat} (f:Found c L a m b s e mid) (hb:b<=L.length):∃ P A1 A2 B1 B2 R,L=P++(A1++(A2++(B1++(B2++R))))/\P.length=a/\A1.length=s-a/\A2.length=m-s/\B1.length=e-m/\B2.length=b-e/\seg L a s=A1/\seg L s m=A2/\seg L m e=B1/\seg L e b=B2:=by
 have:=f.as_;have:=f.sm;have:=f.me;have:=f.eb;refine⟨L.take a,seg L a s,seg L s m,seg L m e,seg L e b,L.drop b,?_,?_,zbT (by omega),zbT (by omega),zbT (by omega),zbT hb,rfl,rfl,rfl,rfl⟩
 · rw[<-cY (seg L m e),<-zaq (by omega) (by omega) hb,<-cY (seg L s m),<-zaq (by omega) (by omega) hb,<-cY (seg L a s),<-zaq (by omega) (by omega) hb];have e1:L.take a++seg L a b=L.take b:=by
    have:(L.take b).take a=L.take a:=(by rw[vK];congr 1;omega);rw[<-this];exact dQ ..
   rw[<-cY,e1,dQ]
 rw[dG];omega
theorem Found.merge (h:Cmp c) {L:List α} {a m b s e mid:Nat} (f:Found c L a m b s e mid) (hb:b<=L.length) (hA:Srt c (seg L a m)) (hB:Srt c (seg L m b)):
 fixI c mid b (fixI c a mid (rotL s m e L))=fixI c a b L:=by
 obtain ⟨P,A1,A2,B1,B2,R,eL,lP,l1,l2,l3,l4,s1,s2,s3,s4⟩:=f.parts hb;have:=f.as_;have:=f.sm;have:=f.me;have:=f.eb;have:=f.sum;rw[zaq f.as_ f.sm (by omega),s1,s2] at hA;rw[zaq f.me f.eb hb,s3,s4] at hB;have hs:=isort_split h hA hB (by rw[<-s1,<-s4];exact f.lo) (by rw[<-s2,<-s3];exact f.hi);subst eL;have r1:rotL s m e (P++(A1++(A2++(B1++(B2++R)))))=P++(A1++(B1++(A2++(B2++R)))):=by
  rw[<-cY P,zcS (by rw[cX];omega) (by omega) (by omega),cY]
 rw[r1,<-cY A1,zcw (a:=a) (b:=mid) (by omega) (by rw[cX];omega),<-cY A2,<-cY P,
  zcw (a:=mid) (b:=b) (by rw[cX,zbH,cX];omega) (by rw[cX,zbH,cX,cX];omega)]
 rw[show A1++(A2++(B1++(B2++R)))=(A1++(A2++(B1++B2)))++R by simp only[cY]];rw[zcw (a:=a) (b:=b) (by omega) (by simp only[cX];omega),hs];simp only[cY]
theorem Found.segs {L:List α} {a m b s e mid:Nat} (f:Found c L a m b s e mid) (hb:b<=L.length) (hA:Srt c (seg L a m)) (hB:Srt c (seg L m b)):
 Srt c (seg (rotL s m e L) a s)/\Srt c (seg (rotL s m e L) s mid)/\Srt c (seg (rotL s m e L) mid e)/\Srt c (seg (rotL s m e L) e b)/\(rotL s m e L).length=L.length:=by
 obtain ⟨P,A1,A2,B1,B2,R,eL,lP,l1,l2,l3,l4,s1,s2,s3,s4⟩:=f.parts hb;have:=f.as_;have:=f.sm;have:=f.me;have:=f.eb;have:=f.sum;rw[zaq f.as_ f.sm (by omega),s1,s2] at hA;rw[zaq f.me f.eb hb,s3,s4] at hB;have hl:(rotL s m e L).length=L.length:=rotL_len f.sm f.me (by omega);subst eL;have r1:rotL s m e (P++(A1++(A2++(B1++(B2++R)))))=P++(A1++(B1++(A2++(B2++R)))):=by
  rw[<-cY P,zcS (by rw[cX];omega) (by omega) (by omega),cY]
 rw[r1] at hl ⊢;refine⟨?_,?_,?_,?_,hl⟩
 · rw[zbU (X:=A1) (by omega) (by omega)];exact hA.left
 · rw[<-cY P,zbU (X:=B1) (by rw[cX];omega) (by rw[cX];omega)];exact hB.left
 · rw[<-cY A1,<-cY P,zbU (X:=A2) (by simp only[cX];omega) (by simp only[cX];omega)];exact hA.right
 rw[<-cY B1,<-cY A1,<-cY P,zbU (X:=B2) (by simp only[cX];omega) (by simp only[cX];omega)];exact hB.right
theorem zbB {L:List α} {a b d e:Nat} (hab:a<=b) (hb:b<=L.length) (hbd:b<=d):seg (fixI c a b L) d e=seg L d e:=by
 obtain ⟨P,X,R,eL,hP,hX⟩:=dec2 hab hb;subst eL;rw[zcw (a:=a) (b:=b) (by omega) (by omega)];unfold seg;apply wC;intro i;simp only[uC,j8];split
 · rw[<-cY,<-cY,jH (by rw[cX,zbH];omega),jH (by rw[cX];omega)];simp only[cX,zbH]
 rfl
theorem seg_fixI_left {L:List α} {a b d e:Nat} (hab:a<=b) (hbd:b<=L.length) (hde:e<=a):seg (fixI c a b L) d e=seg L d e:=by
 obtain ⟨P,X,R,eL,hP,hX⟩:=dec2 hab hbd;subst eL;rw[zcw (a:=a) (b:=b) (by omega) (by omega)];unfold seg;rw[jO (by omega),jO (by omega)]
theorem seg_fixI_self (h:Cmp c) {L:List α} {a b:Nat} (hab:a<=b) (hb:b<=L.length):Srt c (seg (fixI c a b L) a b):=by
 obtain ⟨P,X,R,eL,hP,hX⟩:=dec2 hab hb;subst eL;rw[zcw (a:=a) (b:=b) (by omega) (by omega),zbU (X:=zx c X) (by omega) (by rw[zbH];omega)];exact(zap h _ _ rfl).srt
theorem fixI_same (h:Cmp c) {L:List α} {a b:Nat} (hab:a<=b) (hb:b<=L.length) (k:α):(fixI c a b L).filter (eqv c k)=L.filter (eqv c k):=by
 obtain ⟨P,X,R,eL,hP,hX⟩:=dec2 hab hb;subst eL;rw[zcw (a:=a) (b:=b) (by omega) (by omega)];simp only[List.filter_append,(zap h _ X rfl).same]
def swp (i j:Nat) (L:List α):List α:=match L[i]?,L[j]? with
 | some x,some y=>(L.set i y).set j x
 | _,_=>L
theorem zfm {i j:Nat} {L:List α} {x y:α} (hx:L[i]?=some x) (hy:L[j]?=some y):swp i j L=(L.set i y).set j x:=by unfold swp;rw[hx,hy]
theorem swp_len (i j:Nat) (L:List α):(swp i j L).length=L.length:=by unfold swp;split<;>simp
def mvUp:Nat->Nat->List α->List α
 | 0,_,L=>L
 | n+1,k,L=>mvUp n (k+1) (swp k (k+1) L)
def mvDn:Nat->Nat->List α->List α
 | 0,_,L=>L
 | n+1,k,L=>mvDn n (k-1) (swp k (k-1) L)
theorem mvUp_dec {x:α}:∀ (B P R:List α),mvUp B.length P.length (P++x::(B++R))=P++(B++x::R)
 | [],P,R=>rfl
 | y::B,P,R=>by
  show mvUp B.length (P.length+1) (swp P.length (P.length+1) (P++x::y::(B++R)))=_;have e:swp P.length (P.length+1) (P++x::y::(B++R))=(P++[y])++x::(B++R):=by
   rw[zfm (x:=x) (y:=y) (by simp) (by rw[jH (by omega)];simp)];rw[List.set_append_right _ _ (by omega),List.set_append_right _ _ (by omega)];simp
  rw[e,show P.length+1=(P++[y]).length by simp,mvUp_dec B (P++[y]) R];simp
theorem mvDn_dec {x:α}:∀ (n:Nat) (B P R:List α),B.length=n->mvDn n (P.length+n) (P++(B++x::R))=P++x::(B++R)
 | 0,B,P,R,hn=>by rw[dJ hn];rfl
 | n+1,B,P,R,hn=>by
  obtain ⟨B',y,eB⟩:∃ B' y,B=B'++[y]:=⟨B.dropLast,B.getLast (by intro e;rw[e] at hn;simp at hn),(List.dropLast_concat_getLast _).symm⟩;subst eB;have hB:B'.length=n:=by simp at hn;exact hn
  show mvDn n (P.length+(n+1)-1) (swp (P.length+(n+1)) (P.length+(n+1)-1) _)=_;have e:swp (P.length+(n+1)) (P.length+(n+1)-1) (P++(B'++[y]++x::R))=P++(B'++x::(y::R)):=by
   have e0:P++(B'++[y]++x::R)=(P++B')++y::x::R:=(by simp);rw[e0,zfm (x:=x) (y:=y) (by rw[jH (by simp;omega)];simp only[cX,hB];rw[show P.length+(n+1)-(P.length+n)=1 by omega];rfl) (by rw[jH (by simp;omega)];simp only[cX,hB];rw[show P.length+(n+1)-1-(P.length+n)=0 by omega];rfl)];rw[List.set_append_right _ _ (by simp;omega),List.set_append_right _ _ (by simp;omega)];simp only[cX,hB];rw[show P.length+(n+1)-(P.length+n)=1 by omega,show P.length+(n+1)-1-(P.length+n)=0 by omega];simp
  rw[e,show P.length+(n+1)-1=P.length+n by omega,mvDn_dec n B' P (y::R) hB];simp
theorem mvUp_next {n k:Nat} {L:List α} {x y:α} (hx:L[k]?=some x) (hy:L[k+1]?=some y):mvUp (n+1) k L=mvUp n (k+1) ((L.set k y).set (k+1) x):=by
 show mvUp n (k+1) (swp k (k+1) L)=_;rw[zfm hx hy]
theorem mvDn_next {n k:Nat} {L:List α} {x y:α} (hx:L[k]?=some x) (hy:L[k-1]?=some y):mvDn (n+1) k L=mvDn n (k-1) ((L.set k y).set (k-1) x):=by
 show mvDn n (k-1) (swp k (k-1) L)=_;rw[zfm hx hy]
theorem srt_one (x:α):Srt c [x]:=List.pairwise_singleton _ _
theorem merge_up (h:Cmp c) {L:List α} {a b i:Nat} {x:α} (hb:b<=L.length) (hx:L[a]?=some x) (h1:a+1<=i) (h2:i<=b) (hB:Srt c (seg L (a+1) b))
 (lo:i=a+1\/∃ y,L[i-1]?=some y/\c y x<0) (hi:i=b\/∃ y,L[i]?=some y/\¬c y x<0):mvUp (i-1-a) a L=fixI c a b L:=by
 have hA:seg L a (a+1)=[x]:=by
  have hl:=zbT (L:=L) (a:=a) (b:=a+1) (by omega);have hm:x∈seg L a (a+1):=get_mem_seg hx (by omega) (by omega);obtain ⟨y,hy⟩:=List.length_eq_one_iff.1 (by rw[hl];omega:(seg L a (a+1)).length=1);rw[hy] at hm ⊢;rw[dW.1 hm]
 have f1:∀ y∈seg L (a+1) i,c y x<0:=by
  intro y hy;obtain ⟨j,j1,j2,jy⟩:=zen hy;rcases lo with e | ⟨u,hu,hux⟩
  · omega
  exact(h.tr y u x).lt2 (zem h hB j1 (show j<=i-1 by omega) (by omega) jy hu) hux
 have f2:∀ y∈seg L i b,c x y<=0:=by
  intro y hy;obtain ⟨j,j1,j2,jy⟩:=zen hy;rcases hi with e | ⟨u,hu,hux⟩
  · omega
  have:=h.neg u x;exact(h.tr x u y).le (by omega) (zem h hB h1 j1 j2 hu jy)
 have hL:L=L.take a++x::(seg L (a+1) i++(seg L i b++L.drop b)):=by
  have e1:x::(seg L (a+1) i++(seg L i b++L.drop b))=seg L a b++L.drop b:=by
   rw[zaq (show a<=a+1 by omega) (show a+1<=b by omega) hb,hA,zaq h1 h2 hb];simp
  rw[e1,<-cY];have e2:L.take a++seg L a b=L.take b:=by
   have:(L.take b).take a=L.take a:=(by rw[vK];congr 1;omega);rw[<-this];exact dQ ..
  rw[e2,dQ]
 have lP:(L.take a).length=a:=by rw[dG];omega
 have lB:=zbT (L:=L) (a:=a+1) (b:=i) (by omega);rw[zaq h1 h2 hb] at hB;have key:=isort_split h (A1:=[]) (A2:=[x]) (B1:=seg L (a+1) i) (B2:=seg L i b) (srt_one x) hB (λ_ hx=>by cases hx) (λy hy z hz=>by rw[dW.1 hz];exact f1 y hy);have key2:zx c ([x]++seg L i b)=x::seg L i b:=zeA h (dS.2 ⟨f2,hB.right⟩);have key3:zx c ([]++seg L (a+1) i)=seg L (a+1) i:=zeA h hB.left;have e3:=mvUp_dec (x:=x) (seg L (a+1) i) (L.take a) (seg L i b++L.drop b);rw[<-hL,lP,lB,show i-(a+1)=i-1-a by omega] at e3;rw[e3];unfold fixI;rw[zaq (show a<=a+1 by omega) (show a+1<=b by omega) hb,hA,zaq h1 h2 hb];have e4:zx c ([x]++(seg L (a+1) i++seg L i b))=seg L (a+1) i++x::seg L i b:=by
  have:=key;rw[key2,key3] at this;simpa using this
 rw[e4];simp
theorem merge_dn (h:Cmp c) {L:List α} {a m i:Nat} {x:α} (hx:L[m]?=some x) (h1:a<=i) (h2:i<=m) (hA:Srt c (seg L a m))
 (lo:i=a\/∃ y,L[i-1]?=some y/\¬c x y<0) (hi:i=m\/∃ y,L[i]?=some y/\c x y<0):mvDn (m-i) m L=fixI c a (m+1) L:=by
 have hm:=(cZ.1 hx).1;have hB:seg L m (m+1)=[x]:=by
  have hl:=zbT (L:=L) (a:=m) (b:=m+1) (by omega);have hmm:x∈seg L m (m+1):=get_mem_seg hx (by omega) (by omega);obtain ⟨y,hy⟩:=List.length_eq_one_iff.1 (by rw[hl];omega:(seg L m (m+1)).length=1);rw[hy] at hmm ⊢;rw[dW.1 hmm]
 have f1:∀ y∈seg L a i,c y x<=0:=by
  intro y hy;obtain ⟨j,j1,j2,jy⟩:=zen hy;rcases lo with e | ⟨u,hu,hux⟩
  · omega
  have:=h.neg x u;exact(h.tr y u x).le (zem h hA j1 (show j<=i-1 by omega) (by omega) jy hu) (by omega)
 have f2:∀ y∈seg L i m,c x y<0:=by
  intro y hy;obtain ⟨j,j1,j2,jy⟩:=zen hy;rcases hi with e | ⟨u,hu,hux⟩
  · omega
  exact(h.tr x u y).lt1 hux (zem h hA h1 j1 j2 hu jy)
 have hL:L=L.take a++(seg L a i++(seg L i m++x::L.drop (m+1))):=by
  have e1:seg L a i++(seg L i m++x::L.drop (m+1))=seg L a (m+1)++L.drop (m+1):=by
   rw[zaq (show a<=m by omega) (show m<=m+1 by omega) (by omega),hB,zaq h1 h2 (by omega)];simp
  rw[e1,<-cY];have e2:L.take a++seg L a (m+1)=L.take (m+1):=by
   have:(L.take (m+1)).take a=L.take a:=(by rw[vK];congr 1;omega);rw[<-this];exact dQ ..
  rw[e2,dQ]
 have lP:(L.take a).length=a:=by rw[dG];omega
 have lA:=zbT (L:=L) (a:=a) (b:=i) (by omega);have lB:=zbT (L:=L) (a:=i) (b:=m) (by omega);rw[zaq h1 h2 (by omega)] at hA;have key:=isort_split h (A1:=seg L a i) (A2:=seg L i m) (B1:=[x]) (B2:=[]) hA (srt_one x) (λ_ _ _ hx=>by cases hx) (λy hy z hz=>by rw[dW.1 hy];exact f2 z hz);have key2:zx c (seg L a i++[x])=seg L a i++[x]:=zeA h (Srt.app hA.left (srt_one x) (λy hy z hz=>by rw[dW.1 hz];exact f1 y hy));have key3:zx c (seg L i m++[])=seg L i m:=by rw[j5];exact zeA h hA.right
 have e3:=mvDn_dec (x:=x) _ (seg L i m) (L.take a++seg L a i) (L.drop (m+1)) lB;rw[cY,<-hL,cX,lP,lA,show a+(i-a)+(m-i)=m by omega] at e3;rw[e3];unfold fixI;rw[zaq (show a<=m by omega) (show m<=m+1 by omega) (by omega),hB,zaq h1 h2 (by omega)];have e4:zx c (seg L a i++seg L i m++[x])=seg L a i++[x]++seg L i m:=by
  have:=key;rw[key2,key3] at this;simpa using this
 rw[e4];simp
def swpN:Nat->Nat->Nat->List α->List α
 | 0,_,_,L=>L
 | n+1,a,b,L=>swpN n (a+1) (b+1) (swp a b L)
theorem zel:∀ (n a b:Nat) (L:List α),(swpN n a b L).length=L.length
 | 0,_,_,_=>rfl
 | n+1,a,b,L=>by show (swpN n (a+1) (b+1) (swp a b L)).length=_;rw[zel n,swp_len]
theorem swpN_next {n a b:Nat} {L:List α} {x y:α} (hx:L[a]?=some x) (hy:L[b]?=some y):swpN (n+1) a b L=swpN n (a+1) (b+1) ((L.set a y).set b x):=by
 show swpN n (a+1) (b+1) (swp a b L)=_;rw[zfm hx hy]
theorem swpN_dec:∀ (X Y P Q R:List α),X.length=Y.length->swpN X.length P.length (P.length+X.length+Q.length) (P++(X++(Q++(Y++R))))=P++(Y++(Q++(X++R)))
 | [],[],P,Q,R,_=>rfl
 | x::X,[],P,Q,R,h=>by simp at h
 | [],y::Y,P,Q,R,h=>by simp at h
 | x::X,y::Y,P,Q,R,h=>by
  have h':X.length=Y.length:=by simpa using h
  show swpN X.length (P.length+1) (P.length+(X.length+1)+Q.length+1) (swp P.length (P.length+(X.length+1)+Q.length) (P++(x::X++(Q++(y::Y++R)))))=_;have e:swp P.length (P.length+(X.length+1)+Q.length) (P++(x::X++(Q++(y::Y++R))))=(P++[y])++(X++((Q++[x])++(Y++R))):=by
   have e0:P++(x::X++(Q++(y::Y++R)))=P++x::((X++Q)++y::(Y++R)):=(by simp);rw[e0,zfm (x:=x) (y:=y) (by simp) (by rw[jH (by omega),show P.length+(X.length+1)+Q.length-P.length=(X++Q).length+1 by simp;omega,List.getElem?_cons_succ,jH (by omega)];simp)];rw[List.set_append_right _ _ (by omega),Nat.sub_self,List.set_cons_zero,List.set_append_right _ _ (by omega),show P.length+(X.length+1)+Q.length-P.length=(X++Q).length+1 by simp;omega,List.set_cons_succ,List.set_append_right _ _ (by omega),Nat.sub_self,List.set_cons_zero];simp
  have ih:=swpN_dec X Y (P++[y]) (Q++[x]) R h';rw[e];have e2:P.length+(X.length+1)+Q.length+1=(P++[y]).length+X.length+(Q++[x]).length:=by simp;omega
  rw[e2,show P.length+1=(P++[y]).length by simp,ih];simp
theorem rot_gt {L:List α} {a m b j:Nat} (hb:b<=L.length) (hm:m<=b) (hj:j=b-m) (hi:a+j<m):rotL a m b L=rotL (a+j) m b (swpN j a m L):=by
 obtain ⟨P,X,R1,e1,hP,hX⟩:=dec2 (L:=L) (a:=a) (b:=m) (by omega) (by omega);obtain ⟨Z,Y,R,e2,hZ,hY⟩:=dec2 (L:=R1) (a:=0) (b:=j) (by omega) (by have:=congrArg List.length e1;simp only[cX] at this;omega);rw[dJ hZ,d9] at e2;obtain ⟨Z',X1,X2,e3,hZ',hX1⟩:=dec2 (L:=X) (a:=0) (b:=j) (by omega) (by omega);rw[dJ hZ',d9] at e3;subst e2;subst e3;subst e1;have hl:(X1++X2).length=X1.length+X2.length:=cX;have s:=swpN_dec X1 Y P X2 R (by omega);rw[show P.length+X1.length+X2.length=m by omega,show X1.length=j by omega,hP] at s;rw[cY X1,s,<-cY X1,zcS (by omega) (by omega) (by omega),<-cY P Y (X2++_),zcS (P:=P++Y) (X:=X2) (Y:=X1) (by rw[cX];omega) (by omega) (by omega)];simp
theorem rot_lt {L:List α} {a m b i:Nat} (hb:b<=L.length) (hm:a<=m) (hi:i=m-a) (hj:m+i<b):rotL a m b L=rotL a m (b-i) (swpN i a (b-i) L):=by
 obtain ⟨P,X,R1,e1,hP,hX⟩:=dec2 (L:=L) (a:=a) (b:=m) (by omega) (by omega);obtain ⟨Z,Y,R,e2,hZ,hY⟩:=dec2 (L:=R1) (a:=0) (b:=b-m) (by omega) (by have:=congrArg List.length e1;simp only[cX] at this;omega);rw[dJ hZ,d9] at e2;obtain ⟨Z',Y1,Y2,e3,hZ',hY1⟩:=dec2 (L:=Y) (a:=0) (b:=b-m-i) (by omega) (by omega);rw[dJ hZ',d9] at e3;subst e2;subst e3;subst e1;have hl:(Y1++Y2).length=Y1.length+Y2.length:=cX;have s:=swpN_dec X Y2 P Y1 R (by omega);rw[show P.length+X.length+Y1.length=b-i by omega,show X.length=i by omega,hP] at s;rw[cY Y1,s,<-cY Y1,zcS (by omega) (by omega) (by omega),zcS (X:=Y2) (Y:=Y1) (by omega) (by omega) (by omega)];simp
theorem rot_eq {L:List α} {a m b i:Nat} (hb:b<=L.length) (hm:a<=m) (hi:i=m-a) (hj:m+i=b):rotL a m b L=swpN i a m L:=by
 obtain ⟨P,X,R1,e1,hP,hX⟩:=dec2 (L:=L) (a:=a) (b:=m) (by omega) (by omega);obtain ⟨Z,Y,R,e2,hZ,hY⟩:=dec2 (L:=R1) (a:=0) (b:=b-m) (by omega) (by have:=congrArg List.length e1;simp only[cX] at this;omega);rw[dJ hZ,d9] at e2;subst e2;subst e1;have s:=swpN_dec X Y P [] R (by omega);rw[uO,uP,show P.length+X.length=m by omega,show X.length=i by omega,hP] at s;simp only[d9] at s;rw[s,zcS (by omega) (by omega) (by omega)]
theorem zdp {L:List α} {a b:Nat} (h:L.length<=b):seg L a b=seg L a L.length:=by unfold seg;rw[dE h,dE (dD _)]
theorem seg_none {L:List α} {a b:Nat} (h:L.length<=a):seg L a b=[]:=by unfold seg;rw[j7,dG];omega
structure Like (c:α->α->Int) (L0 L:List α):Prop where
 len:L.length=L0.length
 same:∀ x,L.filter (eqv c x)=L0.filter (eqv c x)
theorem Like.rfl' (L:List α):Like c L L:=⟨rfl,λ_=>rfl⟩
theorem Like.fix (h:Cmp c) {L0 L:List α} (l:Like c L0 L) {a b:Nat} (hab:a<=b) (hb:b<=L.length):Like c L0 (fixI c a b L):=⟨(zeD hab hb).trans l.len,λx=>(fixI_same h hab hb x).trans (l.same x)⟩
theorem Like.sorted (h:Cmp c) {L0 L:List α} (l:Like c L0 L) (hs:Srt c L):L=zx c L0:=Stab.eq h ⟨hs,l.same⟩ (zap h _ L0 rfl)
def AllB (c:α->α->Int) (n:Nat) (L:List α):Prop:=∀ j,Srt c (seg L (j*n) ((j+1)*n))
theorem AllB.sorted {n:Nat} {L:List α} (h:AllB c n L) (hn:L.length<=n):Srt c L:=by
 have:=h 0;rw[vX,d6,vR,zdp hn] at this;unfold seg at this;simpa using this
structure Ahead (c:α->α->Int) (n a:Nat) (L:List α):Prop where
 ex:∃ i,a=i*n/\∀ j,j<i->Srt c (seg L (j*n) ((j+1)*n))
theorem Ahead.zero (n:Nat) (L:List α):Ahead c n 0 L:=⟨0,by simp,λj hj=>by omega⟩
theorem Ahead.next (h:Cmp c) {n a:Nat} {L:List α} (p:Ahead c n a L) (hb:a+n<=L.length):Ahead c n (a+n) (fixI c a (a+n) L):=by
 obtain ⟨i,ea,hs⟩:=p.ex;refine⟨i+1,by rw[Nat.succ_mul,ea],λj hj=>?_⟩;rcases dH j i with hlt | hge
 · rw[seg_fixI_left (by omega) hb (by rw[ea];exact jT n hlt)];exact hs j hlt
 have:j=i:=by omega
 subst this;rw[Nat.succ_mul,<-ea];exact seg_fixI_self h (by omega) hb
theorem Ahead.last (h:Cmp c) {n a:Nat} {L:List α} (p:Ahead c n a L) (ha:a<=L.length) (hb:L.length<a+n):AllB c n (fixI c a L.length L):=by
 obtain ⟨i,ea,hs⟩:=p.ex;intro j;rcases dH j i with hlt | hge
 · rw[seg_fixI_left ha (dD _) (by rw[ea];exact jT n hlt)];exact hs j hlt
 have hl:=zeD (c:=c) ha (dD L.length);rcases Nat.eq_or_lt_of_le hge with he | hgt
 · subst he;rw[Nat.succ_mul,<-ea,zdp (by omega),hl];exact seg_fixI_self h ha (dD _)
 have:(i+1)*n<=j*n:=jT n hgt;rw[Nat.succ_mul] at this;rw[seg_none (by omega)];exact List.Pairwise.nil
structure Half (c:α->α->Int) (n a:Nat) (L:List α):Prop where
 ex:∃ i,a=i*(2*n)/\(∀ j,j<i->Srt c (seg L (j*(2*n)) ((j+1)*(2*n))))/\∀ j,2*i<=j->Srt c (seg L (j*n) ((j+1)*n))
theorem Half.zero {n:Nat} {L:List α} (h:AllB c n L):Half c n 0 L:=⟨0,by simp,λj hj=>by omega,λj _=>h j⟩
theorem Half.one {n a:Nat} {L:List α} (p:Half c n a L):Srt c (seg L a (a+n))/\Srt c (seg L (a+n) (a+2*n)):=by
 obtain ⟨i,ea,_,h2⟩:=p.ex;have e0:a=2*i*n:=by rw[ea,wS 2 i,Nat.mul_assoc]
 have h3:=h2 (2*i) (dD _);have h4:=h2 (2*i+1) (by omega);rw[uE,vR,<-e0] at h3;rw[uE (2*i+1),uE (2*i),vR,<-e0,vO,<-Nat.two_mul] at h4;exact⟨h3,h4⟩
theorem Half.next (h:Cmp c) {n a:Nat} {L:List α} (p:Half c n a L) (hb:a+2*n<=L.length):Half c n (a+2*n) (fixI c a (a+2*n) L):=by
 obtain ⟨i,ea,h1,h2⟩:=p.ex;refine⟨i+1,by rw[Nat.succ_mul i,ea],λj hj=>?_,λj hj=>?_⟩
 · rcases dH j i with hlt | hge
   · rw[seg_fixI_left (by omega) hb (by rw[ea];exact jT _ hlt)];exact h1 j hlt
   have:j=i:=(by omega);subst this;rw[Nat.succ_mul j,<-ea];exact seg_fixI_self h (by omega) hb
 have:(2*i+2)*n<=j*n:=jT n (by omega);have e0:a=2*i*n:=by rw[ea,wS 2 i,Nat.mul_assoc]
 rw[uE,<-e0] at this;rw[zbB (by omega) hb this];exact h2 j (by omega)
theorem Half.last {n a:Nat} {L:List α} (p:Half c n a L) (hb:L.length<=a+n):AllB c (2*n) L:=by
 obtain ⟨i,ea,h1,h2⟩:=p.ex;intro j;rcases dH j i with hlt | hge
 · exact h1 j hlt
 rcases Nat.eq_or_lt_of_le hge with he | hgt
 · subst he;rw[Nat.succ_mul i,<-ea,zdp (by omega)];have:=p.one.1
   rwa [zdp hb] at this
 have:(i+1)*(2*n)<=j*(2*n):=jT _ hgt;rw[Nat.succ_mul i] at this;rw[seg_none (by omega)];exact List.Pairwise.nil
theorem Half.last2 (h:Cmp c) {n a:Nat} {L:List α} (p:Half c n a L) (ha:a<=L.length) (hb:L.length<a+2*n):AllB c (2*n) (fixI c a L.length L):=by
 obtain ⟨i,ea,h1,h2⟩:=p.ex;intro j;rcases dH j i with hlt | hge
 · rw[seg_fixI_left ha (dD _) (by rw[ea];exact jT _ hlt)];exact h1 j hlt
 have hl:=zeD (c:=c) ha (dD L.length);rcases Nat.eq_or_lt_of_le hge with he | hgt
 · subst he;rw[Nat.succ_mul i,<-ea,zdp (by omega),hl];exact seg_fixI_self h ha (dD _)
 have:(i+1)*(2*n)<=j*(2*n):=jT _ hgt;rw[Nat.succ_mul i] at this;rw[seg_none (by omega)];exact List.Pairwise.nil
end
end Lp
namespace Lp
open Go
structure Hid (p:Prop):Prop where
 out:p
theorem zC (o:Int):Cmp (zi o):=⟨λa b=>cmpRow_neg o a b,λa b d=>cmpRow_tr o a b d⟩
theorem rot_none {α:Type} {L:List α} {a m b:Nat} (h1:a<=m) (h2:m<=b) (hb:b<=L.length) (h:a=m\/m=b):rotL a m b L=L:=by
 obtain ⟨P,X,R1,e1,hP,hX⟩:=dec2 (L:=L) (a:=a) (b:=m) h1 (by omega);obtain ⟨Z,Y,R,e2,hZ,hY⟩:=dec2 (L:=R1) (a:=0) (b:=b-m) (by omega) (by have:=congrArg List.length e1;simp only[cX] at this;omega);rw[dJ hZ,d9] at e2;subst e2;subst e1;rw[zcS (by omega) (by omega) (by omega)];rcases h with h | h
 · have:X=[]:=dJ (by omega);subst this;simp
 have:Y=[]:=dJ (by omega);subst this;simp
theorem half_srt {α:Type} {c:α->α->Int} {L:List α} {a s b:Nat} (h1:Srt c (seg L a s)) (h2:Srt c (seg L s b)) (ha:a<=s) (hb:s<=b) (hl:b<=L.length) (h:a=s\/s=b):Srt c (seg L a b):=by
 rcases h with rfl | rfl
 · exact h2
 exact h1
theorem isrt_fixI {α:Type} {c:α->α->Int} {L:List α} {a b:Nat} (ha:a<=b) (hb:b<=L.length):isrt c a b b (a+1) L=fixI c a b L:=by
 obtain ⟨P,X,R,e,hP,hX⟩:=dec2 ha hb;subst e;rw[zcw (a:=a) (b:=b) (by omega) (by omega)];cases X with
 | nil=>rw[zaZ (by simp at hX;omega)];rfl
 | cons x X=>
  have key:=isrt_isort (c:=c) (A:=P) (R:=R) X.length [x] X rfl;have e1:zx c [x]=[x]:=rfl;rw[e1] at key;simp only[dM,uO,cY,List.singleton_append] at key hX;have more:∀ (n m i:Nat) (L:List α),b<=i+n->n<=m->isrt c a b m i L=isrt c a b n i L:=by
   intro n
   induction n with
   | zero=>intro m i L h1 _;rw[zaZ (by omega),zaZ (by omega)]
   | succ n ih=>
    intro m i L h1 h2;obtain ⟨m,rfl⟩:∃ k,m=k+1:=⟨m-1,by omega⟩;rcases dH i b with h | h
    · rw[za8 h,za8 h];exact ih m _ _ (by omega) (by omega)
    rw[zaZ h,zaZ h]
  rw[more X.length b (a+1) _ (by omega) (by omega)];subst hP;rw[show b=P.length+(0+1)+X.length by omega,show P.length+1=P.length+(0+1) by omega];exact key
section
variable {α:Type} {c:α->α->Int}
def zbF (c:α->α->Int) (l:List α):Prop:=l.Pairwise (λa b=>c a b<0)
theorem zbF.srt {l:List α} (h:zbF c l):Srt c l:=List.Pairwise.imp (λh=>Int.le_of_lt h) h
def zgb (out:List α) (k:Nat) (x:α):List α:=(((out.take k).drop 0)++[x])++((out.take out.length).drop k)
theorem insAt_eq (out:List α) (k:Nat) (x:α):zgb out k x=out.take k++x::out.drop k:=by unfold zgb;rw[d7,jF];simp
theorem insAt_perm (out:List α) (k:Nat) (x:α):(zgb out k x).Perm (out++[x]):=by
 rw[insAt_eq];refine(wK).trans ?_;rw[dQ];exact(List.perm_append_comm (l₁:=[x]) (l₂:=out))
theorem insAt_strict {out:List α} {k:Nat} {x:α} (h:zbF c out) (h1:∀ y∈out.take k,c y x<0) (h2:∀ y∈out.drop k,c x y<0):zbF c (zgb out k x):=by
 rw[insAt_eq];have e:out.take k++out.drop k=out:=dQ ..;unfold zbF at h ⊢;rw[<-e] at h;obtain ⟨a1,a2,a3⟩:=jG.1 h;refine jG.2 ⟨a1,dS.2 ⟨h2,a2⟩,λy hy z hz=>?_⟩;rcases dO.1 hz with e | e
 · rw[e];exact h1 y hy
 exact a3 y hy z e
theorem ins_perm (x:α) (l:List α):(ins c x l).Perm (x::l):=by
 have key:∀ l:List α,(insB c x l).Perm (x::l):=by
  intro l
  induction l with
  | nil=>exact vM _
  | cons y r ih=>
   unfold insB;split
   · exact(List.Perm.cons y ih).trans (List.Perm.swap x y r)
   exact vM _
 unfold ins;exact(List.reverse_perm _).trans ((key l.reverse).trans (List.Perm.cons x (List.reverse_perm l)))
theorem isort_prm (l:List α):(zx c l).Perm l:=by
 have key:∀ (m r:List α),(m.foldl (λr x=>ins c x r) r).Perm (r++m):=by
  intro m
  induction m with
  | nil=>intro r;simp
  | cons x m ih=>
   intro r;refine(ih (ins c x r)).trans ?_;refine(List.Perm.append_right m (ins_perm x r)).trans ?_;show (x::(r++m)).Perm (r++x::m);exact List.perm_middle.symm
 have:=key l [];rw[d9] at this;exact this
theorem srt_perm (h:Cmp c) {a b:List α} (ha:Srt c a) (hb:Srt c b) (hp:a.Perm b) (anti:∀ x∈a,∀ y∈a,c x y=0->x=y):a=b:=by
 refine mW h _ _ ha hb (λk=>?_);have hrep:∀ m:List α,(∀ x∈m,∀ y∈m,c x y=0->x=y)->∀ z∈m.filter (eqv c k),m.filter (eqv c k)=List.replicate (m.filter (eqv c k)).length z:=by
  intro m hm z hz;rw[List.eq_replicate_iff];refine⟨rfl,λw hw=>?_⟩;have h1:=jZ.1 hz;have h2:=jZ.1 hw;have e1:c k z=0:=by simpa [eqv] using h1.2
  have e2:c k w=0:=by simpa [eqv] using h2.2
  have e3:=h.neg k w;have e4:=(h.tr w k z).e1 (by omega);exact hm w h2.1 z h1.1 (by omega)
 have hpf:=hp.filter (eqv c k);have hl:=hpf.length_eq;rcases hz:a.filter (eqv c k) with _ | ⟨z,r⟩
 · rw[hz] at hl;rw[dJ (l:=b.filter (eqv c k)) (by rw[<-hl];rfl)]
 rw[<-hz];have hm:z∈a.filter (eqv c k):=by rw[hz];exact c6
 have hm2:z∈b.filter (eqv c k):=hpf.mem_iff.1 hm;rw[hrep a anti z hm,hrep b (λx hx y hy=>anti x (hp.mem_iff.2 hx) y (hp.mem_iff.2 hy)) z hm2,hl]
theorem zbF.anti (h:Cmp c) {l:List α} (hs:zbF c l):∀ x∈l,∀ y∈l,c x y=0->x=y:=by
 induction l with
 | nil=>intro x hx;cases hx
 | cons a r ih=>
  have hs':=dS.1 hs;intro x hx y hy e;rcases dO.1 hx with ex | ex<;>rcases dO.1 hy with ey | ey
  · rw[ex,ey]
  · have:=hs'.1 y ey;rw[ex] at e;omega
  · have:=hs'.1 x ex;have:=h.neg a x;rw[ey] at e;omega
  exact ih hs'.2 x ex y ey e
theorem strict_isort (h:Cmp c) {l m:List α} (hs:zbF c l) (hp:l.Perm m):zx c m=l:=by
 have h1:=isort_prm (c:=c) m;exact(srt_perm h hs.srt (zap h _ m rfl).srt (hp.trans h1.symm) (hs.anti h)).symm
end
theorem NSrt.strict {l:List Lbl} (h:NSrt l):zbF zz l:=List.Pairwise.imp (λ{a b} h=>by unfold zz or2;rw[if_pos (by omega)];exact h) h
structure RT (l:List Lbl) (i:Nat) (out:List Lbl):Prop where
 ns:NSrt out
 pm:out.Perm (l.take i)
 ok:∀ x∈out,okL x=true
theorem RT.zero (l:List Lbl):RT l 0 []:=⟨List.Pairwise.nil,by simp,λ_ h=>by cases h⟩
theorem RT.len {l out:List Lbl} {i:Nat} (h:RT l i out) (hi:i<=l.length):out.length=i:=by rw[h.pm.length_eq,dG];omega
theorem RT.next {l out:List Lbl} {i k:Nat} {x:Lbl} (h:RT l i out) (hx:l[i]?=some x) (hok:okL x=true) (h1:∀ j y,j<k->out[j]?=some y->cmpS y.n x.n<0) (h2:k=out.length\/∃ y,out[k]?=some y/\¬cmpS y.n x.n<0/\¬y.n=x.n):RT l (i+1) (zgb out k x):=by
 have hn:∀ y z:Lbl,cmpS y.n z.n<0↔cmpS y.n z.n<0:=λ_ _=>Iff.rfl
 refine⟨?_,?_,?_⟩
 · have:=insAt_strict (c:=λa b:Lbl=>cmpS a.n b.n) (out:=out) (k:=k) (x:=x) h.ns (λy hy=>?_) (λy hy=>?_)
   · exact this
   · obtain ⟨j,hj⟩:=wN.1 hy;rw[j8] at hj;split at hj
     · exact h1 j y (by assumption) hj
     cases hj
   rcases h2 with e | ⟨z,hz,h3,h4⟩
   · rw[e,List.drop_length] at hy;cases hy
   have hzx:cmpS x.n z.n<0:=by
    have e1:=zeF z.n x.n;have e2:cmpS z.n x.n≠0:=λe=>h4 ((zcD _ _).1 e)
    omega
   rw[zaY hz] at hy;rcases dO.1 hy with e | e
   · rw[e];exact hzx
   have hs:NSrt (out.take k++out.drop k):=(by rw[dQ];exact h.ns);have h5:=(jG.1 hs).2.1;rw[zaY hz] at h5;have h6:=(dS.1 h5).1 y e;exact(cmpS_tr x.n z.n y.n).lt1 hzx (by omega)
 · refine(insAt_perm out k x).trans ?_;rw[zU hx];exact List.Perm.append_right [x] h.pm
 intro y hy;rcases jK.1 ((insAt_perm out k x).mem_iff.1 hy) with e | e
 · exact h.ok y e
 rw[dW.1 e];exact hok
theorem tidyOk_of {l m:List Lbl} (hl:l.length<=8) (hs:NSrt m) (hp:m.Perm l) (hok:∀ x∈m,okL x=true):zas l=true/\zx zz l=m:=by
 have e:=strict_isort cmpLbl_cmp hs.strict hp;refine⟨?_,e⟩;have key:∀ (r:List Lbl) (p:Option ByteArray),NSrt r->(∀ x∈r,okL x=true)->(∀ n,p=some n->∀ x∈r,cmpS n x.n<0)->zcR p r=true:=by
  intro r
  induction r with
  | nil=>intro _ _ _ _;rfl
  | cons x r ih=>
   intro p h1 h2 h3;have h1':=dS.1 h1;unfold zcR;rw[h2 x c6,ih (some x.n) h1'.2 (λy hy=>h2 y (dC _ hy)) (λn hn y hy=>by injection hn with hn;rw[<-hn];exact h1'.1 y hy)];have:¬p=some x.n:=λhp=>by have:=h3 x.n hp x c6;have e0:=(zcD x.n x.n).2 rfl;omega
   simp[this]
 unfold zas zeh zbX;rw[e];simp only[zeT,jF,c8,decide_eq_true_eq];exact⟨hl,key m none hs hok (λ_ h=>by cases h)⟩
theorem RT.done {l out:List Lbl} {i:Nat} (h:RT l i out) (hi:l.length<=i) (hl:l.length<=8):out=zY l/\true=zas l:=by
 have hp:=h.pm;rw[dE hi] at hp;obtain ⟨e1,e2⟩:=tidyOk_of hl h.ns hp h.ok;unfold zY;rw[e1,e2];exact⟨rfl,rfl⟩
theorem tidyL_no {l:List Lbl} (h:zas l=false):[]=zY l/\false=zas l:=by unfold zY;rw[h];exact⟨rfl,rfl⟩
theorem tidyOk_mem {l:List Lbl} (h:zas l=true) {x:Lbl} (hx:x∈l):okL x=true:=by
 have e:zbI l=0:=by unfold zbI;rw[h];rfl
 have hm:x∈zY l:=by unfold zY;rw[h];exact((zap cmpLbl_cmp _ l rfl).mem cmpLbl_cmp x).2 hx
 exact(tidy_n e).2 x hm
theorem mX {l:List Lbl} {i:Nat} {x:Lbl} (hx:l[i]?=some x) (h:okL x=false):[]=zY l/\false=zas l:=tidyL_no (by
 rcases e:zas l with _ | _
 · rfl
 have:=tidyOk_mem e (zaw hx);rw[h] at this;cases this)
theorem RT.long {l:List Lbl} (h:(8:Int)<((l.length:Nat):Int)):[]=zY l/\false=zas l:=tidyL_no (by
 have:¬l.length<=8:=by omega
 simp[zas,this])
theorem RT.bad2 {l out:List Lbl} {i k:Nat} {x y:Lbl} (h:RT l i out) (hx:l[i]?=some x) (hy:out[k]?=some y) (e:y.n=x.n):[]=zY l/\false=zas l:=tidyL_no (by
 rcases ek:zas l with _ | _
 · rfl
 exfalso;have e0:zbI l=0:=by unfold zbI;rw[ek];rfl
 have eT:zY l=zx zz l:=by unfold zY;rw[ek];rfl
 have hn:=(tidy_n e0).1;rw[eT] at hn;have hp:=isort_prm (c:=zz) l;have hl:l=l.take i++(x::l.drop (i+1)):=by rw[<-zaY hx,dQ]
 have hyt:y∈l.take i:=h.pm.mem_iff.1 (zaw hy);have hnd:(l.map (·.n)).Nodup:=by
  have h1:((zx zz l).map (·.n)).Nodup:=by
   rw[List.Nodup,wD];exact List.Pairwise.imp (λ{a b} hab e=>by have:=(zcD a.n b.n).2 e;omega) hn
  exact(hp.map (·.n)).nodup_iff.1 h1
 rw[hl,uN,List.nodup_append] at hnd;exact hnd.2.2 y.n (jX.2 ⟨y,hyt,rfl⟩) x.n (by simp) e)
def cL (a b:RowD):Int:=zw a.ls b.ls
theorem cL_cmp:Cmp cL:=⟨λa b=>zd5 _ _,λa b d=>zd4 _ _ _⟩
def ordB (l:List RowD):Bool:=decide ((zx cL l).Pairwise (λa b=>cL a b<0))
def ordL (l:List RowD):List RowD:=bif ordB l then zx cL l else []
def ordE (l:List RowD):Int:=bif ordB l then 0 else 6
theorem ord_no {l:List RowD} (h:ordB l=false):[]=ordL l/\6=ordE l:=by unfold ordL ordE;rw[h];exact⟨rfl,rfl⟩
def valB (v:Int):Bool:=decide (-1000000000000<=v)&&decide (v<=1000000000000)
def zZ (l:List Lbl):Bool:=zas l&&decide (zw (zY l) l=0)
def zc5 (l:List RowD):Bool:=l.all (λr=>zZ r.ls&&valB r.v)
def rtL (l:List RowD):List RowD:=bif decide (l.length<=2000)&&zc5 l then ordL l else []
def rtE (l:List RowD):Int:=bif decide (l.length<=2000)&&zc5 l then ordE l else 1
theorem rt_long {l:List RowD} (h:(2000:Int)<((l.length:Nat):Int)):[]=rtL l/\1=rtE l:=by
 have:¬l.length<=2000:=by omega
 unfold rtL rtE;rw[decide_eq_false this];exact⟨rfl,rfl⟩
theorem rt_bad {l:List RowD} {i:Nat} {x:RowD} (hx:l[i]?=some x) (h:(zZ x.ls&&valB x.v)=false):[]=rtL l/\1=rtE l:=by
 have:zc5 l=false:=by unfold zc5;rw[vH];exact⟨x,zaw hx,by rw[h];simp⟩
 unfold rtL rtE;rw[this,Bool.and_false];exact⟨rfl,rfl⟩
theorem rt_ok {l:List RowD} (h1:¬(2000:Int)<((l.length:Nat):Int)) (h2:zc5 l=true):ordL l=rtL l/\ordE l=rtE l:=by
 have:l.length<=2000:=by omega
 unfold rtL rtE;rw[decide_eq_true this,h2];exact⟨rfl,rfl⟩
end Lp
namespace Lp
open Go
theorem tidyOk_E (l:List Lbl):decide (zbI l=0)=zas l:=by
 unfold zbI;cases zas l<;>rfl
theorem rightB_eq (l:List Lbl):(decide (zbI l=0)&&decide (zw (zY l) l=0))=zZ l:=by
 unfold zZ;rw[tidyOk_E]
def zbt (r:RowD):Bool:=zZ r.ls&&zQ r.v
theorem rowsB_ok (l:List RowD):zc5 l=l.all zbt:=rfl
theorem okRow_len {r:RowD} (h:zbt r=true):r.ls.length<=8:=by
 unfold zbt zZ at h;simp only[c8] at h;exact tidy_ok_len h.1.1
def zeS (l:List RowD):Nat->Option RowD
 | 0=>none
 | k+1=>l[k]?
def ltP (p:Option RowD) (x:RowD):Bool:=match p with
 | none=>true
 | some q=>decide (cL q x<0)
def ascB:Option RowD->List RowD->Bool
 | _,[]=>true
 | p,r::l=>zbt r&&(ltP p r&&ascB (some r) l)
def zbJ (l:List RowD) (k:Nat):Bool:=ascB (zeS l k) (l.drop k)
def z7 (l:List RowD):Bool:=decide (l.length<=2000)&&zbJ l 0
theorem ascAt_next {l:List RowD} {k:Nat} {x:RowD} (h:l[k]?=some x):zbJ l k=(zbt x&&(ltP (zeS l k) x&&zbJ l (k+1))):=by
 unfold zbJ;rw[zbv h];show (zbt x&&(ltP (zeS l k) x&&ascB (some x) (l.drop (k+1))))=_;rw[show zeS l (k+1)=some x from h]
theorem ascAt_end {l:List RowD} {k:Nat} (h:l.length<=k):zbJ l k=true:=by
 unfold zbJ;rw[j7.2 h];rfl
theorem prevR_pos {l:List RowD} {k:Nat} {y:RowD} (h:(0:Int)<((k:Nat):Int)) (hy:l[k-1]?=some y):zeS l k=some y:=by
 cases k with
 | zero=>simp at h
 | succ k=>simpa [zeS] using hy
theorem prevR_zero {l:List RowD} {k:Nat} (h:¬(0:Int)<((k:Nat):Int)):zeS l k=none:=by
 have:k=0:=by omega
 subst this;rfl
section
variable {l:List RowD} {k:Nat} {x:RowD}
theorem vr_long (h:(2000:Int)<((l.length:Nat):Int)):false=z7 l:=by
 have:¬l.length<=2000:=by omega
 simp[z7,this]
theorem vr_bad1 (hk:zbJ l 0=zbJ l k) (hx:l[k]?=some x) (h:zbt x=false):false=z7 l:=by simp[z7,hk,ascAt_next hx,h]
theorem vr_bad2 (hk:zbJ l 0=zbJ l k) (hx:l[k]?=some x) {y:RowD} (h:zeS l k=some y) (hn:0<=zw y.ls x.ls):false=z7 l:=by
 have:¬cL y x<0:=by unfold cL;omega
 simp[z7,hk,ascAt_next hx,h,ltP,this]
theorem vr_good (hk:zbJ l 0=zbJ l k) (hx:l.length<=k) (h:¬(2000:Int)<((l.length:Nat):Int)):true=z7 l:=by
 have:l.length<=2000:=by omega
 simp[z7,hk,ascAt_end hx,this]
theorem vr_step0 (hk:zbJ l 0=zbJ l k) (hx:l[k]?=some x) (h:zbt x=true) (hp:zeS l k=none):zbJ l 0=zbJ l (k+1):=by rw[hk,ascAt_next hx,h,hp];rfl
theorem vr_step (hk:zbJ l 0=zbJ l k) (hx:l[k]?=some x) (h:zbt x=true) {y:RowD} (hp:zeS l k=some y) (hn:¬0<=zw y.ls x.ls):zbJ l 0=zbJ l (k+1):=by
 have:cL y x<0:=by unfold cL;omega
 rw[hk,ascAt_next hx,h,hp];simp[ltP,this]
end
theorem ascB_iff:∀ (l:List RowD) (p:Option RowD),ascB p l=true↔(∀ r∈l,zbt r=true)/\zbF cL l/\(∀ q,p=some q->∀ r∈l,cL q r<0)
 | [],p=>by
  constructor
  · intro _;exact⟨λ_ h=>(by cases h),List.Pairwise.nil,λ_ _ _ h=>(by cases h)⟩
  intro _;rfl
 | r::l,p=>by
  show (zbt r&&(ltP p r&&ascB (some r) l))=true↔_;rw[c8,c8,ascB_iff l (some r)];constructor
  · rintro ⟨h1,h2,h3,h4,h5⟩;refine⟨λy hy=>?_,dS.2 ⟨λy hy=>h5 r rfl y hy,h4⟩,λq hq y hy=>?_⟩
    · rcases dO.1 hy with e | e
      · rw[e];exact h1
      exact h3 y e
    subst hq;have hqr:cL q r<0:=of_decide_eq_true h2;rcases dO.1 hy with e | e
    · rw[e];exact hqr
    exact(cL_cmp.tr q r y).lt1 hqr (by have:=h5 r rfl y e;omega)
  rintro ⟨h1,h2,h3⟩;have h2':=dS.1 h2;refine⟨h1 r c6,?_,λy hy=>h1 y (dC _ hy),h2'.2,λq hq y hy=>by injection hq with hq;subst hq;exact h2'.1 y hy⟩;cases p with
  | none=>rfl
  | some q=>exact decide_eq_true (h3 q rfl r c6)
theorem zaQ {l:List RowD}:z7 l=true↔l.length<=2000/\zc5 l=true/\zbF cL l:=by
 unfold z7;rw[c8,decide_eq_true_eq,rowsB_ok,dK];show _/\ascB none l=true↔_;rw[ascB_iff];constructor
 · rintro ⟨h1,h2,h3,_⟩;exact⟨h1,h2,h3⟩
 rintro ⟨h1,h2,h3⟩;exact⟨h1,h2,h3,λ_ h=>(by cases h)⟩
theorem cmpRow0:zi 0=cL:=by funext a b;rfl
def zed (s:List RowD) (i:Nat):Prop:=∀ j x y,j+1<i->s[j]?=some x->s[j+1]?=some y->cL x y≠0
theorem zed.one (s:List RowD):zed s 1:=λj x y h=>by omega
theorem zed.next {s:List RowD} {i:Nat} {x y:RowD} (h:zed s i) (hi:1<=i) (hx:s[i-1]?=some x) (hy:s[i]?=some y) (hn:¬zw x.ls y.ls=0):zed s (i+1):=λj a b hj ha hb=>by
 rcases dH (j+1) i with e | e
 · exact h j a b e ha hb
 have:j+1=i:=by omega
 subst this;simp only[Nat.add_sub_cancel] at hx;rw[ha] at hx;rw[hb] at hy;injection hx with hx;injection hy with hy;subst hx;subst hy;exact hn
theorem strict_of {s:List RowD} (h:Srt cL s) (hn:zed s s.length):zbF cL s:=by
 induction s with
 | nil=>exact List.Pairwise.nil
 | cons x r ih=>
  have h':=dS.1 h;have hr:zbF cL r:=ih h'.2 (λj a b hj ha hb=>hn (j+1) a b (by simp;omega) (by simpa using ha) (by simpa using hb));refine dS.2 ⟨λy hy=>?_,hr⟩;cases r with
  | nil=>cases hy
  | cons z r=>
   have e1:cL x z<=0:=h'.1 z c6;have e2:cL x z≠0:=hn 0 x z (by simp) rfl rfl;rcases dO.1 hy with e | e
   · rw[e];omega
   exact(cL_cmp.tr x z y).lt1 (by omega) (by have:=(dS.1 hr).1 y e;omega)
section
variable {l:List RowD} {i:Nat} {x y:RowD}
theorem td_rows {n:Nat} (h:zc5 (l.take n)=true) (hn:l.length<=n):zc5 l=true:=by rwa [dE hn] at h
theorem td_twin (h1:¬(2000:Int)<((l.length:Nat):Int)) (h2:zc5 l=true) (hi:1<=i) (hx:(zx (zi 0) l)[i-1]?=some x) (hy:(zx (zi 0) l)[i]?=some y) (e:zw x.ls y.ls=0):[]=rtL l/\6=rtE l:=by
 have hb:ordB l=false:=by
  rcases ek:ordB l with _ | _
  · rfl
  exfalso;have hst:(zx cL l).Pairwise (λa b=>cL a b<0):=by unfold ordB at ek;exact of_decide_eq_true ek
  rw[<-cmpRow0] at hst;obtain ⟨p1,q1⟩:=cZ.1 hx;obtain ⟨p2,q2⟩:=cZ.1 hy;have:=jL.1 hst (i-1) i p1 p2 (by omega);rw[q1,q2] at this;have e':zi 0 x y=zw x.ls y.ls:=rfl;omega
 obtain ⟨a,b⟩:=rt_ok h1 h2;obtain ⟨c,d⟩:=ord_no hb;exact⟨c.trans a,d.trans b⟩
theorem td_good (h1:¬(2000:Int)<((l.length:Nat):Int)) (h2:zc5 l=true) (hn:zed (zx (zi 0) l) i) (hi:(zx (zi 0) l).length<=i):zx (zi 0) l=rtL l/\0=rtE l:=by
 have hst:zbF cL (zx cL l):=by
  rw[cmpRow0] at hn hi;exact strict_of (zap cL_cmp _ l rfl).srt (λj a b hj ha hb=>hn j a b (by omega) ha hb)
 have hb:ordB l=true:=by unfold ordB;exact decide_eq_true hst
 obtain ⟨a,b⟩:=rt_ok h1 h2;rw[<-a,<-b];unfold ordL ordE;rw[hb,cmpRow0];exact⟨rfl,rfl⟩
end
theorem rowsB_snoc' {l:List RowD} {k:Nat} {x:RowD} (hx:l[k]?=some x) (h:zc5 (l.take k)=true) (hr:zbt x=true):zc5 (l.take (k+1))=true:=by
 rw[rowsB_ok] at*;exact all_take_snoc hx h hr
theorem rt_bad' {l:List RowD} {i:Nat} {x:RowD} (hx:l[i]?=some x) (h:zbt x=false):[]=rtL l/\1=rtE l:=rt_bad hx h
def metB:ByteArray:=⟨#[109,101,116,114,105,99]⟩
def keyL (mode:Int) (ns:List ByteArray) (l:List Lbl):List Lbl:=
 if mode=1 then zbl l ns true else if mode=2 then zbl (zbl l ns false) [metB] false else zbl l [metB] false
theorem pickL_mem {l:List Lbl} {ns:List ByteArray} {w:Bool} {x:Lbl} (h:x∈zbl l ns w):x∈l:=(jZ.1 h).1
section
variable {f:RowD->Int×Int} {l:List RowD} {k:Nat} {x:RowD}
end
section
variable {op:ByteArray} {v:Int} {left:Bool} {l:List RowD} {k:Nat} {x:RowD}
end
def keyT (mode:Int) (ns:List ByteArray) (r:RowD):ByteArray:=textB (keyL mode ns r.ls)
def keyTs (mode:Int) (ns:List ByteArray) (l:List RowD):List ByteArray:=l.map (keyT mode ns)
def ndT (mode:Int) (ns:List ByteArray) (l:List RowD):Prop:=(keyTs mode ns l).Nodup
instance (mode:Int) (ns:List ByteArray) (l:List RowD):Decidable (ndT mode ns l):=inferInstanceAs (Decidable (List.Nodup _))
section
variable {op:ByteArray} {mode:Int} {ns:List ByteArray} {a b:List RowD} {k:Nat} {x:RowD}
end
end Lp
