import Derived.Laws.IdiomCopy
import Derived.Lib.AppendZerosOnto
import Derived.Lib.Overlaps
import Derived.Test.YtegbgpbchcjahaaGreatDoorV132
set_option linter.all false
namespace Lp
open Go Go.RowKit
def capV:Value->Nat
 | .slice _ _ c=>c
 | _=>0
def zbQ {w:World} {z:Nat} {T:TypeId} {v:Value} {us:List Value} (h:Own vcs z T w 0 v us):∃ A,v=.slice A us.length (capV v)/\us.length<=capV v/\capV v<=maxLen/\(0<capV v->∃ g r,A=some ⟨g,0,none⟩/\Box w g T (us.flatMap vcs++r)/\(us.flatMap vcs++r).length=capV v*z/\v.ownBlock=some g):=by
 rcases h.1.2 with ⟨rfl,h0⟩ | ⟨g,cap,cur,rfl,hb,hg,hnc,hm,hsz,htake⟩
 · exact⟨none,by rw[h0];rfl,by rw[h0];exact cT _,cT _,λh=>by simp[capV] at h⟩
 refine⟨_,O,hnc,hm,λ_=>⟨g,cur.toList.drop (us.length*z),O,?_,?_,O⟩⟩
 · unfold Box;rw[<-htake,dF];simpa using hg
 rw[<-htake,dF];simpa [capV] using hsz
def add0 (g o k:Nat):(⟨g,o,none⟩:Addr).add k=⟨g,o+k,none⟩:=Addr.add_lit _ _ _
def zct {z:Nat} {g n c a b:Nat} (h:a<c):cut z (.slice (some ⟨g,0,none⟩) n c) a b=.slice (some ⟨g,a*z,none⟩) (b-a) (c-a):=by
 unfold cut;simp only[aA (show ¬c=a by omega),Option.map_some,add0,dS]
section
variable {P:Program} {N:Nat} {C:Ctx} {ty:TypeId} {K:Kd} {H:List Hp}
def aYe {t e:TypeId} {x:Operand} {z j:Nat} {v:Value} {T:TypeId} {xs:List D} (hx:opO K x=some v) (hm:nth H j=some (.sl v z T xs)) (ht:∀ w,(underlying t).run P w=.ok (.slice e) w):Pu P (.call { callee:=.builtin .cap,args:=#[x],argTypes:=#[t] }) ty K H (.v (.int .i64 (capV v:Int))):=
 ⟨λρ w F hk _ hH=>by
  obtain ⟨us,hr,ho⟩:=hH _ (zU hm);obtain ⟨A,hv,_⟩:=zbQ ho;have e1:ev ρ x=_:=hk.opO hx;rw[hv] at e1;exact wS (v:=.int .i64 (capV v)) (w':=w) (by simp[execOp,zao,resolve,invoke,builtin,e1,Builtin.cap_,ht,goInt]) ⟨O,O⟩⟩
def gY {t e:TypeId} {z b j:Nat} {x:Operand} {lo hi:Option Operand} {v:Value} {T:TypeId} {xs:List D} {rl rh:Option Int} (hx:opO K x=some v) (hm:nth H j=some (.sl v z T xs)) (hlo:bndD K lo=some rl) (hhi:bndD K hi=some rh) (ha:Bnd rl 0 0) (hb:Bnd rh xs.length b)
 (ht:∀ w,(underlying t).run P w=.ok (.slice e) w) (hs:∀ w,(Go.sizeOf e).run P w=.ok z w) (hbc:b<=capV v):Pu P (.slice t x lo hi none) ty K H (.v (cut z v 0 b)):=
 ⟨λρ w F hk hF hH=>by
  obtain ⟨us,hr,ho⟩:=hH _ (zU hm);have hul:=hr.len;obtain ⟨A,hv,_⟩:=zbQ ho;exact oV (n:=xs.length) (a:=0) (b:=b) (z:=z) (zo ρ [x]) (opv1 ρ (hk.opO hx)) O O (ha.out (zci hk hlo)) (hb.out (zci hk hhi)) ht hs ⟨A,_,by rw[<-hul];exact hv,hbc⟩ (cT _) ⟨O,O⟩⟩
def zb7 {t e:TypeId} {z a b m j:Nat} {x:Operand} {lo hi:Option Operand} {v:Value} {T:TypeId} {xs:List D} {rl rh:Option Int} (hx:opD K x=some (.v (cut z v 0 m))) (hm:nth H j=some (.sl v z T xs)) (hlo:bndD K lo=some rl) (hhi:bndD K hi=some rh) (ha:Bnd rl 0 a) (hb:Bnd rh m b)
 (ht:∀ w,(underlying t).run P w=.ok (.slice e) w) (hs:∀ w,(Go.sizeOf e).run P w=.ok z w) (hab:a<=b) (hbm:b<=m) (hbc:m<=capV v) (h0:0<m):Pu P (.slice t x lo hi none) ty K H (.v (cut z (cut z v 0 m) a b)):=
 ⟨λρ w F hk hF hH=>by
  obtain ⟨us,hr,ho⟩:=hH _ (zU hm);obtain ⟨A,hv,_,_,hA⟩:=zbQ ho;obtain ⟨g,r,rfl,_⟩:=hA (by omega);have e0:cut z v 0 m=.slice (some ⟨g,0,none⟩) m (capV v):=by rw[hv,zct (by simpa using by omega)];simp[capV]
  exact oV (n:=m) (a:=a) (b:=b) (z:=z) (zo ρ [x]) (opv1 ρ (hk.op hx)) O O (ha.out (zci hk hlo)) (hb.out (zci hk hhi)) ht hs ⟨_,_,e0,by omega⟩ hab ⟨O,O⟩⟩
def oO {us:List Value} {xs:List D} {w:World} {F:Nat->Prop} (hr:RepE w F 1 xs us):(us.flatMap vcs).length=xs.length:=by
 rw[zcQ (z:=1) hr.size,hr.len,vU]
def zd4 {us:List Value} (h:∀ x∈us,(vcs x).length=1) (n:Nat):(us.flatMap vcs).take n=(us.take n).flatMap vcs:=by
 induction us generalizing n with
 | nil=>simp
 | cons y r ih=>
  cases n with
  | zero=>simp
  | succ n=>
   have hy:=h y cR;obtain ⟨c,hc⟩:=List.length_eq_one_iff.1 hy;simp only[jK,vW,hc,jX,dY];rw[ih (λx hx=>h x (cV _ hx))]
def nP {us:List Value} (h:∀ x∈us,(vcs x).length=1) (n:Nat):(us.flatMap vcs).drop n=(us.drop n).flatMap vcs:=by
 induction us generalizing n with
 | nil=>simp
 | cons y r ih=>
  cases n with
  | zero=>simp
  | succ n=>
   have hy:=h y cR;obtain ⟨c,hc⟩:=List.length_eq_one_iff.1 hy;simp only[jK,List.drop_succ_cons,hc,jX,dY];rw[ih (λx hx=>h x (cV _ hx))]
def hO {w:World} {t t' ty e g o dLen dCap sLen sCap:Nat} {a:Addr} {cs cc:List Value} {T:TypeId} (hu:P.underlying t=some (.slice e)) (hs:∀ w,(Go.sizeOf e).run P w=.ok 1 w) (hB:Box w g T cc) (hn:cs.length=Nat.min sLen dLen) (hsrc:∀ j v,cs[j]?=some v->w.cell? (a.add j)=some v)
 (ho:o+cs.length<=cc.length) (h1:∀ v∈cs,v.oneCell'=true):∃ w',(Builtin.copy_ #[t,t'] ty #[.slice (some ⟨g,o,none⟩) dLen dCap,.slice (some a) sLen sCap]).run P w=.ok (goInt cs.length) w'/\Box w' g T (spl cc o cs)/\Upd g (g+1) w w'/\w'.heap.size=w.heap.size:=by
 have hl:=run_loadCells_list (P:=P) w a cs hsrc;obtain ⟨w',h2,h3,h4,h5⟩:=eO P g T cs w cc o 0 hB (by simpa using ho) h1;refine⟨w',?_,by simpa using h3,h4,h5⟩;simp[Builtin.copy_,run_underlying hu,Builtin.lenOf,Builtin.firstCells,hs,<-hn,hl,h2]
def aCs {ρ:Env} {w w':World} {x y:Operand} {t t':TypeId} {u v r:Value} {Kt:Value->World->Prop} (hx:ev ρ x=u) (hy:ev ρ y=v) (hr:(Builtin.copy_ #[t,t'] ty #[u,v]).run P w=.ok r w') (h:Kt r w'):EOp P (.call { callee:=.builtin .copy,args:=#[x,y],argTypes:=#[t,t'] }) ty ρ w Kt:=
 wS (v:=r) (w':=w') (by simp[execOp,zao,resolve,invoke,builtin,hx,hy,hr]) h
def iP {us:List Value} (h:∀ u∈us,One u):∀ c∈us.flatMap vcs,c.oneCell'=true:=λc hc=>by
 obtain ⟨u,hu,hc⟩:=List.mem_flatMap.1 hc;exact h u hu c hc
def mZ {w:World} {g n c:Nat} {T:TypeId} {us:List Value} {r:List Value} (hB:Box w g T (us.flatMap vcs++r)) (hl:(us.flatMap vcs++r).length=c) (hz:∀ x∈us,(vcs x).length=1) (hn:us.length=n) (hc:n<=c) (hm:c<=maxLen):Own vcs 1 T w 0 (.slice (some ⟨g,0,none⟩) n c) us:=by
 have hf:=zcQ (z:=1) hz;refine⟨⟨by rw[hf],.inr ⟨g,c,(us.flatMap vcs++r).toArray,by rw[hn],cT _,hB,by omega,hm,by simpa using hl,?_⟩⟩,hz⟩;rw[<-hf];simp
def Good.row {H:List Hp} {w w':World} {F:Nat->Prop} {i g:Nat} {v v':Value} {T:TypeId} {xs xs':List D} (gd:Good C H w F) (hm:nth H i=some (.sl v 1 T xs)) (hg:v.ownBlock=some g) (hg':v'.ownBlock=some g) (U:Upd g (g+1) w w') (ok:Keep w F w' F->(Hp.sl v' 1 T xs').ok w' F):Good C (H.set i (.sl v' 1 T xs')) w' F/\Keep w F w' F:=
 gd.turn hm (λb hb hn=>U.block b hb (by
  have:g≠b:=λe=>hn (by show v.ownBlock=_;rw[hg,e])
  omega)) U.size U.os U.tape U.output U.drawn (λb e=>.inl (by show v.ownBlock=_;rw[hg];have e':v'.ownBlock=some b:=e;rw[hg'] at e';exact e')) ok
def pS {x y:Operand} {t t' e:TypeId} {i a n:Nat} {v:Value} {T:TypeId} {xs:List D} (hm:nth H i=some (.sl v 1 T xs)) (hn:xs.length=n) (hx:opD K x=some (.v (cut 1 (cut 1 v 0 (n+1)) (a+1) (n+1)))) (hy:opD K y=some (.v (cut 1 (cut 1 v 0 (n+1)) a (n+1))))
 (ht:P.underlying t=some (.slice e)) (hs:∀ w,(Go.sizeOf e).run P w=.ok 1 w) (ha:a<n) (hc:n+1<=capV v):Ef P (.call { callee:=.builtin .copy,args:=#[x,y],argTypes:=#[t,t'] }) ty K H (λd H'=>d=.v (.int .i64 ((n-a:Nat):Int))/\H'=H.set i (.sl (cut 1 v 0 (n+1)) 1 T (xs.take (a+1)++xs.drop a))):=
 ⟨λC ρ w F hk gd=>by
  obtain ⟨us,hr,ho⟩:=gd.h.ok _ (zU hm);have hul:=hr.len;obtain ⟨A,hv,_,hmx,hA⟩:=zbQ ho;obtain ⟨g,r,rfl,hB,hl,hgb⟩:=hA (by omega);generalize hcv:capV v=c at*;have hf:=oO hr;have e0:cut 1 v 0 (n+1)=.slice (some ⟨g,0,none⟩) (n+1) c:=by rw[hv,zct (by omega)];simp
  have e1:cut 1 (cut 1 v 0 (n+1)) (a+1) (n+1)=.slice (some ⟨g,a+1,none⟩) (n-a) (c-(a+1)):=by rw[e0,zct (by omega)];simp[Nat.add_sub_add_right]
  have e2:cut 1 (cut 1 v 0 (n+1)) a (n+1)=.slice (some ⟨g,a,none⟩) (n+1-a) (c-a):=by rw[e0,zct (by omega)];simp
  have hx':ev ρ x=_:=hk.op hx;have hy':ev ρ y=_:=hk.op hy;rw[e1] at hx';rw[e2] at hy';have hdl:((us.flatMap vcs).drop a).length=n-a:=by rw[c7,hf,hn]
  obtain ⟨w',hrun,hB',U,hsz⟩:=hO (P:=P) (t:=t) (t':=t') (ty:=ty) (dLen:=n-a) (dCap:=c-(a+1)) (sLen:=n+1-a) (sCap:=c-a) (a:=⟨g,a,none⟩) (o:=a+1) (cs:=(us.flatMap vcs).drop a) ht hs hB (by rw[hdl];simp only[Nat.min_def];split<;>omega)
   (λj u hj=>by
    rw[add0];have:=hB.at_.2 (a+j) u (by rw[uH (by rw[hf];have:=(cQ.1 hj).1;rw[hdl] at this;omega)];rwa [j8] at hj);simpa using this) (by rw[hdl,hl];omega) (λu hu=>iP hr.one u (vB hu))
  refine aCs hx' hy' hrun ?_;have hz:=hr.size;have hsp:spl (us.flatMap vcs++r) (a+1) ((us.flatMap vcs).drop a)=(us.take (a+1)++us.drop a).flatMap vcs++r.drop 1:=by
   have hd:(us.flatMap vcs++r).drop (a+1+(n-a))=r.drop 1:=(by rw[wK,dX (by rw[hf];omega),hf,dY,show a+1+(n-a)-xs.length=1 by omega]);unfold spl;rw[hdl,hd,jH (by rw[hf];omega),zd4 hz,nP hz,jW]
  rw[hsp] at hB';have hr2:RepE w F 1 (xs.take (a+1)++xs.drop a) (us.take (a+1)++us.drop a):=(hr.take _).app (hr.drop _);have hl2:(us.take (a+1)++us.drop a).length=n+1:=by simp only[cO,cY,c7];omega
  have key:=gd.row (v':=cut 1 v 0 (n+1)) (xs':=xs.take (a+1)++xs.drop a) hm hgb (by rw[e0];rfl) U (λkp=>⟨_,hr2.keep kp,by
   rw[e0];refine mZ hB' ?_ hr2.size hl2 hc hmx;rw[<-hsp,zbW _ _ _ (by rw[hdl,hl];omega),hl,vU]⟩)
  exact⟨F,_,_,⟨O,O⟩,by show _=_;rw[hdl];rfl,key.1,key.2⟩⟩
def gU {x y:Operand} {t t' e:TypeId} {i a b:Nat} {v:Value} {T:TypeId} {xs ys:List D} {d:D} (hm:nth H i=some (.sl v 1 T xs)) (hx:opD K x=some (.v (cut 1 v a b))) (hy:opD K y=some d) (hsrc:SrcD H 1 d ys) (ht:P.underlying t=some (.slice e)) (hs:∀ w,(Go.sizeOf e).run P w=.ok 1 w)
 (h0:0<ys.length) (hab:a+ys.length<=b) (hb:b<=xs.length) (ho':ys.length<=b-a):Ef P (.call { callee:=.builtin .copy,args:=#[x,y],argTypes:=#[t,t'] }) ty K H (λd H'=>d=.v (.int .i64 ((ys.length:Nat):Int))/\H'=H.set i (.sl v 1 T (xs.take a++ys++xs.drop (a+ys.length)))):=
 ⟨λC ρ w F hk gd=>by
  obtain ⟨us,hr,ho⟩:=gd.h.ok _ (zU hm);have hul:=hr.len;obtain ⟨A,hv,hle,hmx,hA⟩:=zbQ ho;obtain ⟨g,r,rfl,hB,hl,hgb⟩:=hA (by omega);obtain ⟨vs,hvs,hsl⟩:=hsrc.out w F _ gd.flt gd.h.ok (hk.op hy);generalize hcv:capV v=c at*;have hf:=oO hr;have hfv:=oO hvs;have hvl:=hvs.len;have hx':ev ρ x=_:=hk.op hx;rw[hv,zct (by omega)] at hx';obtain ⟨A',c',e1,e2,e3,e4,_⟩:=hsl;simp only[cN] at e1 e2;obtain ⟨b',o',rfl,_,_,hat⟩:=e4 (by intro e;simp at e;subst e;simp at hvl;omega);have hcell:∀ j u,(vs.flatMap vcs)[j]?=some u->w.cell? ((⟨b',o',none⟩:Addr).add j)=some u:=by
   intro j u hj;rw[add0];have hz:=hvs.size;have hjl:j<vs.length:=(by have:=(cQ.1 hj).1;rw[hfv,<-hvl] at this;exact this);obtain ⟨q,hq⟩:∃ q,vs[j]?=some q:=⟨_,dL hjl⟩;obtain ⟨c,hc⟩:=List.length_eq_one_iff.1 (hz q (dA hq));have hqu:vcs q=[u]:=by
    have:=zdp (cs:=vcs) hz j q hq 0 c (by rw[hc];rfl);rw[vU,j5,hj] at this;injection this with this;rw[hc,this]
   have:=(hat j (vcs q) (by rw[d9,hq];rfl)).2 0 u (by rw[hqu];rfl);simpa using this
  obtain ⟨w',hrun,hB',U,hsz⟩:=hO (P:=P) (t:=t) (t':=t') (ty:=ty) (dLen:=b-a) (dCap:=c-a) (sLen:=vs.length) (sCap:=c') (a:=⟨b',o',none⟩) (o:=a*1) (cs:=vs.flatMap vcs) ht hs hB (by rw[hfv,hvl];simp only[Nat.min_def];split<;>omega) hcell (by rw[hfv,hl];omega) (iP hvs.one);refine aCs hx' (e1 ▸ O) hrun ?_;have hz:=hr.size;have hsp:spl (us.flatMap vcs++r) (a*1) (vs.flatMap vcs)=(us.take a++vs++us.drop (a+ys.length)).flatMap vcs++r:=by
   unfold spl;rw[hfv,vU,jH (by rw[hf];omega),zd4 hz,vK (by rw[hf];omega),nP hz,jW,jW,cP,cP,cP]
  rw[hsp] at hB';have hl2:(us.take a++vs++us.drop (a+ys.length)).length=us.length:=by simp only[cO,cY,c7];omega
  have key:=gd.row (v':=v) (xs':=xs.take a++ys++xs.drop (a+ys.length)) hm hgb hgb U (λkp=>⟨_,(((hr.take _).keep kp).app (hvs.keep kp)).app ((hr.drop _).keep kp),by
   rw[hv];have hr2:=((hr.take a).app hvs).app (hr.drop (a+ys.length));refine mZ hB' ?_ hr2.size hl2 hle hmx;rw[<-hsp,zbW _ _ _ (by rw[hfv,hl];omega),hl,vU]⟩)
  exact⟨F,_,_,⟨O,O⟩,by show _=_;rw[hfv];rfl,key.1,key.2⟩⟩
def kY {x y:Operand} {t tn:TypeId} {j a k:Nat} {v zv:Value} {T:TypeId} {xs:List D} {d:D} {kn kq:IntKind} {m:Int} {by_:Nat} (hm:nth H j=some (.sl v 1 T xs)) (hx:opD K x=some (.v (cut 1 v 0 a))) (hy:opD K y=some (.v (.int kq m))) (hk':m=(k:Int)) (ht:P.underlying t=some (.slice T)) (htn:P.underlying tn=some (.int kn))
 (hi':∃ i,P.info? T=some i/\i.zero=some zv/\i.size=1/\i.bytes=by_) (hz1:zv.oneCell'=true) (hd:Cv (.v zv) d) (ha:a<=xs.length) (hc:capV v<a+k) (h0:0<capV v) (hk0:0<k) (hb:(a+k)*by_<=140737488355328) (hl:a+k<=maxLen):
 Ef P (.call { callee:=.builtin .append,args:=#[x,y],argTypes:=#[t,tn] }) ty K H (λd' H'=>∃ v',d'=.ov v'/\H'=.sl v' 1 T (xs.take a++List.replicate k d)::H):=
 ⟨λC ρ w F hk gd=>by
  obtain ⟨us,hr,ho⟩:=gd.h.ok _ (zU hm);have hul:=hr.len;obtain ⟨A,hv,hle,hmx,hA⟩:=zbQ ho;obtain ⟨g,r,rfl,hB,hlb,hgb⟩:=hA h0;obtain ⟨i,q1,q2,q3,q4⟩:=hi';generalize hcv:capV v=c at*;have hf:=oO hr;have hz:=hr.size;have hx':ev ρ x=_:=hk.op hx;have hy':ev ρ y=_:=hk.op hy;rw[hv,zct (by omega)] at hx';subst hk';have hold:(Builtin.firstCells i.size (a-0) (.slice (some ⟨g,0*1,none⟩) (a-0) (c-0))).run P w.drew=.ok ((us.take a).flatMap vcs).toArray w.drew:=by
   rw[q3];refine run_firstCells_some w.drew 1 (a-0) ⟨g,0*1,none⟩ (a-0) (c-0) ((us.take a).flatMap vcs) (by rw[<-zd4 hz,cY,hf];omega) (λj u hj=>?_);rw[add0,vY,dS];rw[<-zd4 hz,j0] at hj;split at hj
   · have h1:=(cQ.1 hj).1;have:=hB.at_.2 j u (by rw[uH h1];exact hj);have e:w.drew.cell? ⟨g,j,none⟩=w.cell? ⟨g,j,none⟩:=rfl;rw[e];simpa using this
   cases hj
  have hu63:((a-0+k:Nat):Int)<=9223372036854775807:=by unfold maxLen at hl;omega
  have hk48:k*i.bytes<=281474976710656:=by
   rw[q4];have:k*by_<=(a+k)*by_:=jP _ (by omega);omega
  have hrun:=Lib.run_append_grow_zeros (P:=P) w t tn ty T i zv kq kn ht htn q1 q2 (some ⟨g,0*1,none⟩) (a-0) (c-0) _ hold k hk0 (by omega) (by omega) hu63 hk48 (by rw[q4];exact growslice_fits (by omega) (by simpa using hb));have hn:New w (w.drew.alloc (.cells (((us.take a).flatMap vcs).toArray++Builtin.zeroCells zv.cells k++Builtin.zeroCells zv.cells (grownCap w (a-0+k) (c-0) T-(a-0+k))) T)) w.heap.size T (((us.take a).flatMap vcs).toArray++Builtin.zeroCells zv.cells k++Builtin.zeroCells zv.cells (grownCap w (a-0+k) (c-0) T-(a-0+k))).toList:=by
   have n0:=wT w.drew T (((us.take a).flatMap vcs).toArray++Builtin.zeroCells zv.cells k++Builtin.zeroCells zv.cells (grownCap w (a-0+k) (c-0) T-(a-0+k)));exact⟨O,n0.box,(Ext.drew w).trans n0.ext,n0.size⟩
  have hzc:∀ n,(Builtin.zeroCells zv.cells n).toList=List.replicate n zv:=by
   intro n;rw[zdN hz1];unfold Builtin.zeroCells;have hf:(λi=>(#[zv]:Array Value)[i % (#[zv]:Array Value).size]!)=λ_=>zv:=by
    funext i
    have:i % (#[zv]:Array Value).size=0:=Nat.mod_one i;rw[this];rfl
   rw[hf,wJ,List.map_const'];simp
  refine wS (by simp only[execOp,zao,resolve,invoke,builtin,Sem.run_bind,Sem.run_pure,Result.andThen_ok,List.map_toArray,jS,List.map_nil,hx',hy',hrun];rfl) ?_;have hG:=grownCap_ge w (a-0+k) (c-0) T;have hG2:=grownCap_le_maxLen w (a-0+k) (c-0) T (by simpa using hl);have hrep:∀ {w':World} n,RepE w' F 1 (List.replicate n d) (List.replicate n zv):=λn=>RepE.rep n (hd.out _ _ _ rfl) (One.one hz1) (by rw[zdN hz1];rfl)
  have hrz:∀ n:Nat,(List.replicate n zv).flatMap vcs=List.replicate n zv:=by
   intro n;induction n with
   | zero=>rfl
   | succ n ih=>rw[vG,jK,ih,aHp hz1];rfl
  have hr2:=(hr.take a).app (hrep (w':=w) k);have hl2:(us.take a++List.replicate k zv).length=a-0+k:=by rw[cO,cY,uC];omega
  refine⟨F,_,_,⟨_,O,O⟩,⟨O,O⟩,gd.born hn ⟨us.take a++List.replicate k zv,hr2.keep (Keep.ext hn.ext),?_⟩ (λb e=>by cases e;rfl),Keep.ext hn.ext⟩;have hbx:=hn.box;have e:(((us.take a).flatMap vcs).toArray++Builtin.zeroCells zv.cells k++Builtin.zeroCells zv.cells (grownCap w (a-0+k) (c-0) T-(a-0+k))).toList=(us.take a++List.replicate k zv).flatMap vcs++List.replicate (grownCap w (a-0+k) (c-0) T-(a-0+k)) zv:=by
   rw[vX,vX,hzc,hzc,jW,hrz]
  rw[e] at hbx;refine mZ hbx ?_ hr2.size hl2 hG hG2;rw[cO,jW,hrz,cO,<-zd4 hz,cY,hf,uC,uC];omega⟩
def Box.shape {w:World} {g:Nat} {T:TypeId} {cs:List Value} (h:Box w g T cs):w.shape? g=some (T,cs.length):=by
 unfold Box at h;unfold World.shape?;rw[h];simp
end
end Lp
set_option maxHeartbeats 4000000
set_option maxRecDepth 100000
namespace Lp
open Go Go.RowKit Go.Proofs Tryz
def aIy:IzP prog 32 (.slice none 0 0) 1 24:=zdf (by kernel_rfl)
def zfr:Tryz.prog.underlying 178=some (.slice 32):=by kernel_rfl
def aH8 {z a b:Nat} {v:Value} (h:v.oneCell'=true):(cut z v a b).oneCell'=true:=by
 cases v<;>first | exact h | rfl
def aDu {ty:TypeId} {K:Kd} {H:List Hp} {x y:Operand} {ats:Array TypeId} {i j a b m:Nat} {u v:Value} {T T':TypeId} {xs ys:List D} (hx:opO K x=some u) (hi:nth H i=some (.sl u 1 T' ys)) (hy:opD K y=some (.v (cut 1 (cut 1 v 0 m) a b))) (hj:nth H j=some (.sl v 1 T xs)) (hij:Nat.beq i j=false) (hm:m<=capV v) (ha:a<m) (hl:0<ys.length)
 (hA:H.Pairwise zd9):Pu prog (.call { callee:=.value (.func 297),args:=#[x,y],argTypes:=ats }) ty K H (dB false):=
 ⟨λρ w F hk _ hH=>by
  obtain ⟨us,hr,ho⟩:=hH _ (zU hi);obtain ⟨vs,hr',ho'⟩:=hH _ (zU hj);have h1:=ho.len;rw[hr.len] at h1;obtain ⟨A,hu,hle,_,hB⟩:=zbQ ho;rw[hr.len] at hu hle;obtain ⟨g,r,rfl,hBx,_,hg⟩:=hB (by omega);obtain ⟨A',hv,_,_,hB'⟩:=zbQ ho';obtain ⟨g',r',rfl,hBx',hl',hg'⟩:=hB' (by omega);have hne:g≠g':=by
   intro e;have hi':H[i]?=_:=(zaH H i).symm.trans hi;have hj':H[j]?=_:=(zaH H j).symm.trans hj;exact iH (λ_ _=>zd9.symm) hA hi' hj' (λe=>by rw[e,jT] at hij;cases hij) g hg (by show v.ownBlock=_;rw[hg',e])
  have hx':ev ρ x=_:=hk.opO hx;have hy':ev ρ y=_:=hk.op hy;generalize hcv:capV v=c at*;rw[hu] at hx';have e0:cut 1 v 0 m=vS g' m c:=by rw[hv,zct (by omega)];simp
  rw[e0,zct (by omega)] at hy';have hrun:(callFunc 297 #[ev ρ x,ev ρ y]).run prog w=.ok (.value (.bool false)) w:=by
   rw[hx',hy',run_callFunc_extern func297 (by kernel_rfl) (by kernel_rfl) (by kernel_rfl) (e:=Extern.SlicesOverlaps.overlaps #[178,178] #[4]) (by kernel_rfl)];rw[Lib.run_overlaps_apart w 178 4 32 (show Tryz.prog.underlying 178=some (.slice 32) by kernel_rfl) 1 bR ⟨g,0,none⟩ ⟨g',a*1,none⟩ _ _ _ _ hne _ _ _ _ hBx.shape hBx'.shape (by omega) (hBx.frozen 0) (hBx.frozen _)];rfl
  have e2:ev ρ (.func 297)=.func (.func 297) #[] #[]:=rfl;exact wS (v:=.bool false) (w':=w) (by simp[execOp,zao,resolve,e2,Deferred.ofValue,invoke,hrun]) ⟨O,O⟩⟩
section
variable {P:Program} {fn:Func} {C:Ctx} {κ:Kc} {K:Kd} {H:List Hp} {tk:Tk}
def T.ov1 (t:Nat) {v:Value} (ht:zI K t=some (.ov v)) (k:v.oneCell'=true->T P fn C tk κ K H):T P fn C tk κ K H:=T.fact (λw F ρ hk g=>(hk t _ ht).2) k
def T.cap (j:Nat) {v:Value} {z:Nat} {Ty:TypeId} {xs:List D} (hm:nth H j=some (.sl v z Ty xs)) (k:xs.length<=capV v->capV v<=maxLen->T P fn C tk κ K H):T P fn C tk κ K H:=
 T.fact (φ:=xs.length<=capV v/\capV v<=maxLen) (λw F ρ _ g=>by
  obtain ⟨us,hr,ho⟩:=g.h.ok _ (zU hm);obtain ⟨A,_,h1,h2,_⟩:=zbQ ho;rw[hr.len] at h1;exact⟨h1,h2⟩) λh=>k h.1 h.2
def T.apart (k:H.Pairwise zd9->T P fn C tk κ K H):T P fn C tk κ K H:=T.fact (λ_ _ _ _ g=>g.h.apart) k
end
def zfx {xs:List D} {y:D} {i:Nat} (h:i=xs.length):xs++[y]=xs.take i++y::xs.drop i:=by
 subst h;simp
def zdL {xs:List D} {y:D} {i:Nat} (h:i<xs.length):(xs.take (i+1)++xs.drop i).take i++[y]++(xs.take (i+1)++xs.drop i).drop (i+[y].length)=xs.take i++y::xs.drop i:=by
 rw[jH (by rw[cY];omega),vN,uO (by omega),show [y].length=1 from rfl,wK,dX (by rw[cY];omega),cY,show i+1-min (i+1) xs.length=0 by omega];simp
def zeL {xs:List D} {y z:D} {i:Nat} (h:i<xs.length):((xs.take i++List.replicate (xs.length+1-i) z).take i++[y]++(xs.take i++List.replicate (xs.length+1-i) z).drop (i+[y].length)).take (i+1)++((xs.take xs.length).drop i)++((xs.take i++List.replicate (xs.length+1-i) z).take i++[y]++(xs.take i++List.replicate (xs.length+1-i) z).drop (i+[y].length)).drop (i+1+((xs.take xs.length).drop i).length)=xs.take i++y::xs.drop i:=by
 have h1:(xs.take i++List.replicate (xs.length+1-i) z).take i=xs.take i:=by rw[jH (by rw[cY];omega),vN,Nat.min_self]
 have hl:(xs.take i++[y]).length=i+1:=by simp;omega
 generalize hD:(xs.take i++List.replicate (xs.length+1-i) z).drop (i+[y].length)=D;have hDl:D.length=xs.length-i:=by rw[<-hD,c7,cO,cY,uC];show _-(i+1)=_;omega
 rw[h1,wQ hl,dJ];have hd:(xs.take i++[y]++D).drop (i+1+(xs.drop i).length)=[]:=dX (by rw[cO,hl,hDl,c7];omega);rw[hd];simp
def aKm (v u:Value) (xs:List D) (y:D) (i:Nat) (hi:i<=xs.length) (hl:xs.length<=1000000):
 CD prog 263 [.sl v 1 32 (xs),.sl u 1 32 ([y])] [.ov v,dN i,.ov u] (λr H'=>∃ v',r=.ov v'/\H'=[.sl v' 1 32 (xs.take i++y::xs.drop i)]):=by
 refine tZ func263 O O (λC=>?_);refine T.ov1 0 O (λho1=>?_);refine g' 9 O (tP O (zad (a:=i) (b:=xs.length) (j:=0) O O O O (by first | rfl | (show _=_;omega) | (show _=_;simp only[la,lc,ln,lm,lt',ld,ls,lr];omega)) (by first | rfl | (show _=_;omega) | (show _=_;simp only[la,lc,ln,lm,lt',ld,ls,lr];omega)) aW bR (by omega) (by first | rfl | omega | (simp only[la,lc,ln,lm,lt',ld,ls,lr];omega))) (g' 5 O (tP O (zK (n:=1) (j:=1) O O aW (by first | rfl | omega | (simp only[la,lc,ln,lm,lt',ld,ls,lr];omega))) (g' 10 O ?_))));refine tD O (λhc1=>?_) (λhc1=>?_)
 · exfalso;omega
 refine g' 5 O (tP O (zK (n:=xs.length) (j:=0) O O aW (by first | rfl | omega | (simp only[la,lc,ln,lm,lt',ld,ls,lr];omega))) (g' 11 O ?_));refine tD O (λhc2=>?_) (λhc2=>?_)
 · have hi2:i=xs.length:=(by omega);refine g' 4 O (tE O (gH (i:=0) O O O (mF (j:=1) O O) zfr aIy O O (by unfold maxLen;show _+1<=_;omega) (by show (_+1)*_<=_;omega)) ?_);rintro _ _ ⟨v3,rfl,rfl⟩;refine g' 5 O (mX [.sl v3 1 32 (xs.take i++y::xs.drop i),.sl u 1 32 ([y])] (by rw[show xs++[y]=xs.take i++y::xs.drop i from by first | exact zfx hi2 | exact zeL hi3 | exact zdL hi3]<;>rfl) ?_);exact tR O (mO 1 O) ⟨v3,O,O⟩
 have hi3:i<xs.length:=by omega
 refine g' 7 O (tP O (zq (c:=((xs.length+1:Nat):Int)) O O (zh (by omega) (by omega))) (g' 1 O ?_));refine T.cap 0 O (λhc1 hc2=>?_);refine tP O (aYe (j:=0) O O aW) (g' 3 O ?_);refine tD O (λhc4=>?_) (λhc4=>?_)
 · refine g' 4 O (tP O (zad (a:=0) (b:=i) (j:=0) O O O O (by first | rfl | (show _=_;omega) | (show _=_;simp only[la,lc,ln,lm,lt',ld,ls,lr];omega)) (by first | rfl | (show _=_;omega) | (show _=_;simp only[la,lc,ln,lm,lt',ld,ls,lr];omega)) aW bR (by omega) (by first | rfl | omega | (simp only[la,lc,ln,lm,lt',ld,ls,lr];omega))) (g' 2 O (tP O (zq (c:=((xs.length+1:Nat):Int)) O O (zh (by omega) (by omega))) (g' 1 O (tP O (zR (c:=(((xs.length+1)-i:Nat):Int)) O O (zh (by omega) (by omega))) (tE O (kY (j:=0) (k:=xs.length+1-i) O O O (by first | rfl | omega) zfr (show Tryz.prog.underlying 3=some (.int .i64) by kernel_rfl) aIy O w5 (by omega) (by omega) (by omega) (by omega) (by omega) (by unfold maxLen;omega)) ?_))))));rintro _ _ ⟨v5,rfl,rfl⟩;refine g' 7 O (tP O (zad (a:=i) (b:=xs.length+1) (j:=0) O O O O (by first | rfl | (show _=_;omega) | (show _=_;simp only[la,lc,ln,lm,lt',ld,ls,lr];omega)) (by first | rfl | (show _=_;omega) | (show _=_;simp only[la,lc,ln,lm,lt',ld,ls,lr];omega)) aW bR (by omega) (by first | rfl | omega | (simp only[la,lc,ln,lm,lt',ld,ls,lr];omega))) (g' 1 O (tE O (gU (i:=0) (a:=i) (b:=xs.length+1) O O O (mF (j:=2) O O) zfr bR Nat.zero_lt_one (by first | rfl | omega | (simp only[la,lc,ln,lm,lt',ld,ls,lr];omega)) (by first | rfl | omega | (simp only[la,lc,ln,lm,lt',ld,ls,lr];omega)) (by first | rfl | omega | (simp only[la,lc,ln,lm,lt',ld,ls,lr];omega))) ?_)));rintro _ _ ⟨rfl,rfl⟩;refine g' 3 O (T.keep [0,1,2,6,7,8,9,10,11,12,13,14,15,16,18,19,20,21,22,26,27,28,29,30,31,32,33,34,35,36,37,38,39,40,41,42,43,44,45] O ?_);refine tDr 8 [(46,.ov v5,none),(47,dN i,none),(48,dI 1,none),(49,dN (i+1),none),(50,.v (cut 1 v5 (i+1) (xs.length+1)),none),(51,.ov v,none),(52,dN i,none),(53,.v (cut 1 v i xs.length),none)] [.sl v5 1 32 ((xs.take i++List.replicate (xs.length+1-i) (D.v (.slice none 0 0))).take i++[y]++(xs.take i++List.replicate (xs.length+1-i) (D.v (.slice none 0 0))).drop (i+([y]).length)),.sl v 1 32 (xs),.sl u 1 32 ([y])] (Hn:=[.sl v5 1 32 ((xs.take i++List.replicate (xs.length+1-i) (D.v (.slice none 0 0))).take i++[y]++(xs.take i++List.replicate (xs.length+1-i) (D.v (.slice none 0 0))).drop (i+([y]).length)),.sl v 1 32 (xs),.sl u 1 32 ([y])]) mixed O O O O w8 O ⟨sa_p O O O (zb O),sa_p O O O (zb O),sa_p O O O (zb O),sa_p O O O (zq (c:=((i+1:Nat):Int)) O O (zh (by omega) (by omega))),sa_p O O O (zad (a:=i+1) (b:=xs.length+1) (j:=0) O O O O (by first | rfl | (show _=_;omega) | (show _=_;simp only[la,lc,ln,lm,lt',ld,ls,lr];omega)) (by first | rfl | (show _=_;omega) | (show _=_;simp only[la,lc,ln,lm,lt',ld,ls,lr];omega)) aW bR (by omega) (by first | rfl | omega | (simp only[la,lc,ln,lm,lt',ld,ls,lr];omega))),sa_p O O O (zb O),sa_p O O O (zb O),sa_p O O O (zad (a:=i) (b:=xs.length) (j:=1) O O O O (by first | rfl | (show _=_;omega) | (show _=_;simp only[la,lc,ln,lm,lt',ld,ls,lr];omega)) (by first | rfl | (show _=_;omega) | (show _=_;simp only[la,lc,ln,lm,lt',ld,ls,lr];omega)) aW bR (by omega) (by first | rfl | omega | (simp only[la,lc,ln,lm,lt',ld,ls,lr];omega))),trivial⟩ ?_;refine tK O (tE O (gU (i:=0) (a:=i+1) (b:=xs.length+1) O O O (mG (j:=1) O (by omega) (by omega)) zfr bR (by show 0<_;simp only[la,lc,ln,lm,lt',ld,ls,lr];omega) (by first | rfl | omega | (simp only[la,lc,ln,lm,lt',ld,ls,lr];omega)) (by first | rfl | omega | (simp only[la,lc,ln,lm,lt',ld,ls,lr];omega)) (by first | rfl | omega | (simp only[la,lc,ln,lm,lt',ld,ls,lr];omega))) ?_);rintro _ _ ⟨rfl,rfl⟩;refine g' 10 O (mX [.sl v5 1 32 (xs.take i++y::xs.drop i),.sl v 1 32 (xs),.sl u 1 32 ([y])] (by rw[show ((xs.take i++List.replicate (xs.length+1-i) (D.v (.slice none 0 0))).take i++[y]++(xs.take i++List.replicate (xs.length+1-i) (D.v (.slice none 0 0))).drop (i+([y]).length)).take (i+1)++((xs.take xs.length).drop i)++((xs.take i++List.replicate (xs.length+1-i) (D.v (.slice none 0 0))).take i++[y]++(xs.take i++List.replicate (xs.length+1-i) (D.v (.slice none 0 0))).drop (i+([y]).length)).drop ((i+1)+((xs.take xs.length).drop i).length)=xs.take i++y::xs.drop i from by first | exact zfx hi2 | exact zeL hi3 | exact zdL hi3]<;>rfl) ?_);exact tR O (mO 1 O) ⟨v5,O,O⟩
 refine g' 7 O (tP O (zq (c:=((xs.length+1:Nat):Int)) O O (zh (by omega) (by omega))) (tP O (gY (b:=xs.length+1) (j:=0) O O O O (by first | rfl | (show _=_;omega) | (show _=_;simp only[la,lc,ln,lm,lt',ld,ls,lr];omega)) (by first | rfl | (show _=_;omega) | (show _=_;simp only[la,lc,ln,lm,lt',ld,ls,lr];omega)) aW bR (by omega)) (g' 10 O (tP O (zq (c:=((i+1:Nat):Int)) O O (zh (by omega) (by omega))) (tP O (zb7 (a:=i+1) (b:=xs.length+1) (j:=0) O O O O (by first | rfl | (show _=_;omega) | (show _=_;simp only[la,lc,ln,lm,lt',ld,ls,lr];omega)) (by first | rfl | (show _=_;omega) | (show _=_;simp only[la,lc,ln,lm,lt',ld,ls,lr];omega)) aW bR (by omega) (by omega) (by omega) (by omega)) ?_)))));refine T.apart (λhap=>?_);refine tP O (aDu (i:=1) (j:=0) O O O O O (by omega) (by omega) (Nat.zero_lt_one) hap) (g' 5 O (T.keep [0,1,2,6,7,8,10,11,12,13,14,15,16,18,19,20,21,22,26,27,28,29,30,31,56,57,58,59,60,61,62,63,64,65,66,67,68] O ?_));refine tDr 8 [(69,.v (cut 1 v 0 (xs.length+1)),none),(70,dN i,none),(71,dI 1,none),(72,dN (i+1),none),(73,.v (cut 1 (cut 1 v 0 (xs.length+1)) (i+1) (xs.length+1)),none),(74,.v (cut 1 v 0 (xs.length+1)),none),(75,dN i,none),(76,.v (cut 1 (cut 1 v 0 (xs.length+1)) i (xs.length+1)),none)] [.sl v 1 32 (xs),.sl u 1 32 ([y])] (Hn:=[.sl v 1 32 (xs),.sl u 1 32 ([y])]) mixed O O O O w8 O ⟨sa_p O O O (zb O),sa_p O O O (zb O),sa_p O O O (zb O),sa_p O O O (zq (c:=((i+1:Nat):Int)) O O (zh (by omega) (by omega))),sa_p O O O (zb7 (a:=i+1) (b:=xs.length+1) (j:=0) O O O O (by first | rfl | (show _=_;omega) | (show _=_;simp only[la,lc,ln,lm,lt',ld,ls,lr];omega)) (by first | rfl | (show _=_;omega) | (show _=_;simp only[la,lc,ln,lm,lt',ld,ls,lr];omega)) aW bR (by omega) (by omega) (by omega) (by omega)),sa_p O O O (zb O),sa_p O O O (zb O),sa_p O O O (zb7 (a:=i) (b:=xs.length+1) (j:=0) O O O O (by first | rfl | (show _=_;omega) | (show _=_;simp only[la,lc,ln,lm,lt',ld,ls,lr];omega)) (by first | rfl | (show _=_;omega) | (show _=_;simp only[la,lc,ln,lm,lt',ld,ls,lr];omega)) aW bR (by omega) (by omega) (by omega) (by omega)),trivial⟩ ?_;refine tK O (tE O (pS (i:=0) (a:=i) (n:=xs.length) O O O O zfr bR (by omega) (by omega)) ?_);rintro _ _ ⟨rfl,rfl⟩;refine g' 6 O (tP O (zad (a:=i) (b:=xs.length+1) (j:=0) O O O O (by first | rfl | (show _=_;omega) | (show _=_;simp only[la,lc,ln,lm,lt',ld,ls,lr];omega)) (by first | rfl | (show _=_;omega) | (show _=_;simp only[la,lc,ln,lm,lt',ld,ls,lr];omega)) aW bR (by omega) (by first | rfl | omega | (simp only[la,lc,ln,lm,lt',ld,ls,lr];omega))) (g' 1 O (tE O (gU (i:=0) (a:=i) (b:=xs.length+1) O O O (mF (j:=1) O O) zfr bR Nat.zero_lt_one (by first | rfl | omega | (simp only[la,lc,ln,lm,lt',ld,ls,lr];omega)) (by first | rfl | omega | (simp only[la,lc,ln,lm,lt',ld,ls,lr];omega)) (by first | rfl | omega | (simp only[la,lc,ln,lm,lt',ld,ls,lr];omega))) ?_)));rintro _ _ ⟨rfl,rfl⟩;refine g' 10 O (mX [.sl (cut 1 v 0 (xs.length+1)) 1 32 (xs.take i++y::xs.drop i),.sl u 1 32 ([y])] (by rw[show (xs.take (i+1)++xs.drop i).take i++[y]++(xs.take (i+1)++xs.drop i).drop (i+([y]).length)=xs.take i++y::xs.drop i from by first | exact zfx hi2 | exact zeL hi3 | exact zdL hi3]<;>rfl) ?_);exact tRs O results263 (.cons (zc (za O) (Cv.ov (aH8 ho1))) .nil) O (mO 1 O) ⟨(cut 1 v 0 (xs.length+1)),O,O⟩
end Lp
namespace Lp
open Go Go.RowKit Go.Proofs Tryz
variable {k:Nat}
def aFl {α:Type} {G:List α} {x:α} (hx:G[k]?=some x):G.Perm (x::G.eraseIdx k):=by
 obtain ⟨hk,e⟩:=cQ.1 hx;have h:G=G.take k++x::G.drop (k+1):=by rw[<-e,wG,dF]
 rw[List.eraseIdx_eq_take_drop_succ];exact(List.Perm.of_eq h).trans vC
def aB4 {α:Type} {h:α->Hp} {A:List Hp} {G:List α} {x:α} (hx:G[k]?=some x):HSub (A++G.map h) (h x::A++(G.eraseIdx k).map h):=by
 have hp:=(aFl hx).map h;rw[jS] at hp;exact mA ((hp.append_left A).trans vC)
def zgG {α:Type} {h:α->Hp} {A:List Hp} {G:List α} {x y:α} (hx:G[k]?=some x):HSub (h y::A++(G.eraseIdx k).map h) (A++(G.set k y).map h):=by
 obtain ⟨hk,e⟩:=cQ.1 hx;have hp:=(aFl (show (G.set k y)[k]?=some y from by rw[List.getElem?_set_self hk])).map h;rw[List.eraseIdx_set_eq,jS] at hp;exact mA (List.perm_middle.symm.trans (hp.symm.append_left A))
def oY {α:Type} {G:List α} {x:α} (hx:G[k]?=some x):G.set k x=G:=by
 obtain ⟨hk,e⟩:=cQ.1 hx;rw[<-e];exact List.set_getElem_self hk
abbrev RH:Kp RowD->Hp:=Kp.h 2 50 RowD.d
def by_c (mode:Int) (names:List Ba) (l:List Lbl) (hl:l.length<=1000000):
 CD prog 215 [] [dI mode,.sh 1 (names.map D.s),.sh 2 (l.map Lbl.d)] (zcA 2 48 ((byL mode names l).map Lbl.d)):=by
 refine tZ func215 O O (λC=>?_);refine T.bd 1 O (λbd1=>?_);have nl1:=zy bd1;refine T.bd 2 O (λbd2=>?_);have nl2:=zy bd2;refine g' 19 O ?_;refine tD O (λhc1=>?_) (λhc1=>?_)
 · refine g' 2 O ?_;refine tD O (λhc2=>?_) (λhc2=>?_)
   · refine g' 5 O (tX [] O O acs (aXn mode names l (by omega)) ?_);rintro _ _ ⟨v3,rfl,rfl⟩;refine g' 6 O (mW (w9 (zaJ (i:=0) O)) (mW (mB (h':=.sl v3 2 48 ((byL mode names l).map Lbl.d)) O (mD (show List.map Lbl.d (keyL mode names l)=List.map Lbl.d (byL mode names l) from aG _ (by first | (unfold byL;simp[*];done) | (exfalso;omega))))) ?_));exact tR O w8 ⟨_,O,O⟩
   refine g' 9 O ?_;refine T.drop (mW (HSub.nil 2 48) ?_);refine mW (mB (h':=.sl (.slice none 0 0) 2 48 ((byL mode names l).map Lbl.d)) O (mD (show List.map Lbl.d []=List.map Lbl.d (byL mode names l) from aG _ (by first | (unfold byL;simp[*];done) | (exfalso;omega))))) ?_;exact tRs O results215 (.cons (zc (za O) (Cv.ov O)) .nil) O w8 ⟨_,O,O⟩
 refine g' 5 O ?_;refine tD O (λhc4=>?_) (λhc4=>?_)
 · refine g' 5 O (tX [] O O acs (aXn mode names l (by omega)) ?_);rintro _ _ ⟨v5,rfl,rfl⟩;refine g' 6 O (mW (w9 (zaJ (i:=0) O)) (mW (mB (h':=.sl v5 2 48 ((byL mode names l).map Lbl.d)) O (mD (show List.map Lbl.d (keyL mode names l)=List.map Lbl.d (byL mode names l) from aG _ (by first | (unfold byL;simp[*];done) | (exfalso;omega))))) ?_));exact tR O w8 ⟨_,O,O⟩
 refine g' 9 O ?_;refine T.drop (mW (HSub.nil 2 48) ?_);refine mW (mB (h':=.sl (.slice none 0 0) 2 48 ((byL mode names l).map Lbl.d)) O (mD (show List.map Lbl.d []=List.map Lbl.d (byL mode names l) from aG _ (by first | (unfold byL;simp[*];done) | (exfalso;omega))))) ?_;exact tRs O results215 (.cons (zc (za O) (Cv.ov O)) .nil) O w8 ⟨_,O,O⟩
def aBy (l:List RowD) (key:List Lbl) (mode:Int) (names:List Ba) (x:RowD) (hx:l[0]?=some x) (hz:x.ls.length<=1000000):
 CD prog 262 [] [.sh 2 (l.map RowD.d),.sh 2 (key.map Lbl.d),.el (dI mode) 0,.el (.sh 1 (names.map D.s)) 0] (isR (dI (zt (byL mode names x.ls) key))):=by
 refine tZ func262 O O (λC=>?_);refine T.bd 0 O (λbd0=>?_);have nl0:=zy bd0;refine T.bd 1 O (λbd1=>?_);have nl1:=zy bd1;refine T.bd 2 O (λbd2=>?_);refine T.bd 3 O (λbd3=>?_);have hl0:=(cQ.1 hx).1;have hlx:=hz;refine g' 6 O (T.keep [0,1,2,3,6] O (tDr 8 [(7,dI mode,none),(8,.sh 1 (names.map D.s),none),(9,.sh 2 (l.map RowD.d),none),(10,.el (RowD.d x) 0,none),(11,.el (RowD.d x) 0,none),(12,.sh 2 (x.ls.map Lbl.d),none),(13,.sh 2 ((byL mode names x.ls).map Lbl.d),none),(14,.sh 2 (key.map Lbl.d),none)] [] (Hn:=[]) mixed O O O O w8 O ⟨sa_p O O O (zJ O bU O),sa_p O O O (zJ O isAgg45 O),sa_p O O O (zb O),sa_p O O O (zf (k:=0) O O aK aL (by first | rfl | omega) (zd hx)),sa_p O O O (zz O zfW O),sa_p O O O (zJ O isAgg40 O),sa_q O O O (zal O (gc (gc (gc .nil))) Tryz.call215 (by_c mode names x.ls (by omega)) zb3),sa_p O O O (zb O),trivial⟩ (tK O (tW O acs (zcu (byL mode names x.ls) key) (g' 4 O ?_)))));exact tR O HSub.none ⟨O,O⟩
def aEf {κ:RowD->List Lbl} {G:List (Kp RowD)} {x:Kp RowD} (hG:GOk κ (G.map (·.l))) (hx:G[k]?=some x):∃ y,x.l[0]?=some y:=by
 have:=hG.ne x.l (uL.2 ⟨x,za1 hx,rfl⟩);cases h:x.l with
 | nil=>exact aH h this
 | cons y r=>exact⟨y,rfl⟩
def xE {κ:RowD->List Lbl} {l:List RowD} {y:RowD} (h:l[0]?=some y):zbw κ l=κ y:=by
 cases l with
 | nil=>cases h
 | cons z r=>simp at h;rw[<-h];rfl
def zfj {G:List (Kp RowD)} {x:Kp RowD} (h:G[k]?=some x):(G.map (·.l))[k]?=some x.l:=by rw[d9,h];rfl
def aVi {κ:RowD->List Lbl} {G:List (Kp RowD)} {key:List Lbl} {i:Nat} {x:Kp RowD} {y:RowD} (h1:∀ t g,t<i->(G.map (·.l))[t]?=some g->zt (zbw κ g) key<0) (h2:∀ t g,i<=t->(G.map (·.l))[t]?=some g->¬zt (zbw κ g) key<0) (hx:G[i]?=some x) (hy:zbw κ x.l=κ y) (hi:i<=G.length):BsOk κ (G.map (·.l)) key i (decide (zt (κ y) key=(0:Int))):=
 ⟨by rw[cN];exact hi,h1,h2,by
  rw[aI,cmpLs_eq];constructor
  · intro e;exact⟨x.l,zfj hx,by rw[hy,e]⟩
  rintro ⟨g,hg,e⟩;rw[zfj hx] at hg;injection hg with hg;rw[<-hg,hy] at e;exact e⟩
def aS7 {κ:RowD->List Lbl} {G:List (Kp RowD)} {key:List Lbl} {i:Nat} (h1:∀ t g,t<i->(G.map (·.l))[t]?=some g->zt (zbw κ g) key<0) (h2:∀ t g,i<=t->(G.map (·.l))[t]?=some g->¬zt (zbw κ g) key<0) (hi:i=G.length):BsOk κ (G.map (·.l)) key i false:=
 ⟨by rw[cN];omega,h1,h2,⟨λh=>(by cases h),λ⟨g,hg,_⟩=>by rw[jU (by rw[cN];omega)] at hg;cases hg⟩⟩
def a0p (mode:Int) (names:List Ba) (v:Value) (G:List (Kp RowD)) (key:List Lbl) (hG:GOk (λr=>byL mode names r.ls) (G.map (·.l))) (hn:G.length<=1000000) (hz:∀ g∈G,∀ x∈g.l,x.ls.length<=1000000):
 CD prog 261 ([.sl v 1 32 (G.map Kp.d)]++(G.map RH)) [.ov v,.sh 2 (key.map Lbl.d),.fn 262 [] [.el (dI mode) 0,.el (.sh 1 (names.map D.s)) 0]] (λr H'=>∃ i f,BsOk (λr=>byL mode names r.ls) (G.map (·.l)) key i f/\r=.tup [dN i,dB f]/\H'=([.sl v 1 32 (G.map Kp.d)]++G.map RH)):=by
 refine tZ func261 O O (λC=>?_);refine T.bd 1 O (λbd1=>?_);have nl1:=zy bd1;refine g' 9 O (tP O (zK (n:=G.length) (j:=0) O O aW (cN _)) (g' 12 O ?_));refine tl2 (λ(a_:Nat) (b_:Nat)=>[(0,.ov v),(1,.sh 2 (key.map Lbl.d)),(2,.fn 262 [] [.el (dI mode) 0,.el (.sh 1 (names.map D.s)) 0]),(6,dI 0),(7,dB false),(8,dN G.length),(9,dN a_),(10,dN b_)]) (λa_ b_=>([.sl v 1 32 (G.map Kp.d)]++(G.map RH))) (λa_ b_=>(a_<=b_)/\(b_<=G.length)/\(∀ t g,t<a_->(G.map (·.l))[t]?=some g->zt (zbw (λr=>byL mode names r.ls) g) key<0)/\(∀ t g,b_<=t->(G.map (·.l))[t]?=some g->¬zt (zbw (λr=>byL mode names r.ls) g) key<0)) (λa_ b_=>b_-a_) 0 G.length O (sa O) w8 ⟨cT _,cW _,(λt g h=>aH h (by omega)),(λt g h e=>by rw[jU (by rw[cN];exact h)] at e;cases e)⟩ ?_;rintro lo hi ⟨hle,hh,h1,h2⟩;refine mX ([.sl v 1 32 (G.map Kp.d)]++(G.map RH)) O ?_;refine g' 8 O ?_;refine tD O (λhc1=>?_) (λhc1=>?_)
 · refine g' 7 O (tP O (zq (c:=((lo+hi:Nat):Int)) O O (zh (by omega) (by omega))) (tP O (zaN O (c:=((lo+hi:Nat):Int)) (zcn (by omega))) (tP O (zfd (a:=lo+hi) (n:=1) (m:=2) O O (by decide) (by decide)) (tP O (zaN O (c:=(((lo+hi) / 2:Nat):Int)) (zcX (by omega))) (g' 8 O ?_)))));obtain ⟨x1,hx1⟩:=zi G ((lo+hi) / 2) (by omega);refine tP O (ze (k:=(lo+hi) / 2) (j:=0) O O O aW bR (by first | rfl | omega) (zd hx1)) (tP O (zaS O (i:=0) O (zd hx1) isAgg32 O) (g' 1 O (mW (aB4 (A:=[.sl v 1 32 (G.map Kp.d)]) (h:=RH) (G:=G) hx1) ?_)));refine mX ([.sl x1.v 2 50 (x1.l.map RowD.d),.sl v 1 32 (G.map Kp.d)]++((G.eraseIdx ((lo+hi) / 2)).map RH)) O ?_;obtain ⟨yx1,hyx1⟩:=aEf hG hx1;have hykx1:=xE (κ:=(λr=>byL mode names r.ls)) hyx1;refine tV [0] O O (.cons (mK (j:=0) O O) acs) (aBy x1.l key mode names yx1 hyx1 (hz _ (za1 hx1) _ (za1 hyx1))) O ?_;refine mX ([.sl x1.v 2 50 (x1.l.map RowD.d),.sl v 1 32 (G.map Kp.d)]++((G.eraseIdx ((lo+hi) / 2)).map RH)) O ?_;refine mW (zgG (A:=[.sl v 1 32 (G.map Kp.d)]) (h:=RH) (G:=G) (y:=x1) hx1) ?_;refine mX ([.sl v 1 32 (G.map Kp.d)]++(G.map RH)) (by rw[oY hx1]<;>rfl) ?_;refine g' 3 O ?_;refine tD O (λhc2=>?_) (λhc2=>?_)
   · refine g' 2 O (tP O (zq (c:=((((lo+hi) / 2)+1:Nat):Int)) O O (zh (by omega) (by omega))) (g' 3 O ?_));exact tp2 ((lo+hi) / 2+1) hi (sa O) w8 ⟨by omega,hh,λt g ht hg=>hG.below hg (zfj hx1) (by omega) (by rw[hykx1];exact hc2),h2⟩ (by omega)
   refine g' 5 O ?_;exact tp2 lo ((lo+hi) / 2) (sa O) w8 ⟨by omega,by omega,h1,λt g ht hg hc=>hc2 (by rw[<-hykx1];exact hG.below (zfj hx1) hg ht hc)⟩ (by omega)
 refine g' 6 O ?_;by_cases hg3:((lo:Nat):Int)<((G.length:Nat):Int)
 · refine g' 4 O (tP O (zau O O (aE hg3)) (g' 4 O ?_));obtain ⟨x2,hx2⟩:=zi G lo (by omega);refine tG O (ze (k:=lo) (j:=0) O O O aW bR (by first | rfl | omega) (zd hx2)) (tG O (zaS O (i:=0) O (zd hx2) isAgg32 O) (g' 1 O (mW (aB4 (A:=[.sl v 1 32 (G.map Kp.d)]) (h:=RH) (G:=G) hx2) ?_)));refine mX ([.sl x2.v 2 50 (x2.l.map RowD.d),.sl v 1 32 (G.map Kp.d)]++((G.eraseIdx lo).map RH)) O ?_;obtain ⟨yx2,hyx2⟩:=aEf hG hx2;have hykx2:=xE (κ:=(λr=>byL mode names r.ls)) hyx2;refine tV [0] O O (.cons (mK (j:=0) O O) acs) (aBy x2.l key mode names yx2 hyx2 (hz _ (za1 hx2) _ (za1 hyx2))) O ?_;refine mX ([.sl x2.v 2 50 (x2.l.map RowD.d),.sl v 1 32 (G.map Kp.d)]++((G.eraseIdx lo).map RH)) O ?_;refine mW (zgG (A:=[.sl v 1 32 (G.map Kp.d)]) (h:=RH) (G:=G) (y:=x2) hx2) ?_;refine mX ([.sl v 1 32 (G.map Kp.d)]++(G.map RH)) (by rw[oY hx2]<;>rfl) ?_;refine g' 7 O ?_;exact tR O w8 ⟨lo,decide ((zt (byL mode names yx2.ls) key)=(0:Int)),aVi (λt g ht=>h1 t g ht) (λt g ht=>h2 t g (by omega)) hx2 hykx2 (by omega),O,O⟩
 refine g' 4 O (tP O (zau O O (aD hg3)) (g' 15 O ?_));exact tR O w8 ⟨lo,false,aS7 (λt g ht=>h1 t g ht) (λt g ht=>h2 t g (by omega)) (by omega),O,O⟩
end Lp
