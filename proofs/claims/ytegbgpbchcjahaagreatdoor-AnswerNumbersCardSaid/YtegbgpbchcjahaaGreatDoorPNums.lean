import Derived.Test.YtegbgpbchcjahaaGreatDoorPLoc
set_option linter.all false
namespace Lp
open Go
section
variable {r:List TokD} {s t:Rd} {k:Int} {ts:List Ba} {x:Ba}
def zeF (e:(s.must x).b=false):(s.must x).l.length+1=s.l.length:=by
 have hq:(s.take 5 [x]).2.1=true:=by
  unfold Rd.must at e;simp only[jE,Bool.not_eq_false'] at e;exact e.2
 exact(za3 (by decide) hq).1
def ze0 (hk:k≠0) (e:(s.any k).2.b=false):(s.any k).2.l.length+1=s.l.length:=by
 have hb:s.b=false:=zae zcC e;have hp:s.pk.k=k:=Decidable.byContradiction λhn=>by rw[zeu (.inr hn)] at e;cases e
 exact(zf4 hk hb hp).1
def R.set (h:R r s t) (b:Bool):R r ⟨s.l,s.n,b⟩ ⟨t.l,t.n,b⟩:=⟨h.l,h.n,rfl⟩
def R.bracesF (hr:Hq r):∀ (F F':Nat) (o:List MatD) (s t:Rd),s.l.length<F->F<=F'->R r s t->(bracesF F o s).2.b=false->(Lp.bracesF F' o t).1=(Lp.bracesF F o s).1/\R r (Lp.bracesF F o s).2 (Lp.bracesF F' o t).2
 | 0,_,_,s,_,h,_,_,_=>aH h (jQ _)
 | F+1,0,_,_,_,_,h,_,_=>aH h (Nat.not_succ_le_zero _)
 | F+1,F'+1,o,s,t,hF,hF',h,e=>by
  have hb:s.b=false:=zae (λq=>iZ q) e;unfold Lp.bracesF at e ⊢;rw[aA (show ¬s.b=true by rw[hb];decide)] at e ⊢;rw[aA (show ¬t.b=true by rw[h.b,hb];decide)];simp only at e ⊢;have hv:(Rd.any ⟨((s.any 1).2.take 5 [tEq,tNe,zbd,zag]).2.2.l,((s.any 1).2.take 5 [tEq,tNe,zbd,zag]).2.2.n,((s.any 1).2.take 5 [tEq,tNe,zbd,zag]).2.2.b||!((s.any 1).2.take 5 [tEq,tNe,zbd,zag]).2.1⟩ 3).2.b=false:=by
   split at e
   · rename_i hq;exact(za3 (by decide) hq).2.2.1
   rw[ze6] at e;exact e
  have hc:(((s.any 1).2.take 5 [tEq,tNe,zbd,zag]).2.2.b||!((s.any 1).2.take 5 [tEq,tNe,zbd,zag]).2.1)=false:=zae (λq=>zcC (s:=⟨_,_,_⟩) q) hv;have ha:(s.any 1).2.b=false:=by
   have:=(jE.1 hc).1;rw[ze6] at this;exact this
  obtain ⟨a1,a2⟩:=h.any (by decide) ha;obtain ⟨c1,c2,c3⟩:=a2.takeq hr (qt_5 (ts:=[tEq,tNe,zbd,zag]) (by decide));have c4:=c3.set (((s.any 1).2.take 5 [tEq,tNe,zbd,zag]).2.2.b||!((s.any 1).2.take 5 [tEq,tNe,zbd,zag]).2.1);obtain ⟨v1,v2⟩:=c4.any (by decide) hv;obtain ⟨d1,d2,d3⟩:=v2.takeq hr (qt_5 (ts:=[zV]) (by decide));have el:(s.any 1).2.l.length+1=s.l.length:=ze0 (by decide) ha;rw[c3.b,c2,c1,a1,v1,d2];split
  · rename_i hq;rw[aB hq] at e;have k1:=(za3 (by decide) hq).1;have k2:=(zco (⟨((s.any 1).2.take 5 [tEq,tNe,zbd,zag]).2.2.l,((s.any 1).2.take 5 [tEq,tNe,zbd,zag]).2.2.n,((s.any 1).2.take 5 [tEq,tNe,zbd,zag]).2.2.b||!((s.any 1).2.take 5 [tEq,tNe,zbd,zag]).2.1⟩:Rd) 3).len;have k3:=(z8 (s.any 1).2 5 [tEq,tNe,zbd,zag]).len;simp only at k2;exact R.bracesF hr F F' _ _ _ (by omega) (by omega) d3 e
  exact⟨O,d3⟩
def aD7 {F:Nat} {o:List MatD} {s:Rd} (hb:s.b=false) (e:(bracesF (F+1) o s).2.b=false):s.l≠[]:=by
 unfold bracesF at e;rw[aA (show ¬s.b=true by rw[hb];decide)] at e;simp only at e;have hv:(Rd.any ⟨((s.any 1).2.take 5 [tEq,tNe,zbd,zag]).2.2.l,((s.any 1).2.take 5 [tEq,tNe,zbd,zag]).2.2.n,((s.any 1).2.take 5 [tEq,tNe,zbd,zag]).2.2.b||!((s.any 1).2.take 5 [tEq,tNe,zbd,zag]).2.1⟩ 3).2.b=false:=by
  split at e
  · rename_i hq;exact(za3 (by decide) hq).2.2.1
  rw[ze6] at e;exact e
 have hc:(((s.any 1).2.take 5 [tEq,tNe,zbd,zag]).2.2.b||!((s.any 1).2.take 5 [tEq,tNe,zbd,zag]).2.1)=false:=zae (λq=>zcC (s:=⟨_,_,_⟩) q) hv;have ha:(s.any 1).2.b=false:=by
  have:=(jE.1 hc).1;rw[ze6] at this;exact this
 exact aO3 (by decide) ha
variable (rm:List MatD->Bool)
def R.braces (h:R r s t) (hr:Hq r) (e:(s.braces rm).2.b=false):(t.braces rm).1=(s.braces rm).1/\R r (s.braces rm).2 (t.braces rm).2:=by
 have h1:(s.must zaq).b=false:=by
  unfold Rd.braces at e;split at e
  · exact zae zX e
  have e:(((Lp.bracesF _ [] (s.must zaq)).2.must zaW).b||_)=false:=e;exact zae (λq=>iZ q) (zae zX (jE.1 e).1)
 have r1:=h.must h1;by_cases hl:(s.must zaq).l=[]
 · exfalso;unfold Rd.braces at e;rw[aA (by rw[zdu hl (by decide)];decide)] at e;have e:(((Lp.bracesF _ [] (s.must zaq)).2.must zaW).b||_)=false:=e;exact aD7 h1 (zae zX (jE.1 e).1) hl
 have hi:=r1.is (k:=5) (ts:=[zaW]) hl;unfold Rd.braces at e ⊢;rw[hi];split
 · rename_i hc;rw[aB hc] at e;exact⟨O,r1.must e⟩
 rename_i hc;rw[aA hc] at e;have e':(((Lp.bracesF _ [] (s.must zaq)).2.must zaW).b||_)=false:=e;have e2:=(jE.1 e').1;have hlen:=r1.len;obtain ⟨a1,a2⟩:=R.bracesF hr _ ((t.must zaq).l.length+1) [] _ _ (jR _) (by omega) r1 (zae zX e2);have a3:=a2.must e2;exact⟨a1,⟨a3.l,a3.n,by show (_||!rm _)=(_||!rm _);rw[a3.b,a1]⟩⟩
def xP {s:Rd} (hl:s.l=[]):(s.selector rm).2.b=true:=by
 have hp:s.pk=zbo:=pk_0 (by rw[hl];rfl);have e1:s.selName=(ByteArray.empty,s):=by unfold Rd.selName;rw[aA (by rw[hp];rintro ⟨a,_⟩;exact aH a (by decide))]
 unfold Rd.selector;simp only[e1];refine zbv (oS ?_);unfold Rd.selMs;rw[aA (by rw[zdu hl (by decide)];decide)];show (s.b||decide (ByteArray.empty=ByteArray.empty))=true;rw[aE rfl,vP]
def R.selWin (h:R r s t) (hr:Hq r) (e:s.selWin.2.b=false):t.selWin.1=s.selWin.1/\R r s.selWin.2 t.selWin.2:=by
 obtain ⟨b1,b2,b3⟩:=h.takeq hr (qt_5 (ts:=[tSq]) (by decide));unfold Rd.selWin at e ⊢;rw[b2];split
 · rename_i hc;rw[aB hc] at e;obtain ⟨a1,a2⟩:=b3.number (k:=4) (by decide) (zae zX e);exact⟨a1,a2.must e⟩
 exact⟨O,b3⟩
def R.selMs (h:R r s t) (hr:Hq r) (e:(s.selMs rm x).2.b=false):(t.selMs rm x).1=(s.selMs rm x).1/\R r (s.selMs rm x).2 (t.selMs rm x).2:=by
 have hi:=h.isq hr (qt_5 (ts:=[zaq]) (by decide));unfold Rd.selMs at e ⊢;rw[hi];split
 · rename_i hc;rw[aB hc] at e;exact h.braces rm hr e
 exact⟨O,by show R r ⟨s.l,s.n,s.b||_⟩ ⟨t.l,t.n,t.b||_⟩;rw[h.b];exact h.set _⟩
def R.selector (h:R r s t) (hr:Hq r) (hl:s.l≠[]) (e:(s.selector rm).2.b=false):(t.selector rm).1=(s.selector rm).1/\R r (s.selector rm).2 (t.selector rm).2:=by
 have hp:=h.pk hl;have e0:=e;unfold Rd.selector at e;simp only at e;have e3:=zae zbv e;have e2:=zae oS e3;have e1:s.selName.2.b=false:=zae (λq=>aTj rm q) e2;have hn:t.selName.1=s.selName.1/\R r s.selName.2 t.selName.2:=by
  unfold Rd.selName at e1 ⊢;rw[hp.1,hp.2];split
  · rename_i hc;rw[aB hc] at e1;exact h.any (by decide) e1
  exact⟨O,h⟩
 obtain ⟨m1,m2⟩:=hn.2.selMs rm hr e2;obtain ⟨w1,w2⟩:=m2.selWin hr e3;unfold Rd.selector;simp only;rw[hn.1,m1,w1];exact⟨O,w2.node⟩
def Loc.mono {m m' a b:Nat} {p p':Rd->Nd×Rd} (h:Loc r m m' p p') (ha:a<=m) (hb:b<=m'):Loc r a b p p':=λs t h1 h2=>h s t (by omega) (by omega)
def R.aggr (h:R r s t) (hr:Hq r) {ex ex':Rd->Nd×Rd} (hb:Bad ex) {m m':Nat} (hs:s.l.length<=m) (ht:t.l.length<=m') (hx:∀ a b,a<m->b<m'->Loc r a b ex ex') (e:(s.aggr ex).2.b=false):(t.aggr ex').1=(s.aggr ex).1/\R r (s.aggr ex).2 (t.aggr ex').2:=by
 unfold Rd.aggr at e ⊢;simp only at e ⊢;have e6:=zae zX (zae zbv e);have e5:=hb.no e6;have e3:((s.any 1).2.mode tBy zN |>.2.2.must zE).b=false:=by
  by_cases hn:zaA (s.any 1).1=true
  · rw[aB hn,aB hn] at e5;exact zae zcC (zae zX e5)
  rw[aA hn,aA hn] at e5;exact e5
 have e2:=zae zX e3;have e1:(s.any 1).2.b=false:=zae aO4 e2;obtain ⟨a1,a2⟩:=h.any (by decide) e1;obtain ⟨c1,c2,c3⟩:=a2.mode hr a0k e2;have c4:=c3.must e3;have l1:=ze0 (s:=s) (by decide) e1;have l2:=(zcg (s.any 1).2 tBy zN).len;have l3:=zeF e3;have t1:=a2.len;have t2:=c3.len;have t3:=c4.len;have t0:=h.len;rw[a1,c1,c2];by_cases hn:zaA (s.any 1).1=true
 · rw[aB hn,aB hn] at e5;simp only[aB hn] at e e6 ⊢;obtain ⟨n1,n2⟩:=c4.number (k:=2) (by decide) (zae zX e5);have n3:=n2.must e5;have l4:=zeF e5;have l5:=(zbu ((s.any 1).2.mode tBy zN |>.2.2.must zE) 2).len;have t4:=n3.len;obtain ⟨x1,x2⟩:=hx _ _ (by omega) (by omega) _ _ (cW _) (cW _) n3 e6;rw[n1,x1];exact⟨O,(x2.must (zae zbv e)).node⟩
 rw[aA hn,aA hn] at e5;simp only[aA hn] at e e6 ⊢;obtain ⟨x1,x2⟩:=hx _ _ (by omega) (by omega) _ _ (cW _) (cW _) c4 e6;rw[x1];exact⟨O,(x2.must (zae zbv e)).node⟩
def aNn (hr:Hq r) {ex ex':Rd->Nd×Rd} (hb:Bad ex) {m m':Nat} (hx:∀ a b,a<m->b<m'->Loc r a b ex ex'):Loc r m m' (λs=>s.prim rm ex) (λs=>s.prim rm ex'):=λs t hs ht h e=>by
 have h0:s.b=false:=(aHb rm ex).no e;have hn:¬s.b=true:=by rw[h0];decide
 simp only[Rd.prim] at e ⊢;rw[aA hn] at e ⊢;rw[aA (show ¬t.b=true by rw[h.b];exact hn)];by_cases hl:s.l=[]
 · exfalso;have hp:s.pk=zbo:=pk_0 (by rw[hl];rfl);rw[aA (by rw[hp];decide),aA (by rw[zdu hl (by decide)];decide),aA (by rw[hp];rintro ⟨a,_⟩;exact aH a (by decide)),aA (by rw[hp];rintro ⟨a,_⟩;exact aH a (by decide)),xP rm hl] at e;cases e
 have hp:=h.pk hl;have hi:=h.is (k:=5) (ts:=[zE]) hl;have t0:=h.len;rw[hp.1,hp.2,hi];split
 · rename_i hc;rw[aB hc] at e;obtain ⟨n1,n2⟩:=h.number (k:=2) (by decide) (zae zbv e);rw[n1];exact⟨rfl,n2.node⟩
 rename_i hc;rw[aA hc] at e;split
 · rename_i hd;rw[aB hd] at e;have e1:=zae zX e;have e2:=hb.no e1;have r1:=h.must e2;have l1:=zeF e2;have t1:=r1.len;obtain ⟨x1,x2⟩:=hx _ _ (by omega) (by omega) _ _ (cW _) (cW _) r1 e1;exact⟨x1,x2.must e⟩
 rename_i hd;rw[aA hd] at e;split
 · rename_i hf;rw[aB hf] at e;exact h.aggr hr hb hs ht hx e
 rename_i hf;rw[aA hf] at e;split
 · rename_i hg;rw[aB hg] at e;simp only at e ⊢;have e1:=zae zbv (zae zX e);have e2:=hb.no e1;have e3:=zae zX e2;obtain ⟨a1,a2⟩:=h.any (by decide) e3;have r1:=a2.must e2;have l0:=ze0 (s:=s) (by decide) e3;have l1:=zeF e2;have t1:=r1.len;obtain ⟨x1,x2⟩:=hx _ _ (by omega) (by omega) _ _ (cW _) (cW _) r1 e1;rw[a1,x1];exact⟨O,x2.node.must e⟩
 rename_i hg;rw[aA hg] at e;exact h.selector rm hr hl e
def lY (hr:Hq r) {ex ex':Rd->Nd×Rd} {m m':Nat} (hp:Loc r m m' (λs=>s.prim rm ex) (λs=>s.prim rm ex')):∀ (F F':Nat) (s t:Rd),s.l.length<F->F<=F'->s.l.length<=m->t.l.length<=m'->R r s t->(zat rm ex F s).2.b=false->(zat rm ex' F' t).1=(zat rm ex F s).1/\R r (zat rm ex F s).2 (zat rm ex' F' t).2
 | 0,_,s,_,h,_,_,_,_,_=>aH h (jQ _)
 | F+1,0,_,_,_,h,_,_,_,_=>aH h (Nat.not_succ_le_zero _)
 | F+1,F'+1,s,t,hF,hF',hm,hm',h,e=>by
  obtain ⟨b1,b2,b3⟩:=h.takeq hr (qt_5 (ts:=[zaM]) (by decide));have k1:=(z8 s 5 [zaM]).len;have k2:=(z8 t 5 [zaM]).len;unfold zat at e ⊢;rw[b2];split
  · rename_i hc;rw[aB hc] at e;simp only at e ⊢;have hg:=za3 (by decide) hc;obtain ⟨d1,d2⟩:=lY hr hp F F' _ _ (by omega) (by omega) (by omega) (by omega) b3 (zae zbv e);rw[d1];exact⟨rfl,d2.node⟩
  rename_i hc;rw[aA hc] at e;exact hp _ _ (by omega) (by omega) b3 e
def aJ6 (hr:Hq r) {ex ex':Rd->Nd×Rd} {m m':Nat} (hb:Bad ex) (hs:∀ s,Stp 1 s (ex s).2) (hs':∀ s,Stp 1 s (ex' s).2) (hx:∀ a b,a<m->b<m'->Loc r a b ex ex'):Loc r m m' (zfb rm ex) (zfb rm ex'):=
 zeG hr (qt_5 (by decide)) (λs h=>iS rm ex _ s h) (λs t h1 h2 h e=>lY rm hr (aNn rm hr hb hx) _ _ s t (jR _) (by have:=h.len;omega) h1 h2 h e) (λs=>zbU rm hs _ s) (λs=>zbU rm hs' _ s)
def yQ (hr:Hq r) {ex ex':Rd->Nd×Rd} {m m':Nat} (hb:Bad ex) (hs:∀ s,Stp 1 s (ex s).2) (hs':∀ s,Stp 1 s (ex' s).2) (hx:∀ a b,a<m->b<m'->Loc r a b ex ex'):Loc r m m' (sumP rm ex) (sumP rm ex'):=
 zeG hr (qt_5 (by decide)) (aAr rm ex) (aJ6 rm hr hb hs hs' hx) (λs=>zdH rm hs s) (λs=>zdH rm hs' s)
def aA9 (hr:Hq r):∀ f f':Nat,Loc r f f' (za5 rm (f+1)) (za5 rm (f'+1))
 | 0,f'=>zeG hr (qt_5 (by decide)) (zgk rm _) (yQ rm hr (zfJ rm _) (zab rm _) (zab rm _) (λa b ha _=>aH ha (jQ _))) (λs=>zbH rm (zab rm _) s) (λs=>zbH rm (zab rm _) s)
 | f+1,0=>zeG hr (qt_5 (by decide)) (zgk rm _) (yQ rm hr (zfJ rm _) (zab rm _) (zab rm _) (λa b _ hb=>aH hb (jQ _))) (λs=>zbH rm (zab rm _) s) (λs=>zbH rm (zab rm _) s)
 | f+1,f'+1=>zeG hr (qt_5 (by decide)) (zgk rm _) (yQ rm hr (zfJ rm _) (zab rm _) (zab rm _) (λa b ha hb=>(aA9 hr f f').mono (by omega) (by omega))) (λs=>zbH rm (zab rm _) s) (λs=>zbH rm (zab rm _) s)
end
end Lp
namespace Lp
open Go
def aBe {l:List UInt8} {a:Nat} {ts:List TokD} (h:zO l 0=some ts):∃ us,zO l a=some us/\us.map er=ts.map er:=by
 have e:=aEj a _ l 0 O;rw[h,dS] at e;exact⟨_,e,by simp only[List.map_map];exact List.map_congr_left λx _=>rfl⟩
def aDk {l r:List UInt8} {x:TokD} {us:List TokD} (hne:l≠[]) (hb:runL isB (l++r)=0) (hf:zj (l++r)=(x,l.length)) (h2:zO r 0=some us):∃ vs,zO (l++r) 0=some vs/\vs.map er=(x::us).map er:=by
 obtain ⟨u2,e1,e2⟩:=aBe (a:=0+l.length) h2;have hp:=dW.2 hne;refine⟨x.put 0::u2,?_,by rw[jS,jS,e2];rfl⟩;rw[zdD (n:=(l++r).length) (cW _),hb,d8,zbi (by simp[hne]) (by rw[hf];simp only;omega) (cW _),hf];simp only[uX,j5,e1];rfl
def tkO:TokD:=⟨5,0,zE⟩
def tkC:TokD:=⟨5,0,zL⟩
section
variable {rm:List MatD->Bool}
def rB {part:Rd->Nd×Rd} {t u:Rd} {n:Nd} {ts:List Ba} {r:List TokD} (hr:Hq r) (q:Qt 5 ts) (e:part t=(n,u)) (hu:u.l.map er=r.map er):t.level part ts=(n,u):=by
 have hR:R r ⟨[],u.n,u.b⟩ u:=⟨hu,rfl,rfl⟩;have hi:u.is 5 ts=false:=by rw[hR.isq hr q];exact zdu rfl (by decide)
 have ht:u.take 5 ts=(ByteArray.empty,false,u):=zaZ (.inr hi);unfold Rd.level;rw[e];unfold zaO;simp only[ht,if_true]
def aS9 {t:Rd} {r:List TokD} (h:t.l.map er=(tkO::r).map er):t.pk.k=5/\t.pk.t=zE:=by
 have e1:=zgO (s:=t);rw[h] at e1;exact aLx (show er t.pk=er tkO from e1)
def aIh {t:Rd} {x:Ba} {r:List TokD} (hb:t.b=false) (h:t.l.map er=((⟨5,0,x⟩:TokD)::r).map er):(t.must x).l.map er=r.map er/\(t.must x).n=t.n/\(t.must x).b=false:=by
 have e1:=zgO (s:=t);rw[h] at e1;obtain ⟨e2,e3⟩:=aLx (show er t.pk=er (⟨5,0,x⟩:TokD) from e1);have hi:t.is 5 [x]=true:=by unfold Rd.is;rw[e2,e3];simp[hasN]
 have ht:t.take 5 [x]=(t.pk.t,true,⟨t.l.tail,t.n,t.b⟩):=by unfold Rd.take;rw[aA (by rw[hb,hi];simp)]
 unfold Rd.must;rw[ht];refine⟨?_,O,by show (t.b||!true)=false;rw[hb];rfl⟩;show t.l.tail.map er=_;rw[List.map_tail,h];rfl
def iD {t:Rd} {x:Ba} (h:t.is 5 [x]=false):(t.must x).b=true:=by
 unfold Rd.must;rw[zaZ (.inr h)];simp
def aF4 {ex:Rd->Nd×Rd} {t:Rd} {r:List TokD} (hb:t.b=false) (h:t.l.map er=(tkO::r).map er) (F:Nat):zat rm ex (F+1) t=((ex (t.must zE)).1,(ex (t.must zE)).2.must zL):=by
 obtain ⟨e2,e3⟩:=aS9 h;have hm:t.is 5 [zaM]=false:=by unfold Rd.is;rw[e3];rw[show hasN [zaM] zE=false by decide,uM]
 have ht:t.take 5 [zaM]=(ByteArray.empty,false,t):=zaZ (.inr hm);unfold zat;rw[ht];show Rd.prim rm t ex=_;unfold Rd.prim;rw[aA (by rw[hb];decide),aA (by rw[e2];decide),aB (by unfold Rd.is;rw[e2,e3];decide)]
def aN4 {f:Nat} {t:Rd} {r r':List TokD} {n:Nd} (hr:Hq r') (hb:t.b=false) (h:t.l.map er=(tkO::r).map er) (e1:(za5 rm f (t.must zE)).1=n) (e2:((za5 rm f (t.must zE)).2.must zL).l.map er=r'.map er):za5 rm (f+1) t=(n,(za5 rm f (t.must zE)).2.must zL):=by
 have hu:zat rm (za5 rm f) (t.l.length+1) t=(n,(za5 rm f (t.must zE)).2.must zL):=by rw[aF4 hb h,e1]
 have hp:zfb rm (za5 rm f) t=(n,(za5 rm f (t.must zE)).2.must zL):=rB hr (qt_5 (by decide)) hu e2;have hs:sumP rm (za5 rm f) t=(n,(za5 rm f (t.must zE)).2.must zL):=rB hr (qt_5 (by decide)) hp e2;exact rB hr (qt_5 (by decide)) hs e2
def aK2 (r:List TokD):Hq (tkC::r):=λh e=>by injection e with e;subst e;exact .inl ⟨rfl,rfl⟩
def aOy {l:List TokD} {q:Nd} {c:Int} (h1:(za5 rm (l.length+1) ⟨l,0,false⟩).1=q) (h2:(za5 rm (l.length+1) ⟨l,0,false⟩).2=⟨[],c,false⟩):∀ (n:Nat) (r:List TokD),Hq r->∀ (f:Nat) (t:Rd),t.l.map er=(List.replicate n tkO++l++List.replicate n tkC++r).map er->t.n=0->t.b=false->t.l.length<=f->(za5 rm (f+1) t).1=q/\(za5 rm (f+1) t).2.l.map er=r.map er/\(za5 rm (f+1) t).2.n=c/\(za5 rm (f+1) t).2.b=false
 | 0,r,hr,f,t,ht,hn,hb,hf=>by
  have hR:R r ⟨l,0,false⟩ t:=⟨by rw[ht];simp,hn,hb⟩;obtain ⟨a1,a2⟩:=aA9 rm hr l.length f ⟨l,0,false⟩ t (cW _) hf hR (by rw[h2]);rw[h1] at a1;rw[h2] at a2;exact⟨a1,a2.l,a2.n,a2.b⟩
 | n+1,r,hr,f,t,ht,hn,hb,hf=>by
  have ht2:t.l.map er=(tkO::(List.replicate n tkO++l++List.replicate n tkC++(tkC::r))).map er:=by
   rw[ht,vG,show List.replicate (n+1) tkC=List.replicate n tkC++[tkC] from List.replicate_succ'];simp
  obtain ⟨m1,m2,m3⟩:=aIh hb ht2;have hlen:(t.must zE).l.length+1=t.l.length:=by
   have x1:=aG List.length ht2;have x2:=aG List.length m1;simp only[cN,dH] at x1 x2;omega
  obtain ⟨f,rfl⟩:∃ k,f=k+1:=⟨f-1,by omega⟩;obtain ⟨i1,i2,i3,i4⟩:=aOy h1 h2 n (tkC::r) (aK2 r) f (t.must zE) m1 (m2.trans hn) m3 (by omega);obtain ⟨j1,j2,j3⟩:=aIh (x:=zL) i4 i2;have e:=aN4 hr hb ht2 i1 j1;rw[e];exact⟨O,j1,j2.trans i3,j3⟩
end
section
variable (rm:List MatD->Bool)
def zf0 {s:Rd} {w:Ba} (h:s.b=true):(s.bound w).2.b=true:=by
 unfold Rd.bound;rw[zcE h];simpa using h
def aSd {s:Rd} (h:s.b=true):s.order.2.b=true:=by
 unfold Rd.order;rw[zcE h];simpa using h
def aJh {s:Rd} (h:s.l=[]):s.order=(0,s):=by
 unfold Rd.order;rw[zaZ (.inr (zdu h (by decide)))];simp
def sG {s:Rd} {w:Ba} (h:s.l=[]):s.bound w=(-1,s):=by
 unfold Rd.bound;rw[zaZ (.inr (zdu h (by decide)))];simp
def aEv {l:List TokD} {q:Nd} {u:Rd} (h:za5 rm (l.length+1) ⟨l,0,false⟩=(q,u)) (hl:u.l=[]) (hb:u.b=false):zda rm l=some ⟨q,0,-1,-1⟩:=by
 unfold zda;simp only;rw[h];simp only;rw[aJh hl];simp only;rw[sG hl];simp only;rw[sG hl];simp only;rw[aA (by rw[hb,hl];rintro (a | a);cases a;exact aH a (Nat.lt_irrefl 0))]
end
def aD2 {s:Ba} {ts:List TokD} (hs:s.size<=600) (h:zO (bl8 s) 0=some ts):lexL s=ts/\lexE s=0:=by
 unfold lexL lexE;rw[aA (by omega),aA (by omega),h];exact⟨rfl,rfl⟩
end Lp
namespace Lp
open Go
def Lx (s:Ba) (W:List TokD):Prop:=∃ vs,zO (bl8 s) 0=some vs/\vs.map er=W.map er
def aEy (a b:Ba):bl8 (a++b)=bl8 a++bl8 b:=by simp[bl8]
def Lx.lex {s:Ba} {W:List TokD} (h:Lx s W) (hs:s.size<=600):lexE s=0/\(lexL s).map er=W.map er:=by
 obtain ⟨vs,e1,e2⟩:=h;obtain ⟨a,b⟩:=aD2 hs e1;exact⟨b,by rw[a];exact e2⟩
section
variable {r:List TokD} {u:Rd} {x y:TokD} {k:Int} {ts:List Ba} {w:Ba}
end
def aIr {s:Ba} {q:QryD} (hE:lexE s=0) (h:zda rmD (lexL s)=some q):zdz s=0/\zdy s=q:=by unfold zdz zdy;rw[aB hE,aB hE,h];exact⟨rfl,rfl⟩
end Lp
namespace Lp
open Go
def opsC:List Ba:=[tEqq,tNe,tLt,tLe,tGt,tGe,zdi,zaM,zc6,zfB,tMod]
def Lw (l:List UInt8) (W:List TokD):Prop:=∃ vs,zO l 0=some vs/\vs.map er=W.map er
def Lw.lx {s:Ba} {W:List TokD} (h:Lw (bl8 s) W):Lx s W:=h
def Lw.step {l r:List UInt8} {x:TokD} {W:List TokD} (h:Lw r W) (hne:l≠[]) (hb:runL isB (l++r)=0) (hf:zj (l++r)=(x,l.length)):Lw (l++r) (x::W):=by
 obtain ⟨us,e1,e2⟩:=h;obtain ⟨vs,e3,e4⟩:=aDk hne hb hf e1;exact⟨vs,e3,by rw[e4,jS,jS,e2]⟩
def farL:List UInt8:=[61,33,60,62,43,45,42,47,37,41,32,40]
def aTq:∀ b∈farL,b.toNat<128/\isLD ((b.toNat:Nat):Int)=false/\isD ((b.toNat:Nat):Int)=false:=by decide
def Far (r:List UInt8):Prop:=r=[]\/∃ b t,r=b::t/\b∈farL
def aQl {r:List UInt8} (h:Far r):runL isLD r=0/\runL isD r=0:=by
 rcases h with rfl | ⟨b,t,rfl,hb⟩
 · exact⟨zcf,zcf⟩
 obtain ⟨h1,h2,h3⟩:=aTq b hb;exact⟨zds (by rw[zac h1];exact h2),zds (by rw[zac h1];exact h3)⟩
def Lw.num {r:List UInt8} {W:List TokD} (h:Lw r W) (hr:Far r) {a:Nat} (ha:a<=1000000000000):Lw (digL a++r) (⟨2,0,digB a⟩::W):=by
 obtain ⟨r1,r2⟩:=aQl hr;obtain ⟨f1,f2⟩:=kU (iQ a) (yZ a) r;refine h.step (yZ a) f2 ?_;have e1:runL isD (digL a++r)=(digL a).length:=by rw[zdj aKa _ _ (iQ a),r2];rfl
 have e2:runL isLD (digL a++r)=(digL a).length:=by rw[zdj aCt _ _ (iQ a),r1];rfl
 have h13:=zfX ha;have e3:digV ((digL a++r).take (digL a).length)=a:=by rw[wC];exact gC a
 rw[f1];unfold numT;rw[e1,e2,e3,aA (by omega),aB rfl]
def sgC:List Ba:=opsC++[zE,zL]
def aKp:∀ x∈sgC,∃ b t,bl8 x=b::t/\b.toNat<128/\isB ((b.toNat:Nat):Int)=false/\¬zC ((b.toNat:Nat):Int)=1/\¬zC ((b.toNat:Nat):Int)=2/\¬b.toNat=34/\b∈farL:=by
 intro x hx;simp only[sgC,opsC,jX,dY,dD,vE,or_false] at hx;rcases hx with rfl | rfl | rfl | rfl | rfl | rfl | rfl | rfl | rfl | rfl | rfl | rfl | rfl<;>exact⟨_,_,rfl,by decide,by decide,by decide,by decide,by decide,by decide⟩
def aQ6:∀ x∈sgC,∀ (b:UInt8) (t:List UInt8),b≠61->b≠126->zbI (bl8 x++b::t)=(⟨5,0,x⟩,x.size):=by
 intro x hx b t h1 h2;have k1:((61:UInt8)==b)=false:=by simpa using λe=>h1 e.symm
 have k2:((126:UInt8)==b)=false:=by simpa using λe=>h2 e.symm
 simp only[sgC,opsC,jX,dY,dD,vE,or_false] at hx;rcases hx with rfl | rfl | rfl | rfl | rfl | rfl | rfl | rfl | rfl | rfl | rfl | rfl | rfl<;>simp[zbI,zam,zak,bl8,List.isPrefixOf,k1,k2]<;>rfl
def Lw.sign {x:Ba} (hx:x∈sgC) {b:UInt8} {t:List UInt8} {W:List TokD} (h:Lw (b::t) W) (h1:b≠61) (h2:b≠126):Lw (bl8 x++b::t) (⟨5,0,x⟩::W):=by
 obtain ⟨c,u,e,k1,k2,k3,k4,k5,_⟩:=aKp x hx;have hd:decL (bl8 x++b::t)=(c.toNat,1):=by rw[e];exact zac k1
 refine h.step (by rw[e];simp) (zds (by rw[hd];exact k2)) ?_;unfold zj;rw[hd,aA k3,aA k4,aA k5,aQ6 x hx b t h1 h2,zar]
def Lw.sp {r:List UInt8} {W:List TokD} (h:Lw r W):Lw (32::r) W:=by
 obtain ⟨vs,e1,e2⟩:=h;obtain ⟨us,e3,e4⟩:=aBe (a:=1) e1;refine⟨us,?_,e4.trans e2⟩;rw[show (32::r:List UInt8)=[32]++r from rfl,gX (by intro b hb;rw[dQ.1 hb];exact .inl rfl)];exact e3
def aWj:Lw [] []:=⟨[],by unfold zO;rw[zcf];exact zaR,rfl⟩
section
variable {a b c:Nat} {p q:Ba}
def aWt (h:p∈opsC):p∈sgC:=uG _ h
def aX4 (hc:c<=1000000000000):Lw (digL c) [⟨2,0,digB c⟩]:=by
 have h:=Lw.num aWj (.inl O) hc
 rwa [jL] at h
end
def nN (x:Ba):Nd:=.mk tNum ByteArray.empty (numV x) 0 [] [] []
def bN (p:Ba) (x y:Nd):Nd:=.mk tBin p 0 0 [] [] [x,y]
def aT7 {s:Ba} {W:List TokD} {q:Nd} {c:Int} (h:Lx s W) (hs:s.size<=600) (e:za5 rmD (W.length+1) ⟨W,0,false⟩=(q,⟨[],c,false⟩)):zdz s=0/\zdy s=⟨q,0,-1,-1⟩:=by
 obtain ⟨hE,hL⟩:=h.lex hs;obtain ⟨a1,a2,a3,a4⟩:=aOy (rm:=rmD) (l:=W) (q:=q) (c:=c) (by rw[e]) (by rw[e]) 0 [] (λh e=>by cases e) (lexL s).length ⟨lexL s,0,false⟩ (by rw[hL];simp) rfl rfl (cW _);exact aIr hE (aEv rmD (Prod.ext a1 O) (uW.1 a2) a4)
def aQd:∀ p∈opsC,p.size<=2:=by decide
end Lp
namespace Lp
open Go
structure KpS where
 ls:List Lbl
 v:Value
 ps:List PtD
def KpS.d (x:KpS):D:=.agg [.sh 2 (x.ls.map Lbl.d),.ov x.v]
def KpS.s (x:KpS):SerD:=⟨x.ls,x.ps⟩
structure StOk (S:List SerD):Prop where
 srt:S.Pairwise λa b=>zt a.ls b.ls<0
 len:S.length<=40
 ok:∀ s∈S,1<=s.ps.length/\s.ps.length<=25/\s.ls.length<=1000000
def StOk.nil:StOk []:=⟨List.Pairwise.nil,cT _,λ_ h=>by cases h⟩
def posS (key:List Lbl):List SerD->Nat
 | []=>0
 | s::r=>if zt s.ls key<0 then posS key r+1 else 0
def pF (key:List Lbl):∀ S:List SerD,posS key S<=S.length
 | []=>cW _
 | s::r=>by unfold posS;have:=pF key r;split<;>simp only[dH]<;>omega
def aAa (key:List Lbl):∀ (S:List SerD) (t:Nat) (s:SerD),t<posS key S->S[t]?=some s->zt s.ls key<0
 | [],t,s,h,_=>aH h (jQ _)
 | x::r,t,s,h,hs=>by
  unfold posS at h;split at h
  · rename_i hx;cases t with
    | zero=>injection hs with hs;subst hs;exact hx
    | succ t=>exact aAa key r t s (by omega) hs
  omega
def xX (key:List Lbl):∀ (S:List SerD) (s:SerD),S[posS key S]?=some s->¬zt s.ls key<0
 | [],s,h=>by cases h
 | x::r,s,h=>by
  unfold posS at h;split at h
  · exact xX key r s h
  rename_i hx;injection h with h;subst h;exact hx
structure BsS (S:List SerD) (key:List Lbl) (i:Nat):Prop where
 le:i<=S.length
 lt:∀ t s,t<i->S[t]?=some s->zt s.ls key<0
 ge:∀ s,S[i]?=some s->¬zt s.ls key<0
def BsS.pos {S:List SerD} {key:List Lbl} {i:Nat} (h:BsS S key i):i=posS key S:=by
 have hp:=pF key S;rcases Nat.lt_trichotomy i (posS key S) with hl | he | hg
 · obtain ⟨s,hs⟩:∃ s,S[i]?=some s:=⟨_,dL (by omega)⟩;exact aH (aAa key S i s hl hs) (h.ge s hs)
 · exact he
 obtain ⟨s,hs⟩:∃ s,S[posS key S]?=some s:=⟨_,dL (by have:=h.le;omega)⟩;exact aH (h.lt _ s hg hs) (xX key S s hs)
def StOk.below {S:List SerD} (h:StOk S) {s t:Nat} {a b:SerD} {key:List Lbl} (ha:S[s]?=some a) (hb:S[t]?=some b) (hst:s<=t) (hk:zt b.ls key<0):zt a.ls key<0:=by
 rcases Nat.lt_or_eq_of_le hst with hl | he
 · obtain ⟨h1,e1⟩:=cQ.1 ha;obtain ⟨h2,e2⟩:=cQ.1 hb;have:=jF.1 h.srt s t h1 h2 hl;rw[e1,e2] at this;exact iJ this hk
 subst he;rw[ha] at hb;injection hb with hb;subst hb;exact hk
def zba (key:List Lbl) (t x:Int):Bool:=zc7 key&&(decide (0<=t)&&(decide (t<=1000000000)&&zD x))
def zeI (l:List PtD):Int:=match l.getLast? with
 | some p=>p.t
 | none=>0
def aBl {l:List PtD} {x:PtD} (h:l[l.length-1]?=some x):x.t=zeI l:=by unfold zeI;rw[List.getLast?_eq_getElem?,h]
def newS (S:List SerD) (key:List Lbl) (t x:Int):List SerD×Int:=if 40<=S.length then(S,8) else(S.take (posS key S)++⟨key,[⟨t,x⟩]⟩::S.drop (posS key S),0)
def oldS (S:List SerD) (i:Nat) (s:SerD) (t x:Int):List SerD×Int:=if t<=zeI s.ps then(S,6) else if 25<=s.ps.length then(S,8) else(S.set i ⟨s.ls,s.ps++[⟨t,x⟩]⟩,0)
def putS (S:List SerD) (key:List Lbl) (t x:Int):List SerD×Int:=
 if zba key t x=true then match S[posS key S]? with
  | some s=>if zt s.ls key=0 then oldS S (posS key S) s t x else newS S key t x
  | none=>newS S key t x
 else(S,1)
def qY {S:List SerD} {key:List Lbl} {t x:Int} (h:zba key t x=false):putS S key t x=(S,1):=by unfold putS;rw[h];rfl
def pL {S:List SerD} {key:List Lbl} {t x:Int} {s:SerD} (h:zba key t x=true) (hs:S[posS key S]?=some s) (he:zt s.ls key=0):putS S key t x=oldS S (posS key S) s t x:=by unfold putS;rw[aB h,hs];exact aB he
def pQ {S:List SerD} {key:List Lbl} {t x:Int} (h:zba key t x=true) (hs:∀ s,S[posS key S]?=some s->¬zt s.ls key=0):putS S key t x=newS S key t x:=by
 unfold putS;rw[aB h];cases e:S[posS key S]? with
 | none=>rfl
 | some s=>exact aA (hs s e)
def tO {key:List Lbl} {t x:Int} (h:zba key t x=true):zc7 key=true/\0<=t/\t<=1000000000/\zD x=true:=by
 unfold zba at h;simp only[cU,aI] at h;exact h
def aG6 {key:List Lbl} {t x:Int} (h:((zc7 key=false\/t<0)\/1000000000<t)\/zD x=false):zba key t x=false:=by
 unfold zba;rcases h with ((h | h) | h) | h
 · rw[h];rfl
 · rw[show decide (0<=t)=false from aD (by omega)];simp
 · rw[show decide (t<=1000000000)=false from aD (by omega)];simp
 rw[h];simp
def aHf {key:List Lbl} {t x:Int} (h:((zc7 key=true/\¬t<0)/\¬1000000000<t)/\zD x=true):zba key t x=true:=by
 unfold zba;rw[h.1.1.1,h.2,show decide (0<=t)=true from aE (by omega),show decide (t<=1000000000)=true from aE (by omega)];rfl
def gM {l:List Lbl} (h:zc7 l=true):l.length<=1000000:=by
 unfold zc7 at h;rw[cU] at h;have:=gB (r:=⟨l,0⟩) (by unfold zcK;rw[h.1];exact(show zD 0=true from by decide));show l.length<=_;have h2:(⟨l,0⟩:RowD).ls.length<=8:=this;exact jM h2 (by decide)
def aT3 {S:List SerD} (h:StOk S) (key:List Lbl) (t x:Int):StOk (putS S key t x).1:=by
 have hnew:zba key t x=true->(∀ s,S[posS key S]?=some s->¬zt s.ls key=0)->StOk (newS S key t x).1:=by
  intro hk hne;unfold newS;split
  · exact h
  rename_i hl;refine⟨?_,?_,?_⟩
  · show List.Pairwise _ (S.take _++_::S.drop _);have h0:=h.srt;rw[<-dF (posS key S) S] at h0;obtain ⟨h1,h2,h3⟩:=d7.1 h0;refine d7.2 ⟨h1,dG.2 ⟨λb hb=>?_,h2⟩,λa ha b hb=>?_⟩
    · show zt key b.ls<0;obtain ⟨k,hk'⟩:=List.getElem?_of_mem hb;rw[j8] at hk';obtain ⟨s,hs⟩:∃ s,S[posS key S]?=some s:=⟨_,dL (by have:=(cQ.1 hk').1;omega)⟩;have g1:=xX key S s hs;have g2:=hne s hs;have g3:zt key s.ls<0:=aBj g1 (λe=>g2 (cmpLs_eq.2 e));rcases uE k with e | e
      · subst e;rw[j5,hs] at hk';injection hk' with hk';subst hk';exact g3
      obtain ⟨q1,e1⟩:=cQ.1 hs;obtain ⟨q2,e2⟩:=cQ.1 hk';have:=jF.1 h.srt _ _ q1 q2 (by omega);rw[e1,e2] at this;exact iJ g3 this
    rcases dD.1 hb with rfl | hb
    · obtain ⟨k,hk'⟩:=List.getElem?_of_mem ha;have hkl:k<posS key S:=(by have:=(cQ.1 hk').1;rw[cY] at this;omega);rw[List.getElem?_take_of_lt hkl] at hk';exact aAa key S k a hkl hk'
    exact h3 a ha b hb
  · show (S.take _++_::S.drop _).length<=40;have:=pF key S;simp only[cO,dH,cY,c7];omega
  intro s hs;rcases jO.1 hs with hs | hs
  · exact h.ok s (uU hs)
  rcases dD.1 hs with rfl | hs
  · exact⟨cW _,dE O,gM (tO hk).1⟩
  exact h.ok s (vB hs)
 cases hk:zba key t x with
 | false=>rw[qY hk];exact h
 | true=>
  by_cases hx:∃ s,S[posS key S]?=some s/\zt s.ls key=0
  · obtain ⟨s,hs,he⟩:=hx;rw[pL hk hs he];unfold oldS;split
    · exact h
    split
    · exact h
    rename_i hl;have hm:=h.ok s (dA hs);refine⟨?_,by show (S.set _ _).length<=40;rw[uN];exact h.len,λq hq=>?_⟩
    · show List.Pairwise _ (S.set _ _);rw[jF];intro i j hi hj hij;have hi':i<S.length:=(by rw[uN] at hi;exact hi);have hj':j<S.length:=(by rw[uN] at hj;exact hj);obtain ⟨hp,hpe⟩:=cQ.1 hs;have key2:∀ (k:Nat) (hk:k<(S.set (posS key S) ⟨s.ls,s.ps++[⟨t,x⟩]⟩).length) (hk':k<S.length),((S.set (posS key S) ⟨s.ls,s.ps++[⟨t,x⟩]⟩)[k]).ls=(S[k]).ls:=by
       intro k hk hk';rw[List.getElem_set];split
       · rename_i e;subst e;rw[hpe]
       rfl
      rw[key2 i hi hi',key2 j hj hj'];exact jF.1 h.srt i j hi' hj' hij
    rcases List.mem_or_eq_of_mem_set hq with hq | rfl
    · exact h.ok q hq
    exact⟨by show 1<=(s.ps++[_]).length;simp,by show (s.ps++[_]).length<=25;simp;omega,hm.2.2⟩
  rw[pQ hk (λs hs he=>hx ⟨s,hs,he⟩)];exact hnew hk (λs hs he=>hx ⟨s,hs,he⟩)
def aT8 {S:List SerD} {key:List Lbl} {k:Nat} {x:SerD} (hk:posS key S=k+posS key (S.drop k)) (hx:S[k]?=some x) (h:zt x.ls key<0):posS key S=k+1+posS key (S.drop (k+1)):=by
 have e:posS key (S.drop k)=posS key (S.drop (k+1))+1:=by rw[zb9 hx];exact aB h
 omega
def aE3 {S:List SerD} {key:List Lbl} {k:Nat} {x:SerD} (hk:posS key S=k+posS key (S.drop k)) (hx:S[k]?=some x) (h:¬zt x.ls key<0):posS key S=k:=by
 have e:posS key (S.drop k)=0:=by rw[zb9 hx];exact aA h
 omega
def aLf {S:List SerD} {key:List Lbl} {k:Nat} (hk:posS key S=k+posS key (S.drop k)) (h:S.length<=k):posS key S=k:=by
 rw[jZ.2 h] at hk;exact hk
def aJs {key:List Lbl} {t x:Int} (h:(((zaG key=false\/getL key metB=ByteArray.empty)\/t<0)\/1000000000<t)\/zD x=false):zba key t x=false:=by
 apply aG6;rcases h with (((h | h) | h) | h) | h
 · exact .inl (.inl (.inl (by unfold zc7;rw[h];rfl)))
 · exact .inl (.inl (.inl (by unfold zc7;rw[show decide (getL key metB≠ByteArray.empty)=false from aD (λhn=>hn h)];simp)))
 · exact .inl (.inl (.inr h))
 · exact .inl (.inr h)
 exact .inr h
def aN1 {key:List Lbl} {t x:Int} (h:(((zaG key=true/\¬getL key metB=ByteArray.empty)/\¬t<0)/\¬1000000000<t)/\zD x=true):zba key t x=true:=
 aHf ⟨⟨⟨by unfold zc7;rw[h.1.1.1.1,show decide (getL key metB≠ByteArray.empty)=true from aE h.1.1.1.2];rfl,h.1.1.2⟩,h.1.2⟩,h.2⟩
section
variable {S:List SerD} {key:List Lbl} {t x:Int} {i:Nat} {p:SerD}
def aO1 (hok:zba key t x=true) (hi:posS key S=i) (hf:¬ ∃ y,S[i]?=some y/\zt y.ls key=(0:Int)):putS S key t x=newS S key t x:=pQ hok λs hs he=>hf ⟨s,by rw[<-hi];exact hs,he⟩
def aTd (hok:zba key t x=true) (hi:posS key S=i) (hf:¬ ∃ y,S[i]?=some y/\zt y.ls key=(0:Int)) (h:40<=S.length):putS S key t x=(S,8):=by rw[aO1 hok hi hf];unfold newS;exact aB h
def aXs (hok:zba key t x=true) (hi:posS key S=i) (hf:¬ ∃ y,S[i]?=some y/\zt y.ls key=(0:Int)) (h:¬40<=S.length):putS S key t x=(S.take i++⟨key,[⟨t,x⟩]⟩::S.drop i,0):=by rw[aO1 hok hi hf];unfold newS;rw[aA h,hi]
def aF7 (hok:zba key t x=true) (hi:posS key S=i) (hp:S[i]?=some p) (he:zt p.ls key=(0:Int)):putS S key t x=oldS S i p t x:=by rw[pL hok (by rw[hi];exact hp) he,hi]
def aJ9 (hok:zba key t x=true) (hi:posS key S=i) (hp:S[i]?=some p) (he:zt p.ls key=(0:Int)) (h:t<=zeI p.ps):putS S key t x=(S,6):=by rw[aF7 hok hi hp he];exact aB h
def aRm (hok:zba key t x=true) (hi:posS key S=i) (hp:S[i]?=some p) (he:zt p.ls key=(0:Int)) (h:¬t<=zeI p.ps) (h2:25<=p.ps.length):putS S key t x=(S,8):=by rw[aF7 hok hi hp he];unfold oldS;rw[aA h];exact aB h2
def aX1 (hok:zba key t x=true) (hi:posS key S=i) (hp:S[i]?=some p) (he:zt p.ls key=(0:Int)) (h:¬t<=zeI p.ps) (h2:¬25<=p.ps.length):putS S key t x=(S.set i ⟨p.ls,p.ps++[⟨t,x⟩]⟩,0):=by rw[aF7 hok hi hp he];unfold oldS;rw[aA h,aA h2]
end
section
variable {G:List KpS} {key:List Lbl} {t x:Int} {i:Nat} {f:Bool} {p:KpS}
def kget {k:Nat} {y:KpS} (h:G[k]?=some y):(G.map KpS.s)[k]?=some y.s:=by rw[d9,h];rfl
def aOf (hok:zba key t x=true) (hbs:BsS (G.map KpS.s) key i) (hfb:f=true↔∃ y,G[i]?=some y/\zt y.ls key=(0:Int)) (hf:f=false):putS (G.map KpS.s) key t x=newS (G.map KpS.s) key t x:=by
 refine pQ hok λs hs he=>?_
 rw[<-hbs.pos,d9] at hs;obtain ⟨y,hy,rfl⟩:=u5.1 hs;have:=hfb.2 ⟨y,hy,he⟩;rw[hf] at this;cases this
def aTm (hok:zba key t x=true) (hbs:BsS (G.map KpS.s) key i) (hfb:f=true↔∃ y,G[i]?=some y/\zt y.ls key=(0:Int)) (hf:f=false) (h:40<=G.length):putS (G.map KpS.s) key t x=(G.map KpS.s,8):=by
 rw[aOf hok hbs hfb hf];unfold newS;rw[aB (by rw[cN];exact h)]
def aX5 (hok:zba key t x=true) (hbs:BsS (G.map KpS.s) key i) (hfb:f=true↔∃ y,G[i]?=some y/\zt y.ls key=(0:Int)) (hf:f=false) (h:¬40<=G.length) (v:Value):putS (G.map KpS.s) key t x=((G.take i++(⟨key,v,[⟨t,x⟩]⟩:KpS)::G.drop i).map KpS.s,0):=by
 rw[aOf hok hbs hfb hf];unfold newS;rw[aA (by rw[cN];exact h),<-hbs.pos,u9,jS,dU,dV];rfl
def aF8 (hok:zba key t x=true) (hbs:BsS (G.map KpS.s) key i) (hp:G[i]?=some p) (he:zt p.ls key=(0:Int)):putS (G.map KpS.s) key t x=oldS (G.map KpS.s) i p.s t x:=by
 have h1:=kget hp;rw[hbs.pos] at h1;rw[pL hok h1 he,<-hbs.pos]
def aJz (hok:zba key t x=true) (hbs:BsS (G.map KpS.s) key i) (hp:G[i]?=some p) (he:zt p.ls key=(0:Int)) (h:t<=zeI p.ps):putS (G.map KpS.s) key t x=(G.map KpS.s,6):=by
 rw[aF8 hok hbs hp he];unfold oldS;exact aB h
def aS3 (hok:zba key t x=true) (hbs:BsS (G.map KpS.s) key i) (hp:G[i]?=some p) (he:zt p.ls key=(0:Int)) (h:¬t<=zeI p.ps) (h2:25<=p.ps.length):putS (G.map KpS.s) key t x=(G.map KpS.s,8):=by
 rw[aF8 hok hbs hp he];unfold oldS;rw[aA (show ¬t<=zeI p.s.ps from h)];exact aB h2
def aWu (hok:zba key t x=true) (hbs:BsS (G.map KpS.s) key i) (hp:G[i]?=some p) (he:zt p.ls key=(0:Int)) (h:¬t<=zeI p.ps) (h2:¬25<=p.ps.length) (v:Value):putS (G.map KpS.s) key t x=((G.set i ⟨p.ls,v,p.ps++[⟨t,x⟩]⟩).map KpS.s,0):=by
 rw[aF8 hok hbs hp he];unfold oldS;rw[aA (show ¬t<=zeI p.s.ps from h),aA (show ¬25<=p.s.ps.length from h2),List.map_set];rfl
end
end Lp
namespace Lp
open Go
def inT (a t w:Int):Prop:=t-w<a/\a<=t
instance (a t w:Int):Decidable (inT a t w):=inferInstanceAs (Decidable (_/\_))
structure OpD where
 c:Bool
 ls:List Lbl
 t:Int
 v:Int
def OpD.d (x:OpD):D:=.agg [.v (.bool x.c),.sh 2 (x.ls.map Lbl.d),.v (.int .i64 x.t),.v (.int .i64 x.v)]
section
variable {P:Program} {ty:TypeId} {K:Kd}
def aMq {H:List Hp} {f:FuncId} {args:Array Operand} {ats:Array TypeId} {ds0 ds:List D} {R:D->List Hp->Prop} (hargs:opsD K args.toList=some ds0) (ha:ArgCs [] ds0 ds)
 (hc:∀ args w,(callFunc f args).run P w=.ok (.enter f args) w) (hcall:CD P f H ds R):Ef P (.call { callee:=.value (.func f),args:=args,argTypes:=ats }) ty K H R:=
 (zfy H [] [] (jL H).symm hargs ha zdY hc hcall (.inl rfl)).mono (by rintro d _ ⟨H1,h,rfl⟩;rw[jL];exact h)
end
def zcN (l:List OpD):Bool:=(l.take 150).all (λo=>zcM o.ls)&&decide (l.length<=120)
def nJ {xs:List OpD} {k:Nat} {x:OpD} (hx:xs[k]?=some x) (hk:k<150) (h:zcM x.ls=false):zcN xs=false:=by
 unfold zcN;rw[gZ hx hk h];rfl
def oA {xs:List OpD} {k:Nat} (h:(xs.take k).all (λo=>zcM o.ls)=true) (hk:xs.length<=k\/150<=k):zcN xs=decide (xs.length<=120):=by
 unfold zcN;rw[kX h hk,uV]
def aDr {l:List OpD} (h:zcN l=true):l.length<=120:=by
 unfold zcN at h;simp only[cU,aI] at h;exact h.2
def aGx {l:List OpD} (h:zcN l=true) {o:OpD} (ho:o∈l):zcM o.ls=true:=by
 have hl:=aDr h;unfold zcN at h;simp only[cU] at h;have h1:=h.1;rw[c6 (by omega),c8] at h1;exact h1 o ho
def aLz {ls:List Lbl} (h:zcM ls=true):∀ y∈ls,y.n.size<=1000000:=by
 intro y hy;have hl:=aDl h;unfold zcM at h;simp only[cU] at h;have h1:=h.1;rw[c6 (by omega),c8] at h1;have:=h1 y hy;simp only[cU,aI] at this;omega
def zgr (S:List SerD) (o:OpD):List SerD:=if o.c=true then S else(putS S o.ls o.t o.v).1
def mkS (l:List OpD):List SerD:=l.foldl zgr []
def aP5 {l:List OpD} {k:Nat} {o:OpD} (h:l[k]?=some o):mkS (l.take (k+1))=zgr (mkS (l.take k)) o:=by
 unfold mkS;rw[zS h,vA];rfl
def aU4 (l:List OpD):StOk (mkS l):=by
 have key:∀ (l:List OpD) (S:List SerD),StOk S->StOk (l.foldl zgr S):=by
  intro l
  induction l with
  | nil=>intro S h;exact h
  | cons o l ih=>
   intro S h;refine ih _ ?_;show StOk (zgr S o);unfold zgr;split
   · exact h
   exact aT3 h _ _ _
 exact key l [] StOk.nil
section
variable {l:List OpD} {k:Nat} {o:OpD} {G G1:List KpS}
def aSn (h:l[k]?=some o) (hI:G.map KpS.s=mkS (l.take k)) (hc:o.c=true):G.map KpS.s=mkS (l.take (k+1)):=by
 rw[aP5 h,hI];unfold zgr;rw[aB hc]
def aV4 (h:l[k]?=some o) (hI:G.map KpS.s=mkS (l.take k)) (hc:¬o.c=true) (hG:G1.map KpS.s=(putS (G.map KpS.s) o.ls o.t o.v).1):G1.map KpS.s=mkS (l.take (k+1)):=by
 rw[aP5 h,hG,hI];unfold zgr;rw[aA hc]
end
end Lp
namespace Lp
open Go
variable {q:Ba} {a b:Nat}
def lx_2 (ha:a<=1000000000000) (hb:b<=1000000000000) (hq:q∈opsC):Lx (digB a++tSp++q++tSp++digB b) [⟨2,0,digB a⟩,⟨5,0,q⟩,⟨2,0,digB b⟩]:=by
 have h0:Lw (digL b++[]) [⟨2,0,digB b⟩]:=by rw[jL];exact aX4 hb
 have h1:=((h0.sp).sign (aWt hq) (by decide) (by decide)).sp;have h2:=h1.num (.inr ⟨32,_,O,by decide⟩) ha;refine Lw.lx ?_;simp only[aEy,zdC,cP,jL] at h2 ⊢;exact h2
def ex_2 (rm:List MatD->Bool) (X Y:Ba):∀ p∈opsC,za5 rm 4 ⟨[⟨2,0,X⟩,⟨5,0,p⟩,⟨2,0,Y⟩],0,false⟩=(bN p (nN X) (nN Y),⟨[],3,false⟩):=by
 intro p hp;simp only[opsC,dD,vE,or_false] at hp;rcases hp with rfl | rfl | rfl | rfl | rfl | rfl | rfl | rfl | rfl | rfl | rfl<;>kernel_rfl
def nmS (a b:Nat) (q:Ba):Ba:=digB a++tSp++q++tSp++digB b
def nmN (a b:Int) (q:Ba):Nd:=bN q (numN a) (numN b)
def aPl (a:Nat):nN (digB a)=numN (a:Int):=by unfold nN numN;rw[pZ]
def aRu (ha:a<=1000000000000) (hb:b<=1000000000000) (hq:q∈opsC):(nmS a b q).size<=600:=by
 have s1:=qL ha;have s2:=qL hb;have s4:=aQd q hq;have t1:tSp.size=1:=rfl;unfold nmS;simp only[jV];omega
def aG5 (ha:a<=1000000000000) (hb:b<=1000000000000) (hq:q∈opsC):zdz (nmS a b q)=0/\zdy (nmS a b q)=⟨nmN a b q,0,-1,-1⟩:=by
 have h:=aT7 (s:=nmS a b q) (lx_2 ha hb hq) (aRu ha hb hq) (ex_2 rmD (digB a) (digB b) q hq);rw[aPl,aPl] at h;exact h
def aYl (ha:a<=1000000000000) (hb:b<=1000000000000) (hq:q∈opsC):∀ x∈lexL (nmS a b q),¬(x.k=5/\x.t=zaq):=by
 obtain ⟨_,hL⟩:=Lx.lex (s:=nmS a b q) (lx_2 ha hb hq) (aRu ha hb hq);intro x hx ⟨e1,e2⟩;have hm:er x∈(lexL (nmS a b q)).map er:=vV hx;rw[hL] at hm;have hne:∀ p∈opsC,p≠zaq:=by decide
 simp only[jS,List.map_nil,dD,vE,or_false] at hm;rcases hm with hm | hm | hm
 · have:=aG TokD.k hm;rw[show (er x).k=x.k from rfl,e1] at this;have h5:(5:Int)=2:=this;omega
 · have:=aG TokD.t hm;rw[show (er x).t=x.t from rfl,e2] at this;exact hne q hq this.symm
 have:=aG TokD.k hm;rw[show (er x).k=x.k from rfl,e1] at this;have h5:(5:Int)=2:=this;omega
def aBs (a:Nat):NoQt (digB a):=by
 unfold NoQt;rw[zdC];intro b hb e;have:=kN a b hb;rw[e] at this;exact aH this.1 (by decide)
def iV {s t:Ba} (h:NoQt s) (k:NoQt t):NoQt (s++t):=by
 unfold NoQt;rw[aEy];intro b hb;rcases jO.1 hb with hb | hb
 · exact h b hb
 exact k b hb
def aNp:∀ p∈opsC,∀ b∈bl8 p,b≠34:=by decide
def aOw (ha:a<=1000000000000) (hb:b<=1000000000000) (hq:q∈opsC):NoQt (nmS a b q):=
 iV (iV (iV (iV (aBs a) (qD (by rfl))) (aNp q hq)) (qD (by rfl))) (aBs b)
def nmR (p:Int×Int):List RowD:=if p.2=0 then [⟨[],p.1⟩] else []
def zbz {p:Int×Int} (h:¬p.2≠0):[⟨[],p.1⟩]=nmR p/\0=p.2:=by
 have h:=Decidable.not_not.1 h;unfold nmR;rw[aB h];exact⟨rfl,h.symm⟩
def zc3 {p:Int×Int} (h:p.2≠0):[]=nmR p:=by unfold nmR;rw[aA h]
def aSl (p:Int×Int):p.2≠0\/(nmR p).length<=1:=by
 by_cases h:p.2=0
 · right;unfold nmR;rw[aB h];exact cW _
 exact .inl h
def aX6 (h:opB q=true):q∈opsC:=by
 rw[aBm] at h;simp only[cmpB,hasN,aAt,jY,uB,jB,jJ,aI] at h;rcases h with ((((h | h) | h) | h) | h) | h
 · rcases h with h | h | h | h | h | h<;>rw[<-h]
   · exact dA (l:=opsC) (i:=0) O
   · exact dA (l:=opsC) (i:=1) O
   · exact dA (l:=opsC) (i:=2) O
   · exact dA (l:=opsC) (i:=3) O
   · exact dA (l:=opsC) (i:=4) O
   exact dA (l:=opsC) (i:=5) O
 · rw[h];exact dA (l:=opsC) (i:=6) rfl
 · rw[h];exact dA (l:=opsC) (i:=7) rfl
 · rw[h];exact dA (l:=opsC) (i:=8) rfl
 · rw[h];exact dA (l:=opsC) (i:=9) rfl
 rw[h];exact dA (l:=opsC) (i:=10) rfl
end Lp
