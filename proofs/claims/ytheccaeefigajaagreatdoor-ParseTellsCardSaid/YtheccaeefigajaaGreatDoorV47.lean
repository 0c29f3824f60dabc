import Derived.Test.YtheccaeefigajaaGreatDoorPSev2
set_option linter.unusedVariables false
namespace Lp
open Go
section
variable {s:Rd} {k:Int} {ts:List ByteArray} {x:ByteArray}
theorem zbK:(s.take k ts).2.2.n=s.n:=by unfold Rd.take;split<;>rfl
theorem zce:(s.must x).n=s.n:=zbK
theorem zea:(s.any k).2.n=s.n:=by unfold Rd.any;split<;>rfl
theorem zes (h:s.node.b=false):s.node.n<=200:=by
 have h:(s.b||decide (200<s.n+1))=false:=h;have:=aC (dK.1 h).2;show s.n+1<=200;omega
theorem aDh:∀ (F:Nat) (o:List ByteArray) (s:Rd),(zaF F o s).2.n=s.n
 | 0,o,s=>rfl
 | F+1,o,s=>by
  unfold zaF;split
  · rfl
  split
  · rw[aDh F];exact zbK.trans zea
  exact zbK.trans zea
theorem names_n:s.names.2.n=s.n:=by
 unfold Rd.names;split
 · exact zce.trans zce
 exact zce.trans ((aDh _ _ _).trans zce)
theorem mode_n {y:ByteArray}:(s.mode x y).2.2.n=s.n:=by
 unfold Rd.mode;split
 · exact zbK
 split
 · exact names_n.trans zbK
 exact names_n.trans zbK
theorem sD:∀ (F:Nat) (o:List MatD) (s:Rd),(zW F o s).2.n=s.n
 | 0,o,s=>rfl
 | F+1,o,s=>by
  unfold zW;split
  · rfl
  simp only;split
  · rw[sD F];exact zbK.trans (zea.trans (zbK.trans zea))
  exact zbK.trans (zea.trans (zbK.trans zea))
end
def CnP (m:Nat) (p:Rd->Nd×Rd):Prop:=∀ s:Rd,s.l.length<=m->(p s).2.b=false->(p s).2.n=s.n+((p s).1.cnt:Int)/\(p s).2.n<=200
theorem xE {part:Rd->Nd×Rd} {ts:List ByteArray} (hb:Bad part) (hs:∀ s,Stp 1 s (part s).2) {m:Nat} (hp:CnP m part):∀ (F:Nat) (o:Nd) (s:Rd),s.l.length<=m->s.n<=200->(zaz part ts F o s).2.b=false->(zaz part ts F o s).2.n+(o.cnt:Int)=s.n+((zaz part ts F o s).1.cnt:Int)/\(zaz part ts F o s).2.n<=200
 | 0,o,s,_,h,_=>⟨rfl,h⟩
 | F+1,o,s,hm,h,e=>by
  have k1:=(zC s 5 ts).len;have n1:=zbK (s:=s) (k:=5) (ts:=ts);unfold zaz at e ⊢;split
  · exact⟨by rw[n1],by rw[n1];exact h⟩
  rename_i hc;rw[aA hc] at e;simp only at e ⊢;have eq:=zS (λq=>zbU q) e;have ep:(part ((s.take 5 ts).2.2.mode tOn zy).2.2).2.b=false:=zS zaR eq;have k2:=(zaK (s.take 5 ts).2.2 tOn zy).len;have k3:=(hs ((s.take 5 ts).2.2.mode tOn zy).2.2).len;have n2:=mode_n (s:=(s.take 5 ts).2.2) (x:=tOn) (y:=zy);have w:=hp _ (by omega) ep;have n3:=zes eq;have n4:(part ((s.take 5 ts).2.2.mode tOn zy).2.2).2.node.n=(part ((s.take 5 ts).2.2.mode tOn zy).2.2).2.n+1:=rfl;have h:=xE hb hs hp F _ _ (by show (part _).2.l.length<=m;omega) n3 e;refine⟨?_,h.2⟩;have h1:=h.1;simp only[Nd.cnt,Nd.cntL] at h1;omega
theorem gW {part:Rd->Nd×Rd} {ts:List ByteArray} (hb:Bad part) (hs:∀ s,Stp 1 s (part s).2) {m:Nat} (hp:CnP m part):CnP m (λs=>s.level part ts):=λs hm e=>by
 have ep:(part s).2.b=false:=zS (λq=>zbU q) e;have k3:=(hs s).len;have w:=hp s hm ep;have h:=xE hb hs hp _ _ _ (by omega) w.2 e;simp only[Rd.level] at e ⊢;exact⟨by omega,h.2⟩
section
variable (rm:List MatD->Bool)
theorem aY4 {m:Nat}:CnP m (λs=>s.selector rm):=λs _ e=>by
 have e:(s.selector rm).2.b=false:=e;show (s.selector rm).2.n=s.n+((s.selector rm).1.cnt:Int)/\(s.selector rm).2.n<=200;unfold Rd.selector at e ⊢;simp only at e ⊢;have n1:s.selName.2.n=s.n:=by unfold Rd.selName;split;exact zea;rfl
 have n2:(s.selName.2.selMs rm s.selName.1).2.n=s.n:=by
  refine Eq.trans ?_ n1;unfold Rd.selMs;split
  · unfold Rd.braces;split
    · exact zce.trans zce
    exact zce.trans ((sD _ _ _).trans zce)
  rfl
 have n3:(s.selName.2.selMs rm s.selName.1).2.selWin.2.n=s.n:=by
  refine Eq.trans ?_ n2;unfold Rd.selWin;split
  · exact zce.trans (zea.trans zbK)
  exact zbK
 refine⟨?_,zes e⟩;show _+1=_;rw[n3];simp only[Nd.cnt,Nd.cntL];omega
theorem aVn {ex:Rd->Nd×Rd} (hb:Bad ex) {m:Nat} (hx:∀ a,a<m->CnP a ex):CnP m (λs=>s.prim rm ex):=λs hl e=>by
 have h0:s.b=false:=(zgm rm ex).no e;have hn:¬s.b=true:=by rw[h0];decide
 simp only[Rd.prim] at e ⊢;rw[aA hn] at e ⊢;split
 · rename_i hc;rw[aB hc] at e;refine⟨?_,zes e⟩;show (s.any 2).2.n+1=_;rw[zea];simp only[Nd.cnt,Nd.cntL];omega
 rename_i hc;rw[aA hc] at e;split
 · rename_i hd;rw[aB hd] at e;have e1:=zS z7 e;have l1:=zc3 (hb.no e1);have w:=hx _ (by omega) _ (cU _) e1;have n1:=zce (s:=s) (x:=zl);have n2:=zce (s:=(ex (s.must zl)).2) (x:=zx);simp only;omega
 rename_i hd;rw[aA hd] at e;split
 · rename_i hf;rw[aB hf] at e;unfold Rd.aggr at e ⊢;simp only at e ⊢;have e7:=zS zaR e;have e6:=zS z7 e7;have e5:=hb.no e6;have e3:((s.any 1).2.mode tBy zm |>.2.2.must zl).b=false:=by
    by_cases hn:zU (s.any 1).1=true
    · rw[aB hn,aB hn] at e5;exact zS zbZ (zS z7 e5)
    rw[aA hn,aA hn] at e5;exact e5
   have e1:(s.any 1).2.b=false:=zS aCb (zS z7 e3);have l1:=zcz (s:=s) (by decide) e1;have l2:=(zaK (s.any 1).2 tBy zm).len;have l3:=(zr ((s.any 1).2.mode tBy zm).2.2 zl).len;have l4:=(zaB (((s.any 1).2.mode tBy zm).2.2.must zl) 2).len;have l5:=(zr ((((s.any 1).2.mode tBy zm).2.2.must zl).number 2).2 zu).len;have n1:(((s.any 1).2.mode tBy zm).2.2.must zl).n=s.n:=zce.trans (mode_n.trans zea);have n5:((((s.any 1).2.mode tBy zm).2.2.must zl).number 2).2.n=s.n:=zea.trans n1;have n6:(((((s.any 1).2.mode tBy zm).2.2.must zl).number 2).2.must zu).n=s.n:=zce.trans n5;refine⟨?_,zes e⟩;by_cases hn:zU (s.any 1).1=true
   · simp only[aB hn] at e6 ⊢;have w:=hx _ (by omega) _ (cU _) e6;show (Rd.must _ zx).n+1=_;rw[zce];simp only[Nd.cnt,Nd.cntL];omega
   simp only[aA hn] at e6 ⊢;have w:=hx _ (by omega) _ (cU _) e6;show (Rd.must _ zx).n+1=_;rw[zce];simp only[Nd.cnt,Nd.cntL];omega
 rename_i hf;rw[aA hf] at e;split
 · rename_i hg;rw[aB hg] at e;simp only at e ⊢;have e0:=zS z7 e;have e1:=zS zaR e0;have l1:=zc3 (hb.no e1);have l2:=(zav s 1).len;have w:=hx _ (by omega) _ (cU _) e1;have n1:((s.any 1).2.must zl).n=s.n:=zce.trans zea;have n2:=zes e0;have n3:(ex ((s.any 1).2.must zl)).2.node.n=(ex ((s.any 1).2.must zl)).2.n+1:=rfl;rw[zce];simp only[Nd.cnt,Nd.cntL];omega
 rename_i hg;rw[aA hg] at e;exact aY4 (m:=s.l.length) rm s (cU _) e
theorem tU {ex:Rd->Nd×Rd} {m:Nat} (hp:CnP m (λs=>s.prim rm ex)):∀ (F:Nat) (s:Rd),s.l.length<F->s.l.length<=m->(zaf rm ex F s).2.b=false->(zaf rm ex F s).2.n=s.n+((zaf rm ex F s).1.cnt:Int)/\(zaf rm ex F s).2.n<=200
 | 0,s,h,_,_=>aH h (jH _)
 | F+1,s,hF,hm,e=>by
  unfold zaf at e ⊢;have k1:=(zC s 5 [z6]).len;have n1:=zbK (s:=s) (k:=5) (ts:=[z6]);split
  · rename_i hc;rw[aB hc] at e;simp only at e ⊢;have hg:=zaY (by decide) hc;have w:=tU hp F _ (by omega) (by omega) (zS zaR e);refine⟨?_,zes e⟩;show _+1=_;simp only[Nd.cnt,Nd.cntL];omega
  rename_i hc;rw[aA hc] at e;have w:=hp _ (by omega) e;simp only at w;exact⟨by rw[w.1,n1],w.2⟩
theorem aXf {ex:Rd->Nd×Rd} (hb:Bad ex) (hs:∀ s,Stp 1 s (ex s).2) {m:Nat} (hx:∀ a,a<m->CnP a ex):CnP m (zcY rm ex):=
 gW (λs h=>zei rm ex _ s h) (λs=>zb1 rm hs _ s) (λs hm e=>tU rm (aVn rm hb hx) _ s (jB _) hm e)
theorem aRo {ex:Rd->Nd×Rd} (hb:Bad ex) (hs:∀ s,Stp 1 s (ex s).2) {m:Nat} (hx:∀ a,a<m->CnP a ex):CnP m (sumP rm ex):=
 gW (zf2 rm ex) (λs=>zde rm hs s) (aXf rm hb hs hx)
theorem aAf:∀ f:Nat,CnP f (zas rm (f+1))
 | 0=>gW (zeW rm _) (λs=>zb5 rm (zap rm _) s) (aRo rm (zef rm _) (zap rm _) (λa ha=>aH ha (jH _)))
 | f+1=>gW (zeW rm _) (λs=>zb5 rm (zap rm _) s) (aRo rm (zef rm _) (zap rm _) (λa ha s hl e=>aAf f s (by omega) e))
end
end Lp
namespace Lp
open Go
section
variable {rm:List MatD->Bool} {s:Rd} {k:Int} {x y:ByteArray}
structure Sb (rm:List MatD->Bool) (p r:List MatD×Rd):Prop where
 g:p.2.b=false->r=p/\rm p.1=true
 d:p.2.b=true->Bd r.2\/rm r.1=false
theorem aNf (hrm:rm []=true) (hb:s.b=false):Sb rm (s.selMs rm x) (s.selMs7 x):=by
 unfold Rd.selMs Rd.selMs7;rw[zb3 hb];by_cases hi:s.is 5 [zH]=true
 · rw[aB hi,aB hi];unfold Rd.braces;rw[zet hb hi];have htb:s.tl.b=false:=hb;by_cases hc:s.tl.is 5 [zA]=true
   · rw[aB hc];unfold zay;rw[aB (.inr (by rw[zb3 htb];exact hc))];exact⟨λ_=>⟨O,hrm⟩,λe=>.inl (.inl e)⟩
   rw[aA hc];have e7:zay (s.tl.l.length+1) [] s.tl=zay s.tl.l.length ([]++[s.tl.mat7.1]) s.tl.mat7.2:=by
    conv=>lhs;unfold zay
    rw[aA (by rw[zb3 htb,htb];simp only[uV,false_or];exact hc)];rfl
   rw[e7];have h:=lU (s.tl.l.length+1) s.tl.l.length [] s.tl htb (jB _) (cU _);generalize zay s.tl.l.length ([]++[s.tl.mat7.1]) s.tl.mat7.2=r at h ⊢;generalize zW (s.tl.l.length+1) [] s.tl=p at h ⊢;simp only;obtain ⟨hg,hd⟩:=h;simp only at hg hd;by_cases hpb:(p.2.must zA).b=true
   · refine⟨λe=>?_,λ_=>?_⟩
     · have e:((p.2.must zA).b||!rm p.1)=false:=e;rw[hpb] at e;cases e
     exact .inl (hd hpb)
   have hpb:=bf hpb;have e:=hg hpb;injection e with e1 e2;rw[e1,e2];refine⟨λe=>?_,λe=>?_⟩
   · have e:((p.2.must zA).b||!rm p.1)=false:=e;rw[hpb] at e;have hr:rm p.1=true:=(by simpa using e);refine⟨?_,hr⟩;rw[hr];simp
   have e:((p.2.must zA).b||!rm p.1)=true:=e;rw[hpb] at e;exact .inr (by simpa using e)
 have hi:s.is 5 [zH]=false:=by simpa using hi
 rw[aA (by rw[hi];decide),aA (by rw[hi];decide)];exact⟨λ_=>⟨O,hrm⟩,λe=>.inl (.inl e)⟩
theorem aJw (hb:s.b=false):s.selWin7=s.selWin:=by
 unfold Rd.selWin7 Rd.selWin;rw[zb3 hb];by_cases hi:s.is 5 [tSq]=true
 · rw[aB hi,zcn hb hi,zet hb hi];rfl
 have hi:s.is 5 [tSq]=false:=by simpa using hi
 rw[aA (by rw[hi];decide),zba (.inr hi)];rfl
theorem bd_f:s.bd false=s:=by unfold Rd.bd;rw[dQ]
theorem aX3 (hrm:rm []=true) (hb:s.b=false):Sm (s.selector rm) (s.sel7 rm):=by
 have hk:∀ (t:Rd) (b:Bool),Bd t->Bd (t.selWin7.2.bd b).node7:=λt b h=>((selWin7_sk.trans (zfx (b:=b))).trans zbg).bd h
 by_cases hl:s.l=[]
 · refine Sm.no (xW rm hl) ?_;have e:s.selName7=(ByteArray.empty,s):=(by unfold Rd.selName7;rw[aA (by rw[hl];simp)]);unfold Rd.sel7;simp only;rw[e];refine hk _ _ ?_;unfold Rd.selMs7;rw[aA (by rw[zb3 hb,zee hl (by decide)];decide)];exact .inl (by show (s.b||decide (ByteArray.empty=ByteArray.empty))=true;simp)
 have hp:=dE.2 hl;have e:s.selName7=s.selName:=by
  unfold Rd.selName7 Rd.selName;by_cases hc:s.pk.k=1/\zcP s.pk.t=false
  · rw[aB ⟨hp,hc⟩,aB hc]
  rw[aA (λh=>hc h.2),aA hc]
 have hnb:s.selName.2.b=false:=by
  unfold Rd.selName;split
  · rename_i hc;rw[zd9 hb hc.1];exact hb
  exact hb
 unfold Rd.sel7 Rd.selector;simp only;rw[e];have h:=aNf (rm:=rm) (x:=s.selName.1) hrm hnb;by_cases hmb:(s.selName.2.selMs rm s.selName.1).2.b=true
 · refine Sm.no (zaR (zeX hmb)) ?_;rcases h.d hmb with k | k
   · exact hk _ _ k
   rw[k];exact zbg.bd (.inl (by show (_||true)=true;simp))
 have hmb:=bf hmb;obtain ⟨h1,h2⟩:=h.g hmb;rw[h1,h2,aJw hmb];simp only[wI,bd_f];exact aAw _ (kK (s.selName.2.selMs rm s.selName.1).2.selWin)
theorem Sm.map {α β:Type} {p r:α×Rd} (h:Sm p r) (f:α->β):Sm (f p.1,p.2) (f r.1,r.2):=⟨λe=>(by rw[h.g e]),h.d⟩
theorem Sm.must {α:Type} {p r:α×Rd} (h:Sm p r) (x:ByteArray):Sm (p.1,p.2.must x) (r.1,r.2.must x):=by
 by_cases hb:p.2.b=true
 · exact Sm.no (z7 hb) (zaX.bd (h.d hb))
 rw[h.g (bf hb)];exact kK _
theorem Sm.node {α:Type} {p r:α×Rd} (h:Sm p r):Sm (p.1,p.2.node) (r.1,r.2.node7):=by
 by_cases hb:p.2.b=true
 · exact Sm.no (zaR hb) (zbg.bd (h.d hb))
 rw[h.g (bf hb)];exact aAw _ (kK p)
theorem Al.any {m:Nat} {p r:Rd->Nd×Rd} (h:Al m p r) (hb:Bad p) (h7:∀ s,Sk 1 s (r s).2) {u:Rd} (hl:u.l.length<=m):Sm (p u) (r u):=by
 by_cases e:u.b=true
 · exact Sm.no (hb u e) ((h7 u).bd (.inl e))
 exact h u (bf e) hl
theorem aS8 {ex ex7:Rd->Nd×Rd} (hbx:Bad ex) (h7:∀ s,Sk 1 s (ex7 s).2) {m:Nat} (hx:∀ a,a<m->Al a ex ex7) (hb:s.b=false) (hk:s.pk.k=1) (hm:s.l.length<=m):Sm (s.aggr ex) (s.aggr7 ex7):=by
 have hl:=(zeb (zgC (by decide) hk)).2;obtain ⟨m1,m2⟩:=aK9 (x:=tBy) (y:=zm) s.tl hb (by decide);unfold Rd.aggr Rd.aggr7;simp only;rw[zd9 hb hk];simp only;have hP:∀ u:Rd,u.b=true->(ex u).2.b=true:=λu h=>hbx u h
 have hR:∀ u:Rd,Bd u->Bd ((ex7 u).2.must zx).node7:=λu h=>(((h7 u).trans zaX).trans zbg).bd h
 by_cases hmb:(s.tl.mode tBy zm).2.2.b=true
 · by_cases hn:zU s.pk.t=true
   · simp only[aB hn];exact Sm.no (zaR (z7 (hP _ (z7 (zbZ (z7 hmb)))))) (hR _ (((zaX (x:=zl)).trans (zdA (k:=2))).trans (zaX (x:=zu)) |>.bd (m2 hmb)))
   simp only[aA hn];exact Sm.no (zaR (z7 (hP _ (z7 hmb)))) (hR _ ((zaX (x:=zl)).bd (m2 hmb)))
 have hmb:=bf hmb;rw[m1 hmb];have k1:=(zaK s.tl tBy zm).len;have k2:=(zr (s.tl.mode tBy zm).2.2 zl).len;by_cases hn:zU s.pk.t=true
 · simp only[aB hn];have k3:=(zaB ((s.tl.mode tBy zm).2.2.must zl) 2).len;have k4:=(zr (((s.tl.mode tBy zm).2.2.must zl).number 2).2 zu).len;exact((((hx (m-1) (by omega)).any hbx h7 (u:=(((s.tl.mode tBy zm).2.2.must zl).number 2).2.must zu) (by omega)).map (λq=>Nd.mk tAgg s.pk.t (((s.tl.mode tBy zm).2.2.must zl).number 2).1 (s.tl.mode tBy zm).1 (s.tl.mode tBy zm).2.1 [] [q])).must zx).node
 simp only[aA hn];exact((((hx (m-1) (by omega)).any hbx h7 (u:=(s.tl.mode tBy zm).2.2.must zl) (by omega)).map (λq=>Nd.mk tAgg s.pk.t 0 (s.tl.mode tBy zm).1 (s.tl.mode tBy zm).2.1 [] [q])).must zx).node
theorem yQ (v:Rd):v.must x=if v.b=true\/v.is 5 [x]=false then⟨v.l,v.n,true⟩ else v.tl:=by
 unfold Rd.must Rd.take Rd.tl;split<;>simp
theorem aEd (u:Rd):u.node7.must x=(u.must x).node7:=by
 rw[yQ,yQ];show (if u.b=true\/u.is 5 [x]=false then(⟨u.l,u.n+1,true⟩:Rd) else⟨u.l.tail,u.n+1,u.b⟩)=_;split<;>rfl
theorem aTh (hrm:rm []=true) {ex ex7:Rd->Nd×Rd} (hbx:Bad ex) (h7:∀ s,Sk 1 s (ex7 s).2) {m:Nat} (hx:∀ a,a<m->Al a ex ex7):Al m (λs=>s.prim rm ex) (λs=>s.prim7 rm ex7):=λs hb hm=>by
 simp only[Rd.prim,Rd.prim7];rw[aA (by rw[hb];decide)];by_cases hl:s.l=[]
 · have hp:s.pk=zbm:=pk_0 (by rw[hl];rfl);rw[aB (show s.b=true\/s.l.length=0 from .inr (by rw[hl];rfl)),aA (show ¬s.pk.k=2 by rw[hp];decide),aA (by rw[zee hl (by decide)];decide),aA (by rw[hp];rintro ⟨a,_⟩;exact aH a (by decide)),aA (by rw[hp];rintro ⟨a,_⟩;exact aH a (by decide))];exact Sm.no (xW rm hl) (.inl (by show (s.b||true)=true;simp))
 have hp:=dE.2 hl;rw[aA (show ¬(s.b=true\/s.l.length=0) from λe=>by rcases e with e | e;(rw[hb] at e;cases e);omega),zb3 hb];have ht:=(zeb hl).2;by_cases h2:s.pk.k=2
 · rw[aB h2,aB h2];unfold Rd.number;rw[zd9 hb h2];exact aAw _ (kK ((),s.tl))
 rw[aA h2,aA h2];by_cases ho:s.is 5 [zl]=true
 · rw[aB ho,aB ho,zet hb ho];exact((hx (m-1) (by omega)).any hbx h7 (u:=s.tl) (by omega)).must zx
 rw[aA ho,aA ho];by_cases ha:s.pk.k=1/\hasN aggN s.pk.t=true
 · rw[aB ha,aB ha];exact aS8 hbx h7 hx hb ha.1 hm
 rw[aA ha,aA ha];by_cases hf:s.pk.k=1/\hasN fnN s.pk.t=true
 · rw[aB hf,aB hf,zd9 hb hf.1];have k2:=(zr s.tl zl).len;have h:=((hx (m-1) (by omega)).any hbx h7 (u:=s.tl.must zl) (by omega)).map (λq=>Nd.mk tFn s.pk.t 0 0 [] [] [q]);by_cases e:(ex (s.tl.must zl)).2.b=true
   · exact Sm.no (z7 (zaR e)) (zbg.bd (zaX.bd (h.d e)))
   have e:=bf e;have h1:=h.g e;injection h1 with h1 h2;simp only;rw[h1,h2];by_cases hn:200<(ex (s.tl.must zl)).2.n+1
   · exact Sm.no (z7 (aA1 hn)) (.inr (by show 200<((ex (s.tl.must zl)).2.must zx).n+1;rw[zce];exact hn))
   rw[aAr e hn];rw[aEd];exact kK _
 rw[aA hf,aA hf];exact aX3 hrm hb
theorem tN {ex ex7:Rd->Nd×Rd} {m:Nat} (hp:Al m (λs=>s.prim rm ex) (λs=>s.prim7 rm ex7)):∀ (F:Nat) (s:Rd),s.b=false->s.l.length<F->s.l.length<=m->Sm (zaf rm ex F s) (zbC rm ex7 F s)
 | 0,s,_,h,_=>aH h (jH _)
 | F+1,s,hb,hF,hm=>by
  unfold zaf zbC;rw[zb3 hb];by_cases hi:s.is 5 [z6]=true
  · have ht:=(zeb (zfA (by decide) hi)).2;rw[zcn hb hi,aB rfl,aB hi];have h:=tN hp F s.tl hb (by omega) (by omega);exact(h.map (λq=>Nd.mk tNeg ByteArray.empty 0 0 [] [] [q])).node
  have hi:s.is 5 [z6]=false:=by simpa using hi
  rw[zba (.inr hi),aA (by simp),aA (by rw[hi];decide)];exact hp s hb hm
theorem aWh (hrm:rm []=true) {ex ex7:Rd->Nd×Rd} (hbx:Bad ex) (hs:∀ s,Stp 1 s (ex s).2) (h7:∀ s,Sk 1 s (ex7 s).2) {m:Nat} (hx:∀ a,a<m->Al a ex ex7):Al m (zcY rm ex) (aNb rm ex7):=
 gY (λs h=>zei rm ex _ s h) (λs=>zb1 rm hs _ s) (λs=>zda h7 _ s) (λs hb hm=>tN (aTh hrm hbx h7 hx) _ s hb (jB _) hm)
theorem aSe (hrm:rm []=true) {ex ex7:Rd->Nd×Rd} (hbx:Bad ex) (hs:∀ s,Stp 1 s (ex s).2) (h7:∀ s,Sk 1 s (ex7 s).2) {m:Nat} (hx:∀ a,a<m->Al a ex ex7):Al m (sumP rm ex) (sum7 rm ex7):=
 gY (zf2 rm ex) (λs=>zde rm hs s) (λs=>oK h7 s) (aWh hrm hbx hs h7 hx)
theorem Al.le {a b:Nat} {p r:Rd->Nd×Rd} (h:Al b p r) (e:a<=b):Al a p r:=λs hb hm=>h s hb (by omega)
theorem aJ7 (hrm:rm []=true):∀ f:Nat,Al f (zas rm (f+1)) (zfc rm (f+1))
 | 0=>gY (zeW rm _) (λs=>zb5 rm (zap rm _) s) (λs=>qQ (zdh _) s) (aSe hrm (zef rm _) (zap rm _) (zdh _) (λa ha=>aH ha (jH _)))
 | f+1=>gY (zeW rm _) (λs=>zb5 rm (zap rm _) s) (λs=>qQ (zdh _) s) (aSe hrm (zef rm _) (zap rm _) (zdh _) (λa ha=>(aJ7 hrm f).le (by omega)))
theorem order7_sk:Sk 0 s s.order7.2:=by
 unfold Rd.order7;split
 · simp only;split
   · exact(zgy.trans zdA).le (by omega)
   split
   · exact(zgy.trans zdA).le (by omega)
   exact((zgy.trans zdA).trans zfx).le (by omega)
 exact kJ s
theorem zdP {w:ByteArray}:Sk 0 s (s.bound7 w).2:=by
 unfold Rd.bound7;split
 · exact(zgy.trans (zdA (k:=2))).le (by omega)
 exact kJ s
theorem aNu (hb:s.b=false):Sm s.order s.order7:=by
 unfold Rd.order Rd.order7;rw[zb3 hb];by_cases hi:s.is 1 [zaJ]=true
 · simp only;rw[zcn hb hi,aB hi,aA (by simp)];have htb:s.tl.b=false:=hb;simp only;by_cases hk:s.tl.pk.k=1
   · rw[zd9 htb hk];by_cases hd:s.tl.is 1 [zcW]=true
     · have ht:=zgN hd;rw[zcn htb hd,aB rfl];simp only;rw[ht,aA (by decide),aB rfl];exact kK _
     have hd:s.tl.is 1 [zcW]=false:=(by simpa using hd);rw[zba (.inr hd),aA (by simp)];simp only;rw[zd9 htb hk];simp only;by_cases ha:s.tl.pk.t=tAsc
     · rw[aB ha];have e:(⟨s.tl.tl.l,s.tl.tl.n,s.tl.tl.b||decide (s.tl.pk.t≠tAsc)⟩:Rd)=s.tl.tl:=(by rw[aD (by simpa using ha),dQ]);rw[e];exact kK _
     have hne:¬s.tl.pk.t=zcW:=λe=>by
      unfold Rd.is at hd;rw[hk,e] at hd;revert hd;decide
     rw[aA ha,aA hne];refine Sm.no ?_ (.inl ?_)
     · show (s.tl.tl.b||decide (s.tl.pk.t≠tAsc))=true;rw[aE ha];simp
     show (s.tl.tl.b||true)=true;simp
   have hd:s.tl.is 1 [zcW]=false:=(by unfold Rd.is;rw[aD hk];rfl);rw[zba (.inr hd),aA (by simp),zeh (.inr hk)];refine Sm.no ?_ ?_
   · simp
   simp only;rw[aA (by decide),aA (by decide)];exact .inl O
 have hi:s.is 1 [zaJ]=false:=by simpa using hi
 simp only;rw[zba (.inr hi),aB rfl,aA (by rw[hi];decide)];exact kK _
theorem aEb {w:ByteArray} (hb:s.b=false):((s.bound w).2.b=false->s.bound7 w=s.bound w/\¬2000<(s.bound w).1)/\((s.bound w).2.b=true->Bd (s.bound7 w).2\/2000<(s.bound7 w).1):=by
 unfold Rd.bound Rd.bound7;rw[zb3 hb];by_cases hi:s.is 1 [w]=true
 · rw[zcn hb hi,aA (by simp),aB hi];simp only;by_cases hn:2000<(s.tl.number 2).1
   · rw[aE hn];exact⟨λe=>(by rw[jY] at e;cases e),λ_=>.inr hn⟩
   rw[aD hn,dQ];exact⟨λ_=>⟨O,hn⟩,λe=>.inl (.inl e)⟩
 have hi:s.is 1 [w]=false:=by simpa using hi
 rw[zba (.inr hi),aB rfl,aA (by rw[hi];decide)];exact⟨λ_=>⟨O,show ¬(2000:Int) < -1 by decide⟩,λe=>.inl (.inl e)⟩
theorem aGt (hrm:rm []=true) (l:List TokD):aJf rm l=zbN rm l:=by
 have he:=aJ7 hrm l.length ⟨l,0,false⟩ O (cU _);have hcn:=aAf rm l.length ⟨l,0,false⟩ (cU _);unfold aJf zbN;simp only;generalize zas rm (l.length+1) ⟨l,0,false⟩=p at he hcn ⊢;generalize zfc rm (l.length+1) ⟨l,0,false⟩=r at he ⊢;have out:∀ (x:Int) (u:Rd),Bd u\/2000<x->∀ y:Int,(u.b=true\/0<u.l.length\/200<u.n\/2000<x\/2000<y):=λx u h y=>by
  rcases h with (h | h) | h
  · exact .inl h
  · exact .inr (.inr (.inl h))
  exact .inr (.inr (.inr (.inl h)))
 by_cases hpb:p.2.b=true
 · rw[aB (out _ _ (.inl (zdP.bd (zdP.bd (order7_sk.bd (he.d hpb))))) _),aB (.inl (zdH (zdH (aG6 hpb))))]
 have hpb:=bf hpb;rw[he.g hpb];have h1:=aNu hpb;by_cases hob:p.2.order.2.b=true
 · rw[aB (out _ _ (.inl (zdP.bd (zdP.bd (h1.d hob)))) _),aB (.inl (zdH (zdH hob)))]
 have hob:=bf hob;rw[h1.g hob];obtain ⟨a1,a2⟩:=aEb (w:=zar) hob;by_cases hab:(p.2.order.2.bound zar).2.b=true
 · rw[aB,aB (.inl (zdH hab))];rcases a2 hab with k | k
   · exact out _ _ (.inl (zdP.bd k)) _
   exact .inr (.inr (.inr (.inl k)))
 have hab:=bf hab;obtain ⟨a3,a4⟩:=a1 hab;rw[a3];obtain ⟨b1,b2⟩:=aEb (w:=z8) hab;by_cases hbb:((p.2.order.2.bound zar).2.bound z8).2.b=true
 · rw[aB,aB (.inl hbb)];rcases b2 hbb with k | k
   · exact out 0 _ (.inl k) _ |>.imp id (λk=>k.imp id (λk=>k.imp id (λk=>by rcases k with k | k;exact aH k (by decide);exact .inr k)))
   exact .inr (.inr (.inr (.inr k)))
 have hbb:=bf hbb;obtain ⟨b3,b4⟩:=b1 hbb;rw[b3];have hn:((p.2.order.2.bound zar).2.bound z8).2.n<=200:=by
  have e1:∀ (u:Rd) (w:ByteArray),(u.bound w).2.n=u.n:=λu w=>by
   unfold Rd.bound;split
   · exact zbK
   exact zea.trans zbK
  have e2:p.2.order.2.n=p.2.n:=by
   unfold Rd.order;simp only;split
   · exact zbK
   split
   · exact zbK.trans zbK
   exact zea.trans (zbK.trans zbK)
  rw[e1,e1,e2];exact(hcn hpb).2
 by_cases hl:0<((p.2.order.2.bound zar).2.bound z8).2.l.length
 · rw[aB (.inr (.inl hl)),aB (.inr hl)]
 rw[aA,aA (by rintro (k | k);(rw[hbb] at k;cases k);exact hl k)];rintro (k | k | k | k | k)
 · rw[hbb] at k;cases k
 · exact hl k
 · omega
 · exact a4 k
 exact b4 k
end
end Lp
namespace Lp
open Go
def zdv:List UInt8->Option Nat
 | []=>none
 | [b]=>if b=92 then none else if b=34 then some 0 else none
 | b::c::t=>if b=92 then(zdv t).map (· +2) else if b=34 then some 0 else(zdv (c::t)).map (· +1)
theorem rP {t:List UInt8}:zdv (92::t)=(zdv (t.drop 1)).map (· +2):=by
 cases t with
 | nil=>rfl
 | cons c t=>show (if (92:UInt8)=92 then _ else _)=_;rw[aB rfl];rfl
theorem iM {b:UInt8} {t:List UInt8} (h:b≠92) (h2:b≠34):zdv (b::t)=(zdv t).map (· +1):=by
 cases t with
 | nil=>show (if b=92 then none else if b=34 then some 0 else none)=_;rw[aA h,aA h2];rfl
 | cons c t=>show (if b=92 then _ else if b=34 then some 0 else _)=_;rw[aA h,aA h2]
theorem rF {t:List UInt8}:zdv (34::t)=some 0:=by
 cases t with
 | nil=>rfl
 | cons c t=>rfl
theorem gG:∀ (j:Nat) (l:List UInt8),j<=l.length->(∀ k,k<j->128<=gb l k)->zdv l=(zdv (l.drop j)).map (· +j)
 | 0,l,_,_=>by simp
 | j+1,[],h,_=>by simp at h
 | j+1,b::t,h,hk=>by
  have h0:128<=b.toNat:=hk 0 (by omega);rw[iM (by rintro rfl;exact aH h0 (by decide)) (by rintro rfl;exact aH h0 (by decide))];rw[gG j t (by simpa using h) (λk hk2=>hk (k+1) (by omega))];show _=(zdv (t.drop j)).map _;cases zdv (t.drop j) with
  | none=>rfl
  | some i=>show some (i+j+1)=some (i+(j+1));congr 1
theorem aC0 {l:List UInt8} {k:Nat} (h1:1<=k) (h2:k<(decL l).2):128<=gb l k:=by
 have c:∀ {j:Nat},za8 l j=true->128<=gb l j:=λ{j} h=>by
  unfold za8 at h;simp only[cY,beq_iff_eq] at h;omega
 revert h2;unfold decL;split
 · intro h2;have h2:k<1:=h2;omega
 split
 · rename_i h;simp only[cY] at h;split
   · intro h2;have h2:k<2:=h2;obtain rfl:k=1:=(by omega);exact c h.2
   intro h2;have h2:k<1:=h2;omega
 split
 · rename_i h;simp only[cY] at h;split
   · intro h2;have h2:k<3:=h2;rcases (show k=1\/k=2 by omega) with rfl | rfl
     · exact c h.1.2
     exact c h.2
   intro h2;have h2:k<1:=h2;omega
 split
 · rename_i h;simp only[cY] at h;split
   · intro h2;have h2:k<4:=h2;rcases (show k=1\/k=2\/k=3 by omega) with rfl | rfl | rfl
     · exact c h.1.1.2
     · exact c h.1.2
     exact c h.2
   intro h2;have h2:k<1:=h2;omega
 intro h2;have h2:k<1:=h2;omega
theorem eJ {b:UInt8} {t:List UInt8} (h:¬b.toNat<128):128<=(decL (b::t)).1/\128<=b.toNat:=by
 have h0:gb (b::t) 0=b.toNat:=rfl;have hb:b.toNat<256:=uL _;refine⟨?_,by omega⟩;unfold decL;rw[h0,aA h];split
 · split
   · show 128<=_;omega
   show 128<=65533;omega
 split
 · split
   · rename_i h3;simp only[cY,aI] at h3;show 128<=_;have:=h3.1;omega
   show 128<=65533;omega
 split
 · split
   · rename_i h3;simp only[cY,aI] at h3;show 128<=_;have:=h3.1;omega
   show 128<=65533;omega
 show 128<=65533;omega
theorem eO (o:Option Nat) (a b:Nat):(o.map (· +a)).map (· +b)=o.map (· +(a+b)):=by
 cases o with
 | none=>rfl
 | some i=>show some (i+a+b)=some (i+(a+b));congr 1;omega
theorem xS:∀ (n:Nat) (l:List UInt8),l.length=n->zal false l=zdv l:=by
 intro n
 induction n using Nat.strongRecOn with
 | _ n ih=>
  intro l hl;cases l with
  | nil=>rw[fQ];rfl
  | cons b t=>
   have hd:=zbi (b::t);have hle:=zdG (l:=b::t) (by simp);by_cases hb:b.toNat<128
   · by_cases h92:b=92
     · subst h92;rw[zbF (by simp),zai hb,aA (by simp),aB (by decide),rP];show (zal true t).map _=_;cases t with
       | nil=>rw[fQ];rfl
       | cons c t=>
        have hw:=zbi (c::t);have hwl:=zdG (l:=c::t) (by simp);simp only[dD] at hl hwl;rw[zbF (by simp),aB rfl];rw[ih ((c::t).drop (decL (c::t)).2).length (by rw[cZ,dD];omega) _ rfl,eO];show _=(zdv t).map _;have e:=gG ((decL (c::t)).2-1) t (by omega) (λk hk=>by
         have:=aC0 (l:=c::t) (k:=k+1) (by omega) (by omega);exact this)
        have e2:(c::t).drop (decL (c::t)).2=t.drop ((decL (c::t)).2-1):=by
         obtain ⟨m,hm⟩:∃ m,(decL (c::t)).2=m+1:=⟨(decL (c::t)).2-1,by omega⟩;rw[hm];rfl
        rw[e,eO,e2];congr 1
        funext i
        show i+_=i+_;omega
     by_cases h34:b=34
     · subst h34;rw[zbF (by simp),zai hb,aA (by simp),aA (by decide),aB (by decide),rF]
     have n1:b.toNat≠92:=λe=>h92 (jR.1 e)
     have n2:b.toNat≠34:=λe=>h34 (jR.1 e)
     simp only[dD] at hl;rw[qV hb n1 n2,iM h92 h34,ih t.length (by omega) t rfl]
   obtain ⟨g1,g2⟩:=eJ (t:=t) hb;simp only[dD] at hl;rw[zbF (by simp),aA (by simp),aA (by omega),aA (by omega)];rw[ih ((b::t).drop (decL (b::t)).2).length (by rw[cZ,dD];omega) _ rfl];exact(gG _ _ hle (λk hk=>by
    rcases jT k with rfl | h0
    · exact g2
    exact aC0 h0 hk)).symm
theorem pI:∀ (xs:List ByteArray) (k:Nat) (l:List UInt8),(∀ x∈xs,x.size=k)->zaj xs l=if k<=l.length/\hasN xs (mkB (l.take k))=true then(⟨5,0,mkB (l.take k)⟩,k) else(zbm,0)
 | [],k,l,_=>by simp[zaj,hasN]
 | x::xs,k,l,h=>by
  have hx:=h x cW;have ih:=pI xs k l (λy hy=>h y (dA _ hy));unfold zaj;by_cases hp:(bl8 x).isPrefixOf l=true
  · rw[aB hp];rw[j8] at hp;have hl:=hp.length_le;rw[zV,hx] at hl;have e:mkB (l.take k)=x:=by
     obtain ⟨t,rfl⟩:=hp;rw[vU (by rw[zV,hx]),zeJ]
    rw[aB ⟨hl,by rw[e];simp[hasN]⟩,e,hx]
  rw[aA hp,ih];have hn:k<=l.length->¬mkB (l.take k)=x:=λhl e=>hp (by
   rw[j8];refine⟨l.drop k,?_⟩;rw[<-e,zbt,d8])
  have e:(k<=l.length/\hasN (x::xs) (mkB (l.take k))=true)↔(k<=l.length/\hasN xs (mkB (l.take k))=true):=by
   constructor
   · rintro ⟨h1,h2⟩;refine⟨h1,?_⟩;have h3:=hn h1;simp only[hasN,jL,d7,aI] at h2 ⊢;rcases h2 with h2 | h2
     · first | exact aH h2 h3 | exact aH h2.symm h3
     exact h2
   rintro ⟨h1,h2⟩;refine⟨h1,?_⟩;simp only[hasN,jL,d7,aI] at h2 ⊢;exact .inr h2
  simp only[e]
theorem iW {x:ByteArray} {xs:List ByteArray} {l:List UInt8}:zaj (x::xs) l=if (bl8 x).isPrefixOf l=true then(⟨5,0,x⟩,x.size) else zaj xs l:=by
 conv=>lhs;unfold zaj
theorem nK:∀ (xs ys:List ByteArray) (l:List UInt8),(∀ x∈xs,0<x.size)->zaj (xs++ys) l=if (zaj xs l).2=0 then zaj ys l else zaj xs l
 | [],ys,l,_=>by
  have e:(zaj [] l).2=0:=rfl;show zaj ys l=_;rw[aB e]
 | x::xs,ys,l,h=>by
  have hx:=h x cW;have ih:=nK xs ys l (λy hy=>h y (dA _ hy));show zaj (x::(xs++ys)) l=_;rw[iW,iW];by_cases hp:(bl8 x).isPrefixOf l=true
  · rw[aB hp,aB hp,aA (by show ¬x.size=0;omega)]
  rw[aA hp,aA hp,ih]
def zfY:List ByteArray:=zY.take 6
def zfZ:List ByteArray:=zY.drop 6
theorem sW {l:List UInt8}:zbS l=if 2<=l.length/\hasN zY (mkB (l.take 2))=true then(⟨5,0,mkB (l.take 2)⟩,2) else if 1<=l.length/\hasN zY (mkB (l.take 1))=true then(⟨5,0,mkB (l.take 1)⟩,1) else(zbm,0):=by
 have h2:∀ x∈zfY,x.size=2:=by decide
 have h1:∀ x∈zfZ,x.size=1:=by decide
 have e:zY=zfY++zfZ:=rfl;have hh:∀ (y:ByteArray),hasN zY y=(hasN zfY y||hasN zfZ y):=λy=>by rw[e];simp[hasN]
 have no:∀ (xs:List ByteArray) (k:Nat) (y:ByteArray),(∀ x∈xs,x.size=k)->y.size≠k->hasN xs y=false:=λxs k y h hy=>by
  unfold hasN;rw[List.any_eq_false];intro x hx e;rw[aI] at e;exact hy (by first | (rw[e];exact h x hx) | (rw[<-e];exact h x hx))
 have k2:2<=l.length->hasN zY (mkB (l.take 2))=hasN zfY (mkB (l.take 2)):=λh=>by
  rw[hh,no zfZ 1 _ h1 (by rw[zah,d6];omega),dQ]
 have k1:1<=l.length->hasN zY (mkB (l.take 1))=hasN zfZ (mkB (l.take 1)):=λh=>by
  rw[hh,no zfY 2 _ h2 (by rw[zah,d6];omega),uQ]
 unfold zbS;rw[e,nK _ _ _ (λx hx=>by have:=h2 x hx;omega),pI _ 2 l h2,pI _ 1 l h1,<-e];by_cases a:2<=l.length/\hasN zfY (mkB (l.take 2))=true
 · rw[aB a,aA (by show ¬(2:Nat)=0;omega),aB ⟨a.1,by rw[k2 a.1];exact a.2⟩]
 have na:¬(2<=l.length/\hasN zY (mkB (l.take 2))=true):=λe=>a ⟨e.1,by rw[<-k2 e.1];exact e.2⟩
 rw[aA a,aB rfl,aA na];by_cases b:1<=l.length/\hasN zfZ (mkB (l.take 1))=true
 · rw[aB b,aB ⟨b.1,by rw[k1 b.1];exact b.2⟩]
 rw[aA b,aA (λe=>b ⟨e.1,by rw[<-k1 e.1];exact e.2⟩)]
def wcL (l:List UInt8):Nat:=if h:l≠[]/\isLD ((decL l).1:Int)=true then 1+wcL (l.drop (decL l).2) else 0
termination_by l.length
decreasing_by
 have h1:=zbi l;have h2:=dE.2 h.1;rw[cZ];omega
theorem aQa {l:List UInt8} (h:l≠[]) (hf:isLD ((decL l).1:Int)=true):wcL l=1+wcL (l.drop (decL l).2):=by
 conv=>lhs;unfold wcL
 rw[dif_pos ⟨h,hf⟩]
theorem a3q {l:List UInt8} (hf:isLD ((decL l).1:Int)=false):wcL l=0:=by
 unfold wcL;rw[dif_neg (by rw[hf];simp)]
theorem aS1:wcL []=0:=by unfold wcL;rw[dif_neg (by simp)]
def rL (l:List UInt8):List Int:=if h:l=[] then [] else((decL l).1:Int)::rL (l.drop (decL l).2)
termination_by l.length
decreasing_by
 have h1:=zbi l;have h2:=dE.2 h;rw[cZ];omega
theorem aR3:rL []=[]:=by unfold rL;rw[dif_pos rfl]
theorem aAj {l:List UInt8} (h:l≠[]):rL l=((decL l).1:Int)::rL (l.drop (decL l).2):=by
 conv=>lhs;unfold rL
 rw[dif_neg h]
theorem aO0:∀ (n:Nat) (s:ByteArray) (p:Nat),s.size-p=n->zaW s p=rL (bts s p):=by
 intro n
 induction n using Nat.strongRecOn with
 | _ n ih=>
  intro s p hp;rcases c8 p s.size with h | h
  · have h1:=zF s p;rw[zaw h,aAj (zdz h),zbV,<-zbs,<-zb9,ih _ (by omega) s _ rfl]
  rw[zaG h,zdm h,aR3]
theorem zev {r:Int}:isLD r=true↔(zD r=1\/zD r=2):=by
 show inK [1,2] r=true↔_;unfold inK;simp only[jL,jX,dQ,d7,aI];constructor
 · rintro (h | h)
   · exact .inl h.symm
   exact .inr h.symm
 rintro (h | h)
 · exact .inl h.symm
 exact .inr h.symm
theorem aK2 {l:List UInt8} (h:l≠[]) (hf:isLD ((decL l).1:Int)=true):l=encR (decL l).1++l.drop (decL l).2/\(encR (decL l).1).length=(decL l).2/\∀ x,(decL (encR (decL l).1++x)).1=(decL l).1:=by
 have hs:0<(mkB l).size:=by rw[zah];exact dE.2 h
 have hb:bts (mkB l) 0=l:=zgs l;have hd:decR (mkB l) 0=(decL l).1:=by rw[zbs,hb]
 have hw:decW (mkB l) 0=(decL l).2:=by rw[zb9,hb]
 have hlt:=aJ8 l;rcases fK (mkB l) 0 hs with e | ⟨e,_,_⟩
 · have e2:bts (mkB l) (0+decW (mkB l) 0)=l.drop (decL l).2:=(by rw[<-zbV,hb,hw]);rw[e2,hb,hd] at e;have hc:=aG decL e;have hS:=gX (decL l).1 (l.drop (decL l).2) hlt;rw[<-e] at hS;have hn:¬(55296<=(decL l).1/\(decL l).1<=57343):=λhh=>by
    have:=hS.2;rw[aB hh] at this;omega
   exact⟨e,hS.1.symm,λx=>by rw[(gX (decL l).1 x hlt).2,aA hn]⟩
 exfalso;rw[hd] at e;rw[zev,e] at hf;revert hf;decide
theorem aGx:∀ (n:Nat) (l:List UInt8),l.length=n->(rL (l.take (runL isLD l))).length=wcL l/\zd4 (rL (l.take (runL isLD l)))=true:=by
 intro n
 induction n using Nat.strongRecOn with
 | _ n ih=>
  intro l hl;by_cases h:l≠[]/\isLD ((decL l).1:Int)=true
  · obtain ⟨e1,e2,e3⟩:=aK2 h.1 h.2;have hp:=zbi l;have hle:=zdG h.1;obtain ⟨i1,i2⟩:=ih (l.length-(decL l).2) (by omega) (l.drop (decL l).2) cZ;have ht:l.take (runL isLD l)=encR (decL l).1++(l.drop (decL l).2).take (runL isLD (l.drop (decL l).2)):=by
     rw[zcD h.1 h.2]
     conv=>lhs;arg 2;rw[e1]
     rw[<-e2,List.take_length_add_append]
    have hne:encR (decL l).1++(l.drop (decL l).2).take (runL isLD (l.drop (decL l).2))≠[]:=λe=>by
     have:=aG List.length e;rw[c7,e2] at this;simp only[jE] at this;omega
    have hd1:=e3 ((l.drop (decL l).2).take (runL isLD (l.drop (decL l).2)));have hd2:=(gX (decL l).1 ((l.drop (decL l).2).take (runL isLD (l.drop (decL l).2))) (aJ8 l)).1;have hr:rL (l.take (runL isLD l))=((decL l).1:Int)::rL ((l.drop (decL l).2).take (runL isLD (l.drop (decL l).2))):=by
     rw[ht,aAj hne,hd1,hd2,vL]
    rw[hr,aQa h.1 h.2];refine⟨by rw[dD,i1];omega,?_⟩;rw[zdQ,i2,vP,aI];exact zev.1 h.2
  have h0:runL isLD l=0:=by unfold runL;rw[dif_neg h]
  have h1:wcL l=0:=by unfold wcL;rw[dif_neg h]
  rw[h0,h1,vV,aR3];exact⟨rfl,rfl⟩
theorem aEp {l:List UInt8} (h:zD ((decL l).1:Int)=1):zcC (mkB (l.take (runL isLD l)))=decide (wcL l<=30):=by
 obtain ⟨h1,h2⟩:=aGx _ l rfl;have hne:l≠[]:=by
  rintro rfl;revert h;decide
 have hf:isLD ((decL l).1:Int)=true:=zev.2 (.inl h);obtain ⟨e1,e2,e3⟩:=aK2 hne hf;have hp:=zbi l;have hr:zB (mkB (l.take (runL isLD l)))=rL (l.take (runL isLD l)):=by
  have:=aO0 _ (mkB (l.take (runL isLD l))) 0 rfl;rw[show bts (mkB (l.take (runL isLD l))) 0=l.take (runL isLD l) from zgs _] at this;exact this
 have hd:(rL (l.take (runL isLD l))).getD 0 0=((decL l).1:Int):=by
  have ht:l.take (runL isLD l)=encR (decL l).1++(l.drop (decL l).2).take (runL isLD (l.drop (decL l).2)):=by
   rw[zcD hne hf]
   conv=>lhs;arg 2;rw[e1]
   rw[<-e2,List.take_length_add_append]
  have hn2:l.take (runL isLD l)≠[]:=λe=>by
   have:=aG List.length e;rw[ht,c7,e2] at this;simp only[jE] at this;omega
  rw[aAj hn2,ht,e3];rfl
 have hw:=aQa hne hf;unfold zcC;rw[zcr,hr,hd,h2,h1,h];have:1<=wcL l:=by omega
 simp[this]
theorem eM {l:List UInt8} (h:zD ((decL l).1:Int)=1):zcg l=if wcL l<=30 then(⟨1,0,mkB (l.take (runL isLD l))⟩,runL isLD l) else(zbm,0):=by
 unfold zcg;rw[aEp h];simp only[aI]
section
variable {s:ByteArray} {p:Nat}
theorem aL6:wcL (bl8 s)=0+wcL (bts s 0):=by rw[dW];rfl
theorem aV1 {k:Nat} (hf:wcL (bl8 s)=k+wcL (bts s p)) (h:p<s.size) (ht:isLD ((decR s p:Nat):Int)=true):wcL (bl8 s)=(k+1)+wcL (bts s (p+decW s p)):=by
 rw[zbs] at ht;rw[hf,aQa (zdz h) ht,zbV,<-zb9,wA]
theorem aIp {k:Nat} (hf:wcL (bl8 s)=k+wcL (bts s p)) (ht:isLD ((decR s p:Nat):Int)=false):k=wcL (bl8 s):=by
 rw[zbs] at ht;rw[hf,a3q ht];rfl
theorem aQ6 {k:Nat} (hf:wcL (bl8 s)=k+wcL (bts s p)) (h:s.size<=p):k=wcL (bl8 s):=by rw[hf,zdm h,aS1];rfl
theorem a2q:∀ (n:Nat) (l:List UInt8),l.length=n->wcL l<=l.length:=by
 intro n
 induction n using Nat.strongRecOn with
 | _ n ih=>
  intro l hl;by_cases h:l≠[]/\isLD ((decL l).1:Int)=true
  · have h1:=zbi l;have h2:=zdG h.1;have:=ih (l.length-(decL l).2) (by omega) _ cZ;rw[cZ] at this;rw[aQa h.1 h.2];omega
  unfold wcL;rw[dif_neg h];omega
theorem aMt {u:UInt8} (h:s[p]?=some u) (hd:48<=u.toNat/\u.toNat<=57) (hf:runL isD (bl8 s)=p+runL isD (bts s p)) (hp:p<s.size):runL isD (bl8 s)=(p+1)+runL isD (bts s (p+1)):=by
 have e:bts s p=u::bts s (p+1):=by rw[zaN hp,show s.get! p=u from jR.1 (by rw[<-zdj hp,zM h])]
 obtain ⟨h1,h2⟩:=qZ hd (bts s (p+1));rw[hf,e,zcD (by simp) (aSx _ h1),h2];show p+(1+runL isD (bts s (p+1)))=_;omega
end
end Lp
set_option linter.unusedSimpArgs false
set_option maxHeartbeats 4000000
set_option maxRecDepth 100000
namespace Lp
open Go Go.RowKit Go.Proofs Tryz
theorem aTl {l:List ByteArray} {s:ByteArray} (h:∀ m∈l,¬s=m):hasN l s=false:=by
 unfold hasN;rw[List.any_eq_false];intro m hm e;rw[aI] at e;exact h m hm e.symm
theorem oB (s:ByteArray) (hz:0<s.size):
 CD prog 137 [] [.s s] (isR (dR ((decR s 0:Nat):Int))):=by
 refine tZ func137 O O (λC=>?_);refine T.bd 0 O (λbd0=>?_);have sz0:s.size<=9223372036854775807:=bd0;refine g' 9 O (tE O (zcw O aK) ?_);rintro _ _ ⟨g1,rfl,rfl⟩;refine g' 3 O (tl1 (λ(a_:Nat)=>[(6,dP g1 0)]) (λa_=>[.it g1 s a_]) (λa_=>(a_<=s.size)/\(a_=0)) (λa_=>s.size-a_) 0 O (sa O) w9 ⟨cX _,O⟩ ?_);rintro p ⟨hp,hp0⟩;rcases c8 p s.size with hlt | hge
 · have hrune:=zaw hlt;have hrl:=zbQ s p;have hdw:=zae s p hlt;have hdp:=zF s p;refine g' 2 O (tE O (zbA (i:=0) O O hlt) ?_);rintro _ _ ⟨rfl,rfl⟩;refine g' 25 O ?_;exact tRs O results137 (.cons (zd (zc O) (Cv.eq (aG dR (by rw[hp0])))) .nil) O mO ⟨O,O⟩
 have hrune:=zaG hge;refine g' 2 O (tP O (zco (i:=0) O O hge) (g' 16 O ?_));exact tRs O results137 (.cons (zd (zc O) (Cv.eq (aG dR (by exfalso;omega)))) .nil) O mO ⟨O,O⟩
theorem aSw (s:ByteArray) (hz:0<s.size):
 CD prog 184 [] [.s s] (isR (dN (decW s 0))):=by
 refine tZ func184 O O (λC=>?_);refine T.bd 0 O (λbd0=>?_);have sz0:s.size<=9223372036854775807:=bd0;have hw0:=zae s 0 hz;have hw1:=zF s 0;refine g' 9 O (tE O (zcw O aK) ?_);rintro _ _ ⟨g1,rfl,rfl⟩;refine g' 3 O (tl1 (λ(a_:Nat)=>[(0,.s s),(5,dP g1 0)]) (λa_=>[.it g1 s a_]) (λa_=>(a_<=s.size)/\(a_=0\/a_=decW s 0)) (λa_=>s.size-a_) 0 O (sa O) w9 ⟨cX _,.inl O⟩ ?_);rintro p ⟨hp,hp0⟩;rcases c8 p s.size with hlt | hge
 · have hrune:=zaw hlt;have hrl:=zbQ s p;have hdw:=zae s p hlt;have hdp:=zF s p;refine g' 2 O (tE O (zbA (i:=0) O O hlt) ?_);rintro _ _ ⟨rfl,rfl⟩;refine g' 20 O ?_;refine tD O (λhc2=>?_) (λhc2=>?_)
   · refine g' 11 O ?_;exact tRs O results184 (.cons (zd (zc O) (Cv.eq (aG dN (by omega)))) .nil) O mO ⟨O,O⟩
   refine g' 2 O ?_;exact tp1 (p+decW s p) (sa O) w9 ⟨by have:=zae s p hlt;omega,.inr (by have hp1:p=0:=(by omega);rw[hp1,dW])⟩ (by have:=zF s p;omega)
 have hrune:=zaG hge;refine g' 2 O (tP O (zco (i:=0) O O hge) (g' 13 O (tP O (zw O aK) (g' 4 O ?_))));exact tRs O results184 (.cons (zd (zc O) (Cv.eq (aG dN (by have hw0:=zae s 0 hz;have hw1:=zF s 0;omega)))) .nil) O mO ⟨O,O⟩
theorem aVe (s:ByteArray) :
 CD prog 165 [] [.s s] (isR (dB (hasN zY s))):=by
 refine tZ func165 O O (λC=>?_);refine T.bd 0 O (λbd0=>?_);have sz0:s.size<=9223372036854775807:=bd0;refine g' 13 O ?_;refine tJ (λ(jg:Bool)=>[(2,dB false),(4,dB jg)]) (λ(jg:Bool)=>[]) (λ(jg:Bool)=>(jg=hasN zY s)) (λ_ hQ1=>?_) ?_
 · refine g' 6 O ?_;refine tD O (λhc2=>?_) (λhc2=>?_)
   · refine g' 1 O ?_;exact tqe (hQ1 (decide (s=(⟨#[43]⟩:ByteArray))) (by rw[hc2];decide)) O
   refine g' 6 O ?_;refine tD O (λhc3=>?_) (λhc3=>?_)
   · refine g' 1 O ?_;exact tqe (hQ1 (decide (s=(⟨#[45]⟩:ByteArray))) (by rw[hc3];decide)) O
   refine g' 6 O ?_;refine tD O (λhc4=>?_) (λhc4=>?_)
   · refine g' 1 O ?_;exact tqe (hQ1 (decide (s=(⟨#[42]⟩:ByteArray))) (by rw[hc4];decide)) O
   refine g' 6 O ?_;refine tD O (λhc5=>?_) (λhc5=>?_)
   · refine g' 1 O ?_;exact tqe (hQ1 (decide (s=(⟨#[47]⟩:ByteArray))) (by rw[hc5];decide)) O
   refine g' 6 O ?_;refine tD O (λhc6=>?_) (λhc6=>?_)
   · refine g' 1 O ?_;exact tqe (hQ1 (decide (s=(⟨#[37]⟩:ByteArray))) (by rw[hc6];decide)) O
   refine g' 6 O ?_;refine tD O (λhc7=>?_) (λhc7=>?_)
   · refine g' 1 O ?_;exact tqe (hQ1 (decide (s=(⟨#[40]⟩:ByteArray))) (by rw[hc7];decide)) O
   refine g' 6 O ?_;refine tD O (λhc8=>?_) (λhc8=>?_)
   · refine g' 1 O ?_;exact tqe (hQ1 (decide (s=(⟨#[41]⟩:ByteArray))) (by rw[hc8];decide)) O
   refine g' 6 O ?_;refine tD O (λhc9=>?_) (λhc9=>?_)
   · refine g' 1 O ?_;exact tqe (hQ1 (decide (s=(⟨#[123]⟩:ByteArray))) (by rw[hc9];decide)) O
   refine g' 6 O ?_;refine tD O (λhc10=>?_) (λhc10=>?_)
   · refine g' 1 O ?_;exact tqe (hQ1 (decide (s=(⟨#[125]⟩:ByteArray))) (by rw[hc10];decide)) O
   refine g' 6 O ?_;refine tD O (λhc11=>?_) (λhc11=>?_)
   · refine g' 1 O ?_;exact tqe (hQ1 (decide (s=(⟨#[91]⟩:ByteArray))) (by rw[hc11];decide)) O
   refine g' 6 O ?_;refine tD O (λhc12=>?_) (λhc12=>?_)
   · refine g' 1 O ?_;exact tqe (hQ1 (decide (s=(⟨#[93]⟩:ByteArray))) (by rw[hc12];decide)) O
   refine g' 6 O ?_;refine tD O (λhc13=>?_) (λhc13=>?_)
   · refine g' 1 O ?_;exact tqe (hQ1 (decide (s=(⟨#[44]⟩:ByteArray))) (by rw[hc13];decide)) O
   refine g' 6 O ?_;refine tD O (λhc14=>?_) (λhc14=>?_)
   · refine g' 1 O ?_;exact tqe (hQ1 (decide (s=(⟨#[61]⟩:ByteArray))) (by rw[hc14];decide)) O
   refine g' 6 O ?_;refine tD O (λhc15=>?_) (λhc15=>?_)
   · refine g' 1 O ?_;exact tqe (hQ1 (decide (s=(⟨#[61,61]⟩:ByteArray))) (by rw[hc15];decide)) O
   refine g' 6 O ?_;refine tD O (λhc16=>?_) (λhc16=>?_)
   · refine g' 1 O ?_;exact tqe (hQ1 (decide (s=(⟨#[33,61]⟩:ByteArray))) (by rw[hc16];decide)) O
   refine g' 6 O ?_;refine tD O (λhc17=>?_) (λhc17=>?_)
   · refine g' 1 O ?_;exact tqe (hQ1 (decide (s=(⟨#[60]⟩:ByteArray))) (by rw[hc17];decide)) O
   refine g' 6 O ?_;refine tD O (λhc18=>?_) (λhc18=>?_)
   · refine g' 1 O ?_;exact tqe (hQ1 (decide (s=(⟨#[60,61]⟩:ByteArray))) (by rw[hc18];decide)) O
   refine g' 6 O ?_;refine tD O (λhc19=>?_) (λhc19=>?_)
   · refine g' 1 O ?_;exact tqe (hQ1 (decide (s=(⟨#[62]⟩:ByteArray))) (by rw[hc19];decide)) O
   refine g' 6 O ?_;refine tD O (λhc20=>?_) (λhc20=>?_)
   · refine g' 1 O ?_;exact tqe (hQ1 (decide (s=(⟨#[62,61]⟩:ByteArray))) (by rw[hc20];decide)) O
   refine g' 6 O ?_;refine tD O (λhc21=>?_) (λhc21=>?_)
   · refine g' 1 O ?_;exact tqe (hQ1 (decide (s=(⟨#[61,126]⟩:ByteArray))) (by rw[hc21];decide)) O
   refine g' 4 O ?_;exact tqe (hQ1 (decide (s=(⟨#[33,126]⟩:ByteArray))) (by by_cases hz:s=(⟨#[33,126]⟩:ByteArray);(rw[hz];decide);rw[aD hz];exact(aTl (by simp only[zY,List.forall_mem_cons];exact⟨by assumption,by assumption,by assumption,by assumption,by assumption,by assumption,by assumption,by assumption,by assumption,by assumption,by assumption,by assumption,by assumption,by assumption,by assumption,by assumption,by assumption,by assumption,by assumption,by assumption,by assumption,by simp⟩)).symm)) O
 rintro sb hsb;refine g' 1 O ?_;refine tC O (λhc22=>?_) (λhc22=>?_)
 · refine g' 8 O ?_;exact tRs O results165 (.cons (zd (zc O) (cB ((by exact hc22.symm.trans hsb)))) .nil) O mO ⟨O,O⟩
 refine g' 9 O ?_;exact tRs O results165 (.cons (zd (zc O) (cB ((by exact hc22.symm.trans hsb)))) .nil) O mO ⟨O,O⟩
end Lp
