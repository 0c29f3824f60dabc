import Derived.Test.YtheccaeefigajaaGreatDoorV127
set_option linter.unusedSimpArgs false
set_option linter.unusedVariables false
namespace Lp
open Go
def opsC:List ByteArray:=[tEqq,tNe,tLt,tLe,tGt,tGe,zdB,z6,zcb,zeV,tMod]
def Lw (l:List UInt8) (W:List TokD):Prop:=∃ vs,zQ l 0=some vs/\vs.map er=W.map er
theorem Lw.lx {s:ByteArray} {W:List TokD} (h:Lw (bl8 s) W):Lx s W:=h
theorem Lw.step {l r:List UInt8} {x:TokD} {W:List TokD} (h:Lw r W) (hne:l≠[]) (hb:runL isB (l++r)=0) (hf:zg (l++r)=(x,l.length)):Lw (l++r) (x::W):=by
 obtain ⟨us,e1,e2⟩:=h;obtain ⟨vs,e3,e4⟩:=aFl hne hb hf e1;exact⟨vs,e3,by rw[e4,jS,jS,e2]⟩
theorem aLe (a:Nat):∃ b t,digL a=b::t/\48<=b.toNat/\b.toNat<=57:=by
 obtain ⟨b,t,e⟩:=uA (aH6 a);exact⟨b,t,e,kT a b (by rw[e];exact cW)⟩
section
variable {a b c:Nat} {p q:ByteArray}
end
end Lp
namespace Lp
open Go
abbrev FW (x:ByteArray):Prop:=FitT ⟨1,0,x⟩
def TF (l:List TokD):Prop:=∀ x∈l,FitT x
theorem TF.suf {l m:List TokD} (h:TF l) (k:m <:+l):TF m:=λx hx=>h x (k.subset hx)
theorem aHw {x y:TokD} (h:FitT x) (hk:x.k=y.k) (ht:x.t=y.t):FitT y:=by
 obtain ⟨a,b,c⟩:=x;obtain ⟨d,e,f⟩:=y;simp only at hk ht;subst hk;subst ht;exact h
inductive Rdy (rm:List MatD->Bool):Nd->Prop
 | num {n:Nat} (h:n<=1000000000000):Rdy rm (.mk tNum ByteArray.empty (n:Int) 0 [] [] [])
 | neg {x:Nd}:Rdy rm x->Rdy rm (.mk tNeg ByteArray.empty 0 0 [] [] [x])
 | bin {text:ByteArray} {mode:Int} {names:List ByteArray} {x y:Nd} (ht:text∈opsC) (h:mode=0/\names=[]\/mode=1\/mode=2) (hn:∀ x∈names,FW x):Rdy rm x->Rdy rm y->Rdy rm (.mk tBin text 0 mode names [] [x,y])
 | agg {text:ByteArray} {n:Nat} {mode:Int} {names:List ByteArray} {x:Nd} (ht:hasN aggN text=true) (h:n<=1000000000000) (hn:zU text=false->n=0) (hm:mode=0/\names=[]\/mode=1\/mode=2) (hw:∀ x∈names,FW x):Rdy rm x->Rdy rm (.mk tAgg text (n:Int) mode names [] [x])
 | fn {text:ByteArray} {x:Nd} (ht:hasN fnN text=true):Rdy rm x->Rdy rm (.mk tFn text 0 0 [] [] [x])
 | sel {text:ByteArray} {n:Nat} {ms:List MatD} (ht:text=ByteArray.empty\/FW text/\zcP text=false) (h:n<=1000000000000) (hs:n=0\/FitT ⟨4,0,digB n⟩) (hm:∀ m∈ms,FW m.n/\1<=m.op/\m.op<=4) (hr:ms=[]\/rm ms=true):Rdy rm (.mk nSel text (n:Int) 0 [] ms [])
theorem aRf {s:Rd} {k:Int} (hk:k≠0) (e:(s.any k).2.b=false):∃ x∈s.l,x.k=k/\(s.any k).1=x.t:=by
 have hb:s.b=false:=zS zbZ e;have hp:s.pk.k=k:=Decidable.byContradiction λhn=>by rw[zeh (.inr hn)] at e;cases e
 have hl:=zgC hk hp;obtain ⟨y,l,hy⟩:=uA hl;refine⟨s.pk,by unfold Rd.pk;rw[hy];exact cW,hp,?_⟩;unfold Rd.any;rw[aA (by rw[hb];rintro (a | a);cases a;exact a hp)]
theorem aI2 {s:Rd} (hF:TF s.l) (e:(s.any 1).2.b=false):FW (s.any 1).1:=by
 obtain ⟨x,hx,hk,ht⟩:=aRf (by decide) e;rw[ht];exact aHw (hF x hx) hk rfl
theorem aU4 {s:Rd} {k:Int} {ts:List ByteArray} (hk:k≠0) (h:(s.take k ts).2.1=true):(s.take k ts).1∈ts:=by
 have hg:=zaY hk h;have hi:=hg.2.2.2.2;have e1:(s.take k ts).1=s.pk.t:=by unfold Rd.take;rw[aA (by rw[hg.2.2.1,hi];simp)]
 rw[e1];have hh:hasN ts s.pk.t=true:=by unfold Rd.is at hi;exact(cY _ _ ▸ hi).2
 unfold hasN at hh;obtain ⟨x,hx,e⟩:=uS.1 hh;rw[<-aF e];exact hx
theorem tL:∀ (F:Nat) (o:List ByteArray) (s:Rd),TF s.l->(∀ x∈o,FW x)->(zaF F o s).2.b=false->∀ x∈(zaF F o s).1,FW x
 | 0,o,s,_,h,_=>h
 | F+1,o,s,hF,h,e=>by
  have hb:s.b=false:=zS (λq=>qL q) e;unfold zaF at e ⊢;rw[aA (show ¬s.b=true by rw[hb];decide)] at e ⊢;have ha:(s.any 1).2.b=false:=by
   split at e
   · rename_i hq;exact(zaY (by decide) hq).2.2.1
   rw[zeH] at e;exact e
  have t1:TF (s.any 1).2.l:=hF.suf (zav s 1).l;have hn:∀ x∈o++[(s.any 1).1],FW x:=λx hx=>by
   rcases jV.1 hx with hx | hx
   · exact h x hx
   rw[jJ.1 hx];exact aI2 hF ha
  split
  · rename_i hq;rw[aB hq] at e;exact tL F _ _ (t1.suf (zC _ 5 _).l) hn e
  exact hn
theorem aDr {s:Rd} (hF:TF s.l) (e:s.names.2.b=false):∀ x∈s.names.1,FW x:=by
 unfold Rd.names at e ⊢;split
 · exact λx hx=>by cases hx
 rename_i hc;rw[aA hc] at e;exact tL _ _ _ (hF.suf (zr s zl).l) (λx hx=>by cases hx) (zS z7 e)
theorem aHi {s:Rd} {a b:ByteArray} (hF:TF s.l) (e:(s.mode a b).2.2.b=false):∀ x∈(s.mode a b).2.1,FW x:=by
 have t1:=hF.suf (zC s 1 [a,b]).l;unfold Rd.mode at e ⊢;split
 · exact λx hx=>by cases hx
 rename_i hc;rw[aA hc] at e;split
 · rename_i hd;rw[aB hd] at e;exact aDr t1 e
 rename_i hd;rw[aA hd] at e;exact aDr t1 e
section
variable (rm:List MatD->Bool)
def RdyP (m:Nat) (p:Rd->Nd×Rd):Prop:=∀ s:Rd,s.l.length<=m->TOk s.l->TF s.l->(p s).2.b=false->Rdy rm (p s).1
variable {rm}
theorem nE {part:Rd->Nd×Rd} {ts:List ByteArray} (hts:∀ x∈ts,x∈opsC) (hb:Bad part) (hs:∀ s,Stp 1 s (part s).2) {m:Nat} (hp:RdyP rm m part):∀ (F:Nat) (o:Nd) (s:Rd),s.l.length<=m->TOk s.l->TF s.l->Rdy rm o->(zaz part ts F o s).2.b=false->Rdy rm (zaz part ts F o s).1
 | 0,o,s,_,_,_,h,_=>h
 | F+1,o,s,hm,hT,hF,h,e=>by
  unfold zaz at e ⊢;split
  · exact h
  rename_i hc;rw[aA hc] at e;simp only at e ⊢;have t1:TOk (s.take 5 ts).2.2.l:=hT.suf (zC s 5 ts).l;have t2:TOk ((s.take 5 ts).2.2.mode tOn zy).2.2.l:=t1.suf (zaK _ _ _).l;have f1:TF (s.take 5 ts).2.2.l:=hF.suf (zC s 5 ts).l;have f2:TF ((s.take 5 ts).2.2.mode tOn zy).2.2.l:=f1.suf (zaK _ _ _).l;have ep:(part ((s.take 5 ts).2.2.mode tOn zy).2.2).2.b=false:=zS zaR (zS (λq=>zbU q) e);have k1:=(zC s 5 ts).len;have k2:=(zaK (s.take 5 ts).2.2 tOn zy).len;have k3:=(hs ((s.take 5 ts).2.2.mode tOn zy).2.2).len;have w:=hp _ (by omega) t2 f2 ep;refine nE hts hb hs hp F _ _ (by show (part _).2.l.length<=m;omega) ?_ ?_ (.bin (hts _ (aU4 (by decide) (by simpa using hc))) (eW _ _ _) (aHi f1 (hb.no ep)) h w) e
  · exact t2.suf (hs _).l
  exact f2.suf (hs _).l
theorem fH {part:Rd->Nd×Rd} {ts:List ByteArray} (hts:∀ x∈ts,x∈opsC) (hb:Bad part) (hs:∀ s,Stp 1 s (part s).2) {m:Nat} (hp:RdyP rm m part):RdyP rm m (λs=>s.level part ts):=λs hm hT hF e=>by
 have ep:(part s).2.b=false:=zS (λq=>zbU q) e;have k3:=(hs s).len;exact nE hts hb hs hp _ _ _ (by omega) (hT.suf (hs s).l) (hF.suf (hs s).l) (hp s hm hT hF ep) e
theorem iK:∀ (F:Nat) (o:List MatD) (s:Rd),TF s.l->(∀ m∈o,FW m.n/\1<=m.op/\m.op<=4)->(zW F o s).2.b=false->∀ m∈(zW F o s).1,FW m.n/\1<=m.op/\m.op<=4
 | 0,o,s,_,h,_=>h
 | F+1,o,s,hF,h,e=>by
  unfold zW at e ⊢;split
  · exact h
  rename_i hb;rw[aA hb] at e;simp only at e ⊢;have hv:(Rd.any ⟨((s.any 1).2.take 5 [tEq,tNe,zab,zz]).2.2.l,((s.any 1).2.take 5 [tEq,tNe,zab,zz]).2.2.n,((s.any 1).2.take 5 [tEq,tNe,zab,zz]).2.2.b||!((s.any 1).2.take 5 [tEq,tNe,zab,zz]).2.1⟩ 3).2.b=false:=by
   split at e
   · rename_i hq;exact(zaY (by decide) hq).2.2.1
   rw[zeH] at e;exact e
  have hc:(((s.any 1).2.take 5 [tEq,tNe,zab,zz]).2.2.b||!((s.any 1).2.take 5 [tEq,tNe,zab,zz]).2.1)=false:=zS (λq=>zbZ (s:=⟨_,_,_⟩) q) hv;have ha:(s.any 1).2.b=false:=by
   have:=(dK.1 hc).1;rw[zeH] at this;exact this
  have hop:=aYu (by have:=(dK.1 hc).2;simpa using this);have t1:TF (s.any 1).2.l:=hF.suf (zav s 1).l;have t2:TF ((s.any 1).2.take 5 [tEq,tNe,zab,zz]).2.2.l:=t1.suf (zC _ 5 _).l;have t3:TF (Rd.any ⟨((s.any 1).2.take 5 [tEq,tNe,zab,zz]).2.2.l,((s.any 1).2.take 5 [tEq,tNe,zab,zz]).2.2.n,((s.any 1).2.take 5 [tEq,tNe,zab,zz]).2.2.b||!((s.any 1).2.take 5 [tEq,tNe,zab,zz]).2.1⟩ 3).2.l:=t2.suf (zav (⟨_,_,_⟩:Rd) 3).l;have hn:∀ m∈o++[(⟨(s.any 1).1,opM ((s.any 1).2.take 5 [tEq,tNe,zab,zz]).1,(Rd.any ⟨((s.any 1).2.take 5 [tEq,tNe,zab,zz]).2.2.l,((s.any 1).2.take 5 [tEq,tNe,zab,zz]).2.2.n,((s.any 1).2.take 5 [tEq,tNe,zab,zz]).2.2.b||!((s.any 1).2.take 5 [tEq,tNe,zab,zz]).2.1⟩ 3).1⟩:MatD)],FW m.n/\1<=m.op/\m.op<=4:=λm hm=>by
   rcases jV.1 hm with hm | hm
   · exact h m hm
   rw[jJ.1 hm];exact⟨aI2 hF ha,hop⟩
  split
  · rename_i hq;rw[aB hq] at e;exact iK F _ _ (t3.suf (zC _ 5 _).l) hn e
  exact hn
theorem aSy:∀ s:Rd,TOk s.l->TF s.l->(s.selector rm).2.b=false->Rdy rm (s.selector rm).1:=λs hT hF e=>by
 unfold Rd.selector at e ⊢;simp only at e ⊢;have e3:=zS zaR e;have e2:=zS zeX e3;have e1:s.selName.2.b=false:=zS (λq=>aKm rm q) e2;have hn:(s.selName.1=ByteArray.empty\/FW s.selName.1/\zcP s.selName.1=false)/\TOk s.selName.2.l/\TF s.selName.2.l:=by
  unfold Rd.selName at e1 ⊢;split
  · rename_i hc;rw[aB hc] at e1;refine⟨.inr ⟨aI2 hF e1,?_⟩,hT.suf (zav s 1).l,hF.suf (zav s 1).l⟩;have hb:s.b=false:=zS zbZ e1;have:(s.any 1).1=s.pk.t:=(by unfold Rd.any;rw[aA (by rw[hb];rintro (a | a);cases a;exact a hc.1)]);rw[this];exact hc.2
  exact⟨.inl O,hT,hF⟩
 obtain ⟨hn,t1,f1⟩:=hn;have hm:(∀ m∈(s.selName.2.selMs rm s.selName.1).1,FW m.n/\1<=m.op/\m.op<=4)/\((s.selName.2.selMs rm s.selName.1).1=[]\/rm (s.selName.2.selMs rm s.selName.1).1=true)/\TOk (s.selName.2.selMs rm s.selName.1).2.l/\TF (s.selName.2.selMs rm s.selName.1).2.l:=by
  unfold Rd.selMs at e2 ⊢;split
  · rename_i hc;rw[aB hc] at e2;refine⟨?_,?_,t1.suf (zdk rm _).l,f1.suf (zdk rm _).l⟩
    · unfold Rd.braces at e2 ⊢;split
      · exact λm hm=>by cases hm
      rename_i hd;rw[aA hd] at e2;have e2:(((zW _ [] (s.selName.2.must zH)).2.must zA).b||_)=false:=e2;exact iK _ _ _ (f1.suf (zr _ zH).l) (λm hm=>by cases hm) (zS z7 (dK.1 e2).1)
    unfold Rd.braces at e2 ⊢;split
    · exact .inl O
    rename_i hd;rw[aA hd] at e2;have e2:(_||!rm (zW _ [] (s.selName.2.must zH)).1)=false:=e2;have:=(dK.1 e2).2;exact .inr (by simpa using this)
  exact⟨(λm hm=>by cases hm),.inl O,t1,f1⟩
 obtain ⟨hm,hr,t2,f2⟩:=hm;have hw:∃ n:Nat,(s.selName.2.selMs rm s.selName.1).2.selWin.1=(n:Int)/\n<=1000000000000/\(n=0\/FitT ⟨4,0,digB n⟩):=by
  unfold Rd.selWin at e3 ⊢;split
  · rename_i hc;rw[aB hc] at e3;have t3:=t2.suf (zC (s.selName.2.selMs rm s.selName.1).2 5 [tSq]).l;have f3:=f2.suf (zC (s.selName.2.selMs rm s.selName.1).2 5 [tSq]).l;have ea:(((s.selName.2.selMs rm s.selName.1).2.take 5 [tSq]).2.2.any 4).2.b=false:=zS z7 e3;obtain ⟨x,hx,hk,ht⟩:=aRf (by decide) ea;obtain ⟨v,hv,hxt⟩:=(t3 x hx).2 (.inr hk);refine⟨v,?_,hv,.inr (aHw (f3 x hx) hk hxt)⟩;show numV _=_;rw[ht,hxt,zer]
  exact⟨0,O,by decide,.inl O⟩
 obtain ⟨n,h1,h2,h3⟩:=hw;rw[h1];exact .sel hn h2 h3 hm hr
theorem aRu {s:Rd} (e:(s.any 1).2.b=false):(s.any 1).1=s.pk.t:=by
 have hb:s.b=false:=zS zbZ e;have hp:s.pk.k=1:=Decidable.byContradiction λhn=>by rw[zeh (.inr hn)] at e;cases e
 unfold Rd.any;rw[aA (by rw[hb];rintro (a | a);cases a;exact a hp)]
theorem aPv {ex:Rd->Nd×Rd} (hb:Bad ex) {m:Nat} (hx:∀ a,a<m->RdyP rm a ex):∀ s:Rd,hasN aggN s.pk.t=true->s.l.length<=m->TOk s.l->TF s.l->(s.aggr ex).2.b=false->Rdy rm (s.aggr ex).1:=λs hg hl hT hF e=>by
 unfold Rd.aggr at e ⊢;simp only at e ⊢;have e6:=zS z7 (zS zaR e);have e5:=hb.no e6;have e3:((s.any 1).2.mode tBy zm |>.2.2.must zl).b=false:=by
  by_cases hn:zU (s.any 1).1=true
  · rw[aB hn,aB hn] at e5;exact zS zbZ (zS z7 e5)
  rw[aA hn,aA hn] at e5;exact e5
 have e2:=zS z7 e3;have e1:(s.any 1).2.b=false:=zS aCb e2;have l1:=zcz (s:=s) (by decide) e1;have l2:=(zaK (s.any 1).2 tBy zm).len;have l3:=(zr ((s.any 1).2.mode tBy zm).2.2 zl).len;have l4:=(zaB (((s.any 1).2.mode tBy zm).2.2.must zl) 2).len;have l5:=(zr ((((s.any 1).2.mode tBy zm).2.2.must zl).number 2).2 zu).len;have t1:TOk (s.any 1).2.l:=hT.suf (zav s 1).l;have t2:TOk ((s.any 1).2.mode tBy zm).2.2.l:=t1.suf (zaK _ _ _).l;have t3:TOk (((s.any 1).2.mode tBy zm).2.2.must zl).l:=t2.suf (zr _ _).l;have f1:TF (s.any 1).2.l:=hF.suf (zav s 1).l;have f2:TF ((s.any 1).2.mode tBy zm).2.2.l:=f1.suf (zaK _ _ _).l;have f3:TF (((s.any 1).2.mode tBy zm).2.2.must zl).l:=f2.suf (zr _ _).l;have hm:=eW (s.any 1).2 tBy zm;have hw:=aHi f1 e2;have hg':hasN aggN (s.any 1).1=true:=by rw[aRu e1];exact hg
 by_cases hn:zU (s.any 1).1=true
 · simp only[aB hn] at e6 ⊢;obtain ⟨n,h1,h2⟩:=zfM (k:=2) (.inl rfl) t3;have t4:TOk ((((s.any 1).2.mode tBy zm).2.2.must zl).number 2).2.l:=t3.suf (zaB _ 2).l;have f4:TF ((((s.any 1).2.mode tBy zm).2.2.must zl).number 2).2.l:=f3.suf (zaB _ 2).l;have w:=hx _ (by omega) _ (cU _) (t4.suf (zr _ zu).l) (f4.suf (zr _ zu).l) e6;rw[h1];exact .agg hg' h2 (λk=>by rw[hn] at k;cases k) hm hw w
 simp only[aA hn] at e6 ⊢;have w:=hx _ (by omega) _ (cU _) t3 f3 e6;exact Rdy.agg (n:=0) hg' (by decide) (λ_=>rfl) hm hw w
theorem aNw {ex:Rd->Nd×Rd} (hb:Bad ex) {m:Nat} (hx:∀ a,a<m->RdyP rm a ex):RdyP rm m (λs=>s.prim rm ex):=λs hl hT hF e=>by
 have h0:s.b=false:=(zgm rm ex).no e;have hn:¬s.b=true:=by rw[h0];decide
 simp only[Rd.prim] at e ⊢;rw[aA hn] at e ⊢;split
 · obtain ⟨n,h1,h2⟩:=zfM (s:=s) (k:=2) (.inl rfl) hT;rw[h1];exact .num h2
 rename_i hc;rw[aA hc] at e;split
 · rename_i hd;rw[aB hd] at e;have e1:=zS z7 e;have l1:=zc3 (hb.no e1);exact hx _ (by omega) _ (cU _) (hT.suf (zr s zl).l) (hF.suf (zr s zl).l) e1
 rename_i hd;rw[aA hd] at e;split
 · rename_i hf;rw[aB hf] at e;exact aPv hb hx s hf.2 hl hT hF e
 rename_i hf;rw[aA hf] at e;split
 · rename_i hg;rw[aB hg] at e;simp only at e ⊢;have e1:=zS zaR (zS z7 e);have e2:=hb.no e1;have l1:=zc3 e2;have l2:=(zav s 1).len;have hg':hasN fnN (s.any 1).1=true:=(by rw[aRu (zS z7 e2)];exact hg.2);exact .fn hg' (hx _ (by omega) _ (cU _) ((hT.suf (zav s 1).l).suf (zr _ zl).l) ((hF.suf (zav s 1).l).suf (zr _ zl).l) e1)
 rename_i hg;rw[aA hg] at e;exact aSy s hT hF e
theorem lZ {ex:Rd->Nd×Rd} {m:Nat} (hp:RdyP rm m (λs=>s.prim rm ex)):∀ (F:Nat) (s:Rd),s.l.length<F->s.l.length<=m->TOk s.l->TF s.l->(zaf rm ex F s).2.b=false->Rdy rm (zaf rm ex F s).1
 | 0,s,h,_,_,_,_=>aH h (jH _)
 | F+1,s,hF,hm,hT,hf,e=>by
  unfold zaf at e ⊢;have k1:=(zC s 5 [z6]).len;have t1:TOk (s.take 5 [z6]).2.2.l:=hT.suf (zC s 5 [z6]).l;have f1:TF (s.take 5 [z6]).2.2.l:=hf.suf (zC s 5 [z6]).l;split
  · rename_i hc;rw[aB hc] at e;simp only at e ⊢;have hg:=zaY (by decide) hc;exact .neg (lZ hp F _ (by omega) (by omega) t1 f1 (zS zaR e))
  rename_i hc;rw[aA hc] at e;exact hp _ (by omega) t1 f1 e
theorem aMb {ex:Rd->Nd×Rd} (hb:Bad ex) (hs:∀ s,Stp 1 s (ex s).2) {m:Nat} (hx:∀ a,a<m->RdyP rm a ex):RdyP rm m (zcY rm ex):=
 fH (by intro x hx;simp only[dH,jA,or_false] at hx;simp only[opsC,dH];rcases hx with rfl | rfl | rfl<;>simp) (λs h=>zei rm ex _ s h) (λs=>zb1 rm hs _ s) (λs hm hT hF e=>lZ (aNw hb hx) _ s (jB _) hm hT hF e)
theorem aLw {ex:Rd->Nd×Rd} (hb:Bad ex) (hs:∀ s,Stp 1 s (ex s).2) {m:Nat} (hx:∀ a,a<m->RdyP rm a ex):RdyP rm m (sumP rm ex):=
 fH (by intro x hx;simp only[dH,jA,or_false] at hx;simp only[opsC,dH];rcases hx with rfl | rfl<;>simp) (zf2 rm ex) (λs=>zde rm hs s) (aMb hb hs hx)
theorem aGc:∀ x∈[tEqq,tNe,tLt,tLe,tGt,tGe],x∈opsC:=by
 intro x hx;simp only[dH,jA,or_false] at hx;simp only[opsC,dH];rcases hx with rfl | rfl | rfl | rfl | rfl | rfl<;>simp
theorem aC4:∀ f:Nat,RdyP rm f (zas rm (f+1))
 | 0=>fH aGc (zeW rm _) (λs=>zb5 rm (zap rm _) s) (aLw (zef rm _) (zap rm _) (λa ha=>aH ha (jH _)))
 | f+1=>fH aGc (zeW rm _) (λs=>zb5 rm (zap rm _) s) (aLw (zef rm _) (zap rm _) (λa ha s hl hT hF e=>aC4 f s (by omega) hT hF e))
theorem aNl {s:ByteArray} (h:lexE s=0):TF (lexL s):=λx hx=>(nH _ _ _ _ rfl (ze8 h).2 x hx).1
end
theorem aOg {s:ByteArray} (h:zbf s=0):Rdy rmD (zag s).root:=by
 obtain ⟨h1,h2⟩:=zfJ h;obtain ⟨h3,h4,_⟩:=eQ rmD h2;rw[<-h3];exact aC4 (lexL s).length ⟨lexL s,0,false⟩ (cU _) (ze7 s) (aNl h1) h4
end Lp
namespace Lp
open Go
abbrev sg (x:ByteArray):TokD:=⟨5,0,x⟩
def comT:List (List TokD)->List TokD
 | []=>[]
 | [x]=>x
 | x::y::r=>x++sg zu::comT (y::r)
def namT (l:List ByteArray):List TokD:=tkO::comT (l.map λx=>[wk x])++[tkC]
def zfv (mode:Int) (a b:ByteArray) (names:List ByteArray):List TokD:=if mode=0 then [] else wk (zcl mode a b)::namT names
def zbB (two:Bool) (t:List TokD):List TokD:=if two=true then tkO::t++[tkC] else t
def matT (m:MatD):List TokD:=[wk m.n,sg (zch m.op),⟨3,0,m.v⟩]
def selT (text:ByteArray) (n:Nat) (ms:List MatD):List TokD:=
 (if text=ByteArray.empty then [] else [wk text])++((if text=ByteArray.empty\/0<ms.length then sg zH::comT (ms.map matT)++[sg zA] else [])++(if 0<n then [sg tSq,⟨4,0,digB n⟩,sg tSqE] else []))
def binT (text:ByteArray) (mode:Int) (names:List ByteArray) (a b:List TokD):List TokD:=a++sg text::(zfv mode tOn zy names++b)
def aggT (text:ByteArray) (n:Nat) (mode:Int) (names:List ByteArray) (a:List TokD):List TokD:=
 wk text::(zfv mode tBy zm names++tkO::((if zU text=true then [⟨2,0,digB n⟩,sg zu] else [])++(a++[tkC])))
def fnT (text:ByteArray) (a:List TokD):List TokD:=wk text::tkO::(a++[tkC])
def tkOf (op text:ByteArray) (n:Nat) (mode:Int) (names:List ByteArray) (ms:List MatD) (ps:List (List TokD)) (tw:List Bool):List TokD:=
 if op=tNum then [⟨2,0,digB n⟩]
 else if op=tNeg then sg z6::zbB (tw.headD false) (ps.headD [])
 else if op=tBin then binT text mode names (zbB (tw.headD false) (ps.headD [])) (zbB (tw.tail.headD false) (ps.tail.headD []))
 else if op=tAgg then aggT text n mode names (ps.headD [])
 else if op=tFn then fnT text (ps.headD [])
 else selT text n ms
mutual
def Nd.tk:Nd->List TokD
 | .mk op text n mode names ms kids=>tkOf op text n.toNat mode names ms (Nd.tks kids) (kids.map Nd.two)
def Nd.tks:List Nd->List (List TokD)
 | []=>[]
 | x::r=>Nd.tk x::Nd.tks r
end
section
variable {text:ByteArray} {n:Nat} {mode:Int} {names:List ByteArray} {ms:List MatD} {x y:Nd}
theorem aKz:(Nd.mk tNum text (n:Int) mode names ms []).tk=[⟨2,0,digB n⟩]:=by
 simp only[Nd.tk];unfold tkOf;rw[aB rfl,vB]
theorem aRn:(Nd.mk tNeg text (n:Int) mode names ms [x]).tk=sg z6::zbB x.two x.tk:=by
 simp only[Nd.tk,Nd.tks];unfold tkOf;rw[aA (by decide),aB rfl];rfl
theorem aSc:(Nd.mk tBin text (n:Int) mode names ms [x,y]).tk=binT text mode names (zbB x.two x.tk) (zbB y.two y.tk):=by
 simp only[Nd.tk,Nd.tks];unfold tkOf;rw[aA (by decide),aA (by decide),aB rfl];rfl
theorem aG0:(Nd.mk tAgg text (n:Int) mode names ms [x]).tk=aggT text n mode names x.tk:=by
 simp only[Nd.tk,Nd.tks];unfold tkOf;rw[aA (by decide),aA (by decide),aA (by decide),aB rfl,vB];rfl
theorem aTn:(Nd.mk tFn text (n:Int) mode names ms [x]).tk=fnT text x.tk:=by
 simp only[Nd.tk,Nd.tks];unfold tkOf;rw[aA (by decide),aA (by decide),aA (by decide),aA (by decide),aB rfl];rfl
theorem aKb:(Nd.mk nSel text (n:Int) mode names ms []).tk=selT text n ms:=by
 simp only[Nd.tk,Nd.tks];unfold tkOf;rw[aA (by decide),aA (by decide),aA (by decide),aA (by decide),aA (by decide),vB]
end
theorem aBf {x:TokD} (h:FitT x):Lx (zcQ x) [⟨x.k,0,x.t⟩]:=⟨_,kL h 0,rfl⟩
theorem aA9 {t:ByteArray} (h:FW t):Lx t [wk t]:=by
 have h1:=aBf h;rw[zd6 (show ¬(1:Int)=3 by decide) (show ¬(1:Int)=4 by decide)] at h1;exact h1
theorem a0m (t:ByteArray):Lx (zak t) [⟨3,0,t⟩]:=by
 have h1:=aBf (aCw t);rw[aLu (show (3:Int)=3 from rfl)] at h1;exact h1
theorem aUm {n:Nat} (h:FitT ⟨4,0,digB n⟩):Lx (digB n++(⟨#[115]⟩:ByteArray)) [⟨4,0,digB n⟩]:=by
 have h1:=aBf h;rw[aHk (show ¬(4:Int)=3 by decide) (show (4:Int)=4 from rfl)] at h1;exact h1
theorem aL1:∀ x∈zY,∃ b t,bl8 x=b::t/\b.toNat<128/\isB ((b.toNat:Nat):Int)=false/\¬zD ((b.toNat:Nat):Int)=1/\¬zD ((b.toNat:Nat):Int)=2/\¬b.toNat=34:=by
 intro x hx;simp only[zY,dH,jA,or_false] at hx;rcases hx with rfl | rfl | rfl | rfl | rfl | rfl | rfl | rfl | rfl | rfl | rfl | rfl | rfl | rfl | rfl | rfl | rfl | rfl | rfl | rfl | rfl<;>exact⟨_,_,rfl,by decide,by decide,by decide,by decide,by decide⟩
theorem aOo:∀ x∈zY,∀ (b:UInt8) (t:List UInt8),b≠61->b≠126->zbS (bl8 x++b::t)=(⟨5,0,x⟩,x.size):=by
 intro x hx b t h1 h2;have k1:((61:UInt8)==b)=false:=by simpa using λe=>h1 e.symm
 have k2:((126:UInt8)==b)=false:=by simpa using λe=>h2 e.symm
 simp only[zY,dH,jA,or_false] at hx;rcases hx with rfl | rfl | rfl | rfl | rfl | rfl | rfl | rfl | rfl | rfl | rfl | rfl | rfl | rfl | rfl | rfl | rfl | rfl | rfl | rfl | rfl<;>simp[zbS,zY,zaj,bl8,List.isPrefixOf,k1,k2]<;>rfl
def Hd (t:ByteArray):Prop:=∃ b r,bl8 t=b::r/\b≠61/\b≠126
theorem Hd.app {t:ByteArray} (h:Hd t) (u:ByteArray):Hd (t++u):=by
 obtain ⟨b,r,e,h1,h2⟩:=h;exact⟨b,r++bl8 u,by rw[zcM,e];rfl,h1,h2⟩
theorem zdU {x t:ByteArray} {W:List TokD} (hx:x∈zY) (h:Lx t W) (hh:Hd t):Lx (x++t) (sg x::W):=by
 obtain ⟨b,r,e,h1,h2⟩:=hh;obtain ⟨c,u,e',k1,k2,k3,k4,k5⟩:=aL1 x hx;have h:Lw (bl8 t) W:=h;rw[e] at h;refine Lw.lx ?_;rw[zcM,e];have hd:decL (bl8 x++b::r)=(c.toNat,1):=by rw[e'];exact zai k1
 refine h.step (by rw[e'];simp) (zdc (by rw[hd];exact k2)) ?_;unfold zg;rw[hd,aA k3,aA k4,aA k5,aOo x hx b r h1 h2,zV]
theorem zf6 {x:ByteArray} (hx:x∈zY):Lx x [sg x]:=by
 have h1:=aBf (rZ hx);rw[zd6 (show ¬(5:Int)=3 by decide) (show ¬(5:Int)=4 by decide)] at h1;exact h1
theorem zaZ:zl∈zY/\zx∈zY/\zu∈zY/\zH∈zY/\zA∈zY/\tSq∈zY/\tSqE∈zY/\z6∈zY:=by simp[zY]
theorem aI8 {x:ByteArray} (h:x∈opsC):x∈zY:=by
 simp only[opsC,dH,jA,or_false] at h;rcases h with rfl | rfl | rfl | rfl | rfl | rfl | rfl | rfl | rfl | rfl | rfl<;>simp[zY]
theorem aMg {op:Int} (h:1<=op/\op<=4):zch op∈zY:=by
 obtain rfl | rfl | rfl | rfl:op=1\/op=2\/op=3\/op=4:=by omega
 all_goals simp[zch,zY]
theorem qU {t:ByteArray} (h:FW t):Hd t:=by
 obtain ⟨h1,h2,h3⟩:=h;have e:zcQ (⟨1,0,t⟩:TokD)=t:=zd6 (show ¬(1:Int)=3 by decide) (show ¬(1:Int)=4 by decide);rw[e] at h1 h2 h3;obtain ⟨b,r,er⟩:=uA h1;refine⟨b,r,er,?_,?_⟩;all_goals
  rintro rfl;rw[er] at h3;have hk:=aG (λp:TokD×Nat=>p.1.k) h3;unfold zg at hk;rw[zai (by decide),aA (by decide),aA (by decide),aA (by decide)] at hk;exfalso;have:∀ xs:List ByteArray,∀ l,(zaj xs l).1.k=0\/(zaj xs l).1.k=5:=by
   intro xs l
   induction xs with
   | nil=>exact .inl rfl
   | cons x xs ih=>
    unfold zaj;split
    · exact .inr O
    exact ih
  have hk:(zbS _).1.k=1:=hk;unfold zbS at hk;rcases this zY _ with k | k
  · rw[k] at hk;revert hk;decide
  rw[k] at hk;revert hk;decide
end Lp
namespace Lp
open Go
variable {t:ByteArray} {x:ByteArray} {names:List ByteArray} {text a:ByteArray} {r:List UInt8} {n:Nat}
theorem aFj (sep x y:ByteArray) (r:List ByteArray):za4 sep (x::y::r)=x++(sep++za4 sep (y::r)):=by
 apply uG;apply jW.1;simp[za4,zck]
theorem aS5 (sep x:ByteArray):za4 sep [x]=x:=(rD (l:=[x]) rfl rfl).symm
theorem zfi {b:UInt8} (h:bl8 x=b::r) (hb:b∈zgl) (t:ByteArray):Stop (bl8 (x++t)):=.inr ⟨b,r++bl8 t,by rw[zcM,h];rfl,hb⟩
theorem aDk {b:UInt8} (h:bl8 x=b::r) (hb:b∈zgl):Stop (bl8 x):=.inr ⟨b,r,h,hb⟩
theorem aGz:∀ (l:List (ByteArray×List TokD)),l≠[]->(∀ p∈l,Lx p.1 p.2/\Hd p.1)->Lx (za4 zu (l.map (·.1))) (comT (l.map (·.2)))/\Hd (za4 zu (l.map (·.1)))
 | [],h,_=>aH rfl h
 | [x],_,h=>by
  have:=h x cW;rw[jS,wD,jS,wD,aS5];exact this
 | x::y::r,_,h=>by
  obtain ⟨a1,a2⟩:=h x cW;obtain ⟨b1,b2⟩:=aGz (y::r) (List.cons_ne_nil _ _) (λp hp=>h p (dA _ hp));rw[jS,jS,aFj];refine⟨?_,a2.app _⟩;exact a1.cat (zdU zaZ.2.2.1 b1 b2) (zfi (b:=44) (r:=[]) O (by decide) _)
theorem aM1:Hd zx:=⟨41,[],rfl,by decide,by decide⟩
theorem aTa (t:ByteArray):Hd (zl++t):=⟨40,bl8 t,by rw[zcM];rfl,by decide,by decide⟩
theorem aRa {l:List ByteArray} (h:∀ x∈l,FW x):Lx (namP l) (namT l):=by
 unfold namP namT;rw[dC];by_cases hl:l=[]
 · subst hl;have e:za4 zu []=ByteArray.empty:=(fY rfl).symm;rw[wD,e,wH];exact zdU zaZ.1 (zf6 zaZ.2.1) aM1
 obtain ⟨a1,a2⟩:=aGz (l.map λx=>(x,[wk x])) (by simpa using hl) (λp hp=>by
  obtain ⟨x,hx,rfl⟩:=vE.1 hp;exact⟨aA9 (h x hx),qU (h x hx)⟩)
 rw[uN,uN] at a1;rw[uN] at a2;have e1:(l.map ((·.1) ∘ λx=>(x,[wk x])))=l:=by simp[Function.comp_def]
 have e2:(l.map ((·.2) ∘ λx:ByteArray=>(x,[wk x])))=l.map λx=>[wk x]:=rfl
 rw[e1,e2] at a1;rw[e1] at a2;exact zdU zaZ.1 (a1.cat (zf6 zaZ.2.1) (aDk (b:=41) (r:=[]) O (by decide))) (a2.app _)
theorem lx_on:Lx tOn [wk tOn]/\Lx zy [wk zy]/\Lx tBy [wk tBy]/\Lx zm [wk zm]:=
 ⟨zfw (ts:=[⟨1,0,tOn⟩]) (zb8 (by kernel_rfl) (by decide) (by decide)),zfw (ts:=[⟨1,0,zy⟩]) (zb8 (by kernel_rfl) (by decide) (by decide)),
  zfw (ts:=[⟨1,0,tBy⟩]) (zb8 (by kernel_rfl) (by decide) (by decide)),zfw (ts:=[⟨1,0,zm⟩]) (zb8 (by kernel_rfl) (by decide) (by decide))⟩
theorem aDd (mode:Int) {a b:ByteArray} (ha:Lx a [wk a]) (hb:Lx b [wk b]):Lx (zcl mode a b) [wk (zcl mode a b)]:=by unfold zcl;split<;>assumption
theorem aYk (h:hasN aggN t=true):Lx t [wk t]/\Hd t:=by
 unfold hasN at h;obtain ⟨x,hx,e⟩:=uS.1 h;obtain rfl:=aF e;simp only[aggN,dH,jA,or_false] at hx;rcases hx with rfl | rfl | rfl | rfl | rfl | rfl | rfl<;>exact⟨zfw (ts:=[⟨1,0,_⟩]) (zb8 (by kernel_rfl) (by decide) (by decide)),⟨_,_,rfl,by decide,by decide⟩⟩
theorem a0j (h:hasN fnN t=true):Lx t [wk t]/\Hd t:=by
 unfold hasN at h;obtain ⟨x,hx,e⟩:=uS.1 h;obtain rfl:=aF e;simp only[fnN,dH,jA,or_false] at hx;rcases hx with rfl | rfl | rfl | rfl | rfl | rfl | rfl | rfl<;>exact⟨zfw (ts:=[⟨1,0,_⟩]) (zb8 (by kernel_rfl) (by decide) (by decide)),⟨_,_,rfl,by decide,by decide⟩⟩
theorem aJz (n:Nat):Hd (digB n):=by
 obtain ⟨b,t,e,h1,h2⟩:=aLe n;exact⟨b,t,by rw[zd8,e],by rintro rfl;revert h2;decide,by rintro rfl;revert h2;decide⟩
theorem aN4 (t:ByteArray):Hd (zak t):=by
 rw[Hd,iZ];unfold zaU;exact⟨34,_,rfl,by decide,by decide⟩
theorem a2k {t r:ByteArray} {W:List TokD} (h:FW t) (k:Lx r W) (hr:Rem (bl8 r)):Lx (t++r) (wk t::W):=by
 obtain ⟨h1,h2,h3⟩:=h;have e:zcQ (⟨1,0,t⟩:TokD)=t:=zd6 (show ¬(1:Int)=3 by decide) (show ¬(1:Int)=4 by decide);rw[e] at h1 h2 h3;have hp:=dE.2 h1;have k:Lw (bl8 r) W:=k;refine Lw.lx ?_;rw[zcM];refine k.step h1 ?_ ?_
 · rw[qK hr _ (bl8 t) rfl,h2,aA (by omega)]
 rw[aFc h1 hr (by rw[h3];show t.size≠0;rw[<-zV];omega) (by rw[h3];show (1:Int)≠5;decide),h3,zV]
theorem aDz {c:UInt8} {u:List UInt8} (e:bl8 x=c::u) (hc:c=61\/c=33) (t:ByteArray):Rem (bl8 (x++t)):=by
 refine .inr ⟨c,u++bl8 t,by rw[zcM,e];rfl,?_⟩;rcases hc with rfl | rfl<;>decide
theorem aMu {op:Int} (h:1<=op/\op<=4) (t:ByteArray):Rem (bl8 (zch op++t)):=by
 obtain rfl | rfl | rfl | rfl:op=1\/op=2\/op=3\/op=4:=by omega
 · exact aDz (x:=tEq) O (.inl O) t
 · exact aDz (x:=tNe) O (.inr O) t
 · exact aDz (x:=zab) O (.inl O) t
 exact aDz (x:=zz) O (.inr O) t
theorem aZ9 {m:MatD} (h:FW m.n/\1<=m.op/\m.op<=4):Lx (matP m) (matT m)/\Hd (matP m):=by
 unfold matP matT;rw[dC];exact⟨a2k h.1 (zdU (aMg h.2) (a0m m.v) (aN4 m.v)) (aMu h.2 _),(qU h.1).app _⟩
theorem aF5:Hd zA:=⟨125,[],rfl,by decide,by decide⟩
theorem aX9 {ms:List MatD} (h:∀ m∈ms,FW m.n/\1<=m.op/\m.op<=4):Lx (zH++za4 zu (ms.map matP)++zA) (sg zH::comT (ms.map matT)++[sg zA]):=by
 rw[dC];by_cases hl:ms=[]
 · subst hl;have e:za4 zu []=ByteArray.empty:=(fY rfl).symm;rw[wD,e,wH];exact zdU zaZ.2.2.2.1 (zf6 zaZ.2.2.2.2.1) aF5
 obtain ⟨a1,a2⟩:=aGz (ms.map λm=>(matP m,matT m)) (by simpa using hl) (λp hp=>by
  obtain ⟨m,hm,rfl⟩:=vE.1 hp;exact aZ9 (h m hm))
 rw[uN,uN] at a1;rw[uN] at a2;exact zdU zaZ.2.2.2.1 (a1.cat (zf6 zaZ.2.2.2.2.1) (aDk (b:=125) (r:=[]) O (by decide))) (a2.app _)
theorem aXy (h:FitT ⟨4,0,digB n⟩):Lx (tSq++digB n++tSec) [sg tSq,⟨4,0,digB n⟩,sg tSqE]:=by
 have e:tSq++digB n++tSec=tSq++((digB n++(⟨#[115]⟩:ByteArray))++tSqE):=by
  rw[show tSec=(⟨#[115]⟩:ByteArray)++tSqE from rfl];simp only[dC]
 rw[e];refine zdU zaZ.2.2.2.2.2.1 ((aUm h).cat (zf6 zaZ.2.2.2.2.2.2.1) (aDk (b:=93) (r:=[]) O (by decide))) ?_;exact((aJz n).app _).app _
theorem aYb {text:ByteArray} {ms:List MatD} (ht:text=ByteArray.empty\/FW text/\zcP text=false) (hs:n=0\/FitT ⟨4,0,digB n⟩) (hm:∀ m∈ms,FW m.n/\1<=m.op/\m.op<=4):Lx (selP text n ms) (selT text n ms)/\Hd (selP text n ms):=by
 have hb:=aX9 hm;have sb:Stop (bl8 (zH++za4 zu (ms.map matP)++zA)):=by rw[dC];exact zfi (b:=123) (r:=[]) rfl (by decide) _
 have hdb:Hd (zH++za4 zu (ms.map matP)++zA):=by
  rw[dC];exact⟨123,_,by rw[zcM];rfl,by decide,by decide⟩
 have hA:Lx (selA text ms) ((if text=ByteArray.empty then [] else [wk text])++(if text=ByteArray.empty\/0<ms.length then sg zH::comT (ms.map matT)++[sg zA] else []))/\Hd (selA text ms):=by
  unfold selA;by_cases h0:text=ByteArray.empty
  · rw[aB (.inl h0),aB h0,aB (.inl h0),h0,wH,jG];exact⟨hb,hdb⟩
  have hw:=(ht.resolve_left h0).1;rw[aA h0];by_cases h1:0<ms.length
  · rw[aB (.inr h1),aB (.inr h1)];exact⟨(aA9 hw).cat hb sb,(qU hw).app _⟩
  rw[aA (by rintro (k | k);exact h0 k;exact h1 k),aA (by rintro (k | k);exact h0 k;exact h1 k),jN];exact⟨aA9 hw,qU hw⟩
 unfold selP selT;by_cases hn:0<n
 · rw[aB hn,aB hn,<-dM];refine⟨hA.1.cat (aXy (hs.resolve_left (by omega))) ?_,hA.2.app _⟩;rw[dC];exact zfi (b:=91) (r:=[]) rfl (by decide) _
 rw[aA hn,aA hn,jN];exact hA
theorem aIj (t:ByteArray):Stop (bl8 (zl++t)):=zfi (b:=40) (r:=[]) rfl (by decide) t
theorem zfX (t:ByteArray):Stop (bl8 (tSp++t)):=zfi (b:=32) (r:=[]) rfl (by decide) t
theorem aYz (t:ByteArray):Stop (bl8 (zu++t)):=zfi (b:=44) (r:=[]) rfl (by decide) t
theorem a0i (t:ByteArray):Hd (tSp++t):=⟨32,bl8 t,by rw[zcM];rfl,by decide,by decide⟩
theorem Lx.eq {W V:List TokD} (h:Lx t W) (e:W=V):Lx t V:=e ▸ h
theorem gU {W:List TokD} (h:Lx t W):Lx (t++zx) (W++[tkC]):=h.cat (zf6 zaZ.2.1) (aDk (b:=41) (r:=[]) rfl (by decide))
theorem aAh {b:Bool} {W:List TokD} (h:Lx t W) (hh:Hd t):Lx (zcA b t) (zbB b W)/\Hd (zcA b t):=by
 unfold zcA zbB;split
 · rw[dC];exact⟨zdU zaZ.1 (gU h) (hh.app _),aTa _⟩
 exact⟨h,hh⟩
theorem aZ8 {text a b:ByteArray} {mode:Int} {A B:List TokD} (ht:text∈opsC) (hn:∀ x∈names,FW x) (ha:Lx a A) (hda:Hd a) (hb:Lx b B):Lx (binP text mode names a b) (binT text mode names A B)/\Hd (binP text mode names a b):=by
 have hs:=aI8 ht;unfold binP binT zfv;split
 · simp only[dC];refine⟨(ha.cat (zfN (zdU hs (zfN hb) (a0i _))) (zfX _)).eq (by simp),hda.app _⟩
 simp only[dC];refine⟨(ha.cat (zfN (zdU hs (zfN ((aDd mode lx_on.1 lx_on.2.1).cat ((aRa hn).cat (zfN hb) (zfX _)) ?_)) (a0i _))) (zfX _)).eq (by simp),hda.app _⟩;unfold namP;simp only[dC];exact aIj _
theorem aS7 {mode:Int} {A:List TokD} (ht:hasN aggN text=true) (hn:n<=1000000000000) (hw:∀ x∈names,FW x) (ha:Lx a A) (hda:Hd a):Lx (aggP text n mode names a) (aggT text n mode names A)/\Hd (aggP text n mode names a):=by
 obtain ⟨t1,t2⟩:=aYk ht;have hR:∃ R,Lx (zl++R) (tkO::((if zU text=true then [⟨2,0,digB n⟩,sg zu] else [])++(A++[tkC])))/\aggP text n mode names a=aggA text mode names++(zl++R):=by
  unfold aggP;by_cases h:zU text=true
  · rw[aB h,aB h];refine⟨digB n++(zu++(a++zx)),?_,by simp only[dC]⟩;exact(zdU zaZ.1 ((aKv hn).cat (zdU zaZ.2.2.1 (gU ha) (hda.app _)) (aYz _)) ((aJz n).app _)).eq (by simp[tkO])
  rw[aA h,aA h];refine⟨a++zx,?_,by simp only[dC]⟩;exact(zdU zaZ.1 (gU ha) (hda.app _)).eq (by simp[tkO])
 obtain ⟨R,r1,r2⟩:=hR;rw[r2];unfold aggA aggT zfv;split
 · exact⟨(t1.cat r1 (aIj _)).eq (by simp),t2.app _⟩
 simp only[dC];refine⟨(t1.cat (zfN ((aDd mode lx_on.2.2.1 lx_on.2.2.2).cat (zfN ((aRa hw).cat (zfN r1) (zfX _))) (zfX _))) (zfX _)).eq (by simp),t2.app _⟩
theorem aYt {A:List TokD} (ht:hasN fnN text=true) (ha:Lx a A) (hda:Hd a):Lx (fnP text a) (fnT text A)/\Hd (fnP text a):=by
 obtain ⟨t1,t2⟩:=a0j ht;unfold fnP fnT;simp only[dC];exact⟨(t1.cat (zdU zaZ.1 (gU ha) (hda.app _)) (aIj _)).eq (by simp[tkO]),t2.app _⟩
theorem aVi {rm:List MatD->Bool} {q:Nd} (h:Rdy rm q):Lx q.pr q.tk/\Hd q.pr:=by
 induction h with
 | num h=>rw[aD9,aKz];exact⟨aKv h,aJz _⟩
 | @neg x _ ih=>
  rw[show (Nd.mk tNeg ByteArray.empty 0 0 [] [] [x]).pr=_ from aC5 (n:=0),show (Nd.mk tNeg ByteArray.empty 0 0 [] [] [x]).tk=_ from aRn (n:=0)];obtain ⟨a,b⟩:=aAh (b:=x.two) ih.1 ih.2;exact⟨zdU zaZ.2.2.2.2.2.2.2 a b,⟨45,_,by rw[zcM];rfl,by decide,by decide⟩⟩
 | @bin text mode names x y ht h hn _ _ ih1 ih2=>
  rw[show (Nd.mk tBin text 0 mode names [] [x,y]).pr=_ from aBo (n:=0),show (Nd.mk tBin text 0 mode names [] [x,y]).tk=_ from aSc (n:=0)];obtain ⟨a,b⟩:=aAh (b:=x.two) ih1.1 ih1.2;obtain ⟨c,d⟩:=aAh (b:=y.two) ih2.1 ih2.2;exact aZ8 ht hn a b c
 | @agg text n mode names x ht h hn hm hw _ ih=>rw[aCk,aG0];exact aS7 ht h hw ih.1 ih.2
 | @fn text x ht _ ih=>
  rw[show (Nd.mk tFn text 0 0 [] [] [x]).pr=_ from aMz (n:=0),show (Nd.mk tFn text 0 0 [] [] [x]).tk=_ from aTn (n:=0)];exact aYt ht ih.1 ih.2
 | @sel text n ms ht h hs hm hr=>rw[aCy,aKb];exact aYb ht hs hm
end Lp
