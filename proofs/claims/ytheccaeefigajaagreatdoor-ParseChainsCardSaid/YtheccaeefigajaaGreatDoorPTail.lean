import Derived.Test.YtheccaeefigajaaGreatDoorPSame8
set_option linter.unusedVariables false
namespace Lp
open Go
section
variable {s:Rd} {k:Int} {ts:List ByteArray} {x:ByteArray}
theorem zdH:(s.take k ts).2.2.b=s.b:=by unfold Rd.take;split<;>rfl
theorem zbb (h:s.b=true):(s.must x).b=true:=by unfold Rd.must;simp only[zdH,h,Bool.true_or]
theorem zes (h:s.b=true):(s.any k).2.b=true:=by unfold Rd.any;rw[if_pos (.inl h)]
theorem zde (h:s.b=true):s.node.b=true:=by unfold Rd.node;simp only[h,Bool.true_or]
theorem take_no' (h:s.b=true):s.take k ts=(ByteArray.empty,false,s):=zdy (.inl h)
theorem namesF_b {F:Nat} {o:List ByteArray} (h:s.b=true):(namesF F o s).2.b=true:=by
 cases F with
 | zero=>exact h
 | succ F=>unfold namesF;rw[if_pos h];exact h
theorem mode_b {y:ByteArray} (h:s.b=true):(s.mode x y).2.2.b=true:=by
 unfold Rd.mode;rw[take_no' h];simpa using h
theorem levelF_b {part:Rd→Nd×Rd} {F:Nat} {o:Nd} (h:s.b=true):(za5 part ts F o s).2.b=true:=by
 cases F with
 | zero=>exact h
 | succ F=>unfold za5;rw[take_no' h];simpa using h
theorem bracesF_b {F:Nat} {o:List MatD} (h:s.b=true):(bracesF F o s).2.b=true:=by
 cases F with
 | zero=>exact h
 | succ F=>unfold bracesF;rw[if_pos h];exact h
end
def Bad (p:Rd→Nd×Rd):Prop:=∀ s,s.b=true→(p s).2.b=true
theorem Bad.no {p:Rd→Nd×Rd} (h:Bad p) {s:Rd} (e:(p s).2.b=false):s.b=false:=by
 cases hs:s.b with
 | false=>rfl
 | true=>rw[h s hs] at e;cases e
theorem zat {a b:Bool} (h:a=true→b=true) (e:b=false):a=false:=by
 cases a with
 | false=>rfl
 | true=>rw[h rfl] at e;cases e
theorem level_b {part:Rd→Nd×Rd} (h:Bad part) (ts:List ByteArray):Bad (fun s=>s.level part ts):=fun s hs=>levelF_b (h s hs)
section
variable (rm:List MatD→Bool)
theorem prim_b (ex:Rd→Nd×Rd):Bad (fun s=>s.prim rm ex):=fun s h=>by simp only[Rd.prim];rw[if_pos h];exact h
theorem unaryF_b (ex:Rd→Nd×Rd):∀ F,Bad (zaD rm ex F)
 | 0,s,h=>h
 | F+1,s,h=>by unfold zaD;rw[take_no' h];simpa using prim_b rm ex s h
theorem prod_b (ex:Rd→Nd×Rd):Bad (zdP rm ex):=level_b (fun s h=>unaryF_b rm ex _ s h) _
theorem sum_b (ex:Rd→Nd×Rd):Bad (sumP rm ex):=level_b (prod_b rm ex) _
theorem expr_b:∀ F,Bad (zaO rm F)
 | 0,s,h=>h
 | F+1,s,h=>level_b (sum_b rm (zaO rm F)) _ s h
theorem braces_b {s:Rd} (h:s.b=true):(s.braces rm).2.b=true:=by
 unfold Rd.braces;split
 · exact zbb (zbb h)
 · show (((bracesF _ [] (s.must zbf)).2.must zbr).b||_)=true
   rw[zbb (bracesF_b (zbb h))];rfl
theorem selMs_b {s:Rd} {x:ByteArray} (h:s.b=true):(s.selMs rm x).2.b=true:=by
 unfold Rd.selMs;split
 · exact braces_b rm h
 · show (s.b||_)=true;rw[h];rfl
end
theorem selWin_b {s:Rd} (h:s.b=true):s.selWin.2.b=true:=by unfold Rd.selWin;rw[take_no' h];simpa using h
def er (t:TokD):TokD:=⟨t.k,0,t.t⟩
theorem er_kt {x y:TokD} (h:er x=er y):x.k=y.k∧x.t=y.t:=by
 have a:(er x).k=(er y).k:=congrArg TokD.k h
 have b:(er x).t=(er y).t:=congrArg TokD.t h
 exact⟨a,b⟩
structure R (r:List TokD) (s t:Rd):Prop where
 l:t.l.map er=(s.l++r).map er
 n:t.n=s.n
 b:t.b=s.b
def Hq (r:List TokD):Prop:=∀ h,r.head?=some h→h.k=5∧h.t=zJ∨h.k=1∧(h.t=zcE∨h.t=zei∨h.t=zdN)
section
variable {r:List TokD} {s t:Rd} {k:Int} {ts:List ByteArray} {x:ByteArray}
theorem zex {s:Rd}:er s.pk=(s.l.map er).headD zbk:=by
 unfold Rd.pk;cases s.l with
 | nil=>rfl
 | cons y l=>rfl
theorem R.pk (h:R r s t) (hl:s.l≠[]):t.pk.k=s.pk.k∧t.pk.t=s.pk.t:=by
 have e1:=zex (s:=t);have e2:=zex (s:=s)
 rw[h.l] at e1
 obtain ⟨y,l,hy⟩:=List.exists_cons_of_ne_nil hl
 rw[hy] at e1 e2
 have e3:er t.pk=er s.pk:=by rw[e1,e2];rfl
 exact er_kt e3
theorem R.is (h:R r s t) (hl:s.l≠[]):t.is k ts=s.is k ts:=by
 have e:=h.pk hl;unfold Rd.is;rw[e.1,e.2]
theorem zcX (hl:s.l=[]) (hk:k≠0):s.is k ts=false:=by
 unfold Rd.is;rw[pk_0 (by rw[hl];rfl),decide_eq_false (show ¬zbk.k=k from fun e=>hk e.symm)];rfl
structure Qt (k:Int) (ts:List ByteArray):Prop where
 kn:k≠0
 a:k=5→hasN ts zJ=false
 b:k=1→hasN ts zcE=false∧hasN ts zei=false∧hasN ts zdN=false
theorem R.isq (h:R r s t) (hr:Hq r) (q:Qt k ts):t.is k ts=s.is k ts:=by
 by_cases hl:s.l=[]
 · rw[zcX hl q.kn]
   have e1:=zex (s:=t);rw[h.l,hl,List.nil_append] at e1
   cases r with
   | nil=>exact zcX (List.map_eq_nil_iff.1 (by rw[h.l,hl];rfl)) q.kn
   | cons y r=>
    have e3:er t.pk=er y:=e1
    obtain ⟨e4,e5⟩:=er_kt e3
    unfold Rd.is;rw[e4,e5]
    rcases hr y rfl with ⟨a,b⟩ | ⟨a,b⟩
    · rw[a,b]
      by_cases hk:k=5
      · rw[q.a hk,Bool.and_false]
      · rw[decide_eq_false (fun e=>hk e.symm)];rfl
    · rw[a]
      by_cases hk:k=1
      · obtain ⟨q1,q2,q3⟩:=q.b hk
        rcases b with b | b | b<;>rw[b]
        · rw[q1,Bool.and_false]
        · rw[q2,Bool.and_false]
        · rw[q3,Bool.and_false]
      · rw[decide_eq_false (fun e=>hk e.symm)];rfl
 · exact h.is hl
theorem R.tail (h:R r s t) (hl:s.l≠[]):R r ⟨s.l.tail,s.n,s.b⟩ ⟨t.l.tail,t.n,t.b⟩:=by
 obtain ⟨y,l,hy⟩:=List.exists_cons_of_ne_nil hl
 refine⟨?_,h.n,h.b⟩
 have e:=h.l;rw[hy] at e ⊢
 show t.l.tail.map er=(l++r).map er
 rw[List.map_tail,e];rfl
theorem is_ne' (hk:k≠0) (h:s.is k ts=true):s.l≠[]:=fun e=>by rw[zcX e hk] at h;cases h
theorem R.take (h:R r s t) (hk:k≠0) (hi:t.is k ts=s.is k ts):(t.take k ts).1=(s.take k ts).1∧(t.take k ts).2.1=(s.take k ts).2.1∧R r (s.take k ts).2.2 (t.take k ts).2.2:=by
 unfold Rd.take
 rw[h.b,hi]
 split
 · exact⟨rfl,rfl,h⟩
 · rename_i hc
   have hc2:s.is k ts=true:=by
    cases e:s.is k ts with
    | true=>rfl
    | false=>exact absurd (.inr e) hc
   have hl:=is_ne' hk hc2
   refine⟨(h.pk hl).2,rfl,?_⟩
   have:=h.tail hl;rw[h.b] at this;exact this
theorem R.takeq (h:R r s t) (hr:Hq r) (q:Qt k ts):(t.take k ts).1=(s.take k ts).1∧(t.take k ts).2.1=(s.take k ts).2.1∧R r (s.take k ts).2.2 (t.take k ts).2.2:=h.take (k:=k) (ts:=ts) q.kn (h.isq hr q)
theorem R.any (h:R r s t) (hk:k≠0) (e:(s.any k).2.b=false):(t.any k).1=(s.any k).1∧R r (s.any k).2 (t.any k).2:=by
 have hb:s.b=false:=zat zes e
 have hp:s.pk.k=k:=by
  refine Decidable.byContradiction fun hn=>?_
  rw[any_no (.inr hn)] at e;cases e
 have hl:=zew hk hp
 have hp':=h.pk hl
 have e1:s.any k=(s.pk.t,⟨s.l.tail,s.n,s.b⟩):=by unfold Rd.any;rw[if_neg (by rw[hb];rintro (a | a);cases a;exact a hp)]
 have e2:t.any k=(t.pk.t,⟨t.l.tail,t.n,t.b⟩):=by unfold Rd.any;rw[if_neg (by rw[h.b,hb,hp'.1];rintro (a | a);cases a;exact a hp)]
 rw[e1,e2]
 exact⟨hp'.2,h.tail hl⟩
theorem R.must (h:R r s t) (e:(s.must x).b=false):R r (s.must x) (t.must x):=by
 have hq:(s.take 5 [x]).2.1=true:=by
  unfold Rd.must at e;simp only[Bool.or_eq_false_iff,Bool.not_eq_false'] at e;exact e.2
 have hg:=zaR (by decide) hq
 have hl:s.l≠[]:=is_ne' (k:=5) (ts:=[x]) (by decide) hg.2.2.2.2
 have ht:=h.take (k:=5) (ts:=[x]) (by decide) (h.is hl)
 unfold Rd.must
 exact⟨ht.2.2.l,ht.2.2.n,by show (_||_)=(_||_);rw[ht.2.2.b,ht.2.1]⟩
theorem R.number (h:R r s t) (hk:k≠0) (e:(s.number k).2.b=false):(t.number k).1=(s.number k).1∧R r (s.number k).2 (t.number k).2:=by
 have:=h.any hk e
 exact⟨congrArg numV this.1,this.2⟩
theorem R.node (h:R r s t):R r s.node t.node:=⟨h.l,by show _+1=_+1;rw[h.n],by show (_||_)=(_||_);rw[h.n,h.b]⟩
theorem R.len (h:R r s t):t.l.length=s.l.length+r.length:=by
 have:=congrArg List.length h.l;simpa using this
theorem any_ne (hk:k≠0) (e:(s.any k).2.b=false):s.l≠[]:=by
 have hb:s.b=false:=zat zes e
 refine zew hk (Decidable.byContradiction fun hn=>?_)
 rw[any_no (.inr hn)] at e;cases e
theorem qt_5 {ts:List ByteArray} (h:hasN ts zJ=false):Qt 5 ts:=⟨by decide,fun _=>h,fun e=>by cases e⟩
theorem qt_1 {ts:List ByteArray} (h:hasN ts zcE=false∧hasN ts zei=false∧hasN ts zdN=false):Qt 1 ts:=⟨by decide,fun e=>(by cases e),fun _=>h⟩
theorem R.namesF (hr:Hq r):∀ (F F':Nat) (o:List ByteArray) (s t:Rd),s.l.length<F→F≤F'→R r s t→(namesF F o s).2.b=false→(Lp.namesF F' o t).1=(Lp.namesF F o s).1∧R r (Lp.namesF F o s).2 (Lp.namesF F' o t).2
 | 0,_,_,s,_,h,_,_,_=>absurd h (Nat.not_lt_zero _)
 | F+1,0,_,_,_,_,h,_,_=>absurd h (Nat.not_succ_le_zero _)
 | F+1,F'+1,o,s,t,hF,hF',h,e=>by
  have hb:s.b=false:=zat (fun q=>namesF_b q) e
  unfold Lp.namesF at e ⊢
  rw[if_neg (show ¬s.b=true by rw[hb];decide)] at e ⊢
  rw[if_neg (show ¬t.b=true by rw[h.b,hb];decide)]
  have ha:(s.any 1).2.b=false:=by
   split at e
   · rename_i hq
     exact(zaR (by decide) hq).2.2.1
   · rw[zdH] at e;exact e
  obtain ⟨a1,a2⟩:=h.any (by decide) ha
  obtain ⟨b1,b2,b3⟩:=a2.takeq hr (qt_5 (ts:=[za8]) (by decide))
  rw[b2,a1]
  split
  · rename_i hq
    rw[if_pos hq] at e
    have hg:=zaR (by decide) hq
    have hl:=(zcd s 1).len
    exact R.namesF hr F F' _ _ _ (by omega) (by omega) b3 e
  · exact⟨rfl,b3⟩
theorem R.names (h:R r s t) (hr:Hq r) (e:s.names.2.b=false):t.names.1=s.names.1∧R r s.names.2 t.names.2:=by
 have h1:(s.must zR).b=false:=by
  unfold Rd.names at e;split at e
  · exact zat zbb e
  · exact zat (fun q=>namesF_b q) (zat zbb e)
 have r1:=h.must h1
 by_cases hl:(s.must zR).l=[]
 · exfalso
   unfold Rd.names at e
   rw[if_neg (by rw[zcX hl (by decide)];decide)] at e
   have e:=zat zbb e
   unfold Lp.namesF at e
   rw[if_neg (by rw[h1];decide)] at e
   have ha:((s.must zR).any 1).2.b=false:=by
    split at e
    · rename_i hq;exact(zaR (by decide) hq).2.2.1
    · rw[zdH] at e;exact e
   exact any_ne (by decide) ha hl
 · have hi:=r1.is (k:=5) (ts:=[zJ]) hl
   unfold Rd.names at e ⊢
   rw[hi]
   split
   · rename_i hc
     rw[if_pos hc] at e
     exact⟨rfl,r1.must e⟩
   · rename_i hc
     rw[if_neg hc] at e
     have hlen:=r1.len
     obtain ⟨a1,a2⟩:=R.namesF hr _ ((t.must zR).l.length+1) [] _ _ (Nat.lt_succ_self _) (by omega) r1 (zat zbb e)
     exact⟨a1,a2.must e⟩
theorem R.mode (h:R r s t) (hr:Hq r) {x y:ByteArray} (q:Qt 1 [x,y]) (e:(s.mode x y).2.2.b=false):(t.mode x y).1=(s.mode x y).1∧(t.mode x y).2.1=(s.mode x y).2.1∧R r (s.mode x y).2.2 (t.mode x y).2.2:=by
 obtain ⟨b1,b2,b3⟩:=h.takeq hr q
 unfold Rd.mode at e ⊢
 rw[b2,b1]
 split
 · exact⟨rfl,rfl,b3⟩
 · rename_i hc
   rw[if_neg hc] at e
   split
   · rename_i hd
     rw[if_pos hd] at e
     have:=b3.names hr e
     exact⟨rfl,this.1,this.2⟩
   · rename_i hd
     rw[if_neg hd] at e
     have:=b3.names hr e
     exact⟨rfl,this.1,this.2⟩
def Loc (r:List TokD) (m m':Nat) (p p':Rd→Nd×Rd):Prop:=∀ s t:Rd,s.l.length≤m→t.l.length≤m'→R r s t→(p s).2.b=false→(p' t).1=(p s).1∧R r (p s).2 (p' t).2
theorem qt_on:Qt 1 [tOn,za7]:=qt_1 (by decide)
theorem qt_by:Qt 1 [tBy,zbO]:=qt_1 (by decide)
theorem loc_levelF (hr:Hq r) {part part':Rd→Nd×Rd} {ts:List ByteArray} (q:Qt 5 ts) {m m':Nat} (hb:Bad part) (hp:Loc r m m' part part') (hs:∀ s,Stp 1 s (part s).2) (hs':∀ s,Stp 1 s (part' s).2):∀ (F F':Nat) (o:Nd) (s t:Rd),s.l.length<F→F≤F'→s.l.length≤m→t.l.length≤m'→R r s t→(za5 part ts F o s).2.b=false→(za5 part' ts F' o t).1=(za5 part ts F o s).1∧R r (za5 part ts F o s).2 (za5 part' ts F' o t).2
 | 0,_,_,s,_,h,_,_,_,_,_=>absurd h (Nat.not_lt_zero _)
 | F+1,0,_,_,_,_,h,_,_,_,_=>absurd h (Nat.not_succ_le_zero _)
 | F+1,F'+1,o,s,t,hF,hF',hm,hm',h,e=>by
  obtain ⟨b1,b2,b3⟩:=h.takeq hr q
  unfold za5 at e ⊢
  rw[b2,b1]
  split
  · exact⟨rfl,b3⟩
  · rename_i hc
    rw[if_neg hc] at e
    have hq:(s.take 5 ts).2.1=true:=by simpa using hc
    have hg:=zaR (by decide) hq
    have hg':=zaR (s:=t) (k:=5) (ts:=ts) (by decide) (by rw[b2];exact hq)
    simp only at e ⊢
    have k1:=(zc4 (s.take 5 ts).2.2 tOn za7).len
    have k2:=(zc4 (t.take 5 ts).2.2 tOn za7).len
    have ep:(part ((s.take 5 ts).2.2.mode tOn za7).2.2).2.b=false:=zat zde (zat (fun q=>levelF_b q) e)
    obtain ⟨c1,c2,c3⟩:=b3.mode hr qt_on (hb.no ep)
    obtain ⟨d1,d2⟩:=hp _ _ (by omega) (by omega) c3 ep
    rw[c1,c2,d1]
    have k3:=(hs ((s.take 5 ts).2.2.mode tOn za7).2.2).len
    have k4:=(hs' ((t.take 5 ts).2.2.mode tOn za7).2.2).len
    exact loc_levelF hr q hb hp hs hs' F F' _ _ _ (by show (part _).2.l.length<F;omega) (by omega) (by show (part _).2.l.length≤m;omega) (by show (part' _).2.l.length≤m';omega) d2.node e
theorem zc5 (hr:Hq r) {part part':Rd→Nd×Rd} {ts:List ByteArray} (q:Qt 5 ts) {m m':Nat} (hb:Bad part) (hp:Loc r m m' part part') (hs:∀ s,Stp 1 s (part s).2) (hs':∀ s,Stp 1 s (part' s).2):Loc r m m' (fun s=>s.level part ts) (fun s=>s.level part' ts):=fun s t hm hm' h e=>by
 have ep:(part s).2.b=false:=zat (fun q=>levelF_b q) e
 obtain ⟨d1,d2⟩:=hp _ _ hm hm' h ep
 have k3:=(hs s).len
 have k4:=(hs' t).len
 have k5:=d2.len
 simp only[Rd.level] at e ⊢
 rw[d1]
 exact loc_levelF hr q hb hp hs hs' _ _ _ _ _ (Nat.lt_succ_self _) (by omega) (by omega) (by omega) d2 e
end
end Lp
set_option linter.unusedVariables false
namespace Lp
open Go
section
variable {r:List TokD} {s t:Rd} {k:Int} {ts:List ByteArray} {x:ByteArray}
theorem must_len (e:(s.must x).b=false):(s.must x).l.length+1=s.l.length:=by
 have hq:(s.take 5 [x]).2.1=true:=by
  unfold Rd.must at e;simp only[Bool.or_eq_false_iff,Bool.not_eq_false'] at e;exact e.2
 exact(zaR (by decide) hq).1
theorem any_len (hk:k≠0) (e:(s.any k).2.b=false):(s.any k).2.l.length+1=s.l.length:=by
 have hb:s.b=false:=zat zes e
 have hp:s.pk.k=k:=Decidable.byContradiction fun hn=>by rw[any_no (.inr hn)] at e;cases e
 exact(any_got hk hb hp).1
theorem R.set (h:R r s t) (b:Bool):R r ⟨s.l,s.n,b⟩ ⟨t.l,t.n,b⟩:=⟨h.l,h.n,rfl⟩
theorem R.bracesF (hr:Hq r):∀ (F F':Nat) (o:List MatD) (s t:Rd),s.l.length<F→F≤F'→R r s t→(bracesF F o s).2.b=false→(Lp.bracesF F' o t).1=(Lp.bracesF F o s).1∧R r (Lp.bracesF F o s).2 (Lp.bracesF F' o t).2
 | 0,_,_,s,_,h,_,_,_=>absurd h (Nat.not_lt_zero _)
 | F+1,0,_,_,_,_,h,_,_=>absurd h (Nat.not_succ_le_zero _)
 | F+1,F'+1,o,s,t,hF,hF',h,e=>by
  have hb:s.b=false:=zat (fun q=>bracesF_b q) e
  unfold Lp.bracesF at e ⊢
  rw[if_neg (show ¬s.b=true by rw[hb];decide)] at e ⊢
  rw[if_neg (show ¬t.b=true by rw[h.b,hb];decide)]
  simp only at e ⊢
  have hv:(Rd.any ⟨((s.any 1).2.take 5 [tEq,tNe,zaS,zab]).2.2.l,((s.any 1).2.take 5 [tEq,tNe,zaS,zab]).2.2.n,((s.any 1).2.take 5 [tEq,tNe,zaS,zab]).2.2.b||!((s.any 1).2.take 5 [tEq,tNe,zaS,zab]).2.1⟩ 3).2.b=false:=by
   split at e
   · rename_i hq;exact(zaR (by decide) hq).2.2.1
   · rw[zdH] at e;exact e
  have hc:(((s.any 1).2.take 5 [tEq,tNe,zaS,zab]).2.2.b||!((s.any 1).2.take 5 [tEq,tNe,zaS,zab]).2.1)=false:=zat (fun q=>zes (s:=⟨_,_,_⟩) q) hv
  have ha:(s.any 1).2.b=false:=by
   have:=(Bool.or_eq_false_iff.1 hc).1;rw[zdH] at this;exact this
  obtain ⟨a1,a2⟩:=h.any (by decide) ha
  obtain ⟨c1,c2,c3⟩:=a2.takeq hr (qt_5 (ts:=[tEq,tNe,zaS,zab]) (by decide))
  have c4:=c3.set (((s.any 1).2.take 5 [tEq,tNe,zaS,zab]).2.2.b||!((s.any 1).2.take 5 [tEq,tNe,zaS,zab]).2.1)
  obtain ⟨v1,v2⟩:=c4.any (by decide) hv
  obtain ⟨d1,d2,d3⟩:=v2.takeq hr (qt_5 (ts:=[za8]) (by decide))
  have el:(s.any 1).2.l.length+1=s.l.length:=any_len (by decide) ha
  rw[c3.b,c2,c1,a1,v1,d2]
  split
  · rename_i hq
    rw[if_pos hq] at e
    have k1:=(zaR (by decide) hq).1
    have k2:=(zcd (⟨((s.any 1).2.take 5 [tEq,tNe,zaS,zab]).2.2.l,((s.any 1).2.take 5 [tEq,tNe,zaS,zab]).2.2.n,((s.any 1).2.take 5 [tEq,tNe,zaS,zab]).2.2.b||!((s.any 1).2.take 5 [tEq,tNe,zaS,zab]).2.1⟩:Rd) 3).len
    have k3:=(zah (s.any 1).2 5 [tEq,tNe,zaS,zab]).len
    simp only at k2
    exact R.bracesF hr F F' _ _ _ (by omega) (by omega) d3 e
  · exact⟨rfl,d3⟩
theorem bracesF_ne {F:Nat} {o:List MatD} {s:Rd} (hb:s.b=false) (e:(bracesF (F+1) o s).2.b=false):s.l≠[]:=by
 unfold bracesF at e
 rw[if_neg (show ¬s.b=true by rw[hb];decide)] at e
 simp only at e
 have hv:(Rd.any ⟨((s.any 1).2.take 5 [tEq,tNe,zaS,zab]).2.2.l,((s.any 1).2.take 5 [tEq,tNe,zaS,zab]).2.2.n,((s.any 1).2.take 5 [tEq,tNe,zaS,zab]).2.2.b||!((s.any 1).2.take 5 [tEq,tNe,zaS,zab]).2.1⟩ 3).2.b=false:=by
  split at e
  · rename_i hq;exact(zaR (by decide) hq).2.2.1
  · rw[zdH] at e;exact e
 have hc:(((s.any 1).2.take 5 [tEq,tNe,zaS,zab]).2.2.b||!((s.any 1).2.take 5 [tEq,tNe,zaS,zab]).2.1)=false:=zat (fun q=>zes (s:=⟨_,_,_⟩) q) hv
 have ha:(s.any 1).2.b=false:=by
  have:=(Bool.or_eq_false_iff.1 hc).1;rw[zdH] at this;exact this
 exact any_ne (by decide) ha
variable (rm:List MatD→Bool)
theorem R.braces (h:R r s t) (hr:Hq r) (e:(s.braces rm).2.b=false):(t.braces rm).1=(s.braces rm).1∧R r (s.braces rm).2 (t.braces rm).2:=by
 have h1:(s.must zbf).b=false:=by
  unfold Rd.braces at e;split at e
  · exact zat zbb e
  · have e:(((Lp.bracesF _ [] (s.must zbf)).2.must zbr).b||_)=false:=e
    exact zat (fun q=>bracesF_b q) (zat zbb (Bool.or_eq_false_iff.1 e).1)
 have r1:=h.must h1
 by_cases hl:(s.must zbf).l=[]
 · exfalso
   unfold Rd.braces at e
   rw[if_neg (by rw[zcX hl (by decide)];decide)] at e
   have e:(((Lp.bracesF _ [] (s.must zbf)).2.must zbr).b||_)=false:=e
   exact bracesF_ne h1 (zat zbb (Bool.or_eq_false_iff.1 e).1) hl
 · have hi:=r1.is (k:=5) (ts:=[zbr]) hl
   unfold Rd.braces at e ⊢
   rw[hi]
   split
   · rename_i hc
     rw[if_pos hc] at e
     exact⟨rfl,r1.must e⟩
   · rename_i hc
     rw[if_neg hc] at e
     have e':(((Lp.bracesF _ [] (s.must zbf)).2.must zbr).b||_)=false:=e
     have e2:=(Bool.or_eq_false_iff.1 e').1
     have hlen:=r1.len
     obtain ⟨a1,a2⟩:=R.bracesF hr _ ((t.must zbf).l.length+1) [] _ _ (Nat.lt_succ_self _) (by omega) r1 (zat zbb e2)
     have a3:=a2.must e2
     exact⟨a1,⟨a3.l,a3.n,by show (_||!rm _)=(_||!rm _);rw[a3.b,a1]⟩⟩
theorem sel_nil {s:Rd} (hl:s.l=[]):(s.selector rm).2.b=true:=by
 have hp:s.pk=zbk:=pk_0 (by rw[hl];rfl)
 have e1:s.selName=(ByteArray.empty,s):=by unfold Rd.selName;rw[if_neg (by rw[hp];rintro ⟨a,_⟩;exact absurd a (by decide))]
 unfold Rd.selector
 simp only[e1]
 refine zde (selWin_b ?_)
 unfold Rd.selMs
 rw[if_neg (by rw[zcX hl (by decide)];decide)]
 show (s.b||decide (ByteArray.empty=ByteArray.empty))=true
 rw[decide_eq_true rfl,Bool.or_true]
theorem R.selWin (h:R r s t) (hr:Hq r) (e:s.selWin.2.b=false):t.selWin.1=s.selWin.1∧R r s.selWin.2 t.selWin.2:=by
 obtain ⟨b1,b2,b3⟩:=h.takeq hr (qt_5 (ts:=[tSq]) (by decide))
 unfold Rd.selWin at e ⊢
 rw[b2]
 split
 · rename_i hc
   rw[if_pos hc] at e
   obtain ⟨a1,a2⟩:=b3.number (k:=4) (by decide) (zat zbb e)
   exact⟨a1,a2.must e⟩
 · exact⟨rfl,b3⟩
theorem R.selMs (h:R r s t) (hr:Hq r) (e:(s.selMs rm x).2.b=false):(t.selMs rm x).1=(s.selMs rm x).1∧R r (s.selMs rm x).2 (t.selMs rm x).2:=by
 have hi:=h.isq hr (qt_5 (ts:=[zbf]) (by decide))
 unfold Rd.selMs at e ⊢
 rw[hi]
 split
 · rename_i hc
   rw[if_pos hc] at e
   exact h.braces rm hr e
 · exact⟨rfl,by show R r ⟨s.l,s.n,s.b||_⟩ ⟨t.l,t.n,t.b||_⟩;rw[h.b];exact h.set _⟩
theorem R.selector (h:R r s t) (hr:Hq r) (hl:s.l≠[]) (e:(s.selector rm).2.b=false):(t.selector rm).1=(s.selector rm).1∧R r (s.selector rm).2 (t.selector rm).2:=by
 have hp:=h.pk hl
 have e0:=e
 unfold Rd.selector at e
 simp only at e
 have e3:=zat zde e
 have e2:=zat selWin_b e3
 have e1:s.selName.2.b=false:=zat (fun q=>selMs_b rm q) e2
 have hn:t.selName.1=s.selName.1∧R r s.selName.2 t.selName.2:=by
  unfold Rd.selName at e1 ⊢
  rw[hp.1,hp.2]
  split
  · rename_i hc
    rw[if_pos hc] at e1
    exact h.any (by decide) e1
  · exact⟨rfl,h⟩
 obtain ⟨m1,m2⟩:=hn.2.selMs rm hr e2
 obtain ⟨w1,w2⟩:=m2.selWin hr e3
 unfold Rd.selector
 simp only
 rw[hn.1,m1,w1]
 exact⟨rfl,w2.node⟩
theorem Loc.mono {m m' a b:Nat} {p p':Rd→Nd×Rd} (h:Loc r m m' p p') (ha:a≤m) (hb:b≤m'):Loc r a b p p':=fun s t h1 h2=>h s t (by omega) (by omega)
theorem R.aggr (h:R r s t) (hr:Hq r) {ex ex':Rd→Nd×Rd} (hb:Bad ex) {m m':Nat} (hs:s.l.length≤m) (ht:t.l.length≤m') (hx:∀ a b,a<m→b<m'→Loc r a b ex ex') (e:(s.aggr ex).2.b=false):(t.aggr ex').1=(s.aggr ex).1∧R r (s.aggr ex).2 (t.aggr ex').2:=by
 unfold Rd.aggr at e ⊢
 simp only at e ⊢
 have e6:=zat zbb (zat zde e)
 have e5:=hb.no e6
 have e3:((s.any 1).2.mode tBy zbO |>.2.2.must zR).b=false:=by
  by_cases hn:zbz (s.any 1).1=true
  · rw[if_pos hn,if_pos hn] at e5;exact zat zes (zat zbb e5)
  · rw[if_neg hn,if_neg hn] at e5;exact e5
 have e2:=zat zbb e3
 have e1:(s.any 1).2.b=false:=zat mode_b e2
 obtain ⟨a1,a2⟩:=h.any (by decide) e1
 obtain ⟨c1,c2,c3⟩:=a2.mode hr qt_by e2
 have c4:=c3.must e3
 have l1:=any_len (s:=s) (by decide) e1
 have l2:=(zc4 (s.any 1).2 tBy zbO).len
 have l3:=must_len e3
 have t1:=a2.len;have t2:=c3.len;have t3:=c4.len;have t0:=h.len
 rw[a1,c1,c2]
 by_cases hn:zbz (s.any 1).1=true
 · rw[if_pos hn,if_pos hn] at e5
   simp only[if_pos hn] at e e6 ⊢
   obtain ⟨n1,n2⟩:=c4.number (k:=2) (by decide) (zat zbb e5)
   have n3:=n2.must e5
   have l4:=must_len e5
   have l5:=(zbA ((s.any 1).2.mode tBy zbO |>.2.2.must zR) 2).len
   have t4:=n3.len
   obtain ⟨x1,x2⟩:=hx _ _ (by omega) (by omega) _ _ (Nat.le_refl _) (Nat.le_refl _) n3 e6
   rw[n1,x1]
   exact⟨rfl,(x2.must (zat zde e)).node⟩
 · rw[if_neg hn,if_neg hn] at e5
   simp only[if_neg hn] at e e6 ⊢
   obtain ⟨x1,x2⟩:=hx _ _ (by omega) (by omega) _ _ (Nat.le_refl _) (Nat.le_refl _) c4 e6
   rw[x1]
   exact⟨rfl,(x2.must (zat zde e)).node⟩
theorem loc_prim (hr:Hq r) {ex ex':Rd→Nd×Rd} (hb:Bad ex) {m m':Nat} (hx:∀ a b,a<m→b<m'→Loc r a b ex ex'):Loc r m m' (fun s=>s.prim rm ex) (fun s=>s.prim rm ex'):=fun s t hs ht h e=>by
 have h0:s.b=false:=(prim_b rm ex).no e
 have hn:¬s.b=true:=by rw[h0];decide
 simp only[Rd.prim] at e ⊢
 rw[if_neg hn] at e ⊢
 rw[if_neg (show ¬t.b=true by rw[h.b];exact hn)]
 by_cases hl:s.l=[]
 · exfalso
   have hp:s.pk=zbk:=pk_0 (by rw[hl];rfl)
   rw[if_neg (by rw[hp];decide),if_neg (by rw[zcX hl (by decide)];decide),if_neg (by rw[hp];rintro ⟨a,_⟩;exact absurd a (by decide)),if_neg (by rw[hp];rintro ⟨a,_⟩;exact absurd a (by decide)),sel_nil rm hl] at e
   cases e
 · have hp:=h.pk hl
   have hi:=h.is (k:=5) (ts:=[zR]) hl
   have t0:=h.len
   rw[hp.1,hp.2,hi]
   split
   · rename_i hc
     rw[if_pos hc] at e
     obtain ⟨n1,n2⟩:=h.number (k:=2) (by decide) (zat zde e)
     rw[n1];exact⟨rfl,n2.node⟩
   · rename_i hc
     rw[if_neg hc] at e
     split
     · rename_i hd
       rw[if_pos hd] at e
       have e1:=zat zbb e
       have e2:=hb.no e1
       have r1:=h.must e2
       have l1:=must_len e2
       have t1:=r1.len
       obtain ⟨x1,x2⟩:=hx _ _ (by omega) (by omega) _ _ (Nat.le_refl _) (Nat.le_refl _) r1 e1
       exact⟨x1,x2.must e⟩
     · rename_i hd
       rw[if_neg hd] at e
       split
       · rename_i hf
         rw[if_pos hf] at e
         exact h.aggr hr hb hs ht hx e
       · rename_i hf
         rw[if_neg hf] at e
         split
         · rename_i hg
           rw[if_pos hg] at e
           simp only at e ⊢
           have e1:=zat zde (zat zbb e)
           have e2:=hb.no e1
           have e3:=zat zbb e2
           obtain ⟨a1,a2⟩:=h.any (by decide) e3
           have r1:=a2.must e2
           have l0:=any_len (s:=s) (by decide) e3
           have l1:=must_len e2
           have t1:=r1.len
           obtain ⟨x1,x2⟩:=hx _ _ (by omega) (by omega) _ _ (Nat.le_refl _) (Nat.le_refl _) r1 e1
           rw[a1,x1]
           exact⟨rfl,x2.node.must e⟩
         · rename_i hg
           rw[if_neg hg] at e
           exact h.selector rm hr hl e
theorem loc_unaryF (hr:Hq r) {ex ex':Rd→Nd×Rd} {m m':Nat} (hp:Loc r m m' (fun s=>s.prim rm ex) (fun s=>s.prim rm ex')):∀ (F F':Nat) (s t:Rd),s.l.length<F→F≤F'→s.l.length≤m→t.l.length≤m'→R r s t→(zaD rm ex F s).2.b=false→(zaD rm ex' F' t).1=(zaD rm ex F s).1∧R r (zaD rm ex F s).2 (zaD rm ex' F' t).2
 | 0,_,s,_,h,_,_,_,_,_=>absurd h (Nat.not_lt_zero _)
 | F+1,0,_,_,_,h,_,_,_,_=>absurd h (Nat.not_succ_le_zero _)
 | F+1,F'+1,s,t,hF,hF',hm,hm',h,e=>by
  obtain ⟨b1,b2,b3⟩:=h.takeq hr (qt_5 (ts:=[zbv]) (by decide))
  have k1:=(zah s 5 [zbv]).len
  have k2:=(zah t 5 [zbv]).len
  unfold zaD at e ⊢
  rw[b2]
  split
  · rename_i hc
    rw[if_pos hc] at e
    simp only at e ⊢
    have hg:=zaR (by decide) hc
    obtain ⟨d1,d2⟩:=loc_unaryF hr hp F F' _ _ (by omega) (by omega) (by omega) (by omega) b3 (zat zde e)
    rw[d1];exact⟨rfl,d2.node⟩
  · rename_i hc
    rw[if_neg hc] at e
    exact hp _ _ (by omega) (by omega) b3 e
theorem loc_prod (hr:Hq r) {ex ex':Rd→Nd×Rd} {m m':Nat} (hb:Bad ex) (hs:∀ s,Stp 1 s (ex s).2) (hs':∀ s,Stp 1 s (ex' s).2) (hx:∀ a b,a<m→b<m'→Loc r a b ex ex'):Loc r m m' (zdP rm ex) (zdP rm ex'):=
 zc5 hr (qt_5 (by decide)) (fun s h=>unaryF_b rm ex _ s h) (fun s t h1 h2 h e=>loc_unaryF rm hr (loc_prim rm hr hb hx) _ _ s t (Nat.lt_succ_self _) (by have:=h.len;omega) h1 h2 h e) (fun s=>zb4 rm hs _ s) (fun s=>zb4 rm hs' _ s)
theorem loc_sum (hr:Hq r) {ex ex':Rd→Nd×Rd} {m m':Nat} (hb:Bad ex) (hs:∀ s,Stp 1 s (ex s).2) (hs':∀ s,Stp 1 s (ex' s).2) (hx:∀ a b,a<m→b<m'→Loc r a b ex ex'):Loc r m m' (sumP rm ex) (sumP rm ex'):=
 zc5 hr (qt_5 (by decide)) (prod_b rm ex) (loc_prod rm hr hb hs hs' hx) (fun s=>prodP_stp rm hs s) (fun s=>prodP_stp rm hs' s)
theorem loc_expr (hr:Hq r):∀ f f':Nat,Loc r f f' (zaO rm (f+1)) (zaO rm (f'+1))
 | 0,f'=>zc5 hr (qt_5 (by decide)) (sum_b rm _) (loc_sum rm hr (expr_b rm _) (zaz rm _) (zaz rm _) (fun a b ha _=>absurd ha (Nat.not_lt_zero _))) (fun s=>zcg rm (zaz rm _) s) (fun s=>zcg rm (zaz rm _) s)
 | f+1,0=>zc5 hr (qt_5 (by decide)) (sum_b rm _) (loc_sum rm hr (expr_b rm _) (zaz rm _) (zaz rm _) (fun a b _ hb=>absurd hb (Nat.not_lt_zero _))) (fun s=>zcg rm (zaz rm _) s) (fun s=>zcg rm (zaz rm _) s)
 | f+1,f'+1=>zc5 hr (qt_5 (by decide)) (sum_b rm _) (loc_sum rm hr (expr_b rm _) (zaz rm _) (zaz rm _) (fun a b ha hb=>(loc_expr hr f f').mono (by omega) (by omega))) (fun s=>zcg rm (zaz rm _) s) (fun s=>zcg rm (zaz rm _) s)
end
end Lp
set_option linter.unusedVariables false
namespace Lp
open Go
theorem words_er {l:List UInt8} {a:Nat} {ts:List TokD} (h:zV l 0=some ts):∃ us,zV l a=some us∧us.map er=ts.map er:=by
 have e:=wordsL_by a _ l 0 rfl
 rw[h,Nat.zero_add] at e
 exact⟨_,e,by simp only[List.map_map];exact List.map_congr_left fun x _=>rfl⟩
theorem words_step {l r:List UInt8} {x:TokD} {us:List TokD} (hne:l≠[]) (hb:runL isB (l++r)=0) (hf:zt (l++r)=(x,l.length)) (h2:zV r 0=some us):∃ vs,zV (l++r) 0=some vs∧vs.map er=(x::us).map er:=by
 obtain ⟨u2,e1,e2⟩:=words_er (a:=0+l.length) h2
 have hp:=List.length_pos_iff.2 hne
 refine⟨x.put 0::u2,?_,by rw[List.map_cons,List.map_cons,e2];rfl⟩
 rw[zcw (n:=(l++r).length) (Nat.le_refl _),hb,List.drop_zero,zaX (by simp[hne]) (by rw[hf];simp only;omega) (Nat.le_refl _),hf]
 simp only[List.drop_left,Nat.add_zero,e1];rfl
theorem words_close:zV [41] 0=some [⟨5,0,zJ⟩]:=by
 have hd:decL [41]=(41,1):=zZ (by decide)
 refine words_one (l:=[41]) (x:=⟨5,0,zJ⟩) (List.cons_ne_nil _ _) (zco (by rw[hd];decide)) ?_
 unfold zt
 rw[hd,if_neg (by decide),if_neg (by decide),if_neg (by decide)]
 rfl
def tkO:TokD:=⟨5,0,zR⟩
def tkC:TokD:=⟨5,0,zJ⟩
section
variable {rm:List MatD→Bool}
theorem lev_stop {part:Rd→Nd×Rd} {t u:Rd} {n:Nd} {ts:List ByteArray} {r:List TokD} (hr:Hq r) (q:Qt 5 ts) (e:part t=(n,u)) (hu:u.l.map er=r.map er):t.level part ts=(n,u):=by
 have hR:R r ⟨[],u.n,u.b⟩ u:=⟨hu,rfl,rfl⟩
 have hi:u.is 5 ts=false:=by rw[hR.isq hr q];exact zcX rfl (by decide)
 have ht:u.take 5 ts=(ByteArray.empty,false,u):=zdy (.inr hi)
 unfold Rd.level;rw[e];unfold za5;simp only[ht,if_true]
theorem is_open {t:Rd} {r:List TokD} (h:t.l.map er=(tkO::r).map er):t.pk.k=5∧t.pk.t=zR:=by
 have e1:=zex (s:=t);rw[h] at e1
 exact er_kt (show er t.pk=er tkO from e1)
theorem must_er {t:Rd} {x:ByteArray} {r:List TokD} (hb:t.b=false) (h:t.l.map er=((⟨5,0,x⟩:TokD)::r).map er):(t.must x).l.map er=r.map er∧(t.must x).n=t.n∧(t.must x).b=false:=by
 have e1:=zex (s:=t);rw[h] at e1
 obtain ⟨e2,e3⟩:=er_kt (show er t.pk=er (⟨5,0,x⟩:TokD) from e1)
 have hi:t.is 5 [x]=true:=by unfold Rd.is;rw[e2,e3];simp[hasN]
 have ht:t.take 5 [x]=(t.pk.t,true,⟨t.l.tail,t.n,t.b⟩):=by unfold Rd.take;rw[if_neg (by rw[hb,hi];simp)]
 unfold Rd.must;rw[ht]
 refine⟨?_,rfl,by show (t.b||!true)=false;rw[hb];rfl⟩
 show t.l.tail.map er=_
 rw[List.map_tail,h];rfl
theorem unary_brk {ex:Rd→Nd×Rd} {t:Rd} {r:List TokD} (hb:t.b=false) (h:t.l.map er=(tkO::r).map er) (F:Nat):zaD rm ex (F+1) t=((ex (t.must zR)).1,(ex (t.must zR)).2.must zJ):=by
 obtain ⟨e2,e3⟩:=is_open h
 have hm:t.is 5 [zbv]=false:=by unfold Rd.is;rw[e3];rw[show hasN [zbv] zR=false by decide,Bool.and_false]
 have ht:t.take 5 [zbv]=(ByteArray.empty,false,t):=zdy (.inr hm)
 unfold zaD;rw[ht]
 show Rd.prim rm t ex=_
 unfold Rd.prim
 rw[if_neg (by rw[hb];decide),if_neg (by rw[e2];decide),if_pos (by unfold Rd.is;rw[e2,e3];decide)]
theorem expr_brk {f:Nat} {t:Rd} {r r':List TokD} {n:Nd} (hr:Hq r') (hb:t.b=false) (h:t.l.map er=(tkO::r).map er) (e1:(zaO rm f (t.must zR)).1=n) (e2:((zaO rm f (t.must zR)).2.must zJ).l.map er=r'.map er):zaO rm (f+1) t=(n,(zaO rm f (t.must zR)).2.must zJ):=by
 have hu:zaD rm (zaO rm f) (t.l.length+1) t=(n,(zaO rm f (t.must zR)).2.must zJ):=by rw[unary_brk hb h,e1]
 have hp:zdP rm (zaO rm f) t=(n,(zaO rm f (t.must zR)).2.must zJ):=lev_stop hr (qt_5 (by decide)) hu e2
 have hs:sumP rm (zaO rm f) t=(n,(zaO rm f (t.must zR)).2.must zJ):=lev_stop hr (qt_5 (by decide)) hp e2
 exact lev_stop hr (qt_5 (by decide)) hs e2
theorem hq_close (r:List TokD):Hq (tkC::r):=fun h e=>by injection e with e;subst e;exact .inl ⟨rfl,rfl⟩
theorem brk_ok {l:List TokD} {q:Nd} {c:Int} (h1:(zaO rm (l.length+1) ⟨l,0,false⟩).1=q) (h2:(zaO rm (l.length+1) ⟨l,0,false⟩).2=⟨[],c,false⟩):∀ (n:Nat) (r:List TokD),Hq r→∀ (f:Nat) (t:Rd),t.l.map er=(List.replicate n tkO++l++List.replicate n tkC++r).map er→t.n=0→t.b=false→t.l.length≤f→(zaO rm (f+1) t).1=q∧(zaO rm (f+1) t).2.l.map er=r.map er∧(zaO rm (f+1) t).2.n=c∧(zaO rm (f+1) t).2.b=false
 | 0,r,hr,f,t,ht,hn,hb,hf=>by
  have hR:R r ⟨l,0,false⟩ t:=⟨by rw[ht];simp,hn,hb⟩
  obtain ⟨a1,a2⟩:=loc_expr rm hr l.length f ⟨l,0,false⟩ t (Nat.le_refl _) hf hR (by rw[h2])
  rw[h1] at a1;rw[h2] at a2
  exact⟨a1,a2.l,a2.n,a2.b⟩
 | n+1,r,hr,f,t,ht,hn,hb,hf=>by
  have ht2:t.l.map er=(tkO::(List.replicate n tkO++l++List.replicate n tkC++(tkC::r))).map er:=by
   rw[ht,List.replicate_succ,show List.replicate (n+1) tkC=List.replicate n tkC++[tkC] from List.replicate_succ'];simp
  obtain ⟨m1,m2,m3⟩:=must_er hb ht2
  have hlen:(t.must zR).l.length+1=t.l.length:=by
   have x1:=congrArg List.length ht2;have x2:=congrArg List.length m1
   simp only[List.length_map,List.length_cons] at x1 x2;omega
  obtain ⟨f,rfl⟩:∃ k,f=k+1:=⟨f-1,by omega⟩
  obtain ⟨i1,i2,i3,i4⟩:=brk_ok h1 h2 n (tkC::r) (hq_close r) f (t.must zR) m1 (m2.trans hn) m3 (by omega)
  obtain ⟨j1,j2,j3⟩:=must_er (x:=zJ) i4 i2
  have e:=expr_brk hr hb ht2 i1 j1
  rw[e]
  exact⟨rfl,j1,j2.trans i3,j3⟩
end
section
variable (rm:List MatD→Bool)
theorem end_order {s:Rd} (h:s.l=[]):s.order=(0,s):=by
 unfold Rd.order;rw[zdy (.inr (zcX h (by decide)))];simp
theorem end_bound {s:Rd} {w:ByteArray} (h:s.l=[]):s.bound w=(-1,s):=by
 unfold Rd.bound;rw[zdy (.inr (zcX h (by decide)))];simp
theorem parse_end {l:List TokD} {q:Nd} {u:Rd} (h:zaO rm (l.length+1) ⟨l,0,false⟩=(q,u)) (hl:u.l=[]) (hb:u.b=false):zcU rm l=some ⟨q,0,-1,-1⟩:=by
 unfold zcU;simp only
 rw[h];simp only
 rw[end_order hl];simp only
 rw[end_bound hl];simp only
 rw[end_bound hl];simp only
 rw[if_neg (by rw[hb,hl];rintro (a | a);cases a;exact absurd a (Nat.lt_irrefl 0))]
end
theorem read_words {s:ByteArray} {ts:List TokD} (hs:s.size≤600) (h:zV (bl8 s) 0=some ts):lexL s=ts∧lexE s=0:=by
 unfold lexL lexE
 rw[if_neg (by omega),if_neg (by omega),h];exact⟨rfl,rfl⟩
end Lp
set_option linter.unusedVariables false
namespace Lp
open Go
def Lx (s:ByteArray) (W:List TokD):Prop:=∃ vs,zV (bl8 s) 0=some vs∧vs.map er=W.map er
theorem bl8_app (a b:ByteArray):bl8 (a++b)=bl8 a++bl8 b:=by simp[bl8]
theorem Lx.lex {s:ByteArray} {W:List TokD} (h:Lx s W) (hs:s.size≤600):lexE s=0∧(lexL s).map er=W.map er:=by
 obtain ⟨vs,e1,e2⟩:=h
 obtain ⟨a,b⟩:=read_words hs e1
 exact⟨b,by rw[a];exact e2⟩
section
variable {r:List TokD} {u:Rd} {x y:TokD} {k:Int} {ts:List ByteArray} {w:ByteArray}
end
theorem read_some {s:ByteArray} {q:QryD} (hE:lexE s=0) (h:zcU rmD (lexL s)=some q):zW s=0∧zbc s=q:=by unfold zW zbc;rw[if_pos hE,if_pos hE,h];exact⟨rfl,rfl⟩
end Lp
