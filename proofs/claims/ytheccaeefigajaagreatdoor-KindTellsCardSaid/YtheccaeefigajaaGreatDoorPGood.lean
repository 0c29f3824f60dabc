import Derived.Test.YtheccaeefigajaaGreatDoorV28X
set_option linter.unusedVariables false
namespace Lp
open Go
section
variable {s:Rd} {k:Int} {ts:List ByteArray} {x:ByteArray}
theorem take_b:(s.take k ts).2.2.b=s.b:=by unfold Rd.take;split<;>rfl
theorem zej (h:s.b=true):(s.must x).b=true:=by unfold Rd.must;simp only[take_b,h,Bool.true_or]
theorem any_b (h:s.b=true):(s.any k).2.b=true:=by unfold Rd.any;rw[if_pos (.inl h)]
theorem zeB (h:s.b=true):s.node.b=true:=by unfold Rd.node;simp only[h,Bool.true_or]
theorem zdf (h:s.b=true):s.take k ts=(ByteArray.empty,false,s):=take_no (.inl h)
theorem mode_b {y:ByteArray} (h:s.b=true):(s.mode x y).2.2.b=true:=by
 unfold Rd.mode;rw[zdf h];simpa using h
theorem levelF_b {part:Rd→Nd×Rd} {F:Nat} {o:Nd} (h:s.b=true):(zbl part ts F o s).2.b=true:=by
 cases F with
 | zero=>exact h
 | succ F=>unfold zbl;rw[zdf h];simpa using h
end
def Bad (p:Rd→Nd×Rd):Prop:=∀ s,s.b=true→(p s).2.b=true
theorem Bad.no {p:Rd→Nd×Rd} (h:Bad p) {s:Rd} (e:(p s).2.b=false):s.b=false:=by
 cases hs:s.b with
 | false=>rfl
 | true=>rw[h s hs] at e;cases e
theorem zbQ {a b:Bool} (h:a=true→b=true) (e:b=false):a=false:=by
 cases a with
 | false=>rfl
 | true=>rw[h rfl] at e;cases e
theorem level_b {part:Rd→Nd×Rd} (h:Bad part) (ts:List ByteArray):Bad (fun s=>s.level part ts):=fun s hs=>levelF_b (h s hs)
section
variable (rm:List MatD→Bool)
theorem prim_b (ex:Rd→Nd×Rd):Bad (fun s=>s.prim rm ex):=fun s h=>by simp only[Rd.prim];rw[if_pos h];exact h
theorem unaryF_b (ex:Rd→Nd×Rd):∀ F,Bad (za7 rm ex F)
 | 0,s,h=>h
 | F+1,s,h=>by unfold za7;rw[zdf h];simpa using prim_b rm ex s h
theorem prod_b (ex:Rd→Nd×Rd):Bad (zeq rm ex):=level_b (fun s h=>unaryF_b rm ex _ s h) _
theorem sum_b (ex:Rd→Nd×Rd):Bad (sumP rm ex):=level_b (prod_b rm ex) _
theorem expr_b:∀ F,Bad (zbR rm F)
 | 0,s,h=>h
 | F+1,s,h=>level_b (sum_b rm (zbR rm F)) _ s h
end
theorem selWin_b {s:Rd} (h:s.b=true):s.selWin.2.b=true:=by unfold Rd.selWin;rw[zdf h];simpa using h
def er (t:TokD):TokD:=⟨t.k,0,t.t⟩
structure R (r:List TokD) (s t:Rd):Prop where
 l:t.l.map er=(s.l++r).map er
 n:t.n=s.n
 b:t.b=s.b
section
variable {r:List TokD} {s t:Rd} {k:Int} {ts:List ByteArray} {x:ByteArray}
theorem is_nil (hl:s.l=[]) (hk:k≠0):s.is k ts=false:=by
 unfold Rd.is;rw[pk_0 (by rw[hl];rfl),decide_eq_false (show ¬zbH.k=k from fun e=>hk e.symm)];rfl
theorem is_ne' (hk:k≠0) (h:s.is k ts=true):s.l≠[]:=fun e=>by rw[is_nil e hk] at h;cases h
end
end Lp
set_option linter.unusedVariables false
namespace Lp
open Go
section
variable {r:List TokD} {s t:Rd} {k:Int} {ts:List ByteArray} {x:ByteArray}
theorem must_len (e:(s.must x).b=false):(s.must x).l.length+1=s.l.length:=by
 have hq:(s.take 5 [x]).2.1=true:=by
  unfold Rd.must at e;simp only[Bool.or_eq_false_iff,Bool.not_eq_false'] at e;exact e.2
 exact(zbB (by decide) hq).1
theorem any_len (hk:k≠0) (e:(s.any k).2.b=false):(s.any k).2.l.length+1=s.l.length:=by
 have hb:s.b=false:=zbQ any_b e
 have hp:s.pk.k=k:=Decidable.byContradiction fun hn=>by rw[any_no (.inr hn)] at e;cases e
 exact(zdS hk hb hp).1
variable (rm:List MatD→Bool)
end
end Lp
set_option linter.unusedVariables false
namespace Lp
open Go
section
variable {rm:List MatD→Bool}
end
section
variable (rm:List MatD→Bool)
theorem bound_b {s:Rd} {w:ByteArray} (h:s.b=true):(s.bound w).2.b=true:=by
 unfold Rd.bound;rw[zdf h];simpa using h
theorem order_b {s:Rd} (h:s.b=true):s.order.2.b=true:=by
 unfold Rd.order;rw[zdf h];simpa using h
theorem parse_parts {l:List TokD} {q:QryD} (h:zbJ rm l=some q):(zbR rm (l.length+1) ⟨l,0,false⟩).1=q.root∧(zbR rm (l.length+1) ⟨l,0,false⟩).2.b=false∧
 ((q.order=0∧q.limit= -1∧q.offset= -1∧(zbR rm (l.length+1) ⟨l,0,false⟩).2.l=[])∨((q.order≠0∨0≤q.limit∨0≤q.offset)∧∃ y m,(zbR rm (l.length+1) ⟨l,0,false⟩).2.l=y::m∧y.k=1)):=by
 unfold zbJ at h
 simp only at h
 split at h
 · cases h
 · rename_i hc
   injection h with h
   have hb:(((zbR rm (l.length+1) ⟨l,0,false⟩).2.order.2.bound zds).2.bound zcK).2.b=false:=by
    cases e:(((zbR rm (l.length+1) ⟨l,0,false⟩).2.order.2.bound zds).2.bound zcK).2.b with
    | false=>rfl
    | true=>exact absurd (.inl e) hc
   have hl:(((zbR rm (l.length+1) ⟨l,0,false⟩).2.order.2.bound zds).2.bound zcK).2.l=[]:=by
    rcases Nat.eq_zero_or_pos (((zbR rm (l.length+1) ⟨l,0,false⟩).2.order.2.bound zds).2.bound zcK).2.l.length with e | e
    · exact List.length_eq_zero_iff.1 e
    · exact absurd (.inr e) hc
   have b1:=zbQ (fun q=>bound_b q) hb
   have b2:=zbQ (fun q=>bound_b q) b1
   have b3:=zbQ (fun q=>order_b q) b2
   subst h
   refine⟨rfl,b3,?_⟩
   generalize (zbR rm (l.length+1) ⟨l,0,false⟩).2=u at*
   have pos:∀ (x:ByteArray),(0:Int)≤numV x:=fun x=>by unfold numV;omega
   have word:∀ (s:Rd) (ts:List ByteArray),(s.take 1 ts).2.1=true→∃ y m,s.l=y::m∧y.k=1:=fun s ts hq=>by
    have hg:=zbB (by decide) hq
    have hl:s.l≠[]:=is_ne' (k:=1) (by decide) hg.2.2.2.2
    obtain ⟨y,m,e⟩:=List.exists_cons_of_ne_nil hl
    refine⟨y,m,e,?_⟩
    have:=is_k hg.2.2.2.2
    unfold Rd.pk at this;rw[e] at this;exact this
   by_cases ho:(u.take 1 [zcW]).2.1=true
   · refine .inr ⟨.inl ?_,word u _ ho⟩
     show u.order.1≠0
     unfold Rd.order;simp only
     rw[if_neg (by rw[ho];decide)]
     split
     · show (2:Int)≠0;decide
     · show (1:Int)≠0;decide
   · have ho':(u.take 1 [zcW]).2.1=false:=by simpa using ho
     have hu2:(u.take 1 [zcW]).2.2=u:=by
      unfold Rd.take at ho' ⊢;split
      · rfl
      · rename_i hc2;rw[if_neg hc2] at ho';cases ho'
     have eo:u.order=(0,u):=by unfold Rd.order;simp only;rw[if_pos ho',hu2]
     rw[eo] at hl b1 b2 ⊢
     simp only at hl b1 b2 ⊢
     have bd:∀ (s:Rd) (w:ByteArray),(s.take 1 [w]).2.1=false→s.bound w=(-1,s):=fun s w hw=>by
      have:(s.take 1 [w]).2.2=s:=by
       unfold Rd.take at hw ⊢;split
       · rfl
       · rename_i hc2;rw[if_neg hc2] at hw;cases hw
      unfold Rd.bound;rw[if_pos hw,this]
     have bp:∀ (s:Rd) (w:ByteArray),¬(s.take 1 [w]).2.1=false→0≤(s.bound w).1:=fun s w hw=>by
      unfold Rd.bound;rw[if_neg hw];exact pos _
     by_cases h1:(u.take 1 [zds]).2.1=false
     · rw[bd u zds h1] at hl b1 ⊢
       simp only at hl b1 ⊢
       by_cases h2:(u.take 1 [zcK]).2.1=false
       · rw[bd u zcK h2] at hl ⊢
         exact .inl ⟨by first | rfl | trivial,by first | rfl | trivial,by first | rfl | trivial,hl⟩
       · exact .inr ⟨.inr (.inr (bp u zcK h2)),word u _ (by simpa using h2)⟩
     · exact .inr ⟨.inr (.inl (bp u zds h1)),word u _ (by simpa using h1)⟩
end
end Lp
set_option linter.unusedVariables false
namespace Lp
open Go
def zdz (m:Nat) (p:Rd→Nd×Rd):Prop:=∀ s:Rd,s.l.length≤m→TOk s.l→(p s).2.b=false→Wf (p s).1
theorem mode_names (s:Rd) (a b:ByteArray):(s.mode a b).1=0∧(s.mode a b).2.1=[]∨(s.mode a b).1=1∨(s.mode a b).1=2:=by
 unfold Rd.mode;split
 · exact .inl ⟨rfl,rfl⟩
 · split
   · exact .inr (.inl rfl)
   · exact .inr (.inr rfl)
theorem num_nat {s:Rd} {k:Int} (hk:k=2∨k=4) (hT:TOk s.l):∃ n:Nat,(s.number k).1=(n:Int)∧n≤1000000000000:=by
 have h:=zdk (s:=s) (s':=(s.number k).2) (k:=k) (v:=(s.number k).1) rfl hk hT
 exact⟨(s.number k).1.toNat,by omega,by omega⟩
theorem good_levelF {part:Rd→Nd×Rd} {ts:List ByteArray} (hb:Bad part) (hs:∀ s,Stp 1 s (part s).2) {m:Nat} (hp:zdz m part):∀ (F:Nat) (o:Nd) (s:Rd),s.l.length≤m→TOk s.l→Wf o→(zbl part ts F o s).2.b=false→Wf (zbl part ts F o s).1
 | 0,o,s,_,_,h,_=>h
 | F+1,o,s,hm,hT,h,e=>by
  unfold zbl at e ⊢
  split
  · exact h
  · rename_i hc
    rw[if_neg hc] at e
    simp only at e ⊢
    have t1:TOk (s.take 5 ts).2.2.l:=hT.suf (z8 s 5 ts).l
    have t2:TOk ((s.take 5 ts).2.2.mode tOn zaE).2.2.l:=t1.suf (zca _ _ _).l
    have ep:(part ((s.take 5 ts).2.2.mode tOn zaE).2.2).2.b=false:=zbQ zeB (zbQ (fun q=>levelF_b q) e)
    have k1:=(z8 s 5 ts).len
    have k2:=(zca (s.take 5 ts).2.2 tOn zaE).len
    have k3:=(hs ((s.take 5 ts).2.2.mode tOn zaE).2.2).len
    have w:=hp _ (by omega) t2 ep
    refine good_levelF hb hs hp F _ _ (by show (part _).2.l.length≤m;omega) ?_ (.bin (mode_names _ _ _ |>.imp (fun x=>x) (fun x=>x)) h w) e
    exact t2.suf (hs _).l
theorem good_level {part:Rd→Nd×Rd} {ts:List ByteArray} (hb:Bad part) (hs:∀ s,Stp 1 s (part s).2) {m:Nat} (hp:zdz m part):zdz m (fun s=>s.level part ts):=fun s hm hT e=>by
 have ep:(part s).2.b=false:=zbQ (fun q=>levelF_b q) e
 have k3:=(hs s).len
 exact good_levelF hb hs hp _ _ _ (by omega) (hT.suf (hs s).l) (hp s hm hT ep) e
section
variable (rm:List MatD→Bool)
theorem opM_4 {s:Rd} (h:(s.take 5 [tEq,tNe,zbe,zao]).2.1=true):1≤opM (s.take 5 [tEq,tNe,zbe,zao]).1∧opM (s.take 5 [tEq,tNe,zbe,zao]).1≤4:=by
 have hg:=zbB (by decide) h
 have hi:=hg.2.2.2.2
 have e1:(s.take 5 [tEq,tNe,zbe,zao]).1=s.pk.t:=by unfold Rd.take;rw[if_neg (by rw[hg.2.2.1,hi];simp)]
 rw[e1]
 have hh:hasN [tEq,tNe,zbe,zao] s.pk.t=true:=by unfold Rd.is at hi;exact(Bool.and_eq_true _ _ ▸ hi).2
 unfold opM
 by_cases a1:s.pk.t=tEq
 · rw[if_pos a1];decide
 · by_cases a2:s.pk.t=tNe
   · rw[if_neg a1,if_pos a2];decide
   · by_cases a3:s.pk.t=zbe
     · rw[if_neg a1,if_neg a2,if_pos a3];decide
     · by_cases a4:s.pk.t=zao
       · rw[if_neg a1,if_neg a2,if_neg a3,if_pos a4];decide
       · exfalso
         unfold hasN at hh
         simp only[List.any_cons,List.any_nil,Bool.or_eq_true,decide_eq_true_eq,Bool.or_false] at hh
         rcases hh with hh | hh | hh | hh
         · exact a1 hh.symm
         · exact a2 hh.symm
         · exact a3 hh.symm
         · exact a4 hh.symm
theorem good_bracesF:∀ (F:Nat) (o:List MatD) (s:Rd),(∀ m∈o,1≤m.op∧m.op≤4)→(za6 F o s).2.b=false→∀ m∈(za6 F o s).1,1≤m.op∧m.op≤4
 | 0,o,s,h,_=>h
 | F+1,o,s,h,e=>by
  unfold za6 at e ⊢
  split
  · exact h
  · rename_i hb
    rw[if_neg hb] at e
    simp only at e ⊢
    have hv:(Rd.any ⟨((s.any 1).2.take 5 [tEq,tNe,zbe,zao]).2.2.l,((s.any 1).2.take 5 [tEq,tNe,zbe,zao]).2.2.n,((s.any 1).2.take 5 [tEq,tNe,zbe,zao]).2.2.b||!((s.any 1).2.take 5 [tEq,tNe,zbe,zao]).2.1⟩ 3).2.b=false:=by
     split at e
     · rename_i hq;exact(zbB (by decide) hq).2.2.1
     · rw[take_b] at e;exact e
    have hc:(((s.any 1).2.take 5 [tEq,tNe,zbe,zao]).2.2.b||!((s.any 1).2.take 5 [tEq,tNe,zbe,zao]).2.1)=false:=zbQ (fun q=>any_b (s:=⟨_,_,_⟩) q) hv
    have hop:=opM_4 (by have:=(Bool.or_eq_false_iff.1 hc).2;simpa using this)
    have hn:∀ m∈o++[(⟨(s.any 1).1,opM ((s.any 1).2.take 5 [tEq,tNe,zbe,zao]).1,(Rd.any ⟨((s.any 1).2.take 5 [tEq,tNe,zbe,zao]).2.2.l,((s.any 1).2.take 5 [tEq,tNe,zbe,zao]).2.2.n,((s.any 1).2.take 5 [tEq,tNe,zbe,zao]).2.2.b||!((s.any 1).2.take 5 [tEq,tNe,zbe,zao]).2.1⟩ 3).1⟩:MatD)],1≤m.op∧m.op≤4:=fun m hm=>by
     rcases List.mem_append.1 hm with hm | hm
     · exact h m hm
     · rw[List.mem_singleton.1 hm];exact hop
    split
    · rename_i hq
      rw[if_pos hq] at e
      exact good_bracesF F _ _ hn e
    · exact hn
theorem good_sel:∀ s:Rd,TOk s.l→(s.selector rm).2.b=false→Wf (s.selector rm).1:=fun s hT e=>by
 unfold Rd.selector at e ⊢
 simp only at e ⊢
 have e3:=zbQ zeB e
 have e2:=zbQ selWin_b e3
 have t1:TOk s.selName.2.l:=by
  unfold Rd.selName;split
  · exact hT.suf (zbW s 1).l
  · exact hT
 have t2:TOk (s.selName.2.selMs rm s.selName.1).2.l:=by
  unfold Rd.selMs;split
  · exact t1.suf (braces_stp rm _).l
  · exact t1
 have hw:∃ n:Nat,(s.selName.2.selMs rm s.selName.1).2.selWin.1=(n:Int)∧n≤1000000000000:=by
  unfold Rd.selWin;split
  · exact num_nat (.inr rfl) (t2.suf (z8 _ 5 _).l)
  · exact⟨0,rfl,by decide⟩
 obtain ⟨n,h1,h2⟩:=hw
 have hm:∀ m∈(s.selName.2.selMs rm s.selName.1).1,1≤m.op∧m.op≤4:=by
  unfold Rd.selMs at e2 ⊢
  split
  · rename_i hc
    rw[if_pos hc] at e2
    unfold Rd.braces at e2 ⊢
    split
    · exact fun m hm=>by cases hm
    · rename_i hd
      rw[if_neg hd] at e2
      have e2:(((za6 _ [] (s.selName.2.must zcF)).2.must zcs).b||_)=false:=e2
      exact good_bracesF _ _ _ (fun m hm=>by cases hm) (zbQ zej (Bool.or_eq_false_iff.1 e2).1)
  · exact fun m hm=>by cases hm
 rw[h1]
 exact .sel h2 hm
theorem good_aggr {ex:Rd→Nd×Rd} (hb:Bad ex) {m:Nat} (hx:∀ a,a<m→zdz a ex):∀ s:Rd,s.l.length≤m→TOk s.l→(s.aggr ex).2.b=false→Wf (s.aggr ex).1:=fun s hl hT e=>by
 unfold Rd.aggr at e ⊢
 simp only at e ⊢
 have e6:=zbQ zej (zbQ zeB e)
 have e5:=hb.no e6
 have e3:((s.any 1).2.mode tBy zau |>.2.2.must zag).b=false:=by
  by_cases hn:zbk (s.any 1).1=true
  · rw[if_pos hn,if_pos hn] at e5;exact zbQ any_b (zbQ zej e5)
  · rw[if_neg hn,if_neg hn] at e5;exact e5
 have e1:(s.any 1).2.b=false:=zbQ mode_b (zbQ zej e3)
 have l1:=any_len (s:=s) (by decide) e1
 have l2:=(zca (s.any 1).2 tBy zau).len
 have l3:=(zV ((s.any 1).2.mode tBy zau).2.2 zag).len
 have l4:=(za3 (((s.any 1).2.mode tBy zau).2.2.must zag) 2).len
 have l5:=(zV ((((s.any 1).2.mode tBy zau).2.2.must zag).number 2).2 za0).len
 have t1:TOk (s.any 1).2.l:=hT.suf (zbW s 1).l
 have t2:TOk ((s.any 1).2.mode tBy zau).2.2.l:=t1.suf (zca _ _ _).l
 have t3:TOk (((s.any 1).2.mode tBy zau).2.2.must zag).l:=t2.suf (zV _ _).l
 have hm:=mode_names (s.any 1).2 tBy zau
 by_cases hn:zbk (s.any 1).1=true
 · simp only[if_pos hn] at e6 ⊢
   obtain ⟨n,h1,h2⟩:=num_nat (k:=2) (.inl rfl) t3
   have t4:TOk ((((s.any 1).2.mode tBy zau).2.2.must zag).number 2).2.l:=t3.suf (za3 _ 2).l
   have w:=hx _ (by omega) _ (Nat.le_refl _) (t4.suf (zV _ za0).l) e6
   rw[h1]
   exact .agg h2 (fun k=>by rw[hn] at k;cases k) hm w
 · simp only[if_neg hn] at e6 ⊢
   have w:=hx _ (by omega) _ (Nat.le_refl _) t3 e6
   exact Wf.agg (n:=0) (by decide) (fun _=>rfl) hm w
theorem good_prim {ex:Rd→Nd×Rd} (hb:Bad ex) {m:Nat} (hx:∀ a,a<m→zdz a ex):zdz m (fun s=>s.prim rm ex):=fun s hl hT e=>by
 have h0:s.b=false:=(prim_b rm ex).no e
 have hn:¬s.b=true:=by rw[h0];decide
 simp only[Rd.prim] at e ⊢
 rw[if_neg hn] at e ⊢
 split
 · obtain ⟨n,h1,h2⟩:=num_nat (s:=s) (k:=2) (.inl rfl) hT
   rw[h1];exact .num h2
 · rename_i hc
   rw[if_neg hc] at e
   split
   · rename_i hd
     rw[if_pos hd] at e
     have e1:=zbQ zej e
     have l1:=must_len (hb.no e1)
     exact hx _ (by omega) _ (Nat.le_refl _) (hT.suf (zV s zag).l) e1
   · rename_i hd
     rw[if_neg hd] at e
     split
     · rename_i hf
       rw[if_pos hf] at e
       exact good_aggr hb hx s hl hT e
     · rename_i hf
       rw[if_neg hf] at e
       split
       · rename_i hg
         rw[if_pos hg] at e
         simp only at e ⊢
         have e1:=zbQ zeB (zbQ zej e)
         have l1:=must_len (hb.no e1)
         have l2:=(zbW s 1).len
         exact .fn (hx _ (by omega) _ (Nat.le_refl _) ((hT.suf (zbW s 1).l).suf (zV _ zag).l) e1)
       · rename_i hg
         rw[if_neg hg] at e
         exact good_sel rm s hT e
theorem good_unaryF {ex:Rd→Nd×Rd} {m:Nat} (hp:zdz m (fun s=>s.prim rm ex)):∀ (F:Nat) (s:Rd),s.l.length<F→s.l.length≤m→TOk s.l→(za7 rm ex F s).2.b=false→Wf (za7 rm ex F s).1
 | 0,s,h,_,_,_=>absurd h (Nat.not_lt_zero _)
 | F+1,s,hF,hm,hT,e=>by
  unfold za7 at e ⊢
  have k1:=(z8 s 5 [zco]).len
  have t1:TOk (s.take 5 [zco]).2.2.l:=hT.suf (z8 s 5 [zco]).l
  split
  · rename_i hc
    rw[if_pos hc] at e
    simp only at e ⊢
    have hg:=zbB (by decide) hc
    exact .neg (good_unaryF hp F _ (by omega) (by omega) t1 (zbQ zeB e))
  · rename_i hc
    rw[if_neg hc] at e
    exact hp _ (by omega) t1 e
theorem good_prod {ex:Rd→Nd×Rd} (hb:Bad ex) (hs:∀ s,Stp 1 s (ex s).2) {m:Nat} (hx:∀ a,a<m→zdz a ex):zdz m (zeq rm ex):=
 good_level (fun s h=>unaryF_b rm ex _ s h) (fun s=>zcS rm hs _ s) (fun s hm hT e=>good_unaryF rm (good_prim rm hb hx) _ s (Nat.lt_succ_self _) hm hT e)
theorem good_sum {ex:Rd→Nd×Rd} (hb:Bad ex) (hs:∀ s,Stp 1 s (ex s).2) {m:Nat} (hx:∀ a,a<m→zdz a ex):zdz m (sumP rm ex):=
 good_level (prod_b rm ex) (fun s=>prodP_stp rm hs s) (good_prod rm hb hs hx)
theorem good_expr:∀ f:Nat,zdz f (zbR rm (f+1))
 | 0=>good_level (sum_b rm _) (fun s=>sumP_stp rm (zcr rm _) s) (good_sum rm (expr_b rm _) (zcr rm _) (fun a ha=>absurd ha (Nat.not_lt_zero _)))
 | f+1=>good_level (sum_b rm _) (fun s=>sumP_stp rm (zcr rm _) s) (good_sum rm (expr_b rm _) (zcr rm _) (fun a ha s hl hT e=>good_expr f s (by omega) hT e))
theorem parse_wf {l:List TokD} {q:QryD} (hT:TOk l) (h:zbJ rm l=some q):Wf q.root:=by
 obtain ⟨h1,h2,_⟩:=parse_parts rm h
 rw[←h1];exact good_expr rm l.length ⟨l,0,false⟩ (Nat.le_refl _) hT h2
end
theorem read_wf {s:ByteArray} (h:zci s=0):Wf (zcx s).root:=by
 obtain ⟨h1,h2⟩:=readE_0 h
 exact parse_wf rmD (lexL_tok s) h2
end Lp
