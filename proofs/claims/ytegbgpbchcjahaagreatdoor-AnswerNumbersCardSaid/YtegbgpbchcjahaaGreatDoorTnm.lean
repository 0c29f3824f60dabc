/-
 AnswerNumbers: a query of numbers alone hangs on nothing else.
-/
import Derived.Test.YtegbgpbchcjahaaGreatDoorRows
import Derived.Test.YtegbgpbchcjahaaGreatDoorTie
import Derived.Test.YtegbgpbchcjahaaGreatDoorCards
import Derived.SevenTiedAt
import Derived.Test.YtegbgpbchcjahaaGreatDoorDInO
set_option linter.all false
namespace Go.Proofs.YtegbgpbchcjahaaGreatDoor.answerNumbers
open Go.ChangeShapes Go.WideShapes Go.ChangeAt Go.RowKit Lp
theorem own:ownKnob Tryz.prog.godebug=none:=by kernel_rfl
theorem laidOut:laidOutB Tryz.prog=true:=by kernel_rfl
theorem aM9 (os:Os) (args:Array Value):laidMetH Tryz.prog Rows.answerNumbersRow.laid ((World.doorLaid Tryz.prog 400 os).forCall (λ_ _=>0) ⟨#[],args,[]⟩).memory:=
 laidMetH_of_parts3 (fuel:=8) (laidMet_of_run' 8 (by kernel_rfl) (by kernel_rfl)) (by kernel_rfl) (by kernel_rfl)
set_option maxRecDepth 100000 in
theorem lifted (os:Os) (started:os.Started) (H:Type) (enc:TypeId×Value->H):
 ReturnsInHanded {} Tryz.checked os 3 .any (λw args=>(Rows.answerNumbersSpec.pre enc Tryz.prog Tryz.f3 Rows.answerNumbersRow.domain false w args/\laidMetH Tryz.prog Rows.answerNumbersRow.laid w)/\sizedMet enc Tryz.prog Tryz.f3 (OpenSpec.ofChange Rows.answerNumbersSpec) false w args) (Rows.answerNumbersSpec.post enc Tryz.prog Tryz.f3 false true false false):=by
 refine returnsInHanded_of_change_and (C:=Tryz.checked) (X:=λw _=>laidMetH Tryz.prog Rows.answerNumbersRow.laid w) (λ_ _ _ hh h=>h.of_heap hh) own started (by kernel_rfl) Tryz.func3
  (ChangeSpec.witness_shaped (enc:=enc) (C:=Tryz.checked) (os:=os) (X:=λw _=>laidMetH Tryz.prog Rows.answerNumbersRow.laid w) false (World.doorLaid Tryz.prog 400 os) #[.slice none 0 0,.int .i64 0,.int .i64 0,.int .i64 0,.string .empty] 8 rfl (World.shaped_of_RefB (by kernel_rfl) (by kernel_rfl)) (by kernel_rfl) (by kernel_rfl) (by kernel_rfl) (aM9 os _)) ?_
 intro W base args ds gs before hval0 hW hcnd _ hL _;obtain ⟨ev,es,hev,hes,hp1,hp2,hp3⟩:=aR5 (show laidMetH Tryz.prog Rows.answerNumbersRow.laid W from hL);have hval:∀ (j:Nat) t v,Tryz.f3.params[j]?=some t->args[j]?=some v->Value.okWide Tryz.prog W .any base t v:=hval0;have hW':=hW;obtain ⟨p,q,hA0,hV,rfl,hfz,hnd⟩:=hW;have hA:DataW.TrodAll enc Tryz.prog W 0 (λ_=>true) true Tryz.f3.params.toList args.toList ds p:=hA0;rw[Tryz.params3] at hA hval;obtain ⟨v0,vs0,d0,ds0,p0,q0,hargs,rfl,rfl,h0,r0⟩:=trodAll_cons hA;obtain ⟨v1,vs1,d1,ds1,p1,q1,rfl,rfl,rfl,h1,r1⟩:=trodAll_cons r0;obtain ⟨v2,vs2,d2,ds2,p2,q2,rfl,rfl,rfl,h2,r2⟩:=trodAll_cons r1;obtain ⟨v3,vs3,d3,ds3,p3,q3,rfl,rfl,rfl,h3,r3⟩:=trodAll_cons r2;obtain ⟨v4,vs4,d4,ds4,p4,q4,rfl,rfl,rfl,h4,r4⟩:=trodAll_cons r3;obtain ⟨rfl,rfl,rfl⟩:=trodAll_nil r4;obtain rfl:args=#[v0,v1,v2,v3,v4]:=by cases args;simp_all
 obtain ⟨rfl,rfl⟩:=trodVars_none hV;have k0:=h0;have lt0:∀ x∈p0,x.block<W.heap.size:=by obtain ⟨m,hm⟩:=k0;exact DataW.trod_lt m _ _ _ hm
 obtain ⟨fuel0,hf0⟩:=h0;obtain ⟨u0,x0,e0,g0⟩:=aYc hf0;have k1:=h1;have lt1:∀ x∈p1,x.block<W.heap.size:=by obtain ⟨m,hm⟩:=k1;exact DataW.trod_lt m _ _ _ hm
 obtain ⟨fuel1,hf1⟩:=h1;obtain ⟨x1,u1,e1,g1,_,_⟩:=aGt hf1;have k2:=h2;have lt2:∀ x∈p2,x.block<W.heap.size:=by obtain ⟨m,hm⟩:=k2;exact DataW.trod_lt m _ _ _ hm
 obtain ⟨fuel2,hf2⟩:=h2;obtain ⟨x2,u2,e2,g2,_,_⟩:=aGt hf2;have k3:=h3;have lt3:∀ x∈p3,x.block<W.heap.size:=by obtain ⟨m,hm⟩:=k3;exact DataW.trod_lt m _ _ _ hm
 obtain ⟨fuel3,hf3⟩:=h3;obtain ⟨x3,u3,e3,g3,_,_⟩:=aGt hf3;have k4:=h4;have lt4:∀ x∈p4,x.block<W.heap.size:=by obtain ⟨m,hm⟩:=k4;exact DataW.trod_lt m _ _ _ hm
 obtain ⟨fuel4,hf4⟩:=h4;obtain ⟨x4,u4,e4,g4,_,_⟩:=aWi hf4;clear hA0 hval0;obtain ⟨A0,l0,c0,rfl⟩:=okWide_slice Tryz.underlying22 (hval 0 22 v0 rfl rfl);have e0:u0=.slice A0 l0 c0:=by simpa [Value.cells] using e0.symm
 subst e0;obtain ⟨y1,rfl⟩:=okWide_int Tryz.underlying3 (hval 1 3 v1 rfl rfl);have g1:u1=_:=g1;subst g1;have e1:Value.int .i64 y1=.int .i64 x1:=by simpa [Value.cells,vcs] using e1
 cases e1;obtain ⟨y2,rfl⟩:=okWide_int Tryz.underlying3 (hval 2 3 v2 rfl rfl);have g2:u2=_:=g2;subst g2;have e2:Value.int .i64 y2=.int .i64 x2:=by simpa [Value.cells,vcs] using e2
 cases e2;obtain ⟨y3,rfl⟩:=okWide_int Tryz.underlying3 (hval 3 3 v3 rfl rfl);have g3:u3=_:=g3;subst g3;have e3:Value.int .i64 y3=.int .i64 x3:=by simpa [Value.cells,vcs] using e3
 cases e3;obtain ⟨y4,rfl⟩:=okWide_string Tryz.underlying9 (hval 4 9 v4 rfl rfl);have gg4:=g4;obtain ⟨g4,_⟩:=g4;subst g4;have e4:Value.string y4=.string x4:=by simpa [Value.cells,vcs] using e4
 cases e4;refine((Lp.law_numbers_c x0 x1 x2 x3 x4 ev es hev hes).lawT (W:=W) (show D.repA W (FA W) [.sh 4 (x0.map OpD.d),.v (.int .i64 x1),.v (.int .i64 x2),.v (.int .i64 x3),.s x4] _ from⟨_,_,O,g0,⟨_,_,O,O,⟨_,_,O,O,⟨_,_,O,O,⟨_,_,O,gg4,O⟩⟩⟩⟩⟩) hp1 hp2 hp3).mono λe W' he=>?_
 obtain ⟨res,rfl,E,rfl⟩:=he;have bel:=E.below;exact⟨_,O,_,_,_,[],_,[],hW',trodAll_mk1 (shut_bool Tryz.underlying4 _),(trodAll_cons_mk (Below.trod laidOut (by kernel_rfl) (aF (by kernel_rfl)) k0 bel lt0) (trodAll_cons_mk (Below.trod laidOut (by kernel_rfl) (aF (by kernel_rfl)) k1 bel lt1) (trodAll_cons_mk (Below.trod laidOut (by kernel_rfl) (aF (by kernel_rfl)) k2 bel lt2) (trodAll_cons_mk (Below.trod laidOut (by kernel_rfl) (aF (by kernel_rfl)) k3 bel lt3) (trodAll_cons_mk (Below.trod laidOut (by kernel_rfl) (aF (by kernel_rfl)) k4 bel lt4) trodAll_mk0))))),O,bel.frame _,λh=>by cases h⟩
theorem aZ1:(Rows.answerNumbersRow.inPlace==Tryz.prog.inPlace 3)=true:=by kernel_rfl
theorem aYs:(Rows.answerNumbersRow.unfollowed==Tryz.prog.unfollowed 3)=true:=by kernel_rfl
theorem aYp:(Rows.answerNumbersRow.recurses==Tryz.prog.recurses 3)=true:=by kernel_rfl
theorem a0o:(Rows.answerNumbersRow.named==Tryz.prog.varsNamed 3)=true:=by kernel_rfl
theorem aXj:joinedFacts Tryz.prog 3 Tryz.f3 Rows.answerNumbersSpec Rows.answerNumbersRow=true:=by
 unfold joinedFacts;rw[aZ1,aYs,aYp,a0o]
 kernel_rfl
theorem over:Rows.answerNumbersRow.holds Tryz.pinned (OpenSpec.ofChange Rows.answerNumbersSpec):=
 OpenClaim.holds_of_wide 3 Tryz.f3 rfl rfl rfl rfl rfl rfl rfl ⟨rfl,rfl,rfl,rfl,rfl⟩ rfl rfl rfl rfl rfl (by kernel_rfl) Tryz.func3 aXj
  (aF (by kernel_rfl)) (by unfold Func.isWrapper;first | (rw[aB (by decide+kernel)];kernel_rfl) | (rw[aA (by decide+kernel)];exact⟨rfl,rfl⟩))
  (λos started H enc _=>lifted os started H enc)
theorem k_wf:OpenClaim.wfByText (OpenSpec.ofChange Rows.answerNumbersSpec) Rows.answerNumbersRow=true:=by kernel_rfl
theorem aTr:true=Tryz.prog.looks []:=by kernel_rfl
theorem aWs:false=Rows.answerNumbersRow.goesBy Tryz.prog:=by kernel_rfl
theorem k_fn:Tryz.prog.funcNamed Rows.answerNumbersRow.func=some 3:=by kernel_rfl
theorem answerNumbers_proved:Rows.AnswerNumbersCardSaid:=
 Claim7.holds_tied_plain_at .later [] _ true (true, "f7d235b0aa93aa6988ed50fc1f7e3565e4f9b1d56cf488e20601adba5230be30") true
  over (λ_ h=>by cases h) k_wf (λ_ h=>by cases h) answerNumbers_row_tie rfl ⟨rfl,rfl⟩ (by kernel_rfl) rfl
  (λf fn hf hfn=>by
   obtain rfl:f=3:=uD (k_fn.symm.trans hf) |>.symm
   obtain rfl:fn=Tryz.f3:=(uD (Tryz.func3.symm.trans hfn)).symm;exact⟨aTr,λj t ht=>by
    rw[Tryz.params3] at ht;have hm:t∈[22,3,3,3,9]:=(by simpa using Array.mem_of_getElem? ht);have hall:([22,3,3,3,9].all λu=>!Tryz.prog.wantsStandIn u)=true:=(by kernel_rfl);exact(show Tryz.prog.wantsStandIn t=false by simpa using c8.1 hall t hm)⟩)
  aWs
end Go.Proofs.YtegbgpbchcjahaaGreatDoor.answerNumbers
