/-
 AnswerSums: the sums of groups, summed up, are the sum of all; by all labels but the metric nothing is put together.
-/
import Derived.Test.YtpbcckjedaieoaaGreatDoorRows
import Derived.Test.YtpbcckjedaieoaaGreatDoorTie
import Derived.Test.YtpbcckjedaieoaaGreatDoorCards
import Derived.SevenTiedAt
import Derived.Test.YtpbcckjedaieoaaGreatDoorDInO
set_option linter.unusedSimpArgs false
namespace Go.Proofs.YtpbcckjedaieoaaGreatDoor.answerSums
open Go.ChangeShapes Go.WideShapes Go.ChangeAt Go.RowKit Lp
set_option linter.unusedVariables false
theorem own:ownKnob Tryz.prog.godebug=none:=by kernel_rfl
theorem laidOut:laidOutB Tryz.prog=true:=by kernel_rfl
theorem door_met (os:Os) (args:Array Value):laidMetH Tryz.prog Rows.answerSumsRow.laid ((World.doorLaid Tryz.prog 400 os).forCall (λ_ _=>0) ⟨#[],args,[]⟩).memory:=
 laidMetH_of_parts3 (fuel:=8) (laidMet_of_run' 8 (by kernel_rfl) (by kernel_rfl)) (by kernel_rfl) (by kernel_rfl)
set_option maxRecDepth 100000 in
theorem lifted (os:Os) (started:os.Started) (H:Type) (enc:TypeId×Value->H):
 ReturnsInHanded {} Tryz.checked os 3 .any (λw args=>(Rows.answerSumsSpec.pre enc Tryz.prog Tryz.f3 Rows.answerSumsRow.domain false w args/\laidMetH Tryz.prog Rows.answerSumsRow.laid w)/\sizedMet enc Tryz.prog Tryz.f3 (OpenSpec.ofChange Rows.answerSumsSpec) false w args) (Rows.answerSumsSpec.post enc Tryz.prog Tryz.f3 false true false false):=by
 refine returnsInHanded_of_change_and (C:=Tryz.checked) (X:=λw _=>laidMetH Tryz.prog Rows.answerSumsRow.laid w) (λ_ _ _ hh h=>h.of_heap hh) own started (by kernel_rfl) Tryz.func3
  (ChangeSpec.witness_shaped (enc:=enc) (C:=Tryz.checked) (os:=os) (X:=λw _=>laidMetH Tryz.prog Rows.answerSumsRow.laid w) false (World.doorLaid Tryz.prog 400 os) #[.slice none 0 0,.int .i64 0] 8 rfl (World.shaped_of_RefB (by kernel_rfl) (by kernel_rfl)) (by kernel_rfl) (by kernel_rfl) (by kernel_rfl) (door_met os _)) ?_
 intro W base args ds gs before hval0 hW hcnd _ hL _;obtain ⟨ev,es,hev,hes,hp1,hp2,hp3⟩:=of_laid (show laidMetH Tryz.prog Rows.answerSumsRow.laid W from hL);have hval:∀ (j:Nat) t v,Tryz.f3.params[j]?=some t->args[j]?=some v->Value.okWide Tryz.prog W .any base t v:=hval0;have hW':=hW;obtain ⟨p,q,hA0,hV,rfl,hfz,hnd⟩:=hW;have hA:DataW.TrodAll enc Tryz.prog W 0 (λ_=>true) true Tryz.f3.params.toList args.toList ds p:=hA0;rw[Tryz.params3] at hA hval;obtain ⟨v0,vs0,d0,ds0,p0,q0,hargs,rfl,rfl,h0,r0⟩:=trodAll_cons hA;obtain ⟨v1,vs1,d1,ds1,p1,q1,rfl,rfl,rfl,h1,r1⟩:=trodAll_cons r0;obtain ⟨rfl,rfl,rfl⟩:=trodAll_nil r1;obtain rfl:args=#[v0,v1]:=by cases args;simp_all
 obtain ⟨rfl,rfl⟩:=trodVars_none hV;have k0:=h0;have lt0:∀ x∈p0,x.block<W.heap.size:=by obtain ⟨m,hm⟩:=k0;exact DataW.trod_lt m _ _ _ hm
 obtain ⟨fuel0,hf0⟩:=h0;obtain ⟨u0,x0,e0,g0⟩:=in_ops hf0;have k1:=h1;have lt1:∀ x∈p1,x.block<W.heap.size:=by obtain ⟨m,hm⟩:=k1;exact DataW.trod_lt m _ _ _ hm
 obtain ⟨fuel1,hf1⟩:=h1;obtain ⟨x1,u1,e1,g1,_,_⟩:=in_int hf1;clear hA0 hval0;obtain ⟨A0,l0,c0,rfl⟩:=okWide_slice Tryz.underlying22 (hval 0 22 v0 rfl rfl);have e0:u0=.slice A0 l0 c0:=by simpa [Value.cells] using e0.symm
 subst e0;obtain ⟨y1,rfl⟩:=okWide_int Tryz.underlying3 (hval 1 3 v1 rfl rfl);have g1:u1=_:=g1;subst g1;have e1:Value.int .i64 y1=.int .i64 x1:=by simpa [Value.cells,vcs] using e1
 cases e1;refine((Lp.law_sums_c x0 x1 ev es hev hes).lawT (W:=W) (show D.repA W (FA W) [.sh 4 (x0.map OpD.d),.v (.int .i64 x1)] _ from⟨_,_,O,g0,⟨_,_,O,O,O⟩⟩) hp1 hp2 hp3).mono λe W' he=>?_
 obtain ⟨res,rfl,E,rfl⟩:=he;have bel:=E.below;exact⟨_,O,_,_,_,[],_,[],hW',trodAll_mk1 (shut_bool Tryz.underlying4 _),(trodAll_cons_mk (Below.trod laidOut (by kernel_rfl) (of_decide_eq_true (by kernel_rfl)) k0 bel lt0) (trodAll_cons_mk (Below.trod laidOut (by kernel_rfl) (of_decide_eq_true (by kernel_rfl)) k1 bel lt1) trodAll_mk0)),O,bel.frame _,λh=>by cases h⟩
theorem j_inp:(Rows.answerSumsRow.inPlace==Tryz.prog.inPlace 3)=true:=by kernel_rfl
theorem j_unf:(Rows.answerSumsRow.unfollowed==Tryz.prog.unfollowed 3)=true:=by kernel_rfl
theorem j_rec:(Rows.answerSumsRow.recurses==Tryz.prog.recurses 3)=true:=by kernel_rfl
theorem j_var:(Rows.answerSumsRow.named==Tryz.prog.varsNamed 3)=true:=by kernel_rfl
theorem closed:joinedFacts Tryz.prog 3 Tryz.f3 Rows.answerSumsSpec Rows.answerSumsRow=true:=by
 unfold joinedFacts;rw[j_inp,j_unf,j_rec,j_var]
 kernel_rfl
theorem over:Rows.answerSumsRow.holds Tryz.pinned (OpenSpec.ofChange Rows.answerSumsSpec):=
 OpenClaim.holds_of_wide 3 Tryz.f3 rfl rfl rfl rfl rfl rfl rfl ⟨rfl,rfl,rfl,rfl,rfl⟩ rfl rfl rfl rfl rfl (by kernel_rfl) Tryz.func3 closed
  (of_decide_eq_true (by kernel_rfl)) (by unfold Func.isWrapper;first | (rw[if_pos (by decide+kernel)];kernel_rfl) | (rw[if_neg (by decide+kernel)];exact⟨rfl,rfl⟩))
  (λos started H enc _=>lifted os started H enc)
theorem k_wf:OpenClaim.wfByText (OpenSpec.ofChange Rows.answerSumsSpec) Rows.answerSumsRow=true:=by kernel_rfl
theorem k_looks:true=Tryz.prog.looks []:=by kernel_rfl
theorem k_goes:false=Rows.answerSumsRow.goesBy Tryz.prog:=by kernel_rfl
theorem k_fn:Tryz.prog.funcNamed Rows.answerSumsRow.func=some 3:=by kernel_rfl
theorem answerSums_proved:Rows.AnswerSumsCardSaid:=
 Claim7.holds_tied_plain_at .later [] _ true (true, "0c4277b2f5d2523bc03e5dc7efc638a0acf3777ef451d05efb5efcccd255915c") true
  over (λ_ h=>by cases h) k_wf (λ_ h=>by cases h) answerSums_row_tie rfl ⟨rfl,rfl⟩ (by kernel_rfl) rfl
  (λf fn hf hfn=>by
   obtain rfl:f=3:=uD (k_fn.symm.trans hf) |>.symm
   obtain rfl:fn=Tryz.f3:=(uD (Tryz.func3.symm.trans hfn)).symm;exact⟨k_looks,λj t ht=>by
    rw[Tryz.params3] at ht;have hm:t∈[22,3]:=(by simpa using Array.mem_of_getElem? ht);have hall:([22,3].all λu=>!Tryz.prog.wantsStandIn u)=true:=(by kernel_rfl);exact(show Tryz.prog.wantsStandIn t=false by simpa using dK.1 hall t hm)⟩)
  k_goes
end Go.Proofs.YtpbcckjedaieoaaGreatDoor.answerSums
