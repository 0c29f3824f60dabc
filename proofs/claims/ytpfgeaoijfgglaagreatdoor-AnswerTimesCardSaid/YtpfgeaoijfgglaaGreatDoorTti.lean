/-
 AnswerTimes: a point is the last one from its time on, for aq long aq it is not stale; ahead of it, and later, there is none.
-/
import Derived.Test.YtpfgeaoijfgglaaGreatDoorRows
import Derived.Test.YtpfgeaoijfgglaaGreatDoorTie
import Derived.Test.YtpfgeaoijfgglaaGreatDoorCards
import Derived.SevenTiedAt
import Derived.Test.YtpfgeaoijfgglaaGreatDoorV140
set_option linter.unusedSimpArgs false
namespace Go.Proofs.YtpfgeaoijfgglaaGreatDoor.answerTimes
open Go.ChangeShapes Go.WideShapes Go.ChangeAt Go.RowKit Lp
set_option linter.unusedVariables false
theorem own:ownKnob Tryz.prog.godebug=none:=by kernel_rfl
theorem laidOut:laidOutB Tryz.prog=true:=by kernel_rfl
theorem door_met (os:Os) (args:Array Value):laidMetH Tryz.prog Rows.answerTimesRow.laid ((World.doorLaid Tryz.prog 400 os).forCall (λ_ _=>0) ⟨#[],args,[]⟩).memory:=
 laidMetH_of_parts3 (fuel:=8) (laidMet_of_run' 8 (by kernel_rfl) (by kernel_rfl)) (by kernel_rfl) (by kernel_rfl)
set_option maxRecDepth 100000 in
theorem lifted (os:Os) (started:os.Started) (H:Type) (enc:TypeId×Value->H):
 ReturnsInHanded {} Tryz.checked os 4 .any (λw args=>(Rows.answerTimesSpec.pre enc Tryz.prog Tryz.f4 Rows.answerTimesRow.domain false w args/\laidMetH Tryz.prog Rows.answerTimesRow.laid w)/\sizedMet enc Tryz.prog Tryz.f4 (OpenSpec.ofChange Rows.answerTimesSpec) false w args) (Rows.answerTimesSpec.post enc Tryz.prog Tryz.f4 false true false false):=by
 refine returnsInHanded_of_change_and (C:=Tryz.checked) (X:=λw _=>laidMetH Tryz.prog Rows.answerTimesRow.laid w) (λ_ _ _ hh h=>h.of_heap hh) own started (by kernel_rfl) Tryz.func4
  (ChangeSpec.witness_shaped (enc:=enc) (C:=Tryz.checked) (os:=os) (X:=λw _=>laidMetH Tryz.prog Rows.answerTimesRow.laid w) false (World.doorLaid Tryz.prog 400 os) #[.int .i64 0,.int .i64 0,.int .i64 0] 8 rfl (World.shaped_of_RefB (by kernel_rfl) (by kernel_rfl)) (by kernel_rfl) (by kernel_rfl) (by kernel_rfl) (door_met os _)) ?_
 intro W base args ds gs before hval0 hW hcnd _ hL _;obtain ⟨ev,es,hev,hes,hp1,hp2,hp3⟩:=of_laid (show laidMetH Tryz.prog Rows.answerSortsRow.laid W from hL);have hval:∀ (j:Nat) t v,Tryz.f4.params[j]?=some t->args[j]?=some v->Value.okWide Tryz.prog W .any base t v:=hval0;have hW':=hW;obtain ⟨p,q,hA0,hV,rfl,hfz,hnd⟩:=hW;have hA:DataW.TrodAll enc Tryz.prog W 0 (λ_=>true) true Tryz.f4.params.toList args.toList ds p:=hA0;rw[Tryz.params4] at hA hval;obtain ⟨v0,vs0,d0,ds0,p0,q0,hargs,rfl,rfl,h0,r0⟩:=trodAll_cons hA;obtain ⟨v1,vs1,d1,ds1,p1,q1,rfl,rfl,rfl,h1,r1⟩:=trodAll_cons r0;obtain ⟨v2,vs2,d2,ds2,p2,q2,rfl,rfl,rfl,h2,r2⟩:=trodAll_cons r1;obtain ⟨rfl,rfl,rfl⟩:=trodAll_nil r2;obtain rfl:args=#[v0,v1,v2]:=by cases args;simp_all
 obtain ⟨rfl,rfl⟩:=trodVars_none hV;have k0:=h0;have lt0:∀ x∈p0,x.block<W.heap.size:=by obtain ⟨m,hm⟩:=k0;exact DataW.trod_lt m _ _ _ hm
 obtain ⟨fuel0,hf0⟩:=h0;obtain ⟨x0,u0,e0,g0,_,_⟩:=in_int hf0;have k1:=h1;have lt1:∀ x∈p1,x.block<W.heap.size:=by obtain ⟨m,hm⟩:=k1;exact DataW.trod_lt m _ _ _ hm
 obtain ⟨fuel1,hf1⟩:=h1;obtain ⟨x1,u1,e1,g1,_,_⟩:=in_int hf1;have k2:=h2;have lt2:∀ x∈p2,x.block<W.heap.size:=by obtain ⟨m,hm⟩:=k2;exact DataW.trod_lt m _ _ _ hm
 obtain ⟨fuel2,hf2⟩:=h2;obtain ⟨x2,u2,e2,g2,_,_⟩:=in_int hf2;clear hA0 hval0;obtain ⟨y0,rfl⟩:=okWide_int Tryz.underlying3 (hval 0 3 v0 rfl rfl);have g0:u0=_:=g0;subst g0;have e0:Value.int .i64 y0=.int .i64 x0:=by simpa [Value.cells,vcs] using e0
 cases e0;obtain ⟨y1,rfl⟩:=okWide_int Tryz.underlying3 (hval 1 3 v1 rfl rfl);have g1:u1=_:=g1;subst g1;have e1:Value.int .i64 y1=.int .i64 x1:=by simpa [Value.cells,vcs] using e1
 cases e1;obtain ⟨y2,rfl⟩:=okWide_int Tryz.underlying3 (hval 2 3 v2 rfl rfl);have g2:u2=_:=g2;subst g2;have e2:Value.int .i64 y2=.int .i64 x2:=by simpa [Value.cells,vcs] using e2
 cases e2;refine((Lp.law_times_c x0 x1 x2 ev es hev hes).lawT (W:=W) (show D.repA W (FA W) [.v (.int .i64 x0),.v (.int .i64 x1),.v (.int .i64 x2)] _ from⟨_,_,O,O,⟨_,_,O,O,⟨_,_,O,O,O⟩⟩⟩) hp1 hp2 hp3).mono λe W' he=>?_
 obtain ⟨res,rfl,E,rfl⟩:=he;have bel:=E.below;exact⟨_,O,_,_,_,[],_,[],hW',trodAll_mk1 (shut_bool Tryz.underlying4 _),(trodAll_cons_mk (Below.trod laidOut (by kernel_rfl) (of_decide_eq_true (by kernel_rfl)) k0 bel lt0) (trodAll_cons_mk (Below.trod laidOut (by kernel_rfl) (of_decide_eq_true (by kernel_rfl)) k1 bel lt1) (trodAll_cons_mk (Below.trod laidOut (by kernel_rfl) (of_decide_eq_true (by kernel_rfl)) k2 bel lt2) trodAll_mk0))),O,bel.frame _,λh=>by cases h⟩
theorem j_inp:(Rows.answerTimesRow.inPlace==Tryz.prog.inPlace 4)=true:=by kernel_rfl
theorem j_unf:(Rows.answerTimesRow.unfollowed==Tryz.prog.unfollowed 4)=true:=by kernel_rfl
theorem j_rec:(Rows.answerTimesRow.recurses==Tryz.prog.recurses 4)=true:=by kernel_rfl
theorem j_var:(Rows.answerTimesRow.named==Tryz.prog.varsNamed 4)=true:=by kernel_rfl
theorem closed:joinedFacts Tryz.prog 4 Tryz.f4 Rows.answerTimesSpec Rows.answerTimesRow=true:=by
 unfold joinedFacts;rw[j_inp,j_unf,j_rec,j_var]
 kernel_rfl
theorem over:Rows.answerTimesRow.holds Tryz.pinned (OpenSpec.ofChange Rows.answerTimesSpec):=
 OpenClaim.holds_of_wide 4 Tryz.f4 rfl rfl rfl rfl rfl rfl rfl ⟨rfl,rfl,rfl,rfl,rfl⟩ rfl rfl rfl rfl rfl (by kernel_rfl) Tryz.func4 closed
  (of_decide_eq_true (by kernel_rfl)) (by unfold Func.isWrapper;first | (rw[if_pos (by decide+kernel)];kernel_rfl) | (rw[if_neg (by decide+kernel)];exact⟨rfl,rfl⟩))
  (λos started H enc _=>lifted os started H enc)
theorem k_wf:OpenClaim.wfByText (OpenSpec.ofChange Rows.answerTimesSpec) Rows.answerTimesRow=true:=by kernel_rfl
theorem k_looks:true=Tryz.prog.looks []:=by kernel_rfl
theorem k_goes:false=Rows.answerTimesRow.goesBy Tryz.prog:=by kernel_rfl
theorem k_fn:Tryz.prog.funcNamed Rows.answerTimesRow.func=some 4:=by kernel_rfl
theorem answerTimes_proved:Rows.AnswerTimesCardSaid:=
 Claim7.holds_tied_plain_at .later [] _ true (true, "49ebb9f66f9baaaca9d1d36f39c19eb49a85fdb78e5e491f03f3825e85e386c5") true
  over (λ_ h=>by cases h) k_wf (λ_ h=>by cases h) answerTimes_row_tie rfl ⟨rfl,rfl⟩ (by kernel_rfl) rfl
  (λf fn hf hfn=>by
   obtain rfl:f=4:=jW (k_fn.symm.trans hf) |>.symm
   obtain rfl:fn=Tryz.f4:=(jW (Tryz.func4.symm.trans hfn)).symm;exact⟨k_looks,λj t ht=>by
    rw[Tryz.params4] at ht;have hm:t∈[3,3,3]:=(by simpa using Array.mem_of_getElem? ht);have hall:([3,3,3].all λu=>!Tryz.prog.wantsStandIn u)=true:=(by kernel_rfl);exact(show Tryz.prog.wantsStandIn t=false by simpa using dJ.1 hall t hm)⟩)
  k_goes
end Go.Proofs.YtpfgeaoijfgglaaGreatDoor.answerTimes
