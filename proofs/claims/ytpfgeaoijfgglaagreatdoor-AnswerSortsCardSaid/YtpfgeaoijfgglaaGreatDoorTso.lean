/-
 AnswerSorts: rows in every order; which one comes first; what is handed in stays.
-/
import Derived.Test.YtpfgeaoijfgglaaGreatDoorRows
import Derived.Test.YtpfgeaoijfgglaaGreatDoorTie
import Derived.Test.YtpfgeaoijfgglaaGreatDoorCards
import Derived.SevenTiedAt
import Derived.Test.YtpfgeaoijfgglaaGreatDoorDInR
set_option linter.unusedSimpArgs false
namespace Go.Proofs.YtpfgeaoijfgglaaGreatDoor.answerSorts
open Go.ChangeShapes Go.WideShapes Go.ChangeAt Go.RowKit Lp
set_option linter.unusedVariables false
theorem own:ownKnob Tryz.prog.godebug=none:=by kernel_rfl
theorem laidOut:laidOutB Tryz.prog=true:=by kernel_rfl
theorem door_met (os:Os) (args:Array Value):laidMetH Tryz.prog Rows.answerSortsRow.laid ((World.doorLaid Tryz.prog 400 os).forCall (λ_ _=>0) ⟨#[],args,[]⟩).memory:=
 laidMetH_of_parts3 (fuel:=8) (laidMet_of_run' 8 (by kernel_rfl) (by kernel_rfl)) (by kernel_rfl) (by kernel_rfl)
set_option maxRecDepth 100000 in
theorem lifted (os:Os) (started:os.Started) (H:Type) (enc:TypeId×Value->H):
 ReturnsInHanded {} Tryz.checked os 5 .any (λw args=>(Rows.answerSortsSpec.pre enc Tryz.prog Tryz.f5 Rows.answerSortsRow.domain false w args/\laidMetH Tryz.prog Rows.answerSortsRow.laid w)/\sizedMet enc Tryz.prog Tryz.f5 (OpenSpec.ofChange Rows.answerSortsSpec) false w args) (Rows.answerSortsSpec.post enc Tryz.prog Tryz.f5 false true false false):=by
 refine returnsInHanded_of_change_and (C:=Tryz.checked) (X:=λw _=>laidMetH Tryz.prog Rows.answerSortsRow.laid w) (λ_ _ _ hh h=>h.of_heap hh) own started (by kernel_rfl) Tryz.func5
  (ChangeSpec.witness_shaped (enc:=enc) (C:=Tryz.checked) (os:=os) (X:=λw _=>laidMetH Tryz.prog Rows.answerSortsRow.laid w) false (World.doorLaid Tryz.prog 400 os) #[.int .i64 0,.slice none 0 0] 8 rfl (World.shaped_of_RefB (by kernel_rfl) (by kernel_rfl)) (by kernel_rfl) (by kernel_rfl) (by kernel_rfl) (door_met os _)) ?_
 intro W base args ds gs before hval0 hW hcnd _ hL _;obtain ⟨ev,es,hev,hes,hp1,hp2,hp3⟩:=of_laid (show laidMetH Tryz.prog Rows.answerSortsRow.laid W from hL);have hval:∀ (j:Nat) t v,Tryz.f5.params[j]?=some t->args[j]?=some v->Value.okWide Tryz.prog W .any base t v:=hval0;have hW':=hW;obtain ⟨p,q,hA0,hV,rfl,hfz,hnd⟩:=hW;have hA:DataW.TrodAll enc Tryz.prog W 0 (λ_=>true) true Tryz.f5.params.toList args.toList ds p:=hA0;rw[Tryz.params5] at hA hval;obtain ⟨v0,vs0,d0,ds0,p0,q0,hargs,rfl,rfl,h0,r0⟩:=trodAll_cons hA;obtain ⟨v1,vs1,d1,ds1,p1,q1,rfl,rfl,rfl,h1,r1⟩:=trodAll_cons r0;obtain ⟨rfl,rfl,rfl⟩:=trodAll_nil r1;obtain rfl:args=#[v0,v1]:=by cases args;simp_all
 obtain ⟨rfl,rfl⟩:=trodVars_none hV;have k0:=h0;have lt0:∀ x∈p0,x.block<W.heap.size:=by obtain ⟨m,hm⟩:=k0;exact DataW.trod_lt m _ _ _ hm
 obtain ⟨fuel0,hf0⟩:=h0;obtain ⟨x0,u0,e0,g0,_,_⟩:=in_int hf0;have k1:=h1;have lt1:∀ x∈p1,x.block<W.heap.size:=by obtain ⟨m,hm⟩:=k1;exact DataW.trod_lt m _ _ _ hm
 obtain ⟨fuel1,hf1⟩:=h1;obtain ⟨u1,x1,e1,g1⟩:=in_rows hf1;clear hA0 hval0;obtain ⟨y0,rfl⟩:=okWide_int Tryz.underlying3 (hval 0 3 v0 rfl rfl);have g0:u0=_:=g0;subst g0;have e0:Value.int .i64 y0=.int .i64 x0:=by simpa [Value.cells,vcs] using e0
 cases e0;obtain ⟨A1,l1,c1,rfl⟩:=okWide_slice Tryz.underlying32 (hval 1 32 v1 rfl rfl);have e1:u1=.slice A1 l1 c1:=by simpa [Value.cells] using e1.symm
 subst e1;refine((Lp.law_sorts_c x0 x1 ev es hev hes).lawT (W:=W) (show D.repA W (FA W) [.v (.int .i64 x0),.sh 2 (x1.map RowD.d)] _ from⟨_,_,O,O,⟨_,_,O,g1,O⟩⟩) hp1 hp2 hp3).mono λe W' he=>?_
 obtain ⟨res,rfl,E,rfl⟩:=he;have bel:=E.below;exact⟨_,O,_,_,_,[],_,[],hW',trodAll_mk1 (shut_bool Tryz.underlying4 _),(trodAll_cons_mk (Below.trod laidOut (by kernel_rfl) (of_decide_eq_true (by kernel_rfl)) k0 bel lt0) (trodAll_cons_mk (Below.trod laidOut (by kernel_rfl) (of_decide_eq_true (by kernel_rfl)) k1 bel lt1) trodAll_mk0)),O,bel.frame _,λh=>by cases h⟩
theorem j_inp:(Rows.answerSortsRow.inPlace==Tryz.prog.inPlace 5)=true:=by kernel_rfl
theorem j_unf:(Rows.answerSortsRow.unfollowed==Tryz.prog.unfollowed 5)=true:=by kernel_rfl
theorem j_rec:(Rows.answerSortsRow.recurses==Tryz.prog.recurses 5)=true:=by kernel_rfl
theorem j_var:(Rows.answerSortsRow.named==Tryz.prog.varsNamed 5)=true:=by kernel_rfl
theorem closed:joinedFacts Tryz.prog 5 Tryz.f5 Rows.answerSortsSpec Rows.answerSortsRow=true:=by
 unfold joinedFacts;rw[j_inp,j_unf,j_rec,j_var]
 kernel_rfl
theorem over:Rows.answerSortsRow.holds Tryz.pinned (OpenSpec.ofChange Rows.answerSortsSpec):=
 OpenClaim.holds_of_wide 5 Tryz.f5 rfl rfl rfl rfl rfl rfl rfl ⟨rfl,rfl,rfl,rfl,rfl⟩ rfl rfl rfl rfl rfl (by kernel_rfl) Tryz.func5 closed
  (of_decide_eq_true (by kernel_rfl)) (by unfold Func.isWrapper;first | (rw[if_pos (by decide+kernel)];kernel_rfl) | (rw[if_neg (by decide+kernel)];exact⟨rfl,rfl⟩))
  (λos started H enc _=>lifted os started H enc)
theorem k_wf:OpenClaim.wfByText (OpenSpec.ofChange Rows.answerSortsSpec) Rows.answerSortsRow=true:=by kernel_rfl
theorem k_looks:true=Tryz.prog.looks []:=by kernel_rfl
theorem k_goes:false=Rows.answerSortsRow.goesBy Tryz.prog:=by kernel_rfl
theorem k_fn:Tryz.prog.funcNamed Rows.answerSortsRow.func=some 5:=by kernel_rfl
theorem answerSorts_proved:Rows.AnswerSortsCardSaid:=
 Claim7.holds_tied_plain_at .later [] _ true (true, "49ebb9f66f9baaaca9d1d36f39c19eb49a85fdb78e5e491f03f3825e85e386c5") true
  over (λ_ h=>by cases h) k_wf (λ_ h=>by cases h) answerSorts_row_tie rfl ⟨rfl,rfl⟩ (by kernel_rfl) rfl
  (λf fn hf hfn=>by
   obtain rfl:f=5:=jU (k_fn.symm.trans hf) |>.symm
   obtain rfl:fn=Tryz.f5:=(jU (Tryz.func5.symm.trans hfn)).symm;exact⟨k_looks,λj t ht=>by
    rw[Tryz.params5] at ht;have hm:t∈[3,32]:=(by simpa using Array.mem_of_getElem? ht);have hall:([3,32].all λu=>!Tryz.prog.wantsStandIn u)=true:=(by kernel_rfl);exact(show Tryz.prog.wantsStandIn t=false by simpa using dD.1 hall t hm)⟩)
  k_goes
end Go.Proofs.YtpfgeaoijfgglaaGreatDoor.answerSorts
