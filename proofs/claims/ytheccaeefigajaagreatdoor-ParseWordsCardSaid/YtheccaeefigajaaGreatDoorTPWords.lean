/-
  words that the language has are no metrics; all others are
-/
import Derived.Test.YtheccaeefigajaaGreatDoorRows
import Derived.Test.YtheccaeefigajaaGreatDoorTie
import Derived.Test.YtheccaeefigajaaGreatDoorCards
import Derived.SevenTiedAt
import Derived.Test.YtheccaeefigajaaGreatDoorV126
namespace Go.Proofs.YtheccaeefigajaaGreatDoor.parseWords
open Go.ChangeShapes Go.WideShapes Go.ChangeAt Go.RowKit Lp
set_option linter.unusedVariables false
theorem own:ownKnob Tryz.prog.godebug=none:=by kernel_rfl
theorem laidOut:laidOutB Tryz.prog=true:=by kernel_rfl
theorem door_met (os:Os) (args:Array Value):laidMetH Tryz.prog Rows.parseWordsRow.laid ((World.doorLaid Tryz.prog 400 os).forCall (fun _ _=>0) ⟨#[],args,[]⟩).memory:=
 laidMetH_of_parts3 (fuel:=8) (laidMet_of_run' 8 (by kernel_rfl) (by kernel_rfl)) (by kernel_rfl) (by kernel_rfl)
set_option maxRecDepth 100000 in
theorem lifted (os:Os) (started:os.Started) (H:Type) (enc:TypeId×Value→H):
 ReturnsInHanded {} Tryz.checked os 11 .any (fun w args=>(Rows.parseWordsSpec.pre enc Tryz.prog Tryz.f11 Rows.parseWordsRow.domain false w args∧laidMetH Tryz.prog Rows.parseWordsRow.laid w)∧sizedMet enc Tryz.prog Tryz.f11 (OpenSpec.ofChange Rows.parseWordsSpec) false w args) (Rows.parseWordsSpec.post enc Tryz.prog Tryz.f11 false true false false):=by
 refine returnsInHanded_of_change_and (C:=Tryz.checked) (X:=fun w _=>laidMetH Tryz.prog Rows.parseWordsRow.laid w) (fun _ _ _ hh h=>h.of_heap hh) own started (by kernel_rfl) Tryz.func11
  (ChangeSpec.witness_shaped (enc:=enc) (C:=Tryz.checked) (os:=os) (X:=fun w _=>laidMetH Tryz.prog Rows.parseWordsRow.laid w) false (World.doorLaid Tryz.prog 400 os) #[.string .empty] 8 rfl (World.shaped_of_RefB (by kernel_rfl) (by kernel_rfl)) (by kernel_rfl) (by kernel_rfl) (by kernel_rfl) (door_met os _)) ?_
 intro W base args ds gs before hval0 hW hcnd _ hL _
 obtain ⟨ev,es,hev,hes,hp1,hp2,hp3⟩:=of_laid (show laidMetH Tryz.prog Rows.kindTellsRow.laid W from hL)
 have hval:∀ (j:Nat) t v,Tryz.f11.params[j]?=some t→args[j]?=some v→Value.okWide Tryz.prog W .any base t v:=hval0
 have hW':=hW
 obtain ⟨p,q,hA0,hV,rfl,hfz,hnd⟩:=hW
 have hA:DataW.TrodAll enc Tryz.prog W 0 (fun _=>true) true Tryz.f11.params.toList args.toList ds p:=hA0
 rw[Tryz.params11] at hA hval
 obtain ⟨v0,vs0,d0,ds0,p0,q0,hargs,rfl,rfl,h0,r0⟩:=trodAll_cons hA
 obtain ⟨rfl,rfl,rfl⟩:=trodAll_nil r0
 obtain rfl:args=#[v0]:=by cases args;simp_all
 obtain ⟨rfl,rfl⟩:=trodVars_none hV
 have k0:=h0
 have lt0:∀ x∈p0,x.block<W.heap.size:=by obtain ⟨m,hm⟩:=k0;exact DataW.trod_lt m _ _ _ hm
 obtain ⟨fuel0,hf0⟩:=h0
 obtain ⟨x0,u0,e0,g0,_,_⟩:=in_str hf0
 clear hA0 hval0
 obtain ⟨y0,rfl⟩:=okWide_string Tryz.underlying9 (hval 0 9 v0 rfl rfl)
 have gg0:=g0
 obtain ⟨g0,_⟩:=g0
 subst g0
 have e0:Value.string y0=.string x0:=by simpa [Value.cells,vcs] using e0
 cases e0
 refine((Lp.law_words_c x0 ev es hev hes).lawT (W:=W) (show D.repA W (FA W) [.s x0] _ from⟨_,_,O,gg0,O⟩) hp1 hp2 hp3).mono fun e W' he=>?_
 obtain ⟨res,rfl,E,rfl⟩:=he
 have bel:=E.below
 exact⟨_,O,_,_,_,[],_,[],hW',trodAll_mk1 (shut_bool Tryz.underlying4 _),(trodAll_cons_mk (Below.trod laidOut (by kernel_rfl) (of_decide_eq_true (by kernel_rfl)) k0 bel lt0) trodAll_mk0),O,bel.frame _,fun h=>by cases h⟩
theorem j_inp:(Rows.parseWordsRow.inPlace==Tryz.prog.inPlace 11)=true:=by kernel_rfl
theorem j_unf:(Rows.parseWordsRow.unfollowed==Tryz.prog.unfollowed 11)=true:=by kernel_rfl
theorem j_rec:(Rows.parseWordsRow.recurses==Tryz.prog.recurses 11)=true:=by kernel_rfl
theorem j_var:(Rows.parseWordsRow.named==Tryz.prog.varsNamed 11)=true:=by kernel_rfl
theorem closed:joinedFacts Tryz.prog 11 Tryz.f11 Rows.parseWordsSpec Rows.parseWordsRow=true:=by
 unfold joinedFacts
 rw[j_inp,j_unf,j_rec,j_var]
 kernel_rfl
theorem over:Rows.parseWordsRow.holds Tryz.pinned (OpenSpec.ofChange Rows.parseWordsSpec):=
 OpenClaim.holds_of_wide 11 Tryz.f11 rfl rfl rfl rfl rfl rfl rfl ⟨rfl,rfl,rfl,rfl,rfl⟩ rfl rfl rfl rfl rfl (by kernel_rfl) Tryz.func11 closed
  (of_decide_eq_true (by kernel_rfl)) (by unfold Func.isWrapper;first | (rw[if_pos (by decide+kernel)];kernel_rfl) | (rw[if_neg (by decide+kernel)];exact⟨rfl,rfl⟩))
  (fun os started H enc _=>lifted os started H enc)
theorem k_wf:OpenClaim.wfByText (OpenSpec.ofChange Rows.parseWordsSpec) Rows.parseWordsRow=true:=by kernel_rfl
theorem k_looks:true=Tryz.prog.looks []:=by kernel_rfl
theorem k_goes:false=Rows.parseWordsRow.goesBy Tryz.prog:=by kernel_rfl
theorem k_fn:Tryz.prog.funcNamed Rows.parseWordsRow.func=some 11:=by kernel_rfl
theorem parseWords_proved:Rows.ParseWordsCardSaid:=
 Claim7.holds_tied_plain_at .later [] _ true (true, "f3ba985ddef6c7fdfcb4e9a1559d57f0542d2b06674e543ad4a4e572a4bac936") true
  over (fun _ h=>by cases h) k_wf (fun _ h=>by cases h) parseWords_row_tie rfl ⟨rfl,rfl⟩ (by kernel_rfl) rfl
  (fun f fn hf hfn=>by
   obtain rfl:f=11:=Option.some.inj (k_fn.symm.trans hf) |>.symm
   obtain rfl:fn=Tryz.f11:=(Option.some.inj (Tryz.func11.symm.trans hfn)).symm
   exact⟨k_looks,fun j t ht=>by
    rw[Tryz.params11] at ht
    have hm:t∈[9]:=by simpa using Array.mem_of_getElem? ht
    have hall:([9].all fun u=>!Tryz.prog.wantsStandIn u)=true:=by kernel_rfl
    exact(show Tryz.prog.wantsStandIn t=false by simpa using List.all_eq_true.1 hall t hm)⟩)
  k_goes
end Go.Proofs.YtheccaeefigajaaGreatDoor.parseWords
