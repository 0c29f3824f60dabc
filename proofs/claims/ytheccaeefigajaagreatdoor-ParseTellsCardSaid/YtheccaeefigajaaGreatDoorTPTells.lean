/-
 every text's query, or that it is none; how it is printed; printed and read again it is the same, if it is not too long
-/
import Derived.Test.YtheccaeefigajaaGreatDoorRows
import Derived.Test.YtheccaeefigajaaGreatDoorTie
import Derived.Test.YtheccaeefigajaaGreatDoorCards
import Derived.SevenTiedAt
import Derived.Test.YtheccaeefigajaaGreatDoorV128
set_option linter.unusedSimpArgs false
namespace Go.Proofs.YtheccaeefigajaaGreatDoor.parseTells
open Go.ChangeShapes Go.WideShapes Go.ChangeAt Go.RowKit Lp
set_option linter.unusedVariables false
theorem own:ownKnob Tryz.prog.godebug=none:=by kernel_rfl
theorem laidOut:laidOutB Tryz.prog=true:=by kernel_rfl
theorem aNt (os:Os) (args:Array Value):laidMetH Tryz.prog Rows.parseTellsRow.laid ((World.doorLaid Tryz.prog 400 os).forCall (λ_ _=>0) ⟨#[],args,[]⟩).memory:=
 laidMetH_of_parts3 (fuel:=8) (laidMet_of_run' 8 (by kernel_rfl) (by kernel_rfl)) (by kernel_rfl) (by kernel_rfl)
set_option maxRecDepth 100000 in
theorem lifted (os:Os) (started:os.Started) (H:Type) (enc:TypeId×Value->H):
 ReturnsInHanded {} Tryz.checked os 7 .any (λw args=>(Rows.parseTellsSpec.pre enc Tryz.prog Tryz.f7 Rows.parseTellsRow.domain false w args/\laidMetH Tryz.prog Rows.parseTellsRow.laid w)/\sizedMet enc Tryz.prog Tryz.f7 (OpenSpec.ofChange Rows.parseTellsSpec) false w args) (Rows.parseTellsSpec.post enc Tryz.prog Tryz.f7 false true false false):=by
 refine returnsInHanded_of_change_and (C:=Tryz.checked) (X:=λw _=>laidMetH Tryz.prog Rows.parseTellsRow.laid w) (λ_ _ _ hh h=>h.of_heap hh) own started (by kernel_rfl) Tryz.func7
  (ChangeSpec.witness_shaped (enc:=enc) (C:=Tryz.checked) (os:=os) (X:=λw _=>laidMetH Tryz.prog Rows.parseTellsRow.laid w) false (World.doorLaid Tryz.prog 400 os) #[.string .empty,.string .empty] 8 rfl (World.shaped_of_RefB (by kernel_rfl) (by kernel_rfl)) (by kernel_rfl) (by kernel_rfl) (by kernel_rfl) (aNt os _)) ?_
 intro W base args ds gs before hval0 hW hcnd _ hL _;obtain ⟨ev,es,hev,hes,hp1,hp2,hp3⟩:=aW0 (show laidMetH Tryz.prog Rows.kindTellsRow.laid W from hL);have hval:∀ (j:Nat) t v,Tryz.f7.params[j]?=some t->args[j]?=some v->Value.okWide Tryz.prog W .any base t v:=hval0;have hW':=hW;obtain ⟨p,q,hA0,hV,rfl,hfz,hnd⟩:=hW;have hA:DataW.TrodAll enc Tryz.prog W 0 (λ_=>true) true Tryz.f7.params.toList args.toList ds p:=hA0;rw[Tryz.params7] at hA hval;obtain ⟨v0,vs0,d0,ds0,p0,q0,hargs,rfl,rfl,h0,r0⟩:=trodAll_cons hA;obtain ⟨v1,vs1,d1,ds1,p1,q1,rfl,rfl,rfl,h1,r1⟩:=trodAll_cons r0;obtain ⟨rfl,rfl,rfl⟩:=trodAll_nil r1;obtain rfl:args=#[v0,v1]:=by cases args;simp_all
 obtain ⟨rfl,rfl⟩:=trodVars_none hV;have k0:=h0;have lt0:∀ x∈p0,x.block<W.heap.size:=by obtain ⟨m,hm⟩:=k0;exact DataW.trod_lt m _ _ _ hm
 obtain ⟨fuel0,hf0⟩:=h0;obtain ⟨x0,u0,e0,g0,_,_⟩:=aQv hf0;have k1:=h1;have lt1:∀ x∈p1,x.block<W.heap.size:=by obtain ⟨m,hm⟩:=k1;exact DataW.trod_lt m _ _ _ hm
 obtain ⟨fuel1,hf1⟩:=h1;obtain ⟨x1,u1,e1,g1,_,_⟩:=aQv hf1;clear hA0 hval0;obtain ⟨y0,rfl⟩:=okWide_string Tryz.underlying9 (hval 0 9 v0 rfl rfl);have gg0:=g0;obtain ⟨g0,_⟩:=g0;subst g0;have e0:Value.string y0=.string x0:=by simpa [Value.cells,vcs] using e0
 cases e0;obtain ⟨y1,rfl⟩:=okWide_string Tryz.underlying9 (hval 1 9 v1 rfl rfl);have gg1:=g1;obtain ⟨g1,_⟩:=g1;subst g1;have e1:Value.string y1=.string x1:=by simpa [Value.cells,vcs] using e1
 cases e1;refine((Lp.law_tells8_c x0 x1 ev es hev hes).lawT (W:=W) (show D.repA W (FA W) [.s x0,.s x1] _ from⟨_,_,O,gg0,⟨_,_,O,gg1,O⟩⟩) hp1 hp2 hp3).mono λe W' he=>?_
 obtain ⟨res,rfl,E,rfl⟩:=he;have bel:=E.below;exact⟨_,O,_,_,_,[],_,[],hW',trodAll_mk1 (shut_bool Tryz.underlying4 _),(trodAll_cons_mk (Below.trod laidOut (by kernel_rfl) (aF (by kernel_rfl)) k0 bel lt0) (trodAll_cons_mk (Below.trod laidOut (by kernel_rfl) (aF (by kernel_rfl)) k1 bel lt1) trodAll_mk0)),O,bel.frame _,λh=>by cases h⟩
theorem a1y:(Rows.parseTellsRow.inPlace==Tryz.prog.inPlace 7)=true:=by kernel_rfl
theorem a2n:(Rows.parseTellsRow.unfollowed==Tryz.prog.unfollowed 7)=true:=by kernel_rfl
theorem a1v:(Rows.parseTellsRow.recurses==Tryz.prog.recurses 7)=true:=by kernel_rfl
theorem a2t:(Rows.parseTellsRow.named==Tryz.prog.varsNamed 7)=true:=by kernel_rfl
theorem a0t:joinedFacts Tryz.prog 7 Tryz.f7 Rows.parseTellsSpec Rows.parseTellsRow=true:=by
 unfold joinedFacts;rw[a1y,a2n,a1v,a2t]
 kernel_rfl
theorem over:Rows.parseTellsRow.holds Tryz.pinned (OpenSpec.ofChange Rows.parseTellsSpec):=
 OpenClaim.holds_of_wide 7 Tryz.f7 rfl rfl rfl rfl rfl rfl rfl ⟨rfl,rfl,rfl,rfl,rfl⟩ rfl rfl rfl rfl rfl (by kernel_rfl) Tryz.func7 a0t
  (aF (by kernel_rfl)) (by unfold Func.isWrapper;first | (rw[aB (by decide+kernel)];kernel_rfl) | (rw[aA (by decide+kernel)];exact⟨rfl,rfl⟩))
  (λos started H enc _=>lifted os started H enc)
theorem k_wf:OpenClaim.wfByText (OpenSpec.ofChange Rows.parseTellsSpec) Rows.parseTellsRow=true:=by kernel_rfl
theorem aUb:true=Tryz.prog.looks []:=by kernel_rfl
theorem aX4:false=Rows.parseTellsRow.goesBy Tryz.prog:=by kernel_rfl
theorem k_fn:Tryz.prog.funcNamed Rows.parseTellsRow.func=some 7:=by kernel_rfl
theorem parseTells_proved:Rows.ParseTellsCardSaid:=
 Claim7.holds_tied_plain_at .later [] _ true (true, "f3ba985ddef6c7fdfcb4e9a1559d57f0542d2b06674e543ad4a4e572a4bac936") true
  over (λ_ h=>by cases h) k_wf (λ_ h=>by cases h) parseTells_row_tie rfl ⟨rfl,rfl⟩ (by kernel_rfl) rfl
  (λf fn hf hfn=>by
   obtain rfl:f=7:=u7 (k_fn.symm.trans hf) |>.symm
   obtain rfl:fn=Tryz.f7:=(u7 (Tryz.func7.symm.trans hfn)).symm;exact⟨aUb,λj t ht=>by
    rw[Tryz.params7] at ht;have hm:t∈[9,9]:=(by simpa using Array.mem_of_getElem? ht);have hall:([9,9].all λu=>!Tryz.prog.wantsStandIn u)=true:=(by kernel_rfl);exact(show Tryz.prog.wantsStandIn t=false by simpa using dG.1 hall t hm)⟩)
  aX4
end Go.Proofs.YtheccaeefigajaaGreatDoor.parseTells
