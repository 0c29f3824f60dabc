/-
  Of any two texts that are read as queries: two queries are printed alike just if they are the same.
-/
import Derived.Test.YtheccaeefigajaaGreatDoorRows
import Derived.Test.YtheccaeefigajaaGreatDoorTie
import Derived.Test.YtheccaeefigajaaGreatDoorCards
import Derived.SevenTiedAt
import Derived.Test.YtheccaeefigajaaGreatDoorV113
namespace Go.Proofs.YtheccaeefigajaaGreatDoor.parseUnlike
open Go.ChangeShapes Go.WideShapes Go.ChangeAt Go.RowKit Lp
set_option linter.unusedVariables false
theorem own:ownKnob Tryz.prog.godebug=none:=by kernel_rfl
theorem laidOut:laidOutB Tryz.prog=true:=by kernel_rfl
theorem door_met (os:Os) (args:Array Value):laidMetH Tryz.prog Rows.parseUnlikeRow.laid ((World.doorLaid Tryz.prog 400 os).forCall (fun _ _=>0) ⟨#[],args,[]⟩).memory:=
 laidMetH_of_parts3 (fuel:=8) (laidMet_of_run' 8 (by kernel_rfl) (by kernel_rfl)) (by kernel_rfl) (by kernel_rfl)
set_option maxRecDepth 100000 in
theorem lifted (os:Os) (started:os.Started) (H:Type) (enc:TypeId×Value→H):
 ReturnsInHanded {} Tryz.checked os 8 .any (fun w args=>(Rows.parseUnlikeSpec.pre enc Tryz.prog Tryz.f8 Rows.parseUnlikeRow.domain false w args∧laidMetH Tryz.prog Rows.parseUnlikeRow.laid w)∧sizedMet enc Tryz.prog Tryz.f8 (OpenSpec.ofChange Rows.parseUnlikeSpec) false w args) (Rows.parseUnlikeSpec.post enc Tryz.prog Tryz.f8 false true false false):=by
 refine returnsInHanded_of_change_and (C:=Tryz.checked) (X:=fun w _=>laidMetH Tryz.prog Rows.parseUnlikeRow.laid w) (fun _ _ _ hh h=>h.of_heap hh) own started (by kernel_rfl) Tryz.func8
  (ChangeSpec.witness_shaped (enc:=enc) (C:=Tryz.checked) (os:=os) (X:=fun w _=>laidMetH Tryz.prog Rows.parseUnlikeRow.laid w) false (World.doorLaid Tryz.prog 400 os) #[.string .empty,.string .empty] 8 rfl (World.shaped_of_RefB (by kernel_rfl) (by kernel_rfl)) (by kernel_rfl) (by kernel_rfl) (by kernel_rfl) (door_met os _)) ?_
 intro W base args ds gs before hval0 hW hcnd _ hL _
 obtain ⟨ev,es,hev,hes,hp1,hp2,hp3⟩:=of_laid (show laidMetH Tryz.prog Rows.kindTellsRow.laid W from hL)
 have hval:∀ (j:Nat) t v,Tryz.f8.params[j]?=some t→args[j]?=some v→Value.okWide Tryz.prog W .any base t v:=hval0
 have hW':=hW
 obtain ⟨p,q,hA0,hV,rfl,hfz,hnd⟩:=hW
 have hA:DataW.TrodAll enc Tryz.prog W 0 (fun _=>true) true Tryz.f8.params.toList args.toList ds p:=hA0
 rw[Tryz.params8] at hA hval
 obtain ⟨v0,vs0,d0,ds0,p0,q0,hargs,rfl,rfl,h0,r0⟩:=trodAll_cons hA
 obtain ⟨v1,vs1,d1,ds1,p1,q1,rfl,rfl,rfl,h1,r1⟩:=trodAll_cons r0
 obtain ⟨rfl,rfl,rfl⟩:=trodAll_nil r1
 obtain rfl:args=#[v0,v1]:=by cases args;simp_all
 obtain ⟨rfl,rfl⟩:=trodVars_none hV
 have k0:=h0
 have lt0:∀ x∈p0,x.block<W.heap.size:=by obtain ⟨m,hm⟩:=k0;exact DataW.trod_lt m _ _ _ hm
 obtain ⟨fuel0,hf0⟩:=h0
 obtain ⟨x0,u0,e0,g0,_,_⟩:=in_str hf0
 have k1:=h1
 have lt1:∀ x∈p1,x.block<W.heap.size:=by obtain ⟨m,hm⟩:=k1;exact DataW.trod_lt m _ _ _ hm
 obtain ⟨fuel1,hf1⟩:=h1
 obtain ⟨x1,u1,e1,g1,_,_⟩:=in_str hf1
 clear hA0 hval0
 obtain ⟨y0,rfl⟩:=okWide_string Tryz.underlying9 (hval 0 9 v0 rfl rfl)
 have gg0:=g0
 obtain ⟨g0,_⟩:=g0
 subst g0
 have e0:Value.string y0=.string x0:=by simpa [Value.cells,vcs] using e0
 cases e0
 obtain ⟨y1,rfl⟩:=okWide_string Tryz.underlying9 (hval 1 9 v1 rfl rfl)
 have gg1:=g1
 obtain ⟨g1,_⟩:=g1
 subst g1
 have e1:Value.string y1=.string x1:=by simpa [Value.cells,vcs] using e1
 cases e1
 refine((Lp.law_unlike_c x0 x1 ev es hev hes).lawT (W:=W) (show D.repA W (FA W) [.s x0,.s x1] _ from⟨_,_,rfl,gg0,⟨_,_,rfl,gg1,rfl⟩⟩) hp1 hp2 hp3).mono fun e W' he=>?_
 obtain ⟨res,rfl,E,rfl⟩:=he
 have bel:=E.below
 exact⟨_,rfl,_,_,_,[],_,[],hW',trodAll_mk1 (shut_bool Tryz.underlying4 _),(trodAll_cons_mk (Below.trod laidOut (by kernel_rfl) (of_decide_eq_true (by kernel_rfl)) k0 bel lt0) (trodAll_cons_mk (Below.trod laidOut (by kernel_rfl) (of_decide_eq_true (by kernel_rfl)) k1 bel lt1) trodAll_mk0)),rfl,bel.frame _,fun h=>by cases h⟩
theorem j_inp:(Rows.parseUnlikeRow.inPlace==Tryz.prog.inPlace 8)=true:=by kernel_rfl
theorem j_unf:(Rows.parseUnlikeRow.unfollowed==Tryz.prog.unfollowed 8)=true:=by kernel_rfl
theorem j_rec:(Rows.parseUnlikeRow.recurses==Tryz.prog.recurses 8)=true:=by kernel_rfl
theorem j_var:(Rows.parseUnlikeRow.named==Tryz.prog.varsNamed 8)=true:=by kernel_rfl
theorem closed:joinedFacts Tryz.prog 8 Tryz.f8 Rows.parseUnlikeSpec Rows.parseUnlikeRow=true:=by
 unfold joinedFacts
 rw[j_inp,j_unf,j_rec,j_var]
 kernel_rfl
theorem over:Rows.parseUnlikeRow.holds Tryz.pinned (OpenSpec.ofChange Rows.parseUnlikeSpec):=
 OpenClaim.holds_of_wide 8 Tryz.f8 rfl rfl rfl rfl rfl rfl rfl ⟨rfl,rfl,rfl,rfl,rfl⟩ rfl rfl rfl rfl rfl (by kernel_rfl) Tryz.func8 closed
  (of_decide_eq_true (by kernel_rfl)) (by unfold Func.isWrapper;first | (rw[if_pos (by decide+kernel)];kernel_rfl) | (rw[if_neg (by decide+kernel)];exact⟨rfl,rfl⟩))
  (fun os started H enc _=>lifted os started H enc)
theorem parseUnlike_proved:Rows.ParseUnlikeCardSaid:=
 Claim7.holds_tied_plain_at .later [] _ true (true, "f3ba985ddef6c7fdfcb4e9a1559d57f0542d2b06674e543ad4a4e572a4bac936") true
  over (fun _ h=>by cases h) (by kernel_rfl) (fun _ h=>by cases h) parseUnlike_row_tie rfl ⟨rfl,rfl⟩ (by kernel_rfl) rfl
  (fun f fn hf hfn=>by
   obtain rfl:f=8:=Option.some.inj ((show Tryz.prog.funcNamed Rows.parseUnlikeRow.func=some 8 by kernel_rfl).symm.trans hf) |>.symm
   obtain rfl:fn=Tryz.f8:=(Option.some.inj (Tryz.func8.symm.trans hfn)).symm
   exact⟨by kernel_rfl,fun j t ht=>by
    rw[Tryz.params8] at ht
    have hm:t∈[9,9]:=by simpa using Array.mem_of_getElem? ht
    have hall:([9,9].all fun u=>!Tryz.prog.wantsStandIn u)=true:=by kernel_rfl
    exact(show Tryz.prog.wantsStandIn t=false by simpa using List.all_eq_true.1 hall t hm)⟩)
  (by kernel_rfl)
end Go.Proofs.YtheccaeefigajaaGreatDoor.parseUnlike
