/-
  Of any three numbers and any two signs: chains of signs are put together from the left; products bind more than sums, and these more than comparisons; brackets bind most.
-/
import Derived.Test.YtheccaeefigajaaGreatDoorRows
import Derived.Test.YtheccaeefigajaaGreatDoorTie
import Derived.Test.YtheccaeefigajaaGreatDoorCards
import Derived.SevenTiedAt
import Derived.Test.YtheccaeefigajaaGreatDoorV111
namespace Go.Proofs.YtheccaeefigajaaGreatDoor.parseChains
open Go.ChangeShapes Go.WideShapes Go.ChangeAt Go.RowKit Lp
set_option linter.unusedVariables false
theorem own:ownKnob Tryz.prog.godebug=none:=by kernel_rfl
theorem laidOut:laidOutB Tryz.prog=true:=by kernel_rfl
theorem door_met (os:Os) (args:Array Value):laidMetH Tryz.prog Rows.parseChainsRow.laid ((World.doorLaid Tryz.prog 400 os).forCall (fun _ _=>0) ⟨#[],args,[]⟩).memory:=
 laidMetH_of_parts3 (fuel:=8) (laidMet_of_run' 8 (by kernel_rfl) (by kernel_rfl)) (by kernel_rfl) (by kernel_rfl)
set_option maxRecDepth 100000 in
theorem lifted (os:Os) (started:os.Started) (H:Type) (enc:TypeId×Value→H):
 ReturnsInHanded {} Tryz.checked os 5 .any (fun w args=>(Rows.parseChainsSpec.pre enc Tryz.prog Tryz.f5 Rows.parseChainsRow.domain false w args∧laidMetH Tryz.prog Rows.parseChainsRow.laid w)∧sizedMet enc Tryz.prog Tryz.f5 (OpenSpec.ofChange Rows.parseChainsSpec) false w args) (Rows.parseChainsSpec.post enc Tryz.prog Tryz.f5 false true false false):=by
 refine returnsInHanded_of_change_and (C:=Tryz.checked) (X:=fun w _=>laidMetH Tryz.prog Rows.parseChainsRow.laid w) (fun _ _ _ hh h=>h.of_heap hh) own started (by kernel_rfl) Tryz.func5
  (ChangeSpec.witness_shaped (enc:=enc) (C:=Tryz.checked) (os:=os) (X:=fun w _=>laidMetH Tryz.prog Rows.parseChainsRow.laid w) false (World.doorLaid Tryz.prog 400 os) #[.int .i64 0,.int .i64 0,.int .i64 0,.int .i64 0,.int .i64 0] 8 rfl (World.shaped_of_RefB (by kernel_rfl) (by kernel_rfl)) (by kernel_rfl) (by kernel_rfl) (by kernel_rfl) (door_met os _)) ?_
 intro W base args ds gs before hval0 hW hcnd _ hL _
 obtain ⟨ev,es,hev,hes,hp1,hp2,hp3⟩:=of_laid (show laidMetH Tryz.prog Rows.kindTellsRow.laid W from hL)
 have hval:∀ (j:Nat) t v,Tryz.f5.params[j]?=some t→args[j]?=some v→Value.okWide Tryz.prog W .any base t v:=hval0
 have hW':=hW
 obtain ⟨p,q,hA0,hV,rfl,hfz,hnd⟩:=hW
 have hA:DataW.TrodAll enc Tryz.prog W 0 (fun _=>true) true Tryz.f5.params.toList args.toList ds p:=hA0
 rw[Tryz.params5] at hA hval
 obtain ⟨v0,vs0,d0,ds0,p0,q0,hargs,rfl,rfl,h0,r0⟩:=trodAll_cons hA
 obtain ⟨v1,vs1,d1,ds1,p1,q1,rfl,rfl,rfl,h1,r1⟩:=trodAll_cons r0
 obtain ⟨v2,vs2,d2,ds2,p2,q2,rfl,rfl,rfl,h2,r2⟩:=trodAll_cons r1
 obtain ⟨v3,vs3,d3,ds3,p3,q3,rfl,rfl,rfl,h3,r3⟩:=trodAll_cons r2
 obtain ⟨v4,vs4,d4,ds4,p4,q4,rfl,rfl,rfl,h4,r4⟩:=trodAll_cons r3
 obtain ⟨rfl,rfl,rfl⟩:=trodAll_nil r4
 obtain rfl:args=#[v0,v1,v2,v3,v4]:=by cases args;simp_all
 obtain ⟨rfl,rfl⟩:=trodVars_none hV
 have k0:=h0
 have lt0:∀ x∈p0,x.block<W.heap.size:=by obtain ⟨m,hm⟩:=k0;exact DataW.trod_lt m _ _ _ hm
 obtain ⟨fuel0,hf0⟩:=h0
 obtain ⟨x0,u0,e0,g0,_,_⟩:=zen hf0
 have k1:=h1
 have lt1:∀ x∈p1,x.block<W.heap.size:=by obtain ⟨m,hm⟩:=k1;exact DataW.trod_lt m _ _ _ hm
 obtain ⟨fuel1,hf1⟩:=h1
 obtain ⟨x1,u1,e1,g1,_,_⟩:=zen hf1
 have k2:=h2
 have lt2:∀ x∈p2,x.block<W.heap.size:=by obtain ⟨m,hm⟩:=k2;exact DataW.trod_lt m _ _ _ hm
 obtain ⟨fuel2,hf2⟩:=h2
 obtain ⟨x2,u2,e2,g2,_,_⟩:=zen hf2
 have k3:=h3
 have lt3:∀ x∈p3,x.block<W.heap.size:=by obtain ⟨m,hm⟩:=k3;exact DataW.trod_lt m _ _ _ hm
 obtain ⟨fuel3,hf3⟩:=h3
 obtain ⟨x3,u3,e3,g3,_,_⟩:=zen hf3
 have k4:=h4
 have lt4:∀ x∈p4,x.block<W.heap.size:=by obtain ⟨m,hm⟩:=k4;exact DataW.trod_lt m _ _ _ hm
 obtain ⟨fuel4,hf4⟩:=h4
 obtain ⟨x4,u4,e4,g4,_,_⟩:=zen hf4
 clear hA0 hval0
 obtain ⟨y0,rfl⟩:=okWide_int Tryz.underlying3 (hval 0 3 v0 rfl rfl)
 have g0:u0=_:=g0
 subst g0
 have e0:Value.int .i64 y0=.int .i64 x0:=by simpa [Value.cells,vcs] using e0
 cases e0
 obtain ⟨y1,rfl⟩:=okWide_int Tryz.underlying3 (hval 1 3 v1 rfl rfl)
 have g1:u1=_:=g1
 subst g1
 have e1:Value.int .i64 y1=.int .i64 x1:=by simpa [Value.cells,vcs] using e1
 cases e1
 obtain ⟨y2,rfl⟩:=okWide_int Tryz.underlying3 (hval 2 3 v2 rfl rfl)
 have g2:u2=_:=g2
 subst g2
 have e2:Value.int .i64 y2=.int .i64 x2:=by simpa [Value.cells,vcs] using e2
 cases e2
 obtain ⟨y3,rfl⟩:=okWide_int Tryz.underlying3 (hval 3 3 v3 rfl rfl)
 have g3:u3=_:=g3
 subst g3
 have e3:Value.int .i64 y3=.int .i64 x3:=by simpa [Value.cells,vcs] using e3
 cases e3
 obtain ⟨y4,rfl⟩:=okWide_int Tryz.underlying3 (hval 4 3 v4 rfl rfl)
 have g4:u4=_:=g4
 subst g4
 have e4:Value.int .i64 y4=.int .i64 x4:=by simpa [Value.cells,vcs] using e4
 cases e4
 refine((Lp.law_chains_c x0 x1 x2 x3 x4 ev es hev hes).lawT (W:=W) (show D.repA W (FA W) [.v (.int .i64 x0),.v (.int .i64 x1),.v (.int .i64 x2),.v (.int .i64 x3),.v (.int .i64 x4)] _ from⟨_,_,rfl,rfl,⟨_,_,rfl,rfl,⟨_,_,rfl,rfl,⟨_,_,rfl,rfl,⟨_,_,rfl,rfl,rfl⟩⟩⟩⟩⟩) hp1 hp2 hp3).mono fun e W' he=>?_
 obtain ⟨res,rfl,E,rfl⟩:=he
 have bel:=E.below
 exact⟨_,rfl,_,_,_,[],_,[],hW',trodAll_mk1 (shut_bool Tryz.underlying4 _),(trodAll_cons_mk (Below.trod laidOut (by kernel_rfl) (of_decide_eq_true (by kernel_rfl)) k0 bel lt0) (trodAll_cons_mk (Below.trod laidOut (by kernel_rfl) (of_decide_eq_true (by kernel_rfl)) k1 bel lt1) (trodAll_cons_mk (Below.trod laidOut (by kernel_rfl) (of_decide_eq_true (by kernel_rfl)) k2 bel lt2) (trodAll_cons_mk (Below.trod laidOut (by kernel_rfl) (of_decide_eq_true (by kernel_rfl)) k3 bel lt3) (trodAll_cons_mk (Below.trod laidOut (by kernel_rfl) (of_decide_eq_true (by kernel_rfl)) k4 bel lt4) trodAll_mk0))))),rfl,bel.frame _,fun h=>by cases h⟩
theorem j_inp:(Rows.parseChainsRow.inPlace==Tryz.prog.inPlace 5)=true:=by kernel_rfl
theorem j_unf:(Rows.parseChainsRow.unfollowed==Tryz.prog.unfollowed 5)=true:=by kernel_rfl
theorem j_rec:(Rows.parseChainsRow.recurses==Tryz.prog.recurses 5)=true:=by kernel_rfl
theorem j_var:(Rows.parseChainsRow.named==Tryz.prog.varsNamed 5)=true:=by kernel_rfl
theorem closed:joinedFacts Tryz.prog 5 Tryz.f5 Rows.parseChainsSpec Rows.parseChainsRow=true:=by
 unfold joinedFacts
 rw[j_inp,j_unf,j_rec,j_var]
 kernel_rfl
theorem over:Rows.parseChainsRow.holds Tryz.pinned (OpenSpec.ofChange Rows.parseChainsSpec):=
 OpenClaim.holds_of_wide 5 Tryz.f5 rfl rfl rfl rfl rfl rfl rfl ⟨rfl,rfl,rfl,rfl,rfl⟩ rfl rfl rfl rfl rfl (by kernel_rfl) Tryz.func5 closed
  (of_decide_eq_true (by kernel_rfl)) (by unfold Func.isWrapper;first | (rw[if_pos (by decide+kernel)];kernel_rfl) | (rw[if_neg (by decide+kernel)];exact⟨rfl,rfl⟩))
  (fun os started H enc _=>lifted os started H enc)
theorem parseChains_proved:Rows.ParseChainsCardSaid:=
 Claim7.holds_tied_plain_at .later [] _ true (true, "f3ba985ddef6c7fdfcb4e9a1559d57f0542d2b06674e543ad4a4e572a4bac936") true
  over (fun _ h=>by cases h) (by kernel_rfl) (fun _ h=>by cases h) parseChains_row_tie rfl ⟨rfl,rfl⟩ (by kernel_rfl) rfl
  (fun f fn hf hfn=>by
   obtain rfl:f=5:=Option.some.inj ((show Tryz.prog.funcNamed Rows.parseChainsRow.func=some 5 by kernel_rfl).symm.trans hf) |>.symm
   obtain rfl:fn=Tryz.f5:=(Option.some.inj (Tryz.func5.symm.trans hfn)).symm
   exact⟨by kernel_rfl,fun j t ht=>by
    rw[Tryz.params5] at ht
    have hm:t∈[3,3,3,3,3]:=by simpa using Array.mem_of_getElem? ht
    have hall:([3,3,3,3,3].all fun u=>!Tryz.prog.wantsStandIn u)=true:=by kernel_rfl
    exact(show Tryz.prog.wantsStandIn t=false by simpa using List.all_eq_true.1 hall t hm)⟩)
  (by kernel_rfl)
end Go.Proofs.YtheccaeefigajaaGreatDoor.parseChains
