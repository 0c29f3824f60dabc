/-
 selectors within the bounds print and read back as themselves, if they read at all
-/
import Derived.Test.YtheccaeefigajaaGreatDoorRows
import Derived.Test.YtheccaeefigajaaGreatDoorTie
import Derived.Test.YtheccaeefigajaaGreatDoorCards
import Derived.SevenTiedAt
import Derived.Deep.DeepHandedRow
import Derived.Test.YtheccaeefigajaaGreatDoorV129
set_option linter.unusedSimpArgs false
namespace Go.Proofs.YtheccaeefigajaaGreatDoor.parseSelectorsUpto
open Go.ChangeShapes Go.WideShapes Go.ChangeAt Go.RowKit Lp
set_option linter.unusedVariables false
theorem own:ownKnob Tryz.prog.godebug=none:=by kernel_rfl
theorem laidOut:laidOutB Tryz.prog=true:=by kernel_rfl
theorem door_met (os:Os) (args:Array Value):laidMetH Tryz.prog Rows.parseSelectorsUptoRow.laid ((World.doorLaid Tryz.prog 400 os).forCall (λ_ _=>0) ⟨#[],args,[]⟩).memory:=
 laidMetH_of_parts3 (fuel:=8) (laidMet_of_run' 8 (by kernel_rfl) (by kernel_rfl)) (by kernel_rfl) (by kernel_rfl)
theorem zbL (os:Os) {H:Type} (enc:TypeId×Value->H):∃ places,DataW.whole enc Tryz.prog ((World.doorLaid Tryz.prog 400 os).forCall (λ_ _=>0) ⟨#[],#[.string .empty,.slice none 0 0,.int .i64 0],[]⟩).memory Tryz.f10.params.toList (Rows.OpenSpec.upto Rows.parseSelectorsSpec).vars false [.string .empty,.slice none 0 0,.int .i64 0] 8=some ([.lit (.string []),.nil,.lit (.int .i64 0)],[],places):=
 ⟨[],by kernel_rfl⟩
theorem w_sh (os:Os):((World.doorLaid Tryz.prog 400 os).forCall (λ_ _=>0) ⟨#[],#[.string .empty,.slice none 0 0,.int .i64 0],[]⟩).Shaped Tryz.prog:=World.shaped_of_RefB (by kernel_rfl) (by kernel_rfl)
theorem w_ok (os:Os):Input.okWideB Tryz.prog ((World.doorLaid Tryz.prog 400 os).forCall (λ_ _=>0) ⟨#[],#[.string .empty,.slice none 0 0,.int .i64 0],[]⟩) 10 ⟨#[],#[.string .empty,.slice none 0 0,.int .i64 0],[]⟩=true:=by kernel_rfl
theorem w_sz (os:Os) {H:Type} (enc:TypeId×Value->H):(Rows.OpenSpec.upto Rows.parseSelectorsSpec).bare.sizedB enc Tryz.prog Tryz.f10 false ((World.doorLaid Tryz.prog 400 os).forCall (λ_ _=>0) ⟨#[],#[.string .empty,.slice none 0 0,.int .i64 0],[]⟩).memory #[.string .empty,.slice none 0 0,.int .i64 0] 8=true:=by kernel_rfl
theorem w_row (os:Os) {H:Type} (enc:TypeId×Value->H):(Rows.OpenSpec.upto Rows.parseSelectorsSpec).preRow enc Tryz.prog Tryz.f10 Rows.parseSelectorsUptoRow.domain false Rows.parseSelectorsUptoRow.laid ((World.doorLaid Tryz.prog 400 os).forCall (λ_ _=>0) ⟨#[],#[.string .empty,.slice none 0 0,.int .i64 0],[]⟩).memory #[.string .empty,.slice none 0 0,.int .i64 0]:=by
 obtain ⟨places,hx⟩:=zbL os enc;exact OpenSpec.preRow_of_cond 8 hx (by rfl) (λk hk=>by cases hk;rfl) (w_sz os enc) (door_met os _)
set_option maxRecDepth 100000 in
theorem lifted (os:Os) (started:os.Started) (H:Type) (enc:TypeId×Value->H) (F:Stop.Interp):
 ReturnsInHanded {} Tryz.checked os 10 .any ((Rows.OpenSpec.upto Rows.parseSelectorsSpec).preRow enc Tryz.prog Tryz.f10 Rows.parseSelectorsUptoRow.domain false Rows.parseSelectorsUptoRow.laid) (((Rows.OpenSpec.upto Rows.parseSelectorsSpec).at F).post enc Tryz.prog Tryz.f10 false true false false):=by
 refine returnsInHanded_of_row (C:=Tryz.checked) (s:=Rows.OpenSpec.upto Rows.parseSelectorsSpec) own started (by kernel_rfl) Tryz.func10
  ⟨World.doorLaid Tryz.prog 400 os,λ_ _=>0,⟨#[],#[.string .empty,.slice none 0 0,.int .i64 0],[]⟩,rfl,w_sh os,(Input.okWide_of_okWideB (base:=0) (w_ok os)).1,(Input.okWide_of_okWideB (w_ok os)).2,w_row os enc,by
   simp only[Assume.holds];exact⟨by simp,by simp,λ_=>Modest.zero,by simp,by simp⟩⟩ ?_
 intro W base args ds gs before hval0 hW _ hcond _ hL _ _;obtain ⟨ev,es,hev,hes,hp1,hp2,hp3⟩:=of_laid (show laidMetH Tryz.prog Rows.kindTellsRow.laid W from hL);have hval:∀ (j:Nat) t v,Tryz.f10.params[j]?=some t->args[j]?=some v->Value.okWide Tryz.prog W .any base t v:=hval0;have hbulk:Rows.uptoBulkAll (ds++gs)<=1048576:=by
  have h:=hcond _ O;simpa [Rows.uptoSmall] using h
 have hW':=hW;obtain ⟨p,q,hA0,hV,rfl,hfz,hnd⟩:=hW;have hA:DataW.TrodAll enc Tryz.prog W 0 (λ_=>true) true Tryz.f10.params.toList args.toList ds p:=hA0;rw[Tryz.params10] at hA hval;obtain ⟨v0,vs0,d0,ds0,p0,q0,hargs,rfl,rfl,h0,r0⟩:=trodAll_cons hA;obtain ⟨v1,vs1,d1,ds1,p1,q1,rfl,rfl,rfl,h1,r1⟩:=trodAll_cons r0;obtain ⟨v2,vs2,d2,ds2,p2,q2,rfl,rfl,rfl,h2,r2⟩:=trodAll_cons r1;obtain ⟨rfl,rfl,rfl⟩:=trodAll_nil r2;obtain rfl:args=#[v0,v1,v2]:=by cases args;simp_all
 obtain ⟨rfl,rfl⟩:=trodVars_none hV;have k0:=h0;have lt0:∀ x∈p0,x.block<W.heap.size:=by obtain ⟨m,hm⟩:=k0;exact DataW.trod_lt m _ _ _ hm
 obtain ⟨fuel0,hf0⟩:=h0;obtain ⟨x0,⟨u0,e0,g0,_,_⟩,b0⟩:=in_strB hf0;have k1:=h1;have lt1:∀ x∈p1,x.block<W.heap.size:=by obtain ⟨m,hm⟩:=k1;exact DataW.trod_lt m _ _ _ hm
 obtain ⟨fuel1,hf1⟩:=h1;obtain ⟨u1,x1,e1,g1,b1⟩:=in_mats hf1;have k2:=h2;have lt2:∀ x∈p2,x.block<W.heap.size:=by obtain ⟨m,hm⟩:=k2;exact DataW.trod_lt m _ _ _ hm
 obtain ⟨fuel2,hf2⟩:=h2;obtain ⟨x2,u2,e2,g2,_,_⟩:=in_int hf2;clear hA0 hval0;have hb0:UB d0<=1048576/\UB d1<=1048576:=by
  have h:UB d0+(UB d1+(UB d2+0))<=1048576:=by simpa only [Rows.uptoBulkAll,jA,jI,jO] using hbulk
  omega
 obtain ⟨y0,rfl⟩:=okWide_string Tryz.underlying9 (hval 0 9 v0 rfl rfl);have gg0:=g0;obtain ⟨g0,_⟩:=g0;subst g0;have e0:Value.string y0=.string x0:=by simpa [Value.cells,vcs] using e0
 cases e0;obtain ⟨A1,l1,c1,rfl⟩:=okWide_slice Tryz.underlying24 (hval 1 24 v1 rfl rfl);have e1:u1=.slice A1 l1 c1:=by simpa [Value.cells] using e1.symm
 subst e1;obtain ⟨y2,rfl⟩:=okWide_int Tryz.underlying3 (hval 2 3 v2 rfl rfl);have g2:u2=_:=g2;subst g2;have e2:Value.int .i64 y2=.int .i64 x2:=by simpa [Value.cells,vcs] using e2
 cases e2;refine((Lp.law_sels_c x0 x1 x2 (dY b0 hb0.1) (λx hx=>dY (b1 x hx) hb0.2) ev es hev hes).lawT (W:=W) (show D.repA W (FA W) [.s x0,.sh 3 (x1.map MatD.d),.v (.int .i64 x2)] _ from⟨_,_,O,gg0,⟨_,_,O,g1,⟨_,_,O,O,O⟩⟩⟩) hp1 hp2 hp3).mono λe W' he=>?_
 obtain ⟨res,rfl,E,rfl⟩:=he;have bel:=E.below;exact⟨_,O,_,_,_,[],_,[],hW',trodAll_mk1 (shut_bool Tryz.underlying4 _),(trodAll_cons_mk (Below.trod laidOut (by kernel_rfl) (of_decide_eq_true (by kernel_rfl)) k0 bel lt0) (trodAll_cons_mk (Below.trod laidOut (by kernel_rfl) (of_decide_eq_true (by kernel_rfl)) k1 bel lt1) (trodAll_cons_mk (Below.trod laidOut (by kernel_rfl) (of_decide_eq_true (by kernel_rfl)) k2 bel lt2) trodAll_mk0))),O,bel.frame _,λh=>by cases h⟩
theorem j_inp:(Rows.parseSelectorsUptoRow.inPlace==Tryz.prog.inPlace 10)=true:=by kernel_rfl
theorem j_unf:(Rows.parseSelectorsUptoRow.unfollowed==Tryz.prog.unfollowed 10)=true:=by kernel_rfl
theorem j_rec:(Rows.parseSelectorsUptoRow.recurses==Tryz.prog.recurses 10)=true:=by kernel_rfl
theorem j_var:(Rows.parseSelectorsUptoRow.named==Tryz.prog.varsNamed 10)=true:=by kernel_rfl
theorem closed:joinedFacts Tryz.prog 10 Tryz.f10 (Rows.OpenSpec.upto Rows.parseSelectorsSpec).bare Rows.parseSelectorsUptoRow=true:=by
 unfold joinedFacts;rw[j_inp,j_unf,j_rec,j_var]
 kernel_rfl
theorem over:Rows.ParseSelectorsUptoSaid:=
 OpenClaim.holds_of_cond 10 Tryz.f10 rfl rfl rfl rfl rfl rfl rfl ⟨rfl,rfl,rfl,rfl,rfl⟩ rfl rfl rfl rfl rfl (by kernel_rfl) Tryz.func10 closed
  (of_decide_eq_true (by kernel_rfl)) (by unfold Func.isWrapper;first | (rw[if_pos (by decide+kernel)];kernel_rfl) | (rw[if_neg (by decide+kernel)];exact⟨rfl,rfl⟩))
  (λos started H enc _ F=>by rw[OpenClaim.pre_eq_preRow];exact lifted os started H enc F)
theorem k_wf:OpenClaim.wfByText (Rows.OpenSpec.upto Rows.parseSelectorsSpec) Rows.parseSelectorsUptoRow=true:=by kernel_rfl
theorem k_looks:true=Tryz.prog.looks []:=by kernel_rfl
theorem k_goes:false=Rows.parseSelectorsUptoRow.goesBy Tryz.prog:=by kernel_rfl
theorem k_fn:Tryz.prog.funcNamed Rows.parseSelectorsUptoRow.func=some 10:=by kernel_rfl
theorem parseSelectorsUpto_proved:Rows.ParseSelectorsUptoCardSaid:=
 Claim7.holds_tied_plain_at .later [] _ true (true, "f3ba985ddef6c7fdfcb4e9a1559d57f0542d2b06674e543ad4a4e572a4bac936") true
  over (λ_ h=>by cases h) k_wf (λ_ h=>by cases h) parseSelectorsUpto_row_tie rfl ⟨rfl,rfl⟩ (by kernel_rfl) rfl
  (λf fn hf hfn=>by
   obtain rfl:f=10:=uY (k_fn.symm.trans hf) |>.symm
   obtain rfl:fn=Tryz.f10:=(uY (Tryz.func10.symm.trans hfn)).symm;exact⟨k_looks,λj t ht=>by
    rw[Tryz.params10] at ht;have hm:t∈[9,24,3]:=(by simpa using Array.mem_of_getElem? ht);have hall:([9,24,3].all λu=>!Tryz.prog.wantsStandIn u)=true:=(by kernel_rfl);exact(show Tryz.prog.wantsStandIn t=false by simpa using dG.1 hall t hm)⟩)
  k_goes
end Go.Proofs.YtheccaeefigajaaGreatDoor.parseSelectorsUpto
