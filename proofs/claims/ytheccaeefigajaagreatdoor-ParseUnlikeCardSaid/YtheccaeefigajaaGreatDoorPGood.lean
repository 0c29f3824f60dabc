import Derived.Test.YtheccaeefigajaaGreatDoorV107
set_option linter.unusedVariables false
namespace Lp
open Go
noncomputable def zdT (a b:List Nd):Bool:=@decide (a=b) (Classical.propDecidable _)
theorem listB_t {a b:List Nd} (h:a=b):true=zdT a b:=(@decide_eq_true _ (Classical.propDecidable _) h).symm
theorem listB_f {a b:List Nd} (h:a≠b):false=zdT a b:=(@decide_eq_false _ (Classical.propDecidable _) h).symm
theorem listB_is {a b:List Nd}:zdT a b=true↔a=b:=⟨fun h=>@of_decide_eq_true _ (Classical.propDecidable _) h,fun h=>(listB_t h).symm⟩
theorem eqB_and {a1 a2 b1 b2:ByteArray} {a3 a4 b3 b4:Int} {a5 b5:List ByteArray} {a6 b6:List MatD} {a7 b7:List Nd}:
 ((((((decide (a1=b1)&&decide (a2=b2))&&decide (a3=b3))&&decide (a4=b4))&&decide (a5=b5))&&decide (a6=b6))&&zdT a7 b7)=(Nd.mk a1 a2 a3 a4 a5 a6 a7).eqB (Nd.mk b1 b2 b3 b4 b5 b6 b7):=by
 rw[Bool.eq_iff_iff,eqB_is]
 simp only[Bool.and_eq_true,decide_eq_true_eq,listB_is,Nd.mk.injEq]
 constructor
 · rintro ⟨⟨⟨⟨⟨⟨h1,h2⟩,h3⟩,h4⟩,h5⟩,h6⟩,h7⟩;exact⟨h1,h2,h3,h4,h5,h6,h7⟩
 · rintro ⟨h1,h2,h3,h4,h5,h6,h7⟩;exact⟨⟨⟨⟨⟨⟨h1,h2⟩,h3⟩,h4⟩,h5⟩,h6⟩,h7⟩
theorem sameQ_no {a b:QryD} (h:a≠b):zd3 a b=false:=by
 cases e:zd3 a b with
 | false=>rfl
 | true=>exact absurd (sameQ_is.1 e) h
end Lp
set_option linter.unusedSimpArgs false
set_option linter.unusedVariables false
set_option maxHeartbeats 4000000
set_option maxRecDepth 100000
namespace Lp
open Go Go.RowKit Go.Proofs
namespace HdYtheccaeefigajaaGreatDoorV109
theorem zT (b o:Nat):∀ w,(Instr.fieldAt 27 (.pointer (some ⟨b,o,none⟩)) 0).run Tryz.prog w=.ok (.pointer (some ⟨b,o+0,none⟩)) w:=fun _=>by kernel_rfl
theorem zad (b o:Nat):∀ w,(Instr.fieldAt 27 (.pointer (some ⟨b,o,none⟩)) 1).run Tryz.prog w=.ok (.pointer (some ⟨b,o+1,none⟩)) w:=fun _=>by kernel_rfl
theorem zaq (b o:Nat):∀ w,(Instr.fieldAt 27 (.pointer (some ⟨b,o,none⟩)) 2).run Tryz.prog w=.ok (.pointer (some ⟨b,o+2,none⟩)) w:=fun _=>by kernel_rfl
theorem zaY (b o:Nat):∀ w,(Instr.fieldAt 27 (.pointer (some ⟨b,o,none⟩)) 3).run Tryz.prog w=.ok (.pointer (some ⟨b,o+3,none⟩)) w:=fun _=>by kernel_rfl
theorem zbb (b o:Nat):∀ w,(Instr.fieldAt 27 (.pointer (some ⟨b,o,none⟩)) 4).run Tryz.prog w=.ok (.pointer (some ⟨b,o+4,none⟩)) w:=fun _=>by kernel_rfl
theorem zbx (b o:Nat):∀ w,(Instr.fieldAt 27 (.pointer (some ⟨b,o,none⟩)) 5).run Tryz.prog w=.ok (.pointer (some ⟨b,o+5,none⟩)) w:=fun _=>by kernel_rfl
theorem zaI (b o:Nat):∀ w,(Instr.fieldAt 27 (.pointer (some ⟨b,o,none⟩)) 6).run Tryz.prog w=.ok (.pointer (some ⟨b,o+6,none⟩)) w:=fun _=>by kernel_rfl
end HdYtheccaeefigajaaGreatDoorV109
open HdYtheccaeefigajaaGreatDoorV109
theorem eqT_c (a b:List ByteArray) :
 CD Tryz.prog 94 [] [.sh 1 (a.map D.s),.sh 1 (b.map D.s)] (isR (dB (decide (a=b)))):=by
 refine zq Tryz.func94 rfl (N:=26) rfl rfl (fun C=>?_)
 refine jk [0,1] rfl ?_
 refine JD.bd 0 rfl (fun bd0=>?_)
 have nl0:=zbZ bd0
 refine JD.bd 1 rfl (fun bd1=>?_)
 have nl1:=zbZ bd1
 refine jT rfl (oR 1 rfl (oZ rfl (jS rfl (jT rfl (oR 1 rfl (oP rfl (zaB (n:=a.length) rfl Tryz.runUnderlying23 (by simp only[lm,lc,ln])) (oR 1 rfl (oP rfl (zaB (n:=b.length) rfl Tryz.runUnderlying23 (by simp only[lm,lc,ln])) (oP rfl (zbf rfl rfl rfl) (oZ rfl ?_))))))))))
 refine jD rfl (fun hc1=>?_) (fun hc1=>?_)
 · skip
   refine jT rfl (oR 1 rfl (oZ rfl (zo rfl (zj ?_))))
   exact zi Tryz.results94 (.cons (zt (zl rfl) (Cv.eq (congrArg (fun b=>D.v (.bool b)) (by first | exact(decide_eq_false (fun e=>by have e:=congrArg List.length e;omega)).symm | exact(decide_eq_true (zc7 (by omega) (by omega) hf)).symm)))) .nil) rfl HSub.none ⟨rfl,rfl⟩
 · skip
   refine zp rfl (zn (jS rfl (jT rfl (oR 1 rfl (oP rfl (zaB (n:=a.length) rfl Tryz.runUnderlying23 (by simp only[lm,lc,ln])) (oR 1 rfl (oZ rfl (jB rfl (jl1 (fun (a_:Nat)=>[(0,.sh 1 (a.map D.s)),(1,.sh 1 (b.map D.s)),(12,dN a.length),(13,dN a_)]) (fun a_=>[]) (fun a_=>(a_≤a.length)∧(a.take a_=b.take a_)) (fun a_=>a.length-a_) 0 rfl (sa rfl) HSub.rfl' ⟨Nat.zero_le _,rfl⟩ ?_)))))))))
   rintro k ⟨hk,hf⟩
   refine ja rfl (jn rfl (jT rfl (oP rfl (za2 rfl rfl rfl) (oZ rfl (jS rfl ?_)))))
   refine jD rfl (fun hc2=>?_) (fun hc2=>?_)
   · skip
     refine zp rfl (zn (jS rfl (jB rfl (jT rfl (oR 2 rfl (oZ rfl (jS rfl (jk [0,1,5,12,13,14,15] rfl (jn rfl ?_)))))))))
     obtain ⟨x1,hx1⟩:=zak a k (by omega)
     obtain ⟨x2,hx2⟩:=zak b k (by omega)
     refine za4 8 [(16,.sh 1 (a.map D.s),none),(17,dN k,none),(18,.el (.s x1) 0,none),(19,.s x1,none),(20,.sh 1 (b.map D.s),none),(21,dN k,none),(22,.el (.s x2) 0,none),(23,.s x2,none)] [] (Hn:=[]) mixed rfl rfl rfl rfl HSub.rfl' rfl ⟨sa_p rfl rfl rfl (z7 rfl),sa_p rfl rfl rfl (z7 rfl),sa_p rfl rfl rfl (zA (k:=k) rfl rfl Tryz.runUnderlying23 Tryz.sizeOf9 (by first | rfl | omega) (zap hx1)),sa_p rfl rfl rfl (zaG rfl Tryz.isAgg9 rfl),sa_p rfl rfl rfl (z7 rfl),sa_p rfl rfl rfl (z7 rfl),sa_p rfl rfl rfl (zA (k:=k) rfl rfl Tryz.runUnderlying23 Tryz.sizeOf9 (by first | rfl | omega) (zap hx2)),sa_p rfl rfl rfl (zaG rfl Tryz.isAgg9 rfl),trivial⟩ (ok [0,1,5,12,13,14,15,16,17,18,19,20,21,22,23] rfl (oP rfl (zcJ rfl rfl rfl) (oZ rfl ?_)))
     refine jD rfl (fun hc3=>?_) (fun hc3=>?_)
     · skip
       refine jT rfl (oR 1 rfl (oZ rfl (zo rfl (zm (zj (zah (zm (zj ?_))))))))
       exact zi Tryz.results94 (.cons (zt (zl rfl) (Cv.eq (congrArg (fun b=>D.v (.bool b)) (by first | exact(decide_eq_false (fun e=>by have e:=congrArg List.length e;omega)).symm | exact(decide_eq_false (zfu hx1 hx2 (by simpa using hc3))).symm | exact(decide_eq_true (zc7 (by omega) (by omega) hf)).symm)))) .nil) rfl HSub.none ⟨rfl,rfl⟩
     · skip
       refine zp rfl (zE (zn (zf rfl (oP rfl (zbI (c:=((k+1:Nat):Int)) rfl rfl (zaL (by omega) (by omega))) (oR 1 rfl (zr rfl ?_))))))
       exact pl1 (k+1) (sa rfl) HSub.rfl' ⟨by omega,zfv hx1 hx2 hf (by simpa using hc3)⟩ (by omega)
   · skip
     refine zat rfl (zL (zH (zD (zn (jT rfl (oR 1 rfl (oZ rfl (zo rfl ?_))))))))
     exact zi Tryz.results94 (.cons (zt (zl rfl) (Cv.eq (congrArg (fun b=>D.v (.bool b)) (by first | exact(decide_eq_false (fun e=>by have e:=congrArg List.length e;omega)).symm | exact(decide_eq_true (zc7 (by omega) (by omega) hf)).symm)))) .nil) rfl HSub.none ⟨rfl,rfl⟩
theorem eqM_c (a b:List MatD) :
 CD Tryz.prog 95 [] [.sh 3 (a.map MatD.d),.sh 3 (b.map MatD.d)] (isR (dB (decide (a=b)))):=by
 refine zq Tryz.func95 rfl (N:=26) rfl rfl (fun C=>?_)
 refine jk [0,1] rfl ?_
 refine JD.bd 0 rfl (fun bd0=>?_)
 have nl0:=zbZ bd0
 refine JD.bd 1 rfl (fun bd1=>?_)
 have nl1:=zbZ bd1
 refine jT rfl (oR 1 rfl (oZ rfl (jS rfl (jT rfl (oR 1 rfl (oP rfl (zaB (n:=a.length) rfl Tryz.runUnderlying24 (by simp only[lm,lc,ln])) (oR 1 rfl (oP rfl (zaB (n:=b.length) rfl Tryz.runUnderlying24 (by simp only[lm,lc,ln])) (oP rfl (zbf rfl rfl rfl) (oZ rfl ?_))))))))))
 refine jD rfl (fun hc1=>?_) (fun hc1=>?_)
 · skip
   refine jT rfl (oR 1 rfl (oZ rfl (zo rfl (zj ?_))))
   exact zi Tryz.results95 (.cons (zt (zl rfl) (Cv.eq (congrArg (fun b=>D.v (.bool b)) (by first | exact(decide_eq_false (fun e=>by have e:=congrArg List.length e;omega)).symm | exact(decide_eq_true (zc7 (by omega) (by omega) hf)).symm)))) .nil) rfl HSub.none ⟨rfl,rfl⟩
 · skip
   refine zp rfl (zn (jS rfl (jT rfl (oR 1 rfl (oP rfl (zaB (n:=a.length) rfl Tryz.runUnderlying24 (by simp only[lm,lc,ln])) (oR 1 rfl (oZ rfl (jB rfl (jl1 (fun (a_:Nat)=>[(0,.sh 3 (a.map MatD.d)),(1,.sh 3 (b.map MatD.d)),(12,dN a.length),(13,dN a_)]) (fun a_=>[]) (fun a_=>(a_≤a.length)∧(a.take a_=b.take a_)) (fun a_=>a.length-a_) 0 rfl (sa rfl) HSub.rfl' ⟨Nat.zero_le _,rfl⟩ ?_)))))))))
   rintro k ⟨hk,hf⟩
   refine ja rfl (jn rfl (jT rfl (oP rfl (za2 rfl rfl rfl) (oZ rfl (jS rfl ?_)))))
   refine jD rfl (fun hc2=>?_) (fun hc2=>?_)
   · skip
     refine zp rfl (zn (jS rfl (jB rfl (jT rfl (oR 2 rfl (oZ rfl (jS rfl (jk [0,1,5,12,13,14,15] rfl (jn rfl ?_)))))))))
     obtain ⟨x1,hx1⟩:=zak a k (by omega)
     obtain ⟨x2,hx2⟩:=zak b k (by omega)
     refine za4 8 [(16,.sh 3 (a.map MatD.d),none),(17,dN k,none),(18,.el (MatD.d x1) 0,none),(19,MatD.d x1,none),(20,.sh 3 (b.map MatD.d),none),(21,dN k,none),(22,.el (MatD.d x2) 0,none),(23,MatD.d x2,none)] [] (Hn:=[]) mixed rfl rfl rfl rfl HSub.rfl' rfl ⟨sa_p rfl rfl rfl (z7 rfl),sa_p rfl rfl rfl (z7 rfl),sa_p rfl rfl rfl (zA (k:=k) rfl rfl Tryz.runUnderlying24 Tryz.sizeOf65 (by first | rfl | omega) (zap hx1)),sa_p rfl rfl rfl (zau (d:=MatD.d x1) rfl Tryz.isAgg65 Tryz.sizeOf65 rfl rfl),sa_p rfl rfl rfl (z7 rfl),sa_p rfl rfl rfl (z7 rfl),sa_p rfl rfl rfl (zA (k:=k) rfl rfl Tryz.runUnderlying24 Tryz.sizeOf65 (by first | rfl | omega) (zap hx2)),sa_p rfl rfl rfl (zau (d:=MatD.d x2) rfl Tryz.isAgg65 Tryz.sizeOf65 rfl rfl),trivial⟩ (ok [0,1,5,12,13,14,15,16,17,18,19,20,21,22,23] rfl (oP rfl (p_eqmat_neq (dx:=MatD.d x1) (dy:=MatD.d x2) (a:=x1) (b:=x2) rfl (Cv.rfl') rfl (Cv.rfl') rfl) (oZ rfl ?_)))
     refine jD rfl (fun hc3=>?_) (fun hc3=>?_)
     · skip
       refine jT rfl (oR 1 rfl (oZ rfl (zo rfl (zm (zj (zah (zm (zj ?_))))))))
       exact zi Tryz.results95 (.cons (zt (zl rfl) (Cv.eq (congrArg (fun b=>D.v (.bool b)) (by first | exact(decide_eq_false (fun e=>by have e:=congrArg List.length e;omega)).symm | exact(decide_eq_false (zfu hx1 hx2 (by simpa using hc3))).symm | exact(decide_eq_true (zc7 (by omega) (by omega) hf)).symm)))) .nil) rfl HSub.none ⟨rfl,rfl⟩
     · skip
       refine zp rfl (zE (zn (zf rfl (oP rfl (zbI (c:=((k+1:Nat):Int)) rfl rfl (zaL (by omega) (by omega))) (oR 1 rfl (zr rfl ?_))))))
       exact pl1 (k+1) (sa rfl) HSub.rfl' ⟨by omega,zfv hx1 hx2 hf (by simpa using hc3)⟩ (by omega)
   · skip
     refine zat rfl (zL (zH (zD (zn (jT rfl (oR 1 rfl (oZ rfl (zo rfl ?_))))))))
     exact zi Tryz.results95 (.cons (zt (zl rfl) (Cv.eq (congrArg (fun b=>D.v (.bool b)) (by first | exact(decide_eq_false (fun e=>by have e:=congrArg List.length e;omega)).symm | exact(decide_eq_true (zc7 (by omega) (by omega) hf)).symm)))) .nil) rfl HSub.none ⟨rfl,rfl⟩
theorem eqF_s (xg yg:List Nd) (ih:∀ x∈xg,∀ y:Nd,CD Tryz.prog 31 [] [Nd.d x,Nd.d y] (isR (dB (x.eqB y)))):
 CD Tryz.prog 96 [] [.sh 7 (xg.map Nd.d),.sh 7 (yg.map Nd.d),.fn 31 [] []] (isR (dB (zdT xg yg))):=by
 refine zq Tryz.func96 rfl (N:=32) rfl rfl (fun C=>?_)
 refine jk [0,1,2] rfl ?_
 refine JD.bd 0 rfl (fun bd0=>?_)
 have nl0:=zbZ bd0
 refine JD.bd 1 rfl (fun bd1=>?_)
 have nl1:=zbZ bd1
 refine jT rfl (oR 1 rfl (oZ rfl (jS rfl (jT rfl (oR 1 rfl (oP rfl (zaB (n:=xg.length) rfl Tryz.runUnderlying25 (by simp only[lm,lc,ln])) (oR 1 rfl (oP rfl (zaB (n:=yg.length) rfl Tryz.runUnderlying25 (by simp only[lm,lc,ln])) (oP rfl (zbf rfl rfl rfl) (oZ rfl ?_))))))))))
 refine jD rfl (fun hc1=>?_) (fun hc1=>?_)
 · skip
   refine jT rfl (oR 1 rfl (oZ rfl (zo rfl (zj ?_))))
   exact zi Tryz.results96 (.cons (zt (zl rfl) (Cv.eq (congrArg (fun b=>D.v (.bool b)) (by first | exact listB_f (fun e=>by have e:=congrArg List.length e;omega) | exact listB_t (zc7 (by omega) (by omega) hf))))) .nil) rfl HSub.none ⟨rfl,rfl⟩
 · skip
   refine zp rfl (zn (jS rfl (jT rfl (oR 1 rfl (oP rfl (zaB (n:=xg.length) rfl Tryz.runUnderlying25 (by simp only[lm,lc,ln])) (oR 1 rfl (oZ rfl (jB rfl (jl1 (fun (a_:Nat)=>[(1,.sh 7 (yg.map Nd.d)),(2,.fn 31 [] []),(15,.sh 7 (xg.map Nd.d)),(16,dN xg.length),(17,dN a_)]) (fun a_=>[]) (fun a_=>(a_≤xg.length)∧(xg.take a_=yg.take a_)) (fun a_=>xg.length-a_) 0 rfl (sa rfl) HSub.rfl' ⟨Nat.zero_le _,rfl⟩ ?_)))))))))
   rintro k ⟨hk,hf⟩
   refine ja rfl (jn rfl (jT rfl (oP rfl (za2 rfl rfl rfl) (oZ rfl (jS rfl ?_)))))
   refine jD rfl (fun hc2=>?_) (fun hc2=>?_)
   · skip
     refine zp rfl (zn (jS rfl (jB rfl (jT rfl (oR 1 rfl ?_)))))
     obtain ⟨x1,hx1⟩:=zak xg k (by omega)
     obtain ⟨kax1,kbx1,kcx1,kdx1,kex1,kfx1,kgx1⟩:=x1
     refine oP rfl (zA (k:=k) rfl rfl Tryz.runUnderlying25 Tryz.sizeOf27 (by first | rfl | omega) (zap hx1)) (oP rfl (zau (d:=.agg [.s kax1,.s kbx1,dI kcx1,dI kdx1,.sh 1 (kex1.map D.s),.sh 3 (kfx1.map MatD.d),.sh 7 (Nd.ds kgx1)]) rfl Tryz.isAgg27 Tryz.sizeOf27 rfl rfl) (oE rfl (zw (zv:=(.agg #[(.string ByteArray.empty),(.string ByteArray.empty),(.int .i64 0),(.int .i64 0),(.slice none 0 0),(.slice none 0 0),(.slice none 0 0)])) Tryz.zeroValue27 ⟨rfl,rfl,rfl,rfl,rfl,rfl,rfl,trivial⟩ (Cv.vagg (by decide))) ?_))
     rintro _ _ ⟨g3,rfl,rfl⟩
     refine oR 1 rfl (oE rfl (zg (i:=0) (X':=.agg [.s kax1,.s kbx1,dI kcx1,dI kdx1,.sh 1 (kex1.map D.s),.sh 3 (kfx1.map MatD.d),.sh 7 (Nd.ds kgx1)]) rfl rfl rfl (CellD.agg) Tryz.sizeOf27 rfl rfl rfl) ?_)
     rintro _ _ ⟨rfl,rfl⟩
     refine on rfl (oZ rfl (jT rfl (oR 2 rfl ?_)))
     obtain ⟨x2,hx2⟩:=zak yg k (by omega)
     obtain ⟨kax2,kbx2,kcx2,kdx2,kex2,kfx2,kgx2⟩:=x2
     refine oP rfl (zA (k:=k) rfl rfl Tryz.runUnderlying25 Tryz.sizeOf27 (by first | rfl | omega) (zap hx2)) (oP rfl (zau (d:=.agg [.s kax2,.s kbx2,dI kcx2,dI kdx2,.sh 1 (kex2.map D.s),.sh 3 (kfx2.map MatD.d),.sh 7 (Nd.ds kgx2)]) rfl Tryz.isAgg27 Tryz.sizeOf27 rfl rfl) (oE rfl (zw (zv:=(.agg #[(.string ByteArray.empty),(.string ByteArray.empty),(.int .i64 0),(.int .i64 0),(.slice none 0 0),(.slice none 0 0),(.slice none 0 0)])) Tryz.zeroValue27 ⟨rfl,rfl,rfl,rfl,rfl,rfl,rfl,trivial⟩ (Cv.vagg (by decide))) ?_))
     rintro _ _ ⟨g4,rfl,rfl⟩
     refine oE rfl (zg (i:=0) (X':=.agg [.s kax2,.s kbx2,dI kcx2,dI kdx2,.sh 1 (kex2.map D.s),.sh 3 (kfx2.map MatD.d),.sh 7 (Nd.ds kgx2)]) rfl rfl rfl (CellD.agg) Tryz.sizeOf27 rfl rfl rfl) ?_
     rintro _ _ ⟨rfl,rfl⟩
     refine on rfl (oZ rfl (jT rfl (oR 1 rfl (oP rfl (zx (d:=.agg [.s kax1,.s kbx1,dI kcx1,dI kdx1,.sh 1 (kex1.map D.s),.sh 3 (kfx1.map MatD.d),.sh 7 (Nd.ds kgx1)]) rfl (i:=1) rfl Tryz.isAgg27 Tryz.sizeOf27 rfl rfl) (oP rfl (zx (d:=.agg [.s kax2,.s kbx2,dI kcx2,dI kdx2,.sh 1 (kex2.map D.s),.sh 3 (kfx2.map MatD.d),.sh 7 (Nd.ds kgx2)]) rfl (i:=0) rfl Tryz.isAgg27 Tryz.sizeOf27 rfl rfl) (oE rfl (ef_callv [] [.bx g4 27 (.agg [.s kax2,.s kbx2,dI kcx2,dI kdx2,.sh 1 (kex2.map D.s),.sh 3 (kfx2.map MatD.d),.sh 7 (Nd.ds kgx2)]),.bx g3 27 (.agg [.s kax1,.s kbx1,dI kcx1,dI kdx1,.sh 1 (kex1.map D.s),.sh 3 (kfx1.map MatD.d),.sh 7 (Nd.ds kgx1)])] [] rfl rfl rfl (.cons ArgC.id (.cons ArgC.id .nil)) zh Tryz.call31 (ih (Nd.mk kax1 kbx1 kcx1 kdx1 kex1 kfx1 kgx1) (List.mem_of_getElem? hx1) (Nd.mk kax2 kbx2 kcx2 kdx2 kex2 kfx2 kgx2)) (.inl rfl)) ?_))))))
     rintro _ _ ⟨_,⟨rfl,rfl⟩,rfl⟩
     refine on rfl (oP rfl (zbE rfl) (oZ rfl ?_))
     refine jC rfl (fun hc5=>?_) (fun hc5=>?_)
     · simp only[bA,bB,bC,bD,bE,bF,bG,bH,bI,bJ] at hc5
       refine jT rfl (oR 1 rfl (oZ rfl (zo rfl (zm (zj (zah (zm (zj ?_))))))))
       exact zi Tryz.results96 (.cons (zt (zl rfl) (Cv.eq (congrArg (fun b=>D.v (.bool b)) (by first | exact listB_f (fun e=>by have e:=congrArg List.length e;omega) | exact listB_f (zfu hx1 hx2 (eqB_no.1 (by simpa using hc5))) | exact listB_t (zc7 (by omega) (by omega) hf))))) .nil) rfl HSub.none ⟨rfl,rfl⟩
     · simp only[bA,bB,bC,bD,bE,bF,bG,bH,bI,bJ] at hc5
       refine zp rfl (zE (zn (zf rfl (oP rfl (zbI (c:=((k+1:Nat):Int)) rfl rfl (zaL (by omega) (by omega))) (oR 1 rfl (zr rfl ?_))))))
       exact pl1 (k+1) (sa rfl) HSub.none ⟨by omega,zfv hx1 hx2 hf (eqB_is.1 (by simpa using hc5))⟩ (by omega)
   · skip
     refine zat rfl (zL (zH (zD (zn (jT rfl (oR 1 rfl (oZ rfl (zo rfl ?_))))))))
     exact zi Tryz.results96 (.cons (zt (zl rfl) (Cv.eq (congrArg (fun b=>D.v (.bool b)) (by first | exact listB_f (fun e=>by have e:=congrArg List.length e;omega) | exact listB_t (zc7 (by omega) (by omega) hf))))) .nil) rfl HSub.none ⟨rfl,rfl⟩
theorem pSame_s (xa xb:ByteArray) (xc xd:Int) (xe:List ByteArray) (xf:List MatD) (xg:List Nd) (ya yb:ByteArray) (yc yd:Int) (ye:List ByteArray) (yf:List MatD) (yg:List Nd) (ih:∀ x∈xg,∀ y:Nd,CD Tryz.prog 31 [] [Nd.d x,Nd.d y] (isR (dB (x.eqB y)))):
 CD Tryz.prog 31 [] [.agg [.s xa,.s xb,dI xc,dI xd,.sh 1 (xe.map D.s),.sh 3 (xf.map MatD.d),.sh 7 (xg.map Nd.d)],.agg [.s ya,.s yb,dI yc,dI yd,.sh 1 (ye.map D.s),.sh 3 (yf.map MatD.d),.sh 7 (yg.map Nd.d)]] (isR (dB ((Nd.mk xa xb xc xd xe xf xg).eqB (Nd.mk ya yb yc yd ye yf yg)))):=by
 refine zq Tryz.func31 rfl (N:=52) rfl rfl (fun C=>?_)
 refine jk [0,1] rfl ?_
 refine JD.bd 0 rfl (fun bd0=>?_)
 refine JD.bd 1 rfl (fun bd1=>?_)
 refine jT rfl (oE rfl (zaD rfl (CellD.agg)) ?_)
 rintro _ _ ⟨g1,rfl,rfl⟩
 refine oE rfl (zaD rfl (CellD.agg)) ?_
 rintro _ _ ⟨g2,rfl,rfl⟩
 refine oR 1 rfl (oZ rfl (jS rfl (jk [2,3] rfl ?_)))
 refine zac 4 (((((((decide (xa=ya)&&decide (xb=yb))&&decide (xc=yc))&&decide (xd=yd))&&decide (xe=ye))&&decide (xf=yf))&&(zdT xg yg))) [.bx g2 27 (.agg [.s ya,.s yb,dI yc,dI yd,.sh 1 (ye.map D.s),.sh 3 (yf.map MatD.d),.sh 7 (yg.map Nd.d)]),.bx g1 27 (.agg [.s xa,.s xb,dI xc,dI xd,.sh 1 (xe.map D.s),.sh 3 (xf.map MatD.d),.sh 7 (xg.map Nd.d)])] (fun _ hQ3=>?_) ?_
 · skip
   by_cases hg4:xa=ya
   · skip
     by_cases hg5:xb=yb
     · skip
       by_cases hg6:xc=yc
       · skip
         by_cases hg7:xd=yd
         · skip
           rcases Bool.eq_false_or_eq_true (decide (xe=ye)) with hg8 | hg8
           · skip
             rcases Bool.eq_false_or_eq_true (decide (xf=yf)) with hg9 | hg9
             · skip
               refine zf rfl (oP rfl (zc rfl zT rfl) (oP rfl (ze rfl (i:=1) rfl Tryz.isAgg9 rfl) (oP rfl (zc rfl zT rfl) (oP rfl (ze rfl (i:=0) rfl Tryz.isAgg9 rfl) (oP rfl (zal rfl rfl (decide_eq_true hg4)) (oR 1 rfl (oG rfl (zc rfl zad rfl) (oG rfl (ze rfl (i:=1) rfl Tryz.isAgg9 rfl) (oG rfl (zc rfl zad rfl) (oG rfl (ze rfl (i:=0) rfl Tryz.isAgg9 rfl) (oG rfl (zal rfl rfl (decide_eq_true hg5)) (oR 2 rfl (oG rfl (zc rfl zaq rfl) (oG rfl (ze rfl (i:=1) rfl Tryz.isAgg3 rfl) (oG rfl (zc rfl zaq rfl) (oG rfl (ze rfl (i:=0) rfl Tryz.isAgg3 rfl) (oG rfl (zK rfl rfl (decide_eq_true hg6)) (oR 2 rfl (oG rfl (zc rfl zaY rfl) (oG rfl (ze rfl (i:=1) rfl Tryz.isAgg3 rfl) (oG rfl (zc rfl zaY rfl) (oG rfl (ze rfl (i:=0) rfl Tryz.isAgg3 rfl) (oG rfl (zK rfl rfl (decide_eq_true hg7)) (oR 2 rfl (oG rfl (zc rfl zbb rfl) (oG rfl (ze rfl (i:=1) rfl Tryz.isAgg23 rfl) (oG rfl (zc rfl zbb rfl) (oG rfl (ze rfl (i:=0) rfl Tryz.isAgg23 rfl) (oV rfl rfl acs Tryz.call94 (eqT_c xe ye) (os 36 rfl (congrArg (fun b=>D.v (.bool b)) hg8) (oR 2 rfl (oG rfl (zc rfl zbx rfl) (oG rfl (ze rfl (i:=1) rfl Tryz.isAgg24 rfl) (oG rfl (zc rfl zbx rfl) (oG rfl (ze rfl (i:=0) rfl Tryz.isAgg24 rfl) ?_)))))))))))))))))))))))))))))))))))
               refine oV rfl rfl acs Tryz.call95 (eqM_c xf yf) (os 43 rfl (congrArg (fun b=>D.v (.bool b)) hg9) (oR 2 rfl (oG rfl (zc rfl zaI rfl) (oG rfl (ze rfl (i:=1) rfl Tryz.isAgg25 rfl) (oG rfl (zc rfl zaI rfl) (oG rfl (ze rfl (i:=0) rfl Tryz.isAgg25 rfl) (oF rfl (zk [] [.bx g2 27 (.agg [.s ya,.s yb,dI yc,dI yd,.sh 1 (ye.map D.s),.sh 3 (yf.map MatD.d),.sh 7 (yg.map Nd.d)]),.bx g1 27 (.agg [.s xa,.s xb,dI xc,dI xd,.sh 1 (xe.map D.s),.sh 3 (xf.map MatD.d),.sh 7 (xg.map Nd.d)])] [] rfl rfl (.cons ArgC.id (.cons ArgC.id (.cons ArgC.id .nil))) zh Tryz.call96 (eqF_s xg yg ih) (.inl rfl)) ?_)))))))
               rintro _ _ ⟨_,⟨rfl,rfl⟩,rfl⟩
               refine on rfl (oR 2 rfl (zr rfl ?_))
               exact PD.sub ((4,dB ((((((decide (xa=ya)&&decide (xb=yb))&&decide (xc=yc))&&decide (xd=yd))&&decide (xe=ye))&&decide (xf=yf))&&(zdT xg yg)))::[(2,dP g1 0),(3,dP g2 0)]) ⟨sc rfl (Cv.eq (congrArg (fun b=>D.v (.bool b)) (by first | (simp[hg4,hg5,hg6,hg7,hg8,hg9];done) | (simp_all;done)))),sk rfl,sk rfl,trivial⟩ hQ3
             · skip
               refine zf rfl (oP rfl (zc rfl zT rfl) (oP rfl (ze rfl (i:=1) rfl Tryz.isAgg9 rfl) (oP rfl (zc rfl zT rfl) (oP rfl (ze rfl (i:=0) rfl Tryz.isAgg9 rfl) (oP rfl (zal rfl rfl (decide_eq_true hg4)) (oR 1 rfl (oG rfl (zc rfl zad rfl) (oG rfl (ze rfl (i:=1) rfl Tryz.isAgg9 rfl) (oG rfl (zc rfl zad rfl) (oG rfl (ze rfl (i:=0) rfl Tryz.isAgg9 rfl) (oG rfl (zal rfl rfl (decide_eq_true hg5)) (oR 2 rfl (oG rfl (zc rfl zaq rfl) (oG rfl (ze rfl (i:=1) rfl Tryz.isAgg3 rfl) (oG rfl (zc rfl zaq rfl) (oG rfl (ze rfl (i:=0) rfl Tryz.isAgg3 rfl) (oG rfl (zK rfl rfl (decide_eq_true hg6)) (oR 2 rfl (oG rfl (zc rfl zaY rfl) (oG rfl (ze rfl (i:=1) rfl Tryz.isAgg3 rfl) (oG rfl (zc rfl zaY rfl) (oG rfl (ze rfl (i:=0) rfl Tryz.isAgg3 rfl) (oG rfl (zK rfl rfl (decide_eq_true hg7)) (oR 2 rfl (oG rfl (zc rfl zbb rfl) (oG rfl (ze rfl (i:=1) rfl Tryz.isAgg23 rfl) (oG rfl (zc rfl zbb rfl) (oG rfl (ze rfl (i:=0) rfl Tryz.isAgg23 rfl) (oV rfl rfl acs Tryz.call94 (eqT_c xe ye) (os 36 rfl (congrArg (fun b=>D.v (.bool b)) hg8) (oR 2 rfl (oG rfl (zc rfl zbx rfl) (oG rfl (ze rfl (i:=1) rfl Tryz.isAgg24 rfl) (oG rfl (zc rfl zbx rfl) (oG rfl (ze rfl (i:=0) rfl Tryz.isAgg24 rfl) ?_)))))))))))))))))))))))))))))))))))
               refine oV rfl rfl acs Tryz.call95 (eqM_c xf yf) (os 43 rfl (congrArg (fun b=>D.v (.bool b)) hg9) (oR 9 rfl (zr rfl ?_)))
               exact PD.sub ((4,dB ((((((decide (xa=ya)&&decide (xb=yb))&&decide (xc=yc))&&decide (xd=yd))&&decide (xe=ye))&&decide (xf=yf))&&(zdT xg yg)))::[(2,dP g1 0),(3,dP g2 0)]) ⟨sc rfl (Cv.eq (congrArg (fun b=>D.v (.bool b)) (by first | (simp[hg4,hg5,hg6,hg7,hg8,hg9];done) | (simp_all;done)))),sk rfl,sk rfl,trivial⟩ hQ3
           · skip
             refine zf rfl (oP rfl (zc rfl zT rfl) (oP rfl (ze rfl (i:=1) rfl Tryz.isAgg9 rfl) (oP rfl (zc rfl zT rfl) (oP rfl (ze rfl (i:=0) rfl Tryz.isAgg9 rfl) (oP rfl (zal rfl rfl (decide_eq_true hg4)) (oR 1 rfl (oG rfl (zc rfl zad rfl) (oG rfl (ze rfl (i:=1) rfl Tryz.isAgg9 rfl) (oG rfl (zc rfl zad rfl) (oG rfl (ze rfl (i:=0) rfl Tryz.isAgg9 rfl) (oG rfl (zal rfl rfl (decide_eq_true hg5)) (oR 2 rfl (oG rfl (zc rfl zaq rfl) (oG rfl (ze rfl (i:=1) rfl Tryz.isAgg3 rfl) (oG rfl (zc rfl zaq rfl) (oG rfl (ze rfl (i:=0) rfl Tryz.isAgg3 rfl) (oG rfl (zK rfl rfl (decide_eq_true hg6)) (oR 2 rfl (oG rfl (zc rfl zaY rfl) (oG rfl (ze rfl (i:=1) rfl Tryz.isAgg3 rfl) (oG rfl (zc rfl zaY rfl) (oG rfl (ze rfl (i:=0) rfl Tryz.isAgg3 rfl) (oG rfl (zK rfl rfl (decide_eq_true hg7)) (oR 2 rfl (oG rfl (zc rfl zbb rfl) (oG rfl (ze rfl (i:=1) rfl Tryz.isAgg23 rfl) (oG rfl (zc rfl zbb rfl) (oG rfl (ze rfl (i:=0) rfl Tryz.isAgg23 rfl) (oV rfl rfl acs Tryz.call94 (eqT_c xe ye) (os 36 rfl (congrArg (fun b=>D.v (.bool b)) hg8) (oR 16 rfl (zr rfl ?_))))))))))))))))))))))))))))))))
             exact PD.sub ((4,dB ((((((decide (xa=ya)&&decide (xb=yb))&&decide (xc=yc))&&decide (xd=yd))&&decide (xe=ye))&&decide (xf=yf))&&(zdT xg yg)))::[(2,dP g1 0),(3,dP g2 0)]) ⟨sc rfl (Cv.eq (congrArg (fun b=>D.v (.bool b)) (by first | (simp[hg4,hg5,hg6,hg7,hg8];done) | (simp_all;done)))),sk rfl,sk rfl,trivial⟩ hQ3
         · skip
           refine zf rfl (oP rfl (zc rfl zT rfl) (oP rfl (ze rfl (i:=1) rfl Tryz.isAgg9 rfl) (oP rfl (zc rfl zT rfl) (oP rfl (ze rfl (i:=0) rfl Tryz.isAgg9 rfl) (oP rfl (zal rfl rfl (decide_eq_true hg4)) (oR 1 rfl (oG rfl (zc rfl zad rfl) (oG rfl (ze rfl (i:=1) rfl Tryz.isAgg9 rfl) (oG rfl (zc rfl zad rfl) (oG rfl (ze rfl (i:=0) rfl Tryz.isAgg9 rfl) (oG rfl (zal rfl rfl (decide_eq_true hg5)) (oR 2 rfl (oG rfl (zc rfl zaq rfl) (oG rfl (ze rfl (i:=1) rfl Tryz.isAgg3 rfl) (oG rfl (zc rfl zaq rfl) (oG rfl (ze rfl (i:=0) rfl Tryz.isAgg3 rfl) (oG rfl (zK rfl rfl (decide_eq_true hg6)) (oR 2 rfl (oG rfl (zc rfl zaY rfl) (oG rfl (ze rfl (i:=1) rfl Tryz.isAgg3 rfl) (oG rfl (zc rfl zaY rfl) (oG rfl (ze rfl (i:=0) rfl Tryz.isAgg3 rfl) (oG rfl (zK rfl rfl (decide_eq_false hg7)) (oR 23 rfl (zr rfl ?_)))))))))))))))))))))))))
           exact PD.sub ((4,dB ((((((decide (xa=ya)&&decide (xb=yb))&&decide (xc=yc))&&decide (xd=yd))&&decide (xe=ye))&&decide (xf=yf))&&(zdT xg yg)))::[(2,dP g1 0),(3,dP g2 0)]) ⟨sc rfl (Cv.eq (congrArg (fun b=>D.v (.bool b)) (by first | (simp[hg4,hg5,hg6,hg7];done) | (simp_all;done)))),sk rfl,sk rfl,trivial⟩ hQ3
       · skip
         refine zf rfl (oP rfl (zc rfl zT rfl) (oP rfl (ze rfl (i:=1) rfl Tryz.isAgg9 rfl) (oP rfl (zc rfl zT rfl) (oP rfl (ze rfl (i:=0) rfl Tryz.isAgg9 rfl) (oP rfl (zal rfl rfl (decide_eq_true hg4)) (oR 1 rfl (oG rfl (zc rfl zad rfl) (oG rfl (ze rfl (i:=1) rfl Tryz.isAgg9 rfl) (oG rfl (zc rfl zad rfl) (oG rfl (ze rfl (i:=0) rfl Tryz.isAgg9 rfl) (oG rfl (zal rfl rfl (decide_eq_true hg5)) (oR 2 rfl (oG rfl (zc rfl zaq rfl) (oG rfl (ze rfl (i:=1) rfl Tryz.isAgg3 rfl) (oG rfl (zc rfl zaq rfl) (oG rfl (ze rfl (i:=0) rfl Tryz.isAgg3 rfl) (oG rfl (zK rfl rfl (decide_eq_false hg6)) (oR 30 rfl (zr rfl ?_)))))))))))))))))))
         exact PD.sub ((4,dB ((((((decide (xa=ya)&&decide (xb=yb))&&decide (xc=yc))&&decide (xd=yd))&&decide (xe=ye))&&decide (xf=yf))&&(zdT xg yg)))::[(2,dP g1 0),(3,dP g2 0)]) ⟨sc rfl (Cv.eq (congrArg (fun b=>D.v (.bool b)) (by first | (simp[hg4,hg5,hg6];done) | (simp_all;done)))),sk rfl,sk rfl,trivial⟩ hQ3
     · skip
       refine zf rfl (oP rfl (zc rfl zT rfl) (oP rfl (ze rfl (i:=1) rfl Tryz.isAgg9 rfl) (oP rfl (zc rfl zT rfl) (oP rfl (ze rfl (i:=0) rfl Tryz.isAgg9 rfl) (oP rfl (zal rfl rfl (decide_eq_true hg4)) (oR 1 rfl (oG rfl (zc rfl zad rfl) (oG rfl (ze rfl (i:=1) rfl Tryz.isAgg9 rfl) (oG rfl (zc rfl zad rfl) (oG rfl (ze rfl (i:=0) rfl Tryz.isAgg9 rfl) (oG rfl (zal rfl rfl (decide_eq_false hg5)) (oR 37 rfl (zr rfl ?_)))))))))))))
       exact PD.sub ((4,dB ((((((decide (xa=ya)&&decide (xb=yb))&&decide (xc=yc))&&decide (xd=yd))&&decide (xe=ye))&&decide (xf=yf))&&(zdT xg yg)))::[(2,dP g1 0),(3,dP g2 0)]) ⟨sc rfl (Cv.eq (congrArg (fun b=>D.v (.bool b)) (by first | (simp[hg4,hg5];done) | (simp_all;done)))),sk rfl,sk rfl,trivial⟩ hQ3
   · skip
     refine zf rfl (oP rfl (zc rfl zT rfl) (oP rfl (ze rfl (i:=1) rfl Tryz.isAgg9 rfl) (oP rfl (zc rfl zT rfl) (oP rfl (ze rfl (i:=0) rfl Tryz.isAgg9 rfl) (oP rfl (zal rfl rfl (decide_eq_false hg4)) (oR 43 rfl (zr rfl ?_)))))))
     exact PD.sub ((4,dB ((((((decide (xa=ya)&&decide (xb=yb))&&decide (xc=yc))&&decide (xd=yd))&&decide (xe=ye))&&decide (xf=yf))&&(zdT xg yg)))::[(2,dP g1 0),(3,dP g2 0)]) ⟨sc rfl (Cv.eq (congrArg (fun b=>D.v (.bool b)) (by first | (simp[hg4];done) | (simp_all;done)))),sk rfl,sk rfl,trivial⟩ hQ3
 · skip
   refine zn (zo rfl ?_)
   exact zi Tryz.results31 (.cons (zt (zl rfl) (Cv.eq (congrArg (fun b=>D.v (.bool b)) (by exact eqB_and)))) .nil) rfl HSub.none ⟨rfl,rfl⟩
theorem pSame_c:∀ a b:Nd,CD Tryz.prog 31 [] [Nd.d a,Nd.d b] (isR (dB (a.eqB b))):=Nd.ind (fun op text n mode names ms kids ih b=>by
 obtain ⟨ya,yb,yc,yd,ye,yf,yg⟩:=b
 rw[Nd.d_mk,Nd.d_mk]
 exact pSame_s op text n mode names ms kids ya yb yc yd ye yf yg (fun x hx y=>ih x hx y))
end Lp
set_option linter.unusedVariables false
namespace Lp
open Go
def zd7 (m:Nat) (p:Rd→Nd×Rd):Prop:=∀ s:Rd,s.l.length≤m→TOk s.l→(p s).2.b=false→Wf (p s).1
theorem mode_names (s:Rd) (a b:ByteArray):(s.mode a b).1=0∧(s.mode a b).2.1=[]∨(s.mode a b).1=1∨(s.mode a b).1=2:=by
 unfold Rd.mode;split
 · exact .inl ⟨rfl,rfl⟩
 · split
   · exact .inr (.inl rfl)
   · exact .inr (.inr rfl)
theorem zeQ {s:Rd} {k:Int} (hk:k=2∨k=4) (hT:TOk s.l):∃ n:Nat,(s.number k).1=(n:Int)∧n≤1000000000000:=by
 have h:=zdQ (s:=s) (s':=(s.number k).2) (k:=k) (v:=(s.number k).1) rfl hk hT
 exact⟨(s.number k).1.toNat,by omega,by omega⟩
theorem good_levelF {part:Rd→Nd×Rd} {ts:List ByteArray} (hb:Bad part) (hs:∀ s,Stp 1 s (part s).2) {m:Nat} (hp:zd7 m part):∀ (F:Nat) (o:Nd) (s:Rd),s.l.length≤m→TOk s.l→Wf o→(zaP part ts F o s).2.b=false→Wf (zaP part ts F o s).1
 | 0,o,s,_,_,h,_=>h
 | F+1,o,s,hm,hT,h,e=>by
  unfold zaP at e ⊢
  split
  · exact h
  · rename_i hc
    rw[if_neg hc] at e
    simp only at e ⊢
    have t1:TOk (s.take 5 ts).2.2.l:=hT.suf (zG s 5 ts).l
    have t2:TOk ((s.take 5 ts).2.2.mode tOn zM).2.2.l:=t1.suf (za3 _ _ _).l
    have ep:(part ((s.take 5 ts).2.2.mode tOn zM).2.2).2.b=false:=zR zbD (zR (fun q=>zcx q) e)
    have k1:=(zG s 5 ts).len
    have k2:=(za3 (s.take 5 ts).2.2 tOn zM).len
    have k3:=(hs ((s.take 5 ts).2.2.mode tOn zM).2.2).len
    have w:=hp _ (by omega) t2 ep
    refine good_levelF hb hs hp F _ _ (by show (part _).2.l.length≤m;omega) ?_ (.bin (mode_names _ _ _ |>.imp (fun x=>x) (fun x=>x)) h w) e
    exact t2.suf (hs _).l
theorem good_level {part:Rd→Nd×Rd} {ts:List ByteArray} (hb:Bad part) (hs:∀ s,Stp 1 s (part s).2) {m:Nat} (hp:zd7 m part):zd7 m (fun s=>s.level part ts):=fun s hm hT e=>by
 have ep:(part s).2.b=false:=zR (fun q=>zcx q) e
 have k3:=(hs s).len
 exact good_levelF hb hs hp _ _ _ (by omega) (hT.suf (hs s).l) (hp s hm hT ep) e
section
variable (rm:List MatD→Bool)
theorem opM_4 {s:Rd} (h:(s.take 5 [tEq,tNe,zai,zJ]).2.1=true):1≤opM (s.take 5 [tEq,tNe,zai,zJ]).1∧opM (s.take 5 [tEq,tNe,zai,zJ]).1≤4:=by
 have hg:=za5 (by decide) h
 have hi:=hg.2.2.2.2
 have e1:(s.take 5 [tEq,tNe,zai,zJ]).1=s.pk.t:=by unfold Rd.take;rw[if_neg (by rw[hg.2.2.1,hi];simp)]
 rw[e1]
 have hh:hasN [tEq,tNe,zai,zJ] s.pk.t=true:=by unfold Rd.is at hi;exact(Bool.and_eq_true _ _ ▸ hi).2
 unfold opM
 by_cases a1:s.pk.t=tEq
 · rw[if_pos a1];decide
 · by_cases a2:s.pk.t=tNe
   · rw[if_neg a1,if_pos a2];decide
   · by_cases a3:s.pk.t=zai
     · rw[if_neg a1,if_neg a2,if_pos a3];decide
     · by_cases a4:s.pk.t=zJ
       · rw[if_neg a1,if_neg a2,if_neg a3,if_pos a4];decide
       · exfalso
         unfold hasN at hh
         simp only[List.any_cons,List.any_nil,Bool.or_eq_true,decide_eq_true_eq,Bool.or_false] at hh
         rcases hh with hh | hh | hh | hh
         · exact a1 hh.symm
         · exact a2 hh.symm
         · exact a3 hh.symm
         · exact a4 hh.symm
theorem good_bracesF:∀ (F:Nat) (o:List MatD) (s:Rd),(∀ m∈o,1≤m.op∧m.op≤4)→(zaa F o s).2.b=false→∀ m∈(zaa F o s).1,1≤m.op∧m.op≤4
 | 0,o,s,h,_=>h
 | F+1,o,s,h,e=>by
  unfold zaa at e ⊢
  split
  · exact h
  · rename_i hb
    rw[if_neg hb] at e
    simp only at e ⊢
    have hv:(Rd.any ⟨((s.any 1).2.take 5 [tEq,tNe,zai,zJ]).2.2.l,((s.any 1).2.take 5 [tEq,tNe,zai,zJ]).2.2.n,((s.any 1).2.take 5 [tEq,tNe,zai,zJ]).2.2.b||!((s.any 1).2.take 5 [tEq,tNe,zai,zJ]).2.1⟩ 3).2.b=false:=by
     split at e
     · rename_i hq;exact(za5 (by decide) hq).2.2.1
     · rw[zea] at e;exact e
    have hc:(((s.any 1).2.take 5 [tEq,tNe,zai,zJ]).2.2.b||!((s.any 1).2.take 5 [tEq,tNe,zai,zJ]).2.1)=false:=zR (fun q=>zeo (s:=⟨_,_,_⟩) q) hv
    have hop:=opM_4 (by have:=(Bool.or_eq_false_iff.1 hc).2;simpa using this)
    have hn:∀ m∈o++[(⟨(s.any 1).1,opM ((s.any 1).2.take 5 [tEq,tNe,zai,zJ]).1,(Rd.any ⟨((s.any 1).2.take 5 [tEq,tNe,zai,zJ]).2.2.l,((s.any 1).2.take 5 [tEq,tNe,zai,zJ]).2.2.n,((s.any 1).2.take 5 [tEq,tNe,zai,zJ]).2.2.b||!((s.any 1).2.take 5 [tEq,tNe,zai,zJ]).2.1⟩ 3).1⟩:MatD)],1≤m.op∧m.op≤4:=fun m hm=>by
     rcases List.mem_append.1 hm with hm | hm
     · exact h m hm
     · rw[List.mem_singleton.1 hm];exact hop
    split
    · rename_i hq
      rw[if_pos hq] at e
      exact good_bracesF F _ _ hn e
    · exact hn
theorem good_sel:∀ s:Rd,TOk s.l→(s.selector rm).2.b=false→Wf (s.selector rm).1:=fun s hT e=>by
 unfold Rd.selector at e ⊢
 simp only at e ⊢
 have e3:=zR zbD e
 have e2:=zR selWin_b e3
 have t1:TOk s.selName.2.l:=by
  unfold Rd.selName;split
  · exact hT.suf (zaK s 1).l
  · exact hT
 have t2:TOk (s.selName.2.selMs rm s.selName.1).2.l:=by
  unfold Rd.selMs;split
  · exact t1.suf (zcQ rm _).l
  · exact t1
 have hw:∃ n:Nat,(s.selName.2.selMs rm s.selName.1).2.selWin.1=(n:Int)∧n≤1000000000000:=by
  unfold Rd.selWin;split
  · exact zeQ (.inr rfl) (t2.suf (zG _ 5 _).l)
  · exact⟨0,rfl,by decide⟩
 obtain ⟨n,h1,h2⟩:=hw
 have hm:∀ m∈(s.selName.2.selMs rm s.selName.1).1,1≤m.op∧m.op≤4:=by
  unfold Rd.selMs at e2 ⊢
  split
  · rename_i hc
    rw[if_pos hc] at e2
    unfold Rd.braces at e2 ⊢
    split
    · exact fun m hm=>by cases hm
    · rename_i hd
      rw[if_neg hd] at e2
      have e2:(((zaa _ [] (s.selName.2.must zQ)).2.must zP).b||_)=false:=e2
      exact good_bracesF _ _ _ (fun m hm=>by cases hm) (zR zaM (Bool.or_eq_false_iff.1 e2).1)
  · exact fun m hm=>by cases hm
 rw[h1]
 exact .sel h2 hm
theorem good_aggr {ex:Rd→Nd×Rd} (hb:Bad ex) {m:Nat} (hx:∀ a,a<m→zd7 a ex):∀ s:Rd,s.l.length≤m→TOk s.l→(s.aggr ex).2.b=false→Wf (s.aggr ex).1:=fun s hl hT e=>by
 unfold Rd.aggr at e ⊢
 simp only at e ⊢
 have e6:=zR zaM (zR zbD e)
 have e5:=hb.no e6
 have e3:((s.any 1).2.mode tBy zF |>.2.2.must zC).b=false:=by
  by_cases hn:zaj (s.any 1).1=true
  · rw[if_pos hn,if_pos hn] at e5;exact zR zeo (zR zaM e5)
  · rw[if_neg hn,if_neg hn] at e5;exact e5
 have e1:(s.any 1).2.b=false:=zR mode_b (zR zaM e3)
 have l1:=zcW (s:=s) (by decide) e1
 have l2:=(za3 (s.any 1).2 tBy zF).len
 have l3:=(zB ((s.any 1).2.mode tBy zF).2.2 zC).len
 have l4:=(zaU (((s.any 1).2.mode tBy zF).2.2.must zC) 2).len
 have l5:=(zB ((((s.any 1).2.mode tBy zF).2.2.must zC).number 2).2 zU).len
 have t1:TOk (s.any 1).2.l:=hT.suf (zaK s 1).l
 have t2:TOk ((s.any 1).2.mode tBy zF).2.2.l:=t1.suf (za3 _ _ _).l
 have t3:TOk (((s.any 1).2.mode tBy zF).2.2.must zC).l:=t2.suf (zB _ _).l
 have hm:=mode_names (s.any 1).2 tBy zF
 by_cases hn:zaj (s.any 1).1=true
 · simp only[if_pos hn] at e6 ⊢
   obtain ⟨n,h1,h2⟩:=zeQ (k:=2) (.inl rfl) t3
   have t4:TOk ((((s.any 1).2.mode tBy zF).2.2.must zC).number 2).2.l:=t3.suf (zaU _ 2).l
   have w:=hx _ (by omega) _ (Nat.le_refl _) (t4.suf (zB _ zU).l) e6
   rw[h1]
   exact .agg h2 (fun k=>by rw[hn] at k;cases k) hm w
 · simp only[if_neg hn] at e6 ⊢
   have w:=hx _ (by omega) _ (Nat.le_refl _) t3 e6
   exact Wf.agg (n:=0) (by decide) (fun _=>rfl) hm w
theorem good_prim {ex:Rd→Nd×Rd} (hb:Bad ex) {m:Nat} (hx:∀ a,a<m→zd7 a ex):zd7 m (fun s=>s.prim rm ex):=fun s hl hT e=>by
 have h0:s.b=false:=(zfl rm ex).no e
 have hn:¬s.b=true:=by rw[h0];decide
 simp only[Rd.prim] at e ⊢
 rw[if_neg hn] at e ⊢
 split
 · obtain ⟨n,h1,h2⟩:=zeQ (s:=s) (k:=2) (.inl rfl) hT
   rw[h1];exact .num h2
 · rename_i hc
   rw[if_neg hc] at e
   split
   · rename_i hd
     rw[if_pos hd] at e
     have e1:=zR zaM e
     have l1:=zcw (hb.no e1)
     exact hx _ (by omega) _ (Nat.le_refl _) (hT.suf (zB s zC).l) e1
   · rename_i hd
     rw[if_neg hd] at e
     split
     · rename_i hf
       rw[if_pos hf] at e
       exact good_aggr hb hx s hl hT e
     · rename_i hf
       rw[if_neg hf] at e
       split
       · rename_i hg
         rw[if_pos hg] at e
         simp only at e ⊢
         have e1:=zR zbD (zR zaM e)
         have l1:=zcw (hb.no e1)
         have l2:=(zaK s 1).len
         exact .fn (hx _ (by omega) _ (Nat.le_refl _) ((hT.suf (zaK s 1).l).suf (zB _ zC).l) e1)
       · rename_i hg
         rw[if_neg hg] at e
         exact good_sel rm s hT e
theorem good_unaryF {ex:Rd→Nd×Rd} {m:Nat} (hp:zd7 m (fun s=>s.prim rm ex)):∀ (F:Nat) (s:Rd),s.l.length<F→s.l.length≤m→TOk s.l→(zaf rm ex F s).2.b=false→Wf (zaf rm ex F s).1
 | 0,s,h,_,_,_=>absurd h (Nat.not_lt_zero _)
 | F+1,s,hF,hm,hT,e=>by
  unfold zaf at e ⊢
  have k1:=(zG s 5 [zaz]).len
  have t1:TOk (s.take 5 [zaz]).2.2.l:=hT.suf (zG s 5 [zaz]).l
  split
  · rename_i hc
    rw[if_pos hc] at e
    simp only at e ⊢
    have hg:=za5 (by decide) hc
    exact .neg (good_unaryF hp F _ (by omega) (by omega) t1 (zR zbD e))
  · rename_i hc
    rw[if_neg hc] at e
    exact hp _ (by omega) t1 e
theorem good_prod {ex:Rd→Nd×Rd} (hb:Bad ex) (hs:∀ s,Stp 1 s (ex s).2) {m:Nat} (hx:∀ a,a<m→zd7 a ex):zd7 m (zcH rm ex):=
 good_level (fun s h=>zd9 rm ex _ s h) (fun s=>zb6 rm hs _ s) (fun s hm hT e=>good_unaryF rm (good_prim rm hb hx) _ s (Nat.lt_succ_self _) hm hT e)
theorem good_sum {ex:Rd→Nd×Rd} (hb:Bad ex) (hs:∀ s,Stp 1 s (ex s).2) {m:Nat} (hx:∀ a,a<m→zd7 a ex):zd7 m (sumP rm ex):=
 good_level (zfk rm ex) (fun s=>zdh rm hs s) (good_prod rm hb hs hx)
theorem good_expr:∀ f:Nat,zd7 f (zaJ rm (f+1))
 | 0=>good_level (zeK rm _) (fun s=>zck rm (zaQ rm _) s) (good_sum rm (zel rm _) (zaQ rm _) (fun a ha=>absurd ha (Nat.not_lt_zero _)))
 | f+1=>good_level (zeK rm _) (fun s=>zck rm (zaQ rm _) s) (good_sum rm (zel rm _) (zaQ rm _) (fun a ha s hl hT e=>good_expr f s (by omega) hT e))
theorem parse_wf {l:List TokD} {q:QryD} (hT:TOk l) (h:zcf rm l=some q):Wf q.root:=by
 obtain ⟨h1,h2,_⟩:=parse_parts rm h
 rw[←h1];exact good_expr rm l.length ⟨l,0,false⟩ (Nat.le_refl _) hT h2
end
theorem read_wf {s:ByteArray} (h:zba s=0):Wf (z8 s).root:=by
 obtain ⟨h1,h2⟩:=zeO h
 exact parse_wf rmD (lexL_tok s) h2
end Lp
