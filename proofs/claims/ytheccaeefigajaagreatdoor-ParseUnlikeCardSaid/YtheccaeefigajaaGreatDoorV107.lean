import Derived.Test.YtheccaeefigajaaGreatDoorPTail
set_option linter.unusedSimpArgs false
set_option linter.unusedVariables false
set_option maxHeartbeats 4000000
set_option maxRecDepth 100000
namespace Lp
open Go Go.RowKit Go.Proofs
namespace HdYtheccaeefigajaaGreatDoorV107
theorem zbS (b o:Nat):∀ w,(Instr.fieldAt 119 (.pointer (some ⟨b,o,none⟩)) 0).run Tryz.prog w=.ok (.pointer (some ⟨b,o+0,none⟩)) w:=fun _=>by kernel_rfl
theorem zT (b o:Nat):∀ w,(Instr.fieldAt 27 (.pointer (some ⟨b,o,none⟩)) 0).run Tryz.prog w=.ok (.pointer (some ⟨b,o+0,none⟩)) w:=fun _=>by kernel_rfl
theorem zad (b o:Nat):∀ w,(Instr.fieldAt 27 (.pointer (some ⟨b,o,none⟩)) 1).run Tryz.prog w=.ok (.pointer (some ⟨b,o+1,none⟩)) w:=fun _=>by kernel_rfl
theorem zaq (b o:Nat):∀ w,(Instr.fieldAt 27 (.pointer (some ⟨b,o,none⟩)) 2).run Tryz.prog w=.ok (.pointer (some ⟨b,o+2,none⟩)) w:=fun _=>by kernel_rfl
theorem zaY (b o:Nat):∀ w,(Instr.fieldAt 27 (.pointer (some ⟨b,o,none⟩)) 3).run Tryz.prog w=.ok (.pointer (some ⟨b,o+3,none⟩)) w:=fun _=>by kernel_rfl
theorem zbb (b o:Nat):∀ w,(Instr.fieldAt 27 (.pointer (some ⟨b,o,none⟩)) 4).run Tryz.prog w=.ok (.pointer (some ⟨b,o+4,none⟩)) w:=fun _=>by kernel_rfl
theorem zbx (b o:Nat):∀ w,(Instr.fieldAt 27 (.pointer (some ⟨b,o,none⟩)) 5).run Tryz.prog w=.ok (.pointer (some ⟨b,o+5,none⟩)) w:=fun _=>by kernel_rfl
theorem zaI (b o:Nat):∀ w,(Instr.fieldAt 27 (.pointer (some ⟨b,o,none⟩)) 6).run Tryz.prog w=.ok (.pointer (some ⟨b,o+6,none⟩)) w:=fun _=>by kernel_rfl
theorem zcV (b o:Nat):∀ w,(Instr.fieldAt 29 (.pointer (some ⟨b,o,none⟩)) 0).run Tryz.prog w=.ok (.pointer (some ⟨b,o+0,none⟩)) w:=fun _=>by kernel_rfl
theorem zb4 (b o:Nat):∀ w,(Instr.fieldAt 29 (.pointer (some ⟨b,o,none⟩)) 1).run Tryz.prog w=.ok (.pointer (some ⟨b,o+7,none⟩)) w:=fun _=>by kernel_rfl
theorem zcl (b o:Nat):∀ w,(Instr.fieldAt 29 (.pointer (some ⟨b,o,none⟩)) 2).run Tryz.prog w=.ok (.pointer (some ⟨b,o+8,none⟩)) w:=fun _=>by kernel_rfl
theorem zcU (b o:Nat):∀ w,(Instr.fieldAt 29 (.pointer (some ⟨b,o,none⟩)) 3).run Tryz.prog w=.ok (.pointer (some ⟨b,o+9,none⟩)) w:=fun _=>by kernel_rfl
end HdYtheccaeefigajaaGreatDoorV107
open HdYtheccaeefigajaaGreatDoorV107
theorem itoa_i (n:Int) (h:0≤n∧n≤1000000000000):CD Tryz.prog 97 [HPow] [dI n] (PrT (digB n.toNat)):=by
 obtain ⟨m,rfl⟩:∃ m:Nat,n=m:=⟨n.toNat,by omega⟩
 exact zej m (by omega)
theorem print_s (xa xb:ByteArray) (xc xd:Int) (xe:List ByteArray) (xf:List MatD) (xg:List Nd) (ord lim off:Int) (t:ByteArray) (ht:t.size≤10000000) (hl:lim≤1000000000000) (ho:off≤1000000000000) (hx:CD Tryz.prog 34 [HPow] [.agg [.s xa,.s xb,dI xc,dI xd,.sh 1 (xe.map D.s),.sh 3 (xf.map MatD.d),.sh 7 (Nd.ds xg)]] (PrT t)):
 CD Tryz.prog 32 [HPow] [.agg [.s xa,.s xb,dI xc,dI xd,.sh 1 (xe.map D.s),.sh 3 (xf.map MatD.d),.sh 7 (Nd.ds xg),dI ord,dI lim,dI off]] (PrT (limP zcj off (limP zbF lim (ordP ord t)))):=by
 refine zq Tryz.func32 J (N:=36) J J (fun C=>?_)
 refine jk [0] J ?_
 refine JD.bd 0 J (fun bd0=>?_)
 have hz1:=ordP_sz ord t
 have hz2:=limP_sz (k:=zbF) (t:=ordP ord t) (n:=lim) hl (by decide)
 refine jT J (oE J (zaD J (CellD.agg)) ?_)
 rintro _ _ ⟨g1,rfl,rfl⟩
 refine oR 1 J (oZ J (jT J (oP J (zc J zcV J) (oP J (zx (d:=.agg [.s xa,.s xb,dI xc,dI xd,.sh 1 (xe.map D.s),.sh 3 (xf.map MatD.d),.sh 7 (Nd.ds xg)]) J (i:=0) J Tryz.isAgg27 Tryz.sizeOf27 J J) (OpsD.subH (HSub.perm (zd (i:=1) J)) (on J (oE J (zk [HPow] [.bx g1 29 (.agg [.s xa,.s xb,dI xc,dI xd,.sh 1 (xe.map D.s),.sh 3 (xf.map MatD.d),.sh 7 (Nd.ds xg),dI ord,dI lim,dI off])] [] J J (.cons ArgC.id .nil) zh Tryz.call34 (hx) (.inl J)) ?_)))))))
 rintro _ _ ⟨_,⟨rfl,rfl⟩,rfl⟩
 refine on J (oR 1 J (oZ J (jS J (jT J (oP J (zc J zb4 J) (oP J (ze J (i:=1) J Tryz.isAgg3 J) (oZ J (jB J (jT J (oP J (zK J J J) (oR 1 J (oZ J ?_))))))))))))
 refine zcT (fun (jg:Unit)=>[(1,dP g1 0),(2,.v (.string ByteArray.empty)),(3,.s (ordP ord t))]) (fun (jg:Unit)=>[HPow,.bx g1 29 (.agg [.s xa,.s xb,dI xc,dI xd,.sh 1 (xe.map D.s),.sh 3 (xf.map MatD.d),.sh 7 (Nd.ds xg),dI ord,dI lim,dI off])]) (fun (jg:Unit)=>True) (fun _ hQ2=>?_) ?_
 · skip
   refine jD J (fun hc3=>?_) (fun hc3=>?_)
   · skip
     refine zf J (oR 1 J (oP J (zao J J (by unfold maxLen;(try simp only[ByteArray.size_append]);(try (have kl:=zbc (show lim.toNat≤1000000000000 by omega)));(try (have ko:=zbc (show off.toNat≤1000000000000 by omega)));(try simp only[ByteArray.size_append]);have kz:=catz;omega)) (oR 1 rfl (zr rfl (pn rfl ?_)))))
     exact PD.sub [(1,dP g1 0),(2,.v (.string ByteArray.empty)),(3,.s (ordP ord t))] ⟨sk J,sk J,sc J (Cv.eq (congrArg D.s (show _=ordP ord t from by unfold ordP;rw[if_pos hc3]))),trivial⟩ (hQ2 () trivial)
   · skip
     refine jT J (oP J (zK J J J) (oR 1 J (oZ J (jk [1,2,3,13] J ?_))))
     refine jD J (fun hc4=>?_) (fun hc4=>?_)
     · skip
       refine zf J (oR 1 J (oP J (zao J J (by unfold maxLen;(try simp only[ByteArray.size_append]);(try (have kl:=zbc (show lim.toNat≤1000000000000 by omega)));(try (have ko:=zbc (show off.toNat≤1000000000000 by omega)));(try simp only[ByteArray.size_append]);have kz:=catz;omega)) (oR 1 rfl (zr rfl (pn rfl ?_)))))
       exact PD.sub [(1,dP g1 0),(2,.v (.string ByteArray.empty)),(3,.s (ordP ord t))] ⟨sk J,sk J,sc J (Cv.eq (congrArg D.s (show _=ordP ord t from by unfold ordP;rw[if_neg hc3,if_pos hc4]))),trivial⟩ (hQ2 () trivial)
     · skip
       refine zp J (pn J ?_)
       exact PD.sub [(1,dP g1 0),(2,.v (.string ByteArray.empty)),(3,.s (ordP ord t))] ⟨sk J,sk J,sc J (Cv.eq (congrArg D.s (show _=ordP ord t from by unfold ordP;rw[if_neg hc3,if_neg hc4]))),trivial⟩ (hQ2 () trivial)
 · skip
   rintro _ _
   refine pk [1,2,3] J (pn J (zE (zn (jS J (jT J (oP J (zc J zcl J) (oP J (ze J (i:=1) J Tryz.isAgg3 J) (oP J (zaR J J J) (oZ J ?_)))))))))
   refine zcT (fun (jg:Unit)=>[(1,dP g1 0),(2,.v (.string ByteArray.empty)),(3,.s (limP zbF lim (ordP ord t)))]) (fun (jg:Unit)=>[HPow,.bx g1 29 (.agg [.s xa,.s xb,dI xc,dI xd,.sh 1 (xe.map D.s),.sh 3 (xf.map MatD.d),.sh 7 (Nd.ds xg),dI ord,dI lim,dI off])]) (fun (jg:Unit)=>True) (fun _ hQ5=>?_) ?_
   · skip
     refine jD J (fun hc6=>?_) (fun hc6=>?_)
     · skip
       refine zf J (oR 1 J (oP J (zc J zcl J) (oP J (ze J (i:=1) J Tryz.isAgg3 J) (oE J (zk [HPow] [.bx g1 29 (.agg [.s xa,.s xb,dI xc,dI xd,.sh 1 (xe.map D.s),.sh 3 (xf.map MatD.d),.sh 7 (Nd.ds xg),dI ord,dI lim,dI off])] [] J J (.cons ArgC.id .nil) zh Tryz.call97 (itoa_i lim (by omega)) (.inl rfl)) ?_))))
       rintro _ _ ⟨_,⟨rfl,rfl⟩,rfl⟩
       refine on J (oP J (zao J J (by unfold maxLen;(try simp only[ByteArray.size_append]);(try (have kl:=zbc (show lim.toNat≤1000000000000 by omega)));(try (have ko:=zbc (show off.toNat≤1000000000000 by omega)));(try simp only[ByteArray.size_append]);have kz:=catz;omega)) (oP rfl (zao rfl rfl (by unfold maxLen;(try simp only[ByteArray.size_append]);(try (have kl:=zbc (show lim.toNat≤1000000000000 by omega)));(try (have ko:=zbc (show off.toNat≤1000000000000 by omega)));(try simp only[ByteArray.size_append]);have kz:=catz;omega)) (oR 1 rfl (zr rfl (pn rfl ?_)))))
       exact PD.sub [(1,dP g1 0),(2,.v (.string ByteArray.empty)),(3,.s (limP zbF lim (ordP ord t)))] ⟨sk J,sk J,sc J (Cv.eq (congrArg D.s (show _=limP zbF lim (ordP ord t) from by unfold limP;rw[if_pos hc6]))),trivial⟩ (hQ5 () trivial)
     · skip
       refine zp J (pn J ?_)
       exact PD.sub [(1,dP g1 0),(2,.v (.string ByteArray.empty)),(3,.s (limP zbF lim (ordP ord t)))] ⟨sk J,sk J,sc J (Cv.eq (congrArg D.s (show _=limP zbF lim (ordP ord t) from by unfold limP;rw[if_neg hc6]))),trivial⟩ (hQ5 () trivial)
   · skip
     rintro _ _
     refine pk [1,2,3] J (pn J (zn (jS J (jT J (oP J (zc J zcU J) (oP J (ze J (i:=1) J Tryz.isAgg3 J) (oP J (zaR J J J) (oZ J ?_))))))))
     refine zcT (fun (jg:Unit)=>[(2,.v (.string ByteArray.empty)),(3,.s (limP zcj off (limP zbF lim (ordP ord t))))]) (fun (jg:Unit)=>[HPow,.bx g1 29 (.agg [.s xa,.s xb,dI xc,dI xd,.sh 1 (xe.map D.s),.sh 3 (xf.map MatD.d),.sh 7 (Nd.ds xg),dI ord,dI lim,dI off])]) (fun (jg:Unit)=>True) (fun _ hQ7=>?_) ?_
     · skip
       refine jD J (fun hc8=>?_) (fun hc8=>?_)
       · skip
         refine zf J (oR 1 J (oP J (zc J zcU J) (oP J (ze J (i:=1) J Tryz.isAgg3 J) (oE J (zk [HPow] [.bx g1 29 (.agg [.s xa,.s xb,dI xc,dI xd,.sh 1 (xe.map D.s),.sh 3 (xf.map MatD.d),.sh 7 (Nd.ds xg),dI ord,dI lim,dI off])] [] J J (.cons ArgC.id .nil) zh Tryz.call97 (itoa_i off (by omega)) (.inl rfl)) ?_))))
         rintro _ _ ⟨_,⟨rfl,rfl⟩,rfl⟩
         refine on J (oP J (zao J J (by unfold maxLen;(try simp only[ByteArray.size_append]);(try (have kl:=zbc (show lim.toNat≤1000000000000 by omega)));(try (have ko:=zbc (show off.toNat≤1000000000000 by omega)));(try simp only[ByteArray.size_append]);have kz:=catz;omega)) (oP rfl (zao rfl rfl (by unfold maxLen;(try simp only[ByteArray.size_append]);(try (have kl:=zbc (show lim.toNat≤1000000000000 by omega)));(try (have ko:=zbc (show off.toNat≤1000000000000 by omega)));(try simp only[ByteArray.size_append]);have kz:=catz;omega)) (oR 1 rfl (zr rfl (pn rfl ?_)))))
         exact PD.sub [(2,.v (.string ByteArray.empty)),(3,.s (limP zcj off (limP zbF lim (ordP ord t))))] ⟨sk J,sc J (Cv.eq (congrArg D.s (show _=limP zcj off (limP zbF lim (ordP ord t)) from by unfold limP;rw[if_pos hc8]))),trivial⟩ (hQ7 () trivial)
       · skip
         refine zp J (pn J ?_)
         exact PD.sub [(2,.v (.string ByteArray.empty)),(3,.s (limP zcj off (limP zbF lim (ordP ord t))))] ⟨sk J,sc J (Cv.eq (congrArg D.s (show _=limP zcj off (limP zbF lim (ordP ord t)) from by unfold limP;rw[if_neg hc8]))),trivial⟩ (hQ7 () trivial)
     · skip
       rintro _ _
       refine pk [2,3] J (pn J (zn (jT J (oR 2 J (oZ J (zo J (pn J ?_)))))))
       exact zi Tryz.results32 (.cons (zt (zl J) (Cv.eq (congrArg D.s (show (limP zcj off (limP zbF lim (ordP ord t)))=limP zcj off (limP zbF lim (ordP ord t)) from(by rfl))))) .nil) rfl (HSub.fst 1 rfl) ⟨rfl,rfl⟩
theorem p_eqmat_neq {ty t':TypeId} {K:Kd} {H:List Hp} {x y:Operand} {dx dy:D} {a b:MatD} {q:Bool} (hx:opD K x=some dx) (cx:Cv dx (MatD.d a)) (hy:opD K y=some dy) (cy:Cv dy (MatD.d b)) (hq:decide (a≠b)=q):Pu Tryz.prog (.binOp .neq 65 x y t') ty K H (dB q):=
 ⟨fun ρ w F hk _ _=>by
  obtain ⟨vs,e,u1,r1,rfl,_,⟨rfl,_⟩,u2,r2,rfl,_,rfl,u3,r3,rfl,_,⟨rfl,_⟩,rfl⟩:=cx.out _ _ _ (hk.op hx)
  obtain ⟨vs',e',u4,r4,rfl,_,⟨rfl,_⟩,u5,r5,rfl,_,rfl,u6,r6,rfl,_,⟨rfl,_⟩,rfl⟩:=cy.out _ _ _ (hk.op hy)
  refine zdc (r:=.bool q) (zz ρ [x,y]) (zb3 ρ e) (zb2 ρ e') (fun w=>?_) ⟨rfl,J⟩
  subst hq
  obtain ⟨a1,a2,a3⟩:=a
  obtain ⟨b1,b2,b3⟩:=b
  simp[go_sem,toList_beq]
  by_cases h1:a1=b1<;>by_cases h2:a2=b2<;>by_cases h3:a3=b3<;>simp[h1,h2,h3]⟩
theorem refSame_s (xa xb:ByteArray) (xc xd:Int) (xe:List ByteArray) (xf:List MatD) (xg:List Nd) (ya yb:ByteArray) (yc yd:Int) (ye:List ByteArray) (yf:List MatD) (yg:List Nd) (ih:∀ x∈xg,∀ y:Nd,CD Tryz.prog 36 [] [Nd.d x,Nd.d y] (isR (dB (x.eqB y)))):
 CD Tryz.prog 36 [] [.agg [.s xa,.s xb,dI xc,dI xd,.sh 1 (xe.map D.s),.sh 3 (xf.map MatD.d),.sh 7 (xg.map Nd.d)],.agg [.s ya,.s yb,dI yc,dI yd,.sh 1 (ye.map D.s),.sh 3 (yf.map MatD.d),.sh 7 (yg.map Nd.d)]] (isR (dB ((Nd.mk xa xb xc xd xe xf xg).eqB (Nd.mk ya yb yc yd ye yf yg)))):=by
 refine zq Tryz.func36 J (N:=116) J J (fun C=>?_)
 refine jk [0,1] J ?_
 refine JD.bd 0 J (fun bd0=>?_)
 refine JD.bd 1 J (fun bd1=>?_)
 obtain ⟨_,_,_,_,⟨bz5,_⟩,⟨bz6,_⟩,⟨bz7,_⟩,_⟩:=bd0
 rw[List.length_map] at bz5 bz6 bz7
 refine jT J (oE J (zaD J (CellD.agg)) ?_)
 rintro _ _ ⟨g1,rfl,rfl⟩
 refine oE J (zaD J (CellD.agg)) ?_
 rintro _ _ ⟨g2,rfl,rfl⟩
 refine oR 1 J (oZ J (jS J (jS J (jk [2,3,4] J ?_))))
 refine zac 60 (((((((decide (xa≠ya)||decide (xb≠yb))||decide (xc≠yc))||decide (xd≠yd))||decide (((xe.length:Nat):Int)≠((ye.length:Nat):Int)))||decide (((xf.length:Nat):Int)≠((yf.length:Nat):Int)))||decide (((xg.length:Nat):Int)≠((yg.length:Nat):Int)))) [.bx g2 27 (.agg [.s ya,.s yb,dI yc,dI yd,.sh 1 (ye.map D.s),.sh 3 (yf.map MatD.d),.sh 7 (yg.map Nd.d)]),.bx g1 27 (.agg [.s xa,.s xb,dI xc,dI xd,.sh 1 (xe.map D.s),.sh 3 (xf.map MatD.d),.sh 7 (xg.map Nd.d)])] (fun _ hQ3=>?_) ?_
 · skip
   by_cases hg4:xa≠ya
   · skip
     refine zf J (oP J (zc J zT J) (oP J (ze J (i:=1) J Tryz.isAgg9 J) (oP J (zc J zT J) (oP J (ze J (i:=0) J Tryz.isAgg9 J) (oP J (zcJ J J (decide_eq_true hg4)) (oR 48 J (zr J ?_)))))))
     exact PD.sub ((60,dB ((((((decide (xa≠ya)||decide (xb≠yb))||decide (xc≠yc))||decide (xd≠yd))||decide (((xe.length:Nat):Int)≠((ye.length:Nat):Int)))||decide (((xf.length:Nat):Int)≠((yf.length:Nat):Int)))||decide (((xg.length:Nat):Int)≠((yg.length:Nat):Int))))::[(2,dP g1 0),(3,dP g2 0),(4,dB false)]) ⟨sc J (Cv.eq (congrArg (fun b=>D.v (.bool b)) (by first | (simp[hg4];done) | (simp_all;done) | (simp_all;exact Iff.rfl)))),sk rfl,sk rfl,sk rfl,trivial⟩ hQ3
   · skip
     by_cases hg5:xb≠yb
     · skip
       refine zf J (oP J (zc J zT J) (oP J (ze J (i:=1) J Tryz.isAgg9 J) (oP J (zc J zT J) (oP J (ze J (i:=0) J Tryz.isAgg9 J) (oP J (zcJ J J (decide_eq_false hg4)) (oR 1 J (oG J (zc J zad J) (oG J (ze J (i:=1) J Tryz.isAgg9 J) (oG J (zc J zad J) (oG J (ze J (i:=0) J Tryz.isAgg9 J) (oG J (zcJ J J (decide_eq_true hg5)) (oR 42 J (zr J ?_)))))))))))))
       exact PD.sub ((60,dB ((((((decide (xa≠ya)||decide (xb≠yb))||decide (xc≠yc))||decide (xd≠yd))||decide (((xe.length:Nat):Int)≠((ye.length:Nat):Int)))||decide (((xf.length:Nat):Int)≠((yf.length:Nat):Int)))||decide (((xg.length:Nat):Int)≠((yg.length:Nat):Int))))::[(2,dP g1 0),(3,dP g2 0),(4,dB false)]) ⟨sc J (Cv.eq (congrArg (fun b=>D.v (.bool b)) (by first | (simp[hg4,hg5];done) | (simp_all;done) | (simp_all;exact Iff.rfl)))),sk rfl,sk rfl,sk rfl,trivial⟩ hQ3
     · skip
       by_cases hg6:xc≠yc
       · skip
         refine zf J (oP J (zc J zT J) (oP J (ze J (i:=1) J Tryz.isAgg9 J) (oP J (zc J zT J) (oP J (ze J (i:=0) J Tryz.isAgg9 J) (oP J (zcJ J J (decide_eq_false hg4)) (oR 1 J (oG J (zc J zad J) (oG J (ze J (i:=1) J Tryz.isAgg9 J) (oG J (zc J zad J) (oG J (ze J (i:=0) J Tryz.isAgg9 J) (oG J (zcJ J J (decide_eq_false hg5)) (oR 2 J (oG J (zc J zaq J) (oG J (ze J (i:=1) J Tryz.isAgg3 J) (oG J (zc J zaq J) (oG J (ze J (i:=0) J Tryz.isAgg3 J) (oG J (zbf J J (decide_eq_true hg6)) (oR 35 J (zr J ?_)))))))))))))))))))
         exact PD.sub ((60,dB ((((((decide (xa≠ya)||decide (xb≠yb))||decide (xc≠yc))||decide (xd≠yd))||decide (((xe.length:Nat):Int)≠((ye.length:Nat):Int)))||decide (((xf.length:Nat):Int)≠((yf.length:Nat):Int)))||decide (((xg.length:Nat):Int)≠((yg.length:Nat):Int))))::[(2,dP g1 0),(3,dP g2 0),(4,dB false)]) ⟨sc J (Cv.eq (congrArg (fun b=>D.v (.bool b)) (by first | (simp[hg4,hg5,hg6];done) | (simp_all;done) | (simp_all;exact Iff.rfl)))),sk rfl,sk rfl,sk rfl,trivial⟩ hQ3
       · skip
         by_cases hg7:xd≠yd
         · skip
           refine zf J (oP J (zc J zT J) (oP J (ze J (i:=1) J Tryz.isAgg9 J) (oP J (zc J zT J) (oP J (ze J (i:=0) J Tryz.isAgg9 J) (oP J (zcJ J J (decide_eq_false hg4)) (oR 1 J (oG J (zc J zad J) (oG J (ze J (i:=1) J Tryz.isAgg9 J) (oG J (zc J zad J) (oG J (ze J (i:=0) J Tryz.isAgg9 J) (oG J (zcJ J J (decide_eq_false hg5)) (oR 2 J (oG J (zc J zaq J) (oG J (ze J (i:=1) J Tryz.isAgg3 J) (oG J (zc J zaq J) (oG J (ze J (i:=0) J Tryz.isAgg3 J) (oG J (zbf J J (decide_eq_false hg6)) (oR 2 J (oG J (zc J zaY J) (oG J (ze J (i:=1) J Tryz.isAgg3 J) (oG J (zc J zaY J) (oG J (ze J (i:=0) J Tryz.isAgg3 J) (oG J (zbf J J (decide_eq_true hg7)) (oR 28 J (zr J ?_)))))))))))))))))))))))))
           exact PD.sub ((60,dB ((((((decide (xa≠ya)||decide (xb≠yb))||decide (xc≠yc))||decide (xd≠yd))||decide (((xe.length:Nat):Int)≠((ye.length:Nat):Int)))||decide (((xf.length:Nat):Int)≠((yf.length:Nat):Int)))||decide (((xg.length:Nat):Int)≠((yg.length:Nat):Int))))::[(2,dP g1 0),(3,dP g2 0),(4,dB false)]) ⟨sc J (Cv.eq (congrArg (fun b=>D.v (.bool b)) (by first | (simp[hg4,hg5,hg6,hg7];done) | (simp_all;done) | (simp_all;exact Iff.rfl)))),sk rfl,sk rfl,sk rfl,trivial⟩ hQ3
         · skip
           by_cases hg8:((xe.length:Nat):Int)≠((ye.length:Nat):Int)
           · skip
             refine zf J (oP J (zc J zT J) (oP J (ze J (i:=1) J Tryz.isAgg9 J) (oP J (zc J zT J) (oP J (ze J (i:=0) J Tryz.isAgg9 J) (oP J (zcJ J J (decide_eq_false hg4)) (oR 1 J (oG J (zc J zad J) (oG J (ze J (i:=1) J Tryz.isAgg9 J) (oG J (zc J zad J) (oG J (ze J (i:=0) J Tryz.isAgg9 J) (oG J (zcJ J J (decide_eq_false hg5)) (oR 2 J (oG J (zc J zaq J) (oG J (ze J (i:=1) J Tryz.isAgg3 J) (oG J (zc J zaq J) (oG J (ze J (i:=0) J Tryz.isAgg3 J) (oG J (zbf J J (decide_eq_false hg6)) (oR 2 J (oG J (zc J zaY J) (oG J (ze J (i:=1) J Tryz.isAgg3 J) (oG J (zc J zaY J) (oG J (ze J (i:=0) J Tryz.isAgg3 J) (oG J (zbf J J (decide_eq_false hg7)) (oR 2 J (oG J (zc J zbb J) (oG J (ze J (i:=1) J Tryz.isAgg23 J) (oG J (zaB (n:=xe.length) J Tryz.runUnderlying23 (by simp only[lm,lc,ln])) (oG rfl (zc rfl zbb rfl) (oG rfl (ze rfl (i:=0) rfl Tryz.isAgg23 rfl) (oG rfl (zaB (n:=ye.length) rfl Tryz.runUnderlying23 (by simp only[lm,lc,ln])) (oG rfl (zbf rfl rfl (decide_eq_true hg8)) ?_)))))))))))))))))))))))))))))))
             refine oR 19 J (zr J ?_)
             exact PD.sub ((60,dB ((((((decide (xa≠ya)||decide (xb≠yb))||decide (xc≠yc))||decide (xd≠yd))||decide (((xe.length:Nat):Int)≠((ye.length:Nat):Int)))||decide (((xf.length:Nat):Int)≠((yf.length:Nat):Int)))||decide (((xg.length:Nat):Int)≠((yg.length:Nat):Int))))::[(2,dP g1 0),(3,dP g2 0),(4,dB false)]) ⟨sc J (Cv.eq (congrArg (fun b=>D.v (.bool b)) (by first | (simp[hg4,hg5,hg6,hg7,hg8];done) | (simp_all;done) | (simp_all;exact Iff.rfl)))),sk rfl,sk rfl,sk rfl,trivial⟩ hQ3
           · skip
             by_cases hg9:((xf.length:Nat):Int)≠((yf.length:Nat):Int)
             · skip
               refine zf J (oP J (zc J zT J) (oP J (ze J (i:=1) J Tryz.isAgg9 J) (oP J (zc J zT J) (oP J (ze J (i:=0) J Tryz.isAgg9 J) (oP J (zcJ J J (decide_eq_false hg4)) (oR 1 J (oG J (zc J zad J) (oG J (ze J (i:=1) J Tryz.isAgg9 J) (oG J (zc J zad J) (oG J (ze J (i:=0) J Tryz.isAgg9 J) (oG J (zcJ J J (decide_eq_false hg5)) (oR 2 J (oG J (zc J zaq J) (oG J (ze J (i:=1) J Tryz.isAgg3 J) (oG J (zc J zaq J) (oG J (ze J (i:=0) J Tryz.isAgg3 J) (oG J (zbf J J (decide_eq_false hg6)) (oR 2 J (oG J (zc J zaY J) (oG J (ze J (i:=1) J Tryz.isAgg3 J) (oG J (zc J zaY J) (oG J (ze J (i:=0) J Tryz.isAgg3 J) (oG J (zbf J J (decide_eq_false hg7)) (oR 2 J (oG J (zc J zbb J) (oG J (ze J (i:=1) J Tryz.isAgg23 J) (oG J (zaB (n:=xe.length) J Tryz.runUnderlying23 (by simp only[lm,lc,ln])) (oG rfl (zc rfl zbb rfl) (oG rfl (ze rfl (i:=0) rfl Tryz.isAgg23 rfl) (oG rfl (zaB (n:=ye.length) rfl Tryz.runUnderlying23 (by simp only[lm,lc,ln])) (oG rfl (zbf rfl rfl (decide_eq_false hg8)) ?_)))))))))))))))))))))))))))))))
               refine oR 2 J (oG J (zc J zbx J) (oG J (ze J (i:=1) J Tryz.isAgg24 J) (oG J (zaB (n:=xf.length) J Tryz.runUnderlying24 (by simp only[lm,lc,ln])) (oG rfl (zc rfl zbx rfl) (oG rfl (ze rfl (i:=0) rfl Tryz.isAgg24 rfl) (oG rfl (zaB (n:=yf.length) rfl Tryz.runUnderlying24 (by simp only[lm,lc,ln])) (oG rfl (zbf rfl rfl (decide_eq_true hg9)) (oR 10 rfl (zr rfl ?_)))))))))
               exact PD.sub ((60,dB ((((((decide (xa≠ya)||decide (xb≠yb))||decide (xc≠yc))||decide (xd≠yd))||decide (((xe.length:Nat):Int)≠((ye.length:Nat):Int)))||decide (((xf.length:Nat):Int)≠((yf.length:Nat):Int)))||decide (((xg.length:Nat):Int)≠((yg.length:Nat):Int))))::[(2,dP g1 0),(3,dP g2 0),(4,dB false)]) ⟨sc J (Cv.eq (congrArg (fun b=>D.v (.bool b)) (by first | (simp[hg4,hg5,hg6,hg7,hg8,hg9];done) | (simp_all;done) | (simp_all;exact Iff.rfl)))),sk rfl,sk rfl,sk rfl,trivial⟩ hQ3
             · skip
               refine zf J (oP J (zc J zT J) (oP J (ze J (i:=1) J Tryz.isAgg9 J) (oP J (zc J zT J) (oP J (ze J (i:=0) J Tryz.isAgg9 J) (oP J (zcJ J J (decide_eq_false hg4)) (oR 1 J (oG J (zc J zad J) (oG J (ze J (i:=1) J Tryz.isAgg9 J) (oG J (zc J zad J) (oG J (ze J (i:=0) J Tryz.isAgg9 J) (oG J (zcJ J J (decide_eq_false hg5)) (oR 2 J (oG J (zc J zaq J) (oG J (ze J (i:=1) J Tryz.isAgg3 J) (oG J (zc J zaq J) (oG J (ze J (i:=0) J Tryz.isAgg3 J) (oG J (zbf J J (decide_eq_false hg6)) (oR 2 J (oG J (zc J zaY J) (oG J (ze J (i:=1) J Tryz.isAgg3 J) (oG J (zc J zaY J) (oG J (ze J (i:=0) J Tryz.isAgg3 J) (oG J (zbf J J (decide_eq_false hg7)) (oR 2 J (oG J (zc J zbb J) (oG J (ze J (i:=1) J Tryz.isAgg23 J) (oG J (zaB (n:=xe.length) J Tryz.runUnderlying23 (by simp only[lm,lc,ln])) (oG rfl (zc rfl zbb rfl) (oG rfl (ze rfl (i:=0) rfl Tryz.isAgg23 rfl) (oG rfl (zaB (n:=ye.length) rfl Tryz.runUnderlying23 (by simp only[lm,lc,ln])) (oG rfl (zbf rfl rfl (decide_eq_false hg8)) ?_)))))))))))))))))))))))))))))))
               refine oR 2 J (oG J (zc J zbx J) (oG J (ze J (i:=1) J Tryz.isAgg24 J) (oG J (zaB (n:=xf.length) J Tryz.runUnderlying24 (by simp only[lm,lc,ln])) (oG rfl (zc rfl zbx rfl) (oG rfl (ze rfl (i:=0) rfl Tryz.isAgg24 rfl) (oG rfl (zaB (n:=yf.length) rfl Tryz.runUnderlying24 (by simp only[lm,lc,ln])) (oG rfl (zbf rfl rfl (decide_eq_false hg9)) (oR 2 rfl (oG rfl (zc rfl zaI rfl) (oG rfl (ze rfl (i:=1) rfl Tryz.isAgg25 rfl) (oG rfl (zaB (n:=xg.length) rfl Tryz.runUnderlying25 (by simp only[lm,lc,ln])) (oG rfl (zc rfl zaI rfl) (oG rfl (ze rfl (i:=0) rfl Tryz.isAgg25 rfl) (oG rfl (zaB (n:=yg.length) rfl Tryz.runUnderlying25 (by simp only[lm,lc,ln])) (oG rfl (zbf rfl rfl rfl) (oR 1 rfl (zr rfl ?_)))))))))))))))))
               exact PD.sub ((60,dB ((((((decide (xa≠ya)||decide (xb≠yb))||decide (xc≠yc))||decide (xd≠yd))||decide (((xe.length:Nat):Int)≠((ye.length:Nat):Int)))||decide (((xf.length:Nat):Int)≠((yf.length:Nat):Int)))||decide (((xg.length:Nat):Int)≠((yg.length:Nat):Int))))::[(2,dP g1 0),(3,dP g2 0),(4,dB false)]) ⟨sc J (Cv.eq (congrArg (fun b=>D.v (.bool b)) (by first | (simp[hg4,hg5,hg6,hg7,hg8,hg9];done) | (simp_all;done) | (simp_all;exact Iff.rfl)))),sk rfl,sk rfl,sk rfl,trivial⟩ hQ3
 · skip
   refine zn ?_
   refine jC J (fun hc10=>?_) (fun hc10=>?_)
   · simp only[bA,bB,bC,bD,bE,bF,bG,bH,bI,bJ] at hc10
     refine jT J (oR 1 J (oZ J (zo J (zj ?_))))
     exact zi Tryz.results36 (.cons (zt (zl J) (Cv.eq (congrArg (fun b=>D.v (.bool b)) (by exact zfD (fun e=>by injection e with e1 e2 e3 e4 e5 e6 e7;have h:=hc10;simp[e1,e2,e3,e4,e5,e6,e7] at h))))) .nil) rfl HSub.none ⟨rfl,rfl⟩
   · simp only[bA,bB,bC,bD,bE,bF,bG,bH,bI,bJ] at hc10
     obtain ⟨⟨⟨⟨⟨⟨q1,q2⟩,q3⟩,q4⟩,q5⟩,q6⟩,q7⟩:=hc10
     refine zp J (zn (jS J (jT J (oR 1 J (oZ J (jB J (jl1 (fun (a_:Nat)=>[(2,dP g1 0),(3,dP g2 0),(5,dN a_)]) (fun a_=>[.bx g2 27 (.agg [.s ya,.s yb,dI yc,dI yd,.sh 1 (ye.map D.s),.sh 3 (yf.map MatD.d),.sh 7 (yg.map Nd.d)]),.bx g1 27 (.agg [.s xa,.s xb,dI xc,dI xd,.sh 1 (xe.map D.s),.sh 3 (xf.map MatD.d),.sh 7 (xg.map Nd.d)])]) (fun a_=>(a_≤xe.length)∧(xe.take a_=ye.take a_)) (fun a_=>xe.length-a_) 0 J (sa J) HSub.rfl' ⟨Nat.zero_le _,J⟩ ?_)))))))
     rintro k ⟨hk,hfe⟩
     refine ja J (jn J (jS J (jT J (oR 1 J (oP J (zc J zbb J) (oP J (ze J (i:=1) J Tryz.isAgg23 J) (oP J (zaB (n:=xe.length) J Tryz.runUnderlying23 (by simp only[lm,lc,ln])) (oP rfl (za2 rfl rfl rfl) (oZ rfl ?_)))))))))
     refine jD J (fun hc11=>?_) (fun hc11=>?_)
     · skip
       refine zp J (zn (jS J (jB J (jS J (jk [2,3,5,61,62,63,64,65] J (jn J ?_))))))
       obtain ⟨x1,hx1⟩:=zak xe k (by omega)
       obtain ⟨x2,hx2⟩:=zak ye k (by omega)
       refine za4 10 [(68,dP g1 4,none),(69,.sh 1 (xe.map D.s),none),(70,dN k,none),(71,.el (.s x1) 0,none),(72,.s x1,none),(73,dP g2 4,none),(74,.sh 1 (ye.map D.s),none),(75,dN k,none),(76,.el (.s x2) 0,none),(77,.s x2,none)] [.bx g2 27 (.agg [.s ya,.s yb,dI yc,dI yd,.sh 1 (ye.map D.s),.sh 3 (yf.map MatD.d),.sh 7 (yg.map Nd.d)]),.bx g1 27 (.agg [.s xa,.s xb,dI xc,dI xd,.sh 1 (xe.map D.s),.sh 3 (xf.map MatD.d),.sh 7 (xg.map Nd.d)])] (Hn:=[.bx g2 27 (.agg [.s ya,.s yb,dI yc,dI yd,.sh 1 (ye.map D.s),.sh 3 (yf.map MatD.d),.sh 7 (yg.map Nd.d)]),.bx g1 27 (.agg [.s xa,.s xb,dI xc,dI xd,.sh 1 (xe.map D.s),.sh 3 (xf.map MatD.d),.sh 7 (xg.map Nd.d)])]) mixed J J J J HSub.rfl' J ⟨sa_p J J J (zc J zbb J),sa_p J J J (ze J (i:=1) J Tryz.isAgg23 J),sa_p J J J (z7 J),sa_p J J J (zA (k:=k) J J Tryz.runUnderlying23 Tryz.sizeOf9 (by first | rfl | omega) (zap hx1)),sa_p rfl rfl rfl (zaG rfl Tryz.isAgg9 rfl),sa_p rfl rfl rfl (zc rfl zbb rfl),sa_p rfl rfl rfl (ze rfl (i:=0) rfl Tryz.isAgg23 rfl),sa_p rfl rfl rfl (z7 rfl),sa_p rfl rfl rfl (zA (k:=k) rfl rfl Tryz.runUnderlying23 Tryz.sizeOf9 (by first | rfl | omega) (zap hx2)),sa_p rfl rfl rfl (zaG rfl Tryz.isAgg9 rfl),trivial⟩ ?_
       refine ok [2,3,5,61,62,63,64,65,68,69,70,71,72,73,74,75,76,77] J (oP J (zcJ J J J) (oZ J ?_))
       refine jD J (fun hc12=>?_) (fun hc12=>?_)
       · skip
         refine jT J (oR 1 J (oZ J (zo J (zm (zj (zah (zm (zj ?_))))))))
         exact zi Tryz.results36 (.cons (zt (zl J) (Cv.eq (congrArg (fun b=>D.v (.bool b)) (by exact zfD (fun e=>by injection e with e1 e2 e3 e4 e5 e6 e7;exact zfu hx1 hx2 (by simpa using hc12) e5))))) .nil) rfl HSub.none ⟨rfl,rfl⟩
       · skip
         refine zp J (zE (zn (zf J (oR 1 J (oP J (zbI (c:=((k+1:Nat):Int)) J J (zaL (by omega) (by omega))) (oR 1 rfl (zr rfl ?_)))))))
         exact pl1 (k+1) (sa J) HSub.rfl' ⟨by omega,zfv hx1 hx2 hfe (by simpa using hc12)⟩ (by omega)
     · skip
       refine zat J (zL (zH (zD (zn (jS J (jT J (oR 1 J (oZ J (jB J (jl1 (fun (a_:Nat)=>[(2,dP g1 0),(3,dP g2 0),(6,dN a_)]) (fun a_=>[.bx g2 27 (.agg [.s ya,.s yb,dI yc,dI yd,.sh 1 (ye.map D.s),.sh 3 (yf.map MatD.d),.sh 7 (yg.map Nd.d)]),.bx g1 27 (.agg [.s xa,.s xb,dI xc,dI xd,.sh 1 (xe.map D.s),.sh 3 (xf.map MatD.d),.sh 7 (xg.map Nd.d)])]) (fun a_=>(a_≤xf.length)∧(xf.take a_=yf.take a_)) (fun a_=>xf.length-a_) 0 J (sa J) HSub.rfl' ⟨Nat.zero_le _,J⟩ ?_))))))))))
       rintro k ⟨hk,hff⟩
       refine ja J (jn J (jS J (jT J (oR 1 J (oP J (zc J zbx J) (oP J (ze J (i:=1) J Tryz.isAgg24 J) (oP J (zaB (n:=xf.length) J Tryz.runUnderlying24 (by simp only[lm,lc,ln])) (oP rfl (za2 rfl rfl rfl) (oZ rfl ?_)))))))))
       refine jD J (fun hc13=>?_) (fun hc13=>?_)
       · skip
         refine zp J (zn (jS J (jB J (jS J (jk [2,3,6,79,80,81,82,83] J (jn J ?_))))))
         obtain ⟨x3,hx3⟩:=zak xf k (by omega)
         obtain ⟨x4,hx4⟩:=zak yf k (by omega)
         refine za4 10 [(86,dP g1 5,none),(87,.sh 3 (xf.map MatD.d),none),(88,dN k,none),(89,.el (MatD.d x3) 0,none),(90,MatD.d x3,none),(91,dP g2 5,none),(92,.sh 3 (yf.map MatD.d),none),(93,dN k,none),(94,.el (MatD.d x4) 0,none),(95,MatD.d x4,none)] [.bx g2 27 (.agg [.s ya,.s yb,dI yc,dI yd,.sh 1 (ye.map D.s),.sh 3 (yf.map MatD.d),.sh 7 (yg.map Nd.d)]),.bx g1 27 (.agg [.s xa,.s xb,dI xc,dI xd,.sh 1 (xe.map D.s),.sh 3 (xf.map MatD.d),.sh 7 (xg.map Nd.d)])] (Hn:=[.bx g2 27 (.agg [.s ya,.s yb,dI yc,dI yd,.sh 1 (ye.map D.s),.sh 3 (yf.map MatD.d),.sh 7 (yg.map Nd.d)]),.bx g1 27 (.agg [.s xa,.s xb,dI xc,dI xd,.sh 1 (xe.map D.s),.sh 3 (xf.map MatD.d),.sh 7 (xg.map Nd.d)])]) mixed J J J J HSub.rfl' J ⟨sa_p J J J (zc J zbx J),sa_p J J J (ze J (i:=1) J Tryz.isAgg24 J),sa_p J J J (z7 J),sa_p J J J (zA (k:=k) J J Tryz.runUnderlying24 Tryz.sizeOf65 (by first | rfl | omega) (zap hx3)),sa_p rfl rfl rfl (zau (d:=MatD.d x3) rfl Tryz.isAgg65 Tryz.sizeOf65 rfl rfl),sa_p rfl rfl rfl (zc rfl zbx rfl),sa_p rfl rfl rfl (ze rfl (i:=0) rfl Tryz.isAgg24 rfl),sa_p rfl rfl rfl (z7 rfl),sa_p rfl rfl rfl (zA (k:=k) rfl rfl Tryz.runUnderlying24 Tryz.sizeOf65 (by first | rfl | omega) (zap hx4)),sa_p rfl rfl rfl (zau (d:=MatD.d x4) rfl Tryz.isAgg65 Tryz.sizeOf65 rfl rfl),trivial⟩ ?_
         refine ok [2,3,6,79,80,81,82,83,86,87,88,89,90,91,92,93,94,95] J (oP J (p_eqmat_neq (dx:=MatD.d x3) (dy:=MatD.d x4) (a:=x3) (b:=x4) J (Cv.rfl') J (Cv.rfl') J) (oZ J ?_))
         refine jD J (fun hc14=>?_) (fun hc14=>?_)
         · skip
           refine jT J (oR 1 J (oZ J (zo J (zm (zj (zah (zm (zj ?_))))))))
           exact zi Tryz.results36 (.cons (zt (zl J) (Cv.eq (congrArg (fun b=>D.v (.bool b)) (by exact zfD (fun e=>by injection e with e1 e2 e3 e4 e5 e6 e7;exact zfu hx3 hx4 (by simpa using hc14) e6))))) .nil) rfl HSub.none ⟨rfl,rfl⟩
         · skip
           refine zp J (zE (zn (zf J (oR 1 J (oP J (zbI (c:=((k+1:Nat):Int)) J J (zaL (by omega) (by omega))) (oR 1 rfl (zr rfl ?_)))))))
           exact pl1 (k+1) (sa J) HSub.rfl' ⟨by omega,zfv hx3 hx4 hff (by simpa using hc14)⟩ (by omega)
       · skip
         refine zat J (zL (zH (zD (zn (jS J (jT J (oR 1 J (oZ J (jB J (jl1 (fun (a_:Nat)=>[(2,dP g1 0),(3,dP g2 0),(7,dN a_)]) (fun a_=>[.bx g2 27 (.agg [.s ya,.s yb,dI yc,dI yd,.sh 1 (ye.map D.s),.sh 3 (yf.map MatD.d),.sh 7 (yg.map Nd.d)]),.bx g1 27 (.agg [.s xa,.s xb,dI xc,dI xd,.sh 1 (xe.map D.s),.sh 3 (xf.map MatD.d),.sh 7 (xg.map Nd.d)])]) (fun a_=>(a_≤xg.length)∧(xg.take a_=yg.take a_)) (fun a_=>xg.length-a_) 0 J (sa J) HSub.rfl' ⟨Nat.zero_le _,J⟩ ?_))))))))))
         rintro k ⟨hk,hfg⟩
         refine ja J (jn J (jS J (jT J (oR 1 J (oP J (zc J zaI J) (oP J (ze J (i:=1) J Tryz.isAgg25 J) (oP J (zaB (n:=xg.length) J Tryz.runUnderlying25 (by simp only[lm,lc,ln])) (oP rfl (za2 rfl rfl rfl) (oZ rfl ?_)))))))))
         refine jD J (fun hc15=>?_) (fun hc15=>?_)
         · skip
           refine zp J (zn (jS J (jB J (jS J (jk [2,3,7,97,98,99,100,101] J (jn J ?_))))))
           obtain ⟨x5,hx5⟩:=zak xg k (by omega)
           obtain ⟨kax5,kbx5,kcx5,kdx5,kex5,kfx5,kgx5⟩:=x5
           obtain ⟨x6,hx6⟩:=zak yg k (by omega)
           obtain ⟨kax6,kbx6,kcx6,kdx6,kex6,kfx6,kgx6⟩:=x6
           refine za4 10 [(104,dP g1 6,none),(105,.sh 7 (xg.map Nd.d),none),(106,dN k,none),(107,.el (.agg [.s kax5,.s kbx5,dI kcx5,dI kdx5,.sh 1 (kex5.map D.s),.sh 3 (kfx5.map MatD.d),.sh 7 (Nd.ds kgx5)]) 0,none),(108,.agg [.s kax5,.s kbx5,dI kcx5,dI kdx5,.sh 1 (kex5.map D.s),.sh 3 (kfx5.map MatD.d),.sh 7 (Nd.ds kgx5)],none),(109,dP g2 6,none),(110,.sh 7 (yg.map Nd.d),none),(111,dN k,none),(112,.el (.agg [.s kax6,.s kbx6,dI kcx6,dI kdx6,.sh 1 (kex6.map D.s),.sh 3 (kfx6.map MatD.d),.sh 7 (Nd.ds kgx6)]) 0,none),(113,.agg [.s kax6,.s kbx6,dI kcx6,dI kdx6,.sh 1 (kex6.map D.s),.sh 3 (kfx6.map MatD.d),.sh 7 (Nd.ds kgx6)],none)] [.bx g2 27 (.agg [.s ya,.s yb,dI yc,dI yd,.sh 1 (ye.map D.s),.sh 3 (yf.map MatD.d),.sh 7 (yg.map Nd.d)]),.bx g1 27 (.agg [.s xa,.s xb,dI xc,dI xd,.sh 1 (xe.map D.s),.sh 3 (xf.map MatD.d),.sh 7 (xg.map Nd.d)])] (Hn:=[.bx g2 27 (.agg [.s ya,.s yb,dI yc,dI yd,.sh 1 (ye.map D.s),.sh 3 (yf.map MatD.d),.sh 7 (yg.map Nd.d)]),.bx g1 27 (.agg [.s xa,.s xb,dI xc,dI xd,.sh 1 (xe.map D.s),.sh 3 (xf.map MatD.d),.sh 7 (xg.map Nd.d)])]) mixed J J J J HSub.rfl' J ⟨sa_p J J J (zc J zaI J),sa_p J J J (ze J (i:=1) J Tryz.isAgg25 J),sa_p J J J (z7 J),sa_p J J J (zA (k:=k) J J Tryz.runUnderlying25 Tryz.sizeOf27 (by first | rfl | omega) (zap hx5)),sa_p rfl rfl rfl (zau (d:=.agg [.s kax5,.s kbx5,dI kcx5,dI kdx5,.sh 1 (kex5.map D.s),.sh 3 (kfx5.map MatD.d),.sh 7 (Nd.ds kgx5)]) rfl Tryz.isAgg27 Tryz.sizeOf27 rfl rfl),sa_p rfl rfl rfl (zc rfl zaI rfl),sa_p rfl rfl rfl (ze rfl (i:=0) rfl Tryz.isAgg25 rfl),sa_p rfl rfl rfl (z7 rfl),sa_p rfl rfl rfl (zA (k:=k) rfl rfl Tryz.runUnderlying25 Tryz.sizeOf27 (by first | rfl | omega) (zap hx6)),sa_p rfl rfl rfl (zau (d:=.agg [.s kax6,.s kbx6,dI kcx6,dI kdx6,.sh 1 (kex6.map D.s),.sh 3 (kfx6.map MatD.d),.sh 7 (Nd.ds kgx6)]) rfl Tryz.isAgg27 Tryz.sizeOf27 rfl rfl),trivial⟩ ?_
           refine ok [2,3,7,97,98,99,100,101,104,105,106,107,108,109,110,111,112,113] J (oE J (zk [] [.bx g2 27 (.agg [.s ya,.s yb,dI yc,dI yd,.sh 1 (ye.map D.s),.sh 3 (yf.map MatD.d),.sh 7 (yg.map Nd.d)]),.bx g1 27 (.agg [.s xa,.s xb,dI xc,dI xd,.sh 1 (xe.map D.s),.sh 3 (xf.map MatD.d),.sh 7 (xg.map Nd.d)])] [] J J (.cons ArgC.id (.cons ArgC.id .nil)) zh Tryz.call36 (ih (Nd.mk kax5 kbx5 kcx5 kdx5 kex5 kfx5 kgx5) (List.mem_of_getElem? hx5) (Nd.mk kax6 kbx6 kcx6 kdx6 kex6 kfx6 kgx6)) (.inl J)) ?_)
           rintro _ _ ⟨_,⟨rfl,rfl⟩,rfl⟩
           refine on J (oP J (zbE J) (oZ J ?_))
           refine jC J (fun hc16=>?_) (fun hc16=>?_)
           · simp only[bA,bB,bC,bD,bE,bF,bG,bH,bI,bJ] at hc16
             refine jT J (oR 1 J (oZ J (zo J (zm (zj (zah (zm (zj ?_))))))))
             exact zi Tryz.results36 (.cons (zt (zl J) (Cv.eq (congrArg (fun b=>D.v (.bool b)) (by exact zfD (fun e=>by injection e with e1 e2 e3 e4 e5 e6 e7;exact zfu hx5 hx6 (eqB_no.1 (by simpa using hc16)) e7))))) .nil) rfl HSub.none ⟨rfl,rfl⟩
           · simp only[bA,bB,bC,bD,bE,bF,bG,bH,bI,bJ] at hc16
             refine zp J (zE (zn (zf J (oR 1 J (oP J (zbI (c:=((k+1:Nat):Int)) J J (zaL (by omega) (by omega))) (oR 1 rfl (zr rfl ?_)))))))
             exact pl1 (k+1) (sa J) HSub.rfl' ⟨by omega,zfv hx5 hx6 hfg (eqB_is.1 (by simpa using hc16))⟩ (by omega)
         · skip
           refine zat J (zL (zH (zD (zn (jT J (oR 1 J (oZ J (zo J ?_))))))))
           exact zi Tryz.results36 (.cons (zt (zl J) (Cv.eq (congrArg (fun b=>D.v (.bool b)) (by exact eqB_t (mk_eq q1 q2 q3 q4 (zc7 (by omega) (by omega) hfe) (zc7 (by omega) (by omega) hff) (zc7 (by omega) (by omega) hfg)))))) .nil) rfl HSub.none ⟨rfl,rfl⟩
theorem refSame_c:∀ a b:Nd,CD Tryz.prog 36 [] [Nd.d a,Nd.d b] (isR (dB (a.eqB b))):=Nd.ind (fun op text n mode names ms kids ih b=>by
 obtain ⟨ya,yb,yc,yd,ye,yf,yg⟩:=b
 rw[Nd.d_mk,Nd.d_mk]
 exact refSame_s op text n mode names ms kids ya yb yc yd ye yf yg (fun x hx y=>ih x hx y))
theorem same8_c (xa xb:ByteArray) (xc xd:Int) (xe:List ByteArray) (xf:List MatD) (xg:List Nd) (xo xl xm:Int) (ya yb:ByteArray) (yc yd:Int) (ye:List ByteArray) (yf:List MatD) (yg:List Nd) (yo yl ym:Int) :
 CD Tryz.prog 27 [] [.agg [.s xa,.s xb,dI xc,dI xd,.sh 1 (xe.map D.s),.sh 3 (xf.map MatD.d),.sh 7 (Nd.ds xg),dI xo,dI xl,dI xm],.agg [.s ya,.s yb,dI yc,dI yd,.sh 1 (ye.map D.s),.sh 3 (yf.map MatD.d),.sh 7 (Nd.ds yg),dI yo,dI yl,dI ym]] (isR (dB (zd3 ⟨(Nd.mk xa xb xc xd xe xf xg),xo,xl,xm⟩ ⟨(Nd.mk ya yb yc yd ye yf yg),yo,yl,ym⟩))):=by
 refine zq Tryz.func27 J (N:=31) J J (fun C=>?_)
 refine jk [0,1] J ?_
 refine JD.bd 0 J (fun bd0=>?_)
 refine JD.bd 1 J (fun bd1=>?_)
 refine jT J (oE J (zaD J (CellD.agg)) ?_)
 rintro _ _ ⟨g1,rfl,rfl⟩
 refine oE J (zaD J (CellD.agg)) ?_
 rintro _ _ ⟨g2,rfl,rfl⟩
 refine oR 1 J (oZ J (jS J (jk [2,3] J ?_)))
 refine zac 4 ((((decide (xo=yo)&&decide (xl=yl))&&decide (xm=ym))&&((Nd.mk xa xb xc xd xe xf xg).eqB (Nd.mk ya yb yc yd ye yf yg)))) [.bx g2 29 (.agg [.s ya,.s yb,dI yc,dI yd,.sh 1 (ye.map D.s),.sh 3 (yf.map MatD.d),.sh 7 (Nd.ds yg),dI yo,dI yl,dI ym]),.bx g1 29 (.agg [.s xa,.s xb,dI xc,dI xd,.sh 1 (xe.map D.s),.sh 3 (xf.map MatD.d),.sh 7 (Nd.ds xg),dI xo,dI xl,dI xm])] (fun _ hQ3=>?_) ?_
 · skip
   by_cases hg4:xo=yo
   · skip
     by_cases hg5:xl=yl
     · skip
       by_cases hg6:xm=ym
       · skip
         refine zf J (oP J (zc J zb4 J) (oP J (ze J (i:=1) J Tryz.isAgg3 J) (oP J (zc J zb4 J) (oP J (ze J (i:=0) J Tryz.isAgg3 J) (oP J (zK J J (decide_eq_true hg4)) (oR 1 J (oG J (zc J zcl J) (oG J (ze J (i:=1) J Tryz.isAgg3 J) (oG J (zc J zcl J) (oG J (ze J (i:=0) J Tryz.isAgg3 J) (oG J (zK J J (decide_eq_true hg5)) (oR 2 J (oG J (zc J zcU J) (oG J (ze J (i:=1) J Tryz.isAgg3 J) (oG J (zc J zcU J) (oG J (ze J (i:=0) J Tryz.isAgg3 J) (oG J (zK J J (decide_eq_true hg6)) (oR 2 J (oG J (zc J zcV J) (oG J (zx (d:=.agg [.s xa,.s xb,dI xc,dI xd,.sh 1 (xe.map D.s),.sh 3 (xf.map MatD.d),.sh 7 (Nd.ds xg)]) J (i:=1) J Tryz.isAgg27 Tryz.sizeOf27 J J) (oG J (zc J zcV J) (oG J (zx (d:=.agg [.s ya,.s yb,dI yc,dI yd,.sh 1 (ye.map D.s),.sh 3 (yf.map MatD.d),.sh 7 (Nd.ds yg)]) J (i:=0) J Tryz.isAgg27 Tryz.sizeOf27 J J) ?_))))))))))))))))))))))
         refine oF J (zk [] [.bx g2 29 (.agg [.s ya,.s yb,dI yc,dI yd,.sh 1 (ye.map D.s),.sh 3 (yf.map MatD.d),.sh 7 (Nd.ds yg),dI yo,dI yl,dI ym]),.bx g1 29 (.agg [.s xa,.s xb,dI xc,dI xd,.sh 1 (xe.map D.s),.sh 3 (xf.map MatD.d),.sh 7 (Nd.ds xg),dI xo,dI xl,dI xm])] [] J J (.cons ArgC.id (.cons ArgC.id .nil)) zh Tryz.call36 (refSame_c (Nd.mk xa xb xc xd xe xf xg) (Nd.mk ya yb yc yd ye yf yg)) (.inl J)) ?_
         rintro _ _ ⟨_,⟨rfl,rfl⟩,rfl⟩
         refine on J (oR 2 J (zr J ?_))
         exact PD.sub ((4,dB (((decide (xo=yo)&&decide (xl=yl))&&decide (xm=ym))&&((Nd.mk xa xb xc xd xe xf xg).eqB (Nd.mk ya yb yc yd ye yf yg))))::[(2,dP g1 0),(3,dP g2 0)]) ⟨sc J (Cv.eq (congrArg (fun b=>D.v (.bool b)) (by first | (simp[hg4,hg5,hg6];done) | (simp_all;done)))),sk rfl,sk rfl,trivial⟩ hQ3
       · skip
         refine zf J (oP J (zc J zb4 J) (oP J (ze J (i:=1) J Tryz.isAgg3 J) (oP J (zc J zb4 J) (oP J (ze J (i:=0) J Tryz.isAgg3 J) (oP J (zK J J (decide_eq_true hg4)) (oR 1 J (oG J (zc J zcl J) (oG J (ze J (i:=1) J Tryz.isAgg3 J) (oG J (zc J zcl J) (oG J (ze J (i:=0) J Tryz.isAgg3 J) (oG J (zK J J (decide_eq_true hg5)) (oR 2 J (oG J (zc J zcU J) (oG J (ze J (i:=1) J Tryz.isAgg3 J) (oG J (zc J zcU J) (oG J (ze J (i:=0) J Tryz.isAgg3 J) (oG J (zK J J (decide_eq_false hg6)) (oR 9 J (zr J ?_)))))))))))))))))))
         exact PD.sub ((4,dB (((decide (xo=yo)&&decide (xl=yl))&&decide (xm=ym))&&((Nd.mk xa xb xc xd xe xf xg).eqB (Nd.mk ya yb yc yd ye yf yg))))::[(2,dP g1 0),(3,dP g2 0)]) ⟨sc J (Cv.eq (congrArg (fun b=>D.v (.bool b)) (by first | (simp[hg4,hg5,hg6];done) | (simp_all;done)))),sk rfl,sk rfl,trivial⟩ hQ3
     · skip
       refine zf J (oP J (zc J zb4 J) (oP J (ze J (i:=1) J Tryz.isAgg3 J) (oP J (zc J zb4 J) (oP J (ze J (i:=0) J Tryz.isAgg3 J) (oP J (zK J J (decide_eq_true hg4)) (oR 1 J (oG J (zc J zcl J) (oG J (ze J (i:=1) J Tryz.isAgg3 J) (oG J (zc J zcl J) (oG J (ze J (i:=0) J Tryz.isAgg3 J) (oG J (zK J J (decide_eq_false hg5)) (oR 16 J (zr J ?_)))))))))))))
       exact PD.sub ((4,dB (((decide (xo=yo)&&decide (xl=yl))&&decide (xm=ym))&&((Nd.mk xa xb xc xd xe xf xg).eqB (Nd.mk ya yb yc yd ye yf yg))))::[(2,dP g1 0),(3,dP g2 0)]) ⟨sc J (Cv.eq (congrArg (fun b=>D.v (.bool b)) (by first | (simp[hg4,hg5];done) | (simp_all;done)))),sk rfl,sk rfl,trivial⟩ hQ3
   · skip
     refine zf J (oP J (zc J zb4 J) (oP J (ze J (i:=1) J Tryz.isAgg3 J) (oP J (zc J zb4 J) (oP J (ze J (i:=0) J Tryz.isAgg3 J) (oP J (zK J J (decide_eq_false hg4)) (oR 22 J (zr J ?_)))))))
     exact PD.sub ((4,dB (((decide (xo=yo)&&decide (xl=yl))&&decide (xm=ym))&&((Nd.mk xa xb xc xd xe xf xg).eqB (Nd.mk ya yb yc yd ye yf yg))))::[(2,dP g1 0),(3,dP g2 0)]) ⟨sc J (Cv.eq (congrArg (fun b=>D.v (.bool b)) (by first | (simp[hg4];done) | (simp_all;done)))),sk rfl,sk rfl,trivial⟩ hQ3
 · skip
   refine zn (zo J ?_)
   exact zi Tryz.results27 (.cons (zt (zl J) (Cv.eq (congrArg (fun b=>D.v (.bool b)) (by rfl)))) .nil) rfl HSub.none ⟨rfl,rfl⟩
theorem read8_1 (ev es:Value) (hev:EvOk ev) (hes:EvOk es):CD Tryz.prog 14 [HPow,HErr ev,HSyn es] [.v (.string a8S1)] (fun r H'=>r=.tup [.agg [.s (⟨#[98,105,110]⟩:ByteArray),.s (⟨#[43]⟩:ByteArray),dI 0,dI 0,.sh 1 (([]:List ByteArray).map D.s),.sh 3 (([]:List MatD).map MatD.d),.sh 7 (Nd.ds a8K1),dI 0,dI (-1),dI (-1)],dI 0]∧H'=[HPow,HErr ev,HSyn es]):=by
 have h:=Read_c a8S1 ev es hev hes
 rw[al8_r1.1,al8_r1.2] at h
 refine CD.to ⟨fun w F vs hvs hF hH=>h.out w F vs (by obtain ⟨u,us,e,hu,hus⟩:=hvs;exact⟨u,us,e,⟨hu,by decide⟩,hus⟩) hF hH⟩ ?_
 rintro r H' ⟨op,text,n,mode,names,ms,kids,o,a,b,e,rfl,rfl⟩
 injection e with e1 e2 e3 e4
 subst e2;subst e3;subst e4
 injection e1 with a1 a2 a3 a4 a5 a6 a7
 subst a1;subst a2;subst a3;subst a4;subst a5;subst a6;subst a7
 exact⟨rfl,J⟩
theorem read8_2 (ev es:Value) (hev:EvOk ev) (hes:EvOk es):CD Tryz.prog 14 [HPow,HErr ev,HSyn es] [.v (.string a8S2)] (fun r H'=>r=.tup [.agg [.s (⟨#[97,103,103]⟩:ByteArray),.s (⟨#[115,117,109]⟩:ByteArray),dI 0,dI 1,.sh 1 ([(⟨#[104,111,115,116]⟩:ByteArray)].map D.s),.sh 3 (([]:List MatD).map MatD.d),.sh 7 (Nd.ds a8K2),dI 2,dI 3,dI (-1)],dI 0]∧H'=[HPow,HErr ev,HSyn es]):=by
 have h:=Read_c a8S2 ev es hev hes
 rw[al8_r2.1,al8_r2.2] at h
 refine CD.to ⟨fun w F vs hvs hF hH=>h.out w F vs (by obtain ⟨u,us,e,hu,hus⟩:=hvs;exact⟨u,us,e,⟨hu,by decide⟩,hus⟩) hF hH⟩ ?_
 rintro r H' ⟨op,text,n,mode,names,ms,kids,o,a,b,e,rfl,rfl⟩
 injection e with e1 e2 e3 e4
 subst e2;subst e3;subst e4
 injection e1 with a1 a2 a3 a4 a5 a6 a7
 subst a1;subst a2;subst a3;subst a4;subst a5;subst a6;subst a7
 exact⟨rfl,J⟩
theorem bintext0_c (text:ByteArray) (n:Nat) (names:List ByteArray) (ms:List MatD) (xa xb:ByteArray) (xc xd:Int) (xe:List ByteArray) (xf:List MatD) (xg:List Nd) (ya yb:ByteArray) (yc yd:Int) (ye:List ByteArray) (yf:List MatD) (yg:List Nd) (ta tb:ByteArray) (h0:text.size≤1000) (hxt:ta.size≤10000000) (hx:CD Tryz.prog 99 [HPow] [.agg [.s xa,.s xb,dI xc,dI xd,.sh 1 (xe.map D.s),.sh 3 (xf.map MatD.d),.sh 7 (Nd.ds xg)]] (PrT ta)) (hyt:tb.size≤10000000) (hy:CD Tryz.prog 99 [HPow] [.agg [.s ya,.s yb,dI yc,dI yd,.sh 1 (ye.map D.s),.sh 3 (yf.map MatD.d),.sh 7 (Nd.ds yg)]] (PrT tb)):
 CD Tryz.prog 100 [HPow] [.agg [.s (⟨#[98,105,110]⟩:ByteArray),.s text,dN n,dI 0,.sh 1 (names.map D.s),.sh 3 (ms.map MatD.d),.sh 7 [.agg [.s xa,.s xb,dI xc,dI xd,.sh 1 (xe.map D.s),.sh 3 (xf.map MatD.d),.sh 7 (Nd.ds xg)],.agg [.s ya,.s yb,dI yc,dI yd,.sh 1 (ye.map D.s),.sh 3 (yf.map MatD.d),.sh 7 (Nd.ds yg)]]]] (PrT (binP text 0 names ta tb)):=by
 refine zq Tryz.func100 J (N:=40) J J (fun C=>?_)
 refine jk [0] J ?_
 refine JD.bd 0 J (fun bd0=>?_)
 refine jT J (oE J (zaD J (CellD.agg)) ?_)
 rintro _ _ ⟨g1,rfl,rfl⟩
 refine oR 1 J (oZ J (jS J (JD.subH (HSub.perm (zd (i:=1) J)) (jn J (jk [0,1,2] J (jn J ?_))))))
 refine za4 10 [(4,dP g1 0,none),(5,dP g1 6,none),(6,.sh 7 [.agg [.s xa,.s xb,dI xc,dI xd,.sh 1 (xe.map D.s),.sh 3 (xf.map MatD.d),.sh 7 (Nd.ds xg)],.agg [.s ya,.s yb,dI yc,dI yd,.sh 1 (ye.map D.s),.sh 3 (yf.map MatD.d),.sh 7 (Nd.ds yg)]],none),(7,.el (.agg [.s xa,.s xb,dI xc,dI xd,.sh 1 (xe.map D.s),.sh 3 (xf.map MatD.d),.sh 7 (Nd.ds xg)]) 0,none),(8,.agg [.s xa,.s xb,dI xc,dI xd,.sh 1 (xe.map D.s),.sh 3 (xf.map MatD.d),.sh 7 (Nd.ds xg)],none),(9,.s ta,some [HPow,.bx g1 119 (.agg [.s (⟨#[98,105,110]⟩:ByteArray),.s text,dN n,dI 0,.sh 1 (names.map D.s),.sh 3 (ms.map MatD.d),.sh 7 [.agg [.s xa,.s xb,dI xc,dI xd,.sh 1 (xe.map D.s),.sh 3 (xf.map MatD.d),.sh 7 (Nd.ds xg)],.agg [.s ya,.s yb,dI yc,dI yd,.sh 1 (ye.map D.s),.sh 3 (yf.map MatD.d),.sh 7 (Nd.ds yg)]]])]),(10,.s (ta++(⟨#[32]⟩:ByteArray)),none),(11,dP g1 0,none),(12,dP g1 1,none),(13,.s text,none)] [.bx g1 119 (.agg [.s (⟨#[98,105,110]⟩:ByteArray),.s text,dN n,dI 0,.sh 1 (names.map D.s),.sh 3 (ms.map MatD.d),.sh 7 [.agg [.s xa,.s xb,dI xc,dI xd,.sh 1 (xe.map D.s),.sh 3 (xf.map MatD.d),.sh 7 (Nd.ds xg)],.agg [.s ya,.s yb,dI yc,dI yd,.sh 1 (ye.map D.s),.sh 3 (yf.map MatD.d),.sh 7 (Nd.ds yg)]]])] (Hn:=[HPow,.bx g1 119 (.agg [.s (⟨#[98,105,110]⟩:ByteArray),.s text,dN n,dI 0,.sh 1 (names.map D.s),.sh 3 (ms.map MatD.d),.sh 7 [.agg [.s xa,.s xb,dI xc,dI xd,.sh 1 (xe.map D.s),.sh 3 (xf.map MatD.d),.sh 7 (Nd.ds xg)],.agg [.s ya,.s yb,dI yc,dI yd,.sh 1 (ye.map D.s),.sh 3 (yf.map MatD.d),.sh 7 (Nd.ds yg)]]])]) mixed rfl rfl rfl rfl (HSub.lst 1 rfl) rfl ⟨sa_p rfl rfl rfl (zc rfl zbS rfl),sa_p rfl rfl rfl (zc rfl zaI rfl),sa_p rfl rfl rfl (ze rfl (i:=0) rfl Tryz.isAgg25 rfl),sa_p rfl rfl rfl (zA (k:=0) rfl rfl Tryz.runUnderlying25 Tryz.sizeOf27 (by first | rfl | omega) rfl),sa_p rfl rfl rfl (zau (d:=.agg [.s xa,.s xb,dI xc,dI xd,.sh 1 (xe.map D.s),.sh 3 (xf.map MatD.d),.sh 7 (Nd.ds xg)]) rfl Tryz.isAgg27 Tryz.sizeOf27 rfl rfl),sa_e rfl rfl rfl rfl (((zk [HPow] [.bx g1 119 (.agg [.s (⟨#[98,105,110]⟩:ByteArray),.s text,dN n,dI 0,.sh 1 (names.map D.s),.sh 3 (ms.map MatD.d),.sh 7 [.agg [.s xa,.s xb,dI xc,dI xd,.sh 1 (xe.map D.s),.sh 3 (xf.map MatD.d),.sh 7 (Nd.ds xg)],.agg [.s ya,.s yb,dI yc,dI yd,.sh 1 (ye.map D.s),.sh 3 (yf.map MatD.d),.sh 7 (Nd.ds yg)]]])] [] rfl rfl (.cons ArgC.id .nil) zh Tryz.call99 (hx) (.inl rfl))).mono (by rintro _ _ ⟨_,⟨rfl,rfl⟩,rfl⟩;exact⟨rfl,rfl⟩)) (HSub.lst 1 rfl),sa_p rfl rfl rfl (zao rfl rfl (by unfold maxLen;(try simp only[ByteArray.size_append]);(try simp only[ByteArray.size_append]);have kz:=catz;omega)),sa_p rfl rfl rfl (zc rfl zbS rfl),sa_p rfl rfl rfl (zc rfl zad rfl),sa_p rfl rfl rfl (ze rfl (i:=0) rfl Tryz.isAgg9 rfl),trivial⟩ ?_
 refine ok [0,1,2,4,5,6,7,8,9,10,11,12,13] J (oP J (zao J J (by unfold maxLen;(try simp only[ByteArray.size_append]);(try simp only[ByteArray.size_append]);have kz:=catz;omega)) (oP rfl (zao rfl rfl (by unfold maxLen;(try simp only[ByteArray.size_append]);(try simp only[ByteArray.size_append]);have kz:=catz;omega)) (oR 1 rfl (oZ rfl (jk [1,2,3] rfl (jS rfl (jT rfl (oP rfl (zc rfl zbS rfl) (oP rfl (zc rfl zaY rfl) (oP rfl (ze rfl (i:=1) rfl Tryz.isAgg3 rfl) (oP rfl (zbf rfl rfl (decide_eq_false (by decide))) (oZ rfl (jCf rfl (zp rfl (zn (jT rfl (oR 1 rfl (oP rfl (zc rfl zbS rfl) (oP rfl (zc rfl zaI rfl) (oP rfl (ze rfl (i:=1) rfl Tryz.isAgg25 rfl) (oP rfl (zA (k:=1) rfl rfl Tryz.runUnderlying25 Tryz.sizeOf27 (by first | rfl | omega) rfl) (oP rfl (zau (d:=.agg [.s ya,.s yb,dI yc,dI yd,.sh 1 (ye.map D.s),.sh 3 (yf.map MatD.d),.sh 7 (Nd.ds yg)]) rfl Tryz.isAgg27 Tryz.sizeOf27 rfl rfl) ?_))))))))))))))))))))))
 refine oE J (zk [HPow] [.bx g1 119 (.agg [.s (⟨#[98,105,110]⟩:ByteArray),.s text,dN n,dI 0,.sh 1 (names.map D.s),.sh 3 (ms.map MatD.d),.sh 7 [.agg [.s xa,.s xb,dI xc,dI xd,.sh 1 (xe.map D.s),.sh 3 (xf.map MatD.d),.sh 7 (Nd.ds xg)],.agg [.s ya,.s yb,dI yc,dI yd,.sh 1 (ye.map D.s),.sh 3 (yf.map MatD.d),.sh 7 (Nd.ds yg)]]])] [] J J (.cons ArgC.id .nil) zh Tryz.call99 (hy) (.inl J)) ?_
 rintro _ _ ⟨_,⟨rfl,rfl⟩,rfl⟩
 refine on J (oP J (zao J J (by unfold maxLen;(try simp only[ByteArray.size_append]);(try simp only[ByteArray.size_append]);have kz:=catz;omega)) (oR 1 rfl (oZ rfl (jk [2] rfl (zo rfl (pn rfl ?_))))))
 exact zi Tryz.results100 (.cons (zt (zl J) (Cv.eq (congrArg D.s (show ((((ta++(⟨#[32]⟩:ByteArray))++text)++(⟨#[32]⟩:ByteArray))++tb)=binP text 0 names ta tb from(by unfold binP;rw[if_pos rfl]))))) .nil) rfl (HSub.fst 1 rfl) ⟨rfl,rfl⟩
theorem node_bin0 (text:ByteArray) (n:Nat) (names:List ByteArray) (ms:List MatD) (xa xb:ByteArray) (xc xd:Int) (xe:List ByteArray) (xf:List MatD) (xg:List Nd) (ya yb:ByteArray) (yc yd:Int) (ye:List ByteArray) (yf:List MatD) (yg:List Nd) (ta tb:ByteArray) (h0:text.size≤1000) (hxt:ta.size≤10000000) (hx:CD Tryz.prog 99 [HPow] [.agg [.s xa,.s xb,dI xc,dI xd,.sh 1 (xe.map D.s),.sh 3 (xf.map MatD.d),.sh 7 (Nd.ds xg)]] (PrT ta)) (hyt:tb.size≤10000000) (hy:CD Tryz.prog 99 [HPow] [.agg [.s ya,.s yb,dI yc,dI yd,.sh 1 (ye.map D.s),.sh 3 (yf.map MatD.d),.sh 7 (Nd.ds yg)]] (PrT tb)):
 CD Tryz.prog 34 [HPow] [.agg [.s (⟨#[98,105,110]⟩:ByteArray),.s text,dN n,dI 0,.sh 1 (names.map D.s),.sh 3 (ms.map MatD.d),.sh 7 [.agg [.s xa,.s xb,dI xc,dI xd,.sh 1 (xe.map D.s),.sh 3 (xf.map MatD.d),.sh 7 (Nd.ds xg)],.agg [.s ya,.s yb,dI yc,dI yd,.sh 1 (ye.map D.s),.sh 3 (yf.map MatD.d),.sh 7 (Nd.ds yg)]]]] (PrT (binP text 0 names ta tb)):=by
 refine zq Tryz.func34 J (N:=79) J J (fun C=>?_)
 refine jk [0] J ?_
 refine JD.bd 0 J (fun bd0=>?_)
 refine jT J (oE J (zaD J (CellD.agg)) ?_)
 rintro _ _ ⟨g1,rfl,rfl⟩
 refine oR 1 J (oZ J (jT J (oP J (zx (d:=.agg [.s (⟨#[98,105,110]⟩:ByteArray),.s text,dN n,dI 0,.sh 1 (names.map D.s),.sh 3 (ms.map MatD.d),.sh 7 [.agg [.s xa,.s xb,dI xc,dI xd,.sh 1 (xe.map D.s),.sh 3 (xf.map MatD.d),.sh 7 (Nd.ds xg)],.agg [.s ya,.s yb,dI yc,dI yd,.sh 1 (ye.map D.s),.sh 3 (yf.map MatD.d),.sh 7 (Nd.ds yg)]]]) J (i:=0) J Tryz.isAgg27 Tryz.sizeOf27 J J) (oE J (zk [] [.bx g1 27 (.agg [.s (⟨#[98,105,110]⟩:ByteArray),.s text,dN n,dI 0,.sh 1 (names.map D.s),.sh 3 (ms.map MatD.d),.sh 7 [.agg [.s xa,.s xb,dI xc,dI xd,.sh 1 (xe.map D.s),.sh 3 (xf.map MatD.d),.sh 7 (Nd.ds xg)],.agg [.s ya,.s yb,dI yc,dI yd,.sh 1 (ye.map D.s),.sh 3 (yf.map MatD.d),.sh 7 (Nd.ds yg)]]]),HPow] [] J J (.cons ArgC.id .nil) zh Tryz.call98 (lift_bin text n 0 names ms xa xb xc xd xe xf xg ya yb yc yd ye yf yg) (.inl J)) ?_))))
 rintro _ _ ⟨_,⟨rfl,rfl⟩,rfl⟩
 refine on J (oR 1 J (oZ J (jS J (jT J (oR 1 J (oP J ((zO (zv:=(.agg #[(.int .i64 0)])) J (fun _ _=>by kernel_rfl)).cv (Cv.tup (.cons (Cv.vagg (by decide)) (.cons Cv.rfl' .nil)))) (oR 3 rfl (oE rfl (zw (zv:=(.agg #[(.int .i64 0)])) Tryz.zeroValue113 ⟨rfl,trivial⟩ (Cv.vagg (by decide))) ?_))))))))
 rintro _ _ ⟨g2,rfl,rfl⟩
 refine oE J (zg (i:=0) (X':=.agg [dI 0]) J J J (CellD.agg) Tryz.sizeOf113 J J J) ?_
 rintro _ _ ⟨rfl,rfl⟩
 refine on J (oR 1 J (oZ J (jk [2,3,4,5] J (jT J (oR 1 J (oZ J (jCf J (zp J (zn (jS J (jT J (oR 1 J (oP J ((zO (zv:=(.agg #[(.string ByteArray.empty),(.string ByteArray.empty),(.int .i64 0),(.int .i64 0),(.slice none 0 0),(.slice none 0 0),(.slice none 0 0)])) J (fun _ _=>by kernel_rfl)).cv (Cv.tup (.cons (Cv.vagg (by decide)) (.cons Cv.rfl' .nil)))) (oR 3 rfl (oE rfl (zw (zv:=(.agg #[(.string ByteArray.empty),(.string ByteArray.empty),(.int .i64 0),(.int .i64 0),(.slice none 0 0),(.slice none 0 0),(.slice none 0 0)])) Tryz.zeroValue116 ⟨rfl,rfl,rfl,rfl,rfl,rfl,rfl,trivial⟩ (Cv.vagg (by decide))) ?_)))))))))))))))
 rintro _ _ ⟨g3,rfl,rfl⟩
 refine oE J (zg (i:=0) (X':=.agg [.v (.string ByteArray.empty),.v (.string ByteArray.empty),dI 0,dI 0,dZ,dZ,dZ]) J J J (CellD.agg) Tryz.sizeOf116 J J J) ?_
 rintro _ _ ⟨rfl,rfl⟩
 refine on J (oR 1 J (oZ J (jT J (oR 1 J (oZ J (jk [2,3,6,32] J (jCf J (zp J (zn (jS J (jT J (oR 1 J (oP J (zbn J (fun _ _=>by kernel_rfl)) (oR 3 rfl (oE rfl (zw (zv:=(.agg #[(.string ByteArray.empty),(.string ByteArray.empty),(.int .i64 0),(.int .i64 0),(.slice none 0 0),(.slice none 0 0),(.slice none 0 0)])) Tryz.zeroValue119 ⟨rfl,rfl,rfl,rfl,rfl,rfl,rfl,trivial⟩ (Cv.vagg (by decide))) ?_)))))))))))))))
 rintro _ _ ⟨g4,rfl,rfl⟩
 refine oE J (zg (i:=0) (X':=.agg [.s (⟨#[98,105,110]⟩:ByteArray),.s text,dN n,dI 0,.sh 1 (names.map D.s),.sh 3 (ms.map MatD.d),.sh 7 [.agg [.s xa,.s xb,dI xc,dI xd,.sh 1 (xe.map D.s),.sh 3 (xf.map MatD.d),.sh 7 (Nd.ds xg)],.agg [.s ya,.s yb,dI yc,dI yd,.sh 1 (ye.map D.s),.sh 3 (yf.map MatD.d),.sh 7 (Nd.ds yg)]]]) J J J (CellD.agg) Tryz.sizeOf119 J J J) ?_
 rintro _ _ ⟨rfl,rfl⟩
 refine on J (oR 1 J (oZ J (jT J (oR 1 J (oZ J (jCt J (jT J (oP J (zx (d:=.agg [.s (⟨#[98,105,110]⟩:ByteArray),.s text,dN n,dI 0,.sh 1 (names.map D.s),.sh 3 (ms.map MatD.d),.sh 7 [.agg [.s xa,.s xb,dI xc,dI xd,.sh 1 (xe.map D.s),.sh 3 (xf.map MatD.d),.sh 7 (Nd.ds xg)],.agg [.s ya,.s yb,dI yc,dI yd,.sh 1 (ye.map D.s),.sh 3 (yf.map MatD.d),.sh 7 (Nd.ds yg)]]]) J (i:=0) J Tryz.isAgg119 Tryz.sizeOf119 J J) (OpsD.subH (HSub.perm (zd (i:=4) J)) (on J ?_))))))))))
 refine oE J (zk [HPow] [.bx g4 119 (.agg [.s (⟨#[98,105,110]⟩:ByteArray),.s text,dN n,dI 0,.sh 1 (names.map D.s),.sh 3 (ms.map MatD.d),.sh 7 [.agg [.s xa,.s xb,dI xc,dI xd,.sh 1 (xe.map D.s),.sh 3 (xf.map MatD.d),.sh 7 (Nd.ds xg)],.agg [.s ya,.s yb,dI yc,dI yd,.sh 1 (ye.map D.s),.sh 3 (yf.map MatD.d),.sh 7 (Nd.ds yg)]]]),.bx g3 116 (.agg [.v (.string ByteArray.empty),.v (.string ByteArray.empty),dI 0,dI 0,dZ,dZ,dZ]),.bx g2 113 (.agg [dI 0]),.bx g1 27 (.agg [.s (⟨#[98,105,110]⟩:ByteArray),.s text,dN n,dI 0,.sh 1 (names.map D.s),.sh 3 (ms.map MatD.d),.sh 7 [.agg [.s xa,.s xb,dI xc,dI xd,.sh 1 (xe.map D.s),.sh 3 (xf.map MatD.d),.sh 7 (Nd.ds xg)],.agg [.s ya,.s yb,dI yc,dI yd,.sh 1 (ye.map D.s),.sh 3 (yf.map MatD.d),.sh 7 (Nd.ds yg)]]])] [] J J (.cons ArgC.id .nil) zh Tryz.call100 (bintext0_c text n names ms xa xb xc xd xe xf xg ya yb yc yd ye yf yg ta tb h0 hxt hx hyt hy) (.inl J)) ?_
 rintro _ _ ⟨_,⟨rfl,rfl⟩,rfl⟩
 refine on J (oR 1 J (oZ J (jk [2,3] J (zo J (zj (pn J ?_))))))
 exact zi Tryz.results34 (.cons (zt (zl J) (Cv.eq (congrArg D.s (show (binP text 0 names ta tb)=binP text 0 names ta tb from(by rfl))))) .nil) rfl (HSub.fst 1 rfl) ⟨rfl,rfl⟩
theorem print0_s (xa xb:ByteArray) (xc xd:Int) (xe:List ByteArray) (xf:List MatD) (xg:List Nd) (t:ByteArray) (ht:t.size≤1000000) (hx:CD Tryz.prog 34 [HPow] [.agg [.s xa,.s xb,dI xc,dI xd,.sh 1 (xe.map D.s),.sh 3 (xf.map MatD.d),.sh 7 (Nd.ds xg)]] (PrT t)):
 CD Tryz.prog 32 [HPow] [.agg [.s xa,.s xb,dI xc,dI xd,.sh 1 (xe.map D.s),.sh 3 (xf.map MatD.d),.sh 7 (Nd.ds xg),dI 0,dI (-1),dI (-1)]] (PrT t):=by
 refine zq Tryz.func32 J (N:=36) J J (fun C=>?_)
 refine jk [0] J ?_
 refine JD.bd 0 J (fun bd0=>?_)
 refine jT J (oE J (zaD J (CellD.agg)) ?_)
 rintro _ _ ⟨g1,rfl,rfl⟩
 refine oR 1 J (oZ J (jT J (oP J (zc J zcV J) (oP J (zx (d:=.agg [.s xa,.s xb,dI xc,dI xd,.sh 1 (xe.map D.s),.sh 3 (xf.map MatD.d),.sh 7 (Nd.ds xg)]) J (i:=0) J Tryz.isAgg27 Tryz.sizeOf27 J J) (OpsD.subH (HSub.perm (zd (i:=1) J)) (on J (oE J (zk [HPow] [.bx g1 29 (.agg [.s xa,.s xb,dI xc,dI xd,.sh 1 (xe.map D.s),.sh 3 (xf.map MatD.d),.sh 7 (Nd.ds xg),dI 0,dI (-1),dI (-1)])] [] J J (.cons ArgC.id .nil) zh Tryz.call34 (hx) (.inl J)) ?_)))))))
 rintro _ _ ⟨_,⟨rfl,rfl⟩,rfl⟩
 refine on J (oR 1 J (oZ J (jS J (jT J (oP J (zc J zb4 J) (oP J (ze J (i:=1) J Tryz.isAgg3 J) (oZ J (jB J (jT J (oP J (zK J J (decide_eq_false (by decide))) (oR 1 rfl (oZ rfl (jCf rfl (jT rfl (oP rfl (zK rfl rfl (decide_eq_false (by decide))) (oR 1 rfl (oZ rfl (jk [1,2,3,13] rfl (jCf rfl (zp rfl (zE (zn (jS rfl (jT rfl (oP rfl (zc rfl zcl rfl) (oP rfl (ze rfl (i:=1) rfl Tryz.isAgg3 rfl) (oP rfl (zaR rfl rfl (decide_eq_false (by decide))) (oZ rfl (jCf rfl (zp rfl (zn (jS rfl (jT rfl (oP rfl (zc rfl zcU rfl) (oP rfl (ze rfl (i:=1) rfl Tryz.isAgg3 rfl) (oP rfl (zaR rfl rfl (decide_eq_false (by decide))) (oZ rfl (jCf rfl (zp rfl (zn (jT rfl (oR 2 rfl (oZ rfl (jk [2] rfl (zo rfl (pn rfl ?_))))))))))))))))))))))))))))))))))))))))))))))
 exact zi Tryz.results32 (.cons (zl J) .nil) J (HSub.fst 1 J) ⟨rfl,J⟩
theorem p8_n1:CD Tryz.prog 34 [HPow] [Nd.d (.mk tNum ByteArray.empty (1:Nat) 0 [] [] [])] (PrT (⟨#[49]⟩:ByteArray)):=by
 have h:=node_num ByteArray.empty 1 0 [] [] (by decide)
 rw[show digB 1=(⟨#[49]⟩:ByteArray) from by kernel_rfl] at h;exact h
theorem p8_i1:CD Tryz.prog 99 [HPow] [Nd.d (.mk tNum ByteArray.empty (1:Nat) 0 [] [] [])] (PrT (⟨#[49]⟩:ByteArray)):=inner_num ByteArray.empty 1 0 [] [] (⟨#[49]⟩:ByteArray) (by decide) p8_n1
theorem p8_n2:CD Tryz.prog 34 [HPow] [Nd.d (.mk tNum ByteArray.empty (2:Nat) 0 [] [] [])] (PrT (⟨#[50]⟩:ByteArray)):=by
 have h:=node_num ByteArray.empty 2 0 [] [] (by decide)
 rw[show digB 2=(⟨#[50]⟩:ByteArray) from by kernel_rfl] at h;exact h
theorem p8_i2:CD Tryz.prog 99 [HPow] [Nd.d (.mk tNum ByteArray.empty (2:Nat) 0 [] [] [])] (PrT (⟨#[50]⟩:ByteArray)):=inner_num ByteArray.empty 2 0 [] [] (⟨#[50]⟩:ByteArray) (by decide) p8_n2
theorem p8_n3:CD Tryz.prog 34 [HPow] [Nd.d (.mk tNum ByteArray.empty (3:Nat) 0 [] [] [])] (PrT (⟨#[51]⟩:ByteArray)):=by
 have h:=node_num ByteArray.empty 3 0 [] [] (by decide)
 rw[show digB 3=(⟨#[51]⟩:ByteArray) from by kernel_rfl] at h;exact h
theorem p8_i3:CD Tryz.prog 99 [HPow] [Nd.d (.mk tNum ByteArray.empty (3:Nat) 0 [] [] [])] (PrT (⟨#[51]⟩:ByteArray)):=inner_num ByteArray.empty 3 0 [] [] (⟨#[51]⟩:ByteArray) (by decide) p8_n3
theorem p8_n4:CD Tryz.prog 34 [HPow] [Nd.d (.mk tNeg ByteArray.empty 0 0 [] [] [a8n 3])] (PrT (⟨#[45,51]⟩:ByteArray)):=by
 have h:=node_neg ByteArray.empty 0 0 [] [] tNum ByteArray.empty (3:Nat) 0 [] [] [] (⟨#[51]⟩:ByteArray) (by decide) p8_i3
 rw[show zaz++(⟨#[51]⟩:ByteArray)=(⟨#[45,51]⟩:ByteArray) from by kernel_rfl] at h;exact h
theorem p8_i4:CD Tryz.prog 99 [HPow] [Nd.d (.mk tNeg ByteArray.empty 0 0 [] [] [a8n 3])] (PrT (⟨#[40,45,51,41]⟩:ByteArray)):=by
 have h:=inner_neg ByteArray.empty 0 0 [] [] tNum ByteArray.empty (3:Nat) 0 [] [] [] (⟨#[45,51]⟩:ByteArray) (by decide) p8_n4
 rw[show zC++(⟨#[45,51]⟩:ByteArray)++zS=(⟨#[40,45,51,41]⟩:ByteArray) from by kernel_rfl] at h;exact h
theorem p8_n5:CD Tryz.prog 34 [HPow] [Nd.d (.mk tBin zdD 0 0 [] [] [a8n 2,.mk tNeg ByteArray.empty 0 0 [] [] [a8n 3]])] (PrT (⟨#[50,32,42,32,40,45,51,41]⟩:ByteArray)):=by
 have h:=node_bin0 zdD 0 [] [] tNum ByteArray.empty (2:Nat) 0 [] [] [] tNeg ByteArray.empty 0 0 [] [] [a8n 3] (⟨#[50]⟩:ByteArray) (⟨#[40,45,51,41]⟩:ByteArray) (by decide) (by decide) p8_i2 (by decide) p8_i4
 rw[show binP zdD 0 [] (⟨#[50]⟩:ByteArray) (⟨#[40,45,51,41]⟩:ByteArray)=(⟨#[50,32,42,32,40,45,51,41]⟩:ByteArray) from by kernel_rfl] at h;exact h
theorem p8_i5:CD Tryz.prog 99 [HPow] [Nd.d (.mk tBin zdD 0 0 [] [] [a8n 2,.mk tNeg ByteArray.empty 0 0 [] [] [a8n 3]])] (PrT (⟨#[40,50,32,42,32,40,45,51,41,41]⟩:ByteArray)):=by
 have h:=inner_bin zdD 0 0 [] [] tNum ByteArray.empty (2:Nat) 0 [] [] [] tNeg ByteArray.empty 0 0 [] [] [a8n 3] (⟨#[50,32,42,32,40,45,51,41]⟩:ByteArray) (by decide) p8_n5
 rw[show zC++(⟨#[50,32,42,32,40,45,51,41]⟩:ByteArray)++zS=(⟨#[40,50,32,42,32,40,45,51,41,41]⟩:ByteArray) from by kernel_rfl] at h;exact h
theorem p8_n6:CD Tryz.prog 34 [HPow] [Nd.d (.mk tBin zfd 0 0 [] [] a8K1)] (PrT (⟨#[49,32,43,32,40,50,32,42,32,40,45,51,41,41]⟩:ByteArray)):=by
 have h:=node_bin0 zfd 0 [] [] tNum ByteArray.empty (1:Nat) 0 [] [] [] tBin zdD 0 0 [] [] [a8n 2,.mk tNeg ByteArray.empty 0 0 [] [] [a8n 3]] (⟨#[49]⟩:ByteArray) (⟨#[40,50,32,42,32,40,45,51,41,41]⟩:ByteArray) (by decide) (by decide) p8_i1 (by decide) p8_i5
 rw[show binP zfd 0 [] (⟨#[49]⟩:ByteArray) (⟨#[40,50,32,42,32,40,45,51,41,41]⟩:ByteArray)=(⟨#[49,32,43,32,40,50,32,42,32,40,45,51,41,41]⟩:ByteArray) from by kernel_rfl] at h;exact h
theorem print8:CD Tryz.prog 32 [HPow] [.agg [.s (⟨#[98,105,110]⟩:ByteArray),.s (⟨#[43]⟩:ByteArray),dI 0,dI 0,.sh 1 (([]:List ByteArray).map D.s),.sh 3 (([]:List MatD).map MatD.d),.sh 7 (Nd.ds a8K1),dI 0,dI (-1),dI (-1)]] (PrT a8P):=print0_s tBin zfd 0 0 [] [] a8K1 a8P (by decide) p8_n6
theorem alive8_c (ev es:Value) (hev:EvOk ev) (hes:EvOk es):
 CD Tryz.prog 25 [HPow,HErr ev,HSyn es] [] (fun r H'=>r=dB true∧H'=[HPow,HErr ev,HSyn es]):=by
 refine zq Tryz.func25 J (N:=48) J J (fun C=>?_)
 refine jk [] J (jT J (oR 1 J (oZ J (jT J (oE J (zk [HPow,HErr ev,HSyn es] [] [] J J (.cons ArgC.id .nil) zh Tryz.call14 (read8_1 ev es hev hes) (.inl J)) ?_)))))
 rintro _ _ ⟨_,⟨rfl,rfl⟩,rfl⟩
 refine on J (oR 3 J (oE J (zw (zv:=(.agg #[(.string ByteArray.empty),(.string ByteArray.empty),(.int .i64 0),(.int .i64 0),(.slice none 0 0),(.slice none 0 0),(.slice none 0 0),(.int .i64 0),(.int .i64 0),(.int .i64 0)])) Tryz.zeroValue29 ⟨J,J,J,J,J,J,J,J,J,J,trivial⟩ (Cv.vagg (by decide))) ?_))
 rintro _ _ ⟨g1,rfl,rfl⟩
 refine oE J (zg (i:=0) (X':=.agg [.s (⟨#[98,105,110]⟩:ByteArray),.s (⟨#[43]⟩:ByteArray),dI 0,dI 0,.sh 1 (([]:List ByteArray).map D.s),.sh 3 (([]:List MatD).map MatD.d),.sh 7 (Nd.ds a8K1),dI 0,dI (-1),dI (-1)]) J J J (CellD.agg) Tryz.sizeOf29 J J J) ?_
 rintro _ _ ⟨rfl,rfl⟩
 refine on J (oR 1 J (oZ J (jT J (OpsD.subH (HSub.perm (zd (i:=3) J)) (on J (OpsD.subH (HSub.perm (zd (i:=3) J)) (on J (OpsD.subH (HSub.perm (zd (i:=3) J)) (on J (oE J (zk [HPow,HErr ev,HSyn es] [.bx g1 29 (.agg [.s (⟨#[98,105,110]⟩:ByteArray),.s (⟨#[43]⟩:ByteArray),dI 0,dI 0,.sh 1 (([]:List ByteArray).map D.s),.sh 3 (([]:List MatD).map MatD.d),.sh 7 (Nd.ds a8K1),dI 0,dI (-1),dI (-1)])] [] J J (.cons ArgC.id .nil) zh Tryz.call14 (read8_2 ev es hev hes) (.inl J)) ?_))))))))))
 rintro _ _ ⟨_,⟨rfl,rfl⟩,rfl⟩
 refine on J (oR 3 J (oE J (zw (zv:=(.agg #[(.string ByteArray.empty),(.string ByteArray.empty),(.int .i64 0),(.int .i64 0),(.slice none 0 0),(.slice none 0 0),(.slice none 0 0),(.int .i64 0),(.int .i64 0),(.int .i64 0)])) Tryz.zeroValue29 ⟨J,J,J,J,J,J,J,J,J,J,trivial⟩ (Cv.vagg (by decide))) ?_))
 rintro _ _ ⟨g2,rfl,rfl⟩
 refine oE J (zg (i:=0) (X':=.agg [.s (⟨#[97,103,103]⟩:ByteArray),.s (⟨#[115,117,109]⟩:ByteArray),dI 0,dI 1,.sh 1 ([(⟨#[104,111,115,116]⟩:ByteArray)].map D.s),.sh 3 (([]:List MatD).map MatD.d),.sh 7 (Nd.ds a8K2),dI 2,dI 3,dI (-1)]) J J J (CellD.agg) Tryz.sizeOf29 J J J) ?_
 rintro _ _ ⟨rfl,rfl⟩
 refine on J (oR 1 J (oZ J (jS J (JD.subH (HSub.perm (zd (i:=1) J)) (jn J (jn J (jk [1,2,3,4] J ?_)))))))
 refine zac 0 (hasN aggN (⟨#[116,111,112,107]⟩:ByteArray)) [HPow,.bx g2 29 (.agg [.s (⟨#[97,103,103]⟩:ByteArray),.s (⟨#[115,117,109]⟩:ByteArray),dI 0,dI 1,.sh 1 ([(⟨#[104,111,115,116]⟩:ByteArray)].map D.s),.sh 3 (([]:List MatD).map MatD.d),.sh 7 (Nd.ds a8K2),dI 2,dI 3,dI (-1)]),HErr ev,HSyn es,.bx g1 29 (.agg [.s (⟨#[98,105,110]⟩:ByteArray),.s (⟨#[43]⟩:ByteArray),dI 0,dI 0,.sh 1 (([]:List ByteArray).map D.s),.sh 3 (([]:List MatD).map MatD.d),.sh 7 (Nd.ds a8K1),dI 0,dI (-1),dI (-1)])] (fun _ hQ3=>?_) ?_
 · skip
   refine zf J (oR 1 J (oP J (zK J J (decide_eq_true (by decide))) (oR 1 rfl (oG rfl (zx (d:=.agg [.s (⟨#[98,105,110]⟩:ByteArray),.s (⟨#[43]⟩:ByteArray),dI 0,dI 0,.sh 1 (([]:List ByteArray).map D.s),.sh 3 (([]:List MatD).map MatD.d),.sh 7 (Nd.ds a8K1),dI 0,dI (-1),dI (-1)]) rfl (i:=4) rfl Tryz.isAgg29 Tryz.sizeOf29 rfl rfl) (oF rfl (zk [HPow] [.bx g2 29 (.agg [.s (⟨#[97,103,103]⟩:ByteArray),.s (⟨#[115,117,109]⟩:ByteArray),dI 0,dI 1,.sh 1 ([(⟨#[104,111,115,116]⟩:ByteArray)].map D.s),.sh 3 (([]:List MatD).map MatD.d),.sh 7 (Nd.ds a8K2),dI 2,dI 3,dI (-1)]),HErr ev,HSyn es,.bx g1 29 (.agg [.s (⟨#[98,105,110]⟩:ByteArray),.s (⟨#[43]⟩:ByteArray),dI 0,dI 0,.sh 1 (([]:List ByteArray).map D.s),.sh 3 (([]:List MatD).map MatD.d),.sh 7 (Nd.ds a8K1),dI 0,dI (-1),dI (-1)])] [] rfl rfl (.cons ArgC.id .nil) zh Tryz.call32 (print8) (.inl rfl)) ?_)))))
   rintro _ _ ⟨_,⟨rfl,rfl⟩,rfl⟩
   refine on J (oG J (zal J J (decide_eq_true (by decide))) (oR 3 rfl (oG rfl (zK rfl rfl (decide_eq_true (by decide))) (oR 2 rfl (oG rfl (zc rfl zb4 rfl) (oG rfl (ze rfl (i:=1) rfl Tryz.isAgg3 rfl) (oG rfl (zK rfl rfl (decide_eq_true (by decide))) (oR 2 rfl (oG rfl (zc rfl zcl rfl) (oG rfl (ze rfl (i:=1) rfl Tryz.isAgg3 rfl) (oG rfl (zK rfl rfl (decide_eq_true (by decide))) (oR 2 rfl (oG rfl (zc rfl zcU rfl) (oG rfl (ze rfl (i:=1) rfl Tryz.isAgg3 rfl) (oG rfl (zK rfl rfl (decide_eq_true (by decide))) (oR 2 rfl (oG rfl (zc rfl zcV rfl) (oG rfl (zc rfl zad rfl) (oG rfl (ze rfl (i:=1) rfl Tryz.isAgg9 rfl) (oG rfl (zal rfl rfl (decide_eq_true (by decide))) (oR 2 rfl (oV rfl rfl (.cons (ArgC.cv (Cv.str (by first | decide | (unfold maxLen;omega)))) .nil) Tryz.call29 (zfG (⟨#[116,111,112,107]⟩:ByteArray)) (oR 2 rfl (zr rfl ?_))))))))))))))))))))))))
   exact PD.sub ((0,dB (hasN aggN (⟨#[116,111,112,107]⟩:ByteArray)))::[(1,dP g1 0),(2,dI 0),(3,dP g2 0),(4,dI 0)]) ⟨sc J (Cv.eq (congrArg (fun b=>D.v (.bool b)) (by first | (simp[];done) | (simp_all;done)))),sk rfl,sk rfl,sk rfl,sk rfl,trivial⟩ hQ3
 · skip
   refine zn (zo J (PD.subH (HSub.perm (zd (i:=3) J)) (pn J (PD.subH (HSub.perm (zd (i:=3) J)) (pn J (PD.subH (HSub.perm (zd (i:=2) J)) (pn J (pn J ?_))))))))
   exact zi Tryz.results25 (.cons (zt (zl J) (Cv.eq (congrArg (fun b=>D.v (.bool b)) (by decide)))) .nil) rfl (HSub.fst 3 rfl) ⟨rfl,rfl⟩
end Lp
