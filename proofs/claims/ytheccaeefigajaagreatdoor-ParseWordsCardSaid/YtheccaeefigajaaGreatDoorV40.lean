import Derived.Test.YtheccaeefigajaaGreatDoorDQ
set_option linter.unusedSimpArgs false
set_option linter.unusedVariables false
set_option maxHeartbeats 4000000
set_option maxRecDepth 100000
namespace Lp
open Go Go.RowKit Go.Proofs
theorem ext_indexByte (u:Nat) (w:World):(callFunc 237 #[.string (⟨#[48,49,50,51,52,53,54,55,56,57,97,98,99,100,101,102]⟩:ByteArray),.int .u8 (u:Int)]).run Tryz.prog w=.ok (.value (.int .i64 (hexI u))) w:=by
 rw[run_callFunc_extern Tryz.func237 (by kernel_rfl) (by kernel_rfl) (by kernel_rfl) (e:=Extern.BytealgIndexByte.indexByte) (by kernel_rfl),run_indexByte_string]
 rfl
theorem p_indexByte {ty:TypeId} {K:Kd} {H:List Hp} {x y:Operand} {ats:Array TypeId} {u:Nat} (hx:opS K x=some (⟨#[48,49,50,51,52,53,54,55,56,57,97,98,99,100,101,102]⟩:ByteArray)) (hy:opD K y=some (.v (.int .u8 (u:Int)))):Pu Tryz.prog (.call { callee:=.value (.func 237),args:=#[x,y],argTypes:=ats }) ty K H (dI (hexI u)):=
 ⟨fun ρ w F hk _ _=>e_ext (vs:=[.string (⟨#[48,49,50,51,52,53,54,55,56,57,97,98,99,100,101,102]⟩:ByteArray),.int .u8 (u:Int)]) (zj ρ [x,y]) (by rw[show (#[x,y]:Array Operand).toList=[x,y] from rfl,zcb ρ [x,y] [x,y] (fun _ h=>h)];have e:ev ρ y=_:=hk.op hy;simp[hk.opS hx,e]) (ext_indexByte u) ⟨rfl,rfl⟩⟩
section
variable {P:Program} {ty:TypeId} {K:Kd} {H:List Hp} {t t':TypeId} {x y:Operand}
theorem p_shl4 {k':IntKind} {a:Nat} (hx:opD K x=some (dI (a:Int))) (hy:opD K y=some (.v (.int k' 4))) (ha:a<16):Pu P (.binOp .shl t x y t') ty K H (dN (a*16)):=
 zdU hx hy (fun w=>by
  rcases (show a=0∨a=1∨a=2∨a=3∨a=4∨a=5∨a=6∨a=7∨a=8∨a=9∨a=10∨a=11∨a=12∨a=13∨a=14∨a=15 by omega) with rfl | rfl | rfl | rfl | rfl | rfl | rfl | rfl | rfl | rfl | rfl | rfl | rfl | rfl | rfl | rfl<;>rfl)
theorem bv64o (a b:Nat) (ha:a<256) (hb:b<256):(BitVec.ofInt IntKind.i64.bits (a:Int)||| BitVec.ofInt IntKind.i64.bits (b:Int)).toNat=a||| b:=by
 rw[BitVec.toNat_or,BitVec.toNat_ofInt,BitVec.toNat_ofInt]
 have e:(2:Nat) ^ IntKind.i64.bits=18446744073709551616:=rfl
 rw[e]
 congr 1<;>omega
theorem or16:∀ a,a<16→∀ b,b<16→a*16||| b=a*16+b:=by decide
theorem p_or64 {a b:Nat} (hx:opD K x=some (dN (a*16))) (hy:opD K y=some (dI (b:Int))) (ha:a<16) (hb:b<16):Pu P (.binOp .or t x y t') ty K H (dN (a*16+b)):=
 zdU hx hy (fun w=>by
  have h:=or16 a ha b hb
  simp only[eqGuard,binOp,Op.intBits,bv64o (a*16) b (by omega) (by omega),h,w64 (show -9223372036854775808≤((a*16+b:Nat):Int)∧((a*16+b:Nat):Int)≤9223372036854775807 by omega)]
  rfl)
end
theorem indexByte0_c (c:Nat) :
 CD Tryz.prog 229 [] [.v (.string (⟨#[48,49,50,51,52,53,54,55,56,57,97,98,99,100,101,102]⟩:ByteArray)),.v (.int .u8 ((c:Nat):Int))] (isR (dI (hexI c))):=by
 refine tZ Tryz.func229 O O (fun C=>?_)
 refine g' 9 O (tP O (p_indexByte (u:=c) O O) (g' 4 O ?_))
 exact tRs O Tryz.results229 (.cons (zd (zc O) (Cv.eq (congrArg (fun n=>D.v (.int .i64 n)) (by rfl)))) .nil) O HSub.none ⟨O,O⟩
theorem indexByte_c (c:Nat) :
 CD Tryz.prog 218 [] [.v (.string (⟨#[48,49,50,51,52,53,54,55,56,57,97,98,99,100,101,102]⟩:ByteArray)),.v (.int .u8 ((c:Nat):Int))] (isR (dI (hexI c))):=by
 refine tZ Tryz.func218 O O (fun C=>?_)
 refine g' 9 O (tW O acs (indexByte0_c c) (g' 4 O ?_))
 exact tR O HSub.none ⟨O,O⟩
def hasS (s:ByteArray):Bool:=decide (1≤s.size)&&decide (s.extract (s.size-1) s.size=(⟨#[34]⟩:ByteArray))
theorem hasP_size {a b:ByteArray} (h:hasP a b=true):b.size≤a.size:=by unfold hasP at h;simp only[Bool.and_eq_true,decide_eq_true_eq] at h;exact h.1
theorem hasS_size {s:ByteArray} (h:hasS s=true):1≤s.size:=by unfold hasS at h;simp only[Bool.and_eq_true,decide_eq_true_eq] at h;exact h.1
theorem hasS_c (s:ByteArray) :
 CD Tryz.prog 230 [] [.s s,.v (.string (⟨#[34]⟩:ByteArray))] (isR (dB (hasS s))):=by
 refine tZ Tryz.func230 O O (fun C=>?_)
 refine T.bd 0 O (fun bd0=>?_)
 have sz0:s.size≤9223372036854775807:=bd0
 have h34:(⟨#[34]⟩:ByteArray).size=1:=rfl
 refine g' 8 O (tP O (zu O Tryz.runUnderlying9) (g' 1 O (tP O (zu O Tryz.runUnderlying9) (g' 2 O ?_))))
 refine tAnd 5 9 (c:=decide ((s.extract (s.size-((⟨#[34]⟩:ByteArray).size)) s.size)=(⟨#[34]⟩:ByteArray))) O O O O O O (fun hb1 nx2=>?_) ?_
 · skip
   have hf3:=of_decide_eq_true hb1
   refine g' 2 O (tG O (zu O Tryz.runUnderlying9) (g' 1 O (tG O (zu O Tryz.runUnderlying9) (tG O (zcI (c:=((s.size-((⟨#[34]⟩:ByteArray).size):Nat):Int)) O O (zn (by omega) (by omega))) (tG O (zw (a:=s.size-((⟨#[34]⟩:ByteArray).size)) (c:=s.size) O O O (by first | rfl | (show _=_;omega)) (by first | rfl | (show _=_;omega)) Tryz.runUnderlying9 (by omega) (by omega)) (g' 2 O ?_))))))
   exact nx2 _ O O (kx 9 O O)
 refine g' 4 O ?_
 exact tRs O Tryz.results230 (.cons (zd (zc O) (cB ((by unfold hasS;congr 1;exact decide_eq_decide.2 (by omega))))) .nil) O HSub.none ⟨O,O⟩
theorem trimP0_c (s:ByteArray) :
 CD Tryz.prog 217 [] [.s s,.v (.string (⟨#[34]⟩:ByteArray))] (isR (D.s (zcv s))):=by
 refine tZ Tryz.func217 O O (fun C=>?_)
 refine T.bd 0 O (fun bd0=>?_)
 have sz0:s.size≤9223372036854775807:=bd0
 have h34:(⟨#[34]⟩:ByteArray).size=1:=rfl
 refine g' 10 O (tW O (ga (.cons (ArgC.cv cS) .nil)) (hasP_c s (⟨#[34]⟩:ByteArray)) (g' 2 O ?_))
 refine tC O (fun hc1=>?_) (fun hc1=>?_)
 · skip
   have hps:=hasP_size hc1
   refine g' 4 O (tP O (zu O Tryz.runUnderlying9) (tP O (zw (a:=(⟨#[34]⟩:ByteArray).size) (c:=s.size) O O O (by first | rfl | (show _=_;omega)) (by first | rfl | (show _=_;omega)) Tryz.runUnderlying9 (by omega) (by omega)) (g' 5 O ?_)))
   exact tRs O Tryz.results217 (.cons (zd (zc O) (Cv.eq (congrArg D.s (by unfold zcv;first | rw[if_pos (by simpa using hc1)];rfl | rw[if_neg (by simpa using hc1)])))) .nil) O HSub.none ⟨O,O⟩
 · skip
   refine g' 9 O ?_
   exact tRs O Tryz.results217 (.cons (zd (zc O) (Cv.eq (congrArg D.s (by unfold zcv;first | rw[if_pos (by simpa using hc1)];rfl | rw[if_neg (by simpa using hc1)])))) .nil) O HSub.none ⟨O,O⟩
theorem trimP_c (s:ByteArray) :
 CD Tryz.prog 197 [] [.s s,.v (.string (⟨#[34]⟩:ByteArray))] (isR (D.s (zcv s))):=by
 refine tZ Tryz.func197 O O (fun C=>?_)
 refine T.bd 0 O (fun bd0=>?_)
 have sz0:s.size≤9223372036854775807:=bd0
 have h34:(⟨#[34]⟩:ByteArray).size=1:=rfl
 refine g' 9 O (tW O acs (trimP0_c s) (g' 4 O ?_))
 exact tR O HSub.none ⟨O,O⟩
theorem trimS0_c (s:ByteArray) :
 CD Tryz.prog 219 [] [.s s,.v (.string (⟨#[34]⟩:ByteArray))] (isR (D.s (zdm s))):=by
 refine tZ Tryz.func219 O O (fun C=>?_)
 refine T.bd 0 O (fun bd0=>?_)
 have sz0:s.size≤9223372036854775807:=bd0
 have h34:(⟨#[34]⟩:ByteArray).size=1:=rfl
 refine g' 10 O (tW O acs (hasS_c s) (g' 2 O ?_))
 refine tC O (fun hc1=>?_) (fun hc1=>?_)
 · skip
   have hps:=hasS_size hc1
   refine g' 4 O (tP O (zu O Tryz.runUnderlying9) (g' 1 O (tP O (zu O Tryz.runUnderlying9) (tP O (zcI (c:=((s.size-((⟨#[34]⟩:ByteArray).size):Nat):Int)) O O (zn (by omega) (by omega))) (tP O (zw (a:=0) (c:=s.size-((⟨#[34]⟩:ByteArray).size)) O O O (by first | rfl | (show _=_;omega)) (by first | rfl | (show _=_;omega)) Tryz.runUnderlying9 (by omega) (by omega)) (g' 5 O ?_))))))
   exact tRs rfl Tryz.results219 (.cons (zd (zc rfl) (Cv.eq (congrArg D.s (by have h0:=hc1;unfold hasS at h0;unfold zdm;simp only[Bool.and_eq_true,Bool.and_eq_false_iff,decide_eq_true_eq,decide_eq_false_iff_not] at h0;first | (rw[if_pos h0];rfl) | rw[if_neg (fun e=>by rcases h0 with h | h;exact h e.1;exact h e.2)])))) .nil) rfl HSub.none ⟨rfl,rfl⟩
 · skip
   refine g' 9 O ?_
   exact tRs rfl Tryz.results219 (.cons (zd (zc rfl) (Cv.eq (congrArg D.s (by have h0:=hc1;unfold hasS at h0;unfold zdm;simp only[Bool.and_eq_true,Bool.and_eq_false_iff,decide_eq_true_eq,decide_eq_false_iff_not] at h0;first | (rw[if_pos h0];rfl) | rw[if_neg (fun e=>by rcases h0 with h | h;exact h e.1;exact h e.2)])))) .nil) rfl HSub.none ⟨rfl,rfl⟩
theorem trimS_c (s:ByteArray) :
 CD Tryz.prog 199 [] [.s s,.v (.string (⟨#[34]⟩:ByteArray))] (isR (D.s (zdm s))):=by
 refine tZ Tryz.func199 O O (fun C=>?_)
 refine T.bd 0 O (fun bd0=>?_)
 have sz0:s.size≤9223372036854775807:=bd0
 have h34:(⟨#[34]⟩:ByteArray).size=1:=rfl
 refine g' 9 O (tW O acs (trimS0_c s) (g' 4 O ?_))
 exact tR O HSub.none ⟨O,O⟩
end Lp
set_option linter.unusedSimpArgs false
set_option linter.unusedVariables false
set_option maxHeartbeats 4000000
set_option maxRecDepth 100000
namespace Lp
open Go Go.RowKit Go.Proofs
theorem cv_3_5 {a:Int} (h:0≤a∧a≤255):∀ w,(convert 3 5 (.int .i64 a)).run Tryz.prog w=.ok (.int .u8 a) w:=fun w=>by
 have e:IntKind.u8.wrap a=a:=by simp[IntKind.wrap,IntKind.bits,IntKind.signed];omega
 simp[convert,run_underlying (show Tryz.prog.underlying 3=some _ by kernel_rfl),run_underlying (show Tryz.prog.underlying 5=some _ by kernel_rfl),Conv.intToInt,e]
theorem escaped_c (s:ByteArray) (hs:s.size≤1000000):
 CD Tryz.prog 198 [] [.s s] (isR (.tup [D.s (escT s),dN (escN s)])):=by
 refine tZ Tryz.func198 O O (fun C=>?_)
 refine T.bd 0 O (fun bd0=>?_)
 have sz0:s.size≤9223372036854775807:=bd0
 refine g' 15 O ?_
 refine tD O (fun hc1=>?_) (fun hc1=>?_)
 · skip
   refine g' 9 O ?_
   exact tRs O Tryz.results198 (.cons (zd (zc O) ((cS).trans (Cv.eq (congrArg D.s (by have T:=esc_0 hc1;first | exact T.1 | exact T.2))))) (.cons (zd (zc O) (Cv.eq (congrArg dN (by have T:=esc_0 hc1;first | exact T.1 | exact T.2)))) .nil)) O HSub.none ⟨O,O⟩
 · skip
   have hz:=ne_size hc1
   refine g' 3 O ?_
   obtain ⟨u1,hu1⟩:=zai s 0 (by omega)
   have hlu1:=u1.toNat_lt
   refine tP O (zl (k:=0) O O Tryz.runUnderlying9 (by first | rfl | omega) hu1) (g' 2 O ?_)
   refine tOr 3 3 (c:=decide (((u1.toNat:Nat):Int)=(92:Int))) O O O O O O (fun hb2 nx3=>?_) ?_
   · skip
     have hf4:=of_decide_eq_false hb2
     refine g' 1 O (tG O (zl (k:=0) O O Tryz.runUnderlying9 (by first | rfl | omega) hu1) (g' 1 O ?_))
     exact nx3 _ O O (kx 3 O O)
   refine g' 3 O ?_
   refine tC O (fun hc5=>?_) (fun hc5=>?_)
   · simp only[bX,bJ] at hc5
     refine g' 3 O (tP O (zw (a:=0) (c:=1) O O O (by first | rfl | (show _=_;omega)) (by first | rfl | (show _=_;omega)) Tryz.runUnderlying9 (by omega) (by omega)) (g' 7 O ?_))
     exact tRs O Tryz.results198 (.cons (zd (zc O) (Cv.eq (congrArg D.s (by have T:=esc_1 hz (by rw[←(zx hu1)];have:=hc5;omega);first | exact T.1 | exact T.2)))) (.cons (zd (zc O) (Cv.eq (congrArg dN (by have T:=esc_1 hz (by rw[←(zx hu1)];have:=hc5;omega);first | exact T.1 | exact T.2)))) .nil)) O HSub.none ⟨O,O⟩
   · simp only[bX,bJ] at hc5
     refine g' 3 O (tP O (zl (k:=0) O O Tryz.runUnderlying9 (by first | rfl | omega) hu1) (g' 4 O ?_))
     refine tD O (fun hc6=>?_) (fun hc6=>?_)
     · skip
       refine g' 9 O ?_
       exact tRs O Tryz.results198 (.cons (zd (zc O) ((cS).trans (Cv.eq (congrArg D.s (by have T:=esc_2 hz (by rw[←(zx hu1)];have:=hc5;omega) (by rw[←(zx hu1)];have:=hc6;omega);first | exact T.1 | exact T.2))))) (.cons (zd (zc O) (Cv.eq (congrArg dN (by have T:=esc_2 hz (by rw[←(zx hu1)];have:=hc5;omega) (by rw[←(zx hu1)];have:=hc6;omega);first | exact T.1 | exact T.2)))) .nil)) O HSub.none ⟨O,O⟩
     · skip
       refine g' 3 O (tP O (zl (k:=0) O O Tryz.runUnderlying9 (by first | rfl | omega) hu1) (g' 2 O ?_))
       refine tAnd 3 3 (c:=decide ((3:Int)≤((s.size:Nat):Int))) O O O O O O (fun hb7 nx8=>?_) ?_
       · skip
         have hf9:=of_decide_eq_true hb7
         refine g' 1 O (tG O (zu O Tryz.runUnderlying9) (g' 1 O ?_))
         exact nx8 _ O O (kx 3 O O)
       refine g' 3 O ?_
       refine tC O (fun hc10=>?_) (fun hc10=>?_)
       · simp only[bX,bJ] at hc10
         refine g' 1 O (T.keep [0,2,3,6,7,8,9,10,11,12,13,17,20,21,22,23,24,25,26,27,28,32] O ?_)
         obtain ⟨u2,hu2⟩:=zai s 1 (by omega)
         have hlu2:=u2.toNat_lt
         obtain ⟨u3,hu3⟩:=zai s 2 (by omega)
         have hlu3:=u3.toNat_lt
         refine tDr 5 [(33,.s s,none),(34,.v (.int .u8 ((u2.toNat:Nat):Int)),none),(35,dI (hexI u2.toNat),none),(36,.s s,none),(37,.v (.int .u8 ((u3.toNat:Nat):Int)),none)] [] (Hn:=[]) mixed O O O O HSub.rfl' O ⟨sa_p O O O (zi O),sa_p O O O (zl (k:=1) O O Tryz.runUnderlying9 (by first | rfl | omega) hu2),sa_q O O O (qu_call O (gc (gc .nil)) Tryz.call218 (indexByte_c u2.toNat) isR_share),sa_p O O O (zi O),sa_p O O O (zl (k:=2) O O Tryz.runUnderlying9 (by first | rfl | omega) hu3),trivial⟩ (tK O (tW O acs (indexByte_c u3.toNat) (g' 9 O ?_)))
         refine tAnd 2 2 (c:=decide ((0:Int)≤hexI u3.toNat)) O O O O O O (fun hb11 nx12=>?_) ?_
         · skip
           have hf13:=of_decide_eq_true hb11
           refine g' 2 O ?_
           exact nx12 _ O O (kx 2 O O)
         refine g' 2 O ?_
         refine tC O (fun hc14=>?_) (fun hc14=>?_)
         · simp only[bX,bJ] at hc14
           have hxa:=hexI_bd u2.toNat (by omega)
           obtain ⟨a,ha⟩:∃ n:Nat,hexI u2.toNat=(n:Int):=⟨(hexI u2.toNat).toNat,by omega⟩
           have hxb:=hexI_bd u3.toNat (by omega)
           obtain ⟨b,hb⟩:∃ n:Nat,hexI u3.toNat=(n:Int):=⟨(hexI u3.toNat).toNat,by omega⟩
           refine T.sub [(0,.s s),(2,.v (.string ByteArray.empty)),(3,dI 0),(4,dN a),(5,dN b),(7,.s s),(10,.s s),(11,.v (.int .u8 ((u1.toNat:Nat):Int))),(21,.s s),(22,.v (.int .u8 ((u1.toNat:Nat):Int))),(25,.s s),(26,.v (.int .u8 ((u1.toNat:Nat):Int))),(33,.s s),(34,.v (.int .u8 ((u2.toNat:Nat):Int))),(35,dI (hexI u2.toNat)),(36,.s s),(37,.v (.int .u8 ((u3.toNat:Nat):Int))),(38,dI (hexI u3.toNat)),(39,dI (hexI u2.toNat))] ⟨sk O,sk O,sk O,sc O (Cv.eq (congrArg dI ha)),sc O (Cv.eq (congrArg dI hb)),sk O,sk O,sk O,sk O,sk O,sk O,sk O,sk O,sk O,sk O,sk O,sk O,sk O,sk O,trivial⟩ (g' 3 O (tP O (p_shl4 (a:=a) O O (by omega)) (g' 1 O (tP O (p_or64 (a:=a) (b:=b) O O (by omega) (by omega)) (tP O (zav O (c:=((a*16+b:Nat):Int)) (cv_3_5 (by omega))) (tE O (zE [.tmp 49] O O (.cons (CellD.v O) .nil) O Tryz.runUnderlying103 Tryz.sizeOf5 Tryz.zeroValue5 O O O O) ?_))))))
           rintro _ _ ⟨g15,rfl,rfl⟩
           refine tP O ((p_bytes (j:=0) (xs:=[((a*16+b:Nat):Int)]) O O (by simp) za6 (by kernel_rfl) (by kernel_rfl)).cv (Cv.str (by rw[strOfNums_size];show 1≤maxLen;decide))) (g' 7 O ?_)
           exact tRs O Tryz.results198 (.cons (zd (zc O) (Cv.eq (congrArg D.s (by have T:=esc_3 (a:=a) (b:=b) hz (by rw[←(zx hu1)];have:=hc5;omega) (by rw[←(zx hu1)];have:=hc6;omega) ⟨by rw[←(zx hu1)];have:=hc10.1;omega,by have:=hc10.2;omega⟩ (by rw[←zx hu2];exact ha) (by rw[←zx hu3];exact hb);first | (rw[nums_one (by omega)];exact T.1) | exact T.2)))) (.cons (zd (zc O) (Cv.eq (congrArg dN (by have T:=esc_3 (a:=a) (b:=b) hz (by rw[←(zx hu1)];have:=hc5;omega) (by rw[←(zx hu1)];have:=hc6;omega) ⟨by rw[←(zx hu1)];have:=hc10.1;omega,by have:=hc10.2;omega⟩ (by rw[←zx hu2];exact ha) (by rw[←zx hu3];exact hb);first | (rw[nums_one (by omega)];exact T.1) | exact T.2)))) .nil)) O HSub.none ⟨O,O⟩
         · simp only[bX,bJ] at hc14
           refine g' 10 O ?_
           exact tRs rfl Tryz.results198 (.cons (zd (zc rfl) ((cS).trans (Cv.eq (congrArg D.s (by have T:=zft hz (by rw[←(zx hu1)];have:=hc5;omega) (by rw[←(zx hu1)];have:=hc6;omega) (fun e=>by have h3:=e.2.2.1;have h4:=e.2.2.2;rw[←zx hu2] at h3;rw[←zx hu3] at h4;rcases hc14 with h | h<;>omega);first | exact T.1 | exact T.2))))) (.cons (zd (zc rfl) (Cv.eq (congrArg dN (by have T:=zft hz (by rw[←(zx hu1)];have:=hc5;omega) (by rw[←(zx hu1)];have:=hc6;omega) (fun e=>by have h3:=e.2.2.1;have h4:=e.2.2.2;rw[←zx hu2] at h3;rw[←zx hu3] at h4;rcases hc14 with h | h<;>omega);first | exact T.1 | exact T.2)))) .nil)) rfl HSub.none ⟨rfl,rfl⟩
       · simp only[bX,bJ] at hc10
         refine g' 10 O ?_
         exact tRs rfl Tryz.results198 (.cons (zd (zc rfl) ((cS).trans (Cv.eq (congrArg D.s (by have T:=zft hz (by rw[←(zx hu1)];have:=hc5;omega) (by rw[←(zx hu1)];have:=hc6;omega) (fun e=>by have h3:=e.1;have h4:=e.2.1;rw[←(zx hu1)] at h3;rcases hc10 with h | h<;>omega);first | exact T.1 | exact T.2))))) (.cons (zd (zc rfl) (Cv.eq (congrArg dN (by have T:=zft hz (by rw[←(zx hu1)];have:=hc5;omega) (by rw[←(zx hu1)];have:=hc6;omega) (fun e=>by have h3:=e.1;have h4:=e.2.1;rw[←(zx hu1)] at h3;rcases hc10 with h | h<;>omega);first | exact T.1 | exact T.2)))) .nil)) rfl HSub.none ⟨rfl,rfl⟩
theorem Unquote_c (s:ByteArray) (h2:2≤s.size) (hs:s.size≤1000000):
 CD Tryz.prog 178 [] [.s s] (isR (.tup [D.s (unqT s),dB (zbx s)])):=by
 refine tZ Tryz.func178 O O (fun C=>?_)
 refine T.bd 0 O (fun bd0=>?_)
 have sz0:s.size≤9223372036854775807:=bd0
 have hts:=trimP_size s
 refine g' 8 O (tE O (ef_alloc (zv:=(.agg #[(.pointer none),(.slice none 0 0)])) (X:=.agg [.v (.pointer none),.ov (.slice none 0 0)]) Tryz.zeroValue213 ⟨O,O,trivial⟩ ((Cv.vagg (by decide)).trans (Cv.agg (gc (.cons (Cv.ov O) .nil))))) ?_)
 rintro _ _ ⟨g1,rfl,rfl⟩
 refine T.subH (HSub.nil 1 5) (g' 6 O (tW O acs (trimP_c s) (g' 4 O (T.front 1 O (tl4 (fun (a_:ByteArray) (b_:Value) (c_:Value) (d_:List UInt8)=>[(0,.s s),(4,dP g1 0),(5,.s a_)]) (fun a_ b_ c_ d_=>[.bx g1 213 (.agg [.v b_,.ov c_]),.sl c_ 1 5 (d_.map dU8)]) (fun a_ b_ c_ d_=>(b_=.pointer none∨b_=.pointer (some ⟨g1,0,none⟩))∧(UInv (zcv s) a_ d_)∧(a_.size≤s.size)∧(d_.length+a_.size≤s.size)∧(d_=[]→a_.size=(zcv s).size)) (fun a_ b_ c_ d_=>a_.size) (zcv s) (.pointer none) (.slice none 0 0) [] O (sa O) HSub.rfl' ⟨.inl O,UInv.zero _,hts.2,by show 0+(zcv s).size≤s.size;omega,fun _=>rfl⟩ ?_)))))
 rintro r pv ov bs ⟨hp,hu,hr,hb,hn⟩
 have hts:=trimP_size s
 refine g' 7 O ?_
 refine tD O (fun hc2=>?_) (fun hc2=>?_)
 · skip
   have hz:=ne_size hc2
   have hex0:(r.extract 1 r.size).size=r.size-1:=by rw[ByteArray.size_extract];omega
   refine g' 7 O ?_
   obtain ⟨u1,hu1⟩:=zai r 0 (by omega)
   have hlu1:=u1.toNat_lt
   refine tP O (zl (k:=0) O O Tryz.runUnderlying9 (by first | rfl | omega) hu1) (g' 3 O ?_)
   refine tD O (fun hc3=>?_) (fun hc3=>?_)
   · skip
     refine g' 3 O (tP O (zl (k:=0) O O Tryz.runUnderlying9 (by first | rfl | omega) hu1) (tX [0,0] O O acs (zb4 g1 pv ov bs u1 hp (by (try simp only[la,lc,ln]);omega)) ?_))
     rintro _ _ ⟨bv4,rfl,rfl⟩
     refine g' 5 O (tP O (zw (a:=1) (c:=r.size) O O O (by first | rfl | (show _=_;omega)) (by first | rfl | (show _=_;omega)) Tryz.runUnderlying9 (by omega) (by omega)) (g' 6 O ?_))
     exact tp4 (r.extract 1 r.size) (.pointer (some ⟨g1,0,none⟩)) bv4 (bs++[u1]) (sa O) HSub.rfl' ⟨.inr O,hu.raw hu1 (u8_ne92 hc3),by simp only[ByteArray.size_extract];omega,by simp only[la,lc,ln,len_toList,ByteArray.size_extract];omega,by intro e;have:=congrArg List.length e;simp only[la,lc,ln,len_toList] at this;omega⟩ (by simp only[ByteArray.size_extract];omega)
   · skip
     refine g' 5 O (tP O (zw (a:=1) (c:=r.size) O O O (by first | rfl | (show _=_;omega)) (by first | rfl | (show _=_;omega)) Tryz.runUnderlying9 (by omega) (by omega)) (tW O acs (escaped_c (r.extract 1 r.size) (by omega)) (g' 14 O ?_)))
     refine tD O (fun hc5=>?_) (fun hc5=>?_)
     · skip
       refine g' 12 O ?_
       exact tRs O Tryz.results178 (.cons (zd (zc O) ((cS).trans (Cv.eq (congrArg D.s (by have T:=unq_n (hu.none (by rw[hu1,u8_92 (u:=u1) (by have:=hc3;omega)]) (by have:=hc5;omega));first | exact T.1 | exact T.2))))) (.cons (zd (zc O) (cB ((by have T:=unq_n (hu.none (by rw[hu1,u8_92 (u:=u1) (by have:=hc3;omega)]) (by have:=hc5;omega));first | exact T.1 | exact T.2)))) .nil)) O HSub.none ⟨O,O⟩
     · skip
       obtain ⟨hes,hes1,hes2⟩:=escT_size (r.extract 1 r.size)
       have hex1:(r.extract 1 r.size).size=r.size-1:=by rw[ByteArray.size_extract];omega
       refine g' 5 O (tX [0,0] O O acs (WriteString_c g1 pv ov bs (escT (r.extract 1 r.size)) hp (by (try simp only[la,lc,ln]);omega) (by first | decide | omega)) ?_)
       rintro _ _ ⟨bv6,rfl,rfl⟩
       refine g' 5 O (tP O (zy (c:=((1+(escN (r.extract 1 r.size)):Nat):Int)) O O (zn (by omega) (by omega))) (tP O (zw (a:=1+(escN (r.extract 1 r.size))) (c:=r.size) O O O (by first | rfl | (show _=_;omega)) (by first | rfl | (show _=_;omega)) Tryz.runUnderlying9 (by omega) (by omega)) (g' 3 O ?_)))
       exact tp4 (r.extract (1+(escN (r.extract 1 r.size))) r.size) (.pointer (some ⟨g1,0,none⟩)) bv6 (bs++(escT (r.extract 1 r.size)).data.toList) (sa O) HSub.rfl' ⟨.inr O,hu.esc (by rw[hu1,u8_92 (u:=u1) (by have:=hc3;omega)]) (by have:=hc5;omega),by simp only[ByteArray.size_extract];omega,by simp only[la,lc,ln,len_toList,ByteArray.size_extract];omega,by intro e;have:=congrArg List.length e;simp only[la,lc,ln,len_toList] at this;omega⟩ (by simp only[ByteArray.size_extract];omega)
 · skip
   have hre:r=ByteArray.empty:=Decidable.byContradiction hc2
   have htz:=trimS_size ⟨bs.toArray⟩
   have hbz:(⟨bs.toArray⟩:ByteArray).size=bs.length:=zM bs
   have hdn:=hu.done hre
   have hne:bs≠[]:=fun e=>by have h1:=hn e;rw[hre] at h1;have h2:(ByteArray.empty).size=0:=rfl;have hts:=trimP_size s;omega
   refine g' 7 O (tX [0,0] O O acs (String_c g1 pv ov bs hne) ?_)
   rintro _ _ ⟨rfl,rfl⟩
   refine tW O acs (trimS_c (⟨bs.toArray⟩)) (g' 7 O (tW O acs (Quote_c (zdm (⟨bs.toArray⟩)) (by omega)) (g' 4 O ?_)))
   refine tD O (fun hc7=>?_) (fun hc7=>?_)
   · skip
     refine g' 8 O ?_
     exact tRs O Tryz.results178 (.cons (zd (zc O) ((cS).trans (Cv.eq (congrArg D.s (by have T:=unq_f hdn (by simpa using hc7);first | exact T.1 | exact T.2))))) (.cons (zd (zc O) (cB ((by have T:=unq_f hdn (by simpa using hc7);first | exact T.1 | exact T.2)))) .nil)) O HSub.none ⟨O,O⟩
   · skip
     refine g' 10 O ?_
     exact tRs O Tryz.results178 (.cons (zd (zc O) (Cv.eq (congrArg D.s (by have T:=unq_t (s:=s) (o:=bs) (by simpa using hc7);first | exact T.1 | exact T.2)))) (.cons (zd (zc O) (cB ((by have T:=unq_t (s:=s) (o:=bs) (by simpa using hc7);first | exact T.1 | exact T.2)))) .nil)) O HSub.none ⟨O,O⟩
end Lp
set_option linter.unusedSimpArgs false
set_option linter.unusedVariables false
set_option maxHeartbeats 4000000
set_option maxRecDepth 100000
namespace Lp
open Go Go.RowKit Go.Proofs
theorem quoted_c (s:ByteArray) (hs:s.size≤1000000):
 CD Tryz.prog 155 [] [.s s] (isR (.tup [TokD.d ((strT (bl8 s)).1),dN ((strT (bl8 s)).2)])):=by
 refine tZ Tryz.func155 O O (fun C=>?_)
 refine T.bd 0 O (fun bd0=>?_)
 have sz0:s.size≤9223372036854775807:=bd0
 refine g' 2 O ?_
 refine tA O (fun g1=>?_)
 refine g' 12 O (tE O (zbJ O Tryz.runUnderlying9) ?_)
 rintro _ _ ⟨g2,rfl,rfl⟩
 refine g' 3 O (tl2 (fun (a_:Nat) (b_:Bool)=>[(0,.s s),(2,dP g1 0),(10,dP g2 0),(4,dB b_)]) (fun a_ b_=>[.it g2 s a_,.bx g1 135 (.agg [dI 0,dI 0,.v (.string ByteArray.empty)])]) (fun a_ b_=>(a_≤s.size)∧(qInv s a_ (decide (a_=0)||b_))) (fun a_ b_=>s.size-a_) 0 false O ⟨sk O,sk O,sk O,sc O (Cv.rfl'),trivial⟩ HSub.rfl' ⟨Nat.zero_le _,qInv_zero⟩ ?_)
 rintro p b ⟨hp,hq⟩
 rcases Nat.lt_or_ge p s.size with hlt | hge
 · skip
   have hrune:=zX hlt
   have hrl:=za9 s p
   have hdw:=zJ s p hlt
   have hdp:=zp s p
   refine g' 2 O (tE O (zaU (i:=0) O O hlt) ?_)
   rintro _ _ ⟨rfl,rfl⟩
   refine g' 22 O ?_
   refine tOr 2 1 (c:=b) O O O O O O (fun hb3 nx4=>?_) ?_
   · skip
     have hf5:=of_decide_eq_false hb3
     refine g' 1 O ?_
     exact nx4 _ O O (kx 1 O O)
   refine g' 3 O ?_
   refine tC O (fun hc6=>?_) (fun hc6=>?_)
   · simp only[bX,bJ] at hc6
     refine g' 5 O ?_
     exact tp2 (p+decW s p) false (sa rfl) HSub.rfl' ⟨by have:=zJ s p hlt;omega,by rw[show (decide (p+decW s p=0)||false)=false by rw[decide_eq_false (by omega)];rfl];exact qInv_skip (by have h0:(decide (p=0)||b)=true:=(by have h:=hc6;simp only[Bool.or_eq_true,decide_eq_true_eq];rcases h with h | h;exact .inl (by omega);exact .inr h);rw[←h0];exact hq) hlt⟩ (by have:=zp s p;omega)
   · simp only[bX,bJ] at hc6
     refine g' 7 O ?_
     refine tD O (fun hc7=>?_) (fun hc7=>?_)
     · skip
       refine g' 5 O ?_
       exact tp2 (p+decW s p) true (sa O) HSub.rfl' ⟨by have:=zJ s p hlt;omega,by rw[show (decide (p+decW s p=0)||true)=true by rw[decide_eq_false (by omega)];rfl];exact qInv_esc (by have h0:(decide (p=0)||b)=false:=(by have h:=hc6;simp only[Bool.or_eq_false_iff,decide_eq_false_iff_not];exact⟨by have:=h.1;omega,h.2⟩);rw[←h0];exact hq) hlt (by omega)⟩ (by have:=zp s p;omega)
     · skip
       refine g' 7 O ?_
       refine tD O (fun hc8=>?_) (fun hc8=>?_)
       · skip
         have hpp:1≤p:=by have:=hc6.1;omega
         have hfd:=qInv_found (by have h0:(decide (p=0)||b)=false:=(by have h:=hc6;simp only[Bool.or_eq_false_iff,decide_eq_false_iff_not];exact⟨by have:=h.1;omega,h.2⟩);rw[←h0];exact hq) hlt (by omega)
         refine g' 4 O (tP O (zy (c:=((p+1:Nat):Int)) O O (zn (by omega) (by omega))) (tP O (zw (a:=0) (c:=p+1) O O O (by first | rfl | (show _=_;omega)) (by first | rfl | (show _=_;omega)) Tryz.runUnderlying9 (by omega) (by omega)) (tW O acs (Unquote_c (s.extract 0 (p+1)) (by simp only[ByteArray.size_extract];omega) (by simp only[ByteArray.size_extract];omega)) (g' 14 O ?_))))
         refine tC O (fun hc9=>?_) (fun hc9=>?_)
         · simp only[bX,bJ] at hc9
           refine g' 2 O (tP O (zf [] [] (zv:=(.agg #[(.int .i64 0),(.int .i64 0),(.string ByteArray.empty)])) O O (.nil) (Tryz.runUnderlying135) Tryz.zeroValue135 zU ⟨O,O,O,trivial⟩ O) (gQ 11 [1] O O ?_))
           exact tRs O Tryz.results155 (.cons (zd (zh (X:=.agg [dI 0,dI 0,.v (.string ByteArray.empty)]) (d:=.agg [dI 0,dI 0,.v (.string ByteArray.empty)]) (i:=1) O O Tryz.isAgg135 Tryz.sizeOf135 O O) ((Cv.agg (gc (gc (.cons (cS) .nil)))).trans (Cv.eq (congrArg TokD.d (show (TokD.mk 0 0 ByteArray.empty)=(strT (bl8 s)).1 from(by rw[strT_f hfd hlt (by simpa using hc9)];try rfl)))))) (.cons (zd (zc O) (Cv.eq (congrArg dN (by rw[strT_f hfd hlt (by simpa using hc9)];try rfl)))) .nil)) O HSub.none ⟨O,O⟩
         · simp only[bX,bJ] at hc9
           refine g' 5 O (tP O (zf [0,2] [.const (.int .i64 3),.tmp 38] (zv:=(.agg #[(.int .i64 0),(.int .i64 0),(.string ByteArray.empty)])) O O (.cons (CellD.v O) (.cons CellD.s .nil)) (Tryz.runUnderlying135) Tryz.zeroValue135 zU ⟨O,O,O,trivial⟩ O) (g' 1 O (tP O (zy (c:=((p+1:Nat):Int)) O O (zn (by omega) (by omega))) (gQ 10 [1] O O ?_))))
           exact tRs O Tryz.results155 (.cons (zd (zh (X:=.agg [dI 3,dI 0,.s (unqT (s.extract 0 (p+1)))]) (d:=.agg [dI 3,dI 0,.s (unqT (s.extract 0 (p+1)))]) (i:=1) O O Tryz.isAgg135 Tryz.sizeOf135 O O) (Cv.eq (congrArg TokD.d (show (TokD.mk 3 0 (unqT (s.extract 0 (p+1))))=(strT (bl8 s)).1 from(by rw[strT_t hfd hlt (by simpa using hc9)];try rfl))))) (.cons (zd (zc O) (Cv.eq (congrArg dN (by rw[strT_t hfd hlt (by simpa using hc9)];try rfl)))) .nil)) O HSub.none ⟨O,O⟩
       · skip
         refine g' 3 O ?_
         exact tp2 (p+decW s p) b (sa O) HSub.rfl' ⟨by have:=zJ s p hlt;omega,by rw[show (decide (p+decW s p=0)||b)=false by rw[decide_eq_false (by omega)];simpa using hc6.2];exact qInv_next (by have h0:(decide (p=0)||b)=false:=(by have h:=hc6;simp only[Bool.or_eq_false_iff,decide_eq_false_iff_not];exact⟨by have:=h.1;omega,h.2⟩);rw[←h0];exact hq) hlt (by omega) (by omega)⟩ (by have:=zp s p;omega)
 · skip
   have hrune:=zaf hge
   refine g' 2 O (tP O (zbA (i:=0) O O hge) (g' 12 O (tP O (zf [] [] (zv:=(.agg #[(.int .i64 0),(.int .i64 0),(.string ByteArray.empty)])) O O (.nil) (Tryz.runUnderlying135) Tryz.zeroValue135 zU ⟨O,O,O,trivial⟩ O) (gQ 5 [1] O O ?_))))
   exact tRs O Tryz.results155 (.cons (zd (zh (X:=.agg [dI 0,dI 0,.v (.string ByteArray.empty)]) (d:=.agg [dI 0,dI 0,.v (.string ByteArray.empty)]) (i:=1) O O Tryz.isAgg135 Tryz.sizeOf135 O O) ((Cv.agg (gc (gc (.cons (cS) .nil)))).trans (Cv.eq (congrArg TokD.d (show (TokD.mk 0 0 ByteArray.empty)=(strT (bl8 s)).1 from(by rw[qInv_none hq hge];try rfl)))))) (.cons (zd (zc O) (Cv.eq (congrArg dN (by rw[qInv_none hq hge];try rfl)))) .nil)) O HSub.none ⟨O,O⟩
theorem number_c (s:ByteArray) (ev:Value) (hev:EvOk ev) (hs:s.size≤1000000) (hz:0<s.size) (hk:zt ((decR s 0:Nat):Int)=2):
 CD Tryz.prog 154 [HPow,HErr ev] [.s s] (fun r H'=>r=.tup [TokD.d ((numT (bl8 s)).1),dN ((numT (bl8 s)).2)]∧H'=[HPow,HErr ev]):=by
 refine tZ Tryz.func154 O O (fun C=>?_)
 refine T.bd 0 O (fun bd0=>?_)
 have sz0:s.size≤9223372036854775807:=bd0
 have hlt0:=hz
 refine g' 2 O ?_
 refine tA O (fun g1=>?_)
 refine g' 6 O (tE O (Qu.ef (d:=.sh 1 ([2].map dI)) (ze [.const (.int .i64 2)] O O (.cons (CellD.v O) .nil) O Tryz.runUnderlying55 Tryz.sizeOf3 Tryz.zeroValue3 O O O O)) ?_)
 rintro _ _ ⟨rfl,rfl⟩
 refine tW O acs (zfn s [2]) (g' 6 O (tE O (Qu.ef (d:=.sh 1 ([1,2].map dI)) (ze [.const (.int .i64 1),.const (.int .i64 2)] O O (.cons (CellD.v O) (.cons (CellD.v O) .nil)) O Tryz.runUnderlying55 Tryz.sizeOf3 Tryz.zeroValue3 O O O O)) ?_))
 rintro _ _ ⟨rfl,rfl⟩
 refine tW O acs (zfn s [1,2]) (g' 4 O ?_)
 have hn1:=zaX (inK [2]) s
 have hn2:=zaX (inK [1,2]) s
 have hq0:s.extract 0 (runL (inK [2]) (bl8 s))=mkB ((bl8 s).take (runL (inK [2]) (bl8 s))):=zbI hn1
 have hpos:1≤runL (inK [2]) (bl8 s):=run_digit_pos hz hk
 have hdg:Digs (bl8 (s.extract 0 (runL (inK [2]) (bl8 s)))):=by rw[hq0,zaP];exact run_digits _ _ rfl
 have hsz0:(s.extract 0 (runL (inK [2]) (bl8 s))).size=runL (inK [2]) (bl8 s):=by rw[ByteArray.size_extract];omega
 have hne13:bl8 (s.extract 0 (runL (inK [2]) (bl8 s)))≠[]:=fun e=>by have:=congrArg List.length e;rw[zF,hsz0] at this;simp only[ln] at this;omega
 refine g' 3 O (tP O (zw (a:=0) (c:=runL (inK [2]) (bl8 s)) O O O (by first | rfl | (show _=_;omega)) (by first | rfl | (show _=_;omega)) Tryz.runUnderlying9 (by omega) (by omega)) (tX [2] O O acs (atoi_c (s.extract 0 (runL (inK [2]) (bl8 s))) ev hev hdg hne13 (by simp only[ByteArray.size_extract];omega)) ?_))
 rintro _ _ ⟨av,ax,rfl,rfl,hv13,hv0,hv1⟩
 refine g' 9 O ?_
 by_cases h13:(13:Int)<((runL (inK [2]) (bl8 s):Nat):Int)
 · skip
   have hbad:13<nD s∨1000000000000<vD s:=.inl (by show 13<runL (inK [2]) (bl8 s);omega)
   refine g' 2 O (tP O (zca O O (decide_eq_true h13)) (g' 13 O (tP O (zf [] [] (zv:=(.agg #[(.int .i64 0),(.int .i64 0),(.string ByteArray.empty)])) O O (.nil) (Tryz.runUnderlying135) Tryz.zeroValue135 zU ⟨O,O,O,trivial⟩ O) (gQ 6 [1] O O (T.front 2 O ?_)))))
   exact tRs O Tryz.results154 (.cons (zd (zh (X:=.agg [dI 0,dI 0,.v (.string ByteArray.empty)]) (d:=.agg [dI 0,dI 0,.v (.string ByteArray.empty)]) (i:=2) O O Tryz.isAgg135 Tryz.sizeOf135 O O) ((Cv.agg (gc (gc (.cons (cS) .nil)))).trans (Cv.eq (congrArg TokD.d (show (TokD.mk 0 0 ByteArray.empty)=(numT (bl8 s)).1 from(by rw[zd5 hbad];try rfl)))))) (.cons (zd (zc O) (Cv.eq (congrArg dN (by rw[zd5 hbad];try rfl)))) .nil)) O (HSub.fst 2 O) ⟨O,O⟩
 · skip
   obtain ⟨e1,e2⟩:=hv13 (by rw[hsz0];omega)
   subst e1;subst e2
   have hvd:digV (bl8 (s.extract 0 (runL (inK [2]) (bl8 s))))=vD s:=by rw[hq0,zaP]
   have hvl:vD s<10000000000000:=vD_le (run_digits _ _ rfl) (by rw[List.length_take];show min (runL (inK [2]) (bl8 s)) _≤13;omega)
   refine T.sub [(0,.s s),(2,dP g1 0),(3,dI 0),(4,dN (runL (inK [2]) (bl8 s))),(5,dN (runL (inK [1,2]) (bl8 s))),(6,dN (vD s)),(7,.v .nilIface)] ⟨sk O,sk O,sk O,sk O,sk O,sc O (Cv.eq (congrArg (fun n:Nat=>dI (n:Int)) hvd)),sk O,trivial⟩ (g' 2 O (tP O (zca O O (decide_eq_false h13)) (g' 2 O (tG O (zdU (r:=.bool false) O O (fun _=>by kernel_rfl)) (g' 7 O ?_)))))
   refine tD O (fun hc2=>?_) (fun hc2=>?_)
   · skip
     have hbad:13<nD s∨1000000000000<vD s:=.inr (by have:=hc2;omega)
     refine g' 2 O (tP O (zf [] [] (zv:=(.agg #[(.int .i64 0),(.int .i64 0),(.string ByteArray.empty)])) O O (.nil) (Tryz.runUnderlying135) Tryz.zeroValue135 zU ⟨O,O,O,trivial⟩ O) (gQ 6 [1] O O (T.front 2 O ?_)))
     exact tRs O Tryz.results154 (.cons (zd (zh (X:=.agg [dI 0,dI 0,.v (.string ByteArray.empty)]) (d:=.agg [dI 0,dI 0,.v (.string ByteArray.empty)]) (i:=2) O O Tryz.isAgg135 Tryz.sizeOf135 O O) ((Cv.agg (gc (gc (.cons (cS) .nil)))).trans (Cv.eq (congrArg TokD.d (show (TokD.mk 0 0 ByteArray.empty)=(numT (bl8 s)).1 from(by rw[zd5 hbad];try rfl)))))) (.cons (zd (zc O) (Cv.eq (congrArg dN (by rw[zd5 hbad];try rfl)))) .nil)) O (HSub.fst 2 O) ⟨O,O⟩
   · skip
     have hgood:¬(13<nD s∨1000000000000<vD s):=fun e=>by rcases e with e | e;(exact h13 (by have e:13<runL (inK [2]) (bl8 s):=e;omega));(have:=hc2;omega)
     refine g' 10 O ?_
     refine tD O (fun hc3=>?_) (fun hc3=>?_)
     · skip
       have hsame:nA s=nD s:=by show runL (inK [1,2]) (bl8 s)=runL (inK [2]) (bl8 s);omega
       refine g' 3 O (tX [2] O O acs (itoa_c (vD s) (by omega)) ?_)
       rintro _ _ ⟨rfl,rfl⟩
       refine tP O (zf [0,2] [.const (.int .i64 2),.tmp 37] (zv:=(.agg #[(.int .i64 0),(.int .i64 0),(.string ByteArray.empty)])) O O (.cons (CellD.v O) (.cons CellD.s .nil)) (Tryz.runUnderlying135) Tryz.zeroValue135 zU ⟨O,O,O,trivial⟩ O) (gQ 7 [2] O O ?_)
       exact tRs O Tryz.results154 (.cons (zd (zh (X:=.agg [dI 2,dI 0,.s (digB (vD s))]) (d:=.agg [dI 2,dI 0,.s (digB (vD s))]) (i:=2) O O Tryz.isAgg135 Tryz.sizeOf135 O O) (Cv.eq (congrArg TokD.d (show (TokD.mk 2 0 (digB (vD s)))=(numT (bl8 s)).1 from(by rw[zeN hgood hsame];try rfl))))) (.cons (zd (zc O) (Cv.eq (congrArg dN (by rw[zeN hgood hsame];try rfl)))) .nil)) O (HSub.fst 2 O) ⟨O,O⟩
     · skip
       have hdiff:¬nA s=nD s:=by show ¬runL (inK [1,2]) (bl8 s)=runL (inK [2]) (bl8 s);omega
       have hsc:=secB_cases (s.extract (runL (inK [2]) (bl8 s)) (runL (inK [1,2]) (bl8 s)))
       have hle:=nD_le s
       refine g' 7 O (tP O (zw (a:=runL (inK [2]) (bl8 s)) (c:=runL (inK [1,2]) (bl8 s)) O O O (by first | rfl | (show _=_;omega)) (by first | rfl | (show _=_;omega)) Tryz.runUnderlying9 (by omega) (by omega)) (tW O acs (seconds_c (s.extract (runL (inK [2]) (bl8 s)) (runL (inK [1,2]) (bl8 s)))) (g' 5 O ?_)))
       obtain ⟨q,hq,hq1⟩:∃ q:Nat,1000000000 / secB (s.extract (runL (inK [2]) (bl8 s)) (runL (inK [1,2]) (bl8 s)))=q∧q≤1000000000:=⟨_,rfl,Nat.div_le_self _ _⟩
       refine g' 4 O ?_
       refine tOr 2 4 (c:=decide (((q:Nat):Int)<(((vD s):Nat):Int))) O O O O O O (fun hb4 nx5=>?_) ?_
       · skip
         have hf6:=of_decide_eq_false hb4
         refine g' 2 O (tG O (zdS (c:=((q:Nat):Int)) O O (by omega) (zn (by rw[Int.tdiv_eq_ediv_of_nonneg (by omega),←hq];first | exact Int.natCast_ediv _ _ | exact(Int.natCast_ediv _ _).symm) (by omega))) (g' 1 O ?_))
         exact nx5 _ O O (kx 4 O O)
       refine g' 2 O ?_
       refine tC O (fun hc7=>?_) (fun hc7=>?_)
       · simp only[bX,bJ] at hc7
         have hs3:secB (s.extract (nD s) (nA s))=0∨1000000000 / secB (s.extract (nD s) (nA s))<vD s:=by have h:=hc7;rcases h with h | h;(exact .inl (by show secB (s.extract (runL (inK [2]) (bl8 s)) (runL (inK [1,2]) (bl8 s)))=0;omega));(exact .inr (by show 1000000000 / secB (s.extract (runL (inK [2]) (bl8 s)) (runL (inK [1,2]) (bl8 s)))<_;rw[hq];omega))
         refine g' 2 O (tP O (zf [] [] (zv:=(.agg #[(.int .i64 0),(.int .i64 0),(.string ByteArray.empty)])) O O (.nil) (Tryz.runUnderlying135) Tryz.zeroValue135 zU ⟨O,O,O,trivial⟩ O) (gQ 6 [1] O O (T.front 2 O ?_)))
         exact tRs O Tryz.results154 (.cons (zd (zh (X:=.agg [dI 0,dI 0,.v (.string ByteArray.empty)]) (d:=.agg [dI 0,dI 0,.v (.string ByteArray.empty)]) (i:=2) O O Tryz.isAgg135 Tryz.sizeOf135 O O) ((Cv.agg (gc (gc (.cons (cS) .nil)))).trans (Cv.eq (congrArg TokD.d (show (TokD.mk 0 0 ByteArray.empty)=(numT (bl8 s)).1 from(by rw[zbt hgood hdiff hs3];try rfl)))))) (.cons (zd (zc O) (Cv.eq (congrArg dN (by rw[zbt hgood hdiff hs3];try rfl)))) .nil)) O (HSub.fst 2 O) ⟨O,O⟩
       · simp only[bX,bJ] at hc7
         have hs4:¬(secB (s.extract (nD s) (nA s))=0∨1000000000 / secB (s.extract (nD s) (nA s))<vD s):=fun e=>by have h:=hc7;rcases e with e | e;(have e:secB (s.extract (runL (inK [2]) (bl8 s)) (runL (inK [1,2]) (bl8 s)))=0:=e;omega);(have e:1000000000 / secB (s.extract (runL (inK [2]) (bl8 s)) (runL (inK [1,2]) (bl8 s)))<vD s:=e;rw[hq] at e;omega)
         have hmu:vD s*secB (s.extract (runL (inK [2]) (bl8 s)) (runL (inK [1,2]) (bl8 s)))≤1000000000:=by have h:=hc7;exact(Nat.le_div_iff_mul_le (by omega)).1 (by rw[hq];omega)
         refine g' 6 O ?_
         obtain ⟨m,hm,hm1⟩:∃ m:Nat,(vD s)*(secB (s.extract (runL (inK [2]) (bl8 s)) (runL (inK [1,2]) (bl8 s))))=m∧m≤1000000000:=⟨_,rfl,hmu⟩
         refine tP O (zeq (c:=((m:Nat):Int)) O O (zn (by rw[←hm];first | exact Int.natCast_mul _ _ | exact(Int.natCast_mul _ _).symm) (by omega))) (tX [2] O O acs (itoa_c m (by omega)) ?_)
         rintro _ _ ⟨rfl,rfl⟩
         refine tP O (zf [0,2] [.const (.int .i64 4),.tmp 57] (zv:=(.agg #[(.int .i64 0),(.int .i64 0),(.string ByteArray.empty)])) O O (.cons (CellD.v O) (.cons CellD.s .nil)) (Tryz.runUnderlying135) Tryz.zeroValue135 zU ⟨O,O,O,trivial⟩ O) (gQ 6 [2] O O ?_)
         exact tRs O Tryz.results154 (.cons (zd (zh (X:=.agg [dI 4,dI 0,.s (digB m)]) (d:=.agg [dI 4,dI 0,.s (digB m)]) (i:=2) O O Tryz.isAgg135 Tryz.sizeOf135 O O) (Cv.eq (congrArg TokD.d (show (TokD.mk 4 0 (digB m))=(numT (bl8 s)).1 from(by have e:=zcd hgood hdiff hs4;rw[show vD s*secB (s.extract (nD s) (nA s))=m from hm] at e;rw[e];try rfl))))) (.cons (zd (zc O) (Cv.eq (congrArg dN (by have e:=zcd hgood hdiff hs4;rw[show vD s*secB (s.extract (nD s) (nA s))=m from hm] at e;rw[e];try rfl)))) .nil)) O (HSub.fst 2 O) ⟨O,O⟩
end Lp
set_option linter.unusedSimpArgs false
set_option linter.unusedVariables false
set_option maxHeartbeats 4000000
set_option maxRecDepth 100000
namespace Lp
open Go Go.RowKit Go.Proofs
theorem infz_135:IzP Tryz.prog 135 (.agg #[(.int .i64 0),(.int .i64 0),(.string ByteArray.empty)]) 3 32:=zcs (by kernel_rfl)
theorem und_67:Tryz.prog.underlying 67=some (.slice 135):=by kernel_rfl
theorem Spell_c (s:ByteArray) (hs:s.size≤1000000000):
 CD Tryz.prog 152 [] [.s s] (isOwn 1 21 ((zo s).map dR)):=by
 refine tZ Tryz.func152 O O (fun C=>?_)
 refine T.bd 0 O (fun bd0=>?_)
 have sz0:s.size≤9223372036854775807:=bd0
 refine g' 14 O (tE O (zbJ O Tryz.runUnderlying9) ?_)
 rintro _ _ ⟨g1,rfl,rfl⟩
 refine g' 3 O (tl3 (fun (a_:Nat) (b_:Value) (c_:List Int)=>[(2,dZ),(7,dP g1 0),(3,.ov b_)]) (fun a_ b_ c_=>[.it g1 s a_,.sl b_ 1 21 (c_.map dR)]) (fun a_ b_ c_=>(a_≤s.size)∧(c_.length≤a_)∧(zo s=c_++zao s a_)) (fun a_ b_ c_=>s.size-a_) 0 (.slice none 0 0) [] O ⟨sk O,sk O,sc O (Cv.ov O),trivial⟩ (HSub.trans (HSub.nil 1 21) (HSub.perm (List.Perm.swap _ _ _))) ⟨Nat.zero_le _,Nat.le_refl _,O⟩ ?_)
 rintro p ov l ⟨hp,hn,hf⟩
 rcases Nat.lt_or_ge p s.size with hlt | hge
 · skip
   have hrune:=zX hlt
   have hrl:=za9 s p
   have hdw:=zJ s p hlt
   have hdp:=zp s p
   refine g' 2 O (tE O (zaU (i:=0) O O hlt) ?_)
   rintro _ _ ⟨rfl,rfl⟩
   refine g' 17 O (tE O (zE [.tmp 12] O O (.cons (CellD.v O) .nil) O Tryz.runUnderlying130 Tryz.sizeOf21 Tryz.zeroValue21 O O O O) ?_)
   rintro _ _ ⟨g2,rfl,rfl⟩
   refine tE O (zz (f:=dR) (l:=l) (l':=[((decR s p:Nat):Int)]) (i:=2) O O O (SrcD.own (j:=0) O O) und_130 infz_21 O O (by unfold maxLen;(try simp only[la,lc,ln,lm,lt',ld,ls,lr]);omega) (by (try simp only[la,lc,ln,lm,lt',ld,ls,lr]);omega)) ?_
   rintro _ _ ⟨v3,rfl,rfl⟩
   refine g' 3 O ?_
   exact tp3 (p+decW s p) v3 (l++[((decR s p:Nat):Int)]) (sa O) (HSub.lst 1 O) ⟨by have:=zJ s p hlt;omega,by rw[List.length_append,List.length_singleton];omega,by rw[hf,hrune,List.append_assoc];rfl⟩ (by have:=zp s p;omega)
 · skip
   have hrune:=zaf hge
   refine g' 2 O (tP O (zbA (i:=0) O O hge) (g' 17 O (T.subH (HSub.less (sub_one (i:=1) O)) (T.subH (HSub.turn (h':=.sl ov 1 21 ((zo s).map dR)) O (Hp.eq_sl (show List.map dR l=List.map dR (zo s) from congrArg _ (by rw[hf,hrune,List.append_nil])))) ?_))))
   exact tR O HSub.rfl' ⟨_,O,O⟩
theorem first_c (s:ByteArray) (ev:Value) (hev:EvOk ev) (hs:s.size≤1000000) (hz:0<s.size):
 CD Tryz.prog 109 [HPow,HErr ev] [.s s] (fun r H'=>r=.tup [TokD.d ((zg (bl8 s)).1),dN ((zg (bl8 s)).2)]∧H'=[HPow,HErr ev]):=by
 refine tZ Tryz.func109 O O (fun C=>?_)
 refine T.bd 0 O (fun bd0=>?_)
 have sz0:s.size≤9223372036854775807:=bd0
 obtain ⟨y,hy,ey⟩:∃ y,(zo s)[0]?=some y∧y=((decR s 0:Nat):Int):=⟨_,by rw[show zo s=zao s 0 from rfl,zX hz];rfl,rfl⟩
 have hyl:=za9 s 0
 refine g' 2 O ?_
 refine tA O (fun g1=>?_)
 refine g' 7 O (tX [] O O acs (Spell_c s (by omega)) ?_)
 rintro _ _ ⟨v2,rfl,rfl⟩
 refine tP O (zbB (k:=0) (j:=0) O O O Tryz.runUnderlying130 Tryz.sizeOf21 (by first | rfl | omega) (zI hy)) (tP O (p_load_sl1 O (i:=0) O (zI hy) Tryz.isAgg21 O) (g' 7 O (tW O acs (Kind_c y) (g' 4 O ?_))))
 refine tD O (fun hc3=>?_) (fun hc3=>?_)
 · skip
   have q1:zt ((decR s 0:Nat):Int)=1:=by rw[←ey];exact hc3
   refine g' 3 O (tW O acs (word_c s (by omega)) (gQ 9 [1] O O (T.front 3 O (T.front 3 O ?_))))
   exact tRs O Tryz.results109 (.cons (zd (zh (X:=TokD.d ((zbM (bl8 s)).1)) (d:=TokD.d ((zbM (bl8 s)).1)) (i:=3) O O Tryz.isAgg135 Tryz.sizeOf135 O O) (Cv.eq (congrArg TokD.d (show (zbM (bl8 s)).1=(zg (bl8 s)).1 from(by rw[zdB q1]))))) (.cons (zd (zc O) (Cv.eq (congrArg dN (by rw[zdB q1])))) .nil)) O (HSub.fst 2 O) ⟨O,O⟩
 · skip
   have q1:¬zt ((decR s 0:Nat):Int)=1:=by rw[←ey];exact hc3
   refine g' 3 O (tW O acs (Kind_c y) (g' 4 O ?_))
   refine tD O (fun hc4=>?_) (fun hc4=>?_)
   · skip
     have hk2:zt ((decR s 0:Nat):Int)=2:=by rw[←ey];exact hc4
     refine g' 3 O (tX [2,2] O O acs (number_c s ev hev (by omega) (by omega) hk2) ?_)
     rintro _ _ ⟨rfl,rfl⟩
     refine gQ 9 [3] O O ?_
     exact tRs O Tryz.results109 (.cons (zd (zh (X:=TokD.d ((numT (bl8 s)).1)) (d:=TokD.d ((numT (bl8 s)).1)) (i:=3) O O Tryz.isAgg135 Tryz.sizeOf135 O O) (Cv.eq (congrArg TokD.d (show (numT (bl8 s)).1=(zg (bl8 s)).1 from(by rw[firstT_2 q1 hk2]))))) (.cons (zd (zc O) (Cv.eq (congrArg dN (by rw[firstT_2 q1 hk2])))) .nil)) O (HSub.fst 2 O) ⟨O,O⟩
   · skip
     have q2:¬zt ((decR s 0:Nat):Int)=2:=by rw[←ey];exact hc4
     refine g' 7 O ?_
     refine tD O (fun hc5=>?_) (fun hc5=>?_)
     · skip
       have q3:decR s 0=34:=by have:=hc5;omega
       refine g' 3 O (tW O acs (quoted_c s (by omega)) (gQ 9 [1] O O (T.front 3 O (T.front 3 O ?_))))
       exact tRs O Tryz.results109 (.cons (zd (zh (X:=TokD.d ((strT (bl8 s)).1)) (d:=TokD.d ((strT (bl8 s)).1)) (i:=3) O O Tryz.isAgg135 Tryz.sizeOf135 O O) (Cv.eq (congrArg TokD.d (show (strT (bl8 s)).1=(zg (bl8 s)).1 from(by rw[zcy q1 q2 q3]))))) (.cons (zd (zc O) (Cv.eq (congrArg dN (by rw[zcy q1 q2 q3])))) .nil)) O (HSub.fst 2 O) ⟨O,O⟩
     · skip
       have q3:¬decR s 0=34:=by have:=hc5;omega
       refine g' 6 O (tW O acs (sign_c s (by omega)) (gQ 7 [1] O O (T.front 3 O (T.front 3 O ?_))))
       exact tRs O Tryz.results109 (.cons (zd (zh (X:=TokD.d ((zbz (bl8 s)).1)) (d:=TokD.d ((zbz (bl8 s)).1)) (i:=3) O O Tryz.isAgg135 Tryz.sizeOf135 O O) (Cv.eq (congrArg TokD.d (show (zbz (bl8 s)).1=(zg (bl8 s)).1 from(by rw[zdA q1 q2 q3]))))) (.cons (zd (zc O) (Cv.eq (congrArg dN (by rw[zdA q1 q2 q3])))) .nil)) O (HSub.fst 2 O) ⟨O,O⟩
theorem Words_c (s:ByteArray) (ev:Value) (hev:EvOk ev):
 CD Tryz.prog 38 [HPow,HErr ev] [.s s] (fun r H'=>∃ v,r=.tup [.ov v,dI (lexE s)]∧H'=[.sl v 3 135 ((lexL s).map TokD.d),HPow,HErr ev]):=by
 refine tZ Tryz.func38 O O (fun C=>?_)
 refine T.bd 0 O (fun bd0=>?_)
 have sz0:s.size≤9223372036854775807:=bd0
 refine g' 10 O (tP O (zu O Tryz.runUnderlying9) (g' 3 O ?_))
 refine tD O (fun hc1=>?_) (fun hc1=>?_)
 · skip
   have hlong:600<s.size:=by have:=hc1;omega
   refine g' 8 O (T.subH (HSub.nil 3 135) (T.norm [.sl (.slice none 0 0) 3 135 ([].map TokD.d),HPow,HErr ev] O (T.norm [.sl (.slice none 0 0) 3 135 ((lexL s).map TokD.d),HPow,HErr ev] (by have hw9:([]:List TokD)=lexL s:=(zdy hlong).1;rw[←hw9]<;>rfl) ?_)))
   exact tRs O Tryz.results38 (.cons (zd (zc O) (Cv.ov O)) (.cons (zd (zc O) (Cv.eq (congrArg dI (show (1:Int)=lexE s from(zdy hlong).2)))) .nil)) O (HSub.fst 3 O) ⟨(.slice none 0 0),O,O⟩
 · skip
   have hshort:¬600<s.size:=by have:=hc1;omega
   have hr0:=zaX (inK [3]) s
   refine g' 11 O (tE O (Qu.ef (d:=.sh 1 ([3].map dI)) (ze [.const (.int .i64 3)] O O (.cons (CellD.v O) .nil) O Tryz.runUnderlying55 Tryz.sizeOf3 Tryz.zeroValue3 O O O O)) ?_)
   rintro _ _ ⟨rfl,rfl⟩
   refine tW O acs (zfn s [3]) (g' 4 O (tl3 (fun (a_:Nat) (b_:Value) (c_:List TokD)=>[(0,.s s),(5,dN a_),(4,.ov b_)]) (fun a_ b_ c_=>[.sl b_ 3 135 (c_.map TokD.d),HPow,HErr ev]) (fun a_ b_ c_=>(WInv s a_ c_)∧(a_≤s.size)∧(c_.length≤a_)) (fun a_ b_ c_=>s.size-a_) (runL (inK [3]) (bl8 s)) (.slice none 0 0) [] O ⟨sk O,sk O,sc O (Cv.ov O),trivial⟩ (HSub.nil 3 135) ⟨WInv.zero,hr0,Nat.zero_le _⟩ ?_))
   rintro p ov out ⟨hw,hp,ho⟩
   refine g' 5 O (tP O (zu O Tryz.runUnderlying9) (g' 3 O ?_))
   refine tD O (fun hc2=>?_) (fun hc2=>?_)
   · skip
     have hlt:p<s.size:=by have:=hc2;omega
     have hfr:=first_run_le (s:=s) (p:=p) hp
     refine g' 8 O (tP O (zw (a:=p) (c:=s.size) O O O (by first | rfl | (show _=_;omega)) (by first | rfl | (show _=_;omega)) Tryz.runUnderlying9 (by omega) (by omega)) (tX [1,1] O O acs (first_c (s.extract p s.size) ev hev (by simp only[ByteArray.size_extract];omega) (by simp only[ByteArray.size_extract];omega)) ?_))
     rintro _ _ ⟨rfl,rfl⟩
     refine g' 3 O ?_
     refine tA O (fun g3=>?_)
     refine gQ 11 [0] O O ?_
     refine tD O (fun hc4=>?_) (fun hc4=>?_)
     · skip
       have hbad:(zg (bl8 (s.extract p s.size))).2=0:=by have:=hc4;omega
       refine g' 13 O (T.subH (HSub.nil 3 135) (T.front 3 O (T.front 3 O (T.front 2 O (T.norm [.sl (.slice none 0 0) 3 135 ([].map TokD.d),HPow,HErr ev,.bx g3 135 (TokD.d ((zg (bl8 (s.extract p s.size))).1)),.sl ov 3 135 (out.map TokD.d)] O (T.norm [.sl (.slice none 0 0) 3 135 ((lexL s).map TokD.d),HPow,HErr ev,.bx g3 135 (TokD.d ((zg (bl8 (s.extract p s.size))).1)),.sl ov 3 135 (out.map TokD.d)] (by have hw9:([]:List TokD)=lexL s:=(zej hshort (hw.bad hlt hbad)).1;rw[←hw9]<;>rfl) ?_))))))
       exact tRs O Tryz.results38 (.cons (zd (zc O) (Cv.ov O)) (.cons (zd (zc O) (Cv.eq (congrArg dI (show (2:Int)=lexE s from(zej hshort (hw.bad hlt hbad)).2)))) .nil)) O (HSub.fst 3 O) ⟨(.slice none 0 0),O,O⟩
     · skip
       have hn0:¬(zg (bl8 (s.extract p s.size))).2=0:=by have:=hc4;omega
       have hrs:=zaX (inK [3]) (s.extract (p+(zg (bl8 (s.extract p s.size))).2) s.size)
       rw[ByteArray.size_extract] at hrs
       refine gQ 13 [0,0] O O (tE O (Qu.ef (d:=.sh 3 ([(TokD.mk (((zg (bl8 (s.extract p s.size))).1).k) ((p:Nat):Int) (((zg (bl8 (s.extract p s.size))).1).t))].map TokD.d)) (ze [.tmp 37] O O (.cons CellD.agg .nil) O Tryz.runUnderlying67 Tryz.sizeOf135 Tryz.zeroValue135 O O O O)) ?_)
       rintro _ _ ⟨rfl,rfl⟩
       refine tE O (zz (f:=TokD.d) (l:=out) (l':=[(TokD.mk (((zg (bl8 (s.extract p s.size))).1).k) ((p:Nat):Int) (((zg (bl8 (s.extract p s.size))).1).t))]) (i:=3) O O O (SrcD.sh) und_67 infz_135 O O (by unfold maxLen;(try simp only[la,lc,ln,lm,lt',ld,ls,lr]);omega) (by (try simp only[la,lc,ln,lm,lt',ld,ls,lr]);omega)) ?_
       rintro _ _ ⟨v5,rfl,rfl⟩
       refine g' 6 O (tP O (zy (c:=((p+((zg (bl8 (s.extract p s.size))).2):Nat):Int)) O O (zn (by omega) (by omega))) (g' 8 O (tP O (zw (a:=p+((zg (bl8 (s.extract p s.size))).2)) (c:=s.size) O O O (by first | rfl | (show _=_;omega)) (by first | rfl | (show _=_;omega)) Tryz.runUnderlying9 (by omega) (by omega)) (tE O (Qu.ef (d:=.sh 1 ([3].map dI)) (ze [.const (.int .i64 3)] O O (.cons (CellD.v O) .nil) O Tryz.runUnderlying55 Tryz.sizeOf3 Tryz.zeroValue3 O O O O)) ?_))))
       rintro _ _ ⟨rfl,rfl⟩
       refine tW O acs (zfn (s.extract (p+((zg (bl8 (s.extract p s.size))).2)) s.size) [3]) (tP O (zy (c:=(((p+((zg (bl8 (s.extract p s.size))).2))+(runL (inK [3]) (bl8 (s.extract (p+((zg (bl8 (s.extract p s.size))).2)) s.size))):Nat):Int)) O O (zn (by omega) (by omega))) (g' 2 O (T.front 2 O (T.front 2 O (T.front 3 O ?_)))))
       exact tp3 ((p+((zg (bl8 (s.extract p s.size))).2))+(runL (inK [3]) (bl8 (s.extract (p+((zg (bl8 (s.extract p s.size))).2)) s.size)))) v5 (out++[(TokD.mk (((zg (bl8 (s.extract p s.size))).1).k) ((p:Nat):Int) (((zg (bl8 (s.extract p s.size))).1).t))]) (sa O) (HSub.fst 3 O) ⟨hw.next hlt hn0,by omega,by (try simp only[la,List.length_singleton]);omega⟩ (by omega)
   · skip
     have hge:s.size≤p:=by have:=hc2;omega
     refine g' 13 O (T.norm [.sl ov 3 135 ((lexL s).map TokD.d),HPow,HErr ev] (by have hw9:(out:List TokD)=lexL s:=(zeQ hshort (hw.done hge)).1;rw[←hw9]<;>rfl) ?_)
     exact tRs O Tryz.results38 (.cons (zc O) (.cons (zd (zc O) (Cv.eq (congrArg dI (show (0:Int)=lexE s from(zeQ hshort (hw.done hge)).2)))) .nil)) O (HSub.fst 3 O) ⟨ov,O,O⟩
end Lp
