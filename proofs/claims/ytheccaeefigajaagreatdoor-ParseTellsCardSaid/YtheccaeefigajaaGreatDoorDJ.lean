import Derived.Lib.MakeNoZero
import Derived.Test.YtheccaeefigajaaGreatDoorDW
set_option linter.unusedSimpArgs false
set_option linter.unusedVariables false
set_option maxHeartbeats 4000000
set_option maxRecDepth 100000
namespace Lp
open Go Go.RowKit Go.Proofs
variable {x:Operand}
theorem qC:IzP Tryz.prog 21 (.int .i32 0) 1 4:=zdl (by kernel_rfl)
theorem oL:Tryz.prog.underlying 130=some (.slice 21):=by kernel_rfl
theorem aD7 (r:Int) :
 CD Tryz.prog 151 [] [.v (.int .i32 r)] (isR (dI (zD r))):=by
 refine tZ Tryz.func151 O O (λC=>?_);refine g' 12 O ?_;refine tOr 2 2 (c:=decide (r=(65533:Int))) O O O O O O (λhb1 nx2=>?_) ?_
 · have hf3:=aC hb1;refine g' 2 O ?_;exact nx2 _ O O (kx 2 O O)
 refine g' 3 O ?_;refine tC O (λhc4=>?_) (λhc4=>?_)
 · simp only[bX,bJ] at hc4;refine g' 8 O ?_;exact tRs O Tryz.results151 (.cons (zd (zc O) (Cv.eq (aG (λn=>D.v (.int .i64 n)) (by unfold zD;(repeat (any_goals split))<;>omega)))) .nil) O mO ⟨O,O⟩
 simp only[bX,bJ] at hc4;refine g' 1 O ?_;refine tS 10 (((((decide ((97:Int)<=r)&&decide (r<=(122:Int)))||(decide ((65:Int)<=r)&&decide (r<=(90:Int))))||decide (r=(95:Int)))||decide ((128:Int)<=r))) (λ_ hQ5=>?_) ?_
 · by_cases hg6:(97:Int)<=r
   · by_cases hg7:r<=(122:Int)
     · refine g' 2 O (tP O (zaE O O (aE hg6)) (g' 2 O (tG O (zbH O O (aE hg7)) (g' 19 O ?_))));exact tQ hQ5 O O (by first | (simp[hg6,hg7];done) | (simp_all;done))
     by_cases hg8:(65:Int)<=r
     · by_cases hg9:r<=(90:Int)
       · refine g' 2 O (tP O (zaE O O (aE hg6)) (g' 2 O (tG O (zbH O O (aD hg7)) (g' 3 O (tG O (zaE O O (aE hg8)) (g' 2 O (tG O (zbH O O (aE hg9)) (g' 12 O ?_))))))));exact tQ hQ5 O O (by first | (simp[hg6,hg7,hg8,hg9];done) | (simp_all;done))
       by_cases hg10:r=(95:Int)
       · refine g' 2 O (tP O (zaE O O (aE hg6)) (g' 2 O (tG O (zbH O O (aD hg7)) (g' 3 O (tG O (zaE O O (aE hg8)) (g' 2 O (tG O (zbH O O (aD hg9)) (g' 4 O (tG O (zaA O O (aE hg10)) (g' 7 O ?_))))))))));exact tQ hQ5 O O (by first | (simp[hg10,hg6,hg7,hg8,hg9];done) | (simp_all;done))
       refine g' 2 O (tP O (zaE O O (aE hg6)) (g' 2 O (tG O (zbH O O (aD hg7)) (g' 3 O (tG O (zaE O O (aE hg8)) (g' 2 O (tG O (zbH O O (aD hg9)) (g' 4 O (tG O (zaA O O (aD hg10)) (g' 7 O ?_))))))))));exact tQ hQ5 O O (by first | (simp[hg10,hg6,hg7,hg8,hg9];done) | (simp_all;done))
     by_cases hg11:r=(95:Int)
     · refine g' 2 O (tP O (zaE O O (aE hg6)) (g' 2 O (tG O (zbH O O (aD hg7)) (g' 3 O (tG O (zaE O O (aD hg8)) (g' 7 O (tG O (zaA O O (aE hg11)) (g' 7 O ?_))))))));exact tQ hQ5 O O (by first | (simp[hg11,hg6,hg7,hg8];done) | (simp_all;done))
     refine g' 2 O (tP O (zaE O O (aE hg6)) (g' 2 O (tG O (zbH O O (aD hg7)) (g' 3 O (tG O (zaE O O (aD hg8)) (g' 7 O (tG O (zaA O O (aD hg11)) (g' 7 O ?_))))))));exact tQ hQ5 O O (by first | (simp[hg11,hg6,hg7,hg8];done) | (simp_all;done))
   by_cases hg12:(65:Int)<=r
   · by_cases hg13:r<=(90:Int)
     · refine g' 2 O (tP O (zaE O O (aD hg6)) (g' 6 O (tG O (zaE O O (aE hg12)) (g' 2 O (tG O (zbH O O (aE hg13)) (g' 12 O ?_))))));exact tQ hQ5 O O (by first | (simp[hg12,hg13,hg6];done) | (simp_all;done))
     by_cases hg14:r=(95:Int)
     · refine g' 2 O (tP O (zaE O O (aD hg6)) (g' 6 O (tG O (zaE O O (aE hg12)) (g' 2 O (tG O (zbH O O (aD hg13)) (g' 4 O (tG O (zaA O O (aE hg14)) (g' 7 O ?_))))))));exact tQ hQ5 O O (by first | (simp[hg12,hg13,hg14,hg6];done) | (simp_all;done))
     refine g' 2 O (tP O (zaE O O (aD hg6)) (g' 6 O (tG O (zaE O O (aE hg12)) (g' 2 O (tG O (zbH O O (aD hg13)) (g' 4 O (tG O (zaA O O (aD hg14)) (g' 7 O ?_))))))));exact tQ hQ5 O O (by first | (simp[hg12,hg13,hg14,hg6];done) | (simp_all;done))
   by_cases hg15:r=(95:Int)
   · refine g' 2 O (tP O (zaE O O (aD hg6)) (g' 6 O (tG O (zaE O O (aD hg12)) (g' 7 O (tG O (zaA O O (aE hg15)) (g' 7 O ?_))))));exact tQ hQ5 O O (by first | (simp[hg12,hg15,hg6];done) | (simp_all;done))
   refine g' 2 O (tP O (zaE O O (aD hg6)) (g' 6 O (tG O (zaE O O (aD hg12)) (g' 7 O (tG O (zaA O O (aD hg15)) (g' 7 O ?_))))));exact tQ hQ5 O O (by first | (simp[hg12,hg15,hg6];done) | (simp_all;done))
 refine g' 1 O ?_;refine tC O (λhc16=>?_) (λhc16=>?_)
 · simp only[bX,bJ] at hc16;refine g' 8 O ?_;exact tRs O Tryz.results151 (.cons (zd (zc O) (Cv.eq (aG (λn=>D.v (.int .i64 n)) (by unfold zD;(repeat (any_goals split))<;>omega)))) .nil) O mO ⟨O,O⟩
 simp only[bX,bJ] at hc16;refine g' 5 O ?_;refine tAnd 2 2 (c:=decide (r<=(57:Int))) O O O O O O (λhb17 nx18=>?_) ?_
 · have hf19:=aF hb17;refine g' 2 O ?_;exact nx18 _ O O (kx 2 O O)
 refine g' 3 O ?_;refine tC O (λhc20=>?_) (λhc20=>?_)
 · simp only[bX,bJ] at hc20;refine g' 8 O ?_;exact tRs O Tryz.results151 (.cons (zd (zc O) (Cv.eq (aG (λn=>D.v (.int .i64 n)) (by unfold zD;(repeat (any_goals split))<;>omega)))) .nil) O mO ⟨O,O⟩
 simp only[bX,bJ] at hc20;refine g' 5 O ?_;refine tOr 2 2 (c:=decide (r=(9:Int))) O O O O O O (λhb21 nx22=>?_) ?_
 · have hf23:=aC hb21;refine g' 2 O ?_;exact nx22 _ O O (kx 2 O O)
 refine g' 1 O ?_;refine tOr 6 2 (c:=decide (r=(10:Int))) O O O O O O (λhb24 nx25=>?_) ?_
 · obtain ⟨hf26,hf27⟩:=orF hb24;have hf28:=aC hf26;have hf29:=aC hf27;refine g' 2 O ?_;exact nx25 _ O O (kx 2 O O)
 refine g' 3 O ?_;refine tC O (λhc30=>?_) (λhc30=>?_)
 · simp only[bX,bJ] at hc30;refine g' 8 O ?_;exact tRs O Tryz.results151 (.cons (zd (zc O) (Cv.eq (aG (λn=>D.v (.int .i64 n)) (by unfold zD;(repeat (any_goals split))<;>omega)))) .nil) O mO ⟨O,O⟩
 simp only[bX,bJ] at hc30;refine g' 9 O ?_;exact tRs O Tryz.results151 (.cons (zd (zc O) (Cv.eq (aG (λn=>D.v (.int .i64 n)) (by unfold zD;(repeat (any_goals split))<;>omega)))) .nil) O mO ⟨O,O⟩
theorem zdK (r:Int) :
 CD Tryz.prog 107 [] [.v (.int .i32 r)] (isR (dI (zD r))):=by
 refine tZ Tryz.func107 O O (λC=>?_);refine g' 12 O ?_;refine tOr 2 2 (c:=decide (r=(65533:Int))) O O O O O O (λhb1 nx2=>?_) ?_
 · have hf3:=aC hb1;refine g' 2 O ?_;exact nx2 _ O O (kx 2 O O)
 refine g' 3 O ?_;refine tC O (λhc4=>?_) (λhc4=>?_)
 · simp only[bX,bJ] at hc4;refine g' 8 O ?_;exact tRs O Tryz.results107 (.cons (zd (zc O) (Cv.eq (aG (λn=>D.v (.int .i64 n)) (by unfold zD;(repeat (any_goals split))<;>omega)))) .nil) O mO ⟨O,O⟩
 simp only[bX,bJ] at hc4;refine g' 1 O ?_;refine tS 10 (((((decide ((97:Int)<=r)&&decide (r<=(122:Int)))||(decide ((65:Int)<=r)&&decide (r<=(90:Int))))||decide (r=(95:Int)))||decide ((128:Int)<=r))) (λ_ hQ5=>?_) ?_
 · by_cases hg6:(97:Int)<=r
   · by_cases hg7:r<=(122:Int)
     · refine g' 2 O (tP O (zaE O O (aE hg6)) (g' 2 O (tG O (zbH O O (aE hg7)) (g' 19 O ?_))));exact tQ hQ5 O O (by first | (simp[hg6,hg7];done) | (simp_all;done))
     by_cases hg8:(65:Int)<=r
     · by_cases hg9:r<=(90:Int)
       · refine g' 2 O (tP O (zaE O O (aE hg6)) (g' 2 O (tG O (zbH O O (aD hg7)) (g' 3 O (tG O (zaE O O (aE hg8)) (g' 2 O (tG O (zbH O O (aE hg9)) (g' 12 O ?_))))))));exact tQ hQ5 O O (by first | (simp[hg6,hg7,hg8,hg9];done) | (simp_all;done))
       by_cases hg10:r=(95:Int)
       · refine g' 2 O (tP O (zaE O O (aE hg6)) (g' 2 O (tG O (zbH O O (aD hg7)) (g' 3 O (tG O (zaE O O (aE hg8)) (g' 2 O (tG O (zbH O O (aD hg9)) (g' 4 O (tG O (zaA O O (aE hg10)) (g' 7 O ?_))))))))));exact tQ hQ5 O O (by first | (simp[hg10,hg6,hg7,hg8,hg9];done) | (simp_all;done))
       refine g' 2 O (tP O (zaE O O (aE hg6)) (g' 2 O (tG O (zbH O O (aD hg7)) (g' 3 O (tG O (zaE O O (aE hg8)) (g' 2 O (tG O (zbH O O (aD hg9)) (g' 4 O (tG O (zaA O O (aD hg10)) (g' 7 O ?_))))))))));exact tQ hQ5 O O (by first | (simp[hg10,hg6,hg7,hg8,hg9];done) | (simp_all;done))
     by_cases hg11:r=(95:Int)
     · refine g' 2 O (tP O (zaE O O (aE hg6)) (g' 2 O (tG O (zbH O O (aD hg7)) (g' 3 O (tG O (zaE O O (aD hg8)) (g' 7 O (tG O (zaA O O (aE hg11)) (g' 7 O ?_))))))));exact tQ hQ5 O O (by first | (simp[hg11,hg6,hg7,hg8];done) | (simp_all;done))
     refine g' 2 O (tP O (zaE O O (aE hg6)) (g' 2 O (tG O (zbH O O (aD hg7)) (g' 3 O (tG O (zaE O O (aD hg8)) (g' 7 O (tG O (zaA O O (aD hg11)) (g' 7 O ?_))))))));exact tQ hQ5 O O (by first | (simp[hg11,hg6,hg7,hg8];done) | (simp_all;done))
   by_cases hg12:(65:Int)<=r
   · by_cases hg13:r<=(90:Int)
     · refine g' 2 O (tP O (zaE O O (aD hg6)) (g' 6 O (tG O (zaE O O (aE hg12)) (g' 2 O (tG O (zbH O O (aE hg13)) (g' 12 O ?_))))));exact tQ hQ5 O O (by first | (simp[hg12,hg13,hg6];done) | (simp_all;done))
     by_cases hg14:r=(95:Int)
     · refine g' 2 O (tP O (zaE O O (aD hg6)) (g' 6 O (tG O (zaE O O (aE hg12)) (g' 2 O (tG O (zbH O O (aD hg13)) (g' 4 O (tG O (zaA O O (aE hg14)) (g' 7 O ?_))))))));exact tQ hQ5 O O (by first | (simp[hg12,hg13,hg14,hg6];done) | (simp_all;done))
     refine g' 2 O (tP O (zaE O O (aD hg6)) (g' 6 O (tG O (zaE O O (aE hg12)) (g' 2 O (tG O (zbH O O (aD hg13)) (g' 4 O (tG O (zaA O O (aD hg14)) (g' 7 O ?_))))))));exact tQ hQ5 O O (by first | (simp[hg12,hg13,hg14,hg6];done) | (simp_all;done))
   by_cases hg15:r=(95:Int)
   · refine g' 2 O (tP O (zaE O O (aD hg6)) (g' 6 O (tG O (zaE O O (aD hg12)) (g' 7 O (tG O (zaA O O (aE hg15)) (g' 7 O ?_))))));exact tQ hQ5 O O (by first | (simp[hg12,hg15,hg6];done) | (simp_all;done))
   refine g' 2 O (tP O (zaE O O (aD hg6)) (g' 6 O (tG O (zaE O O (aD hg12)) (g' 7 O (tG O (zaA O O (aD hg15)) (g' 7 O ?_))))));exact tQ hQ5 O O (by first | (simp[hg12,hg15,hg6];done) | (simp_all;done))
 refine g' 1 O ?_;refine tC O (λhc16=>?_) (λhc16=>?_)
 · simp only[bX,bJ] at hc16;refine g' 8 O ?_;exact tRs O Tryz.results107 (.cons (zd (zc O) (Cv.eq (aG (λn=>D.v (.int .i64 n)) (by unfold zD;(repeat (any_goals split))<;>omega)))) .nil) O mO ⟨O,O⟩
 simp only[bX,bJ] at hc16;refine g' 5 O ?_;refine tAnd 2 2 (c:=decide (r<=(57:Int))) O O O O O O (λhb17 nx18=>?_) ?_
 · have hf19:=aF hb17;refine g' 2 O ?_;exact nx18 _ O O (kx 2 O O)
 refine g' 3 O ?_;refine tC O (λhc20=>?_) (λhc20=>?_)
 · simp only[bX,bJ] at hc20;refine g' 8 O ?_;exact tRs O Tryz.results107 (.cons (zd (zc O) (Cv.eq (aG (λn=>D.v (.int .i64 n)) (by unfold zD;(repeat (any_goals split))<;>omega)))) .nil) O mO ⟨O,O⟩
 simp only[bX,bJ] at hc20;refine g' 5 O ?_;refine tOr 2 2 (c:=decide (r=(9:Int))) O O O O O O (λhb21 nx22=>?_) ?_
 · have hf23:=aC hb21;refine g' 2 O ?_;exact nx22 _ O O (kx 2 O O)
 refine g' 1 O ?_;refine tOr 6 2 (c:=decide (r=(10:Int))) O O O O O O (λhb24 nx25=>?_) ?_
 · obtain ⟨hf26,hf27⟩:=orF hb24;have hf28:=aC hf26;have hf29:=aC hf27;refine g' 2 O ?_;exact nx25 _ O O (kx 2 O O)
 refine g' 3 O ?_;refine tC O (λhc30=>?_) (λhc30=>?_)
 · simp only[bX,bJ] at hc30;refine g' 8 O ?_;exact tRs O Tryz.results107 (.cons (zd (zc O) (Cv.eq (aG (λn=>D.v (.int .i64 n)) (by unfold zD;(repeat (any_goals split))<;>omega)))) .nil) O mO ⟨O,O⟩
 simp only[bX,bJ] at hc30;refine g' 9 O ?_;exact tRs O Tryz.results107 (.cons (zd (zc O) (Cv.eq (aG (λn=>D.v (.int .i64 n)) (by unfold zD;(repeat (any_goals split))<;>omega)))) .nil) O mO ⟨O,O⟩
theorem aQ1 (s:ByteArray) :
 CD Tryz.prog 176 [] [.s s] (isR (dB (zcC s))):=by
 refine tZ Tryz.func176 O O (λC=>?_);refine T.bd 0 O (λbd0=>?_);have sz0:s.size<=9223372036854775807:=bd0;refine g' 14 O (tE O (zcw O Tryz.runUnderlying9) ?_);rintro _ _ ⟨g1,rfl,rfl⟩;refine g' 3 O (tl2 (λ(a_:Nat) (b_:Nat)=>[(8,dP g1 0),(3,dN b_)]) (λa_ b_=>[.it g1 s a_]) (λa_ b_=>(a_<=s.size)/\(b_<=a_)/\(zdT 0 (zB s)=zdT b_ (zaW s a_))) (λa_ b_=>s.size-a_) 0 0 O (sa O) w9 ⟨cX _,cU _,O⟩ ?_);rintro p n ⟨hp,hn,hf⟩;rcases c8 p s.size with hlt | hge
 · have hrune:=zaw hlt;have hrl:=zbQ s p;have hdw:=zae s p hlt;have hdp:=zF s p;refine g' 2 O (tE O (zbA (i:=0) O O hlt) ?_);rintro _ _ ⟨rfl,rfl⟩;refine g' 18 O (tW O acs (aD7 ((decR s p:Nat):Int)) (g' 4 O ?_));refine tS 23 ((decide (zD ((decR s p:Nat):Int)≠(1:Int))&&(decide (zD ((decR s p:Nat):Int)≠(2:Int))||decide (((n:Nat):Int)=(0:Int))))) (λ_ hQ2=>?_) ?_
   · by_cases hg3:zD ((decR s p:Nat):Int)≠(1:Int)
     · by_cases hg4:zD ((decR s p:Nat):Int)≠(2:Int)
       · refine g' 2 O (tP O (zeQ O O (aE hg3)) (g' 2 O (tG O (zeQ O O (aE hg4)) (g' 6 O ?_))));exact tQ hQ2 O O (by first | (simp[hg3,hg4];done) | (simp_all;done))
       refine g' 2 O (tP O (zeQ O O (aE hg3)) (g' 2 O (tG O (zeQ O O (aD hg4)) (g' 6 O ?_))));exact tQ hQ2 O O (by first | (simp[hg3,hg4];done) | (simp_all;done))
     refine g' 2 O (tP O (zeQ O O (aD hg3)) (g' 9 O ?_));exact tQ hQ2 O O (by first | (simp[hg3];done) | (simp_all;done))
   refine g' 1 O ?_;refine tC O (λhc5=>?_) (λhc5=>?_)
   · simp only[bX,bJ] at hc5;refine g' 11 O ?_;exact tRs O Tryz.results176 (.cons (zd (zc O) (cB ((by unfold zcC;rw[hf,hrune];rw[iL (by omega)])))) .nil) O mO ⟨O,O⟩
   simp only[bX,bJ] at hc5;refine g' 4 O (tP O (zE (c:=((n+1:Nat):Int)) O O (zp (by omega) (by omega))) (g' 3 O ?_));exact tp2 (p+decW s p) (n+1) (sa O) w9 ⟨by have:=zae s p hlt;omega,by omega,by rw[hf,hrune,gH (by omega)]⟩ (by have:=zF s p;omega)
 have hrune:=zaG hge;refine g' 2 O (tP O (zco (i:=0) O O hge) (g' 15 O ?_));refine tAnd 2 2 (c:=decide (((n:Nat):Int)<=(30:Int))) O O O O O O (λhb6 nx7=>?_) ?_
 · have hf8:=aF hb6;refine g' 2 O ?_;exact nx7 _ O O (kx 2 O O)
 refine g' 4 O ?_;exact tRs O Tryz.results176 (.cons (zd (zc O) (cB ((by unfold zcC;rw[hf,hrune];simp only[zdT];congr 1<;>exact decide_eq_decide.2 (by omega))))) .nil) O mO ⟨O,O⟩
theorem zdd (s:ByteArray) (hs:s.size<=1000000000):
 CD Tryz.prog 106 [] [.s s] (aWl 1 21 ((zB s).map dR)):=by
 refine tZ Tryz.func106 O O (λC=>?_);refine T.bd 0 O (λbd0=>?_);have sz0:s.size<=9223372036854775807:=bd0;refine g' 14 O (tE O (zcw O Tryz.runUnderlying9) ?_);rintro _ _ ⟨g1,rfl,rfl⟩;refine g' 3 O (tl3 (λ(a_:Nat) (b_:Value) (c_:List Int)=>[(2,dZ),(7,dP g1 0),(3,.ov b_)]) (λa_ b_ c_=>[.it g1 s a_,.sl b_ 1 21 (c_.map dR)]) (λa_ b_ c_=>(a_<=s.size)/\(c_.length<=a_)/\(zB s=c_++zaW s a_)) (λa_ b_ c_=>s.size-a_) 0 (.slice none 0 0) [] O ⟨sk O,sk O,sc O (Cv.ov O),trivial⟩ (HSub.trans (HSub.nil 1 21) (mB (List.Perm.swap _ _ _))) ⟨cX _,cU _,O⟩ ?_);rintro p ov l ⟨hp,hn,hf⟩;rcases c8 p s.size with hlt | hge
 · have hrune:=zaw hlt;have hrl:=zbQ s p;have hdw:=zae s p hlt;have hdp:=zF s p;refine g' 2 O (tE O (zbA (i:=0) O O hlt) ?_);rintro _ _ ⟨rfl,rfl⟩;refine g' 17 O (tE O (zL [.tmp 12] O O (.cons (CellD.v O) .nil) O Tryz.runUnderlying130 Tryz.sizeOf21 Tryz.zeroValue21 O O O O) ?_);rintro _ _ ⟨g2,rfl,rfl⟩;refine tE O (zP (f:=dR) (l:=l) (l':=[((decR s p:Nat):Int)]) (i:=2) O O O (mG (j:=0) O O) oL qC O O (by unfold maxLen;(try simp only[la,lc,ln,lm,lt',ld,ls,lr]);omega) (by (try simp only[la,lc,ln,lm,lt',ld,ls,lr]);omega)) ?_;rintro _ _ ⟨v3,rfl,rfl⟩;refine g' 3 O ?_;exact tp3 (p+decW s p) v3 (l++[((decR s p:Nat):Int)]) (sa O) (mQ 1 O) ⟨by have:=zae s p hlt;omega,by rw[c7,cT];omega,by rw[hf,hrune,dM];rfl⟩ (by have:=zF s p;omega)
 have hrune:=zaG hge;refine g' 2 O (tP O (zco (i:=0) O O hge) (g' 17 O (m8 (mA (aAa (i:=1) O)) (m8 (mC (h':=.sl ov 1 21 ((zB s).map dR)) O (mE (show List.map dR l=List.map dR (zB s) from aG _ (by rw[hf,hrune,jN])))) ?_))));exact tR O w9 ⟨_,O,O⟩
theorem aIr (s:ByteArray) (hs:s.size<=1000000000):
 CD Tryz.prog 37 [] [.s s] (isR (dB (zcC s))):=by
 refine tZ Tryz.func37 O O (λC=>?_);refine T.bd 0 O (λbd0=>?_);have sz0:s.size<=9223372036854775807:=bd0;refine g' 8 O (tX [] O O acs (zdd s (by omega)) ?_);rintro _ _ ⟨v1,rfl,rfl⟩;refine g' 5 O ?_;by_cases hg2:(((zB s).length:Nat):Int)<(1:Int)
 · refine g' 2 O (tP O (zan (n:=(zB s).length) (j:=0) O O Tryz.runUnderlying130 (cV _)) (tP O (zbO O O (aE hg2)) (g' 22 O ?_)));exact tRs O Tryz.results37 (.cons (zd (zc O) (cB ((by unfold zcC;rw[zcr];first | (rw[dL (by omega)] at hw;rw[dF,hx1,hw];simp;omega) | (rw[dF,hx1];simp;omega) | (simp;omega))))) .nil) O mO ⟨O,O⟩
 by_cases hg3:(30:Int)<(((zB s).length:Nat):Int)
 · refine g' 2 O (tP O (zan (n:=(zB s).length) (j:=0) O O Tryz.runUnderlying130 (cV _)) (tP O (zbO O O (aD hg2)) (g' 2 O (tG O (zan (n:=(zB s).length) (j:=0) O O Tryz.runUnderlying130 (cV _)) (tG O (zcB O O (aE hg3)) (g' 18 O ?_))))));exact tRs O Tryz.results37 (.cons (zd (zc O) (cB ((by unfold zcC;rw[zcr];first | (rw[dL (by omega)] at hw;rw[dF,hx1,hw];simp;omega) | (rw[dF,hx1];simp;omega) | (simp;omega))))) .nil) O mO ⟨O,O⟩
 refine g' 2 O (tP O (zan (n:=(zB s).length) (j:=0) O O Tryz.runUnderlying130 (cV _)) (tP O (zbO O O (aD hg2)) (g' 2 O (tG O (zan (n:=(zB s).length) (j:=0) O O Tryz.runUnderlying130 (cV _)) (tG O (zcB O O (aD hg3)) (g' 3 O ?_))))));obtain ⟨x1,hx1⟩:=zO (zB s) 0 (by omega);refine tG O (zaQ (k:=0) (j:=0) O O O Tryz.runUnderlying130 Tryz.sizeOf21 (by first | rfl | omega) (zI hx1)) (tG O (zcp O (i:=0) O (zI hx1) Tryz.isAgg21 O) (tW O acs (zdK x1) (g' 4 O ?_)));refine tD O (λhc4=>?_) (λhc4=>?_)
 · refine g' 7 O ?_;exact tRs O Tryz.results37 (.cons (zd (zc O) (cB ((by unfold zcC;rw[zcr];first | (rw[sX hx1 (by omega)];simp;done) | (rw[dL (by omega)] at hw;rw[dF,hx1,hw];simp;omega) | (rw[dF,hx1];simp;omega) | (simp;omega))))) .nil) O mO ⟨O,O⟩
 refine g' 9 O (tl1 (λ(a_:Nat)=>[(3,.ov v1),(4,dN a_)]) (λa_=>[.sl v1 1 21 ((zB s).map dR)]) (λa_=>(a_<=(zB s).length)/\(zd4 ((zB s).take a_)=true)) (λa_=>(zB s).length-a_) 0 O (sa O) w9 ⟨cX _,O⟩ ?_);rintro k ⟨hk,hw⟩;refine g' 5 O (tP O (zan (n:=(zB s).length) (j:=0) O O Tryz.runUnderlying130 (cV _)) (g' 3 O ?_));refine tD O (λhc5=>?_) (λhc5=>?_)
 · refine g' 8 O ?_;obtain ⟨x2,hx2⟩:=zO (zB s) k (by omega);refine tP O (zaQ (k:=k) (j:=0) O O O Tryz.runUnderlying130 Tryz.sizeOf21 (by first | rfl | omega) (zI hx2)) (tP O (zcp O (i:=0) O (zI hx2) Tryz.isAgg21 O) (tW O acs (zdK x2) (g' 2 O ?_)));refine tAnd 6 6 (c:=decide (zD x2≠(2:Int))) O O O O O O (λhb6 nx7=>?_) ?_
   · have hf8:=aF hb6;refine g' 2 O (tG O (zaQ (k:=k) (j:=0) O O O Tryz.runUnderlying130 Tryz.sizeOf21 (by first | rfl | omega) (zI hx2)) (tG O (zcp O (i:=0) O (zI hx2) Tryz.isAgg21 O) (tW O acs (zdK x2) (g' 1 O ?_))));exact nx7 _ O O (kx 6 O O)
   refine g' 2 O ?_;refine tC O (λhc9=>?_) (λhc9=>?_)
   · simp only[bX,bJ] at hc9;refine g' 11 O ?_;exact tRs O Tryz.results37 (.cons (zd (zc O) (cB ((by unfold zcC;rw[zcr];first | (rw[sX hx2 (by omega)];simp;done) | (rw[dL (by omega)] at hw;rw[dF,hx1,hw];simp;omega) | (rw[dF,hx1];simp;omega) | (simp;omega))))) .nil) O mO ⟨O,O⟩
   simp only[bX,bJ] at hc9;refine g' 5 O (tP O (zE (c:=((k+1:Nat):Int)) O O (zp (by omega) (by omega))) (g' 2 O ?_));exact tp1 (k+1) (sa O) w9 ⟨by omega,aE0 hx2 hw (by omega)⟩ (by omega)
 refine g' 11 O ?_;exact tRs O Tryz.results37 (.cons (zd (zc O) (cB ((by unfold zcC;rw[zcr];first | (rw[dL (by omega)] at hw;rw[dF,hx1,hw];simp;omega) | (rw[dF,hx1];simp;omega) | (simp;omega))))) .nil) O mO ⟨O,O⟩
theorem aAm (x y:Operand) (a:Addr) (w:World):(do eqGuard .eql 211 x y (.pointer (some a)) (.pointer none);binOp .eql 211 (.pointer (some a)) (.pointer none):Sem Value).run Tryz.prog w=.ok (.bool false) w:=by kernel_rfl
theorem yB (d:Nat) (a:Addr) (w:World):(Op.equalIn (d+1) 211 (.pointer (some a)) (.pointer (some a))).run Tryz.prog w=.ok true w:=by
 rw[Op.equalIn];simp only[Sem.run_bind,run_underlying (show Tryz.prog.underlying 211=some (.pointer 213) by kernel_rfl),Result.andThen_ok,Tryz.sizeOf213];simp[sameAddr]
theorem aAv (a:Addr) (w:World):(Op.equal 211 (.pointer (some a)) (.pointer (some a))).run Tryz.prog w=.ok true w:=yB 9999 a w
theorem aA8 (x y:Operand) (a:Addr) (w:World):(do eqGuard .neq 211 x y (.pointer (some a)) (.pointer (some a));binOp .neq 211 (.pointer (some a)) (.pointer (some a)):Sem Value).run Tryz.prog w=.ok (.bool false) w:=by simp[eqGuard,binOp,aAv]
theorem zc5:IzP Tryz.prog 5 (.int .u8 0) 1 1:=zdl (by kernel_rfl)
theorem zbP:Tryz.prog.underlying 103=some (.slice 5):=by kernel_rfl
theorem a2g {w:World} {g:Nat} {c:Array Value} (h:w.heap[g]?=some (.cells c 213 (0,0))) (hc:c.size=2):(convert 211 245 (.pointer (some ⟨g,0,none⟩))).run Tryz.prog w=.ok (.pointer (some ⟨g,0,none⟩)) w:=by
 simp[convert,run_underlying (show Tryz.prog.underlying 211=some _ by kernel_rfl),run_underlying (show Tryz.prog.underlying 245=some _ by kernel_rfl),Conv.unsafePointer,Conv.seenAt,viewAt,cellsIn,run_shape,h,hc,World.shape?,Tryz.sizeOf213]
theorem aSt {w:World} {g:Nat} {c:Array Value} (h:w.heap[g]?=some (.cells c 213 (0,0))) (hc:c.size=2):(convert 245 211 (.pointer (some ⟨g,0,none⟩))).run Tryz.prog w=.ok (.pointer (some ⟨g,0,none⟩)) w:=by
 have e:liesAt Tryz.prog Tryz.prog.depth 213 (2 / Tryz.prog.cellsOf 213) 0 213 1=true:=by kernel_rfl
 simp[convert,run_underlying (show Tryz.prog.underlying 211=some _ by kernel_rfl),run_underlying (show Tryz.prog.underlying 245=some _ by kernel_rfl),Conv.unsafePointer,Conv.seenAt,viewAt,cellsIn,run_shape,h,hc,World.shape?,Tryz.sizeOf213,variablesAt,e]
theorem aR6 {ty:TypeId} {K:Kd} {H:List Hp} {t1 t2:TypeId} {g i:Nat} {X:D} (ht:(t1=211/\t2=245)\/(t1=245/\t2=211)) (hx:opD K x=some (dP g 0)) (hm:nth H i=some (.bx g 213 X)) (hX:Nat.beq X.cells.length 2=true):Pu Tryz.prog (.convert t1 t2 x) ty K H (dP g 0):=
 ⟨λρ w F hk _ hH=>by
  obtain ⟨u,h1,h2,h3⟩:=hH _ (zau hm);have hl:=zbo (w6 h1 h2);have hc:u.cells.size=2:=by have:=dS hX;rw[<-hl] at this;simpa [vcs] using this
  have e:ev ρ x=_:=hk.op hx;refine wV (v:=.pointer (some ⟨g,0,none⟩)) (w':=w) ?_ ⟨O,O⟩;rcases ht with ⟨rfl,rfl⟩ | ⟨rfl,rfl⟩
  · have:=zbY (a2g h3 hc);simpa [execOp,zaq,e] using this
  have:=zbY (aSt h3 hc);simpa [execOp,zaq,e] using this⟩
theorem aEh {ty:TypeId} {K:Kd} {H:List Hp} {ats:Array TypeId} {v:Value} (hx:opD K x=some (.v v)):Pu Tryz.prog (.call { callee:=.value (.func 214),args:=#[x],argTypes:=ats }) ty K H (.v v):=
 ⟨λρ w F hk _ _=>aT1 (vs:=[v]) (zo ρ [x]) (by rw[show (#[x]:Array Operand).toList=[x] from rfl,zc0 ρ [x] [x] (λ_ h=>h)];have e:ev ρ x=v:=hk.op hx;simp[e]) (λw=>by
  rw[run_callFunc_extern Tryz.func214 (by kernel_rfl) (by kernel_rfl) (by kernel_rfl) (e:=Extern.AbiNoEscape.same) (by kernel_rfl)];rfl) ⟨rfl,rfl⟩⟩
theorem eP (g:Nat) (p:Value) (x:D) (hp:p=.pointer none\/p=.pointer (some ⟨g,0,none⟩)):
 CD Tryz.prog 193 [.bx g 213 (.agg [.v p,x])] [dP g 0] (λr H'=>r=.tup []/\H'=[.bx g 213 (.agg [dP g 0,x])]):=by
 refine tZ Tryz.func193 O O (λC=>?_);rcases hp with rfl | rfl
 · refine gQ 6 [0] O O (tP O (zep (r:=.bool true) O O (λ_=>by kernel_rfl)) (g' 6 O (tP O (aR6 (i:=0) (by first | exact .inl ⟨O,O⟩ | exact .inr ⟨O,O⟩) O O O) (tP O (aEh O) (tP O (aR6 (i:=0) (by first | exact .inl ⟨O,O⟩ | exact .inr ⟨O,O⟩) O O O) (gQ 4 [0] O O ?_))))));exact tR O w9 ⟨O,O⟩
 refine gQ 6 [0] O O (tP O (zep (r:=.bool false) O O (aAm _ _ _)) (gQ 10 [0] O O (tP O (zep (r:=.bool false) O O (aA8 _ _ _)) (g' 4 O ?_))));exact tR O w9 ⟨O,O⟩
theorem zcS (g:Nat) (p v:Value) (bs:List UInt8) (c:UInt8) (hp:p=.pointer none\/p=.pointer (some ⟨g,0,none⟩)) (hl:bs.length<=1000000000000):
 CD Tryz.prog 169 [.bx g 213 (.agg [.v p,.ov v]),.sl v 1 5 (bs.map dU8)] [dP g 0,.v (.int .u8 ((c.toNat:Nat):Int))] (λr H'=>∃ v',r=.v .nilIface/\H'=[.bx g 213 (.agg [dP g 0,.ov v']),.sl v' 1 5 ((bs++[c]).map dU8)]):=by
 refine tZ Tryz.func169 O O (λC=>?_);refine g' 8 O (tX [0] O O acs (eP g p (.ov v) hp) ?_);rintro _ _ ⟨rfl,rfl⟩;refine gQ 10 [0] O O (tE O (zL [.tmp 12] O O (.cons (CellD.v O) .nil) O Tryz.runUnderlying103 Tryz.sizeOf5 Tryz.zeroValue5 O O O O) ?_);rintro _ _ ⟨g1,rfl,rfl⟩;refine tE O (zP (f:=dU8) (l:=bs) (l':=[c]) (i:=2) O O O (mG (j:=0) O O) zbP zc5 O O (by unfold maxLen;(try simp only[la,lc,ln,lm,lt',ld,ls,lr]);omega) (by (try simp only[la,lc,ln,lm,lt',ld,ls,lr]);omega)) ?_;rintro _ _ ⟨v2,rfl,rfl⟩;refine gQ 11 [1] O O (kA 2 O (kA 2 O ?_));exact tR O (mP 2 O) ⟨v2,O,O⟩
theorem zca (g:Nat) (p v:Value) (bs:List UInt8) (s:ByteArray) (hp:p=.pointer none\/p=.pointer (some ⟨g,0,none⟩)) (hl:bs.length<=1000000000000) (hs:s.size<=1000000000000):
 CD Tryz.prog 171 [.bx g 213 (.agg [.v p,.ov v]),.sl v 1 5 (bs.map dU8)] [dP g 0,.s s] (λr H'=>∃ v',r=.tup [dI (s.size:Int),.v .nilIface]/\H'=[.bx g 213 (.agg [dP g 0,.ov v']),.sl v' 1 5 ((bs++s.data.toList).map dU8)]):=by
 refine tZ Tryz.func171 O O (λC=>?_);refine T.bd 1 O (λbd1=>?_);have sz1:s.size<=9223372036854775807:=bd1;refine g' 9 O (tX [0] O O acs (eP g p (.ov v) hp) ?_);rintro _ _ ⟨rfl,rfl⟩;refine gQ 10 [0] O O (tE O (yH (i:=1) (bs:=bs) (s:=s) O O O zbP (by kernel_rfl) zc5 (by (try simp only[la,lc,ln]);omega)) ?_);rintro _ _ ⟨v1,rfl,rfl⟩;refine gQ 8 [0] O O (tP O (zw O Tryz.runUnderlying9) (g' 5 O ?_));exact tR O (mP 2 O) ⟨v1,O,O⟩
end Lp
namespace Lp
open Go Go.RowKit
theorem aL4 (a n:Nat):Int.fdiv (a:Int) (2 ^ n)=((a / 2 ^ n:Nat):Int):=by
 rw[show (2:Int) ^ n=((2 ^ n:Nat):Int) by push_cast;rfl];rw[Int.fdiv_eq_ediv_of_nonneg _ (Int.natCast_nonneg _)];exact(vZ a (2 ^ n)).symm
section
variable {P:Program} {ty:TypeId} {K:Kd} {H:List Hp} {t t':TypeId} {x y:Operand}
theorem zeP {k k':IntKind} {a n m:Nat} (hx:opD K x=some (.v (.int k (a:Int)))) (hy:opD K y=some (.v (.int k' (n:Int)))) (hn:n<=k.bits) (hm:2 ^ n=m):Pu P (.binOp .shr t x y t') ty K H (.v (.int k ((a / m:Nat):Int))):=
 zep hx hy (λw=>by
  subst hm;have h1:¬((n:Nat):Int)<0:=by omega
  have h2:min n k.bits=n:=by omega
  simp[eqGuard,binOp,Op.shift,h1,h2,aL4])
theorem bv8 (a b:Nat) (ha:a<256) (hb:b<256):(BitVec.ofInt IntKind.u8.bits (a:Int)&&& BitVec.ofInt IntKind.u8.bits (b:Int)).toNat=a&&& b:=by
 rw[BitVec.toNat_and,BitVec.toNat_ofInt,BitVec.toNat_ofInt];have e:(2:Nat) ^ IntKind.u8.bits=256:=rfl;rw[e];congr 1<;>omega
theorem bv8o (a b:Nat) (ha:a<256) (hb:b<256):(BitVec.ofInt IntKind.u8.bits (a:Int)||| BitVec.ofInt IntKind.u8.bits (b:Int)).toNat=a||| b:=by
 rw[BitVec.toNat_or,BitVec.toNat_ofInt,BitVec.toNat_ofInt];have e:(2:Nat) ^ IntKind.u8.bits=256:=rfl;rw[e];congr 1<;>omega
theorem zd3 {n:Nat} (h:n<256):IntKind.u8.wrap (n:Int)=(n:Int):=by simp[IntKind.wrap,IntKind.bits,IntKind.signed];omega
theorem zdy {a b c:Nat} (hx:opD K x=some (.v (.int .u8 (a:Int)))) (hy:opD K y=some (.v (.int .u8 (b:Int)))) (ha:a<256) (hb:b<256) (hc:a&&& b=c):Pu P (.binOp .and t x y t') ty K H (.v (.int .u8 (c:Int))):=
 zep hx hy (λw=>by
  subst hc;have h:a&&& b<256:=wC Nat.and_le_left ha;simp only[eqGuard,binOp,Op.intBits,bv8 a b ha hb,zd3 h];rfl)
theorem zdC {a b c:Nat} (hx:opD K x=some (.v (.int .u8 (a:Int)))) (hy:opD K y=some (.v (.int .u8 (b:Int)))) (ha:a<256) (hb:b<256) (hc:a||| b=c):Pu P (.binOp .or t x y t') ty K H (.v (.int .u8 (c:Int))):=
 zep hx hy (λw=>by
  subst hc;have h:a||| b<256:=Nat.or_lt_two_pow (n:=8) ha hb
  simp only[eqGuard,binOp,Op.intBits,bv8o a b ha hb,zd3 h];rfl)
theorem zff (a:Nat):a&&& 63=a % 64:=Nat.and_two_pow_sub_one_eq_mod a 6
theorem a2i (a:Nat):a&&& 15=a % 16:=Nat.and_two_pow_sub_one_eq_mod a 4
theorem ze4:∀ a,a<64->128||| a=128+a:=by decide
theorem a1q:∀ a,a<32->192||| a=192+a:=by decide
theorem a0v:∀ a,a<16->224||| a=224+a:=by decide
theorem aZa:∀ a,a<8->240||| a=240+a:=by decide
theorem sK {e:TypeId} (hx:opO K x=some (.slice none 0 0)) (ht:∀ w,(underlying t).run P w=.ok (.slice e) w):Pu P (.call { callee:=.builtin .cap,args:=#[x],argTypes:=#[t] }) ty K H (.v (.int .i64 0)):=
 ⟨λρ w F hk _ _=>by
  have e1:=hk.opO hx;refine wV (v:=.int .i64 0) (w':=w) ?_ ⟨O,O⟩;simp[execOp,zaq,resolve,invoke,builtin,e1,Builtin.cap_,ht,goInt]⟩
theorem nC:∀ (n t:Nat) (acc:Array Value),(∀ x∈acc.toList,x.oneCell'=true)->∀ x∈(Extern.BytealgMakeNoZero.digits n t acc).toList,x.oneCell'=true
 | 0,_,_,h=>h
 | n+1,t,acc,h=>by
  rw[Extern.BytealgMakeNoZero.digits];refine nC n _ _ λx hx=>?_
  simp only[Array.toList_push,jV,jJ] at hx;rcases hx with hx | rfl
  · exact h x hx
  rfl
theorem aCt {w:World} {F:Nat->Prop}:∀ us:List Value,(∀ u∈us,u.oneCell'=true)->RepE w F 1 (List.replicate us.length .any) us
 | [],_=>rfl
 | u::r,h=>⟨_,_,rfl,h u cW,One.one (h u cW),by rw[zeD (h u cW)];rfl,aCt r (λx hx=>h x (dA _ hx))⟩
theorem oW {f:FuncId} {ats ps:Array TypeId} {rt T n:Nat} (hc:∀ args w,(callFunc f args).run P w=((Extern.BytealgMakeNoZero.makeNoZero ps #[rt] args).run P w).andThen λv w'=>.ok (.value v) w') (hx:opD K x=some (.v (.int .i64 (n:Int)))) (ht:P.underlying rt=some (.slice T)) (hn:n<=140737488355328):
 Ef P (.call { callee:=.value (.func f),args:=#[x],argTypes:=ats }) ty K H (λd H'=>∃ v,d=.ov v/\H'=.sl v 1 T (List.replicate n .any)::H):=
 ⟨λC ρ w F hk gd=>by
  have e1:ev ρ x=_:=hk.op hx;have hrun:∃ cs:Array Value,(Extern.BytealgMakeNoZero.makeNoZero ps #[rt] #[.int .i64 n]).run P w=.ok (.slice (some ⟨w.heap.size,0,none⟩) n cs.size) (w.drew.drew.alloc (.cells cs T))/\n<=cs.size/\cs.size<=maxLen/\∀ x∈cs.toList,x.oneCell'=true:=by
   refine⟨Extern.BytealgMakeNoZero.digits (grownCap w n 0 T) ((Question.extern "internal/bytealg.MakeNoZero.bytes" 0).cut (w.tape (w.drawn+1) (.extern "internal/bytealg.MakeNoZero.bytes" 0))) #[],?_,?_,?_,?_⟩
   · have h1:¬(n:Int)<0:=(by omega);have h2:¬(281474976710656:Int)<(n:Int):=(by omega);have hdef:Extern.BytealgMakeNoZero.makeNoZero ps #[rt] #[.int .i64 n]=(do
      let .slice elem <-underlying rt | stuck "bytealg.MakeNoZero: slice type expected"
      if (n:Int)<0||(n:Int)>2 ^ 48 then runtimePanic (.error "makeslice: len out of range")
      let cap <-choose (.appendCap (n:Int).toNat 0 elem)
      askRoom cap
      let bytes <-choose (.extern "internal/bytealg.MakeNoZero.bytes" 0);let a <-newRow elem (Extern.BytealgMakeNoZero.digits cap bytes #[])
      pure (.slice (some a) (n:Int).toNat cap)):=rfl
     rw[hdef];simp[run_underlying ht,h1,h2,Question.forced,newRow,Lib.size_digits,grownCap]
   · rw[Lib.size_digits];simpa using grownCap_ge w n 0 T
   · rw[Lib.size_digits];simpa using grownCap_le_maxLen w n 0 T (by unfold maxLen;omega)
   exact nC _ _ _ (by simp)
  obtain ⟨cs,r1,r2,r3,r4⟩:=hrun;have n1:New w (w.drew.drew.alloc (.cells cs T)) w.heap.size T cs.toList:=by
   have:=New.mk' w.drew.drew T cs;exact⟨O,this.box,(Ext.drew w).trans ((Ext.drew w.drew).trans this.ext),this.size⟩
  refine wV (v:=.slice (some ⟨w.heap.size,0,none⟩) n cs.size) (w':=w.drew.drew.alloc (.cells cs T)) ?_ ⟨F,_,_,⟨_,O,O⟩,⟨O,O⟩,gd.born n1 ⟨cs.toList.take n,?_,?_⟩ (λb e=>by cases e;rfl),Keep.ext n1.ext⟩
  · have e0:ev ρ (.func f)=.func (.func f) #[] #[]:=rfl;simp[execOp,zaq,resolve,e0,Deferred.ofValue,invoke,hc,e1,r1]
  · have:=aCt (w:=w.drew.drew.alloc (.cells cs T)) (F:=F) (cs.toList.take n) (λu hu=>r4 u (vK hu));rw[d6,vN,vG r2] at this;exact this
  have hl:(cs.toList.take n).length=n:=by rw[d6,vN,vG r2]
  have hv:∀ x∈cs.toList.take n,(vcs x).length=1:=λx hx=>by rw[pR (r4 x (vK hx))];rfl
  refine⟨⟨zdr hv,.inr ⟨w.heap.size,cs.size,cs,by rw[hl],cX _,n1.box,by omega,r3,by simp,?_⟩⟩,hv⟩;rw[hl,Nat.mul_one,qI (λu hu=>r4 u (vK hu))]⟩
theorem Hp.front {v:Value} {T:TypeId} {xs:List D} {m:Nat} (hm:m<=xs.length):∀ w F,(Hp.sl v 1 T xs).ok w F->(Hp.sl (cut 1 v 0 m) 1 T (xs.take m)).ok w F:=λw F ⟨us,h1,h2⟩=>by
 have hl:=h1.len;refine⟨us.take m,h1.take m,?_⟩;rcases jT xs.length with h0 | h0
 · have hu:us=[]:=d5 (by omega);have:m=0:=(by omega);subst this;subst hu;obtain ⟨A,c,e,_⟩:=h2.sl.capOk;subst e;cases A with
   | none=>simpa [cut] using h2
   | some a=>simpa [cut,Addr.add] using h2
 obtain ⟨cap,r,e,_⟩:=h2.form (by omega);rw[e] at h2;have:=h2.front (m:=m) (by omega);rw[e];simpa [cut,Addr.add] using this
theorem aPu (v:Value):∀ {A:Option Addr} {n c:Nat},v=.slice A n c->cut 1 v 0 0=.slice A 0 c:=by
 rintro A n c rfl;cases A<;>simp[cut,Addr.add]
theorem Hp.front_blk {T:TypeId} {xs ys:List D} (v:Value):(Hp.sl (cut 1 v 0 0) 1 T ys).blk=(Hp.sl v 1 T xs).blk:=by
 cases v<;>try rfl
 rename_i A n c;rw[aPu _ rfl];cases A<;>rfl
theorem qS {t e:TypeId} {z a b j:Nat} {lo hi:Option Operand} {v:Value} {T:TypeId} {xs:List D} {rl rh:Option Int} (hx:opO K x=some v) (hm:nth H j=some (.sl v z T xs)) (hlo:bndD K lo=some rl) (hhi:bndD K hi=some rh) (ha:Bnd rl 0 a) (hb:Bnd rh xs.length b)
 (ht:∀ w,(underlying t).run P w=.ok (.slice e) w) (hs:∀ w,(Go.sizeOf e).run P w=.ok z w) (hab:a<=b) (hbn:b<=xs.length):Pu P (.slice t x lo hi none) ty K H (.ov (cut z v a b)):=
 ⟨λρ w F hk hF hH=>((xR (ty:=ty) hx hm hlo hhi ha hb ht hs hab hbn).out ρ w F hk hF hH).mono λu w' ⟨e,hr⟩=>⟨e,hr,by
  obtain ⟨us,_,ho⟩:=hH _ (zau hm);obtain ⟨A,c,hv,_⟩:=ho.sl.capOk;rw[hv];rfl⟩⟩
theorem aXg {t1 t2 e i:Nat} {v:Value} {T:TypeId} (hx:opO K x=some v) (hm:nth H i=some (.sl v 1 T [])) (hy:opO K y=some (.slice none 0 0)) (ht:∀ w,(underlying t1).run P w=.ok (.slice e) w) (hs:∀ w,(Go.sizeOf e).run P w=.ok 1 w):
 Pu P (.call { callee:=.builtin .copy,args:=#[x,y],argTypes:=#[t1,t2] }) ty K H (.v (.int .i64 0)):=
 ⟨λρ w F hk _ hH=>by
  obtain ⟨us,h1,h2⟩:=hH _ (zau hm);obtain ⟨A,c,e,_⟩:=h2.sl.capOk;have hl:=h1.len;have e1:=hk.opO hx;have e2:=hk.opO hy;rw[e] at e1;refine wV (v:=.int .i64 0) (w':=w) ?_ ⟨O,O⟩;cases A<;>simp[execOp,zaq,resolve,invoke,builtin,e1,e2,Builtin.copy_,ht,hs,goInt,Builtin.lenOf,Builtin.firstCells,storeCells]⟩
end
end Lp
