import Derived.Lib.MakeNoZero
import Derived.Test.YtheccaeefigajaaGreatDoorDW
set_option linter.unusedSimpArgs false
set_option linter.unusedVariables false
set_option maxHeartbeats 4000000
set_option maxRecDepth 100000
namespace Lp
open Go Go.RowKit Go.Proofs
theorem infz_21:IzP Tryz.prog 21 (.int .i32 0) 1 4:=zcs (by kernel_rfl)
theorem und_130:Tryz.prog.underlying 130=some (.slice 21):=by kernel_rfl
theorem Kind_c (r:Int) :
 CD Tryz.prog 151 [] [.v (.int .i32 r)] (isR (dI (zt r))):=by
 refine tZ Tryz.func151 O O (fun C=>?_)
 refine g' 12 O ?_
 refine tOr 2 2 (c:=decide (r=(65533:Int))) O O O O O O (fun hb1 nx2=>?_) ?_
 · skip
   have hf3:=of_decide_eq_false hb1
   refine g' 2 O ?_
   exact nx2 _ O O (kx 2 O O)
 refine g' 3 O ?_
 refine tC O (fun hc4=>?_) (fun hc4=>?_)
 · simp only[bX,bJ] at hc4
   refine g' 8 O ?_
   exact tRs O Tryz.results151 (.cons (zd (zc O) (Cv.eq (congrArg (fun n=>D.v (.int .i64 n)) (by unfold zt;(repeat (any_goals split))<;>omega)))) .nil) O HSub.none ⟨O,O⟩
 · simp only[bX,bJ] at hc4
   refine g' 1 O ?_
   refine tS 10 (((((decide ((97:Int)≤r)&&decide (r≤(122:Int)))||(decide ((65:Int)≤r)&&decide (r≤(90:Int))))||decide (r=(95:Int)))||decide ((128:Int)≤r))) (fun _ hQ5=>?_) ?_
   · skip
     by_cases hg6:(97:Int)≤r
     · skip
       by_cases hg7:r≤(122:Int)
       · skip
         refine g' 2 O (tP O (zad O O (decide_eq_true hg6)) (g' 2 O (tG O (zaY O O (decide_eq_true hg7)) (g' 19 O ?_))))
         exact tQ hQ5 O O (by first | (simp[hg6,hg7];done) | (simp_all;done))
       · skip
         by_cases hg8:(65:Int)≤r
         · skip
           by_cases hg9:r≤(90:Int)
           · skip
             refine g' 2 O (tP O (zad O O (decide_eq_true hg6)) (g' 2 O (tG O (zaY O O (decide_eq_false hg7)) (g' 3 O (tG O (zad O O (decide_eq_true hg8)) (g' 2 O (tG O (zaY O O (decide_eq_true hg9)) (g' 12 O ?_))))))))
             exact tQ hQ5 O O (by first | (simp[hg6,hg7,hg8,hg9];done) | (simp_all;done))
           · skip
             by_cases hg10:r=(95:Int)
             · skip
               refine g' 2 O (tP O (zad O O (decide_eq_true hg6)) (g' 2 O (tG O (zaY O O (decide_eq_false hg7)) (g' 3 O (tG O (zad O O (decide_eq_true hg8)) (g' 2 O (tG O (zaY O O (decide_eq_false hg9)) (g' 4 O (tG O (zag O O (decide_eq_true hg10)) (g' 7 O ?_))))))))))
               exact tQ hQ5 O O (by first | (simp[hg10,hg6,hg7,hg8,hg9];done) | (simp_all;done))
             · skip
               refine g' 2 O (tP O (zad O O (decide_eq_true hg6)) (g' 2 O (tG O (zaY O O (decide_eq_false hg7)) (g' 3 O (tG O (zad O O (decide_eq_true hg8)) (g' 2 O (tG O (zaY O O (decide_eq_false hg9)) (g' 4 O (tG O (zag O O (decide_eq_false hg10)) (g' 7 O ?_))))))))))
               exact tQ hQ5 O O (by first | (simp[hg10,hg6,hg7,hg8,hg9];done) | (simp_all;done))
         · skip
           by_cases hg11:r=(95:Int)
           · skip
             refine g' 2 O (tP O (zad O O (decide_eq_true hg6)) (g' 2 O (tG O (zaY O O (decide_eq_false hg7)) (g' 3 O (tG O (zad O O (decide_eq_false hg8)) (g' 7 O (tG O (zag O O (decide_eq_true hg11)) (g' 7 O ?_))))))))
             exact tQ hQ5 O O (by first | (simp[hg11,hg6,hg7,hg8];done) | (simp_all;done))
           · skip
             refine g' 2 O (tP O (zad O O (decide_eq_true hg6)) (g' 2 O (tG O (zaY O O (decide_eq_false hg7)) (g' 3 O (tG O (zad O O (decide_eq_false hg8)) (g' 7 O (tG O (zag O O (decide_eq_false hg11)) (g' 7 O ?_))))))))
             exact tQ hQ5 O O (by first | (simp[hg11,hg6,hg7,hg8];done) | (simp_all;done))
     · skip
       by_cases hg12:(65:Int)≤r
       · skip
         by_cases hg13:r≤(90:Int)
         · skip
           refine g' 2 O (tP O (zad O O (decide_eq_false hg6)) (g' 6 O (tG O (zad O O (decide_eq_true hg12)) (g' 2 O (tG O (zaY O O (decide_eq_true hg13)) (g' 12 O ?_))))))
           exact tQ hQ5 O O (by first | (simp[hg12,hg13,hg6];done) | (simp_all;done))
         · skip
           by_cases hg14:r=(95:Int)
           · skip
             refine g' 2 O (tP O (zad O O (decide_eq_false hg6)) (g' 6 O (tG O (zad O O (decide_eq_true hg12)) (g' 2 O (tG O (zaY O O (decide_eq_false hg13)) (g' 4 O (tG O (zag O O (decide_eq_true hg14)) (g' 7 O ?_))))))))
             exact tQ hQ5 O O (by first | (simp[hg12,hg13,hg14,hg6];done) | (simp_all;done))
           · skip
             refine g' 2 O (tP O (zad O O (decide_eq_false hg6)) (g' 6 O (tG O (zad O O (decide_eq_true hg12)) (g' 2 O (tG O (zaY O O (decide_eq_false hg13)) (g' 4 O (tG O (zag O O (decide_eq_false hg14)) (g' 7 O ?_))))))))
             exact tQ hQ5 O O (by first | (simp[hg12,hg13,hg14,hg6];done) | (simp_all;done))
       · skip
         by_cases hg15:r=(95:Int)
         · skip
           refine g' 2 O (tP O (zad O O (decide_eq_false hg6)) (g' 6 O (tG O (zad O O (decide_eq_false hg12)) (g' 7 O (tG O (zag O O (decide_eq_true hg15)) (g' 7 O ?_))))))
           exact tQ hQ5 O O (by first | (simp[hg12,hg15,hg6];done) | (simp_all;done))
         · skip
           refine g' 2 O (tP O (zad O O (decide_eq_false hg6)) (g' 6 O (tG O (zad O O (decide_eq_false hg12)) (g' 7 O (tG O (zag O O (decide_eq_false hg15)) (g' 7 O ?_))))))
           exact tQ hQ5 O O (by first | (simp[hg12,hg15,hg6];done) | (simp_all;done))
   · skip
     refine g' 1 O ?_
     refine tC O (fun hc16=>?_) (fun hc16=>?_)
     · simp only[bX,bJ] at hc16
       refine g' 8 O ?_
       exact tRs O Tryz.results151 (.cons (zd (zc O) (Cv.eq (congrArg (fun n=>D.v (.int .i64 n)) (by unfold zt;(repeat (any_goals split))<;>omega)))) .nil) O HSub.none ⟨O,O⟩
     · simp only[bX,bJ] at hc16
       refine g' 5 O ?_
       refine tAnd 2 2 (c:=decide (r≤(57:Int))) O O O O O O (fun hb17 nx18=>?_) ?_
       · skip
         have hf19:=of_decide_eq_true hb17
         refine g' 2 O ?_
         exact nx18 _ O O (kx 2 O O)
       refine g' 3 O ?_
       refine tC O (fun hc20=>?_) (fun hc20=>?_)
       · simp only[bX,bJ] at hc20
         refine g' 8 O ?_
         exact tRs O Tryz.results151 (.cons (zd (zc O) (Cv.eq (congrArg (fun n=>D.v (.int .i64 n)) (by unfold zt;(repeat (any_goals split))<;>omega)))) .nil) O HSub.none ⟨O,O⟩
       · simp only[bX,bJ] at hc20
         refine g' 5 O ?_
         refine tOr 2 2 (c:=decide (r=(9:Int))) O O O O O O (fun hb21 nx22=>?_) ?_
         · skip
           have hf23:=of_decide_eq_false hb21
           refine g' 2 O ?_
           exact nx22 _ O O (kx 2 O O)
         refine g' 1 O ?_
         refine tOr 6 2 (c:=decide (r=(10:Int))) O O O O O O (fun hb24 nx25=>?_) ?_
         · skip
           obtain ⟨hf26,hf27⟩:=orF hb24
           have hf28:=of_decide_eq_false hf26
           have hf29:=of_decide_eq_false hf27
           refine g' 2 O ?_
           exact nx25 _ O O (kx 2 O O)
         refine g' 3 O ?_
         refine tC O (fun hc30=>?_) (fun hc30=>?_)
         · simp only[bX,bJ] at hc30
           refine g' 8 O ?_
           exact tRs O Tryz.results151 (.cons (zd (zc O) (Cv.eq (congrArg (fun n=>D.v (.int .i64 n)) (by unfold zt;(repeat (any_goals split))<;>omega)))) .nil) O HSub.none ⟨O,O⟩
         · simp only[bX,bJ] at hc30
           refine g' 9 O ?_
           exact tRs O Tryz.results151 (.cons (zd (zc O) (Cv.eq (congrArg (fun n=>D.v (.int .i64 n)) (by unfold zt;(repeat (any_goals split))<;>omega)))) .nil) O HSub.none ⟨O,O⟩
theorem zcO (r:Int) :
 CD Tryz.prog 107 [] [.v (.int .i32 r)] (isR (dI (zt r))):=by
 refine tZ Tryz.func107 O O (fun C=>?_)
 refine g' 12 O ?_
 refine tOr 2 2 (c:=decide (r=(65533:Int))) O O O O O O (fun hb1 nx2=>?_) ?_
 · skip
   have hf3:=of_decide_eq_false hb1
   refine g' 2 O ?_
   exact nx2 _ O O (kx 2 O O)
 refine g' 3 O ?_
 refine tC O (fun hc4=>?_) (fun hc4=>?_)
 · simp only[bX,bJ] at hc4
   refine g' 8 O ?_
   exact tRs O Tryz.results107 (.cons (zd (zc O) (Cv.eq (congrArg (fun n=>D.v (.int .i64 n)) (by unfold zt;(repeat (any_goals split))<;>omega)))) .nil) O HSub.none ⟨O,O⟩
 · simp only[bX,bJ] at hc4
   refine g' 1 O ?_
   refine tS 10 (((((decide ((97:Int)≤r)&&decide (r≤(122:Int)))||(decide ((65:Int)≤r)&&decide (r≤(90:Int))))||decide (r=(95:Int)))||decide ((128:Int)≤r))) (fun _ hQ5=>?_) ?_
   · skip
     by_cases hg6:(97:Int)≤r
     · skip
       by_cases hg7:r≤(122:Int)
       · skip
         refine g' 2 O (tP O (zad O O (decide_eq_true hg6)) (g' 2 O (tG O (zaY O O (decide_eq_true hg7)) (g' 19 O ?_))))
         exact tQ hQ5 O O (by first | (simp[hg6,hg7];done) | (simp_all;done))
       · skip
         by_cases hg8:(65:Int)≤r
         · skip
           by_cases hg9:r≤(90:Int)
           · skip
             refine g' 2 O (tP O (zad O O (decide_eq_true hg6)) (g' 2 O (tG O (zaY O O (decide_eq_false hg7)) (g' 3 O (tG O (zad O O (decide_eq_true hg8)) (g' 2 O (tG O (zaY O O (decide_eq_true hg9)) (g' 12 O ?_))))))))
             exact tQ hQ5 O O (by first | (simp[hg6,hg7,hg8,hg9];done) | (simp_all;done))
           · skip
             by_cases hg10:r=(95:Int)
             · skip
               refine g' 2 O (tP O (zad O O (decide_eq_true hg6)) (g' 2 O (tG O (zaY O O (decide_eq_false hg7)) (g' 3 O (tG O (zad O O (decide_eq_true hg8)) (g' 2 O (tG O (zaY O O (decide_eq_false hg9)) (g' 4 O (tG O (zag O O (decide_eq_true hg10)) (g' 7 O ?_))))))))))
               exact tQ hQ5 O O (by first | (simp[hg10,hg6,hg7,hg8,hg9];done) | (simp_all;done))
             · skip
               refine g' 2 O (tP O (zad O O (decide_eq_true hg6)) (g' 2 O (tG O (zaY O O (decide_eq_false hg7)) (g' 3 O (tG O (zad O O (decide_eq_true hg8)) (g' 2 O (tG O (zaY O O (decide_eq_false hg9)) (g' 4 O (tG O (zag O O (decide_eq_false hg10)) (g' 7 O ?_))))))))))
               exact tQ hQ5 O O (by first | (simp[hg10,hg6,hg7,hg8,hg9];done) | (simp_all;done))
         · skip
           by_cases hg11:r=(95:Int)
           · skip
             refine g' 2 O (tP O (zad O O (decide_eq_true hg6)) (g' 2 O (tG O (zaY O O (decide_eq_false hg7)) (g' 3 O (tG O (zad O O (decide_eq_false hg8)) (g' 7 O (tG O (zag O O (decide_eq_true hg11)) (g' 7 O ?_))))))))
             exact tQ hQ5 O O (by first | (simp[hg11,hg6,hg7,hg8];done) | (simp_all;done))
           · skip
             refine g' 2 O (tP O (zad O O (decide_eq_true hg6)) (g' 2 O (tG O (zaY O O (decide_eq_false hg7)) (g' 3 O (tG O (zad O O (decide_eq_false hg8)) (g' 7 O (tG O (zag O O (decide_eq_false hg11)) (g' 7 O ?_))))))))
             exact tQ hQ5 O O (by first | (simp[hg11,hg6,hg7,hg8];done) | (simp_all;done))
     · skip
       by_cases hg12:(65:Int)≤r
       · skip
         by_cases hg13:r≤(90:Int)
         · skip
           refine g' 2 O (tP O (zad O O (decide_eq_false hg6)) (g' 6 O (tG O (zad O O (decide_eq_true hg12)) (g' 2 O (tG O (zaY O O (decide_eq_true hg13)) (g' 12 O ?_))))))
           exact tQ hQ5 O O (by first | (simp[hg12,hg13,hg6];done) | (simp_all;done))
         · skip
           by_cases hg14:r=(95:Int)
           · skip
             refine g' 2 O (tP O (zad O O (decide_eq_false hg6)) (g' 6 O (tG O (zad O O (decide_eq_true hg12)) (g' 2 O (tG O (zaY O O (decide_eq_false hg13)) (g' 4 O (tG O (zag O O (decide_eq_true hg14)) (g' 7 O ?_))))))))
             exact tQ hQ5 O O (by first | (simp[hg12,hg13,hg14,hg6];done) | (simp_all;done))
           · skip
             refine g' 2 O (tP O (zad O O (decide_eq_false hg6)) (g' 6 O (tG O (zad O O (decide_eq_true hg12)) (g' 2 O (tG O (zaY O O (decide_eq_false hg13)) (g' 4 O (tG O (zag O O (decide_eq_false hg14)) (g' 7 O ?_))))))))
             exact tQ hQ5 O O (by first | (simp[hg12,hg13,hg14,hg6];done) | (simp_all;done))
       · skip
         by_cases hg15:r=(95:Int)
         · skip
           refine g' 2 O (tP O (zad O O (decide_eq_false hg6)) (g' 6 O (tG O (zad O O (decide_eq_false hg12)) (g' 7 O (tG O (zag O O (decide_eq_true hg15)) (g' 7 O ?_))))))
           exact tQ hQ5 O O (by first | (simp[hg12,hg15,hg6];done) | (simp_all;done))
         · skip
           refine g' 2 O (tP O (zad O O (decide_eq_false hg6)) (g' 6 O (tG O (zad O O (decide_eq_false hg12)) (g' 7 O (tG O (zag O O (decide_eq_false hg15)) (g' 7 O ?_))))))
           exact tQ hQ5 O O (by first | (simp[hg12,hg15,hg6];done) | (simp_all;done))
   · skip
     refine g' 1 O ?_
     refine tC O (fun hc16=>?_) (fun hc16=>?_)
     · simp only[bX,bJ] at hc16
       refine g' 8 O ?_
       exact tRs O Tryz.results107 (.cons (zd (zc O) (Cv.eq (congrArg (fun n=>D.v (.int .i64 n)) (by unfold zt;(repeat (any_goals split))<;>omega)))) .nil) O HSub.none ⟨O,O⟩
     · simp only[bX,bJ] at hc16
       refine g' 5 O ?_
       refine tAnd 2 2 (c:=decide (r≤(57:Int))) O O O O O O (fun hb17 nx18=>?_) ?_
       · skip
         have hf19:=of_decide_eq_true hb17
         refine g' 2 O ?_
         exact nx18 _ O O (kx 2 O O)
       refine g' 3 O ?_
       refine tC O (fun hc20=>?_) (fun hc20=>?_)
       · simp only[bX,bJ] at hc20
         refine g' 8 O ?_
         exact tRs O Tryz.results107 (.cons (zd (zc O) (Cv.eq (congrArg (fun n=>D.v (.int .i64 n)) (by unfold zt;(repeat (any_goals split))<;>omega)))) .nil) O HSub.none ⟨O,O⟩
       · simp only[bX,bJ] at hc20
         refine g' 5 O ?_
         refine tOr 2 2 (c:=decide (r=(9:Int))) O O O O O O (fun hb21 nx22=>?_) ?_
         · skip
           have hf23:=of_decide_eq_false hb21
           refine g' 2 O ?_
           exact nx22 _ O O (kx 2 O O)
         refine g' 1 O ?_
         refine tOr 6 2 (c:=decide (r=(10:Int))) O O O O O O (fun hb24 nx25=>?_) ?_
         · skip
           obtain ⟨hf26,hf27⟩:=orF hb24
           have hf28:=of_decide_eq_false hf26
           have hf29:=of_decide_eq_false hf27
           refine g' 2 O ?_
           exact nx25 _ O O (kx 2 O O)
         refine g' 3 O ?_
         refine tC O (fun hc30=>?_) (fun hc30=>?_)
         · simp only[bX,bJ] at hc30
           refine g' 8 O ?_
           exact tRs O Tryz.results107 (.cons (zd (zc O) (Cv.eq (congrArg (fun n=>D.v (.int .i64 n)) (by unfold zt;(repeat (any_goals split))<;>omega)))) .nil) O HSub.none ⟨O,O⟩
         · simp only[bX,bJ] at hc30
           refine g' 9 O ?_
           exact tRs O Tryz.results107 (.cons (zd (zc O) (Cv.eq (congrArg (fun n=>D.v (.int .i64 n)) (by unfold zt;(repeat (any_goals split))<;>omega)))) .nil) O HSub.none ⟨O,O⟩
theorem Name_c (s:ByteArray) :
 CD Tryz.prog 176 [] [.s s] (isR (dB (zbN s))):=by
 refine tZ Tryz.func176 O O (fun C=>?_)
 refine T.bd 0 O (fun bd0=>?_)
 have sz0:s.size≤9223372036854775807:=bd0
 refine g' 14 O (tE O (zbJ O Tryz.runUnderlying9) ?_)
 rintro _ _ ⟨g1,rfl,rfl⟩
 refine g' 3 O (tl2 (fun (a_:Nat) (b_:Nat)=>[(8,dP g1 0),(3,dN b_)]) (fun a_ b_=>[.it g1 s a_]) (fun a_ b_=>(a_≤s.size)∧(b_≤a_)∧(zc1 0 (zo s)=zc1 b_ (zao s a_))) (fun a_ b_=>s.size-a_) 0 0 O (sa O) HSub.rfl' ⟨Nat.zero_le _,Nat.le_refl _,O⟩ ?_)
 rintro p n ⟨hp,hn,hf⟩
 rcases Nat.lt_or_ge p s.size with hlt | hge
 · skip
   have hrune:=zX hlt
   have hrl:=za9 s p
   have hdw:=zJ s p hlt
   have hdp:=zp s p
   refine g' 2 O (tE O (zaU (i:=0) O O hlt) ?_)
   rintro _ _ ⟨rfl,rfl⟩
   refine g' 18 O (tW O acs (Kind_c ((decR s p:Nat):Int)) (g' 4 O ?_))
   refine tS 23 ((decide (zt ((decR s p:Nat):Int)≠(1:Int))&&(decide (zt ((decR s p:Nat):Int)≠(2:Int))||decide (((n:Nat):Int)=(0:Int))))) (fun _ hQ2=>?_) ?_
   · skip
     by_cases hg3:zt ((decR s p:Nat):Int)≠(1:Int)
     · skip
       by_cases hg4:zt ((decR s p:Nat):Int)≠(2:Int)
       · skip
         refine g' 2 O (tP O (zdT O O (decide_eq_true hg3)) (g' 2 O (tG O (zdT O O (decide_eq_true hg4)) (g' 6 O ?_))))
         exact tQ hQ2 O O (by first | (simp[hg3,hg4];done) | (simp_all;done))
       · skip
         refine g' 2 O (tP O (zdT O O (decide_eq_true hg3)) (g' 2 O (tG O (zdT O O (decide_eq_false hg4)) (g' 6 O ?_))))
         exact tQ hQ2 O O (by first | (simp[hg3,hg4];done) | (simp_all;done))
     · skip
       refine g' 2 O (tP O (zdT O O (decide_eq_false hg3)) (g' 9 O ?_))
       exact tQ hQ2 O O (by first | (simp[hg3];done) | (simp_all;done))
   · skip
     refine g' 1 O ?_
     refine tC O (fun hc5=>?_) (fun hc5=>?_)
     · simp only[bX,bJ] at hc5
       refine g' 11 O ?_
       exact tRs O Tryz.results176 (.cons (zd (zc O) (cB ((by unfold zbN;rw[hf,hrune];rw[nameR_bad (by omega)])))) .nil) O HSub.none ⟨O,O⟩
     · simp only[bX,bJ] at hc5
       refine g' 4 O (tP O (zy (c:=((n+1:Nat):Int)) O O (zn (by omega) (by omega))) (g' 3 O ?_))
       exact tp2 (p+decW s p) (n+1) (sa O) HSub.rfl' ⟨by have:=zJ s p hlt;omega,by omega,by rw[hf,hrune,nameR_next (by omega)]⟩ (by have:=zp s p;omega)
 · skip
   have hrune:=zaf hge
   refine g' 2 O (tP O (zbA (i:=0) O O hge) (g' 15 O ?_))
   refine tAnd 2 2 (c:=decide (((n:Nat):Int)≤(30:Int))) O O O O O O (fun hb6 nx7=>?_) ?_
   · skip
     have hf8:=of_decide_eq_true hb6
     refine g' 2 O ?_
     exact nx7 _ O O (kx 2 O O)
   refine g' 4 O ?_
   exact tRs O Tryz.results176 (.cons (zd (zc O) (cB ((by unfold zbN;rw[hf,hrune];simp only[zc1];congr 1<;>exact decide_eq_decide.2 (by omega))))) .nil) O HSub.none ⟨O,O⟩
theorem zcl (s:ByteArray) (hs:s.size≤1000000000):
 CD Tryz.prog 106 [] [.s s] (isOwn 1 21 ((zo s).map dR)):=by
 refine tZ Tryz.func106 O O (fun C=>?_)
 refine T.bd 0 O (fun bd0=>?_)
 have sz0:s.size≤9223372036854775807:=bd0
 refine g' 14 O (tE O (zbJ O Tryz.runUnderlying9) ?_)
 rintro _ _ ⟨g1,rfl,rfl⟩
 refine g' 3 O (tl3 (fun (a_:Nat) (b_:Value) (c_:List Int)=>[(2,dZ),(7,dP g1 0),(3,.ov b_)]) (fun a_ b_ c_=>[.it g1 s a_,.sl b_ 1 21 (c_.map dR)]) (fun a_ b_ c_=>(a_≤s.size)∧(c_.length≤a_)∧(zo s=c_++zao s a_)) (fun a_ b_ c_=>s.size-a_) 0 (.slice none 0 0) [] O ⟨sk O,sk O,sc O (Cv.ov O),trivial⟩ (HSub.trans (HSub.nil 1 21) (HSub.perm (List.Perm.swap _ _ _))) ⟨Nat.zero_le _,Nat.le_refl _,O⟩ ?_)
 rintro p ov l ⟨hp,hn,hf⟩
 rcases Nat.lt_or_ge p s.size with hlt | hge
 · skip
   have hrune:=zX hlt
   have hrl:=za9 s p
   have hdw:=zJ s p hlt
   have hdp:=zp s p
   refine g' 2 O (tE O (zaU (i:=0) O O hlt) ?_)
   rintro _ _ ⟨rfl,rfl⟩
   refine g' 17 O (tE O (zE [.tmp 12] O O (.cons (CellD.v O) .nil) O Tryz.runUnderlying130 Tryz.sizeOf21 Tryz.zeroValue21 O O O O) ?_)
   rintro _ _ ⟨g2,rfl,rfl⟩
   refine tE O (zz (f:=dR) (l:=l) (l':=[((decR s p:Nat):Int)]) (i:=2) O O O (SrcD.own (j:=0) O O) und_130 infz_21 O O (by unfold maxLen;(try simp only[la,lc,ln,lm,lt',ld,ls,lr]);omega) (by (try simp only[la,lc,ln,lm,lt',ld,ls,lr]);omega)) ?_
   rintro _ _ ⟨v3,rfl,rfl⟩
   refine g' 3 O ?_
   exact tp3 (p+decW s p) v3 (l++[((decR s p:Nat):Int)]) (sa O) (HSub.lst 1 O) ⟨by have:=zJ s p hlt;omega,by rw[List.length_append,List.length_singleton];omega,by rw[hf,hrune,List.append_assoc];rfl⟩ (by have:=zp s p;omega)
 · skip
   have hrune:=zaf hge
   refine g' 2 O (tP O (zbA (i:=0) O O hge) (g' 17 O (T.subH (HSub.less (sub_one (i:=1) O)) (T.subH (HSub.turn (h':=.sl ov 1 21 ((zo s).map dR)) O (Hp.eq_sl (show List.map dR l=List.map dR (zo s) from congrArg _ (by rw[hf,hrune,List.append_nil])))) ?_))))
   exact tR O HSub.rfl' ⟨_,O,O⟩
theorem refName_c (s:ByteArray) (hs:s.size≤1000000000):
 CD Tryz.prog 37 [] [.s s] (isR (dB (zbN s))):=by
 refine tZ Tryz.func37 O O (fun C=>?_)
 refine T.bd 0 O (fun bd0=>?_)
 have sz0:s.size≤9223372036854775807:=bd0
 refine g' 8 O (tX [] O O acs (zcl s (by omega)) ?_)
 rintro _ _ ⟨v1,rfl,rfl⟩
 refine g' 5 O ?_
 by_cases hg2:(((zo s).length:Nat):Int)<(1:Int)
 · skip
   refine g' 2 O (tP O (zV (n:=(zo s).length) (j:=0) O O Tryz.runUnderlying130 (List.length_map _)) (tP O (za5 O O (decide_eq_true hg2)) (g' 22 O ?_)))
   exact tRs O Tryz.results37 (.cons (zd (zc O) (cB ((by unfold zbN;rw[zbE];first | (rw[List.take_of_length_le (by omega)] at hw;rw[List.getD_eq_getElem?_getD,hx1,hw];simp;omega) | (rw[List.getD_eq_getElem?_getD,hx1];simp;omega) | (simp;omega))))) .nil) O HSub.none ⟨O,O⟩
 · skip
   by_cases hg3:(30:Int)<(((zo s).length:Nat):Int)
   · skip
     refine g' 2 O (tP O (zV (n:=(zo s).length) (j:=0) O O Tryz.runUnderlying130 (List.length_map _)) (tP O (za5 O O (decide_eq_false hg2)) (g' 2 O (tG O (zV (n:=(zo s).length) (j:=0) O O Tryz.runUnderlying130 (List.length_map _)) (tG O (zca O O (decide_eq_true hg3)) (g' 18 O ?_))))))
     exact tRs O Tryz.results37 (.cons (zd (zc O) (cB ((by unfold zbN;rw[zbE];first | (rw[List.take_of_length_le (by omega)] at hw;rw[List.getD_eq_getElem?_getD,hx1,hw];simp;omega) | (rw[List.getD_eq_getElem?_getD,hx1];simp;omega) | (simp;omega))))) .nil) O HSub.none ⟨O,O⟩
   · skip
     refine g' 2 O (tP O (zV (n:=(zo s).length) (j:=0) O O Tryz.runUnderlying130 (List.length_map _)) (tP O (za5 O O (decide_eq_false hg2)) (g' 2 O (tG O (zV (n:=(zo s).length) (j:=0) O O Tryz.runUnderlying130 (List.length_map _)) (tG O (zca O O (decide_eq_false hg3)) (g' 3 O ?_))))))
     obtain ⟨x1,hx1⟩:=zN (zo s) 0 (by omega)
     refine tG O (zbB (k:=0) (j:=0) O O O Tryz.runUnderlying130 Tryz.sizeOf21 (by first | rfl | omega) (zI hx1)) (tG O (p_load_sl1 O (i:=0) O (zI hx1) Tryz.isAgg21 O) (tW O acs (zcO x1) (g' 4 O ?_)))
     refine tD O (fun hc4=>?_) (fun hc4=>?_)
     · skip
       refine g' 7 O ?_
       exact tRs O Tryz.results37 (.cons (zd (zc O) (cB ((by unfold zbN;rw[zbE];first | (rw[wordR_bad hx1 (by omega)];simp;done) | (rw[List.take_of_length_le (by omega)] at hw;rw[List.getD_eq_getElem?_getD,hx1,hw];simp;omega) | (rw[List.getD_eq_getElem?_getD,hx1];simp;omega) | (simp;omega))))) .nil) O HSub.none ⟨O,O⟩
     · skip
       refine g' 9 O (tl1 (fun (a_:Nat)=>[(3,.ov v1),(4,dN a_)]) (fun a_=>[.sl v1 1 21 ((zo s).map dR)]) (fun a_=>(a_≤(zo s).length)∧(zc9 ((zo s).take a_)=true)) (fun a_=>(zo s).length-a_) 0 O (sa O) HSub.rfl' ⟨Nat.zero_le _,O⟩ ?_)
       rintro k ⟨hk,hw⟩
       refine g' 5 O (tP O (zV (n:=(zo s).length) (j:=0) O O Tryz.runUnderlying130 (List.length_map _)) (g' 3 O ?_))
       refine tD O (fun hc5=>?_) (fun hc5=>?_)
       · skip
         refine g' 8 O ?_
         obtain ⟨x2,hx2⟩:=zN (zo s) k (by omega)
         refine tP O (zbB (k:=k) (j:=0) O O O Tryz.runUnderlying130 Tryz.sizeOf21 (by first | rfl | omega) (zI hx2)) (tP O (p_load_sl1 O (i:=0) O (zI hx2) Tryz.isAgg21 O) (tW O acs (zcO x2) (g' 2 O ?_)))
         refine tAnd 6 6 (c:=decide (zt x2≠(2:Int))) O O O O O O (fun hb6 nx7=>?_) ?_
         · skip
           have hf8:=of_decide_eq_true hb6
           refine g' 2 O (tG O (zbB (k:=k) (j:=0) O O O Tryz.runUnderlying130 Tryz.sizeOf21 (by first | rfl | omega) (zI hx2)) (tG O (p_load_sl1 O (i:=0) O (zI hx2) Tryz.isAgg21 O) (tW O acs (zcO x2) (g' 1 O ?_))))
           exact nx7 _ O O (kx 6 O O)
         refine g' 2 O ?_
         refine tC O (fun hc9=>?_) (fun hc9=>?_)
         · simp only[bX,bJ] at hc9
           refine g' 11 O ?_
           exact tRs O Tryz.results37 (.cons (zd (zc O) (cB ((by unfold zbN;rw[zbE];first | (rw[wordR_bad hx2 (by omega)];simp;done) | (rw[List.take_of_length_le (by omega)] at hw;rw[List.getD_eq_getElem?_getD,hx1,hw];simp;omega) | (rw[List.getD_eq_getElem?_getD,hx1];simp;omega) | (simp;omega))))) .nil) O HSub.none ⟨O,O⟩
         · simp only[bX,bJ] at hc9
           refine g' 5 O (tP O (zy (c:=((k+1:Nat):Int)) O O (zn (by omega) (by omega))) (g' 2 O ?_))
           exact tp1 (k+1) (sa O) HSub.rfl' ⟨by omega,wordR_take hx2 hw (by omega)⟩ (by omega)
       · skip
         refine g' 11 O ?_
         exact tRs O Tryz.results37 (.cons (zd (zc O) (cB ((by unfold zbN;rw[zbE];first | (rw[List.take_of_length_le (by omega)] at hw;rw[List.getD_eq_getElem?_getD,hx1,hw];simp;omega) | (rw[List.getD_eq_getElem?_getD,hx1];simp;omega) | (simp;omega))))) .nil) O HSub.none ⟨O,O⟩
end Lp
set_option linter.unusedSimpArgs false
set_option linter.unusedVariables false
set_option maxHeartbeats 4000000
set_option maxRecDepth 100000
namespace Lp
open Go Go.RowKit Go.Proofs
theorem eqp_211_eql (x y:Operand) (a:Addr) (w:World):(do eqGuard .eql 211 x y (.pointer (some a)) (.pointer none);binOp .eql 211 (.pointer (some a)) (.pointer none):Sem Value).run Tryz.prog w=.ok (.bool false) w:=by kernel_rfl
theorem eqs_211_neq (d:Nat) (a:Addr) (w:World):(Op.equalIn (d+1) 211 (.pointer (some a)) (.pointer (some a))).run Tryz.prog w=.ok true w:=by
 rw[Op.equalIn]
 simp only[Sem.run_bind,run_underlying (show Tryz.prog.underlying 211=some (.pointer 213) by kernel_rfl),Result.andThen_ok,Tryz.sizeOf213]
 simp[sameAddr]
theorem eqt_211_neq (a:Addr) (w:World):(Op.equal 211 (.pointer (some a)) (.pointer (some a))).run Tryz.prog w=.ok true w:=eqs_211_neq 9999 a w
theorem eqq_211_neq (x y:Operand) (a:Addr) (w:World):(do eqGuard .neq 211 x y (.pointer (some a)) (.pointer (some a));binOp .neq 211 (.pointer (some a)) (.pointer (some a)):Sem Value).run Tryz.prog w=.ok (.bool false) w:=by simp[eqGuard,binOp,eqt_211_neq]
theorem zcf:IzP Tryz.prog 5 (.int .u8 0) 1 1:=zcs (by kernel_rfl)
theorem za6:Tryz.prog.underlying 103=some (.slice 5):=by kernel_rfl
theorem cv_up {w:World} {g:Nat} {c:Array Value} (h:w.heap[g]?=some (.cells c 213 (0,0))) (hc:c.size=2):(convert 211 245 (.pointer (some ⟨g,0,none⟩))).run Tryz.prog w=.ok (.pointer (some ⟨g,0,none⟩)) w:=by
 simp[convert,run_underlying (show Tryz.prog.underlying 211=some _ by kernel_rfl),run_underlying (show Tryz.prog.underlying 245=some _ by kernel_rfl),Conv.unsafePointer,Conv.seenAt,viewAt,cellsIn,run_shape,h,hc,World.shape?,Tryz.sizeOf213]
theorem cv_down {w:World} {g:Nat} {c:Array Value} (h:w.heap[g]?=some (.cells c 213 (0,0))) (hc:c.size=2):(convert 245 211 (.pointer (some ⟨g,0,none⟩))).run Tryz.prog w=.ok (.pointer (some ⟨g,0,none⟩)) w:=by
 have e:liesAt Tryz.prog Tryz.prog.depth 213 (2 / Tryz.prog.cellsOf 213) 0 213 1=true:=by kernel_rfl
 simp[convert,run_underlying (show Tryz.prog.underlying 211=some _ by kernel_rfl),run_underlying (show Tryz.prog.underlying 245=some _ by kernel_rfl),Conv.unsafePointer,Conv.seenAt,viewAt,cellsIn,run_shape,h,hc,World.shape?,Tryz.sizeOf213,variablesAt,e]
theorem p_upto {ty:TypeId} {K:Kd} {H:List Hp} {t1 t2:TypeId} {x:Operand} {g i:Nat} {X:D} (ht:(t1=211∧t2=245)∨(t1=245∧t2=211)) (hx:opD K x=some (dP g 0)) (hm:nth H i=some (.bx g 213 X)) (hX:Nat.beq X.cells.length 2=true):Pu Tryz.prog (.convert t1 t2 x) ty K H (dP g 0):=
 ⟨fun ρ w F hk _ hH=>by
  obtain ⟨u,h1,h2,h3⟩:=hH _ (zae hm)
  have hl:=zaL (D.rep_cells h1 h2)
  have hc:u.cells.size=2:=by have:=Nat.eq_of_beq_eq_true hX;rw[←hl] at this;simpa [vcs] using this
  have e:ev ρ x=_:=hk.op hx
  refine EOp.of_run (v:=.pointer (some ⟨g,0,none⟩)) (w':=w) ?_ ⟨O,O⟩
  rcases ht with ⟨rfl,rfl⟩ | ⟨rfl,rfl⟩
  · have:=zbg (cv_up h3 hc);simpa [execOp,zY,e] using this
  · have:=zbg (cv_down h3 hc);simpa [execOp,zY,e] using this⟩
theorem p_noEscape {ty:TypeId} {K:Kd} {H:List Hp} {x:Operand} {ats:Array TypeId} {v:Value} (hx:opD K x=some (.v v)):Pu Tryz.prog (.call { callee:=.value (.func 214),args:=#[x],argTypes:=ats }) ty K H (.v v):=
 ⟨fun ρ w F hk _ _=>e_ext (vs:=[v]) (zj ρ [x]) (by rw[show (#[x]:Array Operand).toList=[x] from rfl,zcb ρ [x] [x] (fun _ h=>h)];have e:ev ρ x=v:=hk.op hx;simp[e]) (fun w=>by
  rw[run_callFunc_extern Tryz.func214 (by kernel_rfl) (by kernel_rfl) (by kernel_rfl) (e:=Extern.AbiNoEscape.same) (by kernel_rfl)];rfl) ⟨rfl,rfl⟩⟩
theorem copyCheck_c (g:Nat) (p:Value) (x:D) (hp:p=.pointer none∨p=.pointer (some ⟨g,0,none⟩)):
 CD Tryz.prog 193 [.bx g 213 (.agg [.v p,x])] [dP g 0] (fun r H'=>r=.tup []∧H'=[.bx g 213 (.agg [dP g 0,x])]):=by
 refine tZ Tryz.func193 O O (fun C=>?_)
 rcases hp with rfl | rfl
 · skip
   refine gQ 6 [0] O O (tP O (zdU (r:=.bool true) O O (fun _=>by kernel_rfl)) (g' 6 O (tP O (p_upto (i:=0) (by first | exact .inl ⟨O,O⟩ | exact .inr ⟨O,O⟩) O O O) (tP O (p_noEscape O) (tP O (p_upto (i:=0) (by first | exact .inl ⟨O,O⟩ | exact .inr ⟨O,O⟩) O O O) (gQ 4 [0] O O ?_))))))
   exact tR O HSub.rfl' ⟨O,O⟩
 · skip
   refine gQ 6 [0] O O (tP O (zdU (r:=.bool false) O O (eqp_211_eql _ _ _)) (gQ 10 [0] O O (tP O (zdU (r:=.bool false) O O (eqq_211_neq _ _ _)) (g' 4 O ?_))))
   exact tR O HSub.rfl' ⟨O,O⟩
theorem zb4 (g:Nat) (p v:Value) (bs:List UInt8) (c:UInt8) (hp:p=.pointer none∨p=.pointer (some ⟨g,0,none⟩)) (hl:bs.length≤1000000000000):
 CD Tryz.prog 169 [.bx g 213 (.agg [.v p,.ov v]),.sl v 1 5 (bs.map dU8)] [dP g 0,.v (.int .u8 ((c.toNat:Nat):Int))] (fun r H'=>∃ v',r=.v .nilIface∧H'=[.bx g 213 (.agg [dP g 0,.ov v']),.sl v' 1 5 ((bs++[c]).map dU8)]):=by
 refine tZ Tryz.func169 O O (fun C=>?_)
 refine g' 8 O (tX [0] O O acs (copyCheck_c g p (.ov v) hp) ?_)
 rintro _ _ ⟨rfl,rfl⟩
 refine gQ 10 [0] O O (tE O (zE [.tmp 12] O O (.cons (CellD.v O) .nil) O Tryz.runUnderlying103 Tryz.sizeOf5 Tryz.zeroValue5 O O O O) ?_)
 rintro _ _ ⟨g1,rfl,rfl⟩
 refine tE O (zz (f:=dU8) (l:=bs) (l':=[c]) (i:=2) O O O (SrcD.own (j:=0) O O) za6 zcf O O (by unfold maxLen;(try simp only[la,lc,ln,lm,lt',ld,ls,lr]);omega) (by (try simp only[la,lc,ln,lm,lt',ld,ls,lr]);omega)) ?_
 rintro _ _ ⟨v2,rfl,rfl⟩
 refine gQ 11 [1] O O (T.front 2 O (T.front 2 O ?_))
 exact tR O (HSub.fst 2 O) ⟨v2,O,O⟩
theorem WriteString_c (g:Nat) (p v:Value) (bs:List UInt8) (s:ByteArray) (hp:p=.pointer none∨p=.pointer (some ⟨g,0,none⟩)) (hl:bs.length≤1000000000000) (hs:s.size≤1000000000000):
 CD Tryz.prog 171 [.bx g 213 (.agg [.v p,.ov v]),.sl v 1 5 (bs.map dU8)] [dP g 0,.s s] (fun r H'=>∃ v',r=.tup [dI (s.size:Int),.v .nilIface]∧H'=[.bx g 213 (.agg [dP g 0,.ov v']),.sl v' 1 5 ((bs++s.data.toList).map dU8)]):=by
 refine tZ Tryz.func171 O O (fun C=>?_)
 refine T.bd 1 O (fun bd1=>?_)
 have sz1:s.size≤9223372036854775807:=bd1
 refine g' 9 O (tX [0] O O acs (copyCheck_c g p (.ov v) hp) ?_)
 rintro _ _ ⟨rfl,rfl⟩
 refine gQ 10 [0] O O (tE O (ef_append_s (i:=1) (bs:=bs) (s:=s) O O O za6 (by kernel_rfl) zcf (by (try simp only[la,lc,ln]);omega)) ?_)
 rintro _ _ ⟨v1,rfl,rfl⟩
 refine gQ 8 [0] O O (tP O (zu O Tryz.runUnderlying9) (g' 5 O ?_))
 exact tR O (HSub.fst 2 O) ⟨v1,O,O⟩
end Lp
set_option linter.unusedVariables false
namespace Lp
open Go Go.RowKit
theorem fdiv_nat (a n:Nat):Int.fdiv (a:Int) (2 ^ n)=((a / 2 ^ n:Nat):Int):=by
 rw[show (2:Int) ^ n=((2 ^ n:Nat):Int) by push_cast;rfl]
 rw[Int.fdiv_eq_ediv_of_nonneg _ (Int.natCast_nonneg _)]
 exact(Int.natCast_ediv a (2 ^ n)).symm
section
variable {P:Program} {ty:TypeId} {K:Kd} {H:List Hp} {t t':TypeId} {x y:Operand}
theorem zdR {k k':IntKind} {a n m:Nat} (hx:opD K x=some (.v (.int k (a:Int)))) (hy:opD K y=some (.v (.int k' (n:Int)))) (hn:n≤k.bits) (hm:2 ^ n=m):Pu P (.binOp .shr t x y t') ty K H (.v (.int k ((a / m:Nat):Int))):=
 zdU hx hy (fun w=>by
  subst hm
  have h1:¬((n:Nat):Int)<0:=by omega
  have h2:min n k.bits=n:=by omega
  simp[eqGuard,binOp,Op.shift,h1,h2,fdiv_nat])
theorem bv8 (a b:Nat) (ha:a<256) (hb:b<256):(BitVec.ofInt IntKind.u8.bits (a:Int)&&& BitVec.ofInt IntKind.u8.bits (b:Int)).toNat=a&&& b:=by
 rw[BitVec.toNat_and,BitVec.toNat_ofInt,BitVec.toNat_ofInt]
 have e:(2:Nat) ^ IntKind.u8.bits=256:=rfl
 rw[e]
 congr 1<;>omega
theorem bv8o (a b:Nat) (ha:a<256) (hb:b<256):(BitVec.ofInt IntKind.u8.bits (a:Int)||| BitVec.ofInt IntKind.u8.bits (b:Int)).toNat=a||| b:=by
 rw[BitVec.toNat_or,BitVec.toNat_ofInt,BitVec.toNat_ofInt]
 have e:(2:Nat) ^ IntKind.u8.bits=256:=rfl
 rw[e]
 congr 1<;>omega
theorem zc8 {n:Nat} (h:n<256):IntKind.u8.wrap (n:Int)=(n:Int):=by simp[IntKind.wrap,IntKind.bits,IntKind.signed];omega
theorem zcF {a b c:Nat} (hx:opD K x=some (.v (.int .u8 (a:Int)))) (hy:opD K y=some (.v (.int .u8 (b:Int)))) (ha:a<256) (hb:b<256) (hc:a&&& b=c):Pu P (.binOp .and t x y t') ty K H (.v (.int .u8 (c:Int))):=
 zdU hx hy (fun w=>by
  subst hc
  have h:a&&& b<256:=Nat.lt_of_le_of_lt Nat.and_le_left ha
  simp only[eqGuard,binOp,Op.intBits,bv8 a b ha hb,zc8 h]
  rfl)
theorem zcJ {a b c:Nat} (hx:opD K x=some (.v (.int .u8 (a:Int)))) (hy:opD K y=some (.v (.int .u8 (b:Int)))) (ha:a<256) (hb:b<256) (hc:a||| b=c):Pu P (.binOp .or t x y t') ty K H (.v (.int .u8 (c:Int))):=
 zdU hx hy (fun w=>by
  subst hc
  have h:a||| b<256:=Nat.or_lt_two_pow (n:=8) ha hb
  simp only[eqGuard,binOp,Op.intBits,bv8o a b ha hb,zc8 h]
  rfl)
theorem zed (a:Nat):a&&& 63=a % 64:=Nat.and_two_pow_sub_one_eq_mod a 6
theorem and15 (a:Nat):a&&& 15=a % 16:=Nat.and_two_pow_sub_one_eq_mod a 4
theorem zd3:∀ a,a<64→128||| a=128+a:=by decide
theorem or192:∀ a,a<32→192||| a=192+a:=by decide
theorem or224:∀ a,a<16→224||| a=224+a:=by decide
theorem or240:∀ a,a<8→240||| a=240+a:=by decide
end
end Lp
