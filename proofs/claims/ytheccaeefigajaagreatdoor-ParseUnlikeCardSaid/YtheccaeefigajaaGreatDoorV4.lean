import Derived.Test.YtheccaeefigajaaGreatDoorDZ
set_option linter.unusedSimpArgs false
set_option linter.unusedVariables false
set_option maxHeartbeats 4000000
set_option maxRecDepth 100000
namespace Lp
open Go Go.RowKit Go.Proofs
namespace HdYtheccaeefigajaaGreatDoorV5
end HdYtheccaeefigajaaGreatDoorV5
open HdYtheccaeefigajaaGreatDoorV5
theorem Kind_c (r:Int) :
 CD Tryz.prog 151 [] [.v (.int .i32 r)] (isR (dI (zN r))):=by
 refine zq Tryz.func151 J (N:=51) J J (fun C=>?_)
 refine jk [0] J (jT J (oR 1 J (oZ J (jS J (jB J (jS J (jk [0,2] J ?_)))))))
 refine zac 3 ((decide (r<(0:Int))||decide (r=(65533:Int)))) [] (fun _ hQ1=>?_) ?_
 · skip
   by_cases hg2:r<(0:Int)
   · skip
     refine zf J (oR 1 J (oP J (za2 J J (decide_eq_true hg2)) (oR 5 J (zr J ?_))))
     exact PD.sub ((3,dB (decide (r<(0:Int))||decide (r=(65533:Int))))::[(0,.v (.int .i32 r)),(2,dI 0)]) ⟨sc J (Cv.eq (congrArg (fun b=>D.v (.bool b)) (by first | (simp[hg2];done) | (simp_all;done)))),sk rfl,sk rfl,trivial⟩ hQ1
   · skip
     refine zf J (oR 1 J (oP J (za2 J J (decide_eq_false hg2)) (oR 2 J (oG J (zK J J J) (oR 2 J (zr J ?_))))))
     exact PD.sub ((3,dB (decide (r<(0:Int))||decide (r=(65533:Int))))::[(0,.v (.int .i32 r)),(2,dI 0)]) ⟨sc J (Cv.eq (congrArg (fun b=>D.v (.bool b)) (by first | (simp[hg2];done) | (simp_all;done)))),sk rfl,sk rfl,trivial⟩ hQ1
 · skip
   refine zn ?_
   refine jC J (fun hc3=>?_) (fun hc3=>?_)
   · simp only[bA,bB,bC,bD,bE,bF,bG,bH,bI,bJ] at hc3
     refine jT J (oR 1 J (oZ J (zo J (zm (zj ?_)))))
     exact zi Tryz.results151 (.cons (zt (zl J) (Cv.eq (congrArg (fun n=>D.v (.int .i64 n)) (by unfold zN;(repeat (any_goals split))<;>omega)))) .nil) rfl HSub.none ⟨rfl,rfl⟩
   · simp only[bA,bB,bC,bD,bE,bF,bG,bH,bI,bJ] at hc3
     refine jS J (jk [0,2] J ?_)
     refine zac 10 (((((decide ((97:Int)≤r)&&decide (r≤(122:Int)))||(decide ((65:Int)≤r)&&decide (r≤(90:Int))))||decide (r=(95:Int)))||decide ((128:Int)≤r))) [] (fun _ hQ4=>?_) ?_
     · skip
       by_cases hg5:(97:Int)≤r
       · skip
         by_cases hg6:r≤(122:Int)
         · skip
           refine zf J (oR 1 J (oP J (zaR J J (decide_eq_true hg5)) (oR 2 J (oG J (zbN J J (decide_eq_true hg6)) (oR 18 J (zr J ?_))))))
           exact PD.sub ((10,dB ((((decide ((97:Int)≤r)&&decide (r≤(122:Int)))||(decide ((65:Int)≤r)&&decide (r≤(90:Int))))||decide (r=(95:Int)))||decide ((128:Int)≤r)))::[(0,.v (.int .i32 r)),(2,dI 0)]) ⟨sc J (Cv.eq (congrArg (fun b=>D.v (.bool b)) (by first | (simp[hg5,hg6];done) | (simp_all;done)))),sk rfl,sk rfl,trivial⟩ hQ4
         · skip
           by_cases hg7:(65:Int)≤r
           · skip
             by_cases hg8:r≤(90:Int)
             · skip
               refine zf J (oR 1 J (oP J (zaR J J (decide_eq_true hg5)) (oR 2 J (oG J (zbN J J (decide_eq_false hg6)) (oR 3 J (oG J (zaR J J (decide_eq_true hg7)) (oR 2 J (oG J (zbN J J (decide_eq_true hg8)) (oR 11 J (zr J ?_))))))))))
               exact PD.sub ((10,dB ((((decide ((97:Int)≤r)&&decide (r≤(122:Int)))||(decide ((65:Int)≤r)&&decide (r≤(90:Int))))||decide (r=(95:Int)))||decide ((128:Int)≤r)))::[(0,.v (.int .i32 r)),(2,dI 0)]) ⟨sc J (Cv.eq (congrArg (fun b=>D.v (.bool b)) (by first | (simp[hg5,hg6,hg7,hg8];done) | (simp_all;done)))),sk rfl,sk rfl,trivial⟩ hQ4
             · skip
               by_cases hg9:r=(95:Int)
               · skip
                 refine zf J (oR 1 J (oP J (zaR J J (decide_eq_true hg5)) (oR 2 J (oG J (zbN J J (decide_eq_false hg6)) (oR 3 J (oG J (zaR J J (decide_eq_true hg7)) (oR 2 J (oG J (zbN J J (decide_eq_false hg8)) (oR 4 J (oG J (zK J J (decide_eq_true hg9)) (oR 6 J (zr J ?_))))))))))))
                 exact PD.sub ((10,dB ((((decide ((97:Int)≤r)&&decide (r≤(122:Int)))||(decide ((65:Int)≤r)&&decide (r≤(90:Int))))||decide (r=(95:Int)))||decide ((128:Int)≤r)))::[(0,.v (.int .i32 r)),(2,dI 0)]) ⟨sc J (Cv.eq (congrArg (fun b=>D.v (.bool b)) (by first | (simp[hg5,hg6,hg7,hg8,hg9];done) | (simp_all;done)))),sk rfl,sk rfl,trivial⟩ hQ4
               · skip
                 refine zf J (oR 1 J (oP J (zaR J J (decide_eq_true hg5)) (oR 2 J (oG J (zbN J J (decide_eq_false hg6)) (oR 3 J (oG J (zaR J J (decide_eq_true hg7)) (oR 2 J (oG J (zbN J J (decide_eq_false hg8)) (oR 4 J (oG J (zK J J (decide_eq_false hg9)) (oR 3 J (oG J (zaR J J J) (oR 2 J (zr J ?_))))))))))))))
                 exact PD.sub ((10,dB ((((decide ((97:Int)≤r)&&decide (r≤(122:Int)))||(decide ((65:Int)≤r)&&decide (r≤(90:Int))))||decide (r=(95:Int)))||decide ((128:Int)≤r)))::[(0,.v (.int .i32 r)),(2,dI 0)]) ⟨sc J (Cv.eq (congrArg (fun b=>D.v (.bool b)) (by first | (simp[hg5,hg6,hg7,hg8,hg9];done) | (simp_all;done)))),sk rfl,sk rfl,trivial⟩ hQ4
           · skip
             by_cases hg10:r=(95:Int)
             · skip
               refine zf J (oR 1 J (oP J (zaR J J (decide_eq_true hg5)) (oR 2 J (oG J (zbN J J (decide_eq_false hg6)) (oR 3 J (oG J (zaR J J (decide_eq_false hg7)) (oR 7 J (oG J (zK J J (decide_eq_true hg10)) (oR 6 J (zr J ?_))))))))))
               exact PD.sub ((10,dB ((((decide ((97:Int)≤r)&&decide (r≤(122:Int)))||(decide ((65:Int)≤r)&&decide (r≤(90:Int))))||decide (r=(95:Int)))||decide ((128:Int)≤r)))::[(0,.v (.int .i32 r)),(2,dI 0)]) ⟨sc J (Cv.eq (congrArg (fun b=>D.v (.bool b)) (by first | (simp[hg10,hg5,hg6,hg7];done) | (simp_all;done)))),sk rfl,sk rfl,trivial⟩ hQ4
             · skip
               refine zf J (oR 1 J (oP J (zaR J J (decide_eq_true hg5)) (oR 2 J (oG J (zbN J J (decide_eq_false hg6)) (oR 3 J (oG J (zaR J J (decide_eq_false hg7)) (oR 7 J (oG J (zK J J (decide_eq_false hg10)) (oR 3 J (oG J (zaR J J J) (oR 2 J (zr J ?_))))))))))))
               exact PD.sub ((10,dB ((((decide ((97:Int)≤r)&&decide (r≤(122:Int)))||(decide ((65:Int)≤r)&&decide (r≤(90:Int))))||decide (r=(95:Int)))||decide ((128:Int)≤r)))::[(0,.v (.int .i32 r)),(2,dI 0)]) ⟨sc J (Cv.eq (congrArg (fun b=>D.v (.bool b)) (by first | (simp[hg10,hg5,hg6,hg7];done) | (simp_all;done)))),sk rfl,sk rfl,trivial⟩ hQ4
       · skip
         by_cases hg11:(65:Int)≤r
         · skip
           by_cases hg12:r≤(90:Int)
           · skip
             refine zf J (oR 1 J (oP J (zaR J J (decide_eq_false hg5)) (oR 6 J (oG J (zaR J J (decide_eq_true hg11)) (oR 2 J (oG J (zbN J J (decide_eq_true hg12)) (oR 11 J (zr J ?_))))))))
             exact PD.sub ((10,dB ((((decide ((97:Int)≤r)&&decide (r≤(122:Int)))||(decide ((65:Int)≤r)&&decide (r≤(90:Int))))||decide (r=(95:Int)))||decide ((128:Int)≤r)))::[(0,.v (.int .i32 r)),(2,dI 0)]) ⟨sc J (Cv.eq (congrArg (fun b=>D.v (.bool b)) (by first | (simp[hg11,hg12,hg5];done) | (simp_all;done)))),sk rfl,sk rfl,trivial⟩ hQ4
           · skip
             by_cases hg13:r=(95:Int)
             · skip
               refine zf J (oR 1 J (oP J (zaR J J (decide_eq_false hg5)) (oR 6 J (oG J (zaR J J (decide_eq_true hg11)) (oR 2 J (oG J (zbN J J (decide_eq_false hg12)) (oR 4 J (oG J (zK J J (decide_eq_true hg13)) (oR 6 J (zr J ?_))))))))))
               exact PD.sub ((10,dB ((((decide ((97:Int)≤r)&&decide (r≤(122:Int)))||(decide ((65:Int)≤r)&&decide (r≤(90:Int))))||decide (r=(95:Int)))||decide ((128:Int)≤r)))::[(0,.v (.int .i32 r)),(2,dI 0)]) ⟨sc J (Cv.eq (congrArg (fun b=>D.v (.bool b)) (by first | (simp[hg11,hg12,hg13,hg5];done) | (simp_all;done)))),sk rfl,sk rfl,trivial⟩ hQ4
             · skip
               refine zf J (oR 1 J (oP J (zaR J J (decide_eq_false hg5)) (oR 6 J (oG J (zaR J J (decide_eq_true hg11)) (oR 2 J (oG J (zbN J J (decide_eq_false hg12)) (oR 4 J (oG J (zK J J (decide_eq_false hg13)) (oR 3 J (oG J (zaR J J J) (oR 2 J (zr J ?_))))))))))))
               exact PD.sub ((10,dB ((((decide ((97:Int)≤r)&&decide (r≤(122:Int)))||(decide ((65:Int)≤r)&&decide (r≤(90:Int))))||decide (r=(95:Int)))||decide ((128:Int)≤r)))::[(0,.v (.int .i32 r)),(2,dI 0)]) ⟨sc J (Cv.eq (congrArg (fun b=>D.v (.bool b)) (by first | (simp[hg11,hg12,hg13,hg5];done) | (simp_all;done)))),sk rfl,sk rfl,trivial⟩ hQ4
         · skip
           by_cases hg14:r=(95:Int)
           · skip
             refine zf J (oR 1 J (oP J (zaR J J (decide_eq_false hg5)) (oR 6 J (oG J (zaR J J (decide_eq_false hg11)) (oR 7 J (oG J (zK J J (decide_eq_true hg14)) (oR 6 J (zr J ?_))))))))
             exact PD.sub ((10,dB ((((decide ((97:Int)≤r)&&decide (r≤(122:Int)))||(decide ((65:Int)≤r)&&decide (r≤(90:Int))))||decide (r=(95:Int)))||decide ((128:Int)≤r)))::[(0,.v (.int .i32 r)),(2,dI 0)]) ⟨sc J (Cv.eq (congrArg (fun b=>D.v (.bool b)) (by first | (simp[hg11,hg14,hg5];done) | (simp_all;done)))),sk rfl,sk rfl,trivial⟩ hQ4
           · skip
             refine zf J (oR 1 J (oP J (zaR J J (decide_eq_false hg5)) (oR 6 J (oG J (zaR J J (decide_eq_false hg11)) (oR 7 J (oG J (zK J J (decide_eq_false hg14)) (oR 3 J (oG J (zaR J J J) (oR 2 J (zr J ?_))))))))))
             exact PD.sub ((10,dB ((((decide ((97:Int)≤r)&&decide (r≤(122:Int)))||(decide ((65:Int)≤r)&&decide (r≤(90:Int))))||decide (r=(95:Int)))||decide ((128:Int)≤r)))::[(0,.v (.int .i32 r)),(2,dI 0)]) ⟨sc J (Cv.eq (congrArg (fun b=>D.v (.bool b)) (by first | (simp[hg11,hg14,hg5];done) | (simp_all;done)))),sk rfl,sk rfl,trivial⟩ hQ4
     · skip
       refine zn ?_
       refine jC J (fun hc15=>?_) (fun hc15=>?_)
       · simp only[bA,bB,bC,bD,bE,bF,bG,bH,bI,bJ] at hc15
         refine jT J (oR 1 J (oZ J (zo J (zm (zj ?_)))))
         exact zi Tryz.results151 (.cons (zt (zl J) (Cv.eq (congrArg (fun n=>D.v (.int .i64 n)) (by unfold zN;(repeat (any_goals split))<;>omega)))) .nil) rfl HSub.none ⟨rfl,rfl⟩
       · simp only[bA,bB,bC,bD,bE,bF,bG,bH,bI,bJ] at hc15
         refine jS J (jk [0,2] J ?_)
         refine zac 33 ((decide ((48:Int)≤r)&&decide (r≤(57:Int)))) [] (fun _ hQ16=>?_) ?_
         · skip
           by_cases hg17:(48:Int)≤r
           · skip
             refine zf J (oR 1 J (oP J (zaR J J (decide_eq_true hg17)) (oR 2 J (oG J (zbN J J J) (oR 2 J (zr J ?_))))))
             exact PD.sub ((33,dB (decide ((48:Int)≤r)&&decide (r≤(57:Int))))::[(0,.v (.int .i32 r)),(2,dI 0)]) ⟨sc J (Cv.eq (congrArg (fun b=>D.v (.bool b)) (by first | (simp[hg17];done) | (simp_all;done)))),sk rfl,sk rfl,trivial⟩ hQ16
           · skip
             refine zf J (oR 1 J (oP J (zaR J J (decide_eq_false hg17)) (oR 5 J (zr J ?_))))
             exact PD.sub ((33,dB (decide ((48:Int)≤r)&&decide (r≤(57:Int))))::[(0,.v (.int .i32 r)),(2,dI 0)]) ⟨sc J (Cv.eq (congrArg (fun b=>D.v (.bool b)) (by first | (simp[hg17];done) | (simp_all;done)))),sk rfl,sk rfl,trivial⟩ hQ16
         · skip
           refine zn ?_
           refine jC J (fun hc18=>?_) (fun hc18=>?_)
           · simp only[bA,bB,bC,bD,bE,bF,bG,bH,bI,bJ] at hc18
             refine jT J (oR 1 J (oZ J (zo J (zm (zj ?_)))))
             exact zi Tryz.results151 (.cons (zt (zl J) (Cv.eq (congrArg (fun n=>D.v (.int .i64 n)) (by unfold zN;(repeat (any_goals split))<;>omega)))) .nil) rfl HSub.none ⟨rfl,rfl⟩
           · simp only[bA,bB,bC,bD,bE,bF,bG,bH,bI,bJ] at hc18
             refine jS J (jk [0,2] J ?_)
             refine zac 40 (((decide (r=(32:Int))||decide (r=(9:Int)))||decide (r=(10:Int)))) [] (fun _ hQ19=>?_) ?_
             · skip
               by_cases hg20:r=(32:Int)
               · skip
                 refine zf J (oR 1 J (oP J (zK J J (decide_eq_true hg20)) (oR 9 J (zr J ?_))))
                 exact PD.sub ((40,dB ((decide (r=(32:Int))||decide (r=(9:Int)))||decide (r=(10:Int))))::[(0,.v (.int .i32 r)),(2,dI 0)]) ⟨sc J (Cv.eq (congrArg (fun b=>D.v (.bool b)) (by first | (simp[hg20];done) | (simp_all;done)))),sk rfl,sk rfl,trivial⟩ hQ19
               · skip
                 by_cases hg21:r=(9:Int)
                 · skip
                   refine zf J (oR 1 J (oP J (zK J J (decide_eq_false hg20)) (oR 2 J (oG J (zK J J (decide_eq_true hg21)) (oR 6 J (zr J ?_))))))
                   exact PD.sub ((40,dB ((decide (r=(32:Int))||decide (r=(9:Int)))||decide (r=(10:Int))))::[(0,.v (.int .i32 r)),(2,dI 0)]) ⟨sc J (Cv.eq (congrArg (fun b=>D.v (.bool b)) (by first | (simp[hg20,hg21];done) | (simp_all;done)))),sk rfl,sk rfl,trivial⟩ hQ19
                 · skip
                   refine zf J (oR 1 J (oP J (zK J J (decide_eq_false hg20)) (oR 2 J (oG J (zK J J (decide_eq_false hg21)) (oR 3 J (oG J (zK J J J) (oR 2 J (zr J ?_))))))))
                   exact PD.sub ((40,dB ((decide (r=(32:Int))||decide (r=(9:Int)))||decide (r=(10:Int))))::[(0,.v (.int .i32 r)),(2,dI 0)]) ⟨sc J (Cv.eq (congrArg (fun b=>D.v (.bool b)) (by first | (simp[hg20,hg21];done) | (simp_all;done)))),sk rfl,sk rfl,trivial⟩ hQ19
             · skip
               refine zn ?_
               refine jC J (fun hc22=>?_) (fun hc22=>?_)
               · simp only[bA,bB,bC,bD,bE,bF,bG,bH,bI,bJ] at hc22
                 refine jT J (oR 1 J (oZ J (zo J (zm (zj ?_)))))
                 exact zi Tryz.results151 (.cons (zt (zl J) (Cv.eq (congrArg (fun n=>D.v (.int .i64 n)) (by unfold zN;(repeat (any_goals split))<;>omega)))) .nil) rfl HSub.none ⟨rfl,rfl⟩
               · simp only[bA,bB,bC,bD,bE,bF,bG,bH,bI,bJ] at hc22
                 refine zp J (zE (zn (jT J (oR 1 J (oZ J (zo J ?_))))))
                 exact zi Tryz.results151 (.cons (zt (zl J) (Cv.eq (congrArg (fun n=>D.v (.int .i64 n)) (by unfold zN;(repeat (any_goals split))<;>omega)))) .nil) rfl HSub.none ⟨rfl,rfl⟩
theorem Name_c (s:ByteArray) :
 CD Tryz.prog 176 [] [.s s] (isR (dB (zcK s))):=by
 refine zq Tryz.func176 J (N:=32) J J (fun C=>?_)
 refine jk [0] J ?_
 refine JD.bd 0 J (fun bd0=>?_)
 have sz0:s.size≤9223372036854775807:=bd0
 refine jT J (oR 1 J (oZ J (jT J (oR 1 J (oZ J (jS J (jT J (oR 1 J (oE J (zdX J Tryz.runUnderlying9) ?_)))))))))
 rintro _ _ ⟨g1,rfl,rfl⟩
 refine oZ J (jB J (jl2 (fun (a_:Nat) (b_:Nat)=>[(8,dP g1 0),(3,dN b_)]) (fun a_ b_=>[.it g1 s a_]) (fun a_ b_=>(a_≤s.size)∧(b_≤a_)∧(zdr 0 (zaE s)=zdr b_ (zbq s a_))) (fun a_ b_=>s.size-a_) 0 0 J (sa J) HSub.rfl' ⟨Nat.zero_le _,Nat.le_refl _,J⟩ ?_))
 rintro p n ⟨hp,hn,hf⟩
 refine ja J (jn J ?_)
 rcases Nat.lt_or_ge p s.size with hlt | hge
 · skip
   have hrune:=zbl hlt
   have hrl:=zdf s p
   have hdw:=zbj s p hlt
   have hdp:=zag s p
   refine jT J (oE J (zdl (i:=0) J J hlt) ?_)
   rintro _ _ ⟨rfl,rfl⟩
   refine on J (oR 1 J (oZ J (jS J (jCt J (zp J (zn (jB J (jT J (oR 2 J (oZ J (jS J (jT J (oR 1 J (oW J J acs Tryz.call151 (Kind_c ((decR s p:Nat):Int)) (oR 1 J (oZ J (jS J (jk [3,5,6,8,9,10,11,12,13] J ?_))))))))))))))))))
   refine zac 23 ((decide (zN ((decR s p:Nat):Int)≠(1:Int))&&(decide (zN ((decR s p:Nat):Int)≠(2:Int))||decide (((n:Nat):Int)=(0:Int))))) [.it g1 s (p+decW s p)] (fun _ hQ2=>?_) ?_
   · skip
     by_cases hg3:zN ((decR s p:Nat):Int)≠(1:Int)
     · skip
       by_cases hg4:zN ((decR s p:Nat):Int)≠(2:Int)
       · skip
         refine zf J (oR 1 J (oP J (zbf J J (decide_eq_true hg3)) (oR 2 J (oG J (zbf J J (decide_eq_true hg4)) (oR 5 J (zr J ?_))))))
         exact PD.sub ((23,dB (decide (zN ((decR s p:Nat):Int)≠(1:Int))&&(decide (zN ((decR s p:Nat):Int)≠(2:Int))||decide (((n:Nat):Int)=(0:Int)))))::[(3,dN n),(5,.v (.int .i32 ((decR s p:Nat):Int))),(6,dI (zN ((decR s p:Nat):Int))),(8,dP g1 0),(9,.tup [dB true,dN p,.v (.int .i32 ((decR s p:Nat):Int))]),(10,dB true),(11,.v (.int .i32 ((decR s p:Nat):Int))),(12,.v (.int .i32 ((decR s p:Nat):Int))),(13,dI (zN ((decR s p:Nat):Int)))]) ⟨sc J (Cv.eq (congrArg (fun b=>D.v (.bool b)) (by first | (simp[hg3,hg4];done) | (simp_all;done)))),sk rfl,sk rfl,sk rfl,sk rfl,sk rfl,sk rfl,sk rfl,sk rfl,sk rfl,trivial⟩ hQ2
       · skip
         refine zf J (oR 1 J (oP J (zbf J J (decide_eq_true hg3)) (oR 2 J (oG J (zbf J J (decide_eq_false hg4)) (oR 2 J (oG J (zK J J J) (oR 2 J (zr J ?_))))))))
         exact PD.sub ((23,dB (decide (zN ((decR s p:Nat):Int)≠(1:Int))&&(decide (zN ((decR s p:Nat):Int)≠(2:Int))||decide (((n:Nat):Int)=(0:Int)))))::[(3,dN n),(5,.v (.int .i32 ((decR s p:Nat):Int))),(6,dI (zN ((decR s p:Nat):Int))),(8,dP g1 0),(9,.tup [dB true,dN p,.v (.int .i32 ((decR s p:Nat):Int))]),(10,dB true),(11,.v (.int .i32 ((decR s p:Nat):Int))),(12,.v (.int .i32 ((decR s p:Nat):Int))),(13,dI (zN ((decR s p:Nat):Int)))]) ⟨sc J (Cv.eq (congrArg (fun b=>D.v (.bool b)) (by first | (simp[hg3,hg4];done) | (simp_all;done)))),sk rfl,sk rfl,sk rfl,sk rfl,sk rfl,sk rfl,sk rfl,sk rfl,sk rfl,trivial⟩ hQ2
     · skip
       refine zf J (oR 1 J (oP J (zbf J J (decide_eq_false hg3)) (oR 8 J (zr J ?_))))
       exact PD.sub ((23,dB (decide (zN ((decR s p:Nat):Int)≠(1:Int))&&(decide (zN ((decR s p:Nat):Int)≠(2:Int))||decide (((n:Nat):Int)=(0:Int)))))::[(3,dN n),(5,.v (.int .i32 ((decR s p:Nat):Int))),(6,dI (zN ((decR s p:Nat):Int))),(8,dP g1 0),(9,.tup [dB true,dN p,.v (.int .i32 ((decR s p:Nat):Int))]),(10,dB true),(11,.v (.int .i32 ((decR s p:Nat):Int))),(12,.v (.int .i32 ((decR s p:Nat):Int))),(13,dI (zN ((decR s p:Nat):Int)))]) ⟨sc J (Cv.eq (congrArg (fun b=>D.v (.bool b)) (by first | (simp[hg3];done) | (simp_all;done)))),sk rfl,sk rfl,sk rfl,sk rfl,sk rfl,sk rfl,sk rfl,sk rfl,sk rfl,trivial⟩ hQ2
   · skip
     refine zn ?_
     refine jC J (fun hc5=>?_) (fun hc5=>?_)
     · simp only[bA,bB,bC,bD,bE,bF,bG,bH,bI,bJ] at hc5
       refine jT J (oR 1 J (oZ J (zo J (zj (zm (zah (zm (zj ?_))))))))
       exact zi Tryz.results176 (.cons (zt (zl J) (Cv.eq (congrArg (fun b=>D.v (.bool b)) (by unfold zcK;rw[hf,hrune];rw[nameR_bad (by omega)])))) .nil) rfl HSub.none ⟨rfl,rfl⟩
     · simp only[bA,bB,bC,bD,bE,bF,bG,bH,bI,bJ] at hc5
       refine zp J (zn (zf J (oR 1 J (oP J (zbI (c:=((n+1:Nat):Int)) J J (zaL (by omega) (by omega))) (oR 1 rfl (zr rfl (zE ?_)))))))
       exact pl2 (p+decW s p) (n+1) (sa J) HSub.rfl' ⟨by have:=zbj s p hlt;omega,by omega,by rw[hf,hrune,nameR_next (by omega)]⟩ (by have:=zag s p;omega)
 · skip
   have hrune:=zbz hge
   refine jT J (oP J (zdO (i:=0) J J hge) (oR 1 J (oZ J (jS J (jCf J (zat J (zL (zH (zD (zn (jS J (jk [3] J ?_))))))))))))
   refine zac 2 ((decide ((1:Int)≤((n:Nat):Int))&&decide (((n:Nat):Int)≤(30:Int)))) [.it g1 s p] (fun _ hQ6=>?_) ?_
   · skip
     by_cases hg7:(1:Int)≤((n:Nat):Int)
     · skip
       refine zf J (oR 1 J (oP J (zaR J J (decide_eq_true hg7)) (oR 2 J (oG J (zbN J J J) (oR 2 J (zr J ?_))))))
       exact PD.sub ((2,dB (decide ((1:Int)≤((n:Nat):Int))&&decide (((n:Nat):Int)≤(30:Int))))::[(3,dN n)]) ⟨sc J (Cv.eq (congrArg (fun b=>D.v (.bool b)) (by first | (simp[hg7];done) | (simp_all;done)))),sk rfl,trivial⟩ hQ6
     · skip
       refine zf J (oR 1 J (oP J (zaR J J (decide_eq_false hg7)) (oR 5 J (zr J ?_))))
       exact PD.sub ((2,dB (decide ((1:Int)≤((n:Nat):Int))&&decide (((n:Nat):Int)≤(30:Int))))::[(3,dN n)]) ⟨sc J (Cv.eq (congrArg (fun b=>D.v (.bool b)) (by first | (simp[hg7];done) | (simp_all;done)))),sk rfl,trivial⟩ hQ6
   · skip
     refine zn (zo J ?_)
     exact zi Tryz.results176 (.cons (zt (zl J) (Cv.eq (congrArg (fun b=>D.v (.bool b)) (by unfold zcK;rw[hf,hrune];simp only[zdr];congr 1<;>exact decide_eq_decide.2 (by omega))))) .nil) rfl HSub.none ⟨rfl,rfl⟩
end Lp
set_option linter.unusedSimpArgs false
set_option linter.unusedVariables false
set_option maxHeartbeats 4000000
set_option maxRecDepth 100000
namespace Lp
open Go Go.RowKit Go.Proofs
namespace HdYtheccaeefigajaaGreatDoorV4
theorem eqp_211_eql (x y:Operand) (a:Addr) (w:World):(do eqGuard .eql 211 x y (.pointer (some a)) (.pointer none);binOp .eql 211 (.pointer (some a)) (.pointer none):Sem Value).run Tryz.prog w=.ok (.bool false) w:=by kernel_rfl
theorem eqs_211_neq (d:Nat) (a:Addr) (w:World):(Op.equalIn (d+1) 211 (.pointer (some a)) (.pointer (some a))).run Tryz.prog w=.ok true w:=by
 rw[Op.equalIn]
 simp only[Sem.run_bind,run_underlying (show Tryz.prog.underlying 211=some (.pointer 213) by kernel_rfl),Result.andThen_ok,Tryz.sizeOf213]
 simp[sameAddr]
theorem eqt_211_neq (a:Addr) (w:World):(Op.equal 211 (.pointer (some a)) (.pointer (some a))).run Tryz.prog w=.ok true w:=eqs_211_neq 9999 a w
theorem eqq_211_neq (x y:Operand) (a:Addr) (w:World):(do eqGuard .neq 211 x y (.pointer (some a)) (.pointer (some a));binOp .neq 211 (.pointer (some a)) (.pointer (some a)):Sem Value).run Tryz.prog w=.ok (.bool false) w:=by simp[eqGuard,binOp,eqt_211_neq]
theorem fa_213_0 (b o:Nat):∀ w,(Instr.fieldAt 213 (.pointer (some ⟨b,o,none⟩)) 0).run Tryz.prog w=.ok (.pointer (some ⟨b,o+0,none⟩)) w:=fun _=>by kernel_rfl
theorem zbh (b o:Nat):∀ w,(Instr.fieldAt 213 (.pointer (some ⟨b,o,none⟩)) 1).run Tryz.prog w=.ok (.pointer (some ⟨b,o+1,none⟩)) w:=fun _=>by kernel_rfl
theorem zdu:∃ i,Tryz.prog.info? 5=some i∧i.zero=some (.int .u8 0)∧i.size=1∧i.bytes=1:=zcA (by kernel_rfl)
theorem zcb:Tryz.prog.underlying 103=some (.slice 5):=by kernel_rfl
end HdYtheccaeefigajaaGreatDoorV4
open HdYtheccaeefigajaaGreatDoorV4
theorem cv_up {w:World} {g:Nat} {c:Array Value} (h:w.heap[g]?=some (.cells c 213 (0,0))) (hc:c.size=2):(convert 211 245 (.pointer (some ⟨g,0,none⟩))).run Tryz.prog w=.ok (.pointer (some ⟨g,0,none⟩)) w:=by
 simp[convert,run_underlying (show Tryz.prog.underlying 211=some _ by kernel_rfl),run_underlying (show Tryz.prog.underlying 245=some _ by kernel_rfl),Conv.unsafePointer,Conv.seenAt,viewAt,cellsIn,run_shape,h,hc,World.shape?,Tryz.sizeOf213]
theorem cv_down {w:World} {g:Nat} {c:Array Value} (h:w.heap[g]?=some (.cells c 213 (0,0))) (hc:c.size=2):(convert 245 211 (.pointer (some ⟨g,0,none⟩))).run Tryz.prog w=.ok (.pointer (some ⟨g,0,none⟩)) w:=by
 have e:liesAt Tryz.prog Tryz.prog.depth 213 (2 / Tryz.prog.cellsOf 213) 0 213 1=true:=by kernel_rfl
 simp[convert,run_underlying (show Tryz.prog.underlying 211=some _ by kernel_rfl),run_underlying (show Tryz.prog.underlying 245=some _ by kernel_rfl),Conv.unsafePointer,Conv.seenAt,viewAt,cellsIn,run_shape,h,hc,World.shape?,Tryz.sizeOf213,variablesAt,e]
theorem p_upto {ty:TypeId} {K:Kd} {H:List Hp} {t1 t2:TypeId} {x:Operand} {g i:Nat} {X:D} (ht:(t1=211∧t2=245)∨(t1=245∧t2=211)) (hx:opD K x=some (dP g 0)) (hm:nth H i=some (.bx g 213 X)) (hX:Nat.beq X.cells.length 2=true):Pu Tryz.prog (.convert t1 t2 x) ty K H (dP g 0):=
 ⟨fun ρ w F hk _ hH=>by
  obtain ⟨u,h1,h2,h3⟩:=hH _ (zaW hm)
  have hl:=zbw (D.rep_cells h1 h2)
  have hc:u.cells.size=2:=by have:=Nat.eq_of_beq_eq_true hX;rw[←hl] at this;simpa [vcs] using this
  have e:ev ρ x=_:=hk.op hx
  refine EOp.of_run (v:=.pointer (some ⟨g,0,none⟩)) (w':=w) ?_ ⟨rfl,J⟩
  rcases ht with ⟨rfl,rfl⟩ | ⟨rfl,rfl⟩
  · have:=zb1 (cv_up h3 hc);simpa [execOp,zaH,e] using this
  · have:=zb1 (cv_down h3 hc);simpa [execOp,zaH,e] using this⟩
theorem p_noEscape {ty:TypeId} {K:Kd} {H:List Hp} {x:Operand} {ats:Array TypeId} {v:Value} (hx:opD K x=some (.v v)):Pu Tryz.prog (.call { callee:=.value (.func 214),args:=#[x],argTypes:=ats }) ty K H (.v v):=
 ⟨fun ρ w F hk _ _=>e_ext (vs:=[v]) (zz ρ [x]) (by rw[show (#[x]:Array Operand).toList=[x] from rfl,zc0 ρ [x] [x] (fun _ h=>h)];have e:ev ρ x=v:=hk.op hx;simp[e]) (fun w=>by
  rw[run_callFunc_extern Tryz.func214 (by kernel_rfl) (by kernel_rfl) (by kernel_rfl) (e:=Extern.AbiNoEscape.same) (by kernel_rfl)];rfl) ⟨rfl,rfl⟩⟩
theorem copyCheck_c (g:Nat) (p:Value) (x:D) (hp:p=.pointer none∨p=.pointer (some ⟨g,0,none⟩)):
 CD Tryz.prog 193 [.bx g 213 (.agg [.v p,x])] [dP g 0] (fun r H'=>r=.tup []∧H'=[.bx g 213 (.agg [dP g 0,x])]):=by
 refine zq Tryz.func193 J (N:=20) J J (fun C=>?_)
 refine jk [0] J ?_
 rcases hp with rfl | rfl
 · skip
   refine jT J (oR 2 J (oP J (zc J fa_213_0 J) (oP J (ze J (i:=0) J Tryz.isAgg211 J) (oP J (zdP (r:=.bool true) J J (fun _=>by kernel_rfl)) (oZ rfl (jCt rfl (zf rfl (oR 2 rfl (oP rfl (p_upto (i:=0) (by first | exact .inl ⟨rfl,rfl⟩ | exact .inr ⟨rfl,rfl⟩) rfl rfl rfl) (oP rfl (p_noEscape rfl) (oP rfl (p_upto (i:=0) (by first | exact .inl ⟨rfl,rfl⟩ | exact .inr ⟨rfl,rfl⟩) rfl rfl rfl) (oR 1 rfl (oP rfl (zc rfl fa_213_0 rfl) (oE rfl (zg (i:=0) (X':=.agg [dP g 0,x]) rfl rfl rfl (CellD.v rfl) Tryz.sizeOf211 rfl rfl rfl) ?_))))))))))))))
   rintro _ _ ⟨rfl,rfl⟩
   refine on J (zr J ?_)
   exact pd_end Tryz.results193 .nil J ⟨rfl,J⟩
 · skip
   refine jT J (oR 2 J (oP J (zc J fa_213_0 J) (oP J (ze J (i:=0) J Tryz.isAgg211 J) (oP J (zdP (r:=.bool false) J J (eqp_211_eql _ _ _)) (oZ J (jCf J (jT J (oR 2 J (oP J (zc J fa_213_0 J) (oP J (ze J (i:=0) J Tryz.isAgg211 J) (oR 1 J (oP J (zdP (r:=.bool false) J J (eqq_211_neq _ _ _)) (oZ J (jk [19] J (jCf J (zp J ?_))))))))))))))))
   exact pd_end Tryz.results193 .nil J ⟨rfl,J⟩
theorem zcr (g:Nat) (p v:Value) (bs:List UInt8) (c:UInt8) (hp:p=.pointer none∨p=.pointer (some ⟨g,0,none⟩)) (hl:bs.length≤1000000000000):
 CD Tryz.prog 169 [.bx g 213 (.agg [.v p,.ov v]),.sl v 1 5 (bs.map dU8)] [dP g 0,.v (.int .u8 ((c.toNat:Nat):Int))] (fun r H'=>∃ v',r=.v .nilIface∧H'=[.bx g 213 (.agg [dP g 0,.ov v']),.sl v' 1 5 ((bs++[c]).map dU8)]):=by
 refine zq Tryz.func169 J (N:=17) J J (fun C=>?_)
 refine jk [0,1] J (jT J (oR 1 J (oZ J (jT J (oR 1 J (oE J (zk [.bx g 213 (.agg [.v p,.ov v])] [.sl v 1 5 (bs.map dU8)] [] J J (.cons ArgC.id .nil) zh Tryz.call193 (copyCheck_c g p (.ov v) hp) (.inl J)) ?_))))))
 rintro _ _ ⟨_,⟨rfl,rfl⟩,rfl⟩
 refine on J (oZ J (jT J (oR 3 J (oP J (zc J zbh J) (oP J (ze J (i:=0) J Tryz.isAgg103 J) (oR 1 J (oE J (zV [.tmp 12] J J (.cons (CellD.v J) .nil) J Tryz.runUnderlying103 Tryz.sizeOf5 Tryz.zeroValue5 J J J J) ?_)))))))
 rintro _ _ ⟨g1,rfl,rfl⟩
 refine oE J (zan (f:=dU8) (l:=bs) (l':=[c]) (i:=2) J J J (SrcD.own (j:=0) J J) zcb zdu J J (by unfold maxLen;(try simp only[la,lc,ln,lm,lt',ld,ls,lr]);omega) (by (try simp only[la,lc,ln,lm,lt',ld,ls,lr]);omega)) ?_
 rintro _ _ ⟨v2,rfl,rfl⟩
 refine on J (oR 1 J (oP J (zc J zbh J) (oE J (zg (i:=1) (X':=.agg [dP g 0,.ov v2]) J J J (CellD.o) Tryz.sizeOf103 J J J) ?_)))
 rintro _ _ ⟨rfl,rfl⟩
 refine on J (oZ J (jk [4] J (jT J (oR 1 J (oZ J (zo J (PD.subH (HSub.perm (zd (i:=2) J)) (pn J (PD.subH (HSub.perm (zd (i:=2) J)) (pn J ?_))))))))))
 exact zi Tryz.results169 (.cons (zl J) .nil) J (HSub.fst 2 J) ⟨v2,J,J⟩
theorem zbW (g:Nat) (p v:Value) (bs:List UInt8) (s:ByteArray) (hp:p=.pointer none∨p=.pointer (some ⟨g,0,none⟩)) (hl:bs.length≤1000000000000) (hs:s.size≤1000000000000):
 CD Tryz.prog 171 [.bx g 213 (.agg [.v p,.ov v]),.sl v 1 5 (bs.map dU8)] [dP g 0,.s s] (fun r H'=>∃ v',r=.tup [dI (s.size:Int),.v .nilIface]∧H'=[.bx g 213 (.agg [dP g 0,.ov v']),.sl v' 1 5 ((bs++s.data.toList).map dU8)]):=by
 refine zq Tryz.func171 J (N:=19) J J (fun C=>?_)
 refine jk [0,1] J ?_
 refine JD.bd 1 J (fun bd1=>?_)
 have sz1:s.size≤9223372036854775807:=bd1
 refine jT J (oR 2 J (oZ J (jT J (oR 1 J (oE J (zk [.bx g 213 (.agg [.v p,.ov v])] [.sl v 1 5 (bs.map dU8)] [] J J (.cons ArgC.id .nil) zh Tryz.call193 (copyCheck_c g p (.ov v) hp) (.inl J)) ?_)))))
 rintro _ _ ⟨_,⟨rfl,rfl⟩,rfl⟩
 refine on J (oZ J (jT J (oR 3 J (oP J (zc J zbh J) (oP J (ze J (i:=0) J Tryz.isAgg103 J) (oR 1 J (oE J (ef_append_s (i:=1) (bs:=bs) (s:=s) J J J zcb (by kernel_rfl) zdu (by (try simp only[la,lc,ln]);omega)) ?_)))))))
 rintro _ _ ⟨v1,rfl,rfl⟩
 refine on J (oR 1 J (oP J (zc J zbh J) (oE J (zg (i:=0) (X':=.agg [dP g 0,.ov v1]) J J J (CellD.o) Tryz.sizeOf103 J J J) ?_)))
 rintro _ _ ⟨rfl,rfl⟩
 refine on J (oZ J (jk [1,4,5] J (jT J (oR 1 J (oP J (zX J Tryz.runUnderlying9) (oR 2 J (oZ J (zo J ?_))))))))
 exact zi Tryz.results171 (.cons (zl J) (.cons (zl J) .nil)) J (HSub.fst 2 J) ⟨v1,J,J⟩
end Lp
