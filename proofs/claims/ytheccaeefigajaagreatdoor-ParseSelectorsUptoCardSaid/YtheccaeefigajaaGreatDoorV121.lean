import Derived.Test.YtheccaeefigajaaGreatDoorPUn7
set_option linter.unusedSimpArgs false
set_option linter.unusedVariables false
set_option maxHeartbeats 4000000
set_option maxRecDepth 100000
namespace Lp
open Go Go.RowKit Go.Proofs Tryz
variable {ty:TypeId} {x:Operand}
theorem cv_5_3 {a:Int} (h: -9223372036854775808<=a/\a<=9223372036854775807):∀ w,(convert 5 3 (.int .u8 a)).run prog w=.ok (.int .i64 a) w:=λw=>by
 have e:IntKind.i64.wrap a=a:=by exact w64 (by omega)
 simp[convert,run_underlying (show Tryz.prog.underlying 5=some _ by kernel_rfl),run_underlying (show Tryz.prog.underlying 3=some _ by kernel_rfl),Conv.intToInt,e]
theorem p_slice_strS {P:Program} {K:Kd} {H:List Hp} {t:TypeId} {a c:Nat} {lo hi:Option Operand} {b:ByteArray} {rl rh:Option Int} (hx:opS K x=some b) (hm:b.size<=maxLen) (hlo:bndD K lo=some rl) (hhi:bndD K hi=some rh) (ha:Bnd rl 0 a) (hb:Bnd rh b.size c)
 (ht:∀ w,(underlying t).run P w=.ok .string w) (hab:a<=c) (hbn:c<=b.size):Pu P (.slice t x lo hi none) ty K H (.s (b.extract a c)):=
 ⟨λρ w F hk hF _=>e_slice_str (zl ρ [x]) (opv1 ρ (hk.opS hx)) rfl rfl (ha.out (zcG hk hlo)) (hb.out (zcG hk hhi)) ht hab hbn ⟨rfl,rfl,dY (by rw[cR];omega) hm⟩⟩
theorem refQuote_c (s:ByteArray) (hs:s.size<=1000000000):
 CD prog 105 [] [.s s] (isR (D.s (zad s))):=by
 refine tZ func105 O O (λC=>?_);refine T.bd 0 O (λbd0=>?_);have sz0:s.size<=9223372036854775807:=bd0;have qe0:(⟨#[92,120]⟩:ByteArray).size=2:=rfl;have qe1:(⟨#[92]⟩:ByteArray).size=1:=rfl;have qe2:(⟨#[92,110]⟩:ByteArray).size=2:=rfl;have qe3:(⟨#[34]⟩:ByteArray).size=1:=rfl;have qe4:(⟨#[48,49,50,51,52,53,54,55,56,57,97,98,99,100,101,102]⟩:ByteArray).size=16:=rfl;refine g' 14 O (tE O (zcr O runUnderlying9) ?_);rintro _ _ ⟨g1,rfl,rfl⟩;refine g' 3 O (tl2 (λ(a_:Nat) (b_:ByteArray)=>[(0,.s s),(2,cC),(10,dP g1 0),(3,.s b_)]) (λa_ b_=>[.it g1 s a_]) (λa_ b_=>(a_<=s.size)/\(b_.size<=1+5*a_)/\(34::zR s 0=b_.data.toList++zR s a_)) (λa_ b_=>s.size-a_) 0 (⟨#[34]⟩:ByteArray) O ⟨sk O,sk O,sk O,sc O cS,trivial⟩ w7 ⟨cX _,by decide,O⟩ ?_);rintro p o ⟨hp,hn,hq⟩;rcases c8 p s.size with hlt | hge
 · have hrune:=zan hlt;have hrl:=zbN s p;have hdw:=zZ s p hlt;have hdp:=zz s p;refine g' 2 O (tE O (zbv (i:=0) O O hlt) ?_);rintro _ _ ⟨rfl,rfl⟩;refine g' 26 O (tP O (zG (a:=p) (c:=s.size) O O O (by first | rfl | (show _=_;omega)) (by first | rfl | (show _=_;omega)) runUnderlying9 (by omega) (by omega)) (tE O (zcr O runUnderlying9) ?_));rintro _ _ ⟨g2,rfl,rfl⟩;refine g' 3 O ?_;have hT:(s.extract p s.size).size=s.size-p:=(by simp);have hdq:decW (s.extract p s.size) 0=decW s p:=decW_extract;refine tl2 (λ(a_:Nat) (b_:Nat)=>[(0,.s s),(2,cC),(3,.s o),(4,dN p),(5,.v (.int .i32 ((decR s p:Nat):Int))),(10,dP g1 0),(11,.tup [dB true,dN p,.v (.int .i32 ((decR s p:Nat):Int))]),(12,dB true),(13,dN p),(14,.v (.int .i32 ((decR s p:Nat):Int))),(15,.s s),(16,dN p),(17,.s (s.extract p s.size)),(18,dP g2 0),(6,dN b_)]) (λa_ b_=>[.it g2 (s.extract p s.size) a_,.it g1 s (p+decW s p)]) (λa_ b_=>(a_=0\/(a_=decW s p/\b_=s.size-p))) (λa_ b_=>(s.extract p s.size).size+1-a_) 0 1 O ⟨sk O,sk O,sk O,sk O,sk O,sk O,sk O,sk O,sk O,sk O,sk O,sk O,sk O,sk O,sc O (w5 O),trivial⟩ w7 (.inl O) ?_;rintro q w hqi;have hcase:(q=0/\q<(s.extract p s.size).size)\/(q=decW s p/\w=s.size-p/\q<(s.extract p s.size).size)\/(q=decW s p/\w=s.size-p/\(s.extract p s.size).size<=q):=(by omega);rcases hcase with ⟨hq0,hlt2⟩ | ⟨hq0,hw0,hlt2⟩ | ⟨hq0,hw0,hge2⟩
   · refine g' 2 O (tE O (zbv (i:=0) O O hlt2) ?_);rintro _ _ ⟨rfl,rfl⟩;refine g' 18 O (tP O (zbR O O (decide_eq_false (by omega))) (g' 7 O (tP O (zw O runUnderlying9) (g' 1 O (tP O (zcc (c:=(((s.size:Nat):Int)-((p:Nat):Int))) O O (zo (by omega) (by omega))) (g' 3 O ?_))))));exact tp2 (q+decW (s.extract p s.size) q) (s.size-p) ⟨sk O,sk O,sk O,sk O,sk O,sk O,sk O,sk O,sk O,sk O,sk O,sk O,sk O,sk O,sc O (w5 (congrArg dI (by omega))),trivial⟩ w7 (.inr ⟨by rw[hq0,dX];exact hdq,O⟩) (by have:=zz (s.extract p s.size) q;omega)
   · refine g' 2 O (tE O (zbv (i:=0) O O hlt2) ?_);rintro _ _ ⟨rfl,rfl⟩;refine g' 18 O (tP O (zbR O O (decide_eq_true (by omega))) (g' 16 O (m5 (mO 1 O) (T.sub [(0,.s s),(2,cC),(3,.s o),(4,dN p),(5,.v (.int .i32 ((decR s p:Nat):Int))),(6,dN (decW s p)),(7,dN q),(10,dP g1 0),(11,.tup [dB true,dN p,.v (.int .i32 ((decR s p:Nat):Int))]),(12,dB true),(13,dN p),(14,.v (.int .i32 ((decR s p:Nat):Int))),(15,.s s),(16,dN p),(17,.s (s.extract p s.size)),(18,dP g2 0),(19,.tup [dB true,dN q,.v (.int .i32 ((decR (s.extract p s.size) q:Nat):Int))]),(20,dB true),(21,dN q),(22,dN q),(23,dB true),(24,dN q)] ⟨sk O,sk O,sk O,sk O,sk O,sc O (w5 (congrArg dI (by omega))),sk O,sk O,sk O,sk O,sk O,sk O,sk O,sk O,sk O,sk O,sk O,sk O,sk O,sk O,sk O,sk O,trivial⟩ ?_))));have hcz:(s.extract p (p+decW s p)).size=decW s p:=zbi hlt;have h16:(⟨#[48,49,50,51,52,53,54,55,56,57,97,98,99,100,101,102]⟩:ByteArray).size=16:=rfl;refine g' 5 O (tP O (zB (c:=((p+(decW s p):Nat):Int)) O O (zo (by omega) (by omega))) (tP O (zG (a:=p) (c:=p+(decW s p)) O O O (by first | rfl | (show _=_;omega)) (by first | rfl | (show _=_;omega)) runUnderlying9 (by omega) (by omega)) (g' 9 O ?_)));refine tAnd 2 2 (c:=decide ((s.extract p (p+(decW s p)))≠(⟨#[239,191,189]⟩:ByteArray))) O O O O O O (λhb3 nx4=>?_) ?_
     · have hf5:=of_decide_eq_true hb3;refine g' 2 O ?_;exact nx4 _ O O (kx 2 O O)
     refine g' 3 O ?_;refine tC O (λhc6=>?_) (λhc6=>?_)
     · simp only[bX,bJ] at hc6;refine T.keep [0,2,3,4,5,6,7,8,10,11,12,13,14,15,16,17,18,19,20,21,22,23,24,29,30,31,32,33,34,38,39,40,41,44] O ?_;obtain ⟨u1,hu1⟩:=zaD (s.extract p (p+(decW s p))) 0 (by omega);have hlu1:=u1.toNat_lt;refine tDr 19 [(45,.s o,none),(46,.s (o++(⟨#[92,120]⟩:ByteArray)),none),(47,.s (s.extract p (p+(decW s p))),none),(48,.v (.int .u8 ((u1.toNat:Nat):Int)),none),(49,.v (.int .u8 ((u1.toNat / 16:Nat):Int)),none),(50,.s (s.extract p (p+(decW s p))),none),(51,.v (.int .u8 ((u1.toNat:Nat):Int)),none),(52,.v (.int .u8 ((u1.toNat / 16:Nat):Int)),none),(53,.v (.int .u8 (((u1.toNat / 16)+1:Nat):Int)),none),(54,.s ((⟨#[48,49,50,51,52,53,54,55,56,57,97,98,99,100,101,102]⟩:ByteArray).extract (u1.toNat / 16) ((u1.toNat / 16)+1)),none),(55,.s ((o++(⟨#[92,120]⟩:ByteArray))++((⟨#[48,49,50,51,52,53,54,55,56,57,97,98,99,100,101,102]⟩:ByteArray).extract (u1.toNat / 16) ((u1.toNat / 16)+1))),none),(56,.s (s.extract p (p+(decW s p))),none),(57,.v (.int .u8 ((u1.toNat:Nat):Int)),none),(58,.v (.int .u8 ((u1.toNat % 16:Nat):Int)),none),(59,.s (s.extract p (p+(decW s p))),none),(60,.v (.int .u8 ((u1.toNat:Nat):Int)),none),(61,.v (.int .u8 ((u1.toNat % 16:Nat):Int)),none),(62,.v (.int .u8 (((u1.toNat % 16)+1:Nat):Int)),none),(63,.s ((⟨#[48,49,50,51,52,53,54,55,56,57,97,98,99,100,101,102]⟩:ByteArray).extract (u1.toNat % 16) ((u1.toNat % 16)+1)),none)] [.it g1 s (p+decW s p)] (Hn:=[.it g1 s (p+decW s p)]) mixed O O O O w7 O ⟨sa_p O O O (zk O),sa_p O O O (cA O O (by (try simp only[cQ]);(try simp only[cQ,cR]);omega)),sa_p O O O (zk O),sa_p O O O (zq (k:=0) O O runUnderlying9 (by first | rfl | omega) hu1),sa_p O O O (zec (c:=((u1.toNat / 16:Nat):Int)) O O (by omega) (by rw[j9 (by omega)];exact zdS (n:=u1.toNat / 16) (by omega))),sa_p O O O (zk O),sa_p O O O (zq (k:=0) O O runUnderlying9 (by first | rfl | omega) hu1),sa_p O O O (zec (c:=((u1.toNat / 16:Nat):Int)) O O (by omega) (by rw[j9 (by omega)];exact zdS (n:=u1.toNat / 16) (by omega))),sa_p O O O (zB (c:=(((u1.toNat / 16)+1:Nat):Int)) O O (zdS (n:=(u1.toNat / 16)+1) (by omega))),sa_p O O O (p_slice_strS (a:=u1.toNat / 16) (c:=(u1.toNat / 16)+1) O (by decide) O O (by first | rfl | (show _=_;omega)) (by first | rfl | (show _=_;omega)) runUnderlying9 (by omega) (by omega)),sa_p O O O (cA O O (by (try simp only[cQ]);(try simp only[cQ,cR]);omega)),sa_p O O O (zk O),sa_p O O O (zq (k:=0) O O runUnderlying9 (by first | rfl | omega) hu1),sa_p O O O (zgr (c:=((u1.toNat % 16:Nat):Int)) O O (by omega) (by rw[uQ (by omega)];omega)),sa_p O O O (zk O),sa_p O O O (zq (k:=0) O O runUnderlying9 (by first | rfl | omega) hu1),sa_p O O O (zgr (c:=((u1.toNat % 16:Nat):Int)) O O (by omega) (by rw[uQ (by omega)];omega)),sa_p O O O (zB (c:=(((u1.toNat % 16)+1:Nat):Int)) O O (zdS (n:=(u1.toNat % 16)+1) (by omega))),sa_p O O O (p_slice_strS (a:=u1.toNat % 16) (c:=(u1.toNat % 16)+1) O (by decide) O O (by first | rfl | (show _=_;omega)) (by first | rfl | (show _=_;omega)) runUnderlying9 (by omega) (by omega)),trivial⟩ ?_;refine tK O (tP O (cA O O (by (try simp only[cQ]);(try simp only[cQ,cR]);omega)) (g' 4 O ?_));exact tp2 (p+decW s p) (((o++(⟨#[92,120]⟩:ByteArray))++((⟨#[48,49,50,51,52,53,54,55,56,57,97,98,99,100,101,102]⟩:ByteArray).extract (u1.toNat / 16) ((u1.toNat / 16)+1)))++((⟨#[48,49,50,51,52,53,54,55,56,57,97,98,99,100,101,102]⟩:ByteArray).extract (u1.toNat % 16) ((u1.toNat % 16)+1))) (sa O) w7 ⟨by have:=zZ s p hlt;omega,by have hcz:(s.extract p (p+decW s p)).size=decW s p:=zbi hlt;have hw1:=(rq_bad hlt (by have:=hc6.1;omega) hc6.2).1;(try simp only[cQ,cR]);omega,zcM hq hlt (rq_1 hlt (by have:=hc6.1;omega) hc6.2) (by have hb:=rq_byte hlt hu1;rw[<-hb];exact rq_out (by omega) (by omega))⟩ (by have:=zz s p;omega)
     simp only[bX,bJ] at hc6;have hn1:¬(((decR s p:Nat):Int)=(65533:Int)/\¬s.extract p (p+decW s p)=(⟨#[239,191,189]⟩:ByteArray)):=(by intro e;rcases hc6 with h | h<;>first | exact h e.1 | exact h e.2 | exact e.2 h);refine g' 5 O ?_;refine tOr 2 2 (c:=decide (((decR s p:Nat):Int)=(92:Int))) O O O O O O (λhb7 nx8=>?_) ?_
     · have hf9:=of_decide_eq_false hb7;refine g' 2 O ?_;exact nx8 _ O O (kx 2 O O)
     refine g' 3 O ?_;refine tC O (λhc10=>?_) (λhc10=>?_)
     · simp only[bX,bJ] at hc10;refine g' 2 O (tP O (cA O O (by (try simp only[cQ]);(try simp only[cQ,cR]);omega)) (g' 1 O (tP O (cA O O (by (try simp only[cQ]);(try simp only[cQ,cR]);omega)) (g' 4 O ?_))));exact tp2 (p+decW s p) ((o++(⟨#[92]⟩:ByteArray))++(s.extract p (p+(decW s p)))) (sa O) w7 ⟨by have:=zZ s p hlt;omega,by have hcz:(s.extract p (p+decW s p)).size=decW s p:=zbi hlt;(try simp only[cQ,cR]);omega,zcM hq hlt (rq_2 hlt (by have:=hc10;omega)) (by rw[zeD,zeD,dQ];rfl)⟩ (by have:=zz s p;omega)
     simp only[bX,bJ] at hc10;refine g' 7 O ?_;refine tD O (λhc11=>?_) (λhc11=>?_)
     · refine g' 2 O (tP O (cA O O (by (try simp only[cQ]);(try simp only[cQ,cR]);omega)) (g' 4 O ?_));exact tp2 (p+decW s p) (o++(⟨#[92,110]⟩:ByteArray)) (sa O) w7 ⟨by have:=zZ s p hlt;omega,by have hcz:(s.extract p (p+decW s p)).size=decW s p:=zbi hlt;(try simp only[cQ,cR]);omega,zcM hq hlt (piece_2 (by have:=hc10;omega) (by have:=hc11;omega)) (by rw[zeD])⟩ (by have:=zz s p;omega)
     refine g' 3 O (tP O (cA O O (by (try simp only[cQ]);(try simp only[cQ,cR]);omega)) (g' 4 O ?_));exact tp2 (p+decW s p) (o++(s.extract p (p+(decW s p)))) (sa O) w7 ⟨by have:=zZ s p hlt;omega,by have hcz:(s.extract p (p+decW s p)).size=decW s p:=zbi hlt;(try simp only[cQ,cR]);omega,zcM hq hlt (rq_4 hlt (λe=>hn1 ⟨by have:=e.1;omega,e.2⟩) (by have:=hc10;omega) (by have:=hc11;omega)) (by rw[zeD];rfl)⟩ (by have:=zz s p;omega)
   refine g' 2 O (tP O (zcj (i:=0) O O hge2) (g' 11 O (m5 (mO 1 O) (T.sub [(0,.s s),(2,cC),(3,.s o),(4,dN p),(5,.v (.int .i32 ((decR s p:Nat):Int))),(6,dN (decW s p)),(10,dP g1 0),(11,.tup [dB true,dN p,.v (.int .i32 ((decR s p:Nat):Int))]),(12,dB true),(13,dN p),(14,.v (.int .i32 ((decR s p:Nat):Int))),(15,.s s),(16,dN p),(17,.s (s.extract p s.size)),(18,dP g2 0),(19,.tup [dB false]),(20,dB false)] ⟨sk O,sk O,sk O,sk O,sk O,sc O (w5 (congrArg dI (by omega))),sk O,sk O,sk O,sk O,sk O,sk O,sk O,sk O,sk O,sk O,sk O,trivial⟩ ?_))));have hcz:(s.extract p (p+decW s p)).size=decW s p:=zbi hlt;have h16:(⟨#[48,49,50,51,52,53,54,55,56,57,97,98,99,100,101,102]⟩:ByteArray).size=16:=rfl;refine g' 5 O (tP O (zB (c:=((p+(decW s p):Nat):Int)) O O (zo (by omega) (by omega))) (tP O (zG (a:=p) (c:=p+(decW s p)) O O O (by first | rfl | (show _=_;omega)) (by first | rfl | (show _=_;omega)) runUnderlying9 (by omega) (by omega)) (g' 9 O ?_)));refine tAnd 2 2 (c:=decide ((s.extract p (p+(decW s p)))≠(⟨#[239,191,189]⟩:ByteArray))) O O O O O O (λhb12 nx13=>?_) ?_
   · have hf14:=of_decide_eq_true hb12;refine g' 2 O ?_;exact nx13 _ O O (kx 2 O O)
   refine g' 3 O ?_;refine tC O (λhc15=>?_) (λhc15=>?_)
   · simp only[bX,bJ] at hc15;refine T.keep [0,2,3,4,5,6,8,10,11,12,13,14,15,16,17,18,19,20,29,30,31,32,33,34,38,39,40,41,44] O ?_;obtain ⟨u1,hu1⟩:=zaD (s.extract p (p+(decW s p))) 0 (by omega);have hlu1:=u1.toNat_lt;refine tDr 19 [(45,.s o,none),(46,.s (o++(⟨#[92,120]⟩:ByteArray)),none),(47,.s (s.extract p (p+(decW s p))),none),(48,.v (.int .u8 ((u1.toNat:Nat):Int)),none),(49,.v (.int .u8 ((u1.toNat / 16:Nat):Int)),none),(50,.s (s.extract p (p+(decW s p))),none),(51,.v (.int .u8 ((u1.toNat:Nat):Int)),none),(52,.v (.int .u8 ((u1.toNat / 16:Nat):Int)),none),(53,.v (.int .u8 (((u1.toNat / 16)+1:Nat):Int)),none),(54,.s ((⟨#[48,49,50,51,52,53,54,55,56,57,97,98,99,100,101,102]⟩:ByteArray).extract (u1.toNat / 16) ((u1.toNat / 16)+1)),none),(55,.s ((o++(⟨#[92,120]⟩:ByteArray))++((⟨#[48,49,50,51,52,53,54,55,56,57,97,98,99,100,101,102]⟩:ByteArray).extract (u1.toNat / 16) ((u1.toNat / 16)+1))),none),(56,.s (s.extract p (p+(decW s p))),none),(57,.v (.int .u8 ((u1.toNat:Nat):Int)),none),(58,.v (.int .u8 ((u1.toNat % 16:Nat):Int)),none),(59,.s (s.extract p (p+(decW s p))),none),(60,.v (.int .u8 ((u1.toNat:Nat):Int)),none),(61,.v (.int .u8 ((u1.toNat % 16:Nat):Int)),none),(62,.v (.int .u8 (((u1.toNat % 16)+1:Nat):Int)),none),(63,.s ((⟨#[48,49,50,51,52,53,54,55,56,57,97,98,99,100,101,102]⟩:ByteArray).extract (u1.toNat % 16) ((u1.toNat % 16)+1)),none)] [.it g1 s (p+decW s p)] (Hn:=[.it g1 s (p+decW s p)]) mixed O O O O w7 O ⟨sa_p O O O (zk O),sa_p O O O (cA O O (by (try simp only[cQ]);(try simp only[cQ,cR]);omega)),sa_p O O O (zk O),sa_p O O O (zq (k:=0) O O runUnderlying9 (by first | rfl | omega) hu1),sa_p O O O (zec (c:=((u1.toNat / 16:Nat):Int)) O O (by omega) (by rw[j9 (by omega)];exact zdS (n:=u1.toNat / 16) (by omega))),sa_p O O O (zk O),sa_p O O O (zq (k:=0) O O runUnderlying9 (by first | rfl | omega) hu1),sa_p O O O (zec (c:=((u1.toNat / 16:Nat):Int)) O O (by omega) (by rw[j9 (by omega)];exact zdS (n:=u1.toNat / 16) (by omega))),sa_p O O O (zB (c:=(((u1.toNat / 16)+1:Nat):Int)) O O (zdS (n:=(u1.toNat / 16)+1) (by omega))),sa_p O O O (p_slice_strS (a:=u1.toNat / 16) (c:=(u1.toNat / 16)+1) O (by decide) O O (by first | rfl | (show _=_;omega)) (by first | rfl | (show _=_;omega)) runUnderlying9 (by omega) (by omega)),sa_p O O O (cA O O (by (try simp only[cQ]);(try simp only[cQ,cR]);omega)),sa_p O O O (zk O),sa_p O O O (zq (k:=0) O O runUnderlying9 (by first | rfl | omega) hu1),sa_p O O O (zgr (c:=((u1.toNat % 16:Nat):Int)) O O (by omega) (by rw[uQ (by omega)];omega)),sa_p O O O (zk O),sa_p O O O (zq (k:=0) O O runUnderlying9 (by first | rfl | omega) hu1),sa_p O O O (zgr (c:=((u1.toNat % 16:Nat):Int)) O O (by omega) (by rw[uQ (by omega)];omega)),sa_p O O O (zB (c:=(((u1.toNat % 16)+1:Nat):Int)) O O (zdS (n:=(u1.toNat % 16)+1) (by omega))),sa_p O O O (p_slice_strS (a:=u1.toNat % 16) (c:=(u1.toNat % 16)+1) O (by decide) O O (by first | rfl | (show _=_;omega)) (by first | rfl | (show _=_;omega)) runUnderlying9 (by omega) (by omega)),trivial⟩ ?_;refine tK O (tP O (cA O O (by (try simp only[cQ]);(try simp only[cQ,cR]);omega)) (g' 4 O ?_));exact tp2 (p+decW s p) (((o++(⟨#[92,120]⟩:ByteArray))++((⟨#[48,49,50,51,52,53,54,55,56,57,97,98,99,100,101,102]⟩:ByteArray).extract (u1.toNat / 16) ((u1.toNat / 16)+1)))++((⟨#[48,49,50,51,52,53,54,55,56,57,97,98,99,100,101,102]⟩:ByteArray).extract (u1.toNat % 16) ((u1.toNat % 16)+1))) (sa O) w7 ⟨by have:=zZ s p hlt;omega,by have hcz:(s.extract p (p+decW s p)).size=decW s p:=zbi hlt;have hw1:=(rq_bad hlt (by have:=hc15.1;omega) hc15.2).1;(try simp only[cQ,cR]);omega,zcM hq hlt (rq_1 hlt (by have:=hc15.1;omega) hc15.2) (by have hb:=rq_byte hlt hu1;rw[<-hb];exact rq_out (by omega) (by omega))⟩ (by have:=zz s p;omega)
   simp only[bX,bJ] at hc15;have hn1:¬(((decR s p:Nat):Int)=(65533:Int)/\¬s.extract p (p+decW s p)=(⟨#[239,191,189]⟩:ByteArray)):=(by intro e;rcases hc15 with h | h<;>first | exact h e.1 | exact h e.2 | exact e.2 h);refine g' 5 O ?_;refine tOr 2 2 (c:=decide (((decR s p:Nat):Int)=(92:Int))) O O O O O O (λhb16 nx17=>?_) ?_
   · have hf18:=of_decide_eq_false hb16;refine g' 2 O ?_;exact nx17 _ O O (kx 2 O O)
   refine g' 3 O ?_;refine tC O (λhc19=>?_) (λhc19=>?_)
   · simp only[bX,bJ] at hc19;refine g' 2 O (tP O (cA O O (by (try simp only[cQ]);(try simp only[cQ,cR]);omega)) (g' 1 O (tP O (cA O O (by (try simp only[cQ]);(try simp only[cQ,cR]);omega)) (g' 4 O ?_))));exact tp2 (p+decW s p) ((o++(⟨#[92]⟩:ByteArray))++(s.extract p (p+(decW s p)))) (sa O) w7 ⟨by have:=zZ s p hlt;omega,by have hcz:(s.extract p (p+decW s p)).size=decW s p:=zbi hlt;(try simp only[cQ,cR]);omega,zcM hq hlt (rq_2 hlt (by have:=hc19;omega)) (by rw[zeD,zeD,dQ];rfl)⟩ (by have:=zz s p;omega)
   simp only[bX,bJ] at hc19;refine g' 7 O ?_;refine tD O (λhc20=>?_) (λhc20=>?_)
   · refine g' 2 O (tP O (cA O O (by (try simp only[cQ]);(try simp only[cQ,cR]);omega)) (g' 4 O ?_));exact tp2 (p+decW s p) (o++(⟨#[92,110]⟩:ByteArray)) (sa O) w7 ⟨by have:=zZ s p hlt;omega,by have hcz:(s.extract p (p+decW s p)).size=decW s p:=zbi hlt;(try simp only[cQ,cR]);omega,zcM hq hlt (piece_2 (by have:=hc19;omega) (by have:=hc20;omega)) (by rw[zeD])⟩ (by have:=zz s p;omega)
   refine g' 3 O (tP O (cA O O (by (try simp only[cQ]);(try simp only[cQ,cR]);omega)) (g' 4 O ?_));exact tp2 (p+decW s p) (o++(s.extract p (p+(decW s p)))) (sa O) w7 ⟨by have:=zZ s p hlt;omega,by have hcz:(s.extract p (p+decW s p)).size=decW s p:=zbi hlt;(try simp only[cQ,cR]);omega,zcM hq hlt (rq_4 hlt (λe=>hn1 ⟨by have:=e.1;omega,e.2⟩) (by have:=hc19;omega) (by have:=hc20;omega)) (by rw[zeD];rfl)⟩ (by have:=zz s p;omega)
 have hrune:=zay hge;refine g' 2 O (tP O (zcj (i:=0) O O hge) (g' 13 O (tP O (cA O O (by (try simp only[cQ]);(try simp only[cQ,cR]);omega)) (g' 4 O ?_))));exact tRs O results105 (.cons (zd (zc O) (w5 (congrArg D.s (by exact quote_end hq hge)))) .nil) O mM ⟨O,O⟩
theorem nums_mk:∀ xs:List UInt8,strOfNums (xs.map λu=>((u.toNat:Nat):Int))=mkB xs:=λxs=>by
 unfold strOfNums mkB;congr 1;rw[vC];have e:((λn:Int=>UInt8.ofNat n.toNat) ∘ λu:UInt8=>((u.toNat:Nat):Int))=id:=by funext u;simp
 first | rw[e,List.map_id] | (show List.toArray _=_;congr 1;exact(congrArg (List.map · xs) e).trans (List.map_id _))
theorem p_bytesU {P:Program} {K:Kd} {H:List Hp} {t1 t2 e:TypeId} {j:Nat} {v:Value} {T:TypeId} {xs:List UInt8} (hx:opO K x=some v) (hm:nth H j=some (.sl v 1 T (xs.map dU8))) (hs:P.underlying t1=some (.slice e)) (he:P.underlying e=some (.int .u8)) (hd:P.underlying t2=some .string) (hz:xs.length<=maxLen):
 Pu P (.convert t1 t2 x) ty K H (.s (mkB xs)):=by
 by_cases hn:xs=[]
 · subst hn;refine⟨λρ w F hk _ hH=>?_⟩;obtain ⟨us,hr,ho⟩:=hH _ (zaq hm);have hu:us=[]:=hr;subst hu;have hev:ev ρ x=v:=hk.opO hx;rcases ho.1.2 with ⟨hv,_⟩ | ⟨g,cap,cur,hv,_⟩
   · have hcv:=run_convert_bytes_nil (P:=P) w t1 e hs he 0 0 t2 hd;exact wS (v:=.string ByteArray.empty) (w':=w) (by
      have h1:=zbW hcv;simpa [execOp,zam,hev,hv] using h1) ⟨rfl,rfl,by show (0:Nat)<=_;exact cX _⟩
   have hcv:=run_convert_bytes_arg (P:=P) w t1 e hs he g 0 0 cap [] O (λi hi=>absurd hi (by omega)) t2 hd;exact wS (v:=.string (strOfNums [])) (w':=w) (by
    have h1:=zbW hcv;simpa [execOp,zam,hev,hv] using h1) ⟨rfl,rfl,by show (0:Nat)<=_;exact cX _⟩
 have hm':nth H j=some (.sl v 1 T ((xs.map λu=>((u.toNat:Nat):Int)).map dB8)):=by rw[vC];exact hm
 have h:=p_bytes (P:=P) (ty:=ty) (t1:=t1) (t2:=t2) hx hm' (by simpa using hn) hs he hd;rw[nums_mk] at h;exact h.cv (Cv.str (by rw[z8];exact hz))
theorem rhex_c (c:Nat) (hc:c<256):
 CD prog 185 [] [.v (.int .u8 ((c:Nat):Int))] (isR (dI (hexI c))):=by
 refine tZ func185 O O (λC=>?_);refine g' 12 O ?_;refine tAnd 2 2 (c:=decide (((c:Nat):Int)<=(57:Int))) O O O O O O (λhb1 nx2=>?_) ?_
 · have hf3:=of_decide_eq_true hb1;refine g' 2 O ?_;exact nx2 _ O O (kx 2 O O)
 refine g' 3 O ?_;refine tC O (λhc4=>?_) (λhc4=>?_)
 · simp only[bX,bJ] at hc4;refine g' 3 O (tP O (zcc (c:=((c-48:Nat):Int)) O O (by rw[show ((c:Nat):Int)-(48:Int)=((c-48:Nat):Int) by omega];exact zdS (n:=c-48) (by omega))) (tP O (zaV O (c:=((c-48:Nat):Int)) (cv_5_3 (by omega))) (g' 6 O ?_)));exact tRs O results185 (.cons (zd (zc O) (w5 (congrArg (λn=>D.v (.int .i64 n)) (by rw[hexI_eq c hc];(repeat (any_goals split))<;>omega)))) .nil) O mM ⟨O,O⟩
 simp only[bX,bJ] at hc4;refine g' 5 O ?_;refine tAnd 2 2 (c:=decide (((c:Nat):Int)<=(102:Int))) O O O O O O (λhb5 nx6=>?_) ?_
 · have hf7:=of_decide_eq_true hb5;refine g' 2 O ?_;exact nx6 _ O O (kx 2 O O)
 refine g' 3 O ?_;refine tC O (λhc8=>?_) (λhc8=>?_)
 · simp only[bX,bJ] at hc8;refine g' 3 O (tP O (zcc (c:=((c-97:Nat):Int)) O O (by rw[show ((c:Nat):Int)-(97:Int)=((c-97:Nat):Int) by omega];exact zdS (n:=c-97) (by omega))) (tP O (zaV O (c:=((c-97:Nat):Int)) (cv_5_3 (by omega))) (tP O (zB (c:=(((c-97)+10:Nat):Int)) O O (zo (by omega) (by omega))) (g' 6 O ?_))));exact tRs O results185 (.cons (zd (zc O) (w5 (congrArg (λn=>D.v (.int .i64 n)) (by rw[hexI_eq c hc];(repeat (any_goals split))<;>omega)))) .nil) O mM ⟨O,O⟩
 simp only[bX,bJ] at hc8;refine g' 9 O ?_;exact tRs O results185 (.cons (zd (zc O) (w5 (congrArg (λn=>D.v (.int .i64 n)) (by rw[hexI_eq c hc];(repeat (any_goals split))<;>omega)))) .nil) O mM ⟨O,O⟩
end Lp
namespace Lp
open Go
section
variable {s:ByteArray} {i n v:Nat} {u:UInt8}
theorem bts_at (h:s[i]?=some u):bts s i=u::bts s (i+1):=by
 have hp:=zeY h;rw[zaE hp,show s.get! i=u from jP.1 (by rw[<-zdc hp,zJ h])]
theorem bl8_at (h:s[i]?=some u):(bl8 s)[i]?=some u:=by
 have hp:=zeY h;rw[getElem?_pos s i hp] at h;injection h with h;rw[dK (by rw[zT];exact hp),<-h];rfl
def RqI (s:ByteArray) (i:Nat):Prop:=1<=i/\i<=s.size+1/\zdm (bts s 1)=(zdm (bts s i)).map (· +(i-1))
theorem RqI.zero (hz:0<s.size):RqI s 1:=⟨cU _,by omega,by cases zdm (bts s 1)<;>rfl⟩
theorem RqI.esc (h:RqI s i) (hu:s[i]?=some u) (h92:u.toNat=92):RqI s (i+2):=by
 obtain ⟨h1,h2,h3⟩:=h;have hl:=zeY hu;refine⟨by omega,by omega,?_⟩;rw[h3,bts_at hu,show u=92 from jP.1 h92,bscan_esc,zbU,map_map_add];congr 1;funext j;omega
theorem RqI.raw (h:RqI s i) (hu:s[i]?=some u) (h92:¬u.toNat=92) (h34:¬u.toNat=34):RqI s (i+1):=by
 obtain ⟨h1,h2,h3⟩:=h;have hl:=zeY hu;refine⟨by omega,by omega,?_⟩;rw[h3,bts_at hu,bscan_raw (λe=>h92 (by rw[e];rfl)) (λe=>h34 (by rw[e];rfl)),map_map_add];congr 1;funext j;omega
theorem qscan_first (hz:0<s.size) (h0:decR s 0=34):zae true (bl8 s)=(zdm (bts s 1)).map (· +1):=by
 have hne:=bl8_ne hz;have hc:∃ t,bl8 s=34::t:=by
  have h0':(decL (bl8 s)).1=34:=by rw[dec0];exact h0
  cases e:bl8 s with
  | nil=>exact absurd e hne
  | cons b t=>
   rw[e] at h0';by_cases hb:b.toNat<128
   · rw[zab hb] at h0';have h0':b.toNat=34:=h0';exact⟨t,by rw[show b=34 from jP.1 h0']⟩
   have:=(dec_first_high (t:=t) hb).1;omega
 obtain ⟨t,ht⟩:=hc;have hd:decL (bl8 s)=(34,1):=by rw[ht];exact zab (by decide)
 have e1:(bl8 s).drop 1=bts s 1:=rfl;rw[zbB hne,if_pos rfl,hd,e1,bscan_qscan _ _ rfl]
theorem RqI.found (h:RqI s i) (hz:0<s.size) (h0:decR s 0=34) (hu:s[i]?=some u) (h34:u.toNat=34):zae true (bl8 s)=some i:=by
 obtain ⟨h1,h2,h3⟩:=h;rw[qscan_first hz h0,h3,bts_at hu,show u=34 from jP.1 h34,bscan_end];show some (0+(i-1)+1)=some i;congr 1;omega
theorem RqI.none (h:RqI s i) (hz:0<s.size) (h0:decR s 0=34) (hi:s.size<=i):strT (bl8 s)=(zbh,0):=by
 obtain ⟨h1,h2,h3⟩:=h;unfold strT;rw[qscan_first hz h0,h3,zde hi];rfl
def VInv (s:ByteArray) (n v:Nat):Prop:=n<=s.size/\runL isD (bl8 s)=n+runL isD (bts s n)/\v=digV ((bl8 s).take (min n 13))/\∀ b∈(bl8 s).take n,48<=b.toNat/\b.toNat<=57
theorem VInv.zero:VInv s 0 0:=⟨cX _,by rw[dX];rfl,rfl,λb hb=>absurd hb (by simp)⟩
theorem VInv.lt (h:VInv s n v):v<10000000000000:=by
 rw[h.2.2.1];refine vD_le (λb hb=>?_) (by rw[d5];omega);have:b∈(bl8 s).take n:=by
  rw[List.mem_take_iff_getElem] at hb ⊢;obtain ⟨k,hk,e⟩:=hb;exact⟨k,by omega,e⟩
 exact h.2.2.2 b this
theorem VInv.step (h:VInv s n v) (hu:s[n]?=some u) (hd:48<=u.toNat/\u.toNat<=57):n+1<=s.size/\runL isD (bl8 s)=(n+1)+runL isD (bts s (n+1))/\∀ b∈(bl8 s).take (n+1),48<=b.toNat/\b.toNat<=57:=by
 have hl:=zeY hu;refine⟨hl,dig_byte hu hd h.2.1 hl,λb hb=>?_⟩;rw[zaT (bl8_at hu)] at hb;rcases jX.1 hb with hb | hb
 · exact h.2.2.2 b hb
 rw[jF.1 hb];exact hd
theorem VInv.next (h:VInv s n v) (hu:s[n]?=some u) (hd:48<=u.toNat/\u.toNat<=57) (hn:n<13):VInv s (n+1) (v*10+(u.toNat-48)):=by
 obtain ⟨h1,h2,h3⟩:=h.step hu hd;refine⟨h1,h2,?_,h3⟩;rw[vF (by omega),zaT (bl8_at hu),digV_eq,digF_app];have e:=h.2.2.1;rw[vF (by omega),digV_eq] at e;rw[<-e];show _=10*v+(u.toNat-48);omega
theorem VInv.more (h:VInv s n v) (hu:s[n]?=some u) (hd:48<=u.toNat/\u.toNat<=57) (hn:¬n<13):VInv s (n+1) v:=by
 obtain ⟨h1,h2,h3⟩:=h.step hu hd;refine⟨h1,h2,?_,h3⟩;have e:=h.2.2.1;rw[Nat.min_eq_right (by omega)] at e ⊢;exact e
theorem VInv.stop (h:VInv s n v) (hu:s[n]?=some u) (hd:¬(48<=u.toNat/\u.toNat<=57)):nD s=n:=by
 have hf:isD ((decL (bts s n)).1:Int)=false:=by
  rw[bts_at hu,<-Bool.not_eq_true];intro e;have h2:zy ((decL (u::bts s (n+1))).1:Int)=2:=by
   have h':inK [2] ((decL (u::bts s (n+1))).1:Int)=true:=e;unfold inK at h';simp only[jR,uA,dO,decide_eq_true_eq] at h';exact h'.symm
  have hr:48<=(decL (u::bts s (n+1))).1/\(decL (u::bts s (n+1))).1<=57:=by unfold zy at h2;(repeat (split at h2))<;>omega
  by_cases hb:u.toNat<128
  · rw[zab hb] at hr;exact hd hr
  have:=(dec_first_high (t:=bts s (n+1)) hb).1;omega
 show runL isD (bl8 s)=n;rw[h.2.1,zc6 hf];rfl
theorem VInv.fin (h:VInv s n v) (hn:s.size<=n):nD s=n:=by
 show runL isD (bl8 s)=n;rw[h.2.1,zde hn,zcA];rfl
theorem VInv.val (h:VInv s n v) (hd:nD s=n) (hn:n<=13):v=vD s:=by
 have e:=h.2.2.1;rw[vF hn] at e;rw[e];show _=digV ((bl8 s).take (nD s));rw[hd]
theorem VInv.all (h:VInv s n v) (hd:nD s=n):nA s=n+runL isLD (bl8 (s.extract n s.size)):=by
 have e:bl8 s=(bl8 s).take n++(bl8 s).drop n:=(d8 n _).symm;have hn:=h.1;show runL isLD (bl8 s)=_
 conv=>lhs;rw[e]
 rw[zd9 isLD_2 _ _ h.2.2.2,d5,zT,vF hn,zcF,zbq]
def WI (s:ByteArray) (i:Nat) (o:List TokD):Prop:=zM (bl8 s) 0=(zM (bts s i) i).map (o++·)
theorem WI.zero:WI s 0 []:=by
 unfold WI;show zM (bl8 s) 0=(zM (bl8 s) 0).map _;cases zM (bl8 s) 0<;>rfl
theorem blank_byte {b:UInt8} {t:List UInt8} (h:zy ((decL (b::t)).1:Int)=3):b=32\/b=9\/b=10:=by
 have hr:(decL (b::t)).1=32\/(decL (b::t)).1=9\/(decL (b::t)).1=10:=by unfold zy at h;(repeat (split at h))<;>omega
 by_cases hb:b.toNat<128
 · rw[zab hb] at hr;have hr:b.toNat=32\/b.toNat=9\/b.toNat=10:=hr;rcases hr with h | h | h
   · exact .inl (jP.1 h)
   · exact .inr (.inl (jP.1 h))
   exact .inr (.inr (jP.1 h))
 have:=(dec_first_high (t:=t) hb).1;omega
theorem ext_dec:(decR (s.extract i s.size) 0)=(decL (bts s i)).1:=by rw[decR_extract,jY,zbp]
theorem WI.blank {o:List TokD} (h:WI s i o) (hi:i<s.size) (hk:zy ((decR (s.extract i s.size) 0:Nat):Int)=3):WI s (i+1) o:=by
 unfold WI at*;rw[ext_dec,zaE hi] at hk;rw[h,zaE hi];have e:s.get! i::bts s (i+1)=[s.get! i]++bts s (i+1):=rfl;rw[e,wordsL_blank (by intro b hb;rw[jF.1 hb];exact blank_byte hk)];rfl
theorem no_blank {l:List UInt8} (hk:¬zy ((decL l).1:Int)=3):runL isB l=0:=by
 refine zc6 ?_;show inK [3] _=false;unfold inK;simp only[jR,uA,dO,decide_eq_false_iff_not];exact λe=>hk e.symm
theorem WI.next {o:List TokD} (h:WI s i o) (hi:i<s.size) (hk:¬zy ((decR (s.extract i s.size) 0:Nat):Int)=3) (h0:¬(zg (bl8 (s.extract i s.size))).2=0):WI s (i+(zg (bl8 (s.extract i s.size))).2) (o++[(zg (bl8 (s.extract i s.size))).1.put i]):=by
 have e1:bl8 (s.extract i s.size)=bts s i:=zaY;unfold WI at*;rw[ext_dec] at hk;rw[e1] at h0 ⊢;have hb:=no_blank hk;have hw:zM (bts s i) i=zbu (bts s i).length (bts s i) i:=by unfold zM;rw[hb];rfl
 rw[h,hw,zaN (zdp hi) h0 (cU _),zbU];cases zM (bts s (i+(zg (bts s i)).2)) (i+(zg (bts s i)).2)<;>simp
theorem WI.bad {o:List TokD} (h:WI s i o) (hi:i<s.size) (hk:¬zy ((decR (s.extract i s.size) 0:Nat):Int)=3) (h0:(zg (bl8 (s.extract i s.size))).2=0):zM (bl8 s) 0=none:=by
 have e1:bl8 (s.extract i s.size)=bts s i:=zaY;unfold WI at h;rw[ext_dec] at hk;rw[e1] at h0;have hb:=no_blank hk;have hw:zM (bts s i) i=zbu (bts s i).length (bts s i) i:=by unfold zM;rw[hb];rfl
 rw[h,hw,zbF (zdp hi) h0];rfl
theorem WI.done {o:List TokD} (h:WI s i o) (hi:s.size<=i):zM (bl8 s) 0=some o:=by
 unfold WI at h;have e:zM [] i=some []:=by unfold zM;rw[zcA];exact zaI
 rw[h,zde hi,e];simp
def SgI (s:ByteArray) (n:Nat):Prop:=n<=2/\n<=s.size/\(n<2->2<=s.size->hasN zV (s.extract 0 2)=false)/\(n<1->1<=s.size->hasN zV (s.extract 0 1)=false)
theorem SgI.zero (hz:0<s.size):SgI s (min 2 s.size):=⟨by omega,by omega,λh1 h2=>by omega,λh1 h2=>by omega⟩
theorem SgI.next (h:SgI s n) (h0:0<n) (hf:hasN zV (s.extract 0 n)=false):SgI s (n-1):=by
 obtain ⟨h1,h2,h3,h4⟩:=h;rcases (show n=1\/n=2 by omega) with rfl | rfl
 · exact⟨by omega,by omega,λ_=>h3 (by omega),λ_ _=>hf⟩
 exact⟨by omega,by omega,λ_ _=>hf,λh _=>by omega⟩
theorem SgI.yes (h:SgI s n) (h0:0<n) (ht:hasN zV (s.extract 0 n)=true):zbQ (bl8 s)=(⟨5,0,s.extract 0 n⟩,n):=by
 obtain ⟨h1,h2,h3,h4⟩:=h;rw[signT_two,zT];have e:∀ k,k<=s.size->mkB ((bl8 s).take k)=s.extract 0 k:=λk hk=>(zcq hk).symm
 rcases (show n=1\/n=2 by omega) with rfl | rfl
 · have hn:¬(2<=s.size/\hasN zV (mkB ((bl8 s).take 2))=true):=λhh=>by
    have:=h3 (by omega) hh.1;rw[e 2 hh.1,this] at hh;exact absurd hh.2 (by simp)
   rw[if_neg hn,if_pos ⟨h2,by rw[e 1 h2];exact ht⟩,e 1 h2]
 rw[if_pos ⟨h2,by rw[e 2 h2];exact ht⟩,e 2 h2]
theorem SgI.no (h:SgI s n) (h0:¬0<n):zbQ (bl8 s)=(zbh,0):=by
 obtain ⟨h1,h2,h3,h4⟩:=h;rw[signT_two,zT];have e:∀ k,k<=s.size->mkB ((bl8 s).take k)=s.extract 0 k:=λk hk=>(zcq hk).symm
 have n2:¬(2<=s.size/\hasN zV (mkB ((bl8 s).take 2))=true):=λhh=>by
  have:=h3 (by omega) hh.1;rw[e 2 hh.1,this] at hh;exact absurd hh.2 (by simp)
 have n1:¬(1<=s.size/\hasN zV (mkB ((bl8 s).take 1))=true):=λhh=>by
  have:=h4 (by omega) hh.1;rw[e 1 hh.1,this] at hh;exact absurd hh.2 (by simp)
 rw[if_neg n2,if_neg n1]
theorem notLD {r:Int} (h:¬zy r=1/\¬zy r=2):isLD r=false:=by
 rw[<-Bool.not_eq_true,zei];omega
end
end Lp
namespace Lp
open Go Go.RowKit Go.Proofs Tryz
abbrev RB7 (g:Nat) (s:Rd):Hp:=.bx g 106 (.agg [.sh 3 (s.l.map TokD.d),dI s.n,dB s.b])
section
variable {s z y s1 s2 s3:Rd} {k:Int} {t:ByteArray} {x:TokD} {o l:List ByteArray} {f:Nat}
theorem is7_b (h:s.b=true):false=s.is7 k t:=by unfold Rd.is7;rw[h];rfl
theorem is7_e (h:s.l.length=0) (hk:k≠0):false=s.is7 k t:=by unfold Rd.is7 Rd.is;rw[pk_0 h,decide_eq_false (show ¬zbh.k=k from λe=>hk e.symm)];simp
theorem is7_x (hb:s.b=false) (hx:s.l[0]?=some x):(decide (x.k=k)&&decide (x.t=t))=s.is7 k t:=by
 unfold Rd.is7 Rd.is;rw[pk_x hx,hb];unfold hasN;simp only[jR,uA,dO,j6,Bool.not_false];exact congrArg _ (decide_eq_decide.2 eq_comm)
theorem must7_t (h:s.is7 5 t=true):(⟨(s.l.take s.l.length).drop 1,s.n,s.b⟩:Rd)=s.must t:=by
 obtain ⟨_,hb⟩:=is7_ne (by decide) h;rw[zeg hb (by rw[<-zb0 hb];exact h),tail_td];rfl
theorem must7_f (h:¬s.is7 5 t=true):(⟨s.l,s.n,true⟩:Rd)=s.must t:=by
 rw[must_if,if_pos];unfold Rd.is7 at h;cases hb:s.b with
 | true=>exact .inl rfl
 | false=>rw[hb] at h;exact .inr (by simpa using h)
theorem zfc (h:s.is7 k t=true) (hk:k≠0):0<s.l.length:=dD.2 (is7_ne hk h).1
theorem any_or (e:(t,s1)=s.any k) (hk:k≠0):s1.b=true\/s1.l.length+1=s.l.length:=by
 by_cases h:s.b=true\/s.pk.k≠k
 · rw[ze3 h] at e;injection e with _ e;rw[e];exact .inl rfl
 exact .inr (any_y e hk (by cases hb:s.b with | true=>exact absurd (.inl hb) h | false=>rfl) (Decidable.byContradiction λe=>h (.inr e))).1
theorem names7_stop (h:z.b=true\/z.is7 5 zD=true):zaG f o z=(o,z):=by cases f<;>unfold zaG;rfl;rw[if_pos h]
theorem names7_go (h:¬(z.b=true\/z.is7 5 zD=true)) (hy:y=if 0<o.length then z.must zA else z) (e:(t,s1)=y.any 1):zaG (f+1) o z=zaG f (o++[t]) s1:=by
 conv=>lhs;unfold zaG
 rw[if_neg h];simp only;rw[<-hy,<-e]
theorem names7_of (e:s1=s.must zn) (hf:zaG (s1.l.length+1) [] s1=(o,s2)) (e2:s3=s2.must zD):(o,s3)=s.names7:=by unfold Rd.names7;simp only;rw[<-e,hf,e2]
theorem names7_e (e:(l,s1)=s.names7):Stp 0 s s1:=by have h:=(names7_sk (s:=s)).p;rw[<-e] at h;exact h
theorem comma_e (hy:y=if 0<f then z.must zA else z):Stp 0 z y:=by rw[hy];split;exact zx z _;exact mQ z
theorem ze8 (e:s1=s.node7):Stp 1 s s1:=by rw[e];exact za9.p
def DigO (t:ByteArray):Prop:=t=ByteArray.empty\/∃ v:Nat,v<=1000000000000/\t=digB v
theorem digV_pre:∀ (b a:List UInt8),digV a<=digV (a++b)
 | [],a=>by rw[jO];exact cU _
 | x::b,a=>by
  have h:=digV_pre b (a++[x]);rw[digV_snoc,dQ] at h;rw[show x::b=[x]++b from rfl];omega
theorem DigO.v (h:DigO t) (i:Nat):digV ((bl8 t).take i)<=1000000000000:=by
 have h1:=digV_pre ((bl8 t).drop i) ((bl8 t).take i);rw[d8] at h1;rcases h with rfl | ⟨v,hv,rfl⟩
 · exact dY h1 (by decide)
 rw[zdZ,digV_digL] at h1;rw[zdZ];omega
theorem DigO.d (h:DigO t) {i:Nat} {u:UInt8} (hx:t[i]?=some u):48<=u.toNat/\u.toNat<=57:=by
 have h1:=dM (bl8_at hx);rcases h with rfl | ⟨v,hv,rfl⟩
 · exact absurd h1 (by rw[show bl8 ByteArray.empty=[] from O];simp)
 rw[zdZ] at h1;exact digL_digs v u h1
theorem value7_go {i v:Nat} {u:UInt8} (hv:v=digV ((bl8 t).take i)) (hx:t[i]?=some u):v*10+(u.toNat-48)=digV ((bl8 t).take (i+1)):=by rw[zaT (bl8_at hx),digV_snoc,hv,Nat.mul_comm]
theorem value7_of {i v:Nat} (hv:v=digV ((bl8 t).take i)) (hi:t.size<=i):((v:Nat):Int)=numV t:=by rw[hv,dJ (by rw[zT];exact hi)];rfl
end
theorem zds (g:Nat) (s:Rd) (k:Int) (t:ByteArray) (hw:s.n+2*(s.l.length:Int)<=3000000) (hn:0<=s.n) (hT:TOk s.l) (hk:k≠0):
 CD prog 90 [RB7 g s] [dP g 0,dI k,.s t] (λr H'=>r=dB (s.is7 k t)/\H'=[RB7 g s]):=by
 refine tZ func90 O O (λC=>?_);refine T.bd 2 O (λbd2=>?_);have sz2:t.size<=9223372036854775807:=bd2;refine g' 6 O ?_;rcases jL s.b with hb0 | hb0
 · refine g' 4 O (tP O ((zf O (i:=0) O isAgg4 O).cv (cB ((hb0)))) (g' 35 O ?_));exact tRs O results90 (.cons (zd (zc O) (w5 (congrArg dB (show false=s.is7 k t from by first | exact is7_b hb0 | exact is7_e hl0 hk)))) .nil) O (mN 1 O) ⟨O,O⟩
 rcases jN s.l.length with hl0 | hl0
 · have hl1:¬(0<((s.l.length:Nat):Int)):=(by omega);have hl2:(((s.l.length:Nat):Int)=0):=(by omega);refine g' 4 O (tP O ((zf O (i:=0) O isAgg4 O).cv (cB ((hb0)))) (gQ 6 [0] O O (tG O (z7 (n:=s.l.length) O runUnderlying67 (by simp only[lm,lc,ln])) (tG O (zbR O O (decide_eq_false hl1)) (g' 27 O ?_)))));exact tRs O results90 (.cons (zd (zc O) (w5 (congrArg dB (show false=s.is7 k t from by first | exact is7_b hb0 | exact is7_e hl0 hk)))) .nil) O (mN 1 O) ⟨O,O⟩
 have hl1:(0<((s.l.length:Nat):Int)):=by omega
 have hl2:¬(((s.l.length:Nat):Int)=0):=by omega
 obtain ⟨x1,hx1⟩:=zQ s.l 0 (by omega);refine g' 4 O (tP O ((zf O (i:=0) O isAgg4 O).cv (cB ((hb0)))) (gQ 6 [0] O O (tG O (z7 (n:=s.l.length) O runUnderlying67 (by simp only[lm,lc,ln])) (tG O (zbR O O (decide_eq_true hl1)) (gQ 6 [0] O O (tG O (zh (k:=0) O O runUnderlying67 sizeOf135 (by first | rfl | omega) (zI hx1)) (g' 6 O ?_)))))));refine tAnd 24 9 (c:=decide (x1.t=t)) O O O O O O (λhb1 nx2=>?_) ?_
 · have hf3:=of_decide_eq_true hb1;refine gQ 4 [0] O O (tG O (zh (k:=0) O O runUnderlying67 sizeOf135 (by first | rfl | omega) (zI hx1)) (g' 4 O ?_));exact nx2 _ O O (kx 9 O O)
 refine g' 4 O ?_;exact tRs O results90 (.cons (zd (zc O) (w5 (congrArg dB (show (decide (x1.k=k)&&decide (x1.t=t))=s.is7 k t from is7_x hb0 hx1)))) .nil) O (mN 1 O) ⟨O,O⟩
theorem zcV (g:Nat) (s:Rd) (k:Int) (hw:s.n+2*(s.l.length:Int)<=3000000) (hn:0<=s.n) (hT:TOk s.l) (hk:k≠0):
 CD prog 91 [RB7 g s] [dP g 0,dI k] (λr H'=>∃ t s',(t,s')=s.any k/\r=.s t/\H'=[RB7 g s']):=by
 refine tZ func91 O O (λC=>?_);refine g' 7 O ?_;rcases jL s.b with hb0 | hb0
 · refine g' 4 O (tP O ((zf O (i:=0) O isAgg4 O).cv (cB ((hb0)))) (g' 21 O ?_));have hor:s.b=true\/s.pk.k≠k:=(by first | exact .inl hb0 | (right;rw[pk_0 hl0];exact λe=>hk e.symm));refine gQ 16 [0] O O ?_;exact tRs O results91 (.cons (zd (zc O) (cS)) .nil) O (mN 1 O) ⟨_,⟨s.l,s.n,true⟩,(ze3 hor).symm,O,O⟩
 rcases jN s.l.length with hl0 | hl0
 · have hl1:¬(0<((s.l.length:Nat):Int)):=(by omega);have hl2:(((s.l.length:Nat):Int)=0):=(by omega);refine g' 4 O (tP O ((zf O (i:=0) O isAgg4 O).cv (cB ((hb0)))) (gQ 5 [0] O O (tG O (z7 (n:=s.l.length) O runUnderlying67 (by simp only[lm,lc,ln])) (tG O (zaw O O (decide_eq_true hl2)) (g' 14 O ?_)))));have hor:s.b=true\/s.pk.k≠k:=(by first | exact .inl hb0 | (right;rw[pk_0 hl0];exact λe=>hk e.symm));refine gQ 16 [0] O O ?_;exact tRs O results91 (.cons (zd (zc O) (cS)) .nil) O (mN 1 O) ⟨_,⟨s.l,s.n,true⟩,(ze3 hor).symm,O,O⟩
 have hl1:(0<((s.l.length:Nat):Int)):=by omega
 have hl2:¬(((s.l.length:Nat):Int)=0):=by omega
 obtain ⟨x1,hx1⟩:=zQ s.l 0 (by omega);refine g' 4 O (tP O ((zf O (i:=0) O isAgg4 O).cv (cB ((hb0)))) (gQ 5 [0] O O (tG O (z7 (n:=s.l.length) O runUnderlying67 (by simp only[lm,lc,ln])) (tG O (zaw O O (decide_eq_false hl2)) (gQ 6 [0] O O (tG O (zh (k:=0) O O runUnderlying67 sizeOf135 (by first | rfl | omega) (zI hx1)) (g' 7 O ?_)))))));refine tD O (λhc1=>?_) (λhc1=>?_)
 · have hor:s.b=true\/s.pk.k≠k:=(by right;rw[pk_x hx1];exact hc1);refine gQ 15 [0] O O ?_;exact tRs O results91 (.cons (zd (zc O) (cS)) .nil) O (mN 1 O) ⟨_,⟨s.l,s.n,true⟩,(ze3 hor).symm,O,O⟩
 have hand:s.b=false/\s.pk.k=k:=by rw[pk_x hx1];exact⟨hb0,by simpa using hc1⟩
 have hne:=pk_len hk hand.2;refine gQ 8 [0] O O (tP O (zh (k:=0) O O runUnderlying67 sizeOf135 (by first | rfl | omega) (zI hx1)) (gQ 12 [0] O O (tP O ((zbC (a:=1) (b:=s.l.length) O O O (by first | rfl | (show _=_;(try simp only[lm]);omega) | exact cV _) (by first | rfl | (show _=_;(try simp only[lm]);omega) | exact cV _) runUnderlying67 sizeOf135 (by omega) (by simp only[lm];omega)).cv (w5 (by rw[<-jG,<-jM]))) (gQ 12 [0] O O ?_))));exact tR O (mN 1 O) ⟨_,⟨((s.l.take s.l.length).drop 1),s.n,s.b⟩,(by rw[any_ok hand.1 hand.2,pk_x hx1]),O,O⟩
theorem zbZ (g:Nat) (s:Rd) (t:ByteArray) (hw:s.n+2*(s.l.length:Int)<=3000000) (hn:0<=s.n) (hT:TOk s.l):
 CD prog 167 [RB7 g s] [dP g 0,.s t] (λr H'=>∃ s',s'=s.must t/\r=.tup []/\H'=[RB7 g s']):=by
 refine tZ func167 O O (λC=>?_);refine T.bd 1 O (λbd1=>?_);have sz1:t.size<=9223372036854775807:=bd1;refine g' 5 O (tX [0] O O acs (zds g s 5 t (by omega) (by omega) hT (by decide)) ?_);rintro _ _ ⟨rfl,rfl⟩;refine g' 3 O ?_;refine tC O (λhc2=>?_) (λhc2=>?_)
 · simp only[bX,bJ] at hc2;refine gQ 10 [0] O O ?_;exact tR O (mN 1 O) ⟨⟨s.l,s.n,true⟩,must7_f (by simpa using hc2),O,O⟩
 simp only[bX,bJ] at hc2;have hne:=zfc (by simpa using hc2) (by decide);refine gQ 8 [0] O O (tP O ((zbC (a:=1) (b:=s.l.length) O O O (by first | rfl | (show _=_;(try simp only[lm]);omega) | exact cV _) (by first | rfl | (show _=_;(try simp only[lm]);omega) | exact cV _) runUnderlying67 sizeOf135 (by omega) (by simp only[lm];omega)).cv (w5 (by rw[<-jG,<-jM]))) (gQ 4 [0] O O ?_));exact tR O (mN 1 O) ⟨⟨((s.l.take s.l.length).drop 1),s.n,s.b⟩,must7_t (by simpa using hc2),O,O⟩
theorem ze9 (g:Nat) (s:Rd) (x0 x1 x2 x3 x4 x5 x6:D) (hw:s.n+2*(s.l.length:Int)<=3000000) (hn:0<=s.n) (hT:TOk s.l):
 CD prog 142 [RB7 g s] [dP g 0,.agg [x0,x1,x2,x3,x4,x5,x6]] (λr H'=>∃ s',s'=s.node7/\r=.agg [x0,x1,x2,x3,x4,x5,x6]/\H'=[RB7 g s']):=by
 refine tZ func142 O O (λC=>?_);refine T.bd 1 O (λbd1=>?_);refine g' 2 O ?_;refine tA O (λg1=>?_);refine tA O (λg2=>?_);refine gQ 8 [2] O O (tP O (zB (c:=(s.n+1)) O O (zo (by omega) (by omega))) (gQ 12 [2,1,0] O O (m8 2 O ?_)));exact tRs O results142 (.cons (zm (i:=1) O O isAgg27 sizeOf27 O O) .nil) O (mN 1 O) ⟨⟨s.l,(s.n+1),s.b⟩,O,O,O⟩
theorem zeM (t:ByteArray) (hz:t.size<=1000000) (hd:DigO t):
 CD prog 92 [] [.s t] (isR (dI (numV t))):=by
 refine tZ func92 O O (λC=>?_);refine T.bd 0 O (λbd0=>?_);have sz0:t.size<=9223372036854775807:=bd0;refine g' 17 O (tl2 (λ(a_:Nat) (b_:Nat)=>[(0,.s t),(2,dI 0),(4,dN a_),(3,dN b_)]) (λa_ b_=>[]) (λa_ b_=>(b_=digV ((bl8 t).take a_))/\(a_<=t.size)) (λa_ b_=>t.size-a_) 0 0 O (sa O) w7 ⟨O,cX _⟩ ?_);rintro i v ⟨hv,hi⟩;refine g' 5 O (tP O (zw O runUnderlying9) (g' 3 O ?_));refine tD O (λhc1=>?_) (λhc1=>?_)
 · refine g' 4 O ?_;obtain ⟨u,hu⟩:=zaD t i (by omega);have hdu:=hd.d hu;have hvn:=hd.v i;have hvm:=hd.v (i+1);rw[<-value7_go hv hu] at hvm;rw[<-hv] at hvn;refine g' 2 O (tP O (zeI (c:=((v*10:Nat):Int)) O O (zo (by omega) (by omega))) (g' 2 O (tP O (zq (k:=i) O O runUnderlying9 (by first | rfl | omega) hu) (tP O (zcc (c:=((u.toNat-48:Nat):Int)) O O (by rw[show ((u.toNat:Nat):Int)-(48:Int)=((u.toNat-48:Nat):Int) by omega];exact zdS (n:=u.toNat-48) (by omega))) (tP O (zaV O (c:=((u.toNat-48:Nat):Int)) (cv_5_3 (by omega))) (tP O (zB (c:=(((v*10)+(u.toNat-48):Nat):Int)) O O (zo (by omega) (by omega))) (g' 6 O (tP O (zB (c:=((i+1:Nat):Int)) O O (zo (by omega) (by omega))) (g' 2 O ?_)))))))));exact tp2 (i+1) ((v*10)+(u.toNat-48)) (sa O) w7 ⟨value7_go hv hu,by omega⟩ (by omega)
 refine g' 12 O ?_;exact tRs O results92 (.cons (zd (zc O) (w5 (congrArg (λn=>D.v (.int .i64 n)) (by exact value7_of hv (by omega))))) .nil) O mM ⟨O,O⟩
theorem names7_c (g:Nat) (s:Rd) (hw:s.n+2*(s.l.length:Int)<=3000000) (hn:0<=s.n) (hT:TOk s.l):
 CD prog 141 [RB7 g s] [dP g 0] (λr H'=>∃ l s',(l,s')=s.names7/\r=.sh 1 (l.map D.s)/\H'=[RB7 g s']):=by
 refine tZ func141 O O (λC=>?_);refine g' 13 O (tX [0] O O (ga (.cons (ArgC.cv cS) .nil)) (zbZ g s (⟨#[40]⟩:ByteArray) (by omega) (by omega) hT) ?_);rintro _ _ ⟨s1,e1,rfl,rfl⟩;obtain ⟨ka1,kb1,kc1,hT1⟩:=(zaB e1).out hT;refine g' 4 O (tl4 (λ(a_:Nat) (b_:Rd) (c_:Value) (d_:List ByteArray)=>[(0,dP g 0),(2,dZ),(3,.ov c_)]) (λa_ b_ c_ d_=>[.sl c_ 1 9 (d_.map D.s),RB7 g b_]) (λa_ b_ c_ d_=>(b_.b=true\/b_.l.length<a_)/\(zaG a_ d_ b_=zaG (s1.l.length+1) [] s1)/\(b_.n+2*(b_.l.length:Int)<=3000000)/\(0<=b_.n)/\(TOk b_.l)/\(d_.length+a_<=1500001)) (λa_ b_ c_ d_=>a_) (s1.l.length+1) s1 (.slice none 0 0) [] O ⟨sk O,sk O,sc O (Cv.ov O),trivial⟩ (HSub.nil 1 9) ⟨.inr (jK _),O,(by omega),(by omega),hT1,(by show 0+_<=_;omega)⟩ ?_);rintro f z ov o ⟨hlf,hf,hzw,hzn,hz,hol⟩;refine gQ 9 [1] O O ?_;refine tAnd 5 3 (c:=!((z.is7 5 (⟨#[41]⟩:ByteArray)))) O O O O O O (λhb2 nx3=>?_) ?_
 · have hf4:=notT hb2;refine g' 1 O (tX [1] O O (ga (ga (.cons (ArgC.cv cS) .nil))) (zds g z 5 (⟨#[41]⟩:ByteArray) (by omega) (by omega) hz (by decide)) ?_);rintro _ _ ⟨rfl,rfl⟩;refine g' 1 O (m8 1 O ?_);exact nx3 _ O O (kx 3 O O)
 refine g' 2 O ?_;refine tC O (λhc6=>?_) (λhc6=>?_)
 · simp only[bX,bJ] at hc6;have hst:¬(z.b=true\/z.is7 5 zD=true):=(by have h:=hc6;rintro (k | k);(rw[k] at h;exact absurd h.1 (by decide));(rw[k] at h;exact absurd h.2 (by decide)));have hzl:z.l.length<f:=hlf.resolve_left λk=>hst (.inl k)
   obtain ⟨f,rfl⟩:∃ k,f=k+1:=⟨f-1,by omega⟩;refine g' 4 O ?_;refine tJ (λ(jg:Rd)=>[(0,dP g 0),(2,dZ),(3,.ov ov),(6,dP g 0),(7,dP g 0),(8,dP g 2),(9,dB z.b),(10,dB (!z.b)),(11,dB (!z.b)),(15,dB (!z.b&&!((z.is7 5 (⟨#[41]⟩:ByteArray)))))]) (λ(jg:Rd)=>[.sl ov 1 9 (o.map D.s),RB7 g jg]) (λ(jg:Rd)=>(jg=if 0<o.length then z.must zA else z)) (λ_ hQ7=>?_) ?_
   · refine g' 3 O (tP O (zak (n:=o.length) (j:=0) O O runUnderlying23 (cV _)) (g' 3 O ?_));refine tD O (λhc8=>?_) (λhc8=>?_)
     · refine g' 2 O (tX [1] O O (ga (.cons (ArgC.cv cS) .nil)) (zbZ g z (⟨#[44]⟩:ByteArray) (by omega) (by omega) hz) ?_);rintro _ _ ⟨s9,e9,rfl,rfl⟩;obtain ⟨ka9,kb9,kc9,hT9⟩:=(zaB e9).out hz;refine g' 1 O (m8 1 O ?_);exact tqe (hQ7 s9 (by rw[if_pos (by omega)];exact e9)) O
     refine g' 1 O ?_;exact tqe (hQ7 z ((if_neg (by omega)).symm)) O
   rintro y hy;refine g' 1 O ?_;obtain ⟨kx,ky,kw,hTy⟩:=(comma_e hy).out hz;refine g' 3 O (tX [1] O O acs (zcV g y 1 (by omega) (by omega) hTy (by decide)) ?_);rintro _ _ ⟨t10,s10,e10,rfl,rfl⟩;obtain ⟨ka10,kb10,kc10,hT10⟩:=(zc0 e10).out hTy;have kz10:=zcQ e10 hTy;refine tE O (Qu.ef (d:=.sh 1 ([t10].map D.s)) (zi [.tmp 23] O O (.cons CellD.s .nil) O runUnderlying23 sizeOf9 zeroValue9 O O O O)) ?_;rintro _ _ ⟨rfl,rfl⟩;refine tE O (zL (f:=D.s) (l:=o) (l':=[t10]) (i:=1) O O O (SrcD.sh) und_23 infz_9 O O (by unfold maxLen;(try simp only[la,lc,ln,lm,lt',ld,ls,lr]);omega) (by (try simp only[la,lc,ln,lm,lt',ld,ls,lr]);omega)) ?_;rintro _ _ ⟨v11,rfl,rfl⟩;refine g' 3 O (m8 1 O ?_);exact tp4 f s10 v11 (o++[t10]) (sa O) w7 ⟨(any_or e10 (by decide)).imp id (by omega),(names7_go hst hy e10).symm.trans hf,by omega,by omega,hT10,by simp only[la,cT];omega⟩ (by omega)
 simp only[bX,bJ] at hc6;have hff:=hf.symm.trans (names7_stop (by have h:=hc6;rcases h with h | h;exact .inl (by simpa using h);exact .inr (by simpa using h)));refine g' 8 O (tX [1] O O (ga (.cons (ArgC.cv cS) .nil)) (zbZ g z (⟨#[41]⟩:ByteArray) (by omega) (by omega) hz) ?_);rintro _ _ ⟨s12,e12,rfl,rfl⟩;obtain ⟨ka12,kb12,kc12,hT12⟩:=(zaB e12).out hz;refine g' 9 O (m8 1 O (m0 (Mv.freeze (K':=[(0,dP g 0),(2,.sh 1 (o.map D.s)),(3,.sh 1 (o.map D.s)),(6,dP g 0),(7,dP g 0),(8,dP g 2),(9,dB z.b),(10,dB (!z.b)),(11,dB (!z.b)),(15,dB (!z.b&&!((z.is7 5 (⟨#[41]⟩:ByteArray))))),(26,dP g 0),(27,.tup []),(28,.sh 1 (o.map D.s))]) [.sl ov 1 9 (o.map D.s)] (H1:=[RB7 g s12]) (H1':=[RB7 g s12]) ⟨⟨_,O,mH⟩,⟨_,O,mI (j:=0) O O⟩,⟨_,O,mI (j:=0) O O⟩,⟨_,O,mH⟩,⟨_,O,mH⟩,⟨_,O,mH⟩,⟨_,O,mH⟩,⟨_,O,mH⟩,⟨_,O,mH⟩,⟨_,O,mH⟩,⟨_,O,mH⟩,⟨_,O,mH⟩,⟨_,O,mI (j:=0) O O⟩,trivial⟩ (.same .nil)) ?_));exact tR O (mN 1 O) ⟨o,⟨s12.l,s12.n,s12.b⟩,names7_of e1 hff e12,O,O⟩
end Lp
