import Derived.Test.YtheccaeefigajaaGreatDoorV47
set_option linter.unusedVariables false
namespace Lp
open Go
theorem yO:∀ c:Nat,c<256->hexI c=if 48<=c/\c<=57 then(c:Int)-48 else if 97<=c/\c<=102 then(c:Int)-87 else -1:=by decide+kernel
section
variable {b:ByteArray} {i:Nat} {o:List UInt8}
theorem nX {k:Nat}:(b.extract i b.size).extract k (b.extract i b.size).size=b.extract (i+k) b.size:=by
 rw[zcJ,zcJ,zcJ,zbt,wE]
theorem aCd {k:Nat}:(b.extract i b.size)[k]?=b[i+k]?:=by
 have e:∀ (s:ByteArray) (j:Nat),s[j]?=(bl8 s)[j]?:=λs j=>by
  by_cases h:j<s.size
  · have h':j<(bl8 s).length:=(by rw[zV];exact h);rw[getElem?_pos s j h,dO h'];rfl
  rw[getElem?_neg s j h,j5 (by rw[zV];omega)]
 rw[e,e,zcJ,zbt,uU]
theorem zeA {k:Nat} {v:UInt8} (h:b[i+k]?=some v):zG (b.extract i b.size) k=v.toNat:=(zM (by rw[aCd];exact h)).symm
theorem zfb {k:Nat} {v:UInt8} (h:b[k]?=some v):k<b.size:=by
 by_cases hk:k<b.size
 · exact hk
 rw[getElem?_neg b k hk] at h;cases h
def EInv (b:ByteArray) (i:Nat) (o:List UInt8):Prop:=UInv b (b.extract i b.size) o
theorem EInv.zero:EInv b 0 []:=by
 unfold EInv;have e:b.extract 0 b.size=b:=by rw[zcJ,j7,zeJ]
 rw[e];exact UInv.zero b
theorem EInv.raw {u:UInt8} (h:EInv b i o) (hu:b[i]?=some u) (h2:¬u.toNat=92):EInv b (i+1) (o++[u]):=by
 have:=UInv.raw h (by rw[aCd];exact hu) (λe=>h2 (by rw[e];rfl));rw[nX] at this;exact this
theorem escd {u v:UInt8} (hu:b[i]?=some u) (h92:u.toNat=92):(b.extract i b.size)[0]?=some 92:=by
 rw[aCd,uB,hu,show u=92 from jR.1 h92]
theorem EInv.esc {u:UInt8} {n:Nat} {t:ByteArray} (h:EInv b i o) (hu:b[i]?=some u) (h92:u.toNat=92) (ht:t=escT (b.extract (i+1) b.size)) (hn:n=escN (b.extract (i+1) b.size)) (h0:n≠0):EInv b (i+(1+n)) (o++bl8 t):=by
 have e:(b.extract i b.size).extract 1 (b.extract i b.size).size=b.extract (i+1) b.size:=nX;have:=UInv.esc h (escd (v:=0) hu h92) (by rw[e,<-hn];exact h0);rw[e,<-hn,<-ht,nX] at this;exact this
theorem zfP {v:UInt8} (hv:b[i+1]?=some v):0<(b.extract (i+1) b.size).size:=by have:=zfb hv;rw[cR];omega
theorem EInv.e1 {u v:UInt8} (h:EInv b i o) (hu:b[i]?=some u) (h92:u.toNat=92) (hv:b[i+1]?=some v) (hc:v.toNat=34\/v.toNat=92):EInv b (i+2) (o++[v]):=by
 have hb:zG (b.extract (i+1) b.size) 0=v.toNat:=zeA hv;obtain ⟨t1,t2⟩:=aTy (zfP hv) (by rw[hb];exact hc);have e:bl8 ((b.extract (i+1) b.size).extract 0 1)=[v]:=by
  rw[zcu (by have:=zfP hv;omega),zbt,j7];have hx:(bl8 (b.extract (i+1) b.size))[0]?=some v:=by
   rw[zcJ,zbt,uU];have e2:b[i+1]?=(bl8 b)[i+1]?:=by
    have hl:=zfb hv;rw[getElem?_pos b (i+1) hl,dO (by rw[zV];exact hl)];rfl
   rw[uB,<-e2];exact hv
  cases e3:bl8 (b.extract (i+1) b.size) with
  | nil=>rw[e3] at hx;cases hx
  | cons c r=>rw[e3] at hx;injection hx with hx;subst hx;rfl
 have:=EInv.esc h hu h92 t1 t2 (by omega);rw[e] at this;exact this
theorem EInv.e2 {u v:UInt8} (h:EInv b i o) (hu:b[i]?=some u) (h92:u.toNat=92) (hv:b[i+1]?=some v) (hn:¬(v.toNat=34\/v.toNat=92)) (hc:v.toNat=110):EInv b (i+2) (o++[10]):=by
 have hb:zG (b.extract (i+1) b.size) 0=v.toNat:=zeA hv;obtain ⟨t1,t2⟩:=aWk (zfP hv) (by rw[hb];exact hn) (by rw[hb];exact hc);have:=EInv.esc h hu h92 t1 t2 (by omega);have e:bl8 (⟨#[10]⟩:ByteArray)=[10]:=by decide
 rw[e] at this;exact this
theorem EInv.e3 {u v x y:UInt8} {p q:Nat} (h:EInv b i o) (hu:b[i]?=some u) (h92:u.toNat=92) (hv:b[i+1]?=some v) (hn:¬(v.toNat=34\/v.toNat=92)) (hn2:¬v.toNat=110) (hc:v.toNat=120) (hx:b[i+2]?=some x) (hy:b[i+3]?=some y) (hp:hexI x.toNat=(p:Int)) (hq:hexI y.toNat=(q:Int)):EInv b (i+4) (o++[UInt8.ofNat (p*16+q)]):=by
 have hb:zG (b.extract (i+1) b.size) 0=v.toNat:=zeA hv;have hb1:zG (b.extract (i+1) b.size) 1=x.toNat:=zeA hx;have hb2:zG (b.extract (i+1) b.size) 2=y.toNat:=zeA hy;have hl:=zfb hy;obtain ⟨t1,t2⟩:=aW6 (a:=p) (b:=q) (zfP hv) (by rw[hb];exact hn) (by rw[hb];exact hn2) ⟨by rw[hb];exact hc,by rw[cR];omega⟩ (by rw[hb1];exact hp) (by rw[hb2];exact hq);have:=EInv.esc h hu h92 t1 t2 (by omega);rw[zbt] at this;exact this
theorem EInv.bad {u:UInt8} (h:EInv b i o) (hu:b[i]?=some u) (h92:u.toNat=92) (h0:escN (b.extract (i+1) b.size)=0):unB b=none:=
 UInv.none h (escd (v:=0) hu h92) (by rw[nX];exact h0)
theorem EInv.n0 {u:UInt8} (h:EInv b i o) (hu:b[i]?=some u) (h92:u.toNat=92) (hl:¬i+1<b.size):unB b=none:=by
 refine h.bad hu h92 ?_;have e:b.extract (i+1) b.size=ByteArray.empty:=by rw[zcJ,jO.2 (by rw[zV];omega)];rfl
 exact(aWa e).2.symm
theorem EInv.n1 {u v:UInt8} (h:EInv b i o) (hu:b[i]?=some u) (h92:u.toNat=92) (hv:b[i+1]?=some v) (hn:¬(v.toNat=34\/v.toNat=92)) (hn2:¬v.toNat=110)
 (hc:¬(v.toNat=120/\i+3<b.size/\0<=hexI (zG b (i+2))/\0<=hexI (zG b (i+3)))):unB b=none:=by
 have hb:zG (b.extract (i+1) b.size) 0=v.toNat:=zeA hv;have hk:∀ k,zG (b.extract (i+1) b.size) k=zG b (i+1+k):=λk=>by unfold zG;rw[aCd]
 refine h.bad hu h92 ?_;exact(zgP (zfP hv) (by rw[hb];exact hn) (by rw[hb];exact hn2) (λe=>hc ⟨by rw[<-hb];exact e.1,by have:=e.2.1;rw[cR] at this;omega,by have:=e.2.2.1;rw[hk] at this;exact this,by have:=e.2.2.2;rw[hk] at this;exact this⟩)).2.symm
theorem EInv.done (h:EInv b i o) (hi:b.size<=i):unB b=some o:=UInv.done h (by rw[zcJ,jO.2 (by rw[zV];omega)];rfl)
end
theorem zem {s t:ByteArray} (h:zak t=s):2<=s.size/\zG s 0=34/\zG s (s.size-1)=34/\unB (s.extract 1 (s.size-1))=some (bl8 t):=by
 subst h;have hq:=zeZ t;have hl:bl8 (zak t)=34::(zT t 0++[34]):=by rw[iZ];rfl
 have hz:(zak t).size=(zT t 0).length+2:=by rw[<-zV,hl];simp
 have e:∀ (s:ByteArray) (j:Nat),s[j]?=(bl8 s)[j]?:=λs j=>by
  by_cases h:j<s.size
  · have h':j<(bl8 s).length:=(by rw[zV];exact h);rw[getElem?_pos s j h,dO h'];rfl
  rw[getElem?_neg s j h,j5 (by rw[zV];omega)]
 refine⟨by omega,?_,?_,?_⟩
 · unfold zG;rw[e,hl];rfl
 · unfold zG;rw[e,hl,hz];show ((34::(zT t 0++[34]))[(zT t 0).length+1]?.getD 0).toNat=34;rw[List.getElem?_cons_succ,uP (cU _),Nat.sub_self];rfl
 have em:(zak t).extract 1 ((zak t).size-1)=mkB (zT t 0):=by
  rw[zcu (by omega),hl,hz];congr 1;show ((34::(zT t 0++[34])).take ((zT t 0).length+1)).drop 1=_;rw[vO];show (zT t 0++[34]).take (zT t 0).length=_;rw[List.take_left]
 rw[em];unfold unB;rw[zah,zbt];have:=aBg t _ 0 rfl 0 [] (cU _);rw[jN] at this;rw[show (zT t 0).length=(zT t 0).length+0 from rfl,this];show some (bts t 0++[])=some (bl8 t);rw[jN];rfl
theorem zgi {s:ByteArray} (h:∀ t,zak t≠s):ByteArray.empty=unqT s/\false=zcm s:=by
 unfold unqT zcm;rw[kV h];exact⟨rfl,rfl⟩
theorem fP {s:ByteArray} (h:s.size<2):ByteArray.empty=unqT s/\false=zcm s:=zgi λt e=>by have:=(zem e).1;omega
theorem iA {s:ByteArray} {u:UInt8} (hu:s[0]?=some u) (h:¬u.toNat=34):ByteArray.empty=unqT s/\false=zcm s:=zgi λt e=>h (by rw[zM hu];exact(zem e).2.1)
theorem hY {s:ByteArray} {u:UInt8} (hu:s[s.size-1]?=some u) (h:¬u.toNat=34):ByteArray.empty=unqT s/\false=zcm s:=zgi λt e=>h (by rw[zM hu];exact(zem e).2.2.1)
theorem zfh {s:ByteArray} (h:unB (s.extract 1 (s.size-1))=none):ByteArray.empty=unqT s/\false=zcm s:=zgi λt e=>by rw[(zem e).2.2.2] at h;cases h
theorem aF2 {s:ByteArray} {o:List UInt8} (h:unB (s.extract 1 (s.size-1))=some o) (hq:¬zak (mkB o)=s):ByteArray.empty=unqT s/\false=zcm s:=zgi λt e=>by
 rw[(zem e).2.2.2] at h;injection h with h;rw[<-h,zeJ] at hq;exact hq e
theorem aG9 {s:ByteArray} {o:List UInt8} (hq:zak (mkB o)=s):mkB o=unqT s/\true=zcm s:=by
 unfold unqT zcm;rw[lF hq];exact⟨rfl,rfl⟩
end Lp
set_option linter.unusedSimpArgs false
set_option maxHeartbeats 4000000
set_option maxRecDepth 100000
namespace Lp
open Go Go.RowKit Go.Proofs
variable {ty:TypeId} {x:Operand}
theorem aD0 {a:Int} (h: -9223372036854775808<=a/\a<=9223372036854775807):∀ w,(convert 5 3 (.int .u8 a)).run Tryz.prog w=.ok (.int .i64 a) w:=λw=>by
 have e:IntKind.i64.wrap a=a:=by exact w64 (by omega)
 simp[convert,run_underlying (show Tryz.prog.underlying 5=some _ by kernel_rfl),run_underlying (show Tryz.prog.underlying 3=some _ by kernel_rfl),Conv.intToInt,e]
theorem eK {P:Program} {K:Kd} {H:List Hp} {t:TypeId} {a c:Nat} {lo hi:Option Operand} {b:ByteArray} {rl rh:Option Int} (hx:opS K x=some b) (hm:b.size<=maxLen) (hlo:bndD K lo=some rl) (hhi:bndD K hi=some rh) (ha:Bnd rl 0 a) (hb:Bnd rh b.size c)
 (ht:∀ w,(underlying t).run P w=.ok .string w) (hab:a<=c) (hbn:c<=b.size):Pu P (.slice t x lo hi none) ty K H (.s (b.extract a c)):=
 ⟨λρ w F hk hF _=>fB (zo ρ [x]) (opv1 ρ (hk.opS hx)) rfl rfl (ha.out (zcK hk hlo)) (hb.out (zcK hk hhi)) ht hab hbn ⟨rfl,rfl,dY (by rw[cR];omega) hm⟩⟩
theorem fW (s:ByteArray) (hs:s.size<=1000000000):
 CD Tryz.prog 105 [] [.s s] (isR (D.s (zak s))):=by
 refine tZ Tryz.func105 O O (λC=>?_);refine T.bd 0 O (λbd0=>?_);have sz0:s.size<=9223372036854775807:=bd0;have qe0:(⟨#[92,120]⟩:ByteArray).size=2:=rfl;have qe1:(⟨#[92]⟩:ByteArray).size=1:=rfl;have qe2:(⟨#[92,110]⟩:ByteArray).size=2:=rfl;have qe3:(⟨#[34]⟩:ByteArray).size=1:=rfl;have qe4:(⟨#[48,49,50,51,52,53,54,55,56,57,97,98,99,100,101,102]⟩:ByteArray).size=16:=rfl;refine g' 14 O (tE O (zcw O Tryz.runUnderlying9) ?_);rintro _ _ ⟨g1,rfl,rfl⟩;refine g' 3 O (tl2 (λ(a_:Nat) (b_:ByteArray)=>[(0,.s s),(2,.v (.string ByteArray.empty)),(10,dP g1 0),(3,.s b_)]) (λa_ b_=>[.it g1 s a_]) (λa_ b_=>(a_<=s.size)/\(b_.size<=1+5*a_)/\(34::zT s 0=b_.data.toList++zT s a_)) (λa_ b_=>s.size-a_) 0 (⟨#[34]⟩:ByteArray) O ⟨sk O,sk O,sk O,sc O cS,trivial⟩ w9 ⟨cX _,by decide,O⟩ ?_);rintro p o ⟨hp,hn,hq⟩;rcases c8 p s.size with hlt | hge
 · have hrune:=zaw hlt;have hrl:=zbQ s p;have hdw:=zae s p hlt;have hdp:=zF s p;refine g' 2 O (tE O (zbA (i:=0) O O hlt) ?_);rintro _ _ ⟨rfl,rfl⟩;refine g' 26 O (tP O (zK (a:=p) (c:=s.size) O O O (by first | rfl | (show _=_;omega)) (by first | rfl | (show _=_;omega)) Tryz.runUnderlying9 (by omega) (by omega)) (tE O (zcw O Tryz.runUnderlying9) ?_));rintro _ _ ⟨g2,rfl,rfl⟩;refine g' 3 O ?_;have hT:(s.extract p s.size).size=s.size-p:=(by simp);have hdq:decW (s.extract p s.size) 0=decW s p:=gJ;refine tl2 (λ(a_:Nat) (b_:Nat)=>[(0,.s s),(2,.v (.string ByteArray.empty)),(3,.s o),(4,dN p),(5,.v (.int .i32 ((decR s p:Nat):Int))),(10,dP g1 0),(11,.tup [dB true,dN p,.v (.int .i32 ((decR s p:Nat):Int))]),(12,dB true),(13,dN p),(14,.v (.int .i32 ((decR s p:Nat):Int))),(15,.s s),(16,dN p),(17,.s (s.extract p s.size)),(18,dP g2 0),(6,dN b_)]) (λa_ b_=>[.it g2 (s.extract p s.size) a_,.it g1 s (p+decW s p)]) (λa_ b_=>(a_=0\/(a_=decW s p/\b_=s.size-p))) (λa_ b_=>(s.extract p s.size).size+1-a_) 0 1 O ⟨sk O,sk O,sk O,sk O,sk O,sk O,sk O,sk O,sk O,sk O,sk O,sk O,sk O,sk O,sc O (Cv.eq O),trivial⟩ w9 (.inl O) ?_;rintro q w hqi;have hcase:(q=0/\q<(s.extract p s.size).size)\/(q=decW s p/\w=s.size-p/\q<(s.extract p s.size).size)\/(q=decW s p/\w=s.size-p/\(s.extract p s.size).size<=q):=(by omega);rcases hcase with ⟨hq0,hlt2⟩ | ⟨hq0,hw0,hlt2⟩ | ⟨hq0,hw0,hge2⟩
   · refine g' 2 O (tE O (zbA (i:=0) O O hlt2) ?_);rintro _ _ ⟨rfl,rfl⟩;refine g' 18 O (tP O (zcB O O (aD (by omega))) (g' 7 O (tP O (zw O Tryz.runUnderlying9) (g' 1 O (tP O (zci (c:=(((s.size:Nat):Int)-((p:Nat):Int))) O O (zp (by omega) (by omega))) (g' 3 O ?_))))));exact tp2 (q+decW (s.extract p s.size) q) (s.size-p) ⟨sk O,sk O,sk O,sk O,sk O,sk O,sk O,sk O,sk O,sk O,sk O,sk O,sk O,sk O,sc O (Cv.eq (aG dI (by omega))),trivial⟩ w9 (.inr ⟨by rw[hq0,dW];exact hdq,O⟩) (by have:=zF (s.extract p s.size) q;omega)
   · refine g' 2 O (tE O (zbA (i:=0) O O hlt2) ?_);rintro _ _ ⟨rfl,rfl⟩;refine g' 18 O (tP O (zcB O O (aE (by omega))) (g' 16 O (m8 (mQ 1 O) (T.sub [(0,.s s),(2,.v (.string ByteArray.empty)),(3,.s o),(4,dN p),(5,.v (.int .i32 ((decR s p:Nat):Int))),(6,dN (decW s p)),(7,dN q),(10,dP g1 0),(11,.tup [dB true,dN p,.v (.int .i32 ((decR s p:Nat):Int))]),(12,dB true),(13,dN p),(14,.v (.int .i32 ((decR s p:Nat):Int))),(15,.s s),(16,dN p),(17,.s (s.extract p s.size)),(18,dP g2 0),(19,.tup [dB true,dN q,.v (.int .i32 ((decR (s.extract p s.size) q:Nat):Int))]),(20,dB true),(21,dN q),(22,dN q),(23,dB true),(24,dN q)] ⟨sk O,sk O,sk O,sk O,sk O,sc O (Cv.eq (aG dI (by omega))),sk O,sk O,sk O,sk O,sk O,sk O,sk O,sk O,sk O,sk O,sk O,sk O,sk O,sk O,sk O,sk O,trivial⟩ ?_))));have hcz:(s.extract p (p+decW s p)).size=decW s p:=zbn hlt;have h16:(⟨#[48,49,50,51,52,53,54,55,56,57,97,98,99,100,101,102]⟩:ByteArray).size=16:=rfl;refine g' 5 O (tP O (zE (c:=((p+(decW s p):Nat):Int)) O O (zp (by omega) (by omega))) (tP O (zK (a:=p) (c:=p+(decW s p)) O O O (by first | rfl | (show _=_;omega)) (by first | rfl | (show _=_;omega)) Tryz.runUnderlying9 (by omega) (by omega)) (g' 9 O ?_)));refine tAnd 2 2 (c:=decide ((s.extract p (p+(decW s p)))≠(⟨#[239,191,189]⟩:ByteArray))) O O O O O O (λhb3 nx4=>?_) ?_
     · have hf5:=aF hb3;refine g' 2 O ?_;exact nx4 _ O O (kx 2 O O)
     refine g' 3 O ?_;refine tC O (λhc6=>?_) (λhc6=>?_)
     · simp only[bX,bJ] at hc6;refine T.keep [0,2,3,4,5,6,7,8,10,11,12,13,14,15,16,17,18,19,20,21,22,23,24,29,30,31,32,33,34,38,39,40,41,44] O ?_;obtain ⟨u1,hu1⟩:=zaM (s.extract p (p+(decW s p))) 0 (by omega);have hlu1:=u1.toNat_lt;refine tDr 19 [(45,.s o,none),(46,.s (o++(⟨#[92,120]⟩:ByteArray)),none),(47,.s (s.extract p (p+(decW s p))),none),(48,.v (.int .u8 ((u1.toNat:Nat):Int)),none),(49,.v (.int .u8 ((u1.toNat / 16:Nat):Int)),none),(50,.s (s.extract p (p+(decW s p))),none),(51,.v (.int .u8 ((u1.toNat:Nat):Int)),none),(52,.v (.int .u8 ((u1.toNat / 16:Nat):Int)),none),(53,.v (.int .u8 (((u1.toNat / 16)+1:Nat):Int)),none),(54,.s ((⟨#[48,49,50,51,52,53,54,55,56,57,97,98,99,100,101,102]⟩:ByteArray).extract (u1.toNat / 16) ((u1.toNat / 16)+1)),none),(55,.s ((o++(⟨#[92,120]⟩:ByteArray))++((⟨#[48,49,50,51,52,53,54,55,56,57,97,98,99,100,101,102]⟩:ByteArray).extract (u1.toNat / 16) ((u1.toNat / 16)+1))),none),(56,.s (s.extract p (p+(decW s p))),none),(57,.v (.int .u8 ((u1.toNat:Nat):Int)),none),(58,.v (.int .u8 ((u1.toNat % 16:Nat):Int)),none),(59,.s (s.extract p (p+(decW s p))),none),(60,.v (.int .u8 ((u1.toNat:Nat):Int)),none),(61,.v (.int .u8 ((u1.toNat % 16:Nat):Int)),none),(62,.v (.int .u8 (((u1.toNat % 16)+1:Nat):Int)),none),(63,.s ((⟨#[48,49,50,51,52,53,54,55,56,57,97,98,99,100,101,102]⟩:ByteArray).extract (u1.toNat % 16) ((u1.toNat % 16)+1)),none)] [.it g1 s (p+decW s p)] (Hn:=[.it g1 s (p+decW s p)]) mixed O O O O w9 O ⟨sa_p O O O (zk O),sa_p O O O (cA O O (by (try simp only[cQ]);(try simp only[cQ,cR]);omega)),sa_p O O O (zk O),sa_p O O O (zt (k:=0) O O Tryz.runUnderlying9 (by first | rfl | omega) hu1),sa_p O O O (zen (c:=((u1.toNat / 16:Nat):Int)) O O (by omega) (by rw[j9 (by omega)];exact zd3 (n:=u1.toNat / 16) (by omega))),sa_p O O O (zk O),sa_p O O O (zt (k:=0) O O Tryz.runUnderlying9 (by first | rfl | omega) hu1),sa_p O O O (zen (c:=((u1.toNat / 16:Nat):Int)) O O (by omega) (by rw[j9 (by omega)];exact zd3 (n:=u1.toNat / 16) (by omega))),sa_p O O O (zE (c:=(((u1.toNat / 16)+1:Nat):Int)) O O (zd3 (n:=(u1.toNat / 16)+1) (by omega))),sa_p O O O (eK (a:=u1.toNat / 16) (c:=(u1.toNat / 16)+1) O (by decide) O O (by first | rfl | (show _=_;omega)) (by first | rfl | (show _=_;omega)) Tryz.runUnderlying9 (by omega) (by omega)),sa_p O O O (cA O O (by (try simp only[cQ]);(try simp only[cQ,cR]);omega)),sa_p O O O (zk O),sa_p O O O (zt (k:=0) O O Tryz.runUnderlying9 (by first | rfl | omega) hu1),sa_p O O O (zgL (c:=((u1.toNat % 16:Nat):Int)) O O (by omega) (by rw[uR (by omega)];omega)),sa_p O O O (zk O),sa_p O O O (zt (k:=0) O O Tryz.runUnderlying9 (by first | rfl | omega) hu1),sa_p O O O (zgL (c:=((u1.toNat % 16:Nat):Int)) O O (by omega) (by rw[uR (by omega)];omega)),sa_p O O O (zE (c:=(((u1.toNat % 16)+1:Nat):Int)) O O (zd3 (n:=(u1.toNat % 16)+1) (by omega))),sa_p O O O (eK (a:=u1.toNat % 16) (c:=(u1.toNat % 16)+1) O (by decide) O O (by first | rfl | (show _=_;omega)) (by first | rfl | (show _=_;omega)) Tryz.runUnderlying9 (by omega) (by omega)),trivial⟩ ?_;refine tK O (tP O (cA O O (by (try simp only[cQ]);(try simp only[cQ,cR]);omega)) (g' 4 O ?_));exact tp2 (p+decW s p) (((o++(⟨#[92,120]⟩:ByteArray))++((⟨#[48,49,50,51,52,53,54,55,56,57,97,98,99,100,101,102]⟩:ByteArray).extract (u1.toNat / 16) ((u1.toNat / 16)+1)))++((⟨#[48,49,50,51,52,53,54,55,56,57,97,98,99,100,101,102]⟩:ByteArray).extract (u1.toNat % 16) ((u1.toNat % 16)+1))) (sa O) w9 ⟨by have:=zae s p hlt;omega,by have hcz:(s.extract p (p+decW s p)).size=decW s p:=zbn hlt;have hw1:=(aLm hlt (by have:=hc6.1;omega) hc6.2).1;(try simp only[cQ,cR]);omega,zcO hq hlt (rq_1 hlt (by have:=hc6.1;omega) hc6.2) (by have hb:=aKf hlt hu1;rw[<-hb];exact aRl (by omega) (by omega))⟩ (by have:=zF s p;omega)
     simp only[bX,bJ] at hc6;have hn1:¬(((decR s p:Nat):Int)=(65533:Int)/\¬s.extract p (p+decW s p)=(⟨#[239,191,189]⟩:ByteArray)):=(by intro e;rcases hc6 with h | h<;>first | exact h e.1 | exact h e.2 | exact e.2 h);refine g' 5 O ?_;refine tOr 2 2 (c:=decide (((decR s p:Nat):Int)=(92:Int))) O O O O O O (λhb7 nx8=>?_) ?_
     · have hf9:=aC hb7;refine g' 2 O ?_;exact nx8 _ O O (kx 2 O O)
     refine g' 3 O ?_;refine tC O (λhc10=>?_) (λhc10=>?_)
     · simp only[bX,bJ] at hc10;refine g' 2 O (tP O (cA O O (by (try simp only[cQ]);(try simp only[cQ,cR]);omega)) (g' 1 O (tP O (cA O O (by (try simp only[cQ]);(try simp only[cQ,cR]);omega)) (g' 4 O ?_))));exact tp2 (p+decW s p) ((o++(⟨#[92]⟩:ByteArray))++(s.extract p (p+(decW s p)))) (sa O) w9 ⟨by have:=zae s p hlt;omega,by have hcz:(s.extract p (p+decW s p)).size=decW s p:=zbn hlt;(try simp only[cQ,cR]);omega,zcO hq hlt (rq_2 hlt (by have:=hc10;omega)) (by rw[zeN,zeN,dM];rfl)⟩ (by have:=zF s p;omega)
     simp only[bX,bJ] at hc10;refine g' 7 O ?_;refine tD O (λhc11=>?_) (λhc11=>?_)
     · refine g' 2 O (tP O (cA O O (by (try simp only[cQ]);(try simp only[cQ,cR]);omega)) (g' 4 O ?_));exact tp2 (p+decW s p) (o++(⟨#[92,110]⟩:ByteArray)) (sa O) w9 ⟨by have:=zae s p hlt;omega,by have hcz:(s.extract p (p+decW s p)).size=decW s p:=zbn hlt;(try simp only[cQ,cR]);omega,zcO hq hlt (qX (by have:=hc10;omega) (by have:=hc11;omega)) (by rw[zeN])⟩ (by have:=zF s p;omega)
     refine g' 3 O (tP O (cA O O (by (try simp only[cQ]);(try simp only[cQ,cR]);omega)) (g' 4 O ?_));exact tp2 (p+decW s p) (o++(s.extract p (p+(decW s p)))) (sa O) w9 ⟨by have:=zae s p hlt;omega,by have hcz:(s.extract p (p+decW s p)).size=decW s p:=zbn hlt;(try simp only[cQ,cR]);omega,zcO hq hlt (rq_4 hlt (λe=>hn1 ⟨by have:=e.1;omega,e.2⟩) (by have:=hc10;omega) (by have:=hc11;omega)) (by rw[zeN];rfl)⟩ (by have:=zF s p;omega)
   refine g' 2 O (tP O (zco (i:=0) O O hge2) (g' 11 O (m8 (mQ 1 O) (T.sub [(0,.s s),(2,.v (.string ByteArray.empty)),(3,.s o),(4,dN p),(5,.v (.int .i32 ((decR s p:Nat):Int))),(6,dN (decW s p)),(10,dP g1 0),(11,.tup [dB true,dN p,.v (.int .i32 ((decR s p:Nat):Int))]),(12,dB true),(13,dN p),(14,.v (.int .i32 ((decR s p:Nat):Int))),(15,.s s),(16,dN p),(17,.s (s.extract p s.size)),(18,dP g2 0),(19,.tup [dB false]),(20,dB false)] ⟨sk O,sk O,sk O,sk O,sk O,sc O (Cv.eq (aG dI (by omega))),sk O,sk O,sk O,sk O,sk O,sk O,sk O,sk O,sk O,sk O,sk O,trivial⟩ ?_))));have hcz:(s.extract p (p+decW s p)).size=decW s p:=zbn hlt;have h16:(⟨#[48,49,50,51,52,53,54,55,56,57,97,98,99,100,101,102]⟩:ByteArray).size=16:=rfl;refine g' 5 O (tP O (zE (c:=((p+(decW s p):Nat):Int)) O O (zp (by omega) (by omega))) (tP O (zK (a:=p) (c:=p+(decW s p)) O O O (by first | rfl | (show _=_;omega)) (by first | rfl | (show _=_;omega)) Tryz.runUnderlying9 (by omega) (by omega)) (g' 9 O ?_)));refine tAnd 2 2 (c:=decide ((s.extract p (p+(decW s p)))≠(⟨#[239,191,189]⟩:ByteArray))) O O O O O O (λhb12 nx13=>?_) ?_
   · have hf14:=aF hb12;refine g' 2 O ?_;exact nx13 _ O O (kx 2 O O)
   refine g' 3 O ?_;refine tC O (λhc15=>?_) (λhc15=>?_)
   · simp only[bX,bJ] at hc15;refine T.keep [0,2,3,4,5,6,8,10,11,12,13,14,15,16,17,18,19,20,29,30,31,32,33,34,38,39,40,41,44] O ?_;obtain ⟨u1,hu1⟩:=zaM (s.extract p (p+(decW s p))) 0 (by omega);have hlu1:=u1.toNat_lt;refine tDr 19 [(45,.s o,none),(46,.s (o++(⟨#[92,120]⟩:ByteArray)),none),(47,.s (s.extract p (p+(decW s p))),none),(48,.v (.int .u8 ((u1.toNat:Nat):Int)),none),(49,.v (.int .u8 ((u1.toNat / 16:Nat):Int)),none),(50,.s (s.extract p (p+(decW s p))),none),(51,.v (.int .u8 ((u1.toNat:Nat):Int)),none),(52,.v (.int .u8 ((u1.toNat / 16:Nat):Int)),none),(53,.v (.int .u8 (((u1.toNat / 16)+1:Nat):Int)),none),(54,.s ((⟨#[48,49,50,51,52,53,54,55,56,57,97,98,99,100,101,102]⟩:ByteArray).extract (u1.toNat / 16) ((u1.toNat / 16)+1)),none),(55,.s ((o++(⟨#[92,120]⟩:ByteArray))++((⟨#[48,49,50,51,52,53,54,55,56,57,97,98,99,100,101,102]⟩:ByteArray).extract (u1.toNat / 16) ((u1.toNat / 16)+1))),none),(56,.s (s.extract p (p+(decW s p))),none),(57,.v (.int .u8 ((u1.toNat:Nat):Int)),none),(58,.v (.int .u8 ((u1.toNat % 16:Nat):Int)),none),(59,.s (s.extract p (p+(decW s p))),none),(60,.v (.int .u8 ((u1.toNat:Nat):Int)),none),(61,.v (.int .u8 ((u1.toNat % 16:Nat):Int)),none),(62,.v (.int .u8 (((u1.toNat % 16)+1:Nat):Int)),none),(63,.s ((⟨#[48,49,50,51,52,53,54,55,56,57,97,98,99,100,101,102]⟩:ByteArray).extract (u1.toNat % 16) ((u1.toNat % 16)+1)),none)] [.it g1 s (p+decW s p)] (Hn:=[.it g1 s (p+decW s p)]) mixed O O O O w9 O ⟨sa_p O O O (zk O),sa_p O O O (cA O O (by (try simp only[cQ]);(try simp only[cQ,cR]);omega)),sa_p O O O (zk O),sa_p O O O (zt (k:=0) O O Tryz.runUnderlying9 (by first | rfl | omega) hu1),sa_p O O O (zen (c:=((u1.toNat / 16:Nat):Int)) O O (by omega) (by rw[j9 (by omega)];exact zd3 (n:=u1.toNat / 16) (by omega))),sa_p O O O (zk O),sa_p O O O (zt (k:=0) O O Tryz.runUnderlying9 (by first | rfl | omega) hu1),sa_p O O O (zen (c:=((u1.toNat / 16:Nat):Int)) O O (by omega) (by rw[j9 (by omega)];exact zd3 (n:=u1.toNat / 16) (by omega))),sa_p O O O (zE (c:=(((u1.toNat / 16)+1:Nat):Int)) O O (zd3 (n:=(u1.toNat / 16)+1) (by omega))),sa_p O O O (eK (a:=u1.toNat / 16) (c:=(u1.toNat / 16)+1) O (by decide) O O (by first | rfl | (show _=_;omega)) (by first | rfl | (show _=_;omega)) Tryz.runUnderlying9 (by omega) (by omega)),sa_p O O O (cA O O (by (try simp only[cQ]);(try simp only[cQ,cR]);omega)),sa_p O O O (zk O),sa_p O O O (zt (k:=0) O O Tryz.runUnderlying9 (by first | rfl | omega) hu1),sa_p O O O (zgL (c:=((u1.toNat % 16:Nat):Int)) O O (by omega) (by rw[uR (by omega)];omega)),sa_p O O O (zk O),sa_p O O O (zt (k:=0) O O Tryz.runUnderlying9 (by first | rfl | omega) hu1),sa_p O O O (zgL (c:=((u1.toNat % 16:Nat):Int)) O O (by omega) (by rw[uR (by omega)];omega)),sa_p O O O (zE (c:=(((u1.toNat % 16)+1:Nat):Int)) O O (zd3 (n:=(u1.toNat % 16)+1) (by omega))),sa_p O O O (eK (a:=u1.toNat % 16) (c:=(u1.toNat % 16)+1) O (by decide) O O (by first | rfl | (show _=_;omega)) (by first | rfl | (show _=_;omega)) Tryz.runUnderlying9 (by omega) (by omega)),trivial⟩ ?_;refine tK O (tP O (cA O O (by (try simp only[cQ]);(try simp only[cQ,cR]);omega)) (g' 4 O ?_));exact tp2 (p+decW s p) (((o++(⟨#[92,120]⟩:ByteArray))++((⟨#[48,49,50,51,52,53,54,55,56,57,97,98,99,100,101,102]⟩:ByteArray).extract (u1.toNat / 16) ((u1.toNat / 16)+1)))++((⟨#[48,49,50,51,52,53,54,55,56,57,97,98,99,100,101,102]⟩:ByteArray).extract (u1.toNat % 16) ((u1.toNat % 16)+1))) (sa O) w9 ⟨by have:=zae s p hlt;omega,by have hcz:(s.extract p (p+decW s p)).size=decW s p:=zbn hlt;have hw1:=(aLm hlt (by have:=hc15.1;omega) hc15.2).1;(try simp only[cQ,cR]);omega,zcO hq hlt (rq_1 hlt (by have:=hc15.1;omega) hc15.2) (by have hb:=aKf hlt hu1;rw[<-hb];exact aRl (by omega) (by omega))⟩ (by have:=zF s p;omega)
   simp only[bX,bJ] at hc15;have hn1:¬(((decR s p:Nat):Int)=(65533:Int)/\¬s.extract p (p+decW s p)=(⟨#[239,191,189]⟩:ByteArray)):=(by intro e;rcases hc15 with h | h<;>first | exact h e.1 | exact h e.2 | exact e.2 h);refine g' 5 O ?_;refine tOr 2 2 (c:=decide (((decR s p:Nat):Int)=(92:Int))) O O O O O O (λhb16 nx17=>?_) ?_
   · have hf18:=aC hb16;refine g' 2 O ?_;exact nx17 _ O O (kx 2 O O)
   refine g' 3 O ?_;refine tC O (λhc19=>?_) (λhc19=>?_)
   · simp only[bX,bJ] at hc19;refine g' 2 O (tP O (cA O O (by (try simp only[cQ]);(try simp only[cQ,cR]);omega)) (g' 1 O (tP O (cA O O (by (try simp only[cQ]);(try simp only[cQ,cR]);omega)) (g' 4 O ?_))));exact tp2 (p+decW s p) ((o++(⟨#[92]⟩:ByteArray))++(s.extract p (p+(decW s p)))) (sa O) w9 ⟨by have:=zae s p hlt;omega,by have hcz:(s.extract p (p+decW s p)).size=decW s p:=zbn hlt;(try simp only[cQ,cR]);omega,zcO hq hlt (rq_2 hlt (by have:=hc19;omega)) (by rw[zeN,zeN,dM];rfl)⟩ (by have:=zF s p;omega)
   simp only[bX,bJ] at hc19;refine g' 7 O ?_;refine tD O (λhc20=>?_) (λhc20=>?_)
   · refine g' 2 O (tP O (cA O O (by (try simp only[cQ]);(try simp only[cQ,cR]);omega)) (g' 4 O ?_));exact tp2 (p+decW s p) (o++(⟨#[92,110]⟩:ByteArray)) (sa O) w9 ⟨by have:=zae s p hlt;omega,by have hcz:(s.extract p (p+decW s p)).size=decW s p:=zbn hlt;(try simp only[cQ,cR]);omega,zcO hq hlt (qX (by have:=hc19;omega) (by have:=hc20;omega)) (by rw[zeN])⟩ (by have:=zF s p;omega)
   refine g' 3 O (tP O (cA O O (by (try simp only[cQ]);(try simp only[cQ,cR]);omega)) (g' 4 O ?_));exact tp2 (p+decW s p) (o++(s.extract p (p+(decW s p)))) (sa O) w9 ⟨by have:=zae s p hlt;omega,by have hcz:(s.extract p (p+decW s p)).size=decW s p:=zbn hlt;(try simp only[cQ,cR]);omega,zcO hq hlt (rq_4 hlt (λe=>hn1 ⟨by have:=e.1;omega,e.2⟩) (by have:=hc19;omega) (by have:=hc20;omega)) (by rw[zeN];rfl)⟩ (by have:=zF s p;omega)
 have hrune:=zaG hge;refine g' 2 O (tP O (zco (i:=0) O O hge) (g' 13 O (tP O (cA O O (by (try simp only[cQ]);(try simp only[cQ,cR]);omega)) (g' 4 O ?_))));exact tRs O Tryz.results105 (.cons (zd (zc O) (Cv.eq (aG D.s (by exact aH8 hq hge)))) .nil) O mO ⟨O,O⟩
theorem aWd:∀ xs:List UInt8,strOfNums (xs.map λu=>((u.toNat:Nat):Int))=mkB xs:=λxs=>by
 unfold strOfNums mkB;congr 1;rw[uN];have e:((λn:Int=>UInt8.ofNat n.toNat) ∘ λu:UInt8=>((u.toNat:Nat):Int))=id:=by funext u;simp
 first | rw[e,List.map_id] | (show List.toArray _=_;congr 1;exact(aG (List.map · xs) e).trans (List.map_id _))
theorem aN5 {P:Program} {K:Kd} {H:List Hp} {t1 t2 e:TypeId} {j:Nat} {v:Value} {T:TypeId} {xs:List UInt8} (hx:opO K x=some v) (hm:nth H j=some (.sl v 1 T (xs.map dU8))) (hs:P.underlying t1=some (.slice e)) (he:P.underlying e=some (.int .u8)) (hd:P.underlying t2=some .string) (hz:xs.length<=maxLen):
 Pu P (.convert t1 t2 x) ty K H (.s (mkB xs)):=by
 by_cases hn:xs=[]
 · subst hn;refine⟨λρ w F hk _ hH=>?_⟩;obtain ⟨us,hr,ho⟩:=hH _ (zau hm);have hu:us=[]:=hr;subst hu;have hev:ev ρ x=v:=hk.opO hx;rcases ho.1.2 with ⟨hv,_⟩ | ⟨g,cap,cur,hv,_⟩
   · have hcv:=run_convert_bytes_nil (P:=P) w t1 e hs he 0 0 t2 hd;exact wV (v:=.string ByteArray.empty) (w':=w) (by
      have h1:=zbY hcv;simpa [execOp,zaq,hev,hv] using h1) ⟨rfl,rfl,by show (0:Nat)<=_;exact cX _⟩
   have hcv:=run_convert_bytes_arg (P:=P) w t1 e hs he g 0 0 cap [] O (λi hi=>aH hi (by omega)) t2 hd;exact wV (v:=.string (strOfNums [])) (w':=w) (by
    have h1:=zbY hcv;simpa [execOp,zaq,hev,hv] using h1) ⟨rfl,rfl,by show (0:Nat)<=_;exact cX _⟩
 have hm':nth H j=some (.sl v 1 T ((xs.map λu=>((u.toNat:Nat):Int)).map dB8)):=by rw[uN];exact hm
 have h:=aAp (P:=P) (ty:=ty) (t1:=t1) (t2:=t2) hx hm' (by simpa using hn) hs he hd;rw[aWd] at h;exact h.cv (Cv.str (by rw[zah];exact hz))
theorem aZ7 (c:Nat) (hc:c<256):
 CD Tryz.prog 185 [] [.v (.int .u8 ((c:Nat):Int))] (isR (dI (hexI c))):=by
 refine tZ Tryz.func185 O O (λC=>?_);refine g' 12 O ?_;refine tAnd 2 2 (c:=decide (((c:Nat):Int)<=(57:Int))) O O O O O O (λhb1 nx2=>?_) ?_
 · have hf3:=aF hb1;refine g' 2 O ?_;exact nx2 _ O O (kx 2 O O)
 refine g' 3 O ?_;refine tC O (λhc4=>?_) (λhc4=>?_)
 · simp only[bX,bJ] at hc4;refine g' 3 O (tP O (zci (c:=((c-48:Nat):Int)) O O (by rw[show ((c:Nat):Int)-(48:Int)=((c-48:Nat):Int) by omega];exact zd3 (n:=c-48) (by omega))) (tP O (za3 O (c:=((c-48:Nat):Int)) (aD0 (by omega))) (g' 6 O ?_)));exact tRs O Tryz.results185 (.cons (zd (zc O) (Cv.eq (aG (λn=>D.v (.int .i64 n)) (by rw[yO c hc];(repeat (any_goals split))<;>omega)))) .nil) O mO ⟨O,O⟩
 simp only[bX,bJ] at hc4;refine g' 5 O ?_;refine tAnd 2 2 (c:=decide (((c:Nat):Int)<=(102:Int))) O O O O O O (λhb5 nx6=>?_) ?_
 · have hf7:=aF hb5;refine g' 2 O ?_;exact nx6 _ O O (kx 2 O O)
 refine g' 3 O ?_;refine tC O (λhc8=>?_) (λhc8=>?_)
 · simp only[bX,bJ] at hc8;refine g' 3 O (tP O (zci (c:=((c-97:Nat):Int)) O O (by rw[show ((c:Nat):Int)-(97:Int)=((c-97:Nat):Int) by omega];exact zd3 (n:=c-97) (by omega))) (tP O (za3 O (c:=((c-97:Nat):Int)) (aD0 (by omega))) (tP O (zE (c:=(((c-97)+10:Nat):Int)) O O (zp (by omega) (by omega))) (g' 6 O ?_))));exact tRs O Tryz.results185 (.cons (zd (zc O) (Cv.eq (aG (λn=>D.v (.int .i64 n)) (by rw[yO c hc];(repeat (any_goals split))<;>omega)))) .nil) O mO ⟨O,O⟩
 simp only[bX,bJ] at hc8;refine g' 9 O ?_;exact tRs O Tryz.results185 (.cons (zd (zc O) (Cv.eq (aG (λn=>D.v (.int .i64 n)) (by rw[yO c hc];(repeat (any_goals split))<;>omega)))) .nil) O mO ⟨O,O⟩
end Lp
namespace Lp
open Go
section
variable {s:ByteArray} {i n v:Nat} {u:UInt8}
theorem aBn (h:s[i]?=some u):bts s i=u::bts s (i+1):=by
 have hp:=zfb h;rw[zaN hp,show s.get! i=u from jR.1 (by rw[<-zdj hp,zM h])]
theorem aC9 (h:s[i]?=some u):(bl8 s)[i]?=some u:=by
 have hp:=zfb h;rw[getElem?_pos s i hp] at h;injection h with h;rw[dO (by rw[zV];exact hp),<-h];rfl
def RqI (s:ByteArray) (i:Nat):Prop:=1<=i/\i<=s.size+1/\zdv (bts s 1)=(zdv (bts s i)).map (· +(i-1))
theorem RqI.zero (hz:0<s.size):RqI s 1:=⟨cU _,by omega,by cases zdv (bts s 1)<;>rfl⟩
theorem RqI.esc (h:RqI s i) (hu:s[i]?=some u) (h92:u.toNat=92):RqI s (i+2):=by
 obtain ⟨h1,h2,h3⟩:=h;have hl:=zfb hu;refine⟨by omega,by omega,?_⟩;rw[h3,aBn hu,show u=92 from jR.1 h92,rP,zbV,eO];congr 1;funext j;omega
theorem RqI.raw (h:RqI s i) (hu:s[i]?=some u) (h92:¬u.toNat=92) (h34:¬u.toNat=34):RqI s (i+1):=by
 obtain ⟨h1,h2,h3⟩:=h;have hl:=zfb hu;refine⟨by omega,by omega,?_⟩;rw[h3,aBn hu,iM (λe=>h92 (by rw[e];rfl)) (λe=>h34 (by rw[e];rfl)),eO];congr 1;funext j;omega
theorem kS (hz:0<s.size) (h0:decR s 0=34):zal true (bl8 s)=(zdv (bts s 1)).map (· +1):=by
 have hne:=aHv hz;have hc:∃ t,bl8 s=34::t:=by
  have h0':(decL (bl8 s)).1=34:=by rw[dec0];exact h0
  cases e:bl8 s with
  | nil=>exact aH e hne
  | cons b t=>
   rw[e] at h0';by_cases hb:b.toNat<128
   · rw[zai hb] at h0';have h0':b.toNat=34:=h0';exact⟨t,by rw[show b=34 from jR.1 h0']⟩
   have:=(eJ (t:=t) hb).1;omega
 obtain ⟨t,ht⟩:=hc;have hd:decL (bl8 s)=(34,1):=by rw[ht];exact zai (by decide)
 have e1:(bl8 s).drop 1=bts s 1:=rfl;rw[zbF hne,aB rfl,hd,e1,xS _ _ rfl]
theorem RqI.found (h:RqI s i) (hz:0<s.size) (h0:decR s 0=34) (hu:s[i]?=some u) (h34:u.toNat=34):zal true (bl8 s)=some i:=by
 obtain ⟨h1,h2,h3⟩:=h;rw[kS hz h0,h3,aBn hu,show u=34 from jR.1 h34,rF];show some (0+(i-1)+1)=some i;congr 1;omega
theorem RqI.none (h:RqI s i) (hz:0<s.size) (h0:decR s 0=34) (hi:s.size<=i):strT (bl8 s)=(zbm,0):=by
 obtain ⟨h1,h2,h3⟩:=h;unfold strT;rw[kS hz h0,h3,zdm hi];rfl
def VInv (s:ByteArray) (n v:Nat):Prop:=n<=s.size/\runL isD (bl8 s)=n+runL isD (bts s n)/\v=digV ((bl8 s).take (min n 13))/\∀ b∈(bl8 s).take n,48<=b.toNat/\b.toNat<=57
theorem VInv.zero:VInv s 0 0:=⟨cX _,by rw[dW];rfl,rfl,λb hb=>aH hb (by simp)⟩
theorem VInv.lt (h:VInv s n v):v<10000000000000:=by
 rw[h.2.2.1];refine aY3 (λb hb=>?_) (by rw[d6];omega);have:b∈(bl8 s).take n:=by
  rw[List.mem_take_iff_getElem] at hb ⊢;obtain ⟨k,hk,e⟩:=hb;exact⟨k,by omega,e⟩
 exact h.2.2.2 b this
theorem VInv.step (h:VInv s n v) (hu:s[n]?=some u) (hd:48<=u.toNat/\u.toNat<=57):n+1<=s.size/\runL isD (bl8 s)=(n+1)+runL isD (bts s (n+1))/\∀ b∈(bl8 s).take (n+1),48<=b.toNat/\b.toNat<=57:=by
 have hl:=zfb hu;refine⟨hl,aMt hu hd h.2.1 hl,λb hb=>?_⟩;rw[za9 (aC9 hu)] at hb;rcases jV.1 hb with hb | hb
 · exact h.2.2.2 b hb
 rw[jJ.1 hb];exact hd
theorem VInv.next (h:VInv s n v) (hu:s[n]?=some u) (hd:48<=u.toNat/\u.toNat<=57) (hn:n<13):VInv s (n+1) (v*10+(u.toNat-48)):=by
 obtain ⟨h1,h2,h3⟩:=h.step hu hd;refine⟨h1,h2,?_,h3⟩;rw[vG (by omega),za9 (aC9 hu),qM,nV];have e:=h.2.2.1;rw[vG (by omega),qM] at e;rw[<-e];show _=10*v+(u.toNat-48);omega
theorem VInv.more (h:VInv s n v) (hu:s[n]?=some u) (hd:48<=u.toNat/\u.toNat<=57) (hn:¬n<13):VInv s (n+1) v:=by
 obtain ⟨h1,h2,h3⟩:=h.step hu hd;refine⟨h1,h2,?_,h3⟩;have e:=h.2.2.1;rw[Nat.min_eq_right (by omega)] at e ⊢;exact e
theorem VInv.stop (h:VInv s n v) (hu:s[n]?=some u) (hd:¬(48<=u.toNat/\u.toNat<=57)):nD s=n:=by
 have hf:isD ((decL (bts s n)).1:Int)=false:=by
  rw[aBn hu,<-Bool.not_eq_true];intro e;have h2:zD ((decL (u::bts s (n+1))).1:Int)=2:=by
   have h':inK [2] ((decL (u::bts s (n+1))).1:Int)=true:=e;unfold inK at h';simp only[jL,jX,dQ,aI] at h';exact h'.symm
  have hr:48<=(decL (u::bts s (n+1))).1/\(decL (u::bts s (n+1))).1<=57:=by unfold zD at h2;(repeat (split at h2))<;>omega
  by_cases hb:u.toNat<128
  · rw[zai hb] at hr;exact hd hr
  have:=(eJ (t:=bts s (n+1)) hb).1;omega
 show runL isD (bl8 s)=n;rw[h.2.1,zdc hf];rfl
theorem VInv.fin (h:VInv s n v) (hn:s.size<=n):nD s=n:=by
 show runL isD (bl8 s)=n;rw[h.2.1,zdm hn,zcH];rfl
theorem VInv.val (h:VInv s n v) (hd:nD s=n) (hn:n<=13):v=vD s:=by
 have e:=h.2.2.1;rw[vG hn] at e;rw[e];show _=digV ((bl8 s).take (nD s));rw[hd]
theorem VInv.all (h:VInv s n v) (hd:nD s=n):nA s=n+runL isLD (bl8 (s.extract n s.size)):=by
 have e:bl8 s=(bl8 s).take n++(bl8 s).drop n:=(d8 n _).symm;have hn:=h.1;show runL isLD (bl8 s)=_
 conv=>lhs;rw[e]
 rw[zel aIl _ _ h.2.2.2,d6,zV,vG hn,zcJ,zbt]
def WI (s:ByteArray) (i:Nat) (o:List TokD):Prop:=zQ (bl8 s) 0=(zQ (bts s i) i).map (o++·)
theorem WI.zero:WI s 0 []:=by
 unfold WI;show zQ (bl8 s) 0=(zQ (bl8 s) 0).map _;cases zQ (bl8 s) 0<;>rfl
theorem aEx {b:UInt8} {t:List UInt8} (h:zD ((decL (b::t)).1:Int)=3):b=32\/b=9\/b=10:=by
 have hr:(decL (b::t)).1=32\/(decL (b::t)).1=9\/(decL (b::t)).1=10:=by unfold zD at h;(repeat (split at h))<;>omega
 by_cases hb:b.toNat<128
 · rw[zai hb] at hr;have hr:b.toNat=32\/b.toNat=9\/b.toNat=10:=hr;rcases hr with h | h | h
   · exact .inl (jR.1 h)
   · exact .inr (.inl (jR.1 h))
   exact .inr (.inr (jR.1 h))
 have:=(eJ (t:=t) hb).1;omega
theorem aA6:(decR (s.extract i s.size) 0)=(decL (bts s i)).1:=by rw[eS,uB,zbs]
theorem WI.blank {o:List TokD} (h:WI s i o) (hi:i<s.size) (hk:zD ((decR (s.extract i s.size) 0:Nat):Int)=3):WI s (i+1) o:=by
 unfold WI at*;rw[aA6,zaN hi] at hk;rw[h,zaN hi];have e:s.get! i::bts s (i+1)=[s.get! i]++bts s (i+1):=rfl;rw[e,gN (by intro b hb;rw[jJ.1 hb];exact aEx hk)];rfl
theorem aBv {l:List UInt8} (hk:¬zD ((decL l).1:Int)=3):runL isB l=0:=by
 refine zdc ?_;show inK [3] _=false;unfold inK;simp only[jL,jX,dQ,aJ];exact λe=>hk e.symm
theorem WI.next {o:List TokD} (h:WI s i o) (hi:i<s.size) (hk:¬zD ((decR (s.extract i s.size) 0:Nat):Int)=3) (h0:¬(zg (bl8 (s.extract i s.size))).2=0):WI s (i+(zg (bl8 (s.extract i s.size))).2) (o++[(zg (bl8 (s.extract i s.size))).1.put i]):=by
 have e1:bl8 (s.extract i s.size)=bts s i:=za5;unfold WI at*;rw[aA6] at hk;rw[e1] at h0 ⊢;have hb:=aBv hk;have hw:zQ (bts s i) i=zbx (bts s i).length (bts s i) i:=by unfold zQ;rw[hb];rfl
 rw[h,hw,zaT (zdz hi) h0 (cU _),zbV];cases zQ (bts s (i+(zg (bts s i)).2)) (i+(zg (bts s i)).2)<;>simp
theorem WI.bad {o:List TokD} (h:WI s i o) (hi:i<s.size) (hk:¬zD ((decR (s.extract i s.size) 0:Nat):Int)=3) (h0:(zg (bl8 (s.extract i s.size))).2=0):zQ (bl8 s) 0=none:=by
 have e1:bl8 (s.extract i s.size)=bts s i:=za5;unfold WI at h;rw[aA6] at hk;rw[e1] at h0;have hb:=aBv hk;have hw:zQ (bts s i) i=zbx (bts s i).length (bts s i) i:=by unfold zQ;rw[hb];rfl
 rw[h,hw,zbJ (zdz hi) h0];rfl
theorem WI.done {o:List TokD} (h:WI s i o) (hi:s.size<=i):zQ (bl8 s) 0=some o:=by
 unfold WI at h;have e:zQ [] i=some []:=by unfold zQ;rw[zcH];exact zaP
 rw[h,zdm hi,e];simp
def SgI (s:ByteArray) (n:Nat):Prop:=n<=2/\n<=s.size/\(n<2->2<=s.size->hasN zY (s.extract 0 2)=false)/\(n<1->1<=s.size->hasN zY (s.extract 0 1)=false)
theorem SgI.zero (hz:0<s.size):SgI s (min 2 s.size):=⟨by omega,by omega,λh1 h2=>by omega,λh1 h2=>by omega⟩
theorem SgI.next (h:SgI s n) (h0:0<n) (hf:hasN zY (s.extract 0 n)=false):SgI s (n-1):=by
 obtain ⟨h1,h2,h3,h4⟩:=h;rcases (show n=1\/n=2 by omega) with rfl | rfl
 · exact⟨by omega,by omega,λ_=>h3 (by omega),λ_ _=>hf⟩
 exact⟨by omega,by omega,λ_ _=>hf,λh _=>by omega⟩
theorem SgI.yes (h:SgI s n) (h0:0<n) (ht:hasN zY (s.extract 0 n)=true):zbS (bl8 s)=(⟨5,0,s.extract 0 n⟩,n):=by
 obtain ⟨h1,h2,h3,h4⟩:=h;rw[sW,zV];have e:∀ k,k<=s.size->mkB ((bl8 s).take k)=s.extract 0 k:=λk hk=>(zcv hk).symm
 rcases (show n=1\/n=2 by omega) with rfl | rfl
 · have hn:¬(2<=s.size/\hasN zY (mkB ((bl8 s).take 2))=true):=λhh=>by
    have:=h3 (by omega) hh.1;rw[e 2 hh.1,this] at hh;exact aH hh.2 (by simp)
   rw[aA hn,aB ⟨h2,by rw[e 1 h2];exact ht⟩,e 1 h2]
 rw[aB ⟨h2,by rw[e 2 h2];exact ht⟩,e 2 h2]
theorem SgI.no (h:SgI s n) (h0:¬0<n):zbS (bl8 s)=(zbm,0):=by
 obtain ⟨h1,h2,h3,h4⟩:=h;rw[sW,zV];have e:∀ k,k<=s.size->mkB ((bl8 s).take k)=s.extract 0 k:=λk hk=>(zcv hk).symm
 have n2:¬(2<=s.size/\hasN zY (mkB ((bl8 s).take 2))=true):=λhh=>by
  have:=h3 (by omega) hh.1;rw[e 2 hh.1,this] at hh;exact aH hh.2 (by simp)
 have n1:¬(1<=s.size/\hasN zY (mkB ((bl8 s).take 1))=true):=λhh=>by
  have:=h4 (by omega) hh.1;rw[e 1 hh.1,this] at hh;exact aH hh.2 (by simp)
 rw[aA n2,aA n1]
theorem a1i {r:Int} (h:¬zD r=1/\¬zD r=2):isLD r=false:=by
 rw[<-Bool.not_eq_true,zev];omega
end
end Lp
