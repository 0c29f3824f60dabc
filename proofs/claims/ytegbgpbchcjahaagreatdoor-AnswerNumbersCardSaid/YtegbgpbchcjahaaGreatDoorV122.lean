import Derived.Test.YtegbgpbchcjahaaGreatDoorPUn7
set_option linter.all false
namespace Lp
open Go
section
variable {s:Ba} {i n v:Nat} {u:UInt8}
def aYb (h:s[i]?=some u):bts s i=u::bts s (i+1):=by
 have hp:=aHv h;rw[za6 hp,show s.get! i=u from uP.1 (by rw[<-gS hp,rK h])]
def aBa (h:s[i]?=some u):(bl8 s)[i]?=some u:=by
 have hp:=aHv h;rw[getElem?_pos s i hp] at h;injection h with h;rw[dL (by rw[zar];exact hp),<-h];rfl
def VInv (s:Ba) (n v:Nat):Prop:=n<=s.size/\runL isD (bl8 s)=n+runL isD (bts s n)/\v=digV ((bl8 s).take (min n 13))/\∀ b∈(bl8 s).take n,48<=b.toNat/\b.toNat<=57
def VInv.zero:VInv s 0 0:=⟨cT _,by rw[dS];rfl,rfl,λb hb=>aH hb (by simp)⟩
def VInv.lt (h:VInv s n v):v<10000000000000:=by
 rw[h.2.2.1];refine aYa (λb hb=>?_) (by rw[cY];omega);have:b∈(bl8 s).take n:=by
  rw[List.mem_take_iff_getElem] at hb ⊢;obtain ⟨k,hk,e⟩:=hb;exact⟨k,by omega,e⟩
 exact h.2.2.2 b this
def VInv.step (h:VInv s n v) (hu:s[n]?=some u) (hd:48<=u.toNat/\u.toNat<=57):n+1<=s.size/\runL isD (bl8 s)=(n+1)+runL isD (bts s (n+1))/\∀ b∈(bl8 s).take (n+1),48<=b.toNat/\b.toNat<=57:=by
 have hl:=aHv hu;refine⟨hl,aOc hu hd h.2.1 hl,λb hb=>?_⟩;rw[zS (aBa hu)] at hb;rcases jO.1 hb with hb | hb
 · exact h.2.2.2 b hb
 rw[dQ.1 hb];exact hd
def VInv.next (h:VInv s n v) (hu:s[n]?=some u) (hd:48<=u.toNat/\u.toNat<=57) (hn:n<13):VInv s (n+1) (v*10+(u.toNat-48)):=by
 obtain ⟨h1,h2,h3⟩:=h.step hu hd;refine⟨h1,h2,?_,h3⟩;rw[uO (by omega),zS (aBa hu),oX,qZ];have e:=h.2.2.1;rw[uO (by omega),oX] at e;rw[<-e];show _=10*v+(u.toNat-48);omega
def VInv.more (h:VInv s n v) (hu:s[n]?=some u) (hd:48<=u.toNat/\u.toNat<=57) (hn:¬n<13):VInv s (n+1) v:=by
 obtain ⟨h1,h2,h3⟩:=h.step hu hd;refine⟨h1,h2,?_,h3⟩;have e:=h.2.2.1;rw[Nat.min_eq_right (by omega)] at e ⊢;exact e
def VInv.stop (h:VInv s n v) (hu:s[n]?=some u) (hd:¬(48<=u.toNat/\u.toNat<=57)):nD s=n:=by
 have hf:isD ((decL (bts s n)).1:Int)=false:=by
  rw[aYb hu,<-Bool.not_eq_true];intro e;have h2:zC ((decL (u::bts s (n+1))).1:Int)=2:=by
   have h':inK [2] ((decL (u::bts s (n+1))).1:Int)=true:=e;unfold inK at h';simp only[jY,uB,jB,aI] at h';exact h'.symm
  have hr:48<=(decL (u::bts s (n+1))).1/\(decL (u::bts s (n+1))).1<=57:=by unfold zC at h2;(repeat (split at h2))<;>omega
  by_cases hb:u.toNat<128
  · rw[zac hb] at hr;exact hd hr
  have:=(eS (t:=bts s (n+1)) hb).1;omega
 show runL isD (bl8 s)=n;rw[h.2.1,zds hf];rfl
def VInv.fin (h:VInv s n v) (hn:s.size<=n):nD s=n:=by
 show runL isD (bl8 s)=n;rw[h.2.1,zeZ hn,zcf];rfl
def VInv.val (h:VInv s n v) (hd:nD s=n) (hn:n<=13):v=vD s:=by
 have e:=h.2.2.1;rw[uO hn] at e;rw[e];show _=digV ((bl8 s).take (nD s));rw[hd]
def VInv.all (h:VInv s n v) (hd:nD s=n):nA s=n+runL isLD (bl8 (s.extract n s.size)):=by
 have e:bl8 s=(bl8 s).take n++(bl8 s).drop n:=(dF n _).symm;have hn:=h.1;show runL isLD (bl8 s)=_
 conv=>lhs;rw[e]
 rw[zdj aCt _ _ h.2.2.2,cY,zar,uO hn,aBq,zdv]
def WI (s:Ba) (i:Nat) (o:List TokD):Prop:=zO (bl8 s) 0=(zO (bts s i) i).map (o++·)
def WI.zero:WI s 0 []:=by
 unfold WI;show zO (bl8 s) 0=(zO (bl8 s) 0).map _;cases zO (bl8 s) 0<;>rfl
def aDa {b:UInt8} {t:List UInt8} (h:zC ((decL (b::t)).1:Int)=3):b=32\/b=9\/b=10:=by
 have hr:(decL (b::t)).1=32\/(decL (b::t)).1=9\/(decL (b::t)).1=10:=by unfold zC at h;(repeat (split at h))<;>omega
 by_cases hb:b.toNat<128
 · rw[zac hb] at hr;have hr:b.toNat=32\/b.toNat=9\/b.toNat=10:=hr;rcases hr with h | h | h
   · exact .inl (uP.1 h)
   · exact .inr (.inl (uP.1 h))
   exact .inr (.inr (uP.1 h))
 have:=(eS (t:=t) hb).1;omega
def xK:(decR (s.extract i s.size) 0)=(decL (bts s i)).1:=by rw[fC,j5,zbK]
def WI.blank {o:List TokD} (h:WI s i o) (hi:i<s.size) (hk:zC ((decR (s.extract i s.size) 0:Nat):Int)=3):WI s (i+1) o:=by
 unfold WI at*;rw[xK,za6 hi] at hk;rw[h,za6 hi];have e:s.get! i::bts s (i+1)=[s.get! i]++bts s (i+1):=rfl;rw[e,gX (by intro b hb;rw[dQ.1 hb];exact aDa hk)];rfl
def aC2 {l:List UInt8} (hk:¬zC ((decL l).1:Int)=3):runL isB l=0:=by
 refine zds ?_;show inK [3] _=false;unfold inK;simp only[jY,uB,jB,aJ];exact λe=>hk e.symm
def WI.next {o:List TokD} (h:WI s i o) (hi:i<s.size) (hk:¬zC ((decR (s.extract i s.size) 0:Nat):Int)=3) (h0:¬(zj (bl8 (s.extract i s.size))).2=0):WI s (i+(zj (bl8 (s.extract i s.size))).2) (o++[(zj (bl8 (s.extract i s.size))).1.put i]):=by
 have e1:bl8 (s.extract i s.size)=bts s i:=zbC;unfold WI at*;rw[xK] at hk;rw[e1] at h0 ⊢;have hb:=aC2 hk;have hw:zO (bts s i) i=zbE (bts s i).length (bts s i) i:=by unfold zO;rw[hb];rfl
 rw[h,hw,zbi (zfq hi) h0 (cW _),zdr];cases zO (bts s (i+(zj (bts s i)).2)) (i+(zj (bts s i)).2)<;>simp
def WI.bad {o:List TokD} (h:WI s i o) (hi:i<s.size) (hk:¬zC ((decR (s.extract i s.size) 0:Nat):Int)=3) (h0:(zj (bl8 (s.extract i s.size))).2=0):zO (bl8 s) 0=none:=by
 have e1:bl8 (s.extract i s.size)=bts s i:=zbC;unfold WI at h;rw[xK] at hk;rw[e1] at h0;have hb:=aC2 hk;have hw:zO (bts s i) i=zbE (bts s i).length (bts s i) i:=by unfold zO;rw[hb];rfl
 rw[h,hw,zbD (zfq hi) h0];rfl
def WI.done {o:List TokD} (h:WI s i o) (hi:s.size<=i):zO (bl8 s) 0=some o:=by
 unfold WI at h;have e:zO [] i=some []:=by unfold zO;rw[zcf];exact zaR
 rw[h,zeZ hi,e];simp
def SgI (s:Ba) (n:Nat):Prop:=n<=2/\n<=s.size/\(n<2->2<=s.size->hasN zam (s.extract 0 2)=false)/\(n<1->1<=s.size->hasN zam (s.extract 0 1)=false)
def SgI.zero (hz:0<s.size):SgI s (min 2 s.size):=⟨by omega,by omega,λh1 h2=>by omega,λh1 h2=>by omega⟩
def SgI.next (h:SgI s n) (h0:0<n) (hf:hasN zam (s.extract 0 n)=false):SgI s (n-1):=by
 obtain ⟨h1,h2,h3,h4⟩:=h;rcases (show n=1\/n=2 by omega) with rfl | rfl
 · exact⟨by omega,by omega,λ_=>h3 (by omega),λ_ _=>hf⟩
 exact⟨by omega,by omega,λ_ _=>hf,λh _=>by omega⟩
def SgI.yes (h:SgI s n) (h0:0<n) (ht:hasN zam (s.extract 0 n)=true):zbI (bl8 s)=(⟨5,0,s.extract 0 n⟩,n):=by
 obtain ⟨h1,h2,h3,h4⟩:=h;rw[sP,zar];have e:∀ k,k<=s.size->mkB ((bl8 s).take k)=s.extract 0 k:=λk hk=>(zcT hk).symm
 rcases (show n=1\/n=2 by omega) with rfl | rfl
 · have hn:¬(2<=s.size/\hasN zam (mkB ((bl8 s).take 2))=true):=λhh=>by
    have:=h3 (by omega) hh.1;rw[e 2 hh.1,this] at hh;exact aH hh.2 (by simp)
   rw[aA hn,aB ⟨h2,by rw[e 1 h2];exact ht⟩,e 1 h2]
 rw[aB ⟨h2,by rw[e 2 h2];exact ht⟩,e 2 h2]
def SgI.no (h:SgI s n) (h0:¬0<n):zbI (bl8 s)=(zbo,0):=by
 obtain ⟨h1,h2,h3,h4⟩:=h;rw[sP,zar];have e:∀ k,k<=s.size->mkB ((bl8 s).take k)=s.extract 0 k:=λk hk=>(zcT hk).symm
 have n2:¬(2<=s.size/\hasN zam (mkB ((bl8 s).take 2))=true):=λhh=>by
  have:=h3 (by omega) hh.1;rw[e 2 hh.1,this] at hh;exact aH hh.2 (by simp)
 have n1:¬(1<=s.size/\hasN zam (mkB ((bl8 s).take 1))=true):=λhh=>by
  have:=h4 (by omega) hh.1;rw[e 1 hh.1,this] at hh;exact aH hh.2 (by simp)
 rw[aA n2,aA n1]
def aYq {r:Int} (h:¬zC r=1/\¬zC r=2):isLD r=false:=by
 rw[<-Bool.not_eq_true,zeK];omega
end
end Lp
set_option maxHeartbeats 4000000
set_option maxRecDepth 100000
namespace Lp
open Go Go.RowKit Go.Proofs Tryz
abbrev RB7 (g:Nat) (s:Rd):Hp:=.bx g 93 (.agg [.sh 3 (s.l.map TokD.d),dI s.n,dB s.b])
section
variable {s z y s1 s2 s3:Rd} {k:Int} {t:Ba} {x:TokD} {o l:List Ba} {f:Nat}
def aWf (h:s.b=true):false=s.is7 k t:=by unfold Rd.is7;rw[h];rfl
def aXz (h:s.l.length=0) (hk:k≠0):false=s.is7 k t:=by unfold Rd.is7 Rd.is;rw[pk_0 h,aD (show ¬zbo.k=k from λe=>hk e.symm)];simp
def aZz (hb:s.b=false) (hx:s.l[0]?=some x):(decide (x.k=k)&&decide (x.t=t))=s.is7 k t:=by
 unfold Rd.is7 Rd.is;rw[pk_x hx,hb];unfold hasN;simp only[jY,uB,jB,uV,Bool.not_false];exact aG _ (decide_eq_decide.2 eq_comm)
def aUu (h:s.is7 5 t=true):(⟨(s.l.take s.l.length).drop 1,s.n,s.b⟩:Rd)=s.must t:=by
 obtain ⟨_,hb⟩:=aHh (by decide) h;rw[zeE hb (by rw[<-zbF hb];exact h),pM];rfl
def aRw (h:¬s.is7 5 t=true):(⟨s.l,s.n,true⟩:Rd)=s.must t:=by
 rw[xB,aB];unfold Rd.is7 at h;cases hb:s.b with
 | true=>exact .inl rfl
 | false=>rw[hb] at h;exact .inr (by simpa using h)
def zfw (h:s.is7 k t=true) (hk:k≠0):0<s.l.length:=dW.2 (aHh hk h).1
def aW5 (e:(t,s1)=s.any k) (hk:k≠0):s1.b=true\/s1.l.length+1=s.l.length:=by
 by_cases h:s.b=true\/s.pk.k≠k
 · rw[zeu h] at e;injection e with _ e;rw[e];exact .inl rfl
 exact .inr (aU8 e hk (by cases hb:s.b with | true=>exact aH (.inl hb) h | false=>rfl) (Decidable.byContradiction λe=>h (.inr e))).1
def yB (h:z.b=true\/z.is7 5 zL=true):zaD f o z=(o,z):=by cases f<;>unfold zaD;rfl;rw[aB h]
def aFw (h:¬(z.b=true\/z.is7 5 zL=true)) (hy:y=if 0<o.length then z.must zV else z) (e:(t,s1)=y.any 1):zaD (f+1) o z=zaD f (o++[t]) s1:=by
 conv=>lhs;unfold zaD
 rw[aA h];simp only;rw[<-hy,<-e]
def aGs (e:s1=s.must zE) (hf:zaD (s1.l.length+1) [] s1=(o,s2)) (e2:s3=s2.must zL):(o,s3)=s.names7:=by unfold Rd.names7;simp only;rw[<-e,hf,e2]
def aBt (e:(l,s1)=s.names7):Stp 0 s s1:=by have h:=(rV (s:=s)).p;rw[<-e] at h;exact h
def aQu (hy:y=if 0<f then z.must zV else z):Stp 0 z y:=by rw[hy];split;exact zaa z _;exact mT z
def zft (e:s1=s.node7):Stp 1 s s1:=by rw[e];exact za4.p
def DigO (t:Ba):Prop:=t=ByteArray.empty\/∃ v:Nat,v<=1000000000000/\t=digB v
def aBw:∀ (b a:List UInt8),digV a<=digV (a++b)
 | [],a=>by rw[jL];exact cW _
 | x::b,a=>by
  have h:=aBw b (a++[x]);rw[kE,cP] at h;rw[show x::b=[x]++b from rfl];omega
def DigO.v (h:DigO t) (i:Nat):digV ((bl8 t).take i)<=1000000000000:=by
 have h1:=aBw ((bl8 t).drop i) ((bl8 t).take i);rw[dF] at h1;rcases h with rfl | ⟨v,hv,rfl⟩
 · exact jM h1 (by decide)
 rw[zdC,gC] at h1;rw[zdC];omega
def DigO.d (h:DigO t) {i:Nat} {u:UInt8} (hx:t[i]?=some u):48<=u.toNat/\u.toNat<=57:=by
 have h1:=dA (aBa hx);rcases h with rfl | ⟨v,hv,rfl⟩
 · exact aH h1 (by rw[show bl8 ByteArray.empty=[] from O];simp)
 rw[zdC] at h1;exact kN v u h1
def sT {i v:Nat} {u:UInt8} (hv:v=digV ((bl8 t).take i)) (hx:t[i]?=some u):v*10+(u.toNat-48)=digV ((bl8 t).take (i+1)):=by rw[zS (aBa hx),kE,hv,wA]
def aI1 {i v:Nat} (hv:v=digV ((bl8 t).take i)) (hi:t.size<=i):((v:Nat):Int)=numV t:=by rw[hv,c6 (by rw[zar];exact hi)];rfl
end
def zd0 (g:Nat) (s:Rd) (k:Int) (t:Ba) (hw:s.n+2*(s.l.length:Int)<=3000000) (hn:0<=s.n) (hT:TOk s.l) (hk:k≠0):
 CD prog 41 [RB7 g s] [dP g 0,dI k,.s t] (λr H'=>r=dB (s.is7 k t)/\H'=[RB7 g s]):=by
 refine tZ func41 O O (λC=>?_);refine T.bd 2 O (λbd2=>?_);have sz2:t.size<=9223372036854775807:=bd2;refine g' 6 O ?_;rcases jA s.b with hb0 | hb0
 · refine g' 4 O (tP O ((zl O (i:=0) O isAgg4 O).cv (cB ((hb0)))) (g' 35 O ?_));exact tRs O results41 (.cons (zc (za O) (w6 (aG dB (show false=s.is7 k t from by first | exact aWf hb0 | exact aXz hl0 hk)))) .nil) O (mO 1 O) ⟨O,O⟩
 rcases uE s.l.length with hl0 | hl0
 · have hl1:¬(0<((s.l.length:Nat):Int)):=(by omega);have hl2:(((s.l.length:Nat):Int)=0):=(by omega);refine g' 4 O (tP O ((zl O (i:=0) O isAgg4 O).cv (cB ((hb0)))) (gQ 6 [0] O O (tG O (zH (n:=s.l.length) O aQ (by simp only[lm,lc,ln])) (tG O (zan O O (aD hl1)) (g' 27 O ?_)))));exact tRs O results41 (.cons (zc (za O) (w6 (aG dB (show false=s.is7 k t from by first | exact aWf hb0 | exact aXz hl0 hk)))) .nil) O (mO 1 O) ⟨O,O⟩
 have hl1:(0<((s.l.length:Nat):Int)):=by omega
 have hl2:¬(((s.l.length:Nat):Int)=0):=by omega
 obtain ⟨x1,hx1⟩:=zi s.l 0 (by omega);refine g' 4 O (tP O ((zl O (i:=0) O isAgg4 O).cv (cB ((hb0)))) (gQ 6 [0] O O (tG O (zH (n:=s.l.length) O aQ (by simp only[lm,lc,ln])) (tG O (zan O O (aE hl1)) (gQ 6 [0] O O (tG O (zf (k:=0) O O aQ aP (by first | rfl | omega) (zd hx1)) (g' 6 O ?_)))))));refine tAnd 24 9 (c:=decide (x1.t=t)) O O O O O O (λhb1 nx2=>?_) ?_
 · have hf3:=aF hb1;refine gQ 4 [0] O O (tG O (zf (k:=0) O O aQ aP (by first | rfl | omega) (zd hx1)) (g' 4 O ?_));exact nx2 _ O O (kx 9 O O)
 refine g' 4 O ?_;exact tRs O results41 (.cons (zc (za O) (w6 (aG dB (show (decide (x1.k=k)&&decide (x1.t=t))=s.is7 k t from aZz hb0 hx1)))) .nil) O (mO 1 O) ⟨O,O⟩
def zeb (g:Nat) (s:Rd) (k:Int) (hw:s.n+2*(s.l.length:Int)<=3000000) (hn:0<=s.n) (hT:TOk s.l) (hk:k≠0):
 CD prog 42 [RB7 g s] [dP g 0,dI k] (λr H'=>∃ t s',(t,s')=s.any k/\r=.s t/\H'=[RB7 g s']):=by
 refine tZ func42 O O (λC=>?_);refine g' 7 O ?_;rcases jA s.b with hb0 | hb0
 · refine g' 4 O (tP O ((zl O (i:=0) O isAgg4 O).cv (cB ((hb0)))) (g' 21 O ?_));have hor:s.b=true\/s.pk.k≠k:=(by first | exact .inl hb0 | (right;rw[pk_0 hl0];exact λe=>hk e.symm));refine gQ 16 [0] O O ?_;exact tRs O results42 (.cons (zc (za O) (cS)) .nil) O (mO 1 O) ⟨_,⟨s.l,s.n,true⟩,(zeu hor).symm,O,O⟩
 rcases uE s.l.length with hl0 | hl0
 · have hl1:¬(0<((s.l.length:Nat):Int)):=(by omega);have hl2:(((s.l.length:Nat):Int)=0):=(by omega);refine g' 4 O (tP O ((zl O (i:=0) O isAgg4 O).cv (cB ((hb0)))) (gQ 5 [0] O O (tG O (zH (n:=s.l.length) O aQ (by simp only[lm,lc,ln])) (tG O (zT O O (aE hl2)) (g' 14 O ?_)))));have hor:s.b=true\/s.pk.k≠k:=(by first | exact .inl hb0 | (right;rw[pk_0 hl0];exact λe=>hk e.symm));refine gQ 16 [0] O O ?_;exact tRs O results42 (.cons (zc (za O) (cS)) .nil) O (mO 1 O) ⟨_,⟨s.l,s.n,true⟩,(zeu hor).symm,O,O⟩
 have hl1:(0<((s.l.length:Nat):Int)):=by omega
 have hl2:¬(((s.l.length:Nat):Int)=0):=by omega
 obtain ⟨x1,hx1⟩:=zi s.l 0 (by omega);refine g' 4 O (tP O ((zl O (i:=0) O isAgg4 O).cv (cB ((hb0)))) (gQ 5 [0] O O (tG O (zH (n:=s.l.length) O aQ (by simp only[lm,lc,ln])) (tG O (zT O O (aD hl2)) (gQ 6 [0] O O (tG O (zf (k:=0) O O aQ aP (by first | rfl | omega) (zd hx1)) (g' 7 O ?_)))))));refine tD O (λhc1=>?_) (λhc1=>?_)
 · have hor:s.b=true\/s.pk.k≠k:=(by right;rw[pk_x hx1];exact hc1);refine gQ 15 [0] O O ?_;exact tRs O results42 (.cons (zc (za O) (cS)) .nil) O (mO 1 O) ⟨_,⟨s.l,s.n,true⟩,(zeu hor).symm,O,O⟩
 have hand:s.b=false/\s.pk.k=k:=by rw[pk_x hx1];exact⟨hb0,by simpa using hc1⟩
 have hne:=aIw hk hand.2;refine gQ 8 [0] O O (tP O (zf (k:=0) O O aQ aP (by first | rfl | omega) (zd hx1)) (gQ 12 [0] O O (tP O ((zaX (a:=1) (b:=s.l.length) O O O (by first | rfl | (show _=_;(try simp only[lm]);omega) | exact cN _) (by first | rfl | (show _=_;(try simp only[lm]);omega) | exact cN _) aQ aP (by omega) (by simp only[lm];omega)).cv (w6 (by rw[<-dU,<-dV]))) (gQ 12 [0] O O ?_))));exact tR O (mO 1 O) ⟨_,⟨((s.l.take s.l.length).drop 1),s.n,s.b⟩,(by rw[aPx hand.1 hand.2,pk_x hx1]),O,O⟩
def zcj (g:Nat) (s:Rd) (t:Ba) (hw:s.n+2*(s.l.length:Int)<=3000000) (hn:0<=s.n) (hT:TOk s.l):
 CD prog 119 [RB7 g s] [dP g 0,.s t] (λr H'=>∃ s',s'=s.must t/\r=.tup []/\H'=[RB7 g s']):=by
 refine tZ func119 O O (λC=>?_);refine T.bd 1 O (λbd1=>?_);have sz1:t.size<=9223372036854775807:=bd1;refine g' 5 O (tX [0] O O acs (zd0 g s 5 t (by omega) (by omega) hT (by decide)) ?_);rintro _ _ ⟨rfl,rfl⟩;refine g' 3 O ?_;refine tC O (λhc2=>?_) (λhc2=>?_)
 · simp only[bX,bJ] at hc2;refine gQ 10 [0] O O ?_;exact tR O (mO 1 O) ⟨⟨s.l,s.n,true⟩,aRw (by simpa using hc2),O,O⟩
 simp only[bX,bJ] at hc2;have hne:=zfw (by simpa using hc2) (by decide);refine gQ 8 [0] O O (tP O ((zaX (a:=1) (b:=s.l.length) O O O (by first | rfl | (show _=_;(try simp only[lm]);omega) | exact cN _) (by first | rfl | (show _=_;(try simp only[lm]);omega) | exact cN _) aQ aP (by omega) (by simp only[lm];omega)).cv (w6 (by rw[<-dU,<-dV]))) (gQ 4 [0] O O ?_));exact tR O (mO 1 O) ⟨⟨((s.l.take s.l.length).drop 1),s.n,s.b⟩,aUu (by simpa using hc2),O,O⟩
def zfu (g:Nat) (s:Rd) (x0 x1 x2 x3 x4 x5 x6:D) (hw:s.n+2*(s.l.length:Int)<=3000000) (hn:0<=s.n) (hT:TOk s.l):
 CD prog 72 [RB7 g s] [dP g 0,.agg [x0,x1,x2,x3,x4,x5,x6]] (λr H'=>∃ s',s'=s.node7/\r=.agg [x0,x1,x2,x3,x4,x5,x6]/\H'=[RB7 g s']):=by
 refine tZ func72 O O (λC=>?_);refine T.bd 1 O (λbd1=>?_);refine g' 2 O ?_;refine tA O (λg1=>?_);refine tA O (λg2=>?_);refine gQ 8 [2] O O (tP O (zq (c:=(s.n+1)) O O (zh (by omega) (by omega))) (gQ 12 [2,1,0] O O (mY 2 O ?_)));exact tRs O results72 (.cons (zu (i:=1) O O bS aY O O) .nil) O (mO 1 O) ⟨⟨s.l,(s.n+1),s.b⟩,O,O,O⟩
def ze4 (t:Ba) (hz:t.size<=1000000) (hd:DigO t):
 CD prog 43 [] [.s t] (isR (dI (numV t))):=by
 refine tZ func43 O O (λC=>?_);refine T.bd 0 O (λbd0=>?_);have sz0:t.size<=9223372036854775807:=bd0;refine g' 17 O (tl2 (λ(a_:Nat) (b_:Nat)=>[(0,.s t),(2,dI 0),(4,dN a_),(3,dN b_)]) (λa_ b_=>[]) (λa_ b_=>(b_=digV ((bl8 t).take a_))/\(a_<=t.size)) (λa_ b_=>t.size-a_) 0 0 O (sa O) w8 ⟨O,cT _⟩ ?_);rintro i v ⟨hv,hi⟩;refine g' 5 O (tP O (zah O aN) (g' 3 O ?_));refine tD O (λhc1=>?_) (λhc1=>?_)
 · refine g' 4 O ?_;obtain ⟨u,hu⟩:=oW t i (by omega);have hdu:=hd.d hu;have hvn:=hd.v i;have hvm:=hd.v (i+1);rw[<-sT hv hu] at hvm;rw[<-hv] at hvn;refine g' 2 O (tP O (zc2 (c:=((v*10:Nat):Int)) O O (zh (by omega) (by omega))) (g' 2 O (tP O (zdl (k:=i) O O aN (by first | rfl | omega) hu) (tP O (zR (c:=((u.toNat-48:Nat):Int)) O O (by rw[show ((u.toNat:Nat):Int)-(48:Int)=((u.toNat-48:Nat):Int) by omega];exact aWl (n:=u.toNat-48) (by omega))) (tP O (zaN O (c:=((u.toNat-48:Nat):Int)) (aH7 (by omega))) (tP O (zq (c:=(((v*10)+(u.toNat-48):Nat):Int)) O O (zh (by omega) (by omega))) (g' 6 O (tP O (zq (c:=((i+1:Nat):Int)) O O (zh (by omega) (by omega))) (g' 2 O ?_)))))))));exact tp2 (i+1) ((v*10)+(u.toNat-48)) (sa O) w8 ⟨sT hv hu,by omega⟩ (by omega)
 refine g' 12 O ?_;exact tRs O results43 (.cons (zc (za O) (w6 (aG (λn=>D.v (.int .i64 n)) (by exact aI1 hv (by omega))))) .nil) O HSub.none ⟨O,O⟩
def aCv (g:Nat) (s:Rd) (hw:s.n+2*(s.l.length:Int)<=3000000) (hn:0<=s.n) (hT:TOk s.l):
 CD prog 71 [RB7 g s] [dP g 0] (λr H'=>∃ l s',(l,s')=s.names7/\r=.sh 1 (l.map D.s)/\H'=[RB7 g s']):=by
 refine tZ func71 O O (λC=>?_);refine g' 13 O (tX [0] O O (ga (.cons (ArgC.cv cS) .nil)) (zcj g s (⟨#[40]⟩:Ba) (by omega) (by omega) hT) ?_);rintro _ _ ⟨s1,e1,rfl,rfl⟩;obtain ⟨ka1,kb1,kc1,hT1⟩:=(za9 e1).out hT;refine g' 4 O (tl4 (λ(a_:Nat) (b_:Rd) (c_:Value) (d_:List Ba)=>[(0,dP g 0),(2,dZ),(3,.ov c_)]) (λa_ b_ c_ d_=>[.sl c_ 1 9 (d_.map D.s),RB7 g b_]) (λa_ b_ c_ d_=>(b_.b=true\/b_.l.length<a_)/\(zaD a_ d_ b_=zaD (s1.l.length+1) [] s1)/\(b_.n+2*(b_.l.length:Int)<=3000000)/\(0<=b_.n)/\(TOk b_.l)/\(d_.length+a_<=1500001)) (λa_ b_ c_ d_=>a_) (s1.l.length+1) s1 (.slice none 0 0) [] O ⟨sk O,sk O,sc O (Cv.ov O),trivial⟩ (HSub.nil 1 9) ⟨.inr (jR _),O,(by omega),(by omega),hT1,(by show 0+_<=_;omega)⟩ ?_);rintro f z ov o ⟨hlf,hf,hzw,hzn,hz,hol⟩;refine gQ 9 [1] O O ?_;refine tAnd 5 3 (c:=!((z.is7 5 (⟨#[41]⟩:Ba)))) O O O O O O (λhb2 nx3=>?_) ?_
 · have hf4:=notT hb2;refine g' 1 O (tX [1] O O (ga (ga (.cons (ArgC.cv cS) .nil))) (zd0 g z 5 (⟨#[41]⟩:Ba) (by omega) (by omega) hz (by decide)) ?_);rintro _ _ ⟨rfl,rfl⟩;refine g' 1 O (mY 1 O ?_);exact nx3 _ O O (kx 3 O O)
 refine g' 2 O ?_;refine tC O (λhc6=>?_) (λhc6=>?_)
 · simp only[bX,bJ] at hc6;have hst:¬(z.b=true\/z.is7 5 zL=true):=(by have h:=hc6;rintro (k | k);(rw[k] at h;exact aH h.1 (by decide));(rw[k] at h;exact aH h.2 (by decide)));have hzl:z.l.length<f:=hlf.resolve_left λk=>hst (.inl k)
   obtain ⟨f,rfl⟩:∃ k,f=k+1:=⟨f-1,by omega⟩;refine g' 4 O ?_;refine tJ (λ(jg:Rd)=>[(0,dP g 0),(2,dZ),(3,.ov ov),(6,dP g 0),(7,dP g 0),(8,dP g 2),(9,dB z.b),(10,dB (!z.b)),(11,dB (!z.b)),(15,dB (!z.b&&!((z.is7 5 (⟨#[41]⟩:Ba)))))]) (λ(jg:Rd)=>[.sl ov 1 9 (o.map D.s),RB7 g jg]) (λ(jg:Rd)=>(jg=if 0<o.length then z.must zV else z)) (λ_ hQ7=>?_) ?_
   · refine g' 3 O (tP O (zK (n:=o.length) (j:=0) O O bK (cN _)) (g' 3 O ?_));refine tD O (λhc8=>?_) (λhc8=>?_)
     · refine g' 2 O (tX [1] O O (ga (.cons (ArgC.cv cS) .nil)) (zcj g z (⟨#[44]⟩:Ba) (by omega) (by omega) hz) ?_);rintro _ _ ⟨s9,e9,rfl,rfl⟩;obtain ⟨ka9,kb9,kc9,hT9⟩:=(za9 e9).out hz;refine g' 1 O (mY 1 O ?_);exact tqe (hQ7 s9 (by rw[aB (by omega)];exact e9)) O
     refine g' 1 O ?_;exact tqe (hQ7 z ((aA (by omega)).symm)) O
   rintro y hy;refine g' 1 O ?_;obtain ⟨kx,ky,kw,hTy⟩:=(aQu hy).out hz;refine g' 3 O (tX [1] O O acs (zeb g y 1 (by omega) (by omega) hTy (by decide)) ?_);rintro _ _ ⟨t10,s10,e10,rfl,rfl⟩;obtain ⟨ka10,kb10,kc10,hT10⟩:=(zen e10).out hTy;have kz10:=zek e10 hTy;refine tE O (Qu.ef (d:=.sh 1 ([t10].map D.s)) (zp [.tmp 23] O O (.cons CellD.s .nil) O bK eE bW O O O O)) ?_;rintro _ _ ⟨rfl,rfl⟩;refine tE O (zG (f:=D.s) (l:=o) (l':=[t10]) (i:=1) O O O (SrcD.sh) aOk aOp O O (by unfold maxLen;(try simp only[la,lc,ln,lm,lt',ld,ls,lr]);omega) (by (try simp only[la,lc,ln,lm,lt',ld,ls,lr]);omega)) ?_;rintro _ _ ⟨v11,rfl,rfl⟩;refine g' 3 O (mY 1 O ?_);exact tp4 f s10 v11 (o++[t10]) (sa O) w8 ⟨(aW5 e10 (by decide)).imp id (by omega),(aFw hst hy e10).symm.trans hf,by omega,by omega,hT10,by simp only[la,jN];omega⟩ (by omega)
 simp only[bX,bJ] at hc6;have hff:=hf.symm.trans (yB (by have h:=hc6;rcases h with h | h;exact .inl (by simpa using h);exact .inr (by simpa using h)));refine g' 8 O (tX [1] O O (ga (.cons (ArgC.cv cS) .nil)) (zcj g z (⟨#[41]⟩:Ba) (by omega) (by omega) hz) ?_);rintro _ _ ⟨s12,e12,rfl,rfl⟩;obtain ⟨ka12,kb12,kc12,hT12⟩:=(za9 e12).out hz;refine g' 9 O (mY 1 O (mV (Mv.freeze (K':=[(0,dP g 0),(2,.sh 1 (o.map D.s)),(3,.sh 1 (o.map D.s)),(6,dP g 0),(7,dP g 0),(8,dP g 2),(9,dB z.b),(10,dB (!z.b)),(11,dB (!z.b)),(15,dB (!z.b&&!((z.is7 5 (⟨#[41]⟩:Ba))))),(26,dP g 0),(27,.tup []),(28,.sh 1 (o.map D.s))]) [.sl ov 1 9 (o.map D.s)] (H1:=[RB7 g s12]) (H1':=[RB7 g s12]) ⟨⟨_,O,mJ⟩,⟨_,O,mK (j:=0) O O⟩,⟨_,O,mK (j:=0) O O⟩,⟨_,O,mJ⟩,⟨_,O,mJ⟩,⟨_,O,mJ⟩,⟨_,O,mJ⟩,⟨_,O,mJ⟩,⟨_,O,mJ⟩,⟨_,O,mJ⟩,⟨_,O,mJ⟩,⟨_,O,mJ⟩,⟨_,O,mK (j:=0) O O⟩,trivial⟩ (.same .nil)) ?_));exact tR O (mO 1 O) ⟨o,⟨s12.l,s12.n,s12.b⟩,aGs e1 hff e12,O,O⟩
end Lp
namespace Lp
open Go Go.RowKit Go.Proofs Tryz
def aOo (name:Ba) :
 CD prog 127 [] [.s name] (isR (dB (hasN aggN name))):=by
 refine tZ func127 O O (λC=>?_);refine T.bd 0 O (λbd0=>?_);have sz0:name.size<=9223372036854775807:=bd0;refine g' 10 O ?_;refine tOr 2 2 (c:=decide (name=(⟨#[109,105,110]⟩:Ba))) O O O O O O (λhb1 nx2=>?_) ?_
 · have hf3:=aC hb1;refine g' 2 O ?_;exact nx2 _ O O (kx 2 O O)
 refine g' 1 O ?_;refine tOr 6 2 (c:=decide (name=(⟨#[109,97,120]⟩:Ba))) O O O O O O (λhb4 nx5=>?_) ?_
 · obtain ⟨hf6,hf7⟩:=orF hb4;have hf8:=aC hf6;have hf9:=aC hf7;refine g' 2 O ?_;exact nx5 _ O O (kx 2 O O)
 refine g' 1 O ?_;refine tOr 10 2 (c:=decide (name=(⟨#[99,111,117,110,116]⟩:Ba))) O O O O O O (λhb10 nx11=>?_) ?_
 · obtain ⟨hf12,hf13⟩:=orF hb10;obtain ⟨hf14,hf15⟩:=orF hf12;have hf16:=aC hf14;have hf17:=aC hf15;have hf18:=aC hf13;refine g' 2 O ?_;exact nx11 _ O O (kx 2 O O)
 refine g' 1 O ?_;refine tOr 14 2 (c:=decide (name=(⟨#[97,118,103]⟩:Ba))) O O O O O O (λhb19 nx20=>?_) ?_
 · obtain ⟨hf21,hf22⟩:=orF hb19;obtain ⟨hf23,hf24⟩:=orF hf21;obtain ⟨hf25,hf26⟩:=orF hf23;have hf27:=aC hf25;have hf28:=aC hf26;have hf29:=aC hf24;have hf30:=aC hf22;refine g' 2 O ?_;exact nx20 _ O O (kx 2 O O)
 refine g' 1 O ?_;refine tOr 18 2 (c:=decide (name=(⟨#[116,111,112,107]⟩:Ba))) O O O O O O (λhb31 nx32=>?_) ?_
 · obtain ⟨hf33,hf34⟩:=orF hb31;obtain ⟨hf35,hf36⟩:=orF hf33;obtain ⟨hf37,hf38⟩:=orF hf35;obtain ⟨hf39,hf40⟩:=orF hf37;have hf41:=aC hf39;have hf42:=aC hf40;have hf43:=aC hf38;have hf44:=aC hf36;have hf45:=aC hf34;refine g' 2 O ?_;exact nx32 _ O O (kx 2 O O)
 refine g' 1 O ?_;refine tOr 22 2 (c:=decide (name=(⟨#[113,117,97,110,116,105,108,101]⟩:Ba))) O O O O O O (λhb46 nx47=>?_) ?_
 · obtain ⟨hf48,hf49⟩:=orF hb46;obtain ⟨hf50,hf51⟩:=orF hf48;obtain ⟨hf52,hf53⟩:=orF hf50;obtain ⟨hf54,hf55⟩:=orF hf52;obtain ⟨hf56,hf57⟩:=orF hf54;have hf58:=aC hf56;have hf59:=aC hf57;have hf60:=aC hf55;have hf61:=aC hf53;have hf62:=aC hf51;have hf63:=aC hf49;refine g' 2 O ?_;exact nx47 _ O O (kx 2 O O)
 refine g' 4 O ?_;exact tRs O results127 (.cons (zc (za O) (cB ((by simp only[hasN,aggN,jY,uB,jB,eq_comm (a:=name)];ac_rfl)))) .nil) O HSub.none ⟨O,O⟩
def aXl (name:Ba) :
 CD prog 122 [] [.s name] (isR (dB (hasN fnN name))):=by
 refine tZ func122 O O (λC=>?_);refine T.bd 0 O (λbd0=>?_);have sz0:name.size<=9223372036854775807:=bd0;refine g' 10 O ?_;refine tOr 2 2 (c:=decide (name=(⟨#[109,105,110,95,111,118,101,114]⟩:Ba))) O O O O O O (λhb1 nx2=>?_) ?_
 · have hf3:=aC hb1;refine g' 2 O ?_;exact nx2 _ O O (kx 2 O O)
 refine g' 1 O ?_;refine tOr 6 2 (c:=decide (name=(⟨#[109,97,120,95,111,118,101,114]⟩:Ba))) O O O O O O (λhb4 nx5=>?_) ?_
 · obtain ⟨hf6,hf7⟩:=orF hb4;have hf8:=aC hf6;have hf9:=aC hf7;refine g' 2 O ?_;exact nx5 _ O O (kx 2 O O)
 refine g' 1 O ?_;refine tOr 10 2 (c:=decide (name=(⟨#[99,111,117,110,116,95,111,118,101,114]⟩:Ba))) O O O O O O (λhb10 nx11=>?_) ?_
 · obtain ⟨hf12,hf13⟩:=orF hb10;obtain ⟨hf14,hf15⟩:=orF hf12;have hf16:=aC hf14;have hf17:=aC hf15;have hf18:=aC hf13;refine g' 2 O ?_;exact nx11 _ O O (kx 2 O O)
 refine g' 1 O ?_;refine tOr 14 2 (c:=decide (name=(⟨#[97,118,103,95,111,118,101,114]⟩:Ba))) O O O O O O (λhb19 nx20=>?_) ?_
 · obtain ⟨hf21,hf22⟩:=orF hb19;obtain ⟨hf23,hf24⟩:=orF hf21;obtain ⟨hf25,hf26⟩:=orF hf23;have hf27:=aC hf25;have hf28:=aC hf26;have hf29:=aC hf24;have hf30:=aC hf22;refine g' 2 O ?_;exact nx20 _ O O (kx 2 O O)
 refine g' 1 O ?_;refine tOr 18 2 (c:=decide (name=(⟨#[108,97,115,116,95,111,118,101,114]⟩:Ba))) O O O O O O (λhb31 nx32=>?_) ?_
 · obtain ⟨hf33,hf34⟩:=orF hb31;obtain ⟨hf35,hf36⟩:=orF hf33;obtain ⟨hf37,hf38⟩:=orF hf35;obtain ⟨hf39,hf40⟩:=orF hf37;have hf41:=aC hf39;have hf42:=aC hf40;have hf43:=aC hf38;have hf44:=aC hf36;have hf45:=aC hf34;refine g' 2 O ?_;exact nx32 _ O O (kx 2 O O)
 refine g' 1 O ?_;refine tOr 22 2 (c:=decide (name=(⟨#[105,110,99,114,101,97,115,101]⟩:Ba))) O O O O O O (λhb46 nx47=>?_) ?_
 · obtain ⟨hf48,hf49⟩:=orF hb46;obtain ⟨hf50,hf51⟩:=orF hf48;obtain ⟨hf52,hf53⟩:=orF hf50;obtain ⟨hf54,hf55⟩:=orF hf52;obtain ⟨hf56,hf57⟩:=orF hf54;have hf58:=aC hf56;have hf59:=aC hf57;have hf60:=aC hf55;have hf61:=aC hf53;have hf62:=aC hf51;have hf63:=aC hf49;refine g' 2 O ?_;exact nx47 _ O O (kx 2 O O)
 refine g' 1 O ?_;refine tOr 26 2 (c:=decide (name=(⟨#[114,97,116,101]⟩:Ba))) O O O O O O (λhb64 nx65=>?_) ?_
 · obtain ⟨hf66,hf67⟩:=orF hb64;obtain ⟨hf68,hf69⟩:=orF hf66;obtain ⟨hf70,hf71⟩:=orF hf68;obtain ⟨hf72,hf73⟩:=orF hf70;obtain ⟨hf74,hf75⟩:=orF hf72;obtain ⟨hf76,hf77⟩:=orF hf74;have hf78:=aC hf76;have hf79:=aC hf77;have hf80:=aC hf75;have hf81:=aC hf73;have hf82:=aC hf71;have hf83:=aC hf69;have hf84:=aC hf67;refine g' 2 O ?_;exact nx65 _ O O (kx 2 O O)
 refine g' 4 O ?_;exact tRs O results122 (.cons (zc (za O) (cB ((by simp only[hasN,fnN,jY,uB,jB,eq_comm (a:=name)];ac_rfl)))) .nil) O HSub.none ⟨O,O⟩
def aVl (name:Ba) :
 CD prog 217 [] [.s name] (isR (dB (zef name))):=by
 refine tZ func217 O O (λC=>?_);refine T.bd 0 O (λbd0=>?_);have sz0:name.size<=9223372036854775807:=bd0;refine g' 8 O (tW O acs (aOo name) (g' 1 O ?_));refine tOr 2 2 (c:=hasN fnN name) O O O O O O (λhb1 nx2=>?_) ?_
 · refine g' 1 O (tW O acs (aXl name) ?_);exact nx2 _ O O (kx 2 O O)
 refine g' 1 O ?_;refine tOr 6 2 (c:=decide (name=(⟨#[111,114,100,101,114]⟩:Ba))) O O O O O O (λhb3 nx4=>?_) ?_
 · obtain ⟨hf5,hf6⟩:=orF hb3;refine g' 2 O ?_;exact nx4 _ O O (kx 2 O O)
 refine g' 1 O ?_;refine tOr 10 2 (c:=decide (name=(⟨#[108,105,109,105,116]⟩:Ba))) O O O O O O (λhb7 nx8=>?_) ?_
 · obtain ⟨hf9,hf10⟩:=orF hb7;obtain ⟨hf11,hf12⟩:=orF hf9;have hf13:=aC hf10;refine g' 2 O ?_;exact nx8 _ O O (kx 2 O O)
 refine g' 1 O ?_;refine tOr 14 2 (c:=decide (name=(⟨#[111,102,102,115,101,116]⟩:Ba))) O O O O O O (λhb14 nx15=>?_) ?_
 · obtain ⟨hf16,hf17⟩:=orF hb14;obtain ⟨hf18,hf19⟩:=orF hf16;obtain ⟨hf20,hf21⟩:=orF hf18;have hf22:=aC hf19;have hf23:=aC hf17;refine g' 2 O ?_;exact nx15 _ O O (kx 2 O O)
 refine g' 1 O ?_;refine tOr 18 2 (c:=decide (name=(⟨#[97,115,99]⟩:Ba))) O O O O O O (λhb24 nx25=>?_) ?_
 · obtain ⟨hf26,hf27⟩:=orF hb24;obtain ⟨hf28,hf29⟩:=orF hf26;obtain ⟨hf30,hf31⟩:=orF hf28;obtain ⟨hf32,hf33⟩:=orF hf30;have hf34:=aC hf31;have hf35:=aC hf29;have hf36:=aC hf27;refine g' 2 O ?_;exact nx25 _ O O (kx 2 O O)
 refine g' 1 O ?_;refine tOr 22 2 (c:=decide (name=(⟨#[100,101,115,99]⟩:Ba))) O O O O O O (λhb37 nx38=>?_) ?_
 · obtain ⟨hf39,hf40⟩:=orF hb37;obtain ⟨hf41,hf42⟩:=orF hf39;obtain ⟨hf43,hf44⟩:=orF hf41;obtain ⟨hf45,hf46⟩:=orF hf43;obtain ⟨hf47,hf48⟩:=orF hf45;have hf49:=aC hf46;have hf50:=aC hf44;have hf51:=aC hf42;have hf52:=aC hf40;refine g' 2 O ?_;exact nx38 _ O O (kx 2 O O)
 refine g' 1 O ?_;refine tOr 26 2 (c:=decide (name=(⟨#[111,110]⟩:Ba))) O O O O O O (λhb53 nx54=>?_) ?_
 · obtain ⟨hf55,hf56⟩:=orF hb53;obtain ⟨hf57,hf58⟩:=orF hf55;obtain ⟨hf59,hf60⟩:=orF hf57;obtain ⟨hf61,hf62⟩:=orF hf59;obtain ⟨hf63,hf64⟩:=orF hf61;obtain ⟨hf65,hf66⟩:=orF hf63;have hf67:=aC hf64;have hf68:=aC hf62;have hf69:=aC hf60;have hf70:=aC hf58;have hf71:=aC hf56;refine g' 2 O ?_;exact nx54 _ O O (kx 2 O O)
 refine g' 1 O ?_;refine tOr 30 2 (c:=decide (name=(⟨#[105,103,110,111,114,105,110,103]⟩:Ba))) O O O O O O (λhb72 nx73=>?_) ?_
 · obtain ⟨hf74,hf75⟩:=orF hb72;obtain ⟨hf76,hf77⟩:=orF hf74;obtain ⟨hf78,hf79⟩:=orF hf76;obtain ⟨hf80,hf81⟩:=orF hf78;obtain ⟨hf82,hf83⟩:=orF hf80;obtain ⟨hf84,hf85⟩:=orF hf82;obtain ⟨hf86,hf87⟩:=orF hf84;have hf88:=aC hf85;have hf89:=aC hf83;have hf90:=aC hf81;have hf91:=aC hf79;have hf92:=aC hf77;have hf93:=aC hf75;refine g' 2 O ?_;exact nx73 _ O O (kx 2 O O)
 refine g' 1 O ?_;refine tOr 34 2 (c:=decide (name=(⟨#[98,121]⟩:Ba))) O O O O O O (λhb94 nx95=>?_) ?_
 · obtain ⟨hf96,hf97⟩:=orF hb94;obtain ⟨hf98,hf99⟩:=orF hf96;obtain ⟨hf100,hf101⟩:=orF hf98;obtain ⟨hf102,hf103⟩:=orF hf100;obtain ⟨hf104,hf105⟩:=orF hf102;obtain ⟨hf106,hf107⟩:=orF hf104;obtain ⟨hf108,hf109⟩:=orF hf106;obtain ⟨hf110,hf111⟩:=orF hf108;have hf112:=aC hf109;have hf113:=aC hf107;have hf114:=aC hf105;have hf115:=aC hf103;have hf116:=aC hf101;have hf117:=aC hf99;have hf118:=aC hf97;refine g' 2 O ?_;exact nx95 _ O O (kx 2 O O)
 refine g' 1 O ?_;refine tOr 38 2 (c:=decide (name=(⟨#[119,105,116,104,111,117,116]⟩:Ba))) O O O O O O (λhb119 nx120=>?_) ?_
 · obtain ⟨hf121,hf122⟩:=orF hb119;obtain ⟨hf123,hf124⟩:=orF hf121;obtain ⟨hf125,hf126⟩:=orF hf123;obtain ⟨hf127,hf128⟩:=orF hf125;obtain ⟨hf129,hf130⟩:=orF hf127;obtain ⟨hf131,hf132⟩:=orF hf129;obtain ⟨hf133,hf134⟩:=orF hf131;obtain ⟨hf135,hf136⟩:=orF hf133;obtain ⟨hf137,hf138⟩:=orF hf135;have hf139:=aC hf136;have hf140:=aC hf134;have hf141:=aC hf132;have hf142:=aC hf130;have hf143:=aC hf128;have hf144:=aC hf126;have hf145:=aC hf124;have hf146:=aC hf122;refine g' 2 O ?_;exact nx120 _ O O (kx 2 O O)
 refine g' 4 O ?_;exact tRs O results217 (.cons (zc (za O) (cB ((by unfold zef;generalize hasN aggN name=a;generalize hasN fnN name=b;simp only[hasN,jY,uB,jB,eq_comm (a:=name)];ac_rfl)))) .nil) O HSub.none ⟨O,O⟩
def tN (name:Ba) :
 CD prog 13 [] [.s name] (isR (dB (hasN [tEqq,tNe,tLt,tLe,tGt,tGe] name))):=by
 refine tZ func13 O O (λC=>?_);refine T.bd 0 O (λbd0=>?_);have sz0:name.size<=9223372036854775807:=bd0;refine g' 10 O ?_;refine tOr 2 2 (c:=decide (name=(⟨#[33,61]⟩:Ba))) O O O O O O (λhb1 nx2=>?_) ?_
 · have hf3:=aC hb1;refine g' 2 O ?_;exact nx2 _ O O (kx 2 O O)
 refine g' 1 O ?_;refine tOr 6 2 (c:=decide (name=(⟨#[60]⟩:Ba))) O O O O O O (λhb4 nx5=>?_) ?_
 · obtain ⟨hf6,hf7⟩:=orF hb4;have hf8:=aC hf6;have hf9:=aC hf7;refine g' 2 O ?_;exact nx5 _ O O (kx 2 O O)
 refine g' 1 O ?_;refine tOr 10 2 (c:=decide (name=(⟨#[60,61]⟩:Ba))) O O O O O O (λhb10 nx11=>?_) ?_
 · obtain ⟨hf12,hf13⟩:=orF hb10;obtain ⟨hf14,hf15⟩:=orF hf12;have hf16:=aC hf14;have hf17:=aC hf15;have hf18:=aC hf13;refine g' 2 O ?_;exact nx11 _ O O (kx 2 O O)
 refine g' 1 O ?_;refine tOr 14 2 (c:=decide (name=(⟨#[62]⟩:Ba))) O O O O O O (λhb19 nx20=>?_) ?_
 · obtain ⟨hf21,hf22⟩:=orF hb19;obtain ⟨hf23,hf24⟩:=orF hf21;obtain ⟨hf25,hf26⟩:=orF hf23;have hf27:=aC hf25;have hf28:=aC hf26;have hf29:=aC hf24;have hf30:=aC hf22;refine g' 2 O ?_;exact nx20 _ O O (kx 2 O O)
 refine g' 1 O ?_;refine tOr 18 2 (c:=decide (name=(⟨#[62,61]⟩:Ba))) O O O O O O (λhb31 nx32=>?_) ?_
 · obtain ⟨hf33,hf34⟩:=orF hb31;obtain ⟨hf35,hf36⟩:=orF hf33;obtain ⟨hf37,hf38⟩:=orF hf35;obtain ⟨hf39,hf40⟩:=orF hf37;have hf41:=aC hf39;have hf42:=aC hf40;have hf43:=aC hf38;have hf44:=aC hf36;have hf45:=aC hf34;refine g' 2 O ?_;exact nx32 _ O O (kx 2 O O)
 refine g' 4 O ?_;exact tRs O results13 (.cons (zc (za O) (cB ((by simp only[hasN,tEqq,tNe,tLt,tLe,tGt,tGe,jY,uB,jB,eq_comm (a:=name)];ac_rfl)))) .nil) O HSub.none ⟨O,O⟩
def aQo (m:List MatD) (hl:m.length<=0):
 CD prog 218 [] [.sh 3 (m.map MatD.d)] (isR (dB (rmD m))):=by
 refine tZ func218 O O (λC=>?_);refine T.bd 0 O (λbd0=>?_);have nl0:=zy bd0;refine g' 12 O (tl1 (λ(a_:Nat)=>[(0,.sh 3 (m.map MatD.d)),(3,dN a_)]) (λa_=>[]) (λa_=>(a_=0)) (λa_=>0) 0 O (sa O) w8 O ?_);rintro k hk;refine g' 5 O (tP O (zH (n:=m.length) O eJ (by simp only[lm,lc,ln])) (g' 3 O ?_));refine tD O (λhc1=>?_) (λhc1=>?_)
 · exfalso;omega
 refine g' 8 O (tP O (zH (n:=m.length) O eJ (by simp only[lm,lc,ln])) (g' 5 O ?_));exact tRs O results218 (.cons (zc (za O) (cB ((by exact aE (by omega))))) .nil) O HSub.none ⟨O,O⟩
def aLl {s:Rd} (hT:TOk s.l) (h:s.is7 5 zaq=true):False:=by
 unfold Rd.is7 at h;rw[cU] at h;exact aE4 hT h.2
def NdR7 (g:Nat) (p:Nd×Rd):D->List Hp->Prop:=λr H'=>∃ op text n mode names ms kids s',(Nd.mk op text n mode names ms kids,s')=p/\r=n7 op text n mode names ms kids/\H'=[RB7 g s']
section
variable {s z y s1 s2 s3 s4 s5:Rd} {t n c v:Ba} {x:TokD} {o ms:List MatD} {f:Nat} {mo w k:Int}
def aD9 (hl:0<s.l.length) (hx:s.l[0]?=some x) (h:x.k=1/\zef x.t=false) (e:(t,s1)=s.any 1):(t,s1)=s.selName7:=by unfold Rd.selName7;rw[aB ⟨hl,by rw[pk_x hx];exact h⟩,e]
def aDe (hx:s.l[0]?=some x) (h:¬x.k=1\/zef x.t=true):(ByteArray.empty,s)=s.selName7:=by
 unfold Rd.selName7;rw[aA];rw[pk_x hx];rintro ⟨_,a,b⟩;rcases h with h | h;exact h a;rw[b] at h;cases h
def aDc (hl:s.l.length=0):(ByteArray.empty,s)=s.selName7:=by unfold Rd.selName7;rw[aA (by omega)]
def aDw (e:(t,s1)=s.selName7):Stp 0 s s1:=by have h:=(selName7_sk (s:=s)).p;rw[<-e] at h;exact h
def aNx (h:¬s.is7 5 zaq=true) (ht:t=ByteArray.empty):([],(⟨s.l,s.n,true⟩:Rd))=s.selMs7 t:=by unfold Rd.selMs7;rw[aA h,aE ht];unfold Rd.bd;rw[vP]
def aNg (h:¬s.is7 5 zaq=true) (ht:¬t=ByteArray.empty):([],s)=s.selMs7 t:=by unfold Rd.selMs7;rw[aA h,aD ht,bd_f]
def aKe (e:(ms,s1)=s.selMs7 t):Stp 0 s s1:=by have h:=(sE (s:=s) (x:=t)).p;rw[<-e] at h;exact h
def aIj (h:s.is7 5 tSq=true) (e1:s1=s.must tSq) (e2:(t,s2)=s1.any 4) (e3:s3=s2.must tSqE):(numV t,s3)=s.selWin7:=by unfold Rd.selWin7 Rd.number;rw[aB h,<-e1,<-e2,e3]
def aId (h:¬s.is7 5 tSq=true):(0,s)=s.selWin7:=by unfold Rd.selWin7;rw[aA h]
def aH4 (e:(w,s1)=s.selWin7):Stp 0 s s1:=by have h:=(selWin7_sk (s:=s)).p;rw[<-e] at h;exact h
def aQm (e1:(t,s1)=s.selName7) (e2:(ms,s2)=s1.selMs7 t) (e3:(w,s3)=s2.selWin7) (e4:s4=⟨s3.l,s3.n,s3.b||!(rmD ms)⟩) (e5:s5=s4.node7):(Nd.mk nSel t w 0 [] ms [],s5)=s.sel7 rmD:=by
 unfold Rd.sel7;simp only;rw[<-e1];simp only;rw[<-e2];simp only;rw[<-e3,e5,e4];rfl
end
def aVv (g:Nat) (s:Rd) (hw:s.n+2*(s.l.length:Int)<=3000000) (hn:0<=s.n) (hT:TOk s.l):
 CD prog 167 [RB7 g s] [dP g 0] (NdR7 g (s.sel7 rmD)):=by
 refine tZ func167 O O (λC=>?_);refine g' 2 O ?_;refine tA O (λg1=>?_);refine g' 4 O (tP O (zm [0] [.const (.string ⟨#[115,101,108]⟩)] (zv:=n9) O O (.cons (CellD.v O) .nil) (eC) bV zei ⟨O,O,O,O,O,O,O,trivial⟩ O) ?_);refine tA O (λg2=>?_);refine gQ 4 [0] O O (mW (mB (h':=.bx g2 57 (.agg [.s nSel,.s ByteArray.empty,dI 0,dI 0,.sh 1 (([]:List Ba).map D.s),dZ,.sh 7 (Nd.ds ([]:List Nd))])) O (mC (Cv.agg (.cons cS (.cons cS (gc (gc (.cons Cv.nil (gc (.cons Cv.nil .nil)))))))))) ?_);refine tJ (λ(jg:Ba×Rd)=>[(0,dP g 0),(2,dP g1 0),(3,dP g2 0)]) (λ(jg:Ba×Rd)=>[.bx g2 57 (.agg [.s nSel,.s jg.1,dI 0,dI 0,.sh 1 (([]:List Ba).map D.s),dZ,.sh 7 (Nd.ds ([]:List Nd))]),.bx g1 57 n8,.bx g 93 (.agg [.sh 3 (jg.2.l.map TokD.d),dI jg.2.n,dB jg.2.b])]) (λ(jg:Ba×Rd)=>((jg.1,jg.2)=s.selName7)) (λ_ hQ3=>?_) ?_
 · refine g' 1 O ?_;rcases uE s.l.length with hl0 | hl0
   · have hl1:¬(0<((s.l.length:Nat):Int)):=(by omega);refine gQ 5 [2] O O (tP O (zH (n:=s.l.length) O aQ (by simp only[lm,lc,ln])) (tP O (zan O O (aD hl1)) (g' 25 O ?_)));exact tqe (hQ3 (ByteArray.empty,s) (aDc hl0)) O
   have hl1:(0<((s.l.length:Nat):Int)):=(by omega);obtain ⟨x1,hx1⟩:=zi s.l 0 (by omega);refine gQ 5 [2] O O (tP O (zH (n:=s.l.length) O aQ (by simp only[lm,lc,ln])) (tP O (zan O O (aE hl1)) (gQ 5 [2] O O (tG O (zf (k:=0) O O aQ aP (by first | rfl | omega) (zd hx1)) (g' 5 O ?_)))));refine tAnd 16 9 (c:=!(zef x1.t)) O O O O O O (λhb4 nx5=>?_) ?_
   · have hf6:=aF hb4;refine gQ 4 [2] O O (tG O (zf (k:=0) O O aQ aP (by first | rfl | omega) (zd hx1)) (g' 2 O (tW O acs (aVl x1.t) (g' 1 O ?_))));exact nx5 _ O O (kx 9 O O)
   refine g' 2 O ?_;refine tC O (λhc7=>?_) (λhc7=>?_)
   · simp only[bX,bJ] at hc7;refine g' 2 O (tX [2] O O acs (zeb g s 1 (by omega) (by omega) hT (by decide)) ?_);rintro _ _ ⟨t8,s8,e8,rfl,rfl⟩;obtain ⟨ka8,kb8,kc8,hT8⟩:=(zen e8).out hT;have kz8:=zek e8 hT;refine gQ 3 [1] O O (mY 2 O (mY 2 O ?_));exact tqe (hQ3 (t8,s8) (aD9 hl0 hx1 hc7 e8)) O
   simp only[bX,bJ] at hc7;refine g' 1 O ?_;exact tqe (hQ3 (ByteArray.empty,s) (aDe hx1 hc7)) O
 rintro ⟨t,z⟩ hsel
 replace hsel:(t,z)=s.selName7:=hsel
 refine T.kk [(0,dP g 0),(2,dP g1 0),(3,dP g2 0)] O (mX [.bx g2 57 (.agg [.s nSel,.s t,dI 0,dI 0,.sh 1 (([]:List Ba).map D.s),dZ,.sh 7 (Nd.ds ([]:List Nd))]),.bx g1 57 n8,RB7 g z] (by rfl) (g' 2 O ?_));obtain ⟨kx1,ky1,kz1,hTj1⟩:=(aDw hsel).out hT;refine tJ (λ(jg:List MatD×Rd)=>[(0,dP g 0),(2,dP g1 0),(3,dP g2 0)]) (λ(jg:List MatD×Rd)=>[.bx g2 57 (n7 nSel t 0 0 ([]:List Ba) jg.1 ([]:List Nd)),.bx g1 57 n8,.bx g 93 (.agg [.sh 3 (jg.2.l.map TokD.d),dI jg.2.n,dB jg.2.b])]) (λ(jg:List MatD×Rd)=>((jg.1,jg.2)=z.selMs7 t)/\(∀ x∈jg.1,x.n.size<=1000/\x.v.size<=1000)/\(jg.1.length<=0)) (λ_ hQ9=>?_) ?_
 · refine g' 3 O (tX [2] O O (ga (ga (.cons (ArgC.cv cS) .nil))) (zd0 g z 5 (⟨#[123]⟩:Ba) (by omega) (by omega) hTj1 (by decide)) ?_);rintro _ _ ⟨rfl,rfl⟩;refine g' 2 O ?_;refine tC O (λhc11=>?_) (λhc11=>?_)
   · exfalso;exact aLl hTj1 hc11
   refine gQ 7 [1] O O ?_;refine tD O (λhc12=>?_) (λhc12=>?_)
   · refine gQ 6 [0] O O (mY 1 O (mW (mB (h':=.bx g2 57 (n7 nSel t 0 0 ([]:List Ba) ([]:List MatD) ([]:List Nd))) O (mC (Cv.agg (gc (gc (gc (gc (gc (.cons Cv.nil (gc .nil)))))))))) (mY 1 O (mY 2 O (mY 2 O ?_)))));exact tqe (hQ9 (([]:List MatD),(⟨z.l,z.n,true⟩:Rd)) ⟨aNx (by simpa using hc11) hc12,(λx hx=>by cases hx),cT _⟩) O
   refine g' 1 O (mY 1 O (mW (mB (h':=.bx g2 57 (n7 nSel t 0 0 ([]:List Ba) ([]:List MatD) ([]:List Nd))) O (mC (Cv.agg (gc (gc (gc (gc (gc (.cons Cv.nil (gc .nil)))))))))) (mY 1 O (mY 2 O (mY 2 O ?_)))));exact tqe (hQ9 (([]:List MatD),z) ⟨aNg (by simpa using hc11) hc12,(λx hx=>by cases hx),cT _⟩) O
 rintro ⟨ms,y⟩ ⟨hms,hmq,hlq⟩
 replace hms:(ms,y)=z.selMs7 t:=hms
 replace hmq:∀ x∈ms,x.n.size<=1000/\x.v.size<=1000:=hmq
 replace hlq:ms.length<=0:=hlq
 refine T.kk [(0,dP g 0),(2,dP g1 0),(3,dP g2 0)] O (mX [.bx g2 57 (n7 nSel t 0 0 ([]:List Ba) ms ([]:List Nd)),.bx g1 57 n8,RB7 g y] (by rfl) (g' 2 O ?_));obtain ⟨kx2,ky2,kz2,hTj2⟩:=(aKe hms).out hTj1;refine tJ (λ(jg:Int×Rd)=>[(0,dP g 0),(2,dP g1 0),(3,dP g2 0)]) (λ(jg:Int×Rd)=>[.bx g2 57 (n7 nSel t jg.1 0 ([]:List Ba) ms ([]:List Nd)),.bx g1 57 n8,.bx g 93 (.agg [.sh 3 (jg.2.l.map TokD.d),dI jg.2.n,dB jg.2.b])]) (λ(jg:Int×Rd)=>((jg.1,jg.2)=y.selWin7)) (λ_ hQ13=>?_) ?_
 · refine g' 3 O (tX [2] O O (ga (ga (.cons (ArgC.cv cS) .nil))) (zd0 g y 5 (⟨#[91]⟩:Ba) (by omega) (by omega) hTj2 (by decide)) ?_);rintro _ _ ⟨rfl,rfl⟩;refine g' 2 O ?_;refine tC O (λhc15=>?_) (λhc15=>?_)
   · refine g' 3 O (tX [0] O O (ga (.cons (ArgC.cv cS) .nil)) (zcj g y (⟨#[91]⟩:Ba) (by omega) (by omega) hTj2) ?_);rintro _ _ ⟨s16,e16,rfl,rfl⟩;obtain ⟨ka16,kb16,kc16,hT16⟩:=(za9 e16).out hTj2;refine g' 5 O (tX [0] O O acs (zeb g s16 4 (by omega) (by omega) hT16 (by decide)) ?_);rintro _ _ ⟨t17,s17,e17,rfl,rfl⟩;obtain ⟨ka17,kb17,kc17,hT17⟩:=(zen e17).out hT16;have kz17:=zek e17 hT16;have hvd:DigO t17:=zfz e17 (by decide) hT16;refine tW O acs (ze4 t17 (by omega) hvd) (gQ 6 [1] O O (tX [0] O O (ga (.cons (ArgC.cv cS) .nil)) (zcj g s17 (⟨#[93]⟩:Ba) (by omega) (by omega) hT17) ?_));rintro _ _ ⟨s18,e18,rfl,rfl⟩;obtain ⟨ka18,kb18,kc18,hT18⟩:=(za9 e18).out hT17;refine g' 1 O (mY 2 O (mY 2 O ?_));exact tqe (hQ13 (numV t17,s18) (aIj hc15 e16 e17 e18)) O
   refine g' 1 O (mY 2 O (mY 2 O ?_));exact tqe (hQ13 (0,y) (aId (by simpa using hc15))) O
 rintro ⟨w,v⟩ hwi
 replace hwi:(w,v)=y.selWin7:=hwi
 refine T.kk [(0,dP g 0),(2,dP g1 0),(3,dP g2 0)] O (mX [.bx g2 57 (n7 nSel t w 0 ([]:List Ba) ms ([]:List Nd)),.bx g1 57 n8,RB7 g v] (by rfl) (g' 2 O ?_));obtain ⟨kx3,ky3,kz3,hTj3⟩:=(aH4 hwi).out hTj2;refine gQ 7 [2] O O ?_;refine tOr 5 4 (c:=!(rmD ms)) O O O O O O (λhb19 nx20=>?_) ?_
 · refine gQ 2 [0] O O (tW O acs (aQo ms hlq) (g' 1 O ?_));exact nx20 _ O O (kx 4 O O)
 refine gQ 6 [2] O O ?_;obtain ⟨s21,e21⟩:∃ x:Rd,x=⟨v.l,v.n,(v.b||!(rmD ms))⟩:=⟨_,rfl⟩;have hl21:s21.l=v.l:=by rw[e21]
 have hn21:s21.n=v.n:=by rw[e21]
 have hT21:TOk s21.l:=by rw[hl21];exact hTj3
 have hk21:s21.l.length=v.l.length:=by rw[hl21]
 refine mX [.bx g2 57 (n7 nSel t w 0 ([]:List Ba) ms ([]:List Nd)),.bx g1 57 n8,RB7 g s21] (by rw[e21]<;>rfl) (gQ 3 [0] O O (tX [2] O O acs (zfu g s21 (.s nSel) (.s t) (dI w) (dI 0) (.sh 1 (([]:List Ba).map D.s)) (.sh 3 (ms.map MatD.d)) (.sh 7 (Nd.ds ([]:List Nd))) (by omega) (by omega) hT21) ?_));rintro _ _ ⟨s22,e22,rfl,rfl⟩;obtain ⟨ka22,kb22,kc22,hT22⟩:=(zft e22).out hT21;refine gQ 4 [2] O O ?_;exact tRs O results167 (.cons (zu (i:=2) O O bS aY O O) .nil) O (mO 1 O) ⟨nSel,t,w,0,([]:List Ba),ms,([]:List Nd),⟨s22.l,s22.n,s22.b⟩,aQm hsel hms hwi e21 e22,O,O⟩
end Lp
