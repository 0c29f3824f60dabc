import Derived.Test.YtheccaeefigajaaGreatDoorPRefW
set_option linter.unusedSimpArgs false
set_option linter.unusedVariables false
set_option maxHeartbeats 4000000
set_option maxRecDepth 100000
namespace Lp
open Go Go.RowKit Go.Proofs Tryz
abbrev RB7 (g:Nat) (s:Rd):Hp:=.bx g 106 (.agg [.sh 3 (s.l.map TokD.d),dI s.n,dB s.b])
section
variable {s z y s1 s2 s3:Rd} {k:Int} {t:ByteArray} {x:TokD} {o l:List ByteArray} {f:Nat}
theorem a0b (h:s.b=true):false=s.is7 k t:=by unfold Rd.is7;rw[h];rfl
theorem aZb (h:s.l.length=0) (hk:k≠0):false=s.is7 k t:=by unfold Rd.is7 Rd.is;rw[pk_0 h,aD (show ¬zbm.k=k from λe=>hk e.symm)];simp
theorem a0y (hb:s.b=false) (hx:s.l[0]?=some x):(decide (x.k=k)&&decide (x.t=t))=s.is7 k t:=by
 unfold Rd.is7 Rd.is;rw[pk_x hx,hb];unfold hasN;simp only[jL,jX,dQ,uF,Bool.not_false];exact aG _ (decide_eq_decide.2 eq_comm)
theorem aS6 (h:s.is7 5 t=true):(⟨(s.l.take s.l.length).drop 1,s.n,s.b⟩:Rd)=s.must t:=by
 obtain ⟨_,hb⟩:=aLi (by decide) h;rw[zet hb (by rw[<-zb3 hb];exact h),pV];rfl
theorem aVx (h:¬s.is7 5 t=true):(⟨s.l,s.n,true⟩:Rd)=s.must t:=by
 rw[yQ,aB];unfold Rd.is7 at h;cases hb:s.b with
 | true=>exact .inl rfl
 | false=>rw[hb] at h;exact .inr (by simpa using h)
theorem zfp (h:s.is7 k t=true) (hk:k≠0):0<s.l.length:=dE.2 (aLi hk h).1
theorem aRx (e:(t,s1)=s.any k) (hk:k≠0):s1.b=true\/s1.l.length+1=s.l.length:=by
 by_cases h:s.b=true\/s.pk.k≠k
 · rw[zeh h] at e;injection e with _ e;rw[e];exact .inl rfl
 exact .inr (a0g e hk (by cases hb:s.b with | true=>exact aH (.inl hb) h | false=>rfl) (Decidable.byContradiction λe=>h (.inr e))).1
theorem aBb (h:z.b=true\/z.is7 5 zx=true):zaO f o z=(o,z):=by cases f<;>unfold zaO;rfl;rw[aB h]
theorem aKn (h:¬(z.b=true\/z.is7 5 zx=true)) (hy:y=if 0<o.length then z.must zu else z) (e:(t,s1)=y.any 1):zaO (f+1) o z=zaO f (o++[t]) s1:=by
 conv=>lhs;unfold zaO
 rw[aA h];simp only;rw[<-hy,<-e]
theorem aIm (e:s1=s.must zl) (hf:zaO (s1.l.length+1) [] s1=(o,s2)) (e2:s3=s2.must zx):(o,s3)=s.names7:=by unfold Rd.names7;simp only;rw[<-e,hf,e2]
theorem aDg (e:(l,s1)=s.names7):Stp 0 s s1:=by have h:=(rC (s:=s)).p;rw[<-e] at h;exact h
theorem aKr (hy:y=if 0<f then z.must zu else z):Stp 0 z y:=by rw[hy];split;exact zr z _;exact mS z
theorem zfl (e:s1=s.node7):Stp 1 s s1:=by rw[e];exact zbg.p
def DigO (t:ByteArray):Prop:=t=ByteArray.empty\/∃ v:Nat,v<=1000000000000/\t=digB v
theorem aCl:∀ (b a:List UInt8),digV a<=digV (a++b)
 | [],a=>by rw[jN];exact cU _
 | x::b,a=>by
  have h:=aCl b (a++[x]);rw[iF,dM] at h;rw[show x::b=[x]++b from rfl];omega
theorem DigO.v (h:DigO t) (i:Nat):digV ((bl8 t).take i)<=1000000000000:=by
 have h1:=aCl ((bl8 t).drop i) ((bl8 t).take i);rw[d8] at h1;rcases h with rfl | ⟨v,hv,rfl⟩
 · exact dY h1 (by decide)
 rw[zd8,iH] at h1;rw[zd8];omega
theorem DigO.d (h:DigO t) {i:Nat} {u:UInt8} (hx:t[i]?=some u):48<=u.toNat/\u.toNat<=57:=by
 have h1:=dT (aC9 hx);rcases h with rfl | ⟨v,hv,rfl⟩
 · exact aH h1 (by rw[show bl8 ByteArray.empty=[] from O];simp)
 rw[zd8] at h1;exact kT v u h1
theorem rN {i v:Nat} {u:UInt8} (hv:v=digV ((bl8 t).take i)) (hx:t[i]?=some u):v*10+(u.toNat-48)=digV ((bl8 t).take (i+1)):=by rw[za9 (aC9 hx),iF,hv,Nat.mul_comm]
theorem aGo {i v:Nat} (hv:v=digV ((bl8 t).take i)) (hi:t.size<=i):((v:Nat):Int)=numV t:=by rw[hv,dL (by rw[zV];exact hi)];rfl
end
theorem zdD (g:Nat) (s:Rd) (k:Int) (t:ByteArray) (hw:s.n+2*(s.l.length:Int)<=3000000) (hn:0<=s.n) (hT:TOk s.l) (hk:k≠0):
 CD prog 90 [RB7 g s] [dP g 0,dI k,.s t] (λr H'=>r=dB (s.is7 k t)/\H'=[RB7 g s]):=by
 refine tZ func90 O O (λC=>?_);refine T.bd 2 O (λbd2=>?_);have sz2:t.size<=9223372036854775807:=bd2;refine g' 6 O ?_;rcases jU s.b with hb0 | hb0
 · refine g' 4 O (tP O ((zf O (i:=0) O bS O).cv (cB ((hb0)))) (g' 35 O ?_));exact tRs O results90 (.cons (zd (zc O) (Cv.eq (aG dB (show false=s.is7 k t from by first | exact a0b hb0 | exact aZb hl0 hk)))) .nil) O (mP 1 O) ⟨O,O⟩
 rcases jT s.l.length with hl0 | hl0
 · have hl1:¬(0<((s.l.length:Nat):Int)):=(by omega);have hl2:(((s.l.length:Nat):Int)=0):=(by omega);refine g' 4 O (tP O ((zf O (i:=0) O bS O).cv (cB ((hb0)))) (gQ 6 [0] O O (tG O (zaa (n:=s.l.length) O aO (by simp only[lm,lc,ln])) (tG O (zcB O O (aD hl1)) (g' 27 O ?_)))));exact tRs O results90 (.cons (zd (zc O) (Cv.eq (aG dB (show false=s.is7 k t from by first | exact a0b hb0 | exact aZb hl0 hk)))) .nil) O (mP 1 O) ⟨O,O⟩
 have hl1:(0<((s.l.length:Nat):Int)):=by omega
 have hl2:¬(((s.l.length:Nat):Int)=0):=by omega
 obtain ⟨x1,hx1⟩:=zO s.l 0 (by omega);refine g' 4 O (tP O ((zf O (i:=0) O bS O).cv (cB ((hb0)))) (gQ 6 [0] O O (tG O (zaa (n:=s.l.length) O aO (by simp only[lm,lc,ln])) (tG O (zcB O O (aE hl1)) (gQ 6 [0] O O (tG O (zh (k:=0) O O aO aP (by first | rfl | omega) (zI hx1)) (g' 6 O ?_)))))));refine tAnd 24 9 (c:=decide (x1.t=t)) O O O O O O (λhb1 nx2=>?_) ?_
 · have hf3:=aF hb1;refine gQ 4 [0] O O (tG O (zh (k:=0) O O aO aP (by first | rfl | omega) (zI hx1)) (g' 4 O ?_));exact nx2 _ O O (kx 9 O O)
 refine g' 4 O ?_;exact tRs O results90 (.cons (zd (zc O) (Cv.eq (aG dB (show (decide (x1.k=k)&&decide (x1.t=t))=s.is7 k t from a0y hb0 hx1)))) .nil) O (mP 1 O) ⟨O,O⟩
theorem zcV (g:Nat) (s:Rd) (k:Int) (hw:s.n+2*(s.l.length:Int)<=3000000) (hn:0<=s.n) (hT:TOk s.l) (hk:k≠0):
 CD prog 91 [RB7 g s] [dP g 0,dI k] (λr H'=>∃ t s',(t,s')=s.any k/\r=.s t/\H'=[RB7 g s']):=by
 refine tZ func91 O O (λC=>?_);refine g' 7 O ?_;rcases jU s.b with hb0 | hb0
 · refine g' 4 O (tP O ((zf O (i:=0) O bS O).cv (cB ((hb0)))) (g' 21 O ?_));have hor:s.b=true\/s.pk.k≠k:=(by first | exact .inl hb0 | (right;rw[pk_0 hl0];exact λe=>hk e.symm));refine gQ 16 [0] O O ?_;exact tRs O results91 (.cons (zd (zc O) (cS)) .nil) O (mP 1 O) ⟨_,⟨s.l,s.n,true⟩,(zeh hor).symm,O,O⟩
 rcases jT s.l.length with hl0 | hl0
 · have hl1:¬(0<((s.l.length:Nat):Int)):=(by omega);have hl2:(((s.l.length:Nat):Int)=0):=(by omega);refine g' 4 O (tP O ((zf O (i:=0) O bS O).cv (cB ((hb0)))) (gQ 5 [0] O O (tG O (zaa (n:=s.l.length) O aO (by simp only[lm,lc,ln])) (tG O (zaA O O (aE hl2)) (g' 14 O ?_)))));have hor:s.b=true\/s.pk.k≠k:=(by first | exact .inl hb0 | (right;rw[pk_0 hl0];exact λe=>hk e.symm));refine gQ 16 [0] O O ?_;exact tRs O results91 (.cons (zd (zc O) (cS)) .nil) O (mP 1 O) ⟨_,⟨s.l,s.n,true⟩,(zeh hor).symm,O,O⟩
 have hl1:(0<((s.l.length:Nat):Int)):=by omega
 have hl2:¬(((s.l.length:Nat):Int)=0):=by omega
 obtain ⟨x1,hx1⟩:=zO s.l 0 (by omega);refine g' 4 O (tP O ((zf O (i:=0) O bS O).cv (cB ((hb0)))) (gQ 5 [0] O O (tG O (zaa (n:=s.l.length) O aO (by simp only[lm,lc,ln])) (tG O (zaA O O (aD hl2)) (gQ 6 [0] O O (tG O (zh (k:=0) O O aO aP (by first | rfl | omega) (zI hx1)) (g' 7 O ?_)))))));refine tD O (λhc1=>?_) (λhc1=>?_)
 · have hor:s.b=true\/s.pk.k≠k:=(by right;rw[pk_x hx1];exact hc1);refine gQ 15 [0] O O ?_;exact tRs O results91 (.cons (zd (zc O) (cS)) .nil) O (mP 1 O) ⟨_,⟨s.l,s.n,true⟩,(zeh hor).symm,O,O⟩
 have hand:s.b=false/\s.pk.k=k:=by rw[pk_x hx1];exact⟨hb0,by simpa using hc1⟩
 have hne:=aLf hk hand.2;refine gQ 8 [0] O O (tP O (zh (k:=0) O O aO aP (by first | rfl | omega) (zI hx1)) (gQ 12 [0] O O (tP O ((zbG (a:=1) (b:=s.l.length) O O O (by first | rfl | (show _=_;(try simp only[lm]);omega) | exact cV _) (by first | rfl | (show _=_;(try simp only[lm]);omega) | exact cV _) aO aP (by omega) (by simp only[lm];omega)).cv (Cv.eq (by rw[<-jK,<-jQ]))) (gQ 12 [0] O O ?_))));exact tR O (mP 1 O) ⟨_,⟨((s.l.take s.l.length).drop 1),s.n,s.b⟩,(by rw[aQ3 hand.1 hand.2,pk_x hx1]),O,O⟩
theorem zb2 (g:Nat) (s:Rd) (t:ByteArray) (hw:s.n+2*(s.l.length:Int)<=3000000) (hn:0<=s.n) (hT:TOk s.l):
 CD prog 167 [RB7 g s] [dP g 0,.s t] (λr H'=>∃ s',s'=s.must t/\r=.tup []/\H'=[RB7 g s']):=by
 refine tZ func167 O O (λC=>?_);refine T.bd 1 O (λbd1=>?_);have sz1:t.size<=9223372036854775807:=bd1;refine g' 5 O (tX [0] O O acs (zdD g s 5 t (by omega) (by omega) hT (by decide)) ?_);rintro _ _ ⟨rfl,rfl⟩;refine g' 3 O ?_;refine tC O (λhc2=>?_) (λhc2=>?_)
 · simp only[bX,bJ] at hc2;refine gQ 10 [0] O O ?_;exact tR O (mP 1 O) ⟨⟨s.l,s.n,true⟩,aVx (by simpa using hc2),O,O⟩
 simp only[bX,bJ] at hc2;have hne:=zfp (by simpa using hc2) (by decide);refine gQ 8 [0] O O (tP O ((zbG (a:=1) (b:=s.l.length) O O O (by first | rfl | (show _=_;(try simp only[lm]);omega) | exact cV _) (by first | rfl | (show _=_;(try simp only[lm]);omega) | exact cV _) aO aP (by omega) (by simp only[lm];omega)).cv (Cv.eq (by rw[<-jK,<-jQ]))) (gQ 4 [0] O O ?_));exact tR O (mP 1 O) ⟨⟨((s.l.take s.l.length).drop 1),s.n,s.b⟩,aS6 (by simpa using hc2),O,O⟩
theorem zfm (g:Nat) (s:Rd) (x0 x1 x2 x3 x4 x5 x6:D) (hw:s.n+2*(s.l.length:Int)<=3000000) (hn:0<=s.n) (hT:TOk s.l):
 CD prog 142 [RB7 g s] [dP g 0,.agg [x0,x1,x2,x3,x4,x5,x6]] (λr H'=>∃ s',s'=s.node7/\r=.agg [x0,x1,x2,x3,x4,x5,x6]/\H'=[RB7 g s']):=by
 refine tZ func142 O O (λC=>?_);refine T.bd 1 O (λbd1=>?_);refine g' 2 O ?_;refine tA O (λg1=>?_);refine tA O (λg2=>?_);refine gQ 8 [2] O O (tP O (zE (c:=(s.n+1)) O O (zp (by omega) (by omega))) (gQ 12 [2,1,0] O O (kA 2 O ?_)));exact tRs O results142 (.cons (zn (i:=1) O O aW aN O O) .nil) O (mP 1 O) ⟨⟨s.l,(s.n+1),s.b⟩,O,O,O⟩
theorem zeU (t:ByteArray) (hz:t.size<=1000000) (hd:DigO t):
 CD prog 92 [] [.s t] (isR (dI (numV t))):=by
 refine tZ func92 O O (λC=>?_);refine T.bd 0 O (λbd0=>?_);have sz0:t.size<=9223372036854775807:=bd0;refine g' 17 O (tl2 (λ(a_:Nat) (b_:Nat)=>[(0,.s t),(2,dI 0),(4,dN a_),(3,dN b_)]) (λa_ b_=>[]) (λa_ b_=>(b_=digV ((bl8 t).take a_))/\(a_<=t.size)) (λa_ b_=>t.size-a_) 0 0 O (sa O) w9 ⟨O,cX _⟩ ?_);rintro i v ⟨hv,hi⟩;refine g' 5 O (tP O (zw O aK) (g' 3 O ?_));refine tD O (λhc1=>?_) (λhc1=>?_)
 · refine g' 4 O ?_;obtain ⟨u,hu⟩:=zaM t i (by omega);have hdu:=hd.d hu;have hvn:=hd.v i;have hvm:=hd.v (i+1);rw[<-rN hv hu] at hvm;rw[<-hv] at hvn;refine g' 2 O (tP O (zeR (c:=((v*10:Nat):Int)) O O (zp (by omega) (by omega))) (g' 2 O (tP O (zt (k:=i) O O aK (by first | rfl | omega) hu) (tP O (zci (c:=((u.toNat-48:Nat):Int)) O O (by rw[show ((u.toNat:Nat):Int)-(48:Int)=((u.toNat-48:Nat):Int) by omega];exact zd3 (n:=u.toNat-48) (by omega))) (tP O (za3 O (c:=((u.toNat-48:Nat):Int)) (aD0 (by omega))) (tP O (zE (c:=(((v*10)+(u.toNat-48):Nat):Int)) O O (zp (by omega) (by omega))) (g' 6 O (tP O (zE (c:=((i+1:Nat):Int)) O O (zp (by omega) (by omega))) (g' 2 O ?_)))))))));exact tp2 (i+1) ((v*10)+(u.toNat-48)) (sa O) w9 ⟨rN hv hu,by omega⟩ (by omega)
 refine g' 12 O ?_;exact tRs O results92 (.cons (zd (zc O) (Cv.eq (aG (λn=>D.v (.int .i64 n)) (by exact aGo hv (by omega))))) .nil) O mO ⟨O,O⟩
theorem aC1 (g:Nat) (s:Rd) (hw:s.n+2*(s.l.length:Int)<=3000000) (hn:0<=s.n) (hT:TOk s.l):
 CD prog 141 [RB7 g s] [dP g 0] (λr H'=>∃ l s',(l,s')=s.names7/\r=.sh 1 (l.map D.s)/\H'=[RB7 g s']):=by
 refine tZ func141 O O (λC=>?_);refine g' 13 O (tX [0] O O (ga (.cons (ArgC.cv cS) .nil)) (zb2 g s (⟨#[40]⟩:ByteArray) (by omega) (by omega) hT) ?_);rintro _ _ ⟨s1,e1,rfl,rfl⟩;obtain ⟨ka1,kb1,kc1,hT1⟩:=(zaL e1).out hT;refine g' 4 O (tl4 (λ(a_:Nat) (b_:Rd) (c_:Value) (d_:List ByteArray)=>[(0,dP g 0),(2,dZ),(3,.ov c_)]) (λa_ b_ c_ d_=>[.sl c_ 1 9 (d_.map D.s),RB7 g b_]) (λa_ b_ c_ d_=>(b_.b=true\/b_.l.length<a_)/\(zaO a_ d_ b_=zaO (s1.l.length+1) [] s1)/\(b_.n+2*(b_.l.length:Int)<=3000000)/\(0<=b_.n)/\(TOk b_.l)/\(d_.length+a_<=1500001)) (λa_ b_ c_ d_=>a_) (s1.l.length+1) s1 (.slice none 0 0) [] O ⟨sk O,sk O,sc O (Cv.ov O),trivial⟩ (HSub.nil 1 9) ⟨.inr (jB _),O,(by omega),(by omega),hT1,(by show 0+_<=_;omega)⟩ ?_);rintro f z ov o ⟨hlf,hf,hzw,hzn,hz,hol⟩;refine gQ 9 [1] O O ?_;refine tAnd 5 3 (c:=!((z.is7 5 (⟨#[41]⟩:ByteArray)))) O O O O O O (λhb2 nx3=>?_) ?_
 · have hf4:=notT hb2;refine g' 1 O (tX [1] O O (ga (ga (.cons (ArgC.cv cS) .nil))) (zdD g z 5 (⟨#[41]⟩:ByteArray) (by omega) (by omega) hz (by decide)) ?_);rintro _ _ ⟨rfl,rfl⟩;refine g' 1 O (kA 1 O ?_);exact nx3 _ O O (kx 3 O O)
 refine g' 2 O ?_;refine tC O (λhc6=>?_) (λhc6=>?_)
 · simp only[bX,bJ] at hc6;have hst:¬(z.b=true\/z.is7 5 zx=true):=(by have h:=hc6;rintro (k | k);(rw[k] at h;exact aH h.1 (by decide));(rw[k] at h;exact aH h.2 (by decide)));have hzl:z.l.length<f:=hlf.resolve_left λk=>hst (.inl k)
   obtain ⟨f,rfl⟩:∃ k,f=k+1:=⟨f-1,by omega⟩;refine g' 4 O ?_;refine tJ (λ(jg:Rd)=>[(0,dP g 0),(2,dZ),(3,.ov ov),(6,dP g 0),(7,dP g 0),(8,dP g 2),(9,dB z.b),(10,dB (!z.b)),(11,dB (!z.b)),(15,dB (!z.b&&!((z.is7 5 (⟨#[41]⟩:ByteArray)))))]) (λ(jg:Rd)=>[.sl ov 1 9 (o.map D.s),RB7 g jg]) (λ(jg:Rd)=>(jg=if 0<o.length then z.must zu else z)) (λ_ hQ7=>?_) ?_
   · refine g' 3 O (tP O (zan (n:=o.length) (j:=0) O O aL (cV _)) (g' 3 O ?_));refine tD O (λhc8=>?_) (λhc8=>?_)
     · refine g' 2 O (tX [1] O O (ga (.cons (ArgC.cv cS) .nil)) (zb2 g z (⟨#[44]⟩:ByteArray) (by omega) (by omega) hz) ?_);rintro _ _ ⟨s9,e9,rfl,rfl⟩;obtain ⟨ka9,kb9,kc9,hT9⟩:=(zaL e9).out hz;refine g' 1 O (kA 1 O ?_);exact tqe (hQ7 s9 (by rw[aB (by omega)];exact e9)) O
     refine g' 1 O ?_;exact tqe (hQ7 z ((aA (by omega)).symm)) O
   rintro y hy;refine g' 1 O ?_;obtain ⟨kx,ky,kw,hTy⟩:=(aKr hy).out hz;refine g' 3 O (tX [1] O O acs (zcV g y 1 (by omega) (by omega) hTy (by decide)) ?_);rintro _ _ ⟨t10,s10,e10,rfl,rfl⟩;obtain ⟨ka10,kb10,kc10,hT10⟩:=(zc6 e10).out hTy;have kz10:=zcR e10 hTy;refine tE O (Qu.ef (d:=.sh 1 ([t10].map D.s)) (zi [.tmp 23] O O (.cons CellD.s .nil) O aL aT aX O O O O)) ?_;rintro _ _ ⟨rfl,rfl⟩;refine tE O (zP (f:=D.s) (l:=o) (l':=[t10]) (i:=1) O O O (SrcD.sh) aGw aIn O O (by unfold maxLen;(try simp only[la,lc,ln,lm,lt',ld,ls,lr]);omega) (by (try simp only[la,lc,ln,lm,lt',ld,ls,lr]);omega)) ?_;rintro _ _ ⟨v11,rfl,rfl⟩;refine g' 3 O (kA 1 O ?_);exact tp4 f s10 v11 (o++[t10]) (sa O) w9 ⟨(aRx e10 (by decide)).imp id (by omega),(aKn hst hy e10).symm.trans hf,by omega,by omega,hT10,by simp only[la,cT];omega⟩ (by omega)
 simp only[bX,bJ] at hc6;have hff:=hf.symm.trans (aBb (by have h:=hc6;rcases h with h | h;exact .inl (by simpa using h);exact .inr (by simpa using h)));refine g' 8 O (tX [1] O O (ga (.cons (ArgC.cv cS) .nil)) (zb2 g z (⟨#[41]⟩:ByteArray) (by omega) (by omega) hz) ?_);rintro _ _ ⟨s12,e12,rfl,rfl⟩;obtain ⟨ka12,kb12,kc12,hT12⟩:=(zaL e12).out hz;refine g' 9 O (kA 1 O (m7 (Mv.freeze (K':=[(0,dP g 0),(2,.sh 1 (o.map D.s)),(3,.sh 1 (o.map D.s)),(6,dP g 0),(7,dP g 0),(8,dP g 2),(9,dB z.b),(10,dB (!z.b)),(11,dB (!z.b)),(15,dB (!z.b&&!((z.is7 5 (⟨#[41]⟩:ByteArray))))),(26,dP g 0),(27,.tup []),(28,.sh 1 (o.map D.s))]) [.sl ov 1 9 (o.map D.s)] (H1:=[RB7 g s12]) (H1':=[RB7 g s12]) ⟨⟨_,O,mJ⟩,⟨_,O,mK (j:=0) O O⟩,⟨_,O,mK (j:=0) O O⟩,⟨_,O,mJ⟩,⟨_,O,mJ⟩,⟨_,O,mJ⟩,⟨_,O,mJ⟩,⟨_,O,mJ⟩,⟨_,O,mJ⟩,⟨_,O,mJ⟩,⟨_,O,mJ⟩,⟨_,O,mJ⟩,⟨_,O,mK (j:=0) O O⟩,trivial⟩ (.same .nil)) ?_));exact tR O (mP 1 O) ⟨o,⟨s12.l,s12.n,s12.b⟩,aIm e1 hff e12,O,O⟩
end Lp
