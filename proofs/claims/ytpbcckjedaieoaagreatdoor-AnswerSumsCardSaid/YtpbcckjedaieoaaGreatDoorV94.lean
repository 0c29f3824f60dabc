import Derived.Test.YtpbcckjedaieoaaGreatDoorV92
set_option linter.unusedSimpArgs false
set_option linter.unusedVariables false
set_option maxHeartbeats 4000000
set_option maxRecDepth 100000
namespace Lp
open Go Go.RowKit Go.Proofs Tryz
theorem zfT:BdP prog #[⟨"all",4,0,false, "", "leporello/pattern",0⟩,⟨"not",4,1,false, "", "leporello/pattern",1⟩,⟨"items",333,2,false, "", "leporello/pattern",8⟩] [(0,1),(1,1),(2,1)]:=λ_=>by kernel_rfl
theorem infz_364:IzP prog 364 (.agg #[(.int .i32 0),(.int .i32 0)]) 2 8:=zbg (by kernel_rfl)
theorem und_333:Tryz.prog.underlying 333=some (.slice 364):=by kernel_rfl
section
variable {s s' s1 s2 s3 s4 z:PR} {a b c:Int} {q nt:Bool} {o:List RngD} {f:Nat} {x:RngD}
theorem ptake_f (e:(q,s')=s.take c) (h:¬q=true):s=s':=by
 have h2:s'=(s.take c).2:=congrArg Prod.snd e;have h3:¬s.has c=true:=λk=>h ((zaU e).2.2.2.trans k)
 rw[h2];unfold PR.take;rw[if_neg h3]
theorem pitem_1 (e:(a,s1)=s.member) {x0 x1:Int} (h0:s1.l[0]?=some x0) (h1:s1.l[1]?=some x1) (h:x0=45/\x1≠93) (e2:(c,s2)=s1.any) (e3:(b,s3)=s2.member):(⟨a,b⟩,s3)=s.item:=by
 unfold PR.item;rw[<-e];have hc:1<s1.l.length/\s1.l.headD 0=45/\s1.l.tail.headD 0≠93:=by
  cases el:s1.l with
  | nil=>rw[el] at h0;cases h0
  | cons y r=>
   rw[el] at h0 h1;cases r with
   | nil=>cases h1
   | cons y' r=>simp at h0 h1;subst h0;subst h1;exact⟨by simp,h.1,h.2⟩
 simp only[if_pos hc];rw[<-e2];simp only;rw[<-e3]
theorem pitem_0 (e:(a,s1)=s.member) {x0 x1:Int} (h0:s1.l[0]?=some x0) (h1:s1.l[1]?=some x1) (h:¬(x0=45/\x1≠93)):(⟨a,a⟩,s1)=s.item:=by
 unfold PR.item;rw[<-e];have hc:¬(1<s1.l.length/\s1.l.headD 0=45/\s1.l.tail.headD 0≠93):=by
  cases el:s1.l with
  | nil=>rw[el] at h0;cases h0
  | cons y r=>
   rw[el] at h0 h1;cases r with
   | nil=>cases h1
   | cons y' r=>simp at h0 h1;subst h0;subst h1;exact λk=>h ⟨k.2.1,k.2.2⟩
 simp only[if_neg hc]
theorem pitem_s (e:(a,s1)=s.member) (h:¬1<s1.l.length):(⟨a,a⟩,s1)=s.item:=by
 unfold PR.item;rw[<-e];simp only[if_neg (λk:1<s1.l.length/\_=>h k.1)]
theorem class_bad (h:z.b=true):zbr nt (f+1) o z=(⟨false,nt,o⟩,z):=by unfold zbr;rw[if_pos h]
theorem class_end (h:z.b=false) (ho:0<o.length) (e:(q,s1)=z.take 93) (hq:q=true):zbr nt (f+1) o z=(⟨false,nt,o⟩,s1):=by
 unfold zbr;rw[if_neg (by rw[h];simp),if_pos ⟨ho,(zaU e).2.2.2.symm.trans hq⟩,<-e]
theorem class_no (h:z.b=false) (h93:¬(0<o.length/\z.has 93=true)) (hn:z.l.length=0\/z.any.1=93):zbr nt (f+1) o z=(⟨false,nt,o⟩,⟨z.l,true⟩):=by
 unfold zbr;rw[if_neg (by rw[h];simp),if_neg h93,if_pos];rcases hn with k | k
 · exact .inl (jV.1 k)
 by_cases h0:0<z.l.length
 · exact .inr (zet.2 ⟨h0,k⟩)
 exact .inl (jV.1 (by omega))
theorem class_go (h:z.b=false) (h93:¬(0<o.length/\z.has 93=true)) (hn:0<z.l.length/\z.any.1≠93) (e:(x,s1)=z.item):zbr nt (f+1) o z=zbr nt f (o++[x]) ⟨s1.l,s1.b||decide (x.hi<x.lo)⟩:=by
 conv=>lhs;unfold zbr
 rw[if_neg (by rw[h];simp),if_neg h93,if_neg]
 · simp only;rw[<-e]
 rintro (k | k)
 · rw[k] at hn;exact absurd hn.1 (by simp)
 exact hn.2 (zet.1 k).2
theorem class_of (e:(q,s1)=s.take 94) {st:SetD} (hf:zbr q (s1.l.length+2) [] s1=(st,s')):(st,s')=s.cls:=by unfold PR.cls;rw[<-e,hf]
end
theorem pclass_c (g:Nat) (s:PR) (hl:s.l.length<=1000000) (hT:ROk s.l):
 CD prog 297 [.bx g 330 (.agg [.sh 1 (s.l.map dR),dB s.b])] [dP g 0] (λr H'=>∃ st s',(st,s')=s.cls/\r=.agg [dB st.all,dB st.nt,.sh 2 (st.items.map RngD.d)]/\H'=[PB g s']):=by
 refine tZ func297 O O (λC=>?_);refine g' 2 O ?_;refine tA O (λg1=>?_);refine g' 5 O (tX [1] O O acs (zea g s (94:Int) (by omega) hT) ?_);rintro _ _ ⟨q2,s2,e2,rfl,rfl⟩;obtain ⟨kl2,kb2,kc2,ke2⟩:=zaU e2;have hT2:=hT.suf kl2;have kd2:=kl2.length_le;refine tP O (zr [1] [.tmp 8] (zv:=cC) O O (.cons (CellD.v O) .nil) (runUnderlying335) zeroValue335 zfT ⟨O,O,O,trivial⟩ O) ?_;refine tA O (λg3=>?_);refine gQ 5 [0] O O (kC (HSub.nil 2 364) (kE 1 O (kC (mG (h':=.bx g3 335 (.agg [dB false,dB q2,.ov (.slice none 0 0)])) O (mH (Cv.agg (gc (gc (.cons (Cv.ov O) .nil)))))) (kE 2 O (kE 2 O (kE 2 O (kE 3 O (tl4 (λ(a_:Nat) (b_:PR) (c_:Value) (d_:List RngD)=>[(0,dP g 0),(2,dP g1 0),(3,dP g3 0)]) (λa_ b_ c_ d_=>[.bx g1 335 cT,.bx g3 335 (.agg [dB false,dB q2,.ov c_]),.sl c_ 2 364 (d_.map RngD.d),.bx g 330 (.agg [.sh 1 (b_.l.map dR),dB b_.b])]) (λa_ b_ c_ d_=>(b_.l.length<a_)/\(zbr q2 a_ d_ b_=zbr q2 (s2.l.length+2) [] s2)/\(ROk b_.l)/\(d_.length+b_.l.length<=1000000)) (λa_ b_ c_ d_=>a_) (s2.l.length+2) s2 (.slice none 0 0) [] O (sa O) mD ⟨(by omega),O,hT2,(by show 0+s2.l.length<=_;omega)⟩ ?_))))))));rintro f z ov o ⟨hlf,hf,hz,hol⟩;obtain ⟨f,rfl⟩:∃ k,f=k+1:=⟨f-1,by omega⟩;refine gQ 10 [3] O O ?_;refine tC O (λhc4=>?_) (λhc4=>?_)
 · simp only[bX,bJ] at hc4;have hzb:z.b=false:=(by simpa using hc4);refine g' 4 O ?_;refine tJr (λ(jg:Unit)=>[(0,dP g 0),(2,dP g1 0),(3,dP g3 0),(10,dP g 0),(11,dP g 0),(12,dP g 1),(13,dB z.b),(14,dB (!z.b))]) (λ(jg:Unit)=>[.bx g1 335 cT,.bx g3 335 (.agg [dB false,dB q2,.ov ov]),.sl ov 2 364 (o.map RngD.d),.bx g 330 (.agg [.sh 1 (z.l.map dR),dB z.b])]) (λ(jg:Unit)=>(¬(0<o.length/\z.has 93=true))) (λ_ hQ5 hQ5r=>?_) ?_
   · refine g' 1 O ?_;by_cases hg6:(0:Int)<((o.length:Nat):Int)
     · refine gQ 3 [1] O O (tP O (zG (n:=o.length) (j:=2) O O runUnderlying333 (cW _)) (tP O (zaV O O (decide_eq_true hg6)) (g' 2 O (tX [3] O O acs (zea g z (93:Int) (by omega) hz) ?_))));rintro _ _ ⟨q7,s7,e7,rfl,rfl⟩;obtain ⟨kl7,kb7,kc7,ke7⟩:=zaU e7;have hT7:=hz.suf kl7;have kd7:=kl7.length_le;refine g' 3 O ?_;refine tC O (λhc8=>?_) (λhc8=>?_)
       · have hff:=hf.symm.trans (class_end hzb (by omega) e7 hc8);refine gQ 7 [2,1] O O (hQ5r _ _ (g' 5 O (kE 3 O ?_)));refine m9 (Mv.freeze (K':=[(0,dP g 0),(2,dP g1 0),(3,dP g3 0),(10,dP g 0),(11,dP g 0),(12,dP g 1),(13,dB z.b),(14,dB (!z.b)),(15,dP g3 2),(16,.sh 2 (o.map RngD.d)),(17,dN o.length),(18,dB true),(19,dB true),(20,dP g 0),(21,dB q7),(22,dB q7),(23,.agg [dB false,dB q2,.sh 2 (o.map RngD.d)])]) [.sl ov 2 364 (o.map RngD.d)] (H1:=[.bx g 330 (.agg [.sh 1 (s7.l.map dR),dB s7.b]),.bx g1 335 (.agg [dB false,dB q2,.ov ov]),.bx g3 335 (.agg [dB false,dB q2,.ov ov])]) (H1':=[.bx g 330 (.agg [.sh 1 (s7.l.map dR),dB s7.b]),.bx g1 335 (.agg [dB false,dB q2,.sh 2 (o.map RngD.d)]),.bx g3 335 (.agg [dB false,dB q2,.sh 2 (o.map RngD.d)])]) ⟨⟨_,O,mO⟩,⟨_,O,mO⟩,⟨_,O,mO⟩,⟨_,O,mO⟩,⟨_,O,mO⟩,⟨_,O,mO⟩,⟨_,O,mO⟩,⟨_,O,mO⟩,⟨_,O,mO⟩,⟨_,O,mP (j:=0) O O⟩,⟨_,O,mO⟩,⟨_,O,mO⟩,⟨_,O,mO⟩,⟨_,O,mO⟩,⟨_,O,mO⟩,⟨_,O,mO⟩,⟨_,O,ArgC.agg (ga (ga (.cons (mP (j:=0) O O) .nil)))⟩,trivial⟩ (.same (.bx (ArgC.agg (ga (ga (.cons (mP (j:=0) O O) .nil)))) (.bx (ArgC.agg (ga (ga (.cons (mP (j:=0) O O) .nil)))) .nil)))) ?_;exact tRs O results297 (.cons (zO (i:=1) O O isAgg335 sizeOf335 O O) .nil) O (mT 1 O) ⟨⟨false,q2,o⟩,⟨s7.l,s7.b⟩,class_of e2 hff,O,O⟩
       have h93:¬(0<o.length/\z.has 93=true):=λk=>(by simpa using hc8:¬q7=true) ((zaU e7).2.2.2.trans k.2)
       have hzs:z=s7:=ptake_f e7 (by simpa using hc8);subst hzs;refine g' 1 O (kE 3 O (kE 3 O (kE 3 O ?_)));exact tqe (hQ5 () h93) O
     refine gQ 3 [1] O O (tP O (zG (n:=o.length) (j:=2) O O runUnderlying333 (cW _)) (tP O (zaV O O (decide_eq_false hg6)) (g' 6 O ?_)));have h93:¬(0<o.length/\z.has 93=true):=λk=>by omega
     refine g' 2 O ?_;exact tqe (hQ5 () h93) O
   rintro _ h93;refine g' 5 O (tX [3] O O acs (pnext_c g z (by omega) hz) ?_);rintro _ _ ⟨rfl,rfl⟩;refine g' 12 O ?_;refine tOr 2 2 (c:=decide (z.any.1=(93:Int))) O O O O O O (λhb10 nx11=>?_) ?_
   · have hf12:=of_decide_eq_true (notF hb10);refine g' 2 O ?_;exact nx11 _ O O (kx 2 O O)
   refine g' 2 O ?_;refine tC O (λhc13=>?_) (λhc13=>?_)
   · simp only[bX,bJ] at hc13;have hff:=hf.symm.trans (class_no hzb h93 (by have h:=hc13;omega));refine gQ 20 [0,2,1] O O (kE 3 O ?_);refine m9 (Mv.freeze (K':=[(0,dP g 0),(2,dP g1 0),(3,dP g3 0),(4,.v (.int .i32 z.any.1)),(5,dB (decide (0<z.l.length))),(10,dP g 0),(11,dP g 0),(12,dP g 1),(13,dB z.b),(14,dB (!z.b)),(24,.tup [.v (.int .i32 z.any.1),dB (decide (0<z.l.length))]),(25,dP g 0),(26,.tup [.v (.int .i32 z.any.1),dB (decide (0<z.l.length))]),(27,.v (.int .i32 z.any.1)),(28,dB (decide (0<z.l.length))),(29,dB (decide (0<z.l.length))),(30,dB (!decide (0<z.l.length))),(31,dB (!decide (0<z.l.length))),(34,dB (!decide (0<z.l.length)||decide (z.any.1=(93:Int)))),(35,dP g 0),(36,dP g 0),(37,dP g 1),(38,.agg [dB false,dB q2,.sh 2 (o.map RngD.d)])]) [.sl ov 2 364 (o.map RngD.d)] (H1:=[.bx g 330 (.agg [.sh 1 (z.l.map dR),dB true]),.bx g1 335 (.agg [dB false,dB q2,.ov ov]),.bx g3 335 (.agg [dB false,dB q2,.ov ov])]) (H1':=[.bx g 330 (.agg [.sh 1 (z.l.map dR),dB true]),.bx g1 335 (.agg [dB false,dB q2,.sh 2 (o.map RngD.d)]),.bx g3 335 (.agg [dB false,dB q2,.sh 2 (o.map RngD.d)])]) ⟨⟨_,O,mO⟩,⟨_,O,mO⟩,⟨_,O,mO⟩,⟨_,O,mO⟩,⟨_,O,mO⟩,⟨_,O,mO⟩,⟨_,O,mO⟩,⟨_,O,mO⟩,⟨_,O,mO⟩,⟨_,O,mO⟩,⟨_,O,mO⟩,⟨_,O,mO⟩,⟨_,O,mO⟩,⟨_,O,mO⟩,⟨_,O,mO⟩,⟨_,O,mO⟩,⟨_,O,mO⟩,⟨_,O,mO⟩,⟨_,O,mO⟩,⟨_,O,mO⟩,⟨_,O,mO⟩,⟨_,O,mO⟩,⟨_,O,ArgC.agg (ga (ga (.cons (mP (j:=0) O O) .nil)))⟩,trivial⟩ (.same (.bx (ArgC.agg (ga (ga (.cons (mP (j:=0) O O) .nil)))) (.bx (ArgC.agg (ga (ga (.cons (mP (j:=0) O O) .nil)))) .nil)))) ?_;exact tRs O results297 (.cons (zO (i:=1) O O isAgg335 sizeOf335 O O) .nil) O (mT 1 O) ⟨⟨false,q2,o⟩,⟨z.l,true⟩,class_of e2 hff,O,O⟩
   simp only[bX,bJ] at hc13;have hnx:0<z.l.length/\z.any.1≠93:=(by have h:=hc13;omega);refine g' 5 O (tX [0] O O acs (pmember_c g z (by omega) hz) ?_);rintro _ _ ⟨c14,s14,e14,rfl,rfl⟩;obtain ⟨kl14,kb14,kc14⟩:=pmember_e e14 hz;have hT14:=hz.suf kl14;have kd14:=kl14.length_le;refine tP O (p_arr1 O) ?_;refine tA O (λg15=>?_);refine gQ 5 [0] O O (tP O (p_arrA0 O) (gQ 1 [0] O O (tP O (p_arrA1 O) (gQ 4 [0] O O ?_))));refine tJ (λ(jg:Int×Int×PR)=>[(0,dP g 0),(2,dP g1 0),(3,dP g3 0),(4,.v (.int .i32 z.any.1)),(5,dB (decide (0<z.l.length))),(6,dP g15 0),(10,dP g 0),(11,dP g 0),(12,dP g 1),(13,dB z.b),(14,dB (!z.b)),(24,.tup [.v (.int .i32 z.any.1),dB (decide (0<z.l.length))]),(25,dP g 0),(26,.tup [.v (.int .i32 z.any.1),dB (decide (0<z.l.length))]),(27,.v (.int .i32 z.any.1)),(28,dB (decide (0<z.l.length))),(29,dB (decide (0<z.l.length))),(30,dB (!decide (0<z.l.length))),(31,dB (!decide (0<z.l.length))),(34,dB (!decide (0<z.l.length)||decide (z.any.1=(93:Int)))),(39,dP g 0),(40,.v (.int .i32 c14)),(41,.agg [.v (.int .i32 c14),.v (.int .i32 0)]),(42,dP g15 0),(43,.v (.int .i32 c14)),(44,dP g15 1)]) (λ(jg:Int×Int×PR)=>[.bx g15 364 (.agg [.v (.int .i32 jg.1),.v (.int .i32 jg.2.1)]),.bx g 330 (.agg [.sh 1 (jg.2.2.l.map dR),dB jg.2.2.b]),.bx g1 335 cT,.bx g3 335 (.agg [dB false,dB q2,.ov ov]),.sl ov 2 364 (o.map RngD.d)]) (λ(jg:Int×Int×PR)=>(((⟨jg.1,jg.2.1⟩:RngD),jg.2.2)=z.item)/\(ROk jg.2.2.l)/\(jg.2.2.l.length<z.l.length)) (λ_ hQ16=>?_) ?_
   · refine g' 1 O ?_;by_cases h1l:(1:Int)<((s14.l.length:Nat):Int)
     · obtain ⟨x1,hx1⟩:=zj s14.l 0 (by omega);obtain ⟨x2,hx2⟩:=zj s14.l 1 (by omega);refine gQ 5 [1] O O (tP O (zH (n:=s14.l.length) O runUnderlying124 (by simp only[lm,lc,ln])) (tP O (zaV O O (decide_eq_true h1l)) (gQ 5 [1] O O (tG O (zh (k:=0) O O runUnderlying124 sizeOf21 (by first | rfl | omega) (ze hx1)) (g' 4 O ?_)))));refine tAnd 15 7 (c:=decide (x2≠(93:Int))) O O O O O O (λhb17 nx18=>?_) ?_
       · have hf19:=of_decide_eq_true hb17;refine gQ 4 [1] O O (tG O (zh (k:=1) O O runUnderlying124 sizeOf21 (by first | rfl | omega) (ze hx2)) (g' 2 O ?_));exact nx18 _ O O (kx 7 O O)
       refine g' 2 O ?_;refine tC O (λhc20=>?_) (λhc20=>?_)
       · simp only[bX,bJ] at hc20;have hxq:x1=45/\x2≠93:=(by have h:=hc20;omega);refine g' 3 O (tX [1] O O acs (zfJ g s14 (by omega) hT14) ?_);rintro _ _ ⟨c21,s21,e21,rfl,rfl⟩;obtain ⟨kl21,kb21,kc21⟩:=zfI e21 hT14;have hT21:=hT14.suf kl21;have kd21:=kl21.length_le;refine g' 4 O (tX [0] O O acs (pmember_c g s21 (by omega) hT21) ?_);rintro _ _ ⟨c22,s22,e22,rfl,rfl⟩;obtain ⟨kl22,kb22,kc22⟩:=pmember_e e22 hT21;have hT22:=hT21.suf kl22;have kd22:=kl22.length_le;refine tP O (p_arrA1 O) (gQ 2 [1] O O (kE 4 O (kE 4 O (kE 4 O (kE 3 O (kE 4 O ?_))))));exact tqe (hQ16 (c14,c22,(⟨s22.l,s22.b⟩:PR)) ⟨pitem_1 e14 hx1 hx2 hxq e21 e22,hT22,(by show s22.l.length<_;omega)⟩) O
       simp only[bX,bJ] at hc20;have hxq:¬(x1=45/\x2≠93):=(by have h:=hc20;omega);refine g' 1 O ?_;exact tqe (hQ16 (c14,c14,(⟨s14.l,s14.b⟩:PR)) ⟨pitem_0 e14 hx1 hx2 hxq,hT14,(by show s14.l.length<_;omega)⟩) O
     refine gQ 5 [1] O O (tP O (zH (n:=s14.l.length) O runUnderlying124 (by simp only[lm,lc,ln])) (tP O (zaV O O (decide_eq_false h1l)) (g' 22 O ?_)));exact tqe (hQ16 (c14,c14,(⟨s14.l,s14.b⟩:PR)) ⟨pitem_s e14 (by show ¬1<s14.l.length;omega),hT14,(by show s14.l.length<_;omega)⟩) O
   rintro ⟨ia,ib,w⟩ ⟨hit,hTw,hlw⟩
   replace hit:((⟨ia,ib⟩:RngD),w)=z.item:=hit
   replace hTw:ROk w.l:=hTw
   replace hlw:w.l.length<z.l.length:=hlw
   refine T.kk [(0,dP g 0),(2,dP g1 0),(3,dP g3 0),(4,.v (.int .i32 z.any.1)),(5,dB (decide (0<z.l.length))),(6,dP g15 0),(10,dP g 0),(11,dP g 0),(12,dP g 1),(13,dB z.b),(14,dB (!z.b)),(24,.tup [.v (.int .i32 z.any.1),dB (decide (0<z.l.length))]),(25,dP g 0),(26,.tup [.v (.int .i32 z.any.1),dB (decide (0<z.l.length))]),(27,.v (.int .i32 z.any.1)),(28,dB (decide (0<z.l.length))),(29,dB (decide (0<z.l.length))),(30,dB (!decide (0<z.l.length))),(31,dB (!decide (0<z.l.length))),(34,dB (!decide (0<z.l.length)||decide (z.any.1=(93:Int)))),(39,dP g 0),(40,.v (.int .i32 c14)),(41,.agg [.v (.int .i32 c14),.v (.int .i32 0)]),(42,dP g15 0),(43,.v (.int .i32 c14)),(44,dP g15 1)] O ?_;refine kD [.bx g15 364 (.agg [.v (.int .i32 ia),.v (.int .i32 ib)]),.bx g 330 (.agg [.sh 1 (w.l.map dR),dB w.b]),.bx g1 335 cT,.bx g3 335 (.agg [dB false,dB q2,.ov ov]),.sl ov 2 364 (o.map RngD.d)] (by rfl) (gQ 9 [1] O O ?_);refine tOr 5 5 (c:=decide (ib<ia)) O O O O O O (λhb23 nx24=>?_) ?_
   · refine tG O (p_arrA0 O) (gQ 1 [0] O O (tG O (p_arrA1 O) (gQ 2 [0] O O ?_)));exact nx24 _ O O (kx 5 O O)
   refine gQ 9 [1,3,0] O O (tE O (zq [.tmp 90] O O (.cons CellD.agg .nil) O runUnderlying333 sizeOf364 zeroValue364 O O O O) ?_);rintro _ _ ⟨g25,rfl,rfl⟩;refine tE O (zy (f:=RngD.d) (l:=o) (l':=[(RngD.mk ia ib)]) (i:=5) O O O (mK (j:=0) O O) und_333 infz_364 O O (by unfold maxLen;(try simp only[la,lc,ln,lm,lt',ld,ls,lr]);omega) (by (try simp only[la,lc,ln,lm,lt',ld,ls,lr]);omega)) ?_;rintro _ _ ⟨v26,rfl,rfl⟩;refine gQ 4 [4] O O (kE 2 O (kE 5 O (kE 5 O (kE 5 O (kC (mT 4 O) ?_)))));exact tp4 f (⟨w.l,(w.b||decide (ib<ia))⟩:PR) v26 (o++[(RngD.mk ia ib)]) (sa O) mD ⟨by show w.l.length<_;omega,(class_go hzb h93 hnx (hit)).symm.trans hf,hTw,by simp only[la,dA];omega⟩ (by omega)
 simp only[bX,bJ] at hc4;have hff:=hf.symm.trans (class_bad (by simpa using hc4));refine gQ 12 [1,0] O O (kE 2 O (m9 (Mv.freeze (K':=[(0,dP g 0),(2,dP g1 0),(3,dP g3 0),(10,dP g 0),(11,dP g 0),(12,dP g 1),(13,dB z.b),(14,dB (!z.b)),(94,.agg [dB false,dB q2,.sh 2 (o.map RngD.d)])]) [.sl ov 2 364 (o.map RngD.d)] (H1:=[.bx g1 335 (.agg [dB false,dB q2,.ov ov]),.bx g3 335 (.agg [dB false,dB q2,.ov ov]),.bx g 330 (.agg [.sh 1 (z.l.map dR),dB z.b])]) (H1':=[.bx g1 335 (.agg [dB false,dB q2,.sh 2 (o.map RngD.d)]),.bx g3 335 (.agg [dB false,dB q2,.sh 2 (o.map RngD.d)]),.bx g 330 (.agg [.sh 1 (z.l.map dR),dB z.b])]) ⟨⟨_,O,mO⟩,⟨_,O,mO⟩,⟨_,O,mO⟩,⟨_,O,mO⟩,⟨_,O,mO⟩,⟨_,O,mO⟩,⟨_,O,mO⟩,⟨_,O,mO⟩,⟨_,O,ArgC.agg (ga (ga (.cons (mP (j:=0) O O) .nil)))⟩,trivial⟩ (.bx (ArgC.agg (ga (ga (.cons (mP (j:=0) O O) .nil)))) (.bx (ArgC.agg (ga (ga (.cons (mP (j:=0) O O) .nil)))) (.same .nil)))) (kE 2 O ?_)));exact tRs O results297 (.cons (zO (i:=1) O O isAgg335 sizeOf335 O O) .nil) O (mT 1 O) ⟨⟨false,q2,o⟩,⟨z.l,z.b⟩,class_of e2 hff,O,O⟩
end Lp
namespace Lp
open Go
def Suf (p:PR->Pt×PR):Prop:=∀ s,(p s).2.l <:+s.l
theorem kF (s:PR) (c:Int):(s.take c).2.l <:+s.l:=by
 unfold PR.take;split
 · exact u7 _
 exact jU _
theorem kG (s:PR):s.any.2.l <:+s.l:=by
 unfold PR.any;cases e:s.l with
 | nil=>exact jU _
 | cons y l=>exact List.suffix_cons y l
theorem kH (s:PR):s.member.2.l <:+s.l:=by
 unfold PR.member;split
 · exact(kG _).trans (kG _)
 exact kG _
theorem PR.item_suf (s:PR):s.item.2.l <:+s.l:=by
 unfold PR.item;simp only;split
 · exact((kH _).trans (kG _)).trans (kH _)
 exact kH _
theorem classF_suf (nt:Bool):∀ (f:Nat) (o:List RngD) (s:PR),(zbr nt f o s).2.l <:+s.l
 | 0,o,s=>jU _
 | f+1,o,s=>by
  unfold zbr;split
  · exact jU _
  split
  · exact kF _ _
  split
  · exact jU _
  exact(classF_suf nt f (o++[s.item.1]) ⟨s.item.2.l,s.item.2.b||decide (s.item.1.hi<s.item.1.lo)⟩).trans (PR.item_suf s)
theorem PR.cls_suf (s:PR):s.cls.2.l <:+s.l:=(classF_suf _ _ _ _).trans (kF _ _)
theorem kI (s:PR) (x:Pt):(s.times x).2.l <:+s.l:=by
 unfold PR.times;repeat' split
 all_goals first | exact kF _ _ | exact jU _
theorem kJ {alt:PR->Pt×PR} (ha:Suf alt) (s:PR):(s.atom alt).2.l <:+s.l:=by
 unfold PR.atom;simp only;split
 · split
   · exact(ha _).trans (kG _)
   exact((kF _ _).trans (ha _)).trans (kG _)
 split
 · exact(PR.cls_suf _).trans (kG _)
 split
 · exact kG _
 split
 · exact(kG _).trans (kG _)
 exact kG _
theorem partsF_suf {alt:PR->Pt×PR} (ha:Suf alt):∀ (f:Nat) (o:List Pt) (s:PR),(za2 alt f o s).2.l <:+s.l
 | 0,o,s=>jU _
 | f+1,o,s=>by
  unfold za2;split
  · exact jU _
  exact((partsF_suf ha f _ _).trans (kI _ _)).trans (kJ ha s)
theorem kK {alt:PR->Pt×PR} (ha:Suf alt) (s:PR):(s.parts alt).2.l <:+s.l:=partsF_suf ha _ _ _
theorem altsF_suf {alt:PR->Pt×PR} (ha:Suf alt):∀ (f:Nat) (o:List Pt) (s:PR),(zcE alt f o s).2.l <:+s.l
 | 0,o,s=>jU _
 | f+1,o,s=>by
  unfold zcE;split
  · exact((altsF_suf ha f _ _).trans (kK ha _)).trans (kF _ _)
  exact jU _
theorem zd8:∀ f:Nat,Suf (altF f)
 | 0=>λs=>jU _
 | f+1=>λs=>by
  unfold altF;simp only;exact(altsF_suf (zd8 f) _ _ _).trans (kK (zd8 f) s)
end Lp
namespace Lp
open Go Go.RowKit Go.Proofs Tryz
theorem bd_354:BdP prog #[⟨"l",352,0,false, "", "leporello/pattern",0⟩] [(0,1)]:=λ_=>by kernel_rfl
theorem zfR:BdP prog #[⟨"s",335,0,false, "", "leporello/pattern",0⟩] [(0,3)]:=λ_=>by kernel_rfl
theorem fa_354_0:FaP prog 354 0 0:=λ_ _ _=>by kernel_rfl
theorem fa_358_0:FaP prog 358 0 0:=λ_ _ _=>by kernel_rfl
theorem infz_20:IzP prog 20 .nilIface 1 16:=zbg (by kernel_rfl)
theorem und_352:Tryz.prog.underlying 352=some (.slice 20):=by kernel_rfl
theorem CD.nmx {P:Program} {f:FuncId} {H:List Hp} {ds:List D} {α β:Type} {p:α×β} {y:α} {s:β} (e:(y,s)=p) {F:α->D} {G:β->List Hp} (h:CD P f H ds (λr H'=>∃ y' s',(y',s')=p/\r=F y'/\H'=G s')):CD P f H ds (λr H'=>r=F y/\H'=G s):=by
 subst e;refine⟨λw F' vs h1 h2 h3=>(h.out w F' vs h1 h2 h3).mono ?_⟩;rintro e' w' ⟨u,he,F2,d,H',⟨y',s',e1,rfl,rfl⟩,hr,hg⟩;injection e1 with e1 e2;subst e1;subst e2;exact⟨u,he,F2,_,_,⟨O,O⟩,hr,hg⟩
def AltOk (f:Nat):Prop:=∀ (g:Nat) (s:PR),s.l.length<f->s.l.length<=1000000->ROk s.l->CD prog 269 [PB g s] [dP g 0] (λr H'=>∃ x s',(x,s')=altF f s/\r=Pt.d x/\H'=[PB g s'])
theorem row_d (o:List Pt):D.ifc 358 (.agg [.sh 1 (o.map Pt.d)])=Pt.d (.row o):=by rw[<-Pt.ds_eq];rfl
theorem alt_d (o:List Pt):D.ifc 354 (.agg [.sh 1 (o.map Pt.d)])=Pt.d (.alt o):=by rw[<-Pt.ds_eq];rfl
section
variable {s s' s1 s2 s3 s4 z:PR} {a b c:Int} {q:Bool} {o:List Pt} {f:Nat} {x y:Pt} {alt:PR->Pt×PR}
theorem atom_g1 (e:(c,s1)=s.any) (hc:c=40) (e2:(x,s2)=alt s1) (hb:s2.b=true):(x,(⟨s2.l,true⟩:PR))=s.atom alt:=by
 unfold PR.atom;rw[<-e];simp only[if_pos hc];rw[<-e2];simp only[if_pos hb];rw[<-hb]
theorem atom_g2 (e:(c,s1)=s.any) (hc:c=40) (e2:(x,s2)=alt s1) (hb:s2.b=false) (e3:(q,s3)=s2.take 41):(x,(⟨s3.l,!q⟩:PR))=s.atom alt:=by
 unfold PR.atom;rw[<-e];simp only[if_pos hc];rw[<-e2];simp only[if_neg (show ¬s2.b=true by rw[hb];simp)];rw[<-e3]
theorem atom_c {st:SetD} (e:(c,s1)=s.any) (h1:¬c=40) (h2:c=91) (e2:(st,s2)=s1.cls):(Pt.one st,s2)=s.atom alt:=by
 unfold PR.atom;rw[<-e];simp only[if_neg h1,if_pos h2];rw[<-e2]
theorem atom_d (e:(c,s1)=s.any) (h1:¬c=40) (h2:¬c=91) (h3:c=46):(Pt.one ⟨true,false,[]⟩,s1)=s.atom alt:=by
 unfold PR.atom;rw[<-e];simp only[if_neg h1,if_neg h2,if_pos h3]
theorem atom_b (e:(c,s1)=s.any) (h1:¬c=40) (h2:¬c=91) (h3:¬c=46) (h4:c=92) (e2:(a,s2)=s1.any):(Pt.one ⟨false,false,[⟨a,a⟩]⟩,s2)=s.atom alt:=by
 unfold PR.atom;rw[<-e];simp only[if_neg h1,if_neg h2,if_neg h3,if_pos h4];rw[<-e2]
theorem atom_e (e:(c,s1)=s.any) (h1:¬c=40) (h2:¬c=91) (h3:¬c=46) (h4:¬c=92):(Pt.one ⟨false,false,[⟨c,c⟩]⟩,(⟨s1.l,s1.b||sgnN.any (λx=>decide (x=c))⟩:PR))=s.atom alt:=by
 unfold PR.atom;rw[<-e];simp only[if_neg h1,if_neg h2,if_neg h3,if_neg h4]
theorem atom_et (e:(c,s1)=s.any) (h1:¬c=40) (h2:¬c=91) (h3:¬c=46) (h4:¬c=92) (h5:sgnN.any (λx=>decide (x=c))=true):(Pt.one ⟨false,false,[⟨c,c⟩]⟩,(⟨s1.l,true⟩:PR))=s.atom alt:=by
 rw[<-atom_e e h1 h2 h3 h4,h5,Bool.or_true]
theorem atom_ef (e:(c,s1)=s.any) (h1:¬c=40) (h2:¬c=91) (h3:¬c=46) (h4:¬c=92) (h5:sgnN.any (λx=>decide (x=c))=false):(Pt.one ⟨false,false,[⟨c,c⟩]⟩,(⟨s1.l,s1.b⟩:PR))=s.atom alt:=by
 rw[<-atom_e e h1 h2 h3 h4,h5,vB]
theorem atom_facts (e:(x,s')=s.atom alt) (h0:0<s.l.length) (ha:∀ s,(alt s).2.l.length<=s.l.length) (hs:Suf alt):s'.l <:+s.l/\s'.l.length+1<=s.l.length:=by
 have h2:s'=(s.atom alt).2:=congrArg Prod.snd e;rw[h2];exact⟨kJ hs s,m5 ha (jE.1 h0)⟩
theorem times_facts (e:(y,s')=s.times x):s'.l <:+s.l:=by
 have h2:s'=(s.times x).2:=congrArg Prod.snd e;rw[h2];exact kI s x
theorem parts_facts (e:(y,s')=s.parts alt) (hs:Suf alt):s'.l <:+s.l:=by
 have h2:s'=(s.parts alt).2:=congrArg Prod.snd e;rw[h2];exact kK hs s
theorem alt_facts (e:(y,s')=altF f s):s'.l <:+s.l:=by
 have h2:s'=(altF f s).2:=congrArg Prod.snd e;rw[h2];exact zd8 f s
theorem stop_iff:z.stop=true↔(z.l.length=0\/z.any.1=124\/z.any.1=41):=by
 unfold PR.stop;simp only[uG,decide_eq_true_eq,zet,<-jV];omega
theorem parts_bad (h:z.b=true):za2 alt (f+1) o z=(o,z):=by unfold za2;rw[if_pos (Or.inl h)]
theorem parts_stop (h:z.l.length=0\/z.any.1=124\/z.any.1=41):za2 alt (f+1) o z=(o,z):=by unfold za2;rw[if_pos (Or.inr (stop_iff.2 h))]
theorem parts_go (h:z.b=false) (h2:¬(z.l.length=0\/z.any.1=124\/z.any.1=41)) (e:(x,s1)=z.atom alt) (e2:(y,s2)=s1.times x):za2 alt (f+1) o z=za2 alt f (o++[y]) s2:=by
 conv=>lhs;unfold za2
 rw[if_neg (by rintro (k | k);(rw[h] at k;cases k);exact h2 (stop_iff.1 k)),<-e];simp only;rw[<-e2]
theorem parts_of (hf:za2 alt (s.l.length+1) [] s=(o,s')):(Pt.row o,s')=s.parts alt:=by unfold PR.parts;rw[hf]
theorem alts_go (e:(q,s1)=z.take 124) (hq:q=true) (e2:(y,s2)=s1.parts alt):zcE alt (f+1) o z=zcE alt f (o++[y]) s2:=by
 conv=>lhs;unfold zcE
 rw[if_pos ((zaU e).2.2.2.symm.trans hq),<-e];simp only;rw[<-e2]
theorem alts_end (e:(q,s1)=z.take 124) (hq:¬q=true):zcE alt (f+1) o z=(o,s1):=by
 unfold zcE;rw[if_neg (λk=>hq ((zaU e).2.2.2.trans k)),ptake_f e hq]
theorem alts_of (e:(x,s1)=s.parts (altF f)) (hf:zcE (altF f) (s1.l.length+1) [x] s1=(o,s')):(Pt.alt o,s')=altF (f+1) s:=by unfold altF;simp only;rw[<-e];simp only;rw[hf]
end
theorem patom_s (g:Nat) (s:PR) (f:Nat) (ih:AltOk f) (hl:s.l.length<=1000000) (hT:ROk s.l) (hf:s.l.length<f+1):
 CD prog 294 [.bx g 330 (.agg [.sh 1 (s.l.map dR),dB s.b])] [dP g 0] (λr H'=>∃ x s',(x,s')=s.atom (altF f)/\r=Pt.d x/\H'=[PB g s']):=by
 refine tZ func294 O O (λC=>?_);refine g' 8 O (tX [0] O O acs (zfJ g s (by omega) hT) ?_);rintro _ _ ⟨c1,s1,e1,rfl,rfl⟩;obtain ⟨kl1,kb1,kc1⟩:=zfI e1 hT;have hT1:=hT.suf kl1;have kd1:=kl1.length_le;refine g' 12 O ?_;refine tD O (λhc2=>?_) (λhc2=>?_)
 · have hne:0<s.l.length:=(by rcases uK s.l.length with h0 | h0;(have hz:=(pnext_0 h0).1;have he:=congrArg Prod.fst e1;simp only at he;omega);exact h0);refine g' 3 O (tX [0] O O acs (ih g s1 (by omega) (by omega) hT1) ?_);rintro _ _ ⟨x3,s3,e3,rfl,rfl⟩;have kl3:=alt_facts e3;have hT3:=hT1.suf kl3;have kd3:=kl3.length_le;refine g' 4 O ?_;rcases jY (s3.b) with hg4 | hg4
   · refine g' 5 O (tP O ((zn O (i:=0) O isAgg4 O).cv (cB ((hg4)))) (gQ 19 [0] O O ?_));exact tR O (mT 1 O) ⟨x3,⟨s3.l,true⟩,atom_g1 e1 hc2 e3 hg4,O,O⟩
   refine g' 5 O (tP O ((zn O (i:=0) O isAgg4 O).cv (cB ((hg4)))) (g' 2 O (tX [0] O O acs (zea g s3 (41:Int) (by omega) hT3) ?_)));rintro _ _ ⟨q5,s5,e5,rfl,rfl⟩;obtain ⟨kl5,kb5,kc5,ke5⟩:=zaU e5;have hT5:=hT3.suf kl5;have kd5:=kl5.length_le;refine gQ 16 [0] O O ?_;exact tR O (mT 1 O) ⟨x3,⟨s5.l,!q5⟩,atom_g2 e1 hc2 e3 hg4 e5,O,O⟩
 refine g' 7 O ?_;refine tD O (λhc6=>?_) (λhc6=>?_)
 · refine g' 3 O (tX [0] O O acs (pclass_c g s1 (by omega) hT1) ?_);rintro _ _ ⟨st7,s7,e7,rfl,rfl⟩;refine tP O (zr [0] [.tmp 29] (zv:=cC) O O (.cons CellD.agg .nil) (runUnderlying356) zeroValue356 zfR ⟨O,O,O,trivial⟩ O) (g' 7 O ?_);exact tR O (mT 1 O) ⟨.one st7,⟨s7.l,s7.b⟩,atom_c e1 hc2 hc6 e7,O,O⟩
 refine g' 7 O ?_;refine tD O (λhc8=>?_) (λhc8=>?_)
 · refine g' 2 O (tP O (zr [0] [.const (.bool true)] (zv:=cC) O O (.cons (CellD.v O) .nil) (runUnderlying335) zeroValue335 zfT ⟨O,O,O,trivial⟩ O) (tP O (zr [0] [.tmp 35] (zv:=cC) O O (.cons CellD.agg .nil) (runUnderlying356) zeroValue356 zfR ⟨O,O,O,trivial⟩ O) (g' 7 O ?_)));exact tRs O results294 (.cons (zf (zd O) (Cv.ifc (Cv.agg (gc (gc (.cons Cv.nil .nil)))))) .nil) O (mT 1 O) ⟨.one ⟨true,false,[]⟩,⟨s1.l,s1.b⟩,atom_d e1 hc2 hc6 hc8,O,O⟩
 refine g' 7 O ?_;refine tD O (λhc9=>?_) (λhc9=>?_)
 · refine g' 2 O (tX [0] O O acs (zfJ g s1 (by omega) hT1) ?_);rintro _ _ ⟨c10,s10,e10,rfl,rfl⟩;obtain ⟨kl10,kb10,kc10⟩:=zfI e10 hT1;have hT10:=hT1.suf kl10;have kd10:=kl10.length_le;refine g' 8 O (tP O (p_arr2 O O) (tE O (Qu.ef (d:=.sh 2 ([(RngD.mk c10 c10)].map RngD.d)) (zm [.tmp 51] O O (.cons CellD.agg .nil) O runUnderlying333 sizeOf364 zeroValue364 O O O O)) ?_));rintro _ _ ⟨rfl,rfl⟩;refine tP O (zr [2] [.tmp 52] (zv:=cC) O O (.cons CellD.sh .nil) (runUnderlying335) zeroValue335 zfT ⟨O,O,O,trivial⟩ O) (tP O (zr [0] [.tmp 53] (zv:=cC) O O (.cons CellD.agg .nil) (runUnderlying356) zeroValue356 zfR ⟨O,O,O,trivial⟩ O) (g' 5 O ?_));exact tR O (mT 1 O) ⟨.one ⟨false,false,[⟨c10,c10⟩]⟩,⟨s10.l,s10.b⟩,atom_b e1 hc2 hc6 hc8 hc9 e10,O,O⟩
 refine g' 3 O (tW O acs (containsR_c c1 (by omega) (by omega)) (g' 3 O ?_));refine tC O (λhc11=>?_) (λhc11=>?_)
 · refine gQ 12 [0] O O (tP O (p_arr2 O O) (tE O (Qu.ef (d:=.sh 2 ([(RngD.mk c1 c1)].map RngD.d)) (zm [.tmp 51] O O (.cons CellD.agg .nil) O runUnderlying333 sizeOf364 zeroValue364 O O O O)) ?_));rintro _ _ ⟨rfl,rfl⟩;refine tP O (zr [2] [.tmp 52] (zv:=cC) O O (.cons CellD.sh .nil) (runUnderlying335) zeroValue335 zfT ⟨O,O,O,trivial⟩ O) (tP O (zr [0] [.tmp 53] (zv:=cC) O O (.cons CellD.agg .nil) (runUnderlying356) zeroValue356 zfR ⟨O,O,O,trivial⟩ O) (g' 5 O ?_));exact tR O (mT 1 O) ⟨.one ⟨false,false,[⟨c1,c1⟩]⟩,⟨s1.l,true⟩,atom_et e1 hc2 hc6 hc8 hc9 (by simpa using hc11),O,O⟩
 refine g' 7 O (tP O (p_arr2 O O) (tE O (Qu.ef (d:=.sh 2 ([(RngD.mk c1 c1)].map RngD.d)) (zm [.tmp 51] O O (.cons CellD.agg .nil) O runUnderlying333 sizeOf364 zeroValue364 O O O O)) ?_));rintro _ _ ⟨rfl,rfl⟩;refine tP O (zr [2] [.tmp 52] (zv:=cC) O O (.cons CellD.sh .nil) (runUnderlying335) zeroValue335 zfT ⟨O,O,O,trivial⟩ O) (tP O (zr [0] [.tmp 53] (zv:=cC) O O (.cons CellD.agg .nil) (runUnderlying356) zeroValue356 zfR ⟨O,O,O,trivial⟩ O) (g' 5 O ?_));exact tR O (mT 1 O) ⟨.one ⟨false,false,[⟨c1,c1⟩]⟩,⟨s1.l,s1.b⟩,atom_ef e1 hc2 hc6 hc8 hc9 (by simpa using hc11),O,O⟩
theorem pparts_s (g:Nat) (s:PR) (f:Nat) (ih:AltOk f) (hl:s.l.length<=1000000) (hT:ROk s.l) (hf0:s.l.length<f+1):
 CD prog 286 [.bx g 330 (.agg [.sh 1 (s.l.map dR),dB s.b])] [dP g 0] (λr H'=>∃ x s',(x,s')=s.parts (altF f)/\r=Pt.d x/\H'=[PB g s']):=by
 refine tZ func286 O O (λC=>?_);refine g' 7 O ?_;refine tA O (λg1=>?_);refine g' 4 O (kC (HSub.nil 1 20) (kE 1 O (kC (mG (h':=.bx g1 358 (.agg [.ov (.slice none 0 0)])) O (mH (Cv.agg (.cons (Cv.ov O) .nil)))) (kE 1 O (kE 1 O (kE 2 O (tl4 (λ(a_:Nat) (b_:PR) (c_:Value) (d_:List Pt)=>[(0,dP g 0),(2,.v .nilIface),(3,dP g1 0)]) (λa_ b_ c_ d_=>[.bx g 330 (.agg [.sh 1 (b_.l.map dR),dB b_.b]),.bx g1 358 (.agg [.ov c_]),.sl c_ 1 20 (d_.map Pt.d)]) (λa_ b_ c_ d_=>(b_.l.length<a_)/\(za2 (altF f) a_ d_ b_=za2 (altF f) (s.l.length+1) [] s)/\(ROk b_.l)/\(d_.length+b_.l.length<=1000000/\b_.l.length<=s.l.length)) (λa_ b_ c_ d_=>a_) (s.l.length+1) s (.slice none 0 0) [] O (sa O) mD ⟨(by omega),O,hT,(by show 0+s.l.length<=_/\_;omega)⟩ ?_)))))));rintro k z ov o ⟨hlf,hf,hz,hol⟩;obtain ⟨k,rfl⟩:∃ n,k=n+1:=⟨k-1,by omega⟩;refine gQ 10 [0] O O ?_;refine tC O (λhc2=>?_) (λhc2=>?_)
 · simp only[bX,bJ] at hc2;have hzb:z.b=false:=(by simpa using hc2);refine g' 6 O (tX [0] O O acs (pnext_c g z (by omega) hz) ?_);rintro _ _ ⟨rfl,rfl⟩;refine g' 13 O ?_;refine tOr 2 2 (c:=decide (z.any.1=(124:Int))) O O O O O O (λhb4 nx5=>?_) ?_
   · have hf6:=of_decide_eq_true (notF hb4);refine g' 2 O ?_;exact nx5 _ O O (kx 2 O O)
   refine g' 1 O ?_;refine tOr 6 2 (c:=decide (z.any.1=(41:Int))) O O O O O O (λhb7 nx8=>?_) ?_
   · obtain ⟨hf9,hf10⟩:=orF hb7;have hf11:=of_decide_eq_true (notF hf9);have hf12:=of_decide_eq_false hf10;refine g' 2 O ?_;exact nx8 _ O O (kx 2 O O)
   refine g' 2 O ?_;refine tC O (λhc13=>?_) (λhc13=>?_)
   · simp only[bX,bJ] at hc13;have hff:=hf.symm.trans (parts_stop (by have h:=hc13;omega));refine gQ 14 [1] O O (kE 2 O ?_);refine m9 (Mv.freeze (K':=[(0,dP g 0),(2,.ifc 358 (.agg [.sh 1 (o.map Pt.d)])),(3,dP g1 0),(4,.v (.int .i32 z.any.1)),(5,dB (decide (0<z.l.length))),(6,dP g 0),(7,dP g 0),(8,dP g 1),(9,dB z.b),(10,dB (!z.b)),(11,.tup [.v (.int .i32 z.any.1),dB (decide (0<z.l.length))]),(12,dP g 0),(13,.tup [.v (.int .i32 z.any.1),dB (decide (0<z.l.length))]),(14,.v (.int .i32 z.any.1)),(15,dB (decide (0<z.l.length))),(16,dB (decide (0<z.l.length))),(17,dB (!decide (0<z.l.length))),(18,dB (!decide (0<z.l.length))),(21,dB (!decide (0<z.l.length)||decide (z.any.1=(124:Int)))),(22,dB (!decide (0<z.l.length)||decide (z.any.1=(124:Int)))),(25,dB ((!decide (0<z.l.length)||decide (z.any.1=(124:Int)))||decide (z.any.1=(41:Int)))),(35,.agg [.sh 1 (o.map Pt.d)]),(36,.ifc 358 (.agg [.sh 1 (o.map Pt.d)]))]) [.sl ov 1 20 (o.map Pt.d)] (H1:=[.bx g 330 (.agg [.sh 1 (z.l.map dR),dB z.b]),.bx g1 358 (.agg [.ov ov])]) (H1':=[.bx g 330 (.agg [.sh 1 (z.l.map dR),dB z.b]),.bx g1 358 (.agg [.sh 1 (o.map Pt.d)])]) ⟨⟨_,O,mO⟩,⟨_,O,ArgC.ifc (ArgC.agg (.cons (mP (j:=0) O O) .nil))⟩,⟨_,O,mO⟩,⟨_,O,mO⟩,⟨_,O,mO⟩,⟨_,O,mO⟩,⟨_,O,mO⟩,⟨_,O,mO⟩,⟨_,O,mO⟩,⟨_,O,mO⟩,⟨_,O,mO⟩,⟨_,O,mO⟩,⟨_,O,mO⟩,⟨_,O,mO⟩,⟨_,O,mO⟩,⟨_,O,mO⟩,⟨_,O,mO⟩,⟨_,O,mO⟩,⟨_,O,mO⟩,⟨_,O,mO⟩,⟨_,O,mO⟩,⟨_,O,ArgC.agg (.cons (mP (j:=0) O O) .nil)⟩,⟨_,O,ArgC.ifc (ArgC.agg (.cons (mP (j:=0) O O) .nil))⟩,trivial⟩ (.same (.bx (ArgC.agg (.cons (mP (j:=0) O O) .nil)) .nil))) ?_;exact tRs O results286 (.cons (zf (zd O) (mB (row_d _))) .nil) O (mT 1 O) ⟨.row o,⟨z.l,z.b⟩,parts_of hff,O,O⟩
   simp only[bX,bJ] at hc13;have hns:¬(z.l.length=0\/z.any.1=124\/z.any.1=41):=(by have h:=hc13;omega);refine g' 2 O ?_;obtain ⟨a1,za,ea⟩:∃ a s1,(a,s1)=z.atom (altF f):=⟨_,_,rfl⟩;obtain ⟨kl1,kd1⟩:=atom_facts ea (by omega) (altF_le f) (zd8 f);have hTa:=hz.suf kl1;obtain ⟨y1,zb,eb⟩:∃ a s1,(a,s1)=za.times a1:=⟨_,_,rfl⟩;have kl2:=times_facts eb;have hTb:=hTa.suf kl2;have kd2:=kl2.length_le;have hzT:=hTb;refine T.keep [0,2,3,4,5,6,7,8,9,10,11,12,13,14,15,16,17,18,21,22,25] O ?_;refine tDr 7 [(26,dP g1 0,none),(27,.ov ov,none),(28,dP g 0,none),(29,dP g 0,none),(30,Pt.d a1,some [.bx g 330 (.agg [.sh 1 (za.l.map dR),dB za.b]),.bx g1 358 (.agg [.ov ov]),.sl ov 1 20 (o.map Pt.d)]),(31,Pt.d y1,some [.bx g 330 (.agg [.sh 1 (zb.l.map dR),dB zb.b]),.bx g1 358 (.agg [.ov ov]),.sl ov 1 20 (o.map Pt.d)]),(32,.sh 1 ([y1].map Pt.d),none)] [.bx g1 358 (.agg [.ov ov]),.sl ov 1 20 (o.map Pt.d)] (Hn:=[.bx g 330 (.agg [.sh 1 (zb.l.map dR),dB zb.b]),.bx g1 358 (.agg [.ov ov]),.sl ov 1 20 (o.map Pt.d)]) mixed O O O O (mU 1 O) O ⟨sa_p O O O (zl O fa_358_0 O),sa_p O O O (zn O (i:=0) O isAgg352 O),sa_p O O O (zc O),sa_p O O O (zc O),sa_e O O O O (((zeb [.bx g 330 (.agg [.sh 1 (z.l.map dR),dB z.b])] [.bx g1 358 (.agg [.ov ov]),.sl ov 1 20 (o.map Pt.d)] [] O O (ga .nil) zcW Tryz.call294 (CD.nmx ea (patom_s g z f ih (by omega) hz (by omega))) (.inl rfl))).mono (by rintro _ _ ⟨_,⟨rfl,rfl⟩,rfl⟩;exact⟨rfl,rfl⟩)) (mU 1 rfl),sa_e rfl rfl rfl rfl (((zeb [.bx g 330 (.agg [.sh 1 (za.l.map dR),dB za.b])] [.bx g1 358 (.agg [.ov ov]),.sl ov 1 20 (o.map Pt.d)] [] rfl rfl (ga (ga .nil)) zcW Tryz.call293 (CD.nmx eb (ptimes_c g za a1 (by omega) hTa)) (.inl rfl))).mono (by rintro _ _ ⟨_,⟨rfl,rfl⟩,rfl⟩;exact⟨rfl,rfl⟩)) (mU 1 rfl),sa_q rfl rfl rfl (zm [.tmp 31] rfl rfl (.cons (zeP _) .nil) rfl runUnderlying352 sizeOf20 zeroValue20 rfl rfl rfl rfl),trivial⟩ ?_;refine tK O (tE O (zy (f:=Pt.d) (l:=o) (l':=[y1]) (i:=2) O O O (SrcD.sh) und_352 infz_20 O O (by unfold maxLen;(try simp only[la,lc,ln,lm,lt',ld,ls,lr]);omega) (by (try simp only[la,lc,ln,lm,lt',ld,ls,lr]);omega)) ?_);rintro _ _ ⟨v14,rfl,rfl⟩;refine gQ 4 [1] O O ?_;exact tp4 k zb v14 (o++[y1]) (sa O) mD ⟨by show zb.l.length<_;omega,(parts_go hzb hns ea eb).symm.trans hf,hzT,by simp only[la,dA];omega⟩ (by omega)
 simp only[bX,bJ] at hc2;have hff:=hf.symm.trans (parts_bad (by simpa using hc2));refine gQ 13 [1] O O (kE 2 O (m9 (Mv.freeze (K':=[(0,dP g 0),(2,.ifc 358 (.agg [.sh 1 (o.map Pt.d)])),(3,dP g1 0),(6,dP g 0),(7,dP g 0),(8,dP g 1),(9,dB z.b),(10,dB (!z.b)),(35,.agg [.sh 1 (o.map Pt.d)]),(36,.ifc 358 (.agg [.sh 1 (o.map Pt.d)]))]) [.sl ov 1 20 (o.map Pt.d)] (H1:=[.bx g 330 (.agg [.sh 1 (z.l.map dR),dB z.b]),.bx g1 358 (.agg [.ov ov])]) (H1':=[.bx g 330 (.agg [.sh 1 (z.l.map dR),dB z.b]),.bx g1 358 (.agg [.sh 1 (o.map Pt.d)])]) ⟨⟨_,O,mO⟩,⟨_,O,ArgC.ifc (ArgC.agg (.cons (mP (j:=0) O O) .nil))⟩,⟨_,O,mO⟩,⟨_,O,mO⟩,⟨_,O,mO⟩,⟨_,O,mO⟩,⟨_,O,mO⟩,⟨_,O,mO⟩,⟨_,O,ArgC.agg (.cons (mP (j:=0) O O) .nil)⟩,⟨_,O,ArgC.ifc (ArgC.agg (.cons (mP (j:=0) O O) .nil))⟩,trivial⟩ (.same (.bx (ArgC.agg (.cons (mP (j:=0) O O) .nil)) .nil))) ?_));exact tRs O results286 (.cons (zf (zd O) (mB (row_d _))) .nil) O (mT 1 O) ⟨.row o,⟨z.l,z.b⟩,parts_of hff,O,O⟩
theorem palt_s (g:Nat) (s:PR) (f:Nat) (ih:AltOk f) (hl:s.l.length<=1000000) (hT:ROk s.l) (hf0:s.l.length<f+1):
 CD prog 269 [.bx g 330 (.agg [.sh 1 (s.l.map dR),dB s.b])] [dP g 0] (λr H'=>∃ x s',(x,s')=altF (f+1) s/\r=Pt.d x/\H'=[PB g s']):=by
 refine tZ func269 O O (λC=>?_);refine g' 8 O (tX [0] O O acs (pparts_s g s f ih (by omega) hT (by omega)) ?_);rintro _ _ ⟨x1,s1,e1,rfl,rfl⟩;have kl1:=parts_facts e1 (zd8 f);have hT1:=hT.suf kl1;have kd1:=kl1.length_le;refine tE O (zq [.tmp 5] O O (.cons (zeP _) .nil) O runUnderlying352 sizeOf20 zeroValue20 O O O O) ?_;rintro _ _ ⟨g2,rfl,rfl⟩;refine tP O (zr [0] [.tmp 6] (zv:=cP) O O (.cons CellD.o .nil) (runUnderlying354) zeroValue354 bd_354 ⟨O,trivial⟩ O) ?_;refine tA O (λg3=>?_);refine gQ 5 [0] O O (kE 1 O (kE 1 O (kE 2 O (tl4 (λ(a_:Nat) (b_:PR) (c_:Value) (d_:List Pt)=>[(0,dP g 0),(2,.v .nilIface),(3,dP g3 0)]) (λa_ b_ c_ d_=>[.bx g 330 (.agg [.sh 1 (b_.l.map dR),dB b_.b]),.bx g3 354 (.agg [.ov c_]),.sl c_ 1 20 (d_.map Pt.d)]) (λa_ b_ c_ d_=>(b_.l.length<a_)/\(zcE (altF f) a_ d_ b_=zcE (altF f) (s1.l.length+1) [x1] s1)/\(ROk b_.l)/\(d_.length+b_.l.length<=1000001/\b_.l.length<=s.l.length)) (λa_ b_ c_ d_=>a_) (s1.l.length+1) s1 (vS g2 1 1) [x1] O (sa O) mD ⟨(by omega),O,hT1,(by show 1+s1.l.length<=_/\_;omega)⟩ ?_))));rintro k z ov o ⟨hlf,hf,hz,hol⟩;obtain ⟨k,rfl⟩:∃ n,k=n+1:=⟨k-1,by omega⟩;refine g' 4 O (tX [0] O O acs (zea g z (124:Int) (by omega) hz) ?_);rintro _ _ ⟨q4,s4,e4,rfl,rfl⟩;obtain ⟨kl4,kb4,kc4,ke4⟩:=zaU e4;have hT4:=hz.suf kl4;have kd4:=kl4.length_le;refine g' 2 O ?_;refine tC O (λhc5=>?_) (λhc5=>?_)
 · have kq:=kc4 hc5;refine g' 3 O ?_;obtain ⟨y1,zb,ey⟩:∃ a s1,(a,s1)=s4.parts (altF f):=⟨_,_,rfl⟩;have kl2:=parts_facts ey (zd8 f);have hzT:=hT4.suf kl2;have kd2:=kl2.length_le;refine T.keep [0,2,3,8,9] O (tDr 5 [(10,dP g3 0,none),(11,.ov ov,none),(12,dP g 0,none),(13,Pt.d y1,some [.bx g 330 (.agg [.sh 1 (zb.l.map dR),dB zb.b]),.bx g3 354 (.agg [.ov ov]),.sl ov 1 20 (o.map Pt.d)]),(14,.sh 1 ([y1].map Pt.d),none)] [.bx g3 354 (.agg [.ov ov]),.sl ov 1 20 (o.map Pt.d)] (Hn:=[.bx g 330 (.agg [.sh 1 (zb.l.map dR),dB zb.b]),.bx g3 354 (.agg [.ov ov]),.sl ov 1 20 (o.map Pt.d)]) mixed O O O O (mU 1 O) O ⟨sa_p O O O (zl O fa_354_0 O),sa_p O O O (zn O (i:=0) O isAgg352 O),sa_p O O O (zc O),sa_e O O O O (((zeb [.bx g 330 (.agg [.sh 1 (s4.l.map dR),dB s4.b])] [.bx g3 354 (.agg [.ov ov]),.sl ov 1 20 (o.map Pt.d)] [] O O (ga .nil) zcW Tryz.call286 (CD.nmx ey (pparts_s g s4 f ih (by omega) hT4 (by omega))) (.inl rfl))).mono (by rintro _ _ ⟨_,⟨rfl,rfl⟩,rfl⟩;exact⟨rfl,rfl⟩)) (mU 1 rfl),sa_q rfl rfl rfl (zm [.tmp 13] rfl rfl (.cons (zeP _) .nil) rfl runUnderlying352 sizeOf20 zeroValue20 rfl rfl rfl rfl),trivial⟩ (tK rfl ?_));refine tE O (zy (f:=Pt.d) (l:=o) (l':=[y1]) (i:=2) O O O (SrcD.sh) und_352 infz_20 O O (by unfold maxLen;(try simp only[la,lc,ln,lm,lt',ld,ls,lr]);omega) (by (try simp only[la,lc,ln,lm,lt',ld,ls,lr]);omega)) ?_;rintro _ _ ⟨v6,rfl,rfl⟩;refine gQ 4 [1] O O ?_;exact tp4 k zb v6 (o++[y1]) (sa O) mD ⟨by show zb.l.length<_;omega,(alts_go e4 hc5 ey).symm.trans hf,hzT,by simp only[la,dA];omega⟩ (by omega)
 have hff:=hf.symm.trans (alts_end e4 (by simpa using hc5));refine gQ 13 [1] O O (kE 2 O (m9 (Mv.freeze (K':=[(0,dP g 0),(2,.ifc 354 (.agg [.sh 1 (o.map Pt.d)])),(3,dP g3 0),(8,dP g 0),(9,dB q4),(17,.agg [.sh 1 (o.map Pt.d)]),(18,.ifc 354 (.agg [.sh 1 (o.map Pt.d)]))]) [.sl ov 1 20 (o.map Pt.d)] (H1:=[.bx g 330 (.agg [.sh 1 (s4.l.map dR),dB s4.b]),.bx g3 354 (.agg [.ov ov])]) (H1':=[.bx g 330 (.agg [.sh 1 (s4.l.map dR),dB s4.b]),.bx g3 354 (.agg [.sh 1 (o.map Pt.d)])]) ⟨⟨_,O,mO⟩,⟨_,O,ArgC.ifc (ArgC.agg (.cons (mP (j:=0) O O) .nil))⟩,⟨_,O,mO⟩,⟨_,O,mO⟩,⟨_,O,mO⟩,⟨_,O,ArgC.agg (.cons (mP (j:=0) O O) .nil)⟩,⟨_,O,ArgC.ifc (ArgC.agg (.cons (mP (j:=0) O O) .nil))⟩,trivial⟩ (.same (.bx (ArgC.agg (.cons (mP (j:=0) O O) .nil)) .nil))) ?_));exact tRs O results269 (.cons (zf (zd O) (mB (alt_d _))) .nil) O (mT 1 O) ⟨.alt o,⟨s4.l,s4.b⟩,alts_of e1 hff,O,O⟩
theorem altOk:∀ f:Nat,AltOk f
 | 0=>λg s h=>absurd h (by omega)
 | f+1=>λg s h hl hT=>palt_s g s f (altOk f) hl hT h
end Lp
