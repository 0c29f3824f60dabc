import Derived.Test.YtheccaeefigajaaGreatDoorV92
set_option linter.unusedSimpArgs false
set_option linter.unusedVariables false
set_option maxHeartbeats 4000000
set_option maxRecDepth 100000
namespace Lp
open Go Go.RowKit Go.Proofs
theorem zfb:BdP Tryz.prog #[⟨"all",4,0,false, "", "leporello/pattern",0⟩,⟨"not",4,1,false, "", "leporello/pattern",1⟩,⟨"items",304,2,false, "", "leporello/pattern",8⟩] [(0,1),(1,1),(2,1)]:=fun _=>by kernel_rfl
theorem infz_328:IzP Tryz.prog 328 (.agg #[(.int .i32 0),(.int .i32 0)]) 2 8:=zcs (by kernel_rfl)
theorem und_304:Tryz.prog.underlying 304=some (.slice 328):=by kernel_rfl
section
variable {s s' s1 s2 s3 s4 z:PR} {a b c:Int} {q nt:Bool} {o:List RngD} {f:Nat} {x:RngD}
theorem ptake_f (e:(q,s')=s.take c) (h:¬q=true):s=s':=by
 have h2:s'=(s.take c).2:=congrArg Prod.snd e
 have h3:¬s.has c=true:=fun k=>h ((zaQ e).2.2.2.trans k)
 rw[h2];unfold PR.take;rw[if_neg h3]
theorem pitem_1 (e:(a,s1)=s.member) {x0 x1:Int} (h0:s1.l[0]?=some x0) (h1:s1.l[1]?=some x1) (h:x0=45∧x1≠93) (e2:(c,s2)=s1.any) (e3:(b,s3)=s2.member):(⟨a,b⟩,s3)=s.item:=by
 unfold PR.item;rw[←e]
 have hc:1<s1.l.length∧s1.l.headD 0=45∧s1.l.tail.headD 0≠93:=by
  cases el:s1.l with
  | nil=>rw[el] at h0;cases h0
  | cons y r=>
   rw[el] at h0 h1
   cases r with
   | nil=>cases h1
   | cons y' r=>simp at h0 h1;subst h0;subst h1;exact⟨by simp,h.1,h.2⟩
 simp only[if_pos hc];rw[←e2];simp only;rw[←e3]
theorem pitem_0 (e:(a,s1)=s.member) {x0 x1:Int} (h0:s1.l[0]?=some x0) (h1:s1.l[1]?=some x1) (h:¬(x0=45∧x1≠93)):(⟨a,a⟩,s1)=s.item:=by
 unfold PR.item;rw[←e]
 have hc:¬(1<s1.l.length∧s1.l.headD 0=45∧s1.l.tail.headD 0≠93):=by
  cases el:s1.l with
  | nil=>rw[el] at h0;cases h0
  | cons y r=>
   rw[el] at h0 h1
   cases r with
   | nil=>cases h1
   | cons y' r=>simp at h0 h1;subst h0;subst h1;exact fun k=>h ⟨k.2.1,k.2.2⟩
 simp only[if_neg hc]
theorem pitem_s (e:(a,s1)=s.member) (h:¬1<s1.l.length):(⟨a,a⟩,s1)=s.item:=by
 unfold PR.item;rw[←e];simp only[if_neg (fun k:1<s1.l.length∧_=>h k.1)]
theorem class_bad (h:z.b=true):zaG nt (f+1) o z=(⟨false,nt,o⟩,z):=by unfold zaG;rw[if_pos h]
theorem class_end (h:z.b=false) (ho:0<o.length) (e:(q,s1)=z.take 93) (hq:q=true):zaG nt (f+1) o z=(⟨false,nt,o⟩,s1):=by
 unfold zaG;rw[if_neg (by rw[h];simp),if_pos ⟨ho,(zaQ e).2.2.2.symm.trans hq⟩,←e]
theorem class_no (h:z.b=false) (h93:¬(0<o.length∧z.has 93=true)) (hn:z.l.length=0∨z.any.1=93):zaG nt (f+1) o z=(⟨false,nt,o⟩,⟨z.l,true⟩):=by
 unfold zaG;rw[if_neg (by rw[h];simp),if_neg h93,if_pos]
 rcases hn with k | k
 · exact .inl (List.length_eq_zero_iff.1 k)
 · by_cases h0:0<z.l.length
   · exact .inr (zd1.2 ⟨h0,k⟩)
   · exact .inl (List.length_eq_zero_iff.1 (by omega))
theorem class_go (h:z.b=false) (h93:¬(0<o.length∧z.has 93=true)) (hn:0<z.l.length∧z.any.1≠93) (e:(x,s1)=z.item):zaG nt (f+1) o z=zaG nt f (o++[x]) ⟨s1.l,s1.b||decide (x.hi<x.lo)⟩:=by
 conv=>lhs;unfold zaG
 rw[if_neg (by rw[h];simp),if_neg h93,if_neg]
 · simp only;rw[←e]
 · rintro (k | k)
   · rw[k] at hn;exact absurd hn.1 (by simp)
   · exact hn.2 (zd1.1 k).2
theorem class_of (e:(q,s1)=s.take 94) {st:SetD} (hf:zaG q (s1.l.length+2) [] s1=(st,s')):(st,s')=s.cls:=by unfold PR.cls;rw[←e,hf]
end
theorem pclass_c (g:Nat) (s:PR) (hl:s.l.length≤1000000) (hT:ROk s.l):
 CD Tryz.prog 273 [.bx g 298 (.agg [.sh 1 (s.l.map dR),dB s.b])] [dP g 0] (fun r H'=>∃ st s',(st,s')=s.cls∧r=.agg [dB st.all,dB st.nt,.sh 2 (st.items.map RngD.d)]∧H'=[PB g s']):=by
 refine tZ Tryz.func273 O O (fun C=>?_)
 refine g' 2 O ?_
 refine tA O (fun g1=>?_)
 refine g' 5 O (tX [1] O O acs (zdJ g s (94:Int) (by omega) hT) ?_)
 rintro _ _ ⟨q2,s2,e2,rfl,rfl⟩
 obtain ⟨kl2,kb2,kc2,ke2⟩:=zaQ e2
 have hT2:=hT.suf kl2
 have kd2:=kl2.length_le
 refine tP O (zf [1] [.tmp 8] (zv:=(.agg #[(.bool false),(.bool false),(.slice none 0 0)])) O O (.cons (CellD.v O) .nil) (Tryz.runUnderlying306) Tryz.zeroValue306 zfb ⟨O,O,O,trivial⟩ O) ?_
 refine tA O (fun g3=>?_)
 refine gQ 5 [0] O O (T.subH (HSub.nil 2 328) (T.front 1 O (T.subH (HSub.turn (h':=.bx g3 306 (.agg [dB false,dB q2,.ov (.slice none 0 0)])) O (Hp.cv_bx (Cv.agg (km (km (.cons (Cv.ov O) .nil)))))) (T.front 2 O (T.front 2 O (T.front 2 O (T.front 3 O (tl4 (fun (a_:Nat) (b_:PR) (c_:Value) (d_:List RngD)=>[(0,dP g 0),(2,dP g1 0),(3,dP g3 0)]) (fun a_ b_ c_ d_=>[.bx g1 306 (.agg [dB false,dB false,dZ]),.bx g3 306 (.agg [dB false,dB q2,.ov c_]),.sl c_ 2 328 (d_.map RngD.d),.bx g 298 (.agg [.sh 1 (b_.l.map dR),dB b_.b])]) (fun a_ b_ c_ d_=>(b_.l.length<a_)∧(zaG q2 a_ d_ b_=zaG q2 (s2.l.length+2) [] s2)∧(ROk b_.l)∧(d_.length+b_.l.length≤1000000)) (fun a_ b_ c_ d_=>a_) (s2.l.length+2) s2 (.slice none 0 0) [] O (sa O) HSub.rfl' ⟨(by omega),O,hT2,(by show 0+s2.l.length≤_;omega)⟩ ?_))))))))
 rintro f z ov o ⟨hlf,hf,hz,hol⟩
 obtain ⟨f,rfl⟩:∃ k,f=k+1:=⟨f-1,by omega⟩
 refine gQ 10 [3] O O ?_
 refine tC O (fun hc4=>?_) (fun hc4=>?_)
 · simp only[bX,bJ] at hc4
   have hzb:z.b=false:=by simpa using hc4
   refine g' 4 O ?_
   refine tJr (fun (jg:Unit)=>[(0,dP g 0),(2,dP g1 0),(3,dP g3 0),(10,dP g 0),(11,dP g 0),(12,dP g 1),(13,dB z.b),(14,dB (!z.b))]) (fun (jg:Unit)=>[.bx g1 306 (.agg [dB false,dB false,dZ]),.bx g3 306 (.agg [dB false,dB q2,.ov ov]),.sl ov 2 328 (o.map RngD.d),.bx g 298 (.agg [.sh 1 (z.l.map dR),dB z.b])]) (fun (jg:Unit)=>(¬(0<o.length∧z.has 93=true))) (fun _ hQ5 hQ5r=>?_) ?_
   · skip
     refine g' 1 O ?_
     by_cases hg6:(0:Int)<((o.length:Nat):Int)
     · skip
       refine gQ 3 [1] O O (tP O (zV (n:=o.length) (j:=2) O O Tryz.runUnderlying304 (List.length_map _)) (tP O (zca O O (decide_eq_true hg6)) (g' 2 O (tX [3] O O acs (zdJ g z (93:Int) (by omega) hz) ?_))))
       rintro _ _ ⟨q7,s7,e7,rfl,rfl⟩
       obtain ⟨kl7,kb7,kc7,ke7⟩:=zaQ e7
       have hT7:=hz.suf kl7
       have kd7:=kl7.length_le
       refine g' 3 O ?_
       refine tC O (fun hc8=>?_) (fun hc8=>?_)
       · skip
         have hff:=hf.symm.trans (class_end hzb (by omega) e7 hc8)
         refine gQ 7 [2,1] O O (hQ5r _ _ (g' 5 O (T.front 3 O ?_)))
         refine T.mv (Mv.freeze (K':=[(0,dP g 0),(2,dP g1 0),(3,dP g3 0),(10,dP g 0),(11,dP g 0),(12,dP g 1),(13,dB z.b),(14,dB (!z.b)),(15,dP g3 2),(16,.sh 2 (o.map RngD.d)),(17,dN o.length),(18,dB true),(19,dB true),(20,dP g 0),(21,dB q7),(22,dB q7),(23,.agg [dB false,dB q2,.sh 2 (o.map RngD.d)])]) [.sl ov 2 328 (o.map RngD.d)] (H1:=[.bx g 298 (.agg [.sh 1 (s7.l.map dR),dB s7.b]),.bx g1 306 (.agg [dB false,dB q2,.ov ov]),.bx g3 306 (.agg [dB false,dB q2,.ov ov])]) (H1':=[.bx g 298 (.agg [.sh 1 (s7.l.map dR),dB s7.b]),.bx g1 306 (.agg [dB false,dB q2,.sh 2 (o.map RngD.d)]),.bx g3 306 (.agg [dB false,dB q2,.sh 2 (o.map RngD.d)])]) ⟨⟨_,O,ArgC.id⟩,⟨_,O,ArgC.id⟩,⟨_,O,ArgC.id⟩,⟨_,O,ArgC.id⟩,⟨_,O,ArgC.id⟩,⟨_,O,ArgC.id⟩,⟨_,O,ArgC.id⟩,⟨_,O,ArgC.id⟩,⟨_,O,ArgC.id⟩,⟨_,O,ArgC.own (j:=0) O O⟩,⟨_,O,ArgC.id⟩,⟨_,O,ArgC.id⟩,⟨_,O,ArgC.id⟩,⟨_,O,ArgC.id⟩,⟨_,O,ArgC.id⟩,⟨_,O,ArgC.id⟩,⟨_,O,ArgC.agg (kl (kl (.cons (ArgC.own (j:=0) O O) .nil)))⟩,trivial⟩ (.same (.bx (ArgC.agg (kl (kl (.cons (ArgC.own (j:=0) O O) .nil)))) (.bx (ArgC.agg (kl (kl (.cons (ArgC.own (j:=0) O O) .nil)))) .nil)))) ?_
         exact tRs O Tryz.results273 (.cons (zh (i:=1) O O Tryz.isAgg306 Tryz.sizeOf306 O O) .nil) O (HSub.fst 1 O) ⟨⟨false,q2,o⟩,⟨s7.l,s7.b⟩,class_of e2 hff,O,O⟩
       · skip
         have h93:¬(0<o.length∧z.has 93=true):=fun k=>(by simpa using hc8:¬q7=true) ((zaQ e7).2.2.2.trans k.2)
         have hzs:z=s7:=ptake_f e7 (by simpa using hc8)
         subst hzs
         refine g' 1 O (T.front 3 O (T.front 3 O (T.front 3 O ?_)))
         exact tqe (hQ5 () h93) O
     · skip
       refine gQ 3 [1] O O (tP O (zV (n:=o.length) (j:=2) O O Tryz.runUnderlying304 (List.length_map _)) (tP O (zca O O (decide_eq_false hg6)) (g' 6 O ?_)))
       have h93:¬(0<o.length∧z.has 93=true):=fun k=>by omega
       refine g' 2 O ?_
       exact tqe (hQ5 () h93) O
   · skip
     rintro _ h93
     refine g' 5 O (tX [3] O O acs (pnext_c g z (by omega) hz) ?_)
     rintro _ _ ⟨rfl,rfl⟩
     refine g' 12 O ?_
     refine tOr 2 2 (c:=decide (z.any.1=(93:Int))) O O O O O O (fun hb10 nx11=>?_) ?_
     · skip
       have hf12:=of_decide_eq_true (notF hb10)
       refine g' 2 O ?_
       exact nx11 _ O O (kx 2 O O)
     refine g' 2 O ?_
     refine tC O (fun hc13=>?_) (fun hc13=>?_)
     · simp only[bX,bJ] at hc13
       have hff:=hf.symm.trans (class_no hzb h93 (by have h:=hc13;omega))
       refine gQ 20 [0,2,1] O O (T.front 3 O ?_)
       refine T.mv (Mv.freeze (K':=[(0,dP g 0),(2,dP g1 0),(3,dP g3 0),(4,.v (.int .i32 z.any.1)),(5,dB (decide (0<z.l.length))),(10,dP g 0),(11,dP g 0),(12,dP g 1),(13,dB z.b),(14,dB (!z.b)),(24,.tup [.v (.int .i32 z.any.1),dB (decide (0<z.l.length))]),(25,dP g 0),(26,.tup [.v (.int .i32 z.any.1),dB (decide (0<z.l.length))]),(27,.v (.int .i32 z.any.1)),(28,dB (decide (0<z.l.length))),(29,dB (decide (0<z.l.length))),(30,dB (!decide (0<z.l.length))),(31,dB (!decide (0<z.l.length))),(34,dB (!decide (0<z.l.length)||decide (z.any.1=(93:Int)))),(35,dP g 0),(36,dP g 0),(37,dP g 1),(38,.agg [dB false,dB q2,.sh 2 (o.map RngD.d)])]) [.sl ov 2 328 (o.map RngD.d)] (H1:=[.bx g 298 (.agg [.sh 1 (z.l.map dR),dB true]),.bx g1 306 (.agg [dB false,dB q2,.ov ov]),.bx g3 306 (.agg [dB false,dB q2,.ov ov])]) (H1':=[.bx g 298 (.agg [.sh 1 (z.l.map dR),dB true]),.bx g1 306 (.agg [dB false,dB q2,.sh 2 (o.map RngD.d)]),.bx g3 306 (.agg [dB false,dB q2,.sh 2 (o.map RngD.d)])]) ⟨⟨_,O,ArgC.id⟩,⟨_,O,ArgC.id⟩,⟨_,O,ArgC.id⟩,⟨_,O,ArgC.id⟩,⟨_,O,ArgC.id⟩,⟨_,O,ArgC.id⟩,⟨_,O,ArgC.id⟩,⟨_,O,ArgC.id⟩,⟨_,O,ArgC.id⟩,⟨_,O,ArgC.id⟩,⟨_,O,ArgC.id⟩,⟨_,O,ArgC.id⟩,⟨_,O,ArgC.id⟩,⟨_,O,ArgC.id⟩,⟨_,O,ArgC.id⟩,⟨_,O,ArgC.id⟩,⟨_,O,ArgC.id⟩,⟨_,O,ArgC.id⟩,⟨_,O,ArgC.id⟩,⟨_,O,ArgC.id⟩,⟨_,O,ArgC.id⟩,⟨_,O,ArgC.id⟩,⟨_,O,ArgC.agg (kl (kl (.cons (ArgC.own (j:=0) O O) .nil)))⟩,trivial⟩ (.same (.bx (ArgC.agg (kl (kl (.cons (ArgC.own (j:=0) O O) .nil)))) (.bx (ArgC.agg (kl (kl (.cons (ArgC.own (j:=0) O O) .nil)))) .nil)))) ?_
       exact tRs O Tryz.results273 (.cons (zh (i:=1) O O Tryz.isAgg306 Tryz.sizeOf306 O O) .nil) O (HSub.fst 1 O) ⟨⟨false,q2,o⟩,⟨z.l,true⟩,class_of e2 hff,O,O⟩
     · simp only[bX,bJ] at hc13
       have hnx:0<z.l.length∧z.any.1≠93:=by have h:=hc13;omega
       refine g' 5 O (tX [0] O O acs (pmember_c g z (by omega) hz) ?_)
       rintro _ _ ⟨c14,s14,e14,rfl,rfl⟩
       obtain ⟨kl14,kb14,kc14⟩:=pmember_e e14 hz
       have hT14:=hz.suf kl14
       have kd14:=kl14.length_le
       refine tP O (p_arr1 O) ?_
       refine tA O (fun g15=>?_)
       refine gQ 5 [0] O O (tP O (p_arrA0 O) (gQ 1 [0] O O (tP O (p_arrA1 O) (gQ 4 [0] O O ?_))))
       refine tJ (fun (jg:Int×Int×PR)=>[(0,dP g 0),(2,dP g1 0),(3,dP g3 0),(4,.v (.int .i32 z.any.1)),(5,dB (decide (0<z.l.length))),(6,dP g15 0),(10,dP g 0),(11,dP g 0),(12,dP g 1),(13,dB z.b),(14,dB (!z.b)),(24,.tup [.v (.int .i32 z.any.1),dB (decide (0<z.l.length))]),(25,dP g 0),(26,.tup [.v (.int .i32 z.any.1),dB (decide (0<z.l.length))]),(27,.v (.int .i32 z.any.1)),(28,dB (decide (0<z.l.length))),(29,dB (decide (0<z.l.length))),(30,dB (!decide (0<z.l.length))),(31,dB (!decide (0<z.l.length))),(34,dB (!decide (0<z.l.length)||decide (z.any.1=(93:Int)))),(39,dP g 0),(40,.v (.int .i32 c14)),(41,.agg [.v (.int .i32 c14),.v (.int .i32 0)]),(42,dP g15 0),(43,.v (.int .i32 c14)),(44,dP g15 1)]) (fun (jg:Int×Int×PR)=>[.bx g15 328 (.agg [.v (.int .i32 jg.1),.v (.int .i32 jg.2.1)]),.bx g 298 (.agg [.sh 1 (jg.2.2.l.map dR),dB jg.2.2.b]),.bx g1 306 (.agg [dB false,dB false,dZ]),.bx g3 306 (.agg [dB false,dB q2,.ov ov]),.sl ov 2 328 (o.map RngD.d)]) (fun (jg:Int×Int×PR)=>(((⟨jg.1,jg.2.1⟩:RngD),jg.2.2)=z.item)∧(ROk jg.2.2.l)∧(jg.2.2.l.length<z.l.length)) (fun _ hQ16=>?_) ?_
       · skip
         refine g' 1 O ?_
         by_cases h1l:(1:Int)<((s14.l.length:Nat):Int)
         · skip
           obtain ⟨x1,hx1⟩:=zN s14.l 0 (by omega)
           obtain ⟨x2,hx2⟩:=zN s14.l 1 (by omega)
           refine gQ 5 [1] O O (tP O (z8 (n:=s14.l.length) O Tryz.runUnderlying130 (by simp only[lm,lc,ln])) (tP O (zca O O (decide_eq_true h1l)) (gQ 5 [1] O O (tG O (zr (k:=0) O O Tryz.runUnderlying130 Tryz.sizeOf21 (by first | rfl | omega) (zI hx1)) (g' 4 O ?_)))))
           refine tAnd 15 7 (c:=decide (x2≠(93:Int))) O O O O O O (fun hb17 nx18=>?_) ?_
           · skip
             have hf19:=of_decide_eq_true hb17
             refine gQ 4 [1] O O (tG O (zr (k:=1) O O Tryz.runUnderlying130 Tryz.sizeOf21 (by first | rfl | omega) (zI hx2)) (g' 2 O ?_))
             exact nx18 _ O O (kx 7 O O)
           refine g' 2 O ?_
           refine tC O (fun hc20=>?_) (fun hc20=>?_)
           · simp only[bX,bJ] at hc20
             have hxq:x1=45∧x2≠93:=by have h:=hc20;omega
             refine g' 3 O (tX [1] O O acs (ze2 g s14 (by omega) hT14) ?_)
             rintro _ _ ⟨c21,s21,e21,rfl,rfl⟩
             obtain ⟨kl21,kb21,kc21⟩:=ze1 e21 hT14
             have hT21:=hT14.suf kl21
             have kd21:=kl21.length_le
             refine g' 4 O (tX [0] O O acs (pmember_c g s21 (by omega) hT21) ?_)
             rintro _ _ ⟨c22,s22,e22,rfl,rfl⟩
             obtain ⟨kl22,kb22,kc22⟩:=pmember_e e22 hT21
             have hT22:=hT21.suf kl22
             have kd22:=kl22.length_le
             refine tP O (p_arrA1 O) (gQ 2 [1] O O (T.front 4 O (T.front 4 O (T.front 4 O (T.front 3 O (T.front 4 O ?_))))))
             exact tqe (hQ16 (c14,c22,(⟨s22.l,s22.b⟩:PR)) ⟨pitem_1 e14 hx1 hx2 hxq e21 e22,hT22,(by show s22.l.length<_;omega)⟩) O
           · simp only[bX,bJ] at hc20
             have hxq:¬(x1=45∧x2≠93):=by have h:=hc20;omega
             refine g' 1 O ?_
             exact tqe (hQ16 (c14,c14,(⟨s14.l,s14.b⟩:PR)) ⟨pitem_0 e14 hx1 hx2 hxq,hT14,(by show s14.l.length<_;omega)⟩) O
         · skip
           refine gQ 5 [1] O O (tP O (z8 (n:=s14.l.length) O Tryz.runUnderlying130 (by simp only[lm,lc,ln])) (tP O (zca O O (decide_eq_false h1l)) (g' 22 O ?_)))
           exact tqe (hQ16 (c14,c14,(⟨s14.l,s14.b⟩:PR)) ⟨pitem_s e14 (by show ¬1<s14.l.length;omega),hT14,(by show s14.l.length<_;omega)⟩) O
       · skip
         rintro ⟨ia,ib,w⟩ ⟨hit,hTw,hlw⟩
         replace hit:((⟨ia,ib⟩:RngD),w)=z.item:=hit
         replace hTw:ROk w.l:=hTw
         replace hlw:w.l.length<z.l.length:=hlw
         refine T.kk [(0,dP g 0),(2,dP g1 0),(3,dP g3 0),(4,.v (.int .i32 z.any.1)),(5,dB (decide (0<z.l.length))),(6,dP g15 0),(10,dP g 0),(11,dP g 0),(12,dP g 1),(13,dB z.b),(14,dB (!z.b)),(24,.tup [.v (.int .i32 z.any.1),dB (decide (0<z.l.length))]),(25,dP g 0),(26,.tup [.v (.int .i32 z.any.1),dB (decide (0<z.l.length))]),(27,.v (.int .i32 z.any.1)),(28,dB (decide (0<z.l.length))),(29,dB (decide (0<z.l.length))),(30,dB (!decide (0<z.l.length))),(31,dB (!decide (0<z.l.length))),(34,dB (!decide (0<z.l.length)||decide (z.any.1=(93:Int)))),(39,dP g 0),(40,.v (.int .i32 c14)),(41,.agg [.v (.int .i32 c14),.v (.int .i32 0)]),(42,dP g15 0),(43,.v (.int .i32 c14)),(44,dP g15 1)] O ?_
         refine T.norm [.bx g15 328 (.agg [.v (.int .i32 ia),.v (.int .i32 ib)]),.bx g 298 (.agg [.sh 1 (w.l.map dR),dB w.b]),.bx g1 306 (.agg [dB false,dB false,dZ]),.bx g3 306 (.agg [dB false,dB q2,.ov ov]),.sl ov 2 328 (o.map RngD.d)] (by rfl) (gQ 9 [1] O O ?_)
         refine tOr 5 5 (c:=decide (ib<ia)) O O O O O O (fun hb23 nx24=>?_) ?_
         · skip
           refine tG O (p_arrA0 O) (gQ 1 [0] O O (tG O (p_arrA1 O) (gQ 2 [0] O O ?_)))
           exact nx24 _ O O (kx 5 O O)
         refine gQ 9 [1,3,0] O O (tE O (zE [.tmp 90] O O (.cons CellD.agg .nil) O Tryz.runUnderlying304 Tryz.sizeOf328 Tryz.zeroValue328 O O O O) ?_)
         rintro _ _ ⟨g25,rfl,rfl⟩
         refine tE O (zz (f:=RngD.d) (l:=o) (l':=[(RngD.mk ia ib)]) (i:=5) O O O (SrcD.own (j:=0) O O) und_304 infz_328 O O (by unfold maxLen;(try simp only[la,lc,ln,lm,lt',ld,ls,lr]);omega) (by (try simp only[la,lc,ln,lm,lt',ld,ls,lr]);omega)) ?_
         rintro _ _ ⟨v26,rfl,rfl⟩
         refine gQ 4 [4] O O (T.front 2 O (T.front 5 O (T.front 5 O (T.front 5 O (T.subH (HSub.fst 4 O) ?_)))))
         exact tp4 f (⟨w.l,(w.b||decide (ib<ia))⟩:PR) v26 (o++[(RngD.mk ia ib)]) (sa O) HSub.rfl' ⟨by show w.l.length<_;omega,(class_go hzb h93 hnx (hit)).symm.trans hf,hTw,by simp only[la,List.length_singleton];omega⟩ (by omega)
 · simp only[bX,bJ] at hc4
   have hff:=hf.symm.trans (class_bad (by simpa using hc4))
   refine gQ 12 [1,0] O O (T.front 2 O (T.mv (Mv.freeze (K':=[(0,dP g 0),(2,dP g1 0),(3,dP g3 0),(10,dP g 0),(11,dP g 0),(12,dP g 1),(13,dB z.b),(14,dB (!z.b)),(94,.agg [dB false,dB q2,.sh 2 (o.map RngD.d)])]) [.sl ov 2 328 (o.map RngD.d)] (H1:=[.bx g1 306 (.agg [dB false,dB q2,.ov ov]),.bx g3 306 (.agg [dB false,dB q2,.ov ov]),.bx g 298 (.agg [.sh 1 (z.l.map dR),dB z.b])]) (H1':=[.bx g1 306 (.agg [dB false,dB q2,.sh 2 (o.map RngD.d)]),.bx g3 306 (.agg [dB false,dB q2,.sh 2 (o.map RngD.d)]),.bx g 298 (.agg [.sh 1 (z.l.map dR),dB z.b])]) ⟨⟨_,O,ArgC.id⟩,⟨_,O,ArgC.id⟩,⟨_,O,ArgC.id⟩,⟨_,O,ArgC.id⟩,⟨_,O,ArgC.id⟩,⟨_,O,ArgC.id⟩,⟨_,O,ArgC.id⟩,⟨_,O,ArgC.id⟩,⟨_,O,ArgC.agg (kl (kl (.cons (ArgC.own (j:=0) O O) .nil)))⟩,trivial⟩ (.bx (ArgC.agg (kl (kl (.cons (ArgC.own (j:=0) O O) .nil)))) (.bx (ArgC.agg (kl (kl (.cons (ArgC.own (j:=0) O O) .nil)))) (.same .nil)))) (T.front 2 O ?_)))
   exact tRs O Tryz.results273 (.cons (zh (i:=1) O O Tryz.isAgg306 Tryz.sizeOf306 O O) .nil) O (HSub.fst 1 O) ⟨⟨false,q2,o⟩,⟨z.l,z.b⟩,class_of e2 hff,O,O⟩
end Lp
set_option linter.unusedVariables false
namespace Lp
open Go
def Suf (p:PR→Pt×PR):Prop:=∀ s,(p s).2.l <:+s.l
theorem PR.take_suf (s:PR) (c:Int):(s.take c).2.l <:+s.l:=by
 unfold PR.take;split
 · exact List.tail_suffix _
 · exact List.suffix_refl _
theorem PR.any_suf (s:PR):s.any.2.l <:+s.l:=by
 unfold PR.any
 cases e:s.l with
 | nil=>exact List.suffix_refl _
 | cons y l=>exact List.suffix_cons y l
theorem PR.member_suf (s:PR):s.member.2.l <:+s.l:=by
 unfold PR.member;split
 · exact(PR.any_suf _).trans (PR.any_suf _)
 · exact PR.any_suf _
theorem PR.item_suf (s:PR):s.item.2.l <:+s.l:=by
 unfold PR.item;simp only;split
 · exact((PR.member_suf _).trans (PR.any_suf _)).trans (PR.member_suf _)
 · exact PR.member_suf _
theorem classF_suf (nt:Bool):∀ (f:Nat) (o:List RngD) (s:PR),(zaG nt f o s).2.l <:+s.l
 | 0,o,s=>List.suffix_refl _
 | f+1,o,s=>by
  unfold zaG
  split
  · exact List.suffix_refl _
  · split
    · exact PR.take_suf _ _
    · split
      · exact List.suffix_refl _
      · exact(classF_suf nt f (o++[s.item.1]) ⟨s.item.2.l,s.item.2.b||decide (s.item.1.hi<s.item.1.lo)⟩).trans (PR.item_suf s)
theorem PR.cls_suf (s:PR):s.cls.2.l <:+s.l:=(classF_suf _ _ _ _).trans (PR.take_suf _ _)
theorem PR.times_suf (s:PR) (x:Pt):(s.times x).2.l <:+s.l:=by
 unfold PR.times;repeat' split
 all_goals first | exact PR.take_suf _ _ | exact List.suffix_refl _
theorem PR.atom_suf {alt:PR→Pt×PR} (ha:Suf alt) (s:PR):(s.atom alt).2.l <:+s.l:=by
 unfold PR.atom;simp only
 split
 · split
   · exact(ha _).trans (PR.any_suf _)
   · exact((PR.take_suf _ _).trans (ha _)).trans (PR.any_suf _)
 · split
   · exact(PR.cls_suf _).trans (PR.any_suf _)
   · split
     · exact PR.any_suf _
     · split
       · exact(PR.any_suf _).trans (PR.any_suf _)
       · exact PR.any_suf _
theorem partsF_suf {alt:PR→Pt×PR} (ha:Suf alt):∀ (f:Nat) (o:List Pt) (s:PR),(zam alt f o s).2.l <:+s.l
 | 0,o,s=>List.suffix_refl _
 | f+1,o,s=>by
  unfold zam
  split
  · exact List.suffix_refl _
  · exact((partsF_suf ha f _ _).trans (PR.times_suf _ _)).trans (PR.atom_suf ha s)
theorem PR.parts_suf {alt:PR→Pt×PR} (ha:Suf alt) (s:PR):(s.parts alt).2.l <:+s.l:=partsF_suf ha _ _ _
theorem altsF_suf {alt:PR→Pt×PR} (ha:Suf alt):∀ (f:Nat) (o:List Pt) (s:PR),(zbL alt f o s).2.l <:+s.l
 | 0,o,s=>List.suffix_refl _
 | f+1,o,s=>by
  unfold zbL
  split
  · exact((altsF_suf ha f _ _).trans (PR.parts_suf ha _)).trans (PR.take_suf _ _)
  · exact List.suffix_refl _
theorem zdF:∀ f:Nat,Suf (altF f)
 | 0=>fun s=>List.suffix_refl _
 | f+1=>fun s=>by
  unfold altF;simp only
  exact(altsF_suf (zdF f) _ _ _).trans (PR.parts_suf (zdF f) s)
end Lp
set_option linter.unusedSimpArgs false
set_option linter.unusedVariables false
set_option maxHeartbeats 4000000
set_option maxRecDepth 100000
namespace Lp
open Go Go.RowKit Go.Proofs
theorem bd_312:BdP Tryz.prog #[⟨"l",310,0,false, "", "leporello/pattern",0⟩] [(0,1)]:=fun _=>by kernel_rfl
theorem ze9:BdP Tryz.prog #[⟨"s",306,0,false, "", "leporello/pattern",0⟩] [(0,3)]:=fun _=>by kernel_rfl
theorem fa_312_0:FaP Tryz.prog 312 0 0:=fun _ _ _=>by kernel_rfl
theorem fa_317_0:FaP Tryz.prog 317 0 0:=fun _ _ _=>by kernel_rfl
theorem infz_20:IzP Tryz.prog 20 .nilIface 1 16:=zcs (by kernel_rfl)
theorem und_310:Tryz.prog.underlying 310=some (.slice 20):=by kernel_rfl
theorem CD.nmx {P:Program} {f:FuncId} {H:List Hp} {ds:List D} {α β:Type} {p:α×β} {y:α} {s:β} (e:(y,s)=p) {F:α→D} {G:β→List Hp} (h:CD P f H ds (fun r H'=>∃ y' s',(y',s')=p∧r=F y'∧H'=G s')):CD P f H ds (fun r H'=>r=F y∧H'=G s):=by
 subst e
 refine⟨fun w F' vs h1 h2 h3=>(h.out w F' vs h1 h2 h3).mono ?_⟩
 rintro e' w' ⟨u,he,F2,d,H',⟨y',s',e1,rfl,rfl⟩,hr,hg⟩
 injection e1 with e1 e2;subst e1;subst e2
 exact⟨u,he,F2,_,_,⟨O,O⟩,hr,hg⟩
def AltOk (f:Nat):Prop:=∀ (g:Nat) (s:PR),s.l.length<f→s.l.length≤1000000→ROk s.l→CD Tryz.prog 261 [PB g s] [dP g 0] (fun r H'=>∃ x s',(x,s')=altF f s∧r=Pt.d x∧H'=[PB g s'])
theorem row_d (o:List Pt):D.ifc 317 (.agg [.sh 1 (o.map Pt.d)])=Pt.d (.row o):=by rw[←Pt.ds_eq];rfl
theorem alt_d (o:List Pt):D.ifc 312 (.agg [.sh 1 (o.map Pt.d)])=Pt.d (.alt o):=by rw[←Pt.ds_eq];rfl
section
variable {s s' s1 s2 s3 s4 z:PR} {a b c:Int} {q:Bool} {o:List Pt} {f:Nat} {x y:Pt} {alt:PR→Pt×PR}
theorem atom_g1 (e:(c,s1)=s.any) (hc:c=40) (e2:(x,s2)=alt s1) (hb:s2.b=true):(x,(⟨s2.l,true⟩:PR))=s.atom alt:=by
 unfold PR.atom;rw[←e];simp only[if_pos hc];rw[←e2];simp only[if_pos hb];rw[←hb]
theorem atom_g2 (e:(c,s1)=s.any) (hc:c=40) (e2:(x,s2)=alt s1) (hb:s2.b=false) (e3:(q,s3)=s2.take 41):(x,(⟨s3.l,!q⟩:PR))=s.atom alt:=by
 unfold PR.atom;rw[←e];simp only[if_pos hc];rw[←e2];simp only[if_neg (show ¬s2.b=true by rw[hb];simp)];rw[←e3]
theorem atom_c {st:SetD} (e:(c,s1)=s.any) (h1:¬c=40) (h2:c=91) (e2:(st,s2)=s1.cls):(Pt.one st,s2)=s.atom alt:=by
 unfold PR.atom;rw[←e];simp only[if_neg h1,if_pos h2];rw[←e2]
theorem atom_d (e:(c,s1)=s.any) (h1:¬c=40) (h2:¬c=91) (h3:c=46):(Pt.one ⟨true,false,[]⟩,s1)=s.atom alt:=by
 unfold PR.atom;rw[←e];simp only[if_neg h1,if_neg h2,if_pos h3]
theorem atom_b (e:(c,s1)=s.any) (h1:¬c=40) (h2:¬c=91) (h3:¬c=46) (h4:c=92) (e2:(a,s2)=s1.any):(Pt.one ⟨false,false,[⟨a,a⟩]⟩,s2)=s.atom alt:=by
 unfold PR.atom;rw[←e];simp only[if_neg h1,if_neg h2,if_neg h3,if_pos h4];rw[←e2]
theorem atom_e (e:(c,s1)=s.any) (h1:¬c=40) (h2:¬c=91) (h3:¬c=46) (h4:¬c=92):(Pt.one ⟨false,false,[⟨c,c⟩]⟩,(⟨s1.l,s1.b||sgnN.any (fun x=>decide (x=c))⟩:PR))=s.atom alt:=by
 unfold PR.atom;rw[←e];simp only[if_neg h1,if_neg h2,if_neg h3,if_neg h4]
theorem atom_et (e:(c,s1)=s.any) (h1:¬c=40) (h2:¬c=91) (h3:¬c=46) (h4:¬c=92) (h5:sgnN.any (fun x=>decide (x=c))=true):(Pt.one ⟨false,false,[⟨c,c⟩]⟩,(⟨s1.l,true⟩:PR))=s.atom alt:=by
 rw[←atom_e e h1 h2 h3 h4,h5,Bool.or_true]
theorem atom_ef (e:(c,s1)=s.any) (h1:¬c=40) (h2:¬c=91) (h3:¬c=46) (h4:¬c=92) (h5:sgnN.any (fun x=>decide (x=c))=false):(Pt.one ⟨false,false,[⟨c,c⟩]⟩,(⟨s1.l,s1.b⟩:PR))=s.atom alt:=by
 rw[←atom_e e h1 h2 h3 h4,h5,Bool.or_false]
theorem atom_facts (e:(x,s')=s.atom alt) (h0:0<s.l.length) (ha:∀ s,(alt s).2.l.length≤s.l.length) (hs:Suf alt):s'.l <:+s.l∧s'.l.length+1≤s.l.length:=by
 have h2:s'=(s.atom alt).2:=congrArg Prod.snd e
 rw[h2];exact⟨PR.atom_suf hs s,PR.atom_lt ha (List.length_pos_iff.1 h0)⟩
theorem times_facts (e:(y,s')=s.times x):s'.l <:+s.l:=by
 have h2:s'=(s.times x).2:=congrArg Prod.snd e
 rw[h2];exact PR.times_suf s x
theorem parts_facts (e:(y,s')=s.parts alt) (hs:Suf alt):s'.l <:+s.l:=by
 have h2:s'=(s.parts alt).2:=congrArg Prod.snd e
 rw[h2];exact PR.parts_suf hs s
theorem alt_facts (e:(y,s')=altF f s):s'.l <:+s.l:=by
 have h2:s'=(altF f s).2:=congrArg Prod.snd e
 rw[h2];exact zdF f s
theorem stop_iff:z.stop=true↔(z.l.length=0∨z.any.1=124∨z.any.1=41):=by
 unfold PR.stop
 simp only[Bool.or_eq_true,decide_eq_true_eq,zd1,←List.length_eq_zero_iff]
 omega
theorem parts_bad (h:z.b=true):zam alt (f+1) o z=(o,z):=by unfold zam;rw[if_pos (Or.inl h)]
theorem parts_stop (h:z.l.length=0∨z.any.1=124∨z.any.1=41):zam alt (f+1) o z=(o,z):=by unfold zam;rw[if_pos (Or.inr (stop_iff.2 h))]
theorem parts_go (h:z.b=false) (h2:¬(z.l.length=0∨z.any.1=124∨z.any.1=41)) (e:(x,s1)=z.atom alt) (e2:(y,s2)=s1.times x):zam alt (f+1) o z=zam alt f (o++[y]) s2:=by
 conv=>lhs;unfold zam
 rw[if_neg (by rintro (k | k);(rw[h] at k;cases k);exact h2 (stop_iff.1 k)),←e];simp only;rw[←e2]
theorem parts_of (hf:zam alt (s.l.length+1) [] s=(o,s')):(Pt.row o,s')=s.parts alt:=by unfold PR.parts;rw[hf]
theorem alts_go (e:(q,s1)=z.take 124) (hq:q=true) (e2:(y,s2)=s1.parts alt):zbL alt (f+1) o z=zbL alt f (o++[y]) s2:=by
 conv=>lhs;unfold zbL
 rw[if_pos ((zaQ e).2.2.2.symm.trans hq),←e];simp only;rw[←e2]
theorem alts_end (e:(q,s1)=z.take 124) (hq:¬q=true):zbL alt (f+1) o z=(o,s1):=by
 unfold zbL;rw[if_neg (fun k=>hq ((zaQ e).2.2.2.trans k)),ptake_f e hq]
theorem alts_of (e:(x,s1)=s.parts (altF f)) (hf:zbL (altF f) (s1.l.length+1) [x] s1=(o,s')):(Pt.alt o,s')=altF (f+1) s:=by unfold altF;simp only;rw[←e];simp only;rw[hf]
end
theorem patom_s (g:Nat) (s:PR) (f:Nat) (ih:AltOk f) (hl:s.l.length≤1000000) (hT:ROk s.l) (hf:s.l.length<f+1):
 CD Tryz.prog 271 [.bx g 298 (.agg [.sh 1 (s.l.map dR),dB s.b])] [dP g 0] (fun r H'=>∃ x s',(x,s')=s.atom (altF f)∧r=Pt.d x∧H'=[PB g s']):=by
 refine tZ Tryz.func271 O O (fun C=>?_)
 refine g' 8 O (tX [0] O O acs (ze2 g s (by omega) hT) ?_)
 rintro _ _ ⟨c1,s1,e1,rfl,rfl⟩
 obtain ⟨kl1,kb1,kc1⟩:=ze1 e1 hT
 have hT1:=hT.suf kl1
 have kd1:=kl1.length_le
 refine g' 12 O ?_
 refine tD O (fun hc2=>?_) (fun hc2=>?_)
 · skip
   have hne:0<s.l.length:=by rcases Nat.eq_zero_or_pos s.l.length with h0 | h0;(have hz:=(pnext_0 h0).1;have he:=congrArg Prod.fst e1;simp only at he;omega);exact h0
   refine g' 3 O (tX [0] O O acs (ih g s1 (by omega) (by omega) hT1) ?_)
   rintro _ _ ⟨x3,s3,e3,rfl,rfl⟩
   have kl3:=alt_facts e3
   have hT3:=hT1.suf kl3
   have kd3:=kl3.length_le
   refine g' 4 O ?_
   rcases Bool.eq_false_or_eq_true (s3.b) with hg4 | hg4
   · skip
     refine g' 5 O (tP O ((zk O (i:=0) O Tryz.isAgg4 O).cv (cB ((hg4)))) (gQ 19 [0] O O ?_))
     exact tR O (HSub.fst 1 O) ⟨x3,⟨s3.l,true⟩,atom_g1 e1 hc2 e3 hg4,O,O⟩
   · skip
     refine g' 5 O (tP O ((zk O (i:=0) O Tryz.isAgg4 O).cv (cB ((hg4)))) (g' 2 O (tX [0] O O acs (zdJ g s3 (41:Int) (by omega) hT3) ?_)))
     rintro _ _ ⟨q5,s5,e5,rfl,rfl⟩
     obtain ⟨kl5,kb5,kc5,ke5⟩:=zaQ e5
     have hT5:=hT3.suf kl5
     have kd5:=kl5.length_le
     refine gQ 16 [0] O O ?_
     exact tR O (HSub.fst 1 O) ⟨x3,⟨s5.l,!q5⟩,atom_g2 e1 hc2 e3 hg4 e5,O,O⟩
 · skip
   refine g' 7 O ?_
   refine tD O (fun hc6=>?_) (fun hc6=>?_)
   · skip
     refine g' 3 O (tX [0] O O acs (pclass_c g s1 (by omega) hT1) ?_)
     rintro _ _ ⟨st7,s7,e7,rfl,rfl⟩
     refine tP O (zf [0] [.tmp 29] (zv:=(.agg #[(.bool false),(.bool false),(.slice none 0 0)])) O O (.cons CellD.agg .nil) (Tryz.runUnderlying315) Tryz.zeroValue315 ze9 ⟨O,O,O,trivial⟩ O) (g' 7 O ?_)
     exact tR O (HSub.fst 1 O) ⟨.one st7,⟨s7.l,s7.b⟩,atom_c e1 hc2 hc6 e7,O,O⟩
   · skip
     refine g' 7 O ?_
     refine tD O (fun hc8=>?_) (fun hc8=>?_)
     · skip
       refine g' 2 O (tP O (zf [0] [.const (.bool true)] (zv:=(.agg #[(.bool false),(.bool false),(.slice none 0 0)])) O O (.cons (CellD.v O) .nil) (Tryz.runUnderlying306) Tryz.zeroValue306 zfb ⟨O,O,O,trivial⟩ O) (tP O (zf [0] [.tmp 35] (zv:=(.agg #[(.bool false),(.bool false),(.slice none 0 0)])) O O (.cons CellD.agg .nil) (Tryz.runUnderlying315) Tryz.zeroValue315 ze9 ⟨O,O,O,trivial⟩ O) (g' 7 O ?_)))
       exact tRs O Tryz.results271 (.cons (zd (zc O) (Cv.ifc (Cv.agg (km (km (.cons Cv.nil .nil)))))) .nil) O (HSub.fst 1 O) ⟨.one ⟨true,false,[]⟩,⟨s1.l,s1.b⟩,atom_d e1 hc2 hc6 hc8,O,O⟩
     · skip
       refine g' 7 O ?_
       refine tD O (fun hc9=>?_) (fun hc9=>?_)
       · skip
         refine g' 2 O (tX [0] O O acs (ze2 g s1 (by omega) hT1) ?_)
         rintro _ _ ⟨c10,s10,e10,rfl,rfl⟩
         obtain ⟨kl10,kb10,kc10⟩:=ze1 e10 hT1
         have hT10:=hT1.suf kl10
         have kd10:=kl10.length_le
         refine g' 8 O (tP O (p_arr2 O O) (tE O (Qu.ef (d:=.sh 2 ([(RngD.mk c10 c10)].map RngD.d)) (ze [.tmp 51] O O (.cons CellD.agg .nil) O Tryz.runUnderlying304 Tryz.sizeOf328 Tryz.zeroValue328 O O O O)) ?_))
         rintro _ _ ⟨rfl,rfl⟩
         refine tP O (zf [2] [.tmp 52] (zv:=(.agg #[(.bool false),(.bool false),(.slice none 0 0)])) O O (.cons CellD.sh .nil) (Tryz.runUnderlying306) Tryz.zeroValue306 zfb ⟨O,O,O,trivial⟩ O) (tP O (zf [0] [.tmp 53] (zv:=(.agg #[(.bool false),(.bool false),(.slice none 0 0)])) O O (.cons CellD.agg .nil) (Tryz.runUnderlying315) Tryz.zeroValue315 ze9 ⟨O,O,O,trivial⟩ O) (g' 5 O ?_))
         exact tR O (HSub.fst 1 O) ⟨.one ⟨false,false,[⟨c10,c10⟩]⟩,⟨s10.l,s10.b⟩,atom_b e1 hc2 hc6 hc8 hc9 e10,O,O⟩
       · skip
         refine g' 3 O (tW O acs (containsR_c c1 (by omega) (by omega)) (g' 3 O ?_))
         refine tC O (fun hc11=>?_) (fun hc11=>?_)
         · skip
           refine gQ 12 [0] O O (tP O (p_arr2 O O) (tE O (Qu.ef (d:=.sh 2 ([(RngD.mk c1 c1)].map RngD.d)) (ze [.tmp 51] O O (.cons CellD.agg .nil) O Tryz.runUnderlying304 Tryz.sizeOf328 Tryz.zeroValue328 O O O O)) ?_))
           rintro _ _ ⟨rfl,rfl⟩
           refine tP O (zf [2] [.tmp 52] (zv:=(.agg #[(.bool false),(.bool false),(.slice none 0 0)])) O O (.cons CellD.sh .nil) (Tryz.runUnderlying306) Tryz.zeroValue306 zfb ⟨O,O,O,trivial⟩ O) (tP O (zf [0] [.tmp 53] (zv:=(.agg #[(.bool false),(.bool false),(.slice none 0 0)])) O O (.cons CellD.agg .nil) (Tryz.runUnderlying315) Tryz.zeroValue315 ze9 ⟨O,O,O,trivial⟩ O) (g' 5 O ?_))
           exact tR O (HSub.fst 1 O) ⟨.one ⟨false,false,[⟨c1,c1⟩]⟩,⟨s1.l,true⟩,atom_et e1 hc2 hc6 hc8 hc9 (by simpa using hc11),O,O⟩
         · skip
           refine g' 7 O (tP O (p_arr2 O O) (tE O (Qu.ef (d:=.sh 2 ([(RngD.mk c1 c1)].map RngD.d)) (ze [.tmp 51] O O (.cons CellD.agg .nil) O Tryz.runUnderlying304 Tryz.sizeOf328 Tryz.zeroValue328 O O O O)) ?_))
           rintro _ _ ⟨rfl,rfl⟩
           refine tP O (zf [2] [.tmp 52] (zv:=(.agg #[(.bool false),(.bool false),(.slice none 0 0)])) O O (.cons CellD.sh .nil) (Tryz.runUnderlying306) Tryz.zeroValue306 zfb ⟨O,O,O,trivial⟩ O) (tP O (zf [0] [.tmp 53] (zv:=(.agg #[(.bool false),(.bool false),(.slice none 0 0)])) O O (.cons CellD.agg .nil) (Tryz.runUnderlying315) Tryz.zeroValue315 ze9 ⟨O,O,O,trivial⟩ O) (g' 5 O ?_))
           exact tR O (HSub.fst 1 O) ⟨.one ⟨false,false,[⟨c1,c1⟩]⟩,⟨s1.l,s1.b⟩,atom_ef e1 hc2 hc6 hc8 hc9 (by simpa using hc11),O,O⟩
theorem pparts_s (g:Nat) (s:PR) (f:Nat) (ih:AltOk f) (hl:s.l.length≤1000000) (hT:ROk s.l) (hf0:s.l.length<f+1):
 CD Tryz.prog 265 [.bx g 298 (.agg [.sh 1 (s.l.map dR),dB s.b])] [dP g 0] (fun r H'=>∃ x s',(x,s')=s.parts (altF f)∧r=Pt.d x∧H'=[PB g s']):=by
 refine tZ Tryz.func265 O O (fun C=>?_)
 refine g' 7 O ?_
 refine tA O (fun g1=>?_)
 refine g' 4 O (T.subH (HSub.nil 1 20) (T.front 1 O (T.subH (HSub.turn (h':=.bx g1 317 (.agg [.ov (.slice none 0 0)])) O (Hp.cv_bx (Cv.agg (.cons (Cv.ov O) .nil)))) (T.front 1 O (T.front 1 O (T.front 2 O (tl4 (fun (a_:Nat) (b_:PR) (c_:Value) (d_:List Pt)=>[(0,dP g 0),(2,.v .nilIface),(3,dP g1 0)]) (fun a_ b_ c_ d_=>[.bx g 298 (.agg [.sh 1 (b_.l.map dR),dB b_.b]),.bx g1 317 (.agg [.ov c_]),.sl c_ 1 20 (d_.map Pt.d)]) (fun a_ b_ c_ d_=>(b_.l.length<a_)∧(zam (altF f) a_ d_ b_=zam (altF f) (s.l.length+1) [] s)∧(ROk b_.l)∧(d_.length+b_.l.length≤1000000∧b_.l.length≤s.l.length)) (fun a_ b_ c_ d_=>a_) (s.l.length+1) s (.slice none 0 0) [] O (sa O) HSub.rfl' ⟨(by omega),O,hT,(by show 0+s.l.length≤_∧_;omega)⟩ ?_)))))))
 rintro k z ov o ⟨hlf,hf,hz,hol⟩
 obtain ⟨k,rfl⟩:∃ n,k=n+1:=⟨k-1,by omega⟩
 refine gQ 10 [0] O O ?_
 refine tC O (fun hc2=>?_) (fun hc2=>?_)
 · simp only[bX,bJ] at hc2
   have hzb:z.b=false:=by simpa using hc2
   refine g' 6 O (tX [0] O O acs (pnext_c g z (by omega) hz) ?_)
   rintro _ _ ⟨rfl,rfl⟩
   refine g' 13 O ?_
   refine tOr 2 2 (c:=decide (z.any.1=(124:Int))) O O O O O O (fun hb4 nx5=>?_) ?_
   · skip
     have hf6:=of_decide_eq_true (notF hb4)
     refine g' 2 O ?_
     exact nx5 _ O O (kx 2 O O)
   refine g' 1 O ?_
   refine tOr 6 2 (c:=decide (z.any.1=(41:Int))) O O O O O O (fun hb7 nx8=>?_) ?_
   · skip
     obtain ⟨hf9,hf10⟩:=orF hb7
     have hf11:=of_decide_eq_true (notF hf9)
     have hf12:=of_decide_eq_false hf10
     refine g' 2 O ?_
     exact nx8 _ O O (kx 2 O O)
   refine g' 2 O ?_
   refine tC O (fun hc13=>?_) (fun hc13=>?_)
   · simp only[bX,bJ] at hc13
     have hff:=hf.symm.trans (parts_stop (by have h:=hc13;omega))
     refine gQ 14 [1] O O (T.front 2 O ?_)
     refine T.mv (Mv.freeze (K':=[(0,dP g 0),(2,.ifc 317 (.agg [.sh 1 (o.map Pt.d)])),(3,dP g1 0),(4,.v (.int .i32 z.any.1)),(5,dB (decide (0<z.l.length))),(6,dP g 0),(7,dP g 0),(8,dP g 1),(9,dB z.b),(10,dB (!z.b)),(11,.tup [.v (.int .i32 z.any.1),dB (decide (0<z.l.length))]),(12,dP g 0),(13,.tup [.v (.int .i32 z.any.1),dB (decide (0<z.l.length))]),(14,.v (.int .i32 z.any.1)),(15,dB (decide (0<z.l.length))),(16,dB (decide (0<z.l.length))),(17,dB (!decide (0<z.l.length))),(18,dB (!decide (0<z.l.length))),(21,dB (!decide (0<z.l.length)||decide (z.any.1=(124:Int)))),(22,dB (!decide (0<z.l.length)||decide (z.any.1=(124:Int)))),(25,dB ((!decide (0<z.l.length)||decide (z.any.1=(124:Int)))||decide (z.any.1=(41:Int)))),(35,.agg [.sh 1 (o.map Pt.d)]),(36,.ifc 317 (.agg [.sh 1 (o.map Pt.d)]))]) [.sl ov 1 20 (o.map Pt.d)] (H1:=[.bx g 298 (.agg [.sh 1 (z.l.map dR),dB z.b]),.bx g1 317 (.agg [.ov ov])]) (H1':=[.bx g 298 (.agg [.sh 1 (z.l.map dR),dB z.b]),.bx g1 317 (.agg [.sh 1 (o.map Pt.d)])]) ⟨⟨_,O,ArgC.id⟩,⟨_,O,ArgC.ifc (ArgC.agg (.cons (ArgC.own (j:=0) O O) .nil))⟩,⟨_,O,ArgC.id⟩,⟨_,O,ArgC.id⟩,⟨_,O,ArgC.id⟩,⟨_,O,ArgC.id⟩,⟨_,O,ArgC.id⟩,⟨_,O,ArgC.id⟩,⟨_,O,ArgC.id⟩,⟨_,O,ArgC.id⟩,⟨_,O,ArgC.id⟩,⟨_,O,ArgC.id⟩,⟨_,O,ArgC.id⟩,⟨_,O,ArgC.id⟩,⟨_,O,ArgC.id⟩,⟨_,O,ArgC.id⟩,⟨_,O,ArgC.id⟩,⟨_,O,ArgC.id⟩,⟨_,O,ArgC.id⟩,⟨_,O,ArgC.id⟩,⟨_,O,ArgC.id⟩,⟨_,O,ArgC.agg (.cons (ArgC.own (j:=0) O O) .nil)⟩,⟨_,O,ArgC.ifc (ArgC.agg (.cons (ArgC.own (j:=0) O O) .nil))⟩,trivial⟩ (.same (.bx (ArgC.agg (.cons (ArgC.own (j:=0) O O) .nil)) .nil))) ?_
     exact tRs O Tryz.results265 (.cons (zd (zc O) (Cv.eq (row_d _))) .nil) O (HSub.fst 1 O) ⟨.row o,⟨z.l,z.b⟩,parts_of hff,O,O⟩
   · simp only[bX,bJ] at hc13
     have hns:¬(z.l.length=0∨z.any.1=124∨z.any.1=41):=by have h:=hc13;omega
     refine g' 2 O ?_
     obtain ⟨a1,za,ea⟩:∃ a s1,(a,s1)=z.atom (altF f):=⟨_,_,rfl⟩
     obtain ⟨kl1,kd1⟩:=atom_facts ea (by omega) (zeG f) (zdF f)
     have hTa:=hz.suf kl1
     obtain ⟨y1,zb,eb⟩:∃ a s1,(a,s1)=za.times a1:=⟨_,_,rfl⟩
     have kl2:=times_facts eb
     have hTb:=hTa.suf kl2
     have kd2:=kl2.length_le
     have hzT:=hTb
     refine T.keep [0,2,3,4,5,6,7,8,9,10,11,12,13,14,15,16,17,18,21,22,25] O ?_
     refine tDr 7 [(26,dP g1 0,none),(27,.ov ov,none),(28,dP g 0,none),(29,dP g 0,none),(30,Pt.d a1,some [.bx g 298 (.agg [.sh 1 (za.l.map dR),dB za.b]),.bx g1 317 (.agg [.ov ov]),.sl ov 1 20 (o.map Pt.d)]),(31,Pt.d y1,some [.bx g 298 (.agg [.sh 1 (zb.l.map dR),dB zb.b]),.bx g1 317 (.agg [.ov ov]),.sl ov 1 20 (o.map Pt.d)]),(32,.sh 1 ([y1].map Pt.d),none)] [.bx g1 317 (.agg [.ov ov]),.sl ov 1 20 (o.map Pt.d)] (Hn:=[.bx g 298 (.agg [.sh 1 (zb.l.map dR),dB zb.b]),.bx g1 317 (.agg [.ov ov]),.sl ov 1 20 (o.map Pt.d)]) mixed O O O O (HSub.lst 1 O) O ⟨sa_p O O O (zm O fa_317_0 O),sa_p O O O (zk O (i:=0) O Tryz.isAgg310 O),sa_p O O O (zi O),sa_p O O O (zi O),sa_e O O O O (((zem [.bx g 298 (.agg [.sh 1 (z.l.map dR),dB z.b])] [.bx g1 317 (.agg [.ov ov]),.sl ov 1 20 (o.map Pt.d)] [] O O (kl .nil) zbc Tryz.call271 (CD.nmx ea (patom_s g z f ih (by omega) hz (by omega))) (.inl rfl))).mono (by rintro _ _ ⟨_,⟨rfl,rfl⟩,rfl⟩;exact⟨rfl,rfl⟩)) (HSub.lst 1 rfl),sa_e rfl rfl rfl rfl (((zem [.bx g 298 (.agg [.sh 1 (za.l.map dR),dB za.b])] [.bx g1 317 (.agg [.ov ov]),.sl ov 1 20 (o.map Pt.d)] [] rfl rfl (kl (kl .nil)) zbc Tryz.call270 (CD.nmx eb (ptimes_c g za a1 (by omega) hTa)) (.inl rfl))).mono (by rintro _ _ ⟨_,⟨rfl,rfl⟩,rfl⟩;exact⟨rfl,rfl⟩)) (HSub.lst 1 rfl),sa_q rfl rfl rfl (ze [.tmp 31] rfl rfl (.cons (zen _) .nil) rfl Tryz.runUnderlying310 Tryz.sizeOf20 Tryz.zeroValue20 rfl rfl rfl rfl),trivial⟩ ?_
     refine tK O (tE O (zz (f:=Pt.d) (l:=o) (l':=[y1]) (i:=2) O O O (SrcD.sh) und_310 infz_20 O O (by unfold maxLen;(try simp only[la,lc,ln,lm,lt',ld,ls,lr]);omega) (by (try simp only[la,lc,ln,lm,lt',ld,ls,lr]);omega)) ?_)
     rintro _ _ ⟨v14,rfl,rfl⟩
     refine gQ 4 [1] O O ?_
     exact tp4 k zb v14 (o++[y1]) (sa O) HSub.rfl' ⟨by show zb.l.length<_;omega,(parts_go hzb hns ea eb).symm.trans hf,hzT,by simp only[la,List.length_singleton];omega⟩ (by omega)
 · simp only[bX,bJ] at hc2
   have hff:=hf.symm.trans (parts_bad (by simpa using hc2))
   refine gQ 13 [1] O O (T.front 2 O (T.mv (Mv.freeze (K':=[(0,dP g 0),(2,.ifc 317 (.agg [.sh 1 (o.map Pt.d)])),(3,dP g1 0),(6,dP g 0),(7,dP g 0),(8,dP g 1),(9,dB z.b),(10,dB (!z.b)),(35,.agg [.sh 1 (o.map Pt.d)]),(36,.ifc 317 (.agg [.sh 1 (o.map Pt.d)]))]) [.sl ov 1 20 (o.map Pt.d)] (H1:=[.bx g 298 (.agg [.sh 1 (z.l.map dR),dB z.b]),.bx g1 317 (.agg [.ov ov])]) (H1':=[.bx g 298 (.agg [.sh 1 (z.l.map dR),dB z.b]),.bx g1 317 (.agg [.sh 1 (o.map Pt.d)])]) ⟨⟨_,O,ArgC.id⟩,⟨_,O,ArgC.ifc (ArgC.agg (.cons (ArgC.own (j:=0) O O) .nil))⟩,⟨_,O,ArgC.id⟩,⟨_,O,ArgC.id⟩,⟨_,O,ArgC.id⟩,⟨_,O,ArgC.id⟩,⟨_,O,ArgC.id⟩,⟨_,O,ArgC.id⟩,⟨_,O,ArgC.agg (.cons (ArgC.own (j:=0) O O) .nil)⟩,⟨_,O,ArgC.ifc (ArgC.agg (.cons (ArgC.own (j:=0) O O) .nil))⟩,trivial⟩ (.same (.bx (ArgC.agg (.cons (ArgC.own (j:=0) O O) .nil)) .nil))) ?_))
   exact tRs O Tryz.results265 (.cons (zd (zc O) (Cv.eq (row_d _))) .nil) O (HSub.fst 1 O) ⟨.row o,⟨z.l,z.b⟩,parts_of hff,O,O⟩
theorem palt_s (g:Nat) (s:PR) (f:Nat) (ih:AltOk f) (hl:s.l.length≤1000000) (hT:ROk s.l) (hf0:s.l.length<f+1):
 CD Tryz.prog 261 [.bx g 298 (.agg [.sh 1 (s.l.map dR),dB s.b])] [dP g 0] (fun r H'=>∃ x s',(x,s')=altF (f+1) s∧r=Pt.d x∧H'=[PB g s']):=by
 refine tZ Tryz.func261 O O (fun C=>?_)
 refine g' 8 O (tX [0] O O acs (pparts_s g s f ih (by omega) hT (by omega)) ?_)
 rintro _ _ ⟨x1,s1,e1,rfl,rfl⟩
 have kl1:=parts_facts e1 (zdF f)
 have hT1:=hT.suf kl1
 have kd1:=kl1.length_le
 refine tE O (zE [.tmp 5] O O (.cons (zen _) .nil) O Tryz.runUnderlying310 Tryz.sizeOf20 Tryz.zeroValue20 O O O O) ?_
 rintro _ _ ⟨g2,rfl,rfl⟩
 refine tP O (zf [0] [.tmp 6] (zv:=(.agg #[(.slice none 0 0)])) O O (.cons CellD.o .nil) (Tryz.runUnderlying312) Tryz.zeroValue312 bd_312 ⟨O,trivial⟩ O) ?_
 refine tA O (fun g3=>?_)
 refine gQ 5 [0] O O (T.front 1 O (T.front 1 O (T.front 2 O (tl4 (fun (a_:Nat) (b_:PR) (c_:Value) (d_:List Pt)=>[(0,dP g 0),(2,.v .nilIface),(3,dP g3 0)]) (fun a_ b_ c_ d_=>[.bx g 298 (.agg [.sh 1 (b_.l.map dR),dB b_.b]),.bx g3 312 (.agg [.ov c_]),.sl c_ 1 20 (d_.map Pt.d)]) (fun a_ b_ c_ d_=>(b_.l.length<a_)∧(zbL (altF f) a_ d_ b_=zbL (altF f) (s1.l.length+1) [x1] s1)∧(ROk b_.l)∧(d_.length+b_.l.length≤1000001∧b_.l.length≤s.l.length)) (fun a_ b_ c_ d_=>a_) (s1.l.length+1) s1 (vS g2 1 1) [x1] O (sa O) HSub.rfl' ⟨(by omega),O,hT1,(by show 1+s1.l.length≤_∧_;omega)⟩ ?_))))
 rintro k z ov o ⟨hlf,hf,hz,hol⟩
 obtain ⟨k,rfl⟩:∃ n,k=n+1:=⟨k-1,by omega⟩
 refine g' 4 O (tX [0] O O acs (zdJ g z (124:Int) (by omega) hz) ?_)
 rintro _ _ ⟨q4,s4,e4,rfl,rfl⟩
 obtain ⟨kl4,kb4,kc4,ke4⟩:=zaQ e4
 have hT4:=hz.suf kl4
 have kd4:=kl4.length_le
 refine g' 2 O ?_
 refine tC O (fun hc5=>?_) (fun hc5=>?_)
 · skip
   have kq:=kc4 hc5
   refine g' 3 O ?_
   obtain ⟨y1,zb,ey⟩:∃ a s1,(a,s1)=s4.parts (altF f):=⟨_,_,rfl⟩
   have kl2:=parts_facts ey (zdF f)
   have hzT:=hT4.suf kl2
   have kd2:=kl2.length_le
   refine T.keep [0,2,3,8,9] O (tDr 5 [(10,dP g3 0,none),(11,.ov ov,none),(12,dP g 0,none),(13,Pt.d y1,some [.bx g 298 (.agg [.sh 1 (zb.l.map dR),dB zb.b]),.bx g3 312 (.agg [.ov ov]),.sl ov 1 20 (o.map Pt.d)]),(14,.sh 1 ([y1].map Pt.d),none)] [.bx g3 312 (.agg [.ov ov]),.sl ov 1 20 (o.map Pt.d)] (Hn:=[.bx g 298 (.agg [.sh 1 (zb.l.map dR),dB zb.b]),.bx g3 312 (.agg [.ov ov]),.sl ov 1 20 (o.map Pt.d)]) mixed O O O O (HSub.lst 1 O) O ⟨sa_p O O O (zm O fa_312_0 O),sa_p O O O (zk O (i:=0) O Tryz.isAgg310 O),sa_p O O O (zi O),sa_e O O O O (((zem [.bx g 298 (.agg [.sh 1 (s4.l.map dR),dB s4.b])] [.bx g3 312 (.agg [.ov ov]),.sl ov 1 20 (o.map Pt.d)] [] O O (kl .nil) zbc Tryz.call265 (CD.nmx ey (pparts_s g s4 f ih (by omega) hT4 (by omega))) (.inl rfl))).mono (by rintro _ _ ⟨_,⟨rfl,rfl⟩,rfl⟩;exact⟨rfl,rfl⟩)) (HSub.lst 1 rfl),sa_q rfl rfl rfl (ze [.tmp 13] rfl rfl (.cons (zen _) .nil) rfl Tryz.runUnderlying310 Tryz.sizeOf20 Tryz.zeroValue20 rfl rfl rfl rfl),trivial⟩ (tK rfl ?_))
   refine tE O (zz (f:=Pt.d) (l:=o) (l':=[y1]) (i:=2) O O O (SrcD.sh) und_310 infz_20 O O (by unfold maxLen;(try simp only[la,lc,ln,lm,lt',ld,ls,lr]);omega) (by (try simp only[la,lc,ln,lm,lt',ld,ls,lr]);omega)) ?_
   rintro _ _ ⟨v6,rfl,rfl⟩
   refine gQ 4 [1] O O ?_
   exact tp4 k zb v6 (o++[y1]) (sa O) HSub.rfl' ⟨by show zb.l.length<_;omega,(alts_go e4 hc5 ey).symm.trans hf,hzT,by simp only[la,List.length_singleton];omega⟩ (by omega)
 · skip
   have hff:=hf.symm.trans (alts_end e4 (by simpa using hc5))
   refine gQ 13 [1] O O (T.front 2 O (T.mv (Mv.freeze (K':=[(0,dP g 0),(2,.ifc 312 (.agg [.sh 1 (o.map Pt.d)])),(3,dP g3 0),(8,dP g 0),(9,dB q4),(17,.agg [.sh 1 (o.map Pt.d)]),(18,.ifc 312 (.agg [.sh 1 (o.map Pt.d)]))]) [.sl ov 1 20 (o.map Pt.d)] (H1:=[.bx g 298 (.agg [.sh 1 (s4.l.map dR),dB s4.b]),.bx g3 312 (.agg [.ov ov])]) (H1':=[.bx g 298 (.agg [.sh 1 (s4.l.map dR),dB s4.b]),.bx g3 312 (.agg [.sh 1 (o.map Pt.d)])]) ⟨⟨_,O,ArgC.id⟩,⟨_,O,ArgC.ifc (ArgC.agg (.cons (ArgC.own (j:=0) O O) .nil))⟩,⟨_,O,ArgC.id⟩,⟨_,O,ArgC.id⟩,⟨_,O,ArgC.id⟩,⟨_,O,ArgC.agg (.cons (ArgC.own (j:=0) O O) .nil)⟩,⟨_,O,ArgC.ifc (ArgC.agg (.cons (ArgC.own (j:=0) O O) .nil))⟩,trivial⟩ (.same (.bx (ArgC.agg (.cons (ArgC.own (j:=0) O O) .nil)) .nil))) ?_))
   exact tRs O Tryz.results261 (.cons (zd (zc O) (Cv.eq (alt_d _))) .nil) O (HSub.fst 1 O) ⟨.alt o,⟨s4.l,s4.b⟩,alts_of e1 hff,O,O⟩
theorem altOk:∀ f:Nat,AltOk f
 | 0=>fun g s h=>absurd h (by omega)
 | f+1=>fun g s h hl hT=>palt_s g s f (altOk f) hl hT h
end Lp
