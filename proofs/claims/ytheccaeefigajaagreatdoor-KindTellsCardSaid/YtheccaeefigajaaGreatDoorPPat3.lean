import Derived.Test.YtheccaeefigajaaGreatDoorV92
set_option linter.unusedSimpArgs false
set_option linter.unusedVariables false
set_option maxHeartbeats 4000000
set_option maxRecDepth 100000
namespace Lp
open Go Go.RowKit Go.Proofs
namespace HdYtheccaeefigajaaGreatDoorV93
theorem zem:∀ w,((#[⟨"all",4,0,false, "", "leporello/pattern",0⟩,⟨"not",4,1,false, "", "leporello/pattern",1⟩,⟨"items",304,2,false, "", "leporello/pattern",8⟩]:Array Field).mapM fun f=>do pure (f.offset,←Go.sizeOf f.type):Sem (Array (Nat×Nat))).run Tryz.prog w=.ok ([(0,1),(1,1),(2,1)]:List (Nat×Nat)).toArray w:=fun _=>by kernel_rfl
theorem za4 (b o:Nat):∀ w,(Instr.fieldAt 298 (.pointer (some ⟨b,o,none⟩)) 0).run Tryz.prog w=.ok (.pointer (some ⟨b,o+0,none⟩)) w:=fun _=>by kernel_rfl
theorem zaG (b o:Nat):∀ w,(Instr.fieldAt 298 (.pointer (some ⟨b,o,none⟩)) 1).run Tryz.prog w=.ok (.pointer (some ⟨b,o+1,none⟩)) w:=fun _=>by kernel_rfl
theorem fa_306_2 (b o:Nat):∀ w,(Instr.fieldAt 306 (.pointer (some ⟨b,o,none⟩)) 2).run Tryz.prog w=.ok (.pointer (some ⟨b,o+2,none⟩)) w:=fun _=>by kernel_rfl
theorem infz_328:∃ i,Tryz.prog.info? 328=some i∧i.zero=some (.agg #[(.int .i32 0),(.int .i32 0)])∧i.size=2∧i.bytes=8:=zbq (by kernel_rfl)
theorem und_304:Tryz.prog.underlying 304=some (.slice 328):=by kernel_rfl
end HdYtheccaeefigajaaGreatDoorV93
open HdYtheccaeefigajaaGreatDoorV93
section
variable {s s' s1 s2 s3 s4 z:PR} {a b c:Int} {q nt:Bool} {o:List RngD} {f:Nat} {x:RngD}
theorem ptake_f (e:(q,s')=s.take c) (h:¬q=true):s=s':=by
 have h2:s'=(s.take c).2:=congrArg Prod.snd e
 have h3:¬s.has c=true:=fun k=>h ((za5 e).2.2.2.trans k)
 rw[h2];unfold PR.take;rw[if_neg h3]
theorem pitem_1 (e:(a,s1)=s.member) {x0 x1:Int} (h0:s1.l[0]?=some x0) (h1:s1.l[1]?=some x1) (h:x0=45∧x1≠93) (e2:(c,s2)=s1.any) (e3:(b,s3)=s2.member):(⟨a,b⟩,s3)=s.item:=by
 unfold PR.item;rw[←e]
 have hc:1<s1.l.length∧s1.l.headD 0=45∧s1.l.tail.headD 0≠93:=by
  cases el:s1.l with
  | nil=>rw[el] at h0;cases h0
  | cons y r=>
   rw[el] at h0 h1
   cases r with
   | nil=>cases h1
   | cons y' r=>simp at h0 h1;subst h0;subst h1;exact⟨by simp,h.1,h.2⟩
 simp only[if_pos hc];rw[←e2];simp only;rw[←e3]
theorem pitem_0 (e:(a,s1)=s.member) {x0 x1:Int} (h0:s1.l[0]?=some x0) (h1:s1.l[1]?=some x1) (h:¬(x0=45∧x1≠93)):(⟨a,a⟩,s1)=s.item:=by
 unfold PR.item;rw[←e]
 have hc:¬(1<s1.l.length∧s1.l.headD 0=45∧s1.l.tail.headD 0≠93):=by
  cases el:s1.l with
  | nil=>rw[el] at h0;cases h0
  | cons y r=>
   rw[el] at h0 h1
   cases r with
   | nil=>cases h1
   | cons y' r=>simp at h0 h1;subst h0;subst h1;exact fun k=>h ⟨k.2.1,k.2.2⟩
 simp only[if_neg hc]
theorem pitem_s (e:(a,s1)=s.member) (h:¬1<s1.l.length):(⟨a,a⟩,s1)=s.item:=by
 unfold PR.item;rw[←e];simp only[if_neg (fun k:1<s1.l.length∧_=>h k.1)]
theorem class_bad (h:z.b=true):zbv nt (f+1) o z=(⟨false,nt,o⟩,z):=by unfold zbv;rw[if_pos h]
theorem class_end (h:z.b=false) (ho:0<o.length) (e:(q,s1)=z.take 93) (hq:q=true):zbv nt (f+1) o z=(⟨false,nt,o⟩,s1):=by
 unfold zbv;rw[if_neg (by rw[h];simp),if_pos ⟨ho,(za5 e).2.2.2.symm.trans hq⟩,←e]
theorem class_no (h:z.b=false) (h93:¬(0<o.length∧z.has 93=true)) (hn:z.l.length=0∨z.any.1=93):zbv nt (f+1) o z=(⟨false,nt,o⟩,⟨z.l,true⟩):=by
 unfold zbv;rw[if_neg (by rw[h];simp),if_neg h93,if_pos]
 rcases hn with k | k
 · exact .inl (List.length_eq_zero_iff.1 k)
 · by_cases h0:0<z.l.length
   · exact .inr (zdG.2 ⟨h0,k⟩)
   · exact .inl (List.length_eq_zero_iff.1 (by omega))
theorem class_go (h:z.b=false) (h93:¬(0<o.length∧z.has 93=true)) (hn:0<z.l.length∧z.any.1≠93) (e:(x,s1)=z.item):zbv nt (f+1) o z=zbv nt f (o++[x]) ⟨s1.l,s1.b||decide (x.hi<x.lo)⟩:=by
 conv=>lhs;unfold zbv
 rw[if_neg (by rw[h];simp),if_neg h93,if_neg]
 · simp only;rw[←e]
 · rintro (k | k)
   · rw[k] at hn;exact absurd hn.1 (by simp)
   · exact hn.2 (zdG.1 k).2
theorem class_of (e:(q,s1)=s.take 94) {st:SetD} (hf:zbv q (s1.l.length+2) [] s1=(st,s')):(st,s')=s.cls:=by unfold PR.cls;rw[←e,hf]
end
theorem pclass_c (g:Nat) (s:PR) (hl:s.l.length≤1000000) (hT:ROk s.l):
 CD Tryz.prog 273 [.bx g 298 (.agg [.sh 1 (s.l.map (fun n=>D.v (.int .i32 n))),dB s.b])] [dP g 0] (fun r H'=>∃ st s',(st,s')=s.cls∧r=.agg [dB st.all,dB st.nt,.sh 2 (st.items.map RngD.d)]∧H'=[PB g s']):=by
 refine zp Tryz.func273 rfl (N:=95) rfl rfl (fun C=>?_)
 refine jk [0] rfl (jT rfl (oE rfl (zC (zv:=(.agg #[(.bool false),(.bool false),(.slice none 0 0)])) Tryz.zeroValue306 ⟨rfl,rfl,rfl,trivial⟩ (Cv.vagg (by decide))) ?_))
 rintro _ _ ⟨g1,rfl,rfl⟩
 refine oZ rfl (jT rfl (oR 1 rfl (OpsD.subH (HSub.perm (zc (i:=1) rfl)) (on rfl (oE rfl (zm [.bx g 298 (.agg [.sh 1 (s.l.map (fun n=>D.v (.int .i32 n))),dB s.b])] [.bx g1 306 (.agg [dB false,dB false,dZ])] [] rfl rfl (.cons ArgC.id (.cons ArgC.id .nil)) zg Tryz.call266 (zdt g s (94:Int) (by omega) hT) (.inl rfl)) ?_)))))
 rintro _ _ ⟨_,⟨q2,s2,e2,rfl,rfl⟩,rfl⟩
 obtain ⟨kl2,kb2,kc2,ke2⟩:=za5 e2
 have hT2:=hT.suf kl2
 have kd2:=kl2.length_le
 refine on rfl (oP rfl (zJ [1] [.tmp 8] (zv:=(.agg #[(.bool false),(.bool false),(.slice none 0 0)])) rfl rfl (.cons (CellD.v rfl) .nil) (Tryz.runUnderlying306) Tryz.zeroValue306 zem ⟨rfl,rfl,rfl,trivial⟩ rfl) (oE rfl (zC (zv:=(.agg #[(.bool false),(.bool false),(.slice none 0 0)])) Tryz.zeroValue306 ⟨rfl,rfl,rfl,trivial⟩ (Cv.vagg (by decide))) ?_))
 rintro _ _ ⟨g3,rfl,rfl⟩
 refine oE rfl (zi (i:=0) (X':=.agg [dB false,dB q2,dZ]) rfl rfl rfl (CellD.agg) Tryz.sizeOf306 rfl rfl rfl) ?_
 rintro _ _ ⟨rfl,rfl⟩
 refine on rfl (oZ rfl (jS rfl (jB rfl (JD.subH (HSub.nil 2 328) (jn rfl (JD.subH (HSub.perm (zc (i:=1) rfl)) (jn rfl (JD.subH (HSub.turn (h':=.bx g3 306 (.agg [dB false,dB q2,.ov (.slice none 0 0)])) rfl (Hp.cv_bx (Cv.agg (.cons Cv.rfl' (.cons Cv.rfl' (.cons (Cv.ov rfl) .nil)))))) (JD.subH (HSub.perm (zc (i:=2) rfl)) (jn rfl (JD.subH (HSub.perm (zc (i:=2) rfl)) (jn rfl (JD.subH (HSub.perm (zc (i:=2) rfl)) (jn rfl (JD.subH (HSub.perm (zc (i:=3) rfl)) (jn rfl (jn rfl (jl4 (fun (a_:Nat) (b_:PR) (c_:Value) (d_:List RngD)=>[(0,dP g 0),(2,dP g1 0),(3,dP g3 0)]) (fun a_ b_ c_ d_=>[.bx g1 306 (.agg [dB false,dB false,dZ]),.bx g3 306 (.agg [dB false,dB q2,.ov c_]),.sl c_ 2 328 (d_.map RngD.d),.bx g 298 (.agg [.sh 1 (b_.l.map (fun n=>D.v (.int .i32 n))),dB b_.b])]) (fun a_ b_ c_ d_=>(b_.l.length<a_)∧(zbv q2 a_ d_ b_=zbv q2 (s2.l.length+2) [] s2)∧(ROk b_.l)∧(d_.length+b_.l.length≤1000000)) (fun a_ b_ c_ d_=>a_) (s2.l.length+2) s2 (.slice none 0 0) [] rfl (sa rfl) HSub.rfl' ⟨(by omega),rfl,hT2,(by show 0+s2.l.length≤_;omega)⟩ ?_))))))))))))))))))
 rintro f z ov o ⟨hlf,hf,hz,hol⟩
 refine ja rfl (jn rfl ?_)
 obtain ⟨f,rfl⟩:∃ k,f=k+1:=⟨f-1,by omega⟩
 refine jS rfl (jT rfl (oR 2 rfl (oP rfl (zd rfl zaG rfl) (oP rfl (ze rfl (i:=3) rfl Tryz.isAgg4 rfl) (oP rfl (zaZ rfl) (oZ rfl ?_))))))
 refine jC rfl (fun hc4=>?_) (fun hc4=>?_)
 · simp only[bA,bB,bC,bD,bE,bF,bG,bH,bI,bJ] at hc4
   have hzb:z.b=false:=by simpa using hc4
   refine zt rfl (zj (jB rfl (jS rfl ?_)))
   refine jd_joinr (fun (jg:Unit)=>[(0,dP g 0),(2,dP g1 0),(3,dP g3 0),(10,dP g 0),(11,dP g 0),(12,dP g 1),(13,dB z.b),(14,dB (!z.b))]) (fun (jg:Unit)=>[.bx g1 306 (.agg [dB false,dB false,dZ]),.bx g3 306 (.agg [dB false,dB q2,.ov ov]),.sl ov 2 328 (o.map RngD.d),.bx g 298 (.agg [.sh 1 (z.l.map (fun n=>D.v (.int .i32 n))),dB z.b])]) (fun (jg:Unit)=>(¬(0<o.length∧z.has 93=true))) (fun _ hQ5 hQ5r=>?_) ?_
   · skip
     refine jS rfl ?_
     by_cases hg6:(0:Int)<((o.length:Nat):Int)
     · skip
       refine zf rfl (oP rfl (zd rfl fa_306_2 rfl) (oP rfl (ze rfl (i:=1) rfl Tryz.isAgg304 rfl) (oP rfl (zay (n:=o.length) (j:=2) rfl rfl Tryz.runUnderlying304 (List.length_map _)) (oP rfl (zaF rfl rfl (decide_eq_true hg6)) (oR 2 rfl (OpsD.subH (HSub.perm (zc (i:=3) rfl)) (on rfl (oF rfl (zm [.bx g 298 (.agg [.sh 1 (z.l.map (fun n=>D.v (.int .i32 n))),dB z.b])] [.bx g1 306 (.agg [dB false,dB false,dZ]),.bx g3 306 (.agg [dB false,dB q2,.ov ov]),.sl ov 2 328 (o.map RngD.d)] [] rfl rfl (.cons ArgC.id (.cons ArgC.id .nil)) zg Tryz.call266 (zdt g z (93:Int) (by omega) hz) (.inl rfl)) ?_))))))))
       rintro _ _ ⟨_,⟨q7,s7,e7,rfl,rfl⟩,rfl⟩
       obtain ⟨kl7,kb7,kc7,ke7⟩:=za5 e7
       have hT7:=hz.suf kl7
       have kd7:=kl7.length_le
       refine on rfl (oR 1 rfl (oZ rfl ?_))
       refine jC rfl (fun hc8=>?_) (fun hc8=>?_)
       · skip
         have hff:=hf.symm.trans (class_end hzb (by omega) e7 hc8)
         refine jT rfl (oP rfl (zH (d:=.agg [dB false,dB q2,.ov ov]) rfl (i:=2) rfl Tryz.isAgg306 Tryz.sizeOf306 rfl rfl) (oE rfl (zi (i:=1) (X':=.agg [dB false,dB q2,.ov ov]) rfl rfl rfl (CellD.agg) Tryz.sizeOf306 rfl rfl rfl) ?_))
         rintro _ _ ⟨rfl,rfl⟩
         refine on rfl (oZ rfl (jk [0,2,3,10,11,12,13,14] rfl (zn rfl (hQ5r _ _ (zk (zo (zal (zo (zk (PD.subH (HSub.perm (zc (i:=3) rfl)) (pn rfl (zbi (Mv.freeze (K':=[(0,dP g 0),(2,dP g1 0),(3,dP g3 0),(10,dP g 0),(11,dP g 0),(12,dP g 1),(13,dB z.b),(14,dB (!z.b))]) [.sl ov 2 328 (o.map RngD.d)] (H1:=[.bx g 298 (.agg [.sh 1 (s7.l.map (fun n=>D.v (.int .i32 n))),dB s7.b]),.bx g1 306 (.agg [dB false,dB q2,.ov ov]),.bx g3 306 (.agg [dB false,dB q2,.ov ov])]) (H1':=[.bx g 298 (.agg [.sh 1 (s7.l.map (fun n=>D.v (.int .i32 n))),dB s7.b]),.bx g1 306 (.agg [dB false,dB q2,.sh 2 (o.map RngD.d)]),.bx g3 306 (.agg [dB false,dB q2,.sh 2 (o.map RngD.d)])]) ⟨⟨_,rfl,ArgC.id⟩,⟨_,rfl,ArgC.id⟩,⟨_,rfl,ArgC.id⟩,⟨_,rfl,ArgC.id⟩,⟨_,rfl,ArgC.id⟩,⟨_,rfl,ArgC.id⟩,⟨_,rfl,ArgC.id⟩,⟨_,rfl,ArgC.id⟩,trivial⟩ (.same (.bx (ArgC.agg (.cons ArgC.id (.cons ArgC.id (.cons (ArgC.own (j:=0) rfl rfl) .nil)))) (.bx (ArgC.agg (.cons ArgC.id (.cons ArgC.id (.cons (ArgC.own (j:=0) rfl rfl) .nil)))) .nil)))) (pn rfl ?_)))))))))))))
         exact zh Tryz.results273 (.cons (zU (i:=1) rfl rfl Tryz.isAgg306 Tryz.sizeOf306 rfl rfl) .nil) rfl (HSub.fst 1 rfl) ⟨⟨false,q2,o⟩,⟨s7.l,s7.b⟩,class_of e2 hff,rfl,rfl⟩
       · skip
         have h93:¬(0<o.length∧z.has 93=true):=fun k=>(by simpa using hc8:¬q7=true) ((za5 e7).2.2.2.trans k.2)
         have hzs:z=s7:=ptake_f e7 (by simpa using hc8)
         subst hzs
         refine zt rfl (PD.subH (HSub.perm (zc (i:=3) rfl)) (pn rfl (PD.subH (HSub.perm (zc (i:=3) rfl)) (pn rfl (PD.subH (HSub.perm (zc (i:=3) rfl)) (pn rfl (pn rfl ?_)))))))
         exact PD.sub [(0,dP g 0),(2,dP g1 0),(3,dP g3 0),(10,dP g 0),(11,dP g 0),(12,dP g 1),(13,dB z.b),(14,dB (!z.b))] (sa rfl) (hQ5 () h93)
     · skip
       refine zf rfl (oP rfl (zd rfl fa_306_2 rfl) (oP rfl (ze rfl (i:=1) rfl Tryz.isAgg304 rfl) (oP rfl (zay (n:=o.length) (j:=2) rfl rfl Tryz.runUnderlying304 (List.length_map _)) (oP rfl (zaF rfl rfl (decide_eq_false hg6)) (oR 4 rfl (oZ rfl ?_))))))
       have h93:¬(0<o.length∧z.has 93=true):=fun k=>by omega
       refine jCf rfl (zt rfl (pn rfl ?_))
       exact PD.sub [(0,dP g 0),(2,dP g1 0),(3,dP g3 0),(10,dP g 0),(11,dP g 0),(12,dP g 1),(13,dB z.b),(14,dB (!z.b))] (sa rfl) (hQ5 () h93)
   · skip
     rintro _ h93
     refine pk [0,2,3,10,11,12,13,14] rfl (pn rfl (zj (jS rfl (jT rfl (oR 1 rfl (OpsD.subH (HSub.perm (zc (i:=3) rfl)) (on rfl (oE rfl (zm [.bx g 298 (.agg [.sh 1 (z.l.map (fun n=>D.v (.int .i32 n))),dB z.b])] [.bx g1 306 (.agg [dB false,dB false,dZ]),.bx g3 306 (.agg [dB false,dB q2,.ov ov]),.sl ov 2 328 (o.map RngD.d)] [] rfl rfl (.cons ArgC.id .nil) zg Tryz.call269 (pnext_c g z (by omega) hz) (.inl rfl)) ?_))))))))
     rintro _ _ ⟨_,⟨rfl,rfl⟩,rfl⟩
     refine on rfl (oR 5 rfl (oZ rfl (jS rfl (jk [0,2,3,4,5,10,11,12,13,14,24,25,26,27,28] rfl ?_))))
     refine zR 34 ((!decide (0<z.l.length)||decide (z.any.1=(93:Int)))) [.bx g 298 (.agg [.sh 1 (z.l.map (fun n=>D.v (.int .i32 n))),dB z.b]),.bx g1 306 (.agg [dB false,dB false,dZ]),.bx g3 306 (.agg [dB false,dB q2,.ov ov]),.sl ov 2 328 (o.map RngD.d)] (fun _ hQ10=>?_) ?_
     · skip
       by_cases hg11:0<z.l.length
       · skip
         refine JD.sub [(0,dP g 0),(2,dP g1 0),(3,dP g3 0),(4,.v (.int .i32 z.any.1)),(5,dB true),(10,dP g 0),(11,dP g 0),(12,dP g 1),(13,dB z.b),(14,dB (!z.b)),(24,.tup [.v (.int .i32 z.any.1),dB (decide (0<z.l.length))]),(25,dP g 0),(26,.tup [.v (.int .i32 z.any.1),dB (decide (0<z.l.length))]),(27,.v (.int .i32 z.any.1)),(28,dB true)] ⟨sk rfl,sk rfl,sk rfl,sk rfl,se rfl (congrArg (fun b=>D.v (.bool b)) (by simp[hg11])),sk rfl,sk rfl,sk rfl,sk rfl,sk rfl,sk rfl,sk rfl,sk rfl,sk rfl,se rfl (congrArg (fun b=>D.v (.bool b)) (by simp[hg11])),trivial⟩ (zf rfl (oR 4 rfl (oG rfl (zD rfl rfl rfl) (oR 1 rfl (zq rfl ?_)))))
         exact PD.sub ((34,dB (!decide (0<z.l.length)||decide (z.any.1=(93:Int))))::[(0,dP g 0),(2,dP g1 0),(3,dP g3 0),(4,.v (.int .i32 z.any.1)),(5,dB (decide (0<z.l.length))),(10,dP g 0),(11,dP g 0),(12,dP g 1),(13,dB z.b),(14,dB (!z.b)),(24,.tup [.v (.int .i32 z.any.1),dB (decide (0<z.l.length))]),(25,dP g 0),(26,.tup [.v (.int .i32 z.any.1),dB (decide (0<z.l.length))]),(27,.v (.int .i32 z.any.1)),(28,dB (decide (0<z.l.length)))]) ⟨sc rfl (Cv.eq (congrArg (fun b=>D.v (.bool b)) (by first | (simp[hc4,hg11];done) | (simp_all;done)))),sk rfl,sk rfl,sk rfl,sk rfl,sc rfl (Cv.eq (congrArg (fun b=>D.v (.bool b)) (by simp[hc4,hg11]))),sk rfl,sk rfl,sk rfl,sk rfl,sk rfl,sk rfl,sk rfl,sk rfl,sk rfl,sc rfl (Cv.eq (congrArg (fun b=>D.v (.bool b)) (by simp[hc4,hg11]))),trivial⟩ hQ10
       · skip
         refine JD.sub [(0,dP g 0),(2,dP g1 0),(3,dP g3 0),(4,.v (.int .i32 z.any.1)),(5,dB false),(10,dP g 0),(11,dP g 0),(12,dP g 1),(13,dB z.b),(14,dB (!z.b)),(24,.tup [.v (.int .i32 z.any.1),dB (decide (0<z.l.length))]),(25,dP g 0),(26,.tup [.v (.int .i32 z.any.1),dB (decide (0<z.l.length))]),(27,.v (.int .i32 z.any.1)),(28,dB false)] ⟨sk rfl,sk rfl,sk rfl,sk rfl,se rfl (congrArg (fun b=>D.v (.bool b)) (by simp[hg11])),sk rfl,sk rfl,sk rfl,sk rfl,sk rfl,sk rfl,sk rfl,sk rfl,sk rfl,se rfl (congrArg (fun b=>D.v (.bool b)) (by simp[hg11])),trivial⟩ (zf rfl (oR 6 rfl (zq rfl ?_)))
         exact PD.sub ((34,dB (!decide (0<z.l.length)||decide (z.any.1=(93:Int))))::[(0,dP g 0),(2,dP g1 0),(3,dP g3 0),(4,.v (.int .i32 z.any.1)),(5,dB (decide (0<z.l.length))),(10,dP g 0),(11,dP g 0),(12,dP g 1),(13,dB z.b),(14,dB (!z.b)),(24,.tup [.v (.int .i32 z.any.1),dB (decide (0<z.l.length))]),(25,dP g 0),(26,.tup [.v (.int .i32 z.any.1),dB (decide (0<z.l.length))]),(27,.v (.int .i32 z.any.1)),(28,dB (decide (0<z.l.length)))]) ⟨sc rfl (Cv.eq (congrArg (fun b=>D.v (.bool b)) (by first | (simp[hc4,hg11];done) | (simp_all;done)))),sk rfl,sk rfl,sk rfl,sk rfl,sc rfl (Cv.eq (congrArg (fun b=>D.v (.bool b)) (by simp[hc4,hg11]))),sk rfl,sk rfl,sk rfl,sk rfl,sk rfl,sk rfl,sk rfl,sk rfl,sk rfl,sc rfl (Cv.eq (congrArg (fun b=>D.v (.bool b)) (by simp[hc4,hg11]))),trivial⟩ hQ10
     · skip
       refine zj ?_
       refine jC rfl (fun hc12=>?_) (fun hc12=>?_)
       · simp only[bA,bB,bC,bD,bE,bF,bG,bH,bI,bJ] at hc12
         have hff:=hf.symm.trans (class_no hzb h93 (by have h:=hc12;omega))
         refine jT rfl (oR 2 rfl (oP rfl (zd rfl zaG rfl) (oE rfl (zi (i:=0) (X':=.agg [.sh 1 (z.l.map (fun n=>D.v (.int .i32 n))),dB true]) rfl rfl rfl (CellD.v rfl) Tryz.sizeOf4 rfl rfl rfl) ?_)))
         rintro _ _ ⟨rfl,rfl⟩
         refine on rfl (oZ rfl (jT rfl (oP rfl (zH (d:=.agg [dB false,dB q2,.ov ov]) rfl (i:=2) rfl Tryz.isAgg306 Tryz.sizeOf306 rfl rfl) (oE rfl (zi (i:=1) (X':=.agg [dB false,dB q2,.ov ov]) rfl rfl rfl (CellD.agg) Tryz.sizeOf306 rfl rfl rfl) ?_))))
         rintro _ _ ⟨rfl,rfl⟩
         refine on rfl (oZ rfl (zn rfl (zk (zo (zal (zo (zk (PD.subH (HSub.perm (zc (i:=3) rfl)) (pn rfl ?_)))))))))
         refine zbi (Mv.freeze (K':=[(0,dP g 0),(2,dP g1 0),(3,dP g3 0),(4,.v (.int .i32 z.any.1)),(5,dB (decide (0<z.l.length))),(10,dP g 0),(11,dP g 0),(12,dP g 1),(13,dB z.b),(14,dB (!z.b)),(24,.tup [.v (.int .i32 z.any.1),dB (decide (0<z.l.length))]),(25,dP g 0),(26,.tup [.v (.int .i32 z.any.1),dB (decide (0<z.l.length))]),(27,.v (.int .i32 z.any.1)),(28,dB (decide (0<z.l.length))),(34,dB (!decide (0<z.l.length)||decide (z.any.1=(93:Int)))),(35,dP g 0),(36,dP g 0),(37,dP g 1),(38,.agg [dB false,dB q2,.sh 2 (o.map RngD.d)])]) [.sl ov 2 328 (o.map RngD.d)] (H1:=[.bx g 298 (.agg [.sh 1 (z.l.map (fun n=>D.v (.int .i32 n))),dB true]),.bx g1 306 (.agg [dB false,dB q2,.ov ov]),.bx g3 306 (.agg [dB false,dB q2,.ov ov])]) (H1':=[.bx g 298 (.agg [.sh 1 (z.l.map (fun n=>D.v (.int .i32 n))),dB true]),.bx g1 306 (.agg [dB false,dB q2,.sh 2 (o.map RngD.d)]),.bx g3 306 (.agg [dB false,dB q2,.sh 2 (o.map RngD.d)])]) ⟨⟨_,rfl,ArgC.id⟩,⟨_,rfl,ArgC.id⟩,⟨_,rfl,ArgC.id⟩,⟨_,rfl,ArgC.id⟩,⟨_,rfl,ArgC.id⟩,⟨_,rfl,ArgC.id⟩,⟨_,rfl,ArgC.id⟩,⟨_,rfl,ArgC.id⟩,⟨_,rfl,ArgC.id⟩,⟨_,rfl,ArgC.id⟩,⟨_,rfl,ArgC.id⟩,⟨_,rfl,ArgC.id⟩,⟨_,rfl,ArgC.id⟩,⟨_,rfl,ArgC.id⟩,⟨_,rfl,ArgC.id⟩,⟨_,rfl,ArgC.id⟩,⟨_,rfl,ArgC.id⟩,⟨_,rfl,ArgC.id⟩,⟨_,rfl,ArgC.id⟩,⟨_,rfl,ArgC.agg (.cons ArgC.id (.cons ArgC.id (.cons (ArgC.own (j:=0) rfl rfl) .nil)))⟩,trivial⟩ (.same (.bx (ArgC.agg (.cons ArgC.id (.cons ArgC.id (.cons (ArgC.own (j:=0) rfl rfl) .nil)))) (.bx (ArgC.agg (.cons ArgC.id (.cons ArgC.id (.cons (ArgC.own (j:=0) rfl rfl) .nil)))) .nil)))) ?_
         refine pn rfl ?_
         exact zh Tryz.results273 (.cons (zU (i:=1) rfl rfl Tryz.isAgg306 Tryz.sizeOf306 rfl rfl) .nil) rfl (HSub.fst 1 rfl) ⟨⟨false,q2,o⟩,⟨z.l,true⟩,class_of e2 hff,rfl,rfl⟩
       · simp only[bA,bB,bC,bD,bE,bF,bG,bH,bI,bJ] at hc12
         have hnx:0<z.l.length∧z.any.1≠93:=by have h:=hc12;omega
         refine zt rfl (zj (jT rfl (oR 1 rfl (oE rfl (zm [.bx g 298 (.agg [.sh 1 (z.l.map (fun n=>D.v (.int .i32 n))),dB z.b])] [.bx g1 306 (.agg [dB false,dB false,dZ]),.bx g3 306 (.agg [dB false,dB q2,.ov ov]),.sl ov 2 328 (o.map RngD.d)] [] rfl rfl (.cons ArgC.id .nil) zg Tryz.call275 (pmember_c g z (by omega) hz) (.inl rfl)) ?_))))
         rintro _ _ ⟨_,⟨c13,s13,e13,rfl,rfl⟩,rfl⟩
         obtain ⟨kl13,kb13,kc13⟩:=pmember_e e13 hz
         have hT13:=hz.suf kl13
         have kd13:=kl13.length_le
         refine on rfl (oP rfl (p_arr1 rfl) (oE rfl (zC (zv:=(.agg #[(.int .i32 0),(.int .i32 0)])) Tryz.zeroValue328 ⟨rfl,rfl,trivial⟩ (Cv.vagg (by decide))) ?_))
         rintro _ _ ⟨g14,rfl,rfl⟩
         refine oE rfl (zi (i:=0) (X':=.agg [.v (.int .i32 c13),.v (.int .i32 0)]) rfl rfl rfl (CellD.agg) Tryz.sizeOf328 rfl rfl rfl) ?_
         rintro _ _ ⟨rfl,rfl⟩
         refine on rfl (oZ rfl (jT rfl (oP rfl (p_arrA0 rfl) (oP rfl (ze rfl (i:=0) rfl Tryz.isAgg21 rfl) (oP rfl (p_arrA1 rfl) (oE rfl (zi (i:=0) (X':=.agg [.v (.int .i32 c13),.v (.int .i32 c13)]) rfl rfl rfl (CellD.v rfl) Tryz.sizeOf21 rfl rfl rfl) ?_))))))
         rintro _ _ ⟨rfl,rfl⟩
         refine on rfl (oZ rfl (jS rfl ?_))
         refine zct (fun (jg:Int×Int×PR)=>[(0,dP g 0),(2,dP g1 0),(3,dP g3 0),(4,.v (.int .i32 z.any.1)),(5,dB (decide (0<z.l.length))),(6,dP g14 0),(10,dP g 0),(11,dP g 0),(12,dP g 1),(13,dB z.b),(14,dB (!z.b)),(24,.tup [.v (.int .i32 z.any.1),dB (decide (0<z.l.length))]),(25,dP g 0),(26,.tup [.v (.int .i32 z.any.1),dB (decide (0<z.l.length))]),(27,.v (.int .i32 z.any.1)),(28,dB (decide (0<z.l.length))),(34,dB (!decide (0<z.l.length)||decide (z.any.1=(93:Int)))),(39,dP g 0),(40,.v (.int .i32 c13)),(41,.agg [.v (.int .i32 c13),.v (.int .i32 0)]),(42,dP g14 0),(43,.v (.int .i32 c13)),(44,dP g14 1)]) (fun (jg:Int×Int×PR)=>[.bx g14 328 (.agg [.v (.int .i32 jg.1),.v (.int .i32 jg.2.1)]),.bx g 298 (.agg [.sh 1 (jg.2.2.l.map (fun n=>D.v (.int .i32 n))),dB jg.2.2.b]),.bx g1 306 (.agg [dB false,dB false,dZ]),.bx g3 306 (.agg [dB false,dB q2,.ov ov]),.sl ov 2 328 (o.map RngD.d)]) (fun (jg:Int×Int×PR)=>(((⟨jg.1,jg.2.1⟩:RngD),jg.2.2)=z.item)∧(ROk jg.2.2.l)∧(jg.2.2.l.length<z.l.length)) (fun _ hQ15=>?_) ?_
         · skip
           refine jS rfl ?_
           by_cases h1l:(1:Int)<((s13.l.length:Nat):Int)
           · skip
             obtain ⟨x1,hx1⟩:=zW s13.l 0 (by omega)
             obtain ⟨x2,hx2⟩:=zW s13.l 1 (by omega)
             refine jk [0,2,3,4,5,6,10,11,12,13,14,24,25,26,27,28,34,39,40,41,42,43,44] rfl ?_
             refine zR 68 ((decide (x1=(45:Int))&&decide (x2≠(93:Int)))) [.bx g14 328 (.agg [.v (.int .i32 c13),.v (.int .i32 c13)]),.bx g 298 (.agg [.sh 1 (s13.l.map (fun n=>D.v (.int .i32 n))),dB s13.b]),.bx g1 306 (.agg [dB false,dB false,dZ]),.bx g3 306 (.agg [dB false,dB q2,.ov ov]),.sl ov 2 328 (o.map RngD.d)] (fun _ hQ16=>?_) ?_
             · skip
               by_cases hg17:x1=(45:Int)
               · skip
                 refine zf rfl (oR 2 rfl (oP rfl (zd rfl za4 rfl) (oP rfl (ze rfl (i:=1) rfl Tryz.isAgg130 rfl) (oP rfl (zbf (n:=s13.l.length) rfl Tryz.runUnderlying130 (by simp only[lm,lc,ln])) (oP rfl (zaF rfl rfl (decide_eq_true h1l)) (oR 3 rfl (oG rfl (zd rfl za4 rfl) (oG rfl (ze rfl (i:=1) rfl Tryz.isAgg130 rfl) (oG rfl (zI (k:=0) rfl rfl Tryz.runUnderlying130 Tryz.sizeOf21 (by first | rfl | omega) (zK hx1)) (oG rfl (zar rfl Tryz.isAgg21 rfl) (oG rfl (zD rfl rfl (decide_eq_true hg17)) (oR 4 rfl (oG rfl (zd rfl za4 rfl) (oG rfl (ze rfl (i:=1) rfl Tryz.isAgg130 rfl) (oG rfl (zI (k:=1) rfl rfl Tryz.runUnderlying130 Tryz.sizeOf21 (by first | rfl | omega) (zK hx2)) (oG rfl (zar rfl Tryz.isAgg21 rfl) (oG rfl (za2 rfl rfl rfl) (oR 1 rfl (zq rfl ?_)))))))))))))))))))
                 exact PD.sub ((68,dB (decide (x1=(45:Int))&&decide (x2≠(93:Int))))::[(0,dP g 0),(2,dP g1 0),(3,dP g3 0),(4,.v (.int .i32 z.any.1)),(5,dB (decide (0<z.l.length))),(6,dP g14 0),(10,dP g 0),(11,dP g 0),(12,dP g 1),(13,dB z.b),(14,dB (!z.b)),(24,.tup [.v (.int .i32 z.any.1),dB (decide (0<z.l.length))]),(25,dP g 0),(26,.tup [.v (.int .i32 z.any.1),dB (decide (0<z.l.length))]),(27,.v (.int .i32 z.any.1)),(28,dB (decide (0<z.l.length))),(34,dB (!decide (0<z.l.length)||decide (z.any.1=(93:Int)))),(39,dP g 0),(40,.v (.int .i32 c13)),(41,.agg [.v (.int .i32 c13),.v (.int .i32 0)]),(42,dP g14 0),(43,.v (.int .i32 c13)),(44,dP g14 1)]) ⟨sc rfl (Cv.eq (congrArg (fun b=>D.v (.bool b)) (by first | (simp[h1l,hc4,hg17];done) | (simp_all;done)))),sk rfl,sk rfl,sk rfl,sk rfl,sk rfl,sk rfl,sk rfl,sk rfl,sk rfl,sk rfl,sk rfl,sk rfl,sk rfl,sk rfl,sk rfl,sk rfl,sk rfl,sk rfl,sk rfl,sk rfl,sk rfl,sk rfl,sk rfl,trivial⟩ hQ16
               · skip
                 refine zf rfl (oR 2 rfl (oP rfl (zd rfl za4 rfl) (oP rfl (ze rfl (i:=1) rfl Tryz.isAgg130 rfl) (oP rfl (zbf (n:=s13.l.length) rfl Tryz.runUnderlying130 (by simp only[lm,lc,ln])) (oP rfl (zaF rfl rfl (decide_eq_true h1l)) (oR 3 rfl (oG rfl (zd rfl za4 rfl) (oG rfl (ze rfl (i:=1) rfl Tryz.isAgg130 rfl) (oG rfl (zI (k:=0) rfl rfl Tryz.runUnderlying130 Tryz.sizeOf21 (by first | rfl | omega) (zK hx1)) (oG rfl (zar rfl Tryz.isAgg21 rfl) (oG rfl (zD rfl rfl (decide_eq_false hg17)) (oR 10 rfl (zq rfl ?_)))))))))))))
                 exact PD.sub ((68,dB (decide (x1=(45:Int))&&decide (x2≠(93:Int))))::[(0,dP g 0),(2,dP g1 0),(3,dP g3 0),(4,.v (.int .i32 z.any.1)),(5,dB (decide (0<z.l.length))),(6,dP g14 0),(10,dP g 0),(11,dP g 0),(12,dP g 1),(13,dB z.b),(14,dB (!z.b)),(24,.tup [.v (.int .i32 z.any.1),dB (decide (0<z.l.length))]),(25,dP g 0),(26,.tup [.v (.int .i32 z.any.1),dB (decide (0<z.l.length))]),(27,.v (.int .i32 z.any.1)),(28,dB (decide (0<z.l.length))),(34,dB (!decide (0<z.l.length)||decide (z.any.1=(93:Int)))),(39,dP g 0),(40,.v (.int .i32 c13)),(41,.agg [.v (.int .i32 c13),.v (.int .i32 0)]),(42,dP g14 0),(43,.v (.int .i32 c13)),(44,dP g14 1)]) ⟨sc rfl (Cv.eq (congrArg (fun b=>D.v (.bool b)) (by first | (simp[h1l,hc4,hg17];done) | (simp_all;done)))),sk rfl,sk rfl,sk rfl,sk rfl,sk rfl,sk rfl,sk rfl,sk rfl,sk rfl,sk rfl,sk rfl,sk rfl,sk rfl,sk rfl,sk rfl,sk rfl,sk rfl,sk rfl,sk rfl,sk rfl,sk rfl,sk rfl,sk rfl,trivial⟩ hQ16
             · skip
               refine zj ?_
               refine jC rfl (fun hc18=>?_) (fun hc18=>?_)
               · simp only[bA,bB,bC,bD,bE,bF,bG,bH,bI,bJ] at hc18
                 have hxq:x1=45∧x2≠93:=by have h:=hc18;omega
                 refine jT rfl (oR 1 rfl (OpsD.subH (HSub.perm (zc (i:=1) rfl)) (on rfl (oE rfl (zm [.bx g 298 (.agg [.sh 1 (s13.l.map (fun n=>D.v (.int .i32 n))),dB s13.b])] [.bx g14 328 (.agg [.v (.int .i32 c13),.v (.int .i32 c13)]),.bx g1 306 (.agg [dB false,dB false,dZ]),.bx g3 306 (.agg [dB false,dB q2,.ov ov]),.sl ov 2 328 (o.map RngD.d)] [] rfl rfl (.cons ArgC.id .nil) zg Tryz.call272 (zey g s13 (by omega) hT13) (.inl rfl)) ?_))))
                 rintro _ _ ⟨_,⟨c19,s19,e19,rfl,rfl⟩,rfl⟩
                 obtain ⟨kl19,kb19,kc19⟩:=zex e19 hT13
                 have hT19:=hT13.suf kl19
                 have kd19:=kl19.length_le
                 refine on rfl (oZ rfl (zf rfl (oR 1 rfl (oE rfl (zm [.bx g 298 (.agg [.sh 1 (s19.l.map (fun n=>D.v (.int .i32 n))),dB s19.b])] [.bx g14 328 (.agg [.v (.int .i32 c13),.v (.int .i32 c13)]),.bx g1 306 (.agg [dB false,dB false,dZ]),.bx g3 306 (.agg [dB false,dB q2,.ov ov]),.sl ov 2 328 (o.map RngD.d)] [] rfl rfl (.cons ArgC.id .nil) zg Tryz.call275 (pmember_c g s19 (by omega) hT19) (.inl rfl)) ?_))))
                 rintro _ _ ⟨_,⟨c20,s20,e20,rfl,rfl⟩,rfl⟩
                 obtain ⟨kl20,kb20,kc20⟩:=pmember_e e20 hT19
                 have hT20:=hT19.suf kl20
                 have kd20:=kl20.length_le
                 refine on rfl (oP rfl (p_arrA1 rfl) (oE rfl (zi (i:=1) (X':=.agg [.v (.int .i32 c13),.v (.int .i32 c20)]) rfl rfl rfl (CellD.v rfl) Tryz.sizeOf21 rfl rfl rfl) ?_))
                 rintro _ _ ⟨rfl,rfl⟩
                 refine on rfl (zq rfl (PD.subH (HSub.perm (zc (i:=4) rfl)) (pn rfl (PD.subH (HSub.perm (zc (i:=4) rfl)) (pn rfl (PD.subH (HSub.perm (zc (i:=4) rfl)) (pn rfl (PD.subH (HSub.perm (zc (i:=3) rfl)) (pn rfl (PD.subH (HSub.perm (zc (i:=4) rfl)) (pn rfl (pn rfl ?_))))))))))))
                 exact PD.sub [(0,dP g 0),(2,dP g1 0),(3,dP g3 0),(4,.v (.int .i32 z.any.1)),(5,dB (decide (0<z.l.length))),(6,dP g14 0),(10,dP g 0),(11,dP g 0),(12,dP g 1),(13,dB z.b),(14,dB (!z.b)),(24,.tup [.v (.int .i32 z.any.1),dB (decide (0<z.l.length))]),(25,dP g 0),(26,.tup [.v (.int .i32 z.any.1),dB (decide (0<z.l.length))]),(27,.v (.int .i32 z.any.1)),(28,dB (decide (0<z.l.length))),(34,dB (!decide (0<z.l.length)||decide (z.any.1=(93:Int)))),(39,dP g 0),(40,.v (.int .i32 c13)),(41,.agg [.v (.int .i32 c13),.v (.int .i32 0)]),(42,dP g14 0),(43,.v (.int .i32 c13)),(44,dP g14 1)] (sa rfl) (hQ15 (c13,c20,(⟨s20.l,s20.b⟩:PR)) ⟨pitem_1 e13 hx1 hx2 hxq e19 e20,hT20,(by show s20.l.length<_;omega)⟩)
               · simp only[bA,bB,bC,bD,bE,bF,bG,bH,bI,bJ] at hc18
                 have hxq:¬(x1=45∧x2≠93):=by have h:=hc18;omega
                 refine zt rfl (pn rfl ?_)
                 exact PD.sub [(0,dP g 0),(2,dP g1 0),(3,dP g3 0),(4,.v (.int .i32 z.any.1)),(5,dB (decide (0<z.l.length))),(6,dP g14 0),(10,dP g 0),(11,dP g 0),(12,dP g 1),(13,dB z.b),(14,dB (!z.b)),(24,.tup [.v (.int .i32 z.any.1),dB (decide (0<z.l.length))]),(25,dP g 0),(26,.tup [.v (.int .i32 z.any.1),dB (decide (0<z.l.length))]),(27,.v (.int .i32 z.any.1)),(28,dB (decide (0<z.l.length))),(34,dB (!decide (0<z.l.length)||decide (z.any.1=(93:Int)))),(39,dP g 0),(40,.v (.int .i32 c13)),(41,.agg [.v (.int .i32 c13),.v (.int .i32 0)]),(42,dP g14 0),(43,.v (.int .i32 c13)),(44,dP g14 1)] (sa rfl) (hQ15 (c13,c13,(⟨s13.l,s13.b⟩:PR)) ⟨pitem_0 e13 hx1 hx2 hxq,hT13,(by show s13.l.length<_;omega)⟩)
           · skip
             refine zf rfl (oR 2 rfl (oP rfl (zd rfl za4 rfl) (oP rfl (ze rfl (i:=1) rfl Tryz.isAgg130 rfl) (oP rfl (zbf (n:=s13.l.length) rfl Tryz.runUnderlying130 (by simp only[lm,lc,ln])) (oP rfl (zaF rfl rfl (decide_eq_false h1l)) (oR 18 rfl (oZ rfl (jk [0,2,3,4,5,6,10,11,12,13,14,24,25,26,27,28,34,39,40,41,42,43,44,68] rfl (jCf rfl (zt rfl (pn rfl ?_)))))))))))
             exact PD.sub [(0,dP g 0),(2,dP g1 0),(3,dP g3 0),(4,.v (.int .i32 z.any.1)),(5,dB (decide (0<z.l.length))),(6,dP g14 0),(10,dP g 0),(11,dP g 0),(12,dP g 1),(13,dB z.b),(14,dB (!z.b)),(24,.tup [.v (.int .i32 z.any.1),dB (decide (0<z.l.length))]),(25,dP g 0),(26,.tup [.v (.int .i32 z.any.1),dB (decide (0<z.l.length))]),(27,.v (.int .i32 z.any.1)),(28,dB (decide (0<z.l.length))),(34,dB (!decide (0<z.l.length)||decide (z.any.1=(93:Int)))),(39,dP g 0),(40,.v (.int .i32 c13)),(41,.agg [.v (.int .i32 c13),.v (.int .i32 0)]),(42,dP g14 0),(43,.v (.int .i32 c13)),(44,dP g14 1)] (sa rfl) (hQ15 (c13,c13,(⟨s13.l,s13.b⟩:PR)) ⟨pitem_s e13 (by show ¬1<s13.l.length;omega),hT13,(by show s13.l.length<_;omega)⟩)
         · skip
           rintro ⟨ia,ib,w⟩ ⟨hit,hTw,hlw⟩
           replace hit:((⟨ia,ib⟩:RngD),w)=z.item:=hit
           replace hTw:ROk w.l:=hTw
           replace hlw:w.l.length<z.l.length:=hlw
           refine pk [0,2,3,4,5,6,10,11,12,13,14,24,25,26,27,28,34,39,40,41,42,43,44] rfl (pn rfl (zj (jS rfl (jk [0,2,3,4,5,6,10,11,12,13,14,24,25,26,27,28,34,39,40,41,42,43,44] rfl ?_))))
           refine zd1 [(0,dP g 0),(2,dP g1 0),(3,dP g3 0),(4,.v (.int .i32 z.any.1)),(5,dB (decide (0<z.l.length))),(6,dP g14 0),(10,dP g 0),(11,dP g 0),(12,dP g 1),(13,dB z.b),(14,dB (!z.b)),(24,.tup [.v (.int .i32 z.any.1),dB (decide (0<z.l.length))]),(25,dP g 0),(26,.tup [.v (.int .i32 z.any.1),dB (decide (0<z.l.length))]),(27,.v (.int .i32 z.any.1)),(28,dB (decide (0<z.l.length))),(34,dB (!decide (0<z.l.length)||decide (z.any.1=(93:Int)))),(39,dP g 0),(40,.v (.int .i32 c13)),(41,.agg [.v (.int .i32 c13),.v (.int .i32 0)]),(42,dP g14 0),(43,.v (.int .i32 c13)),(44,dP g14 1)] [.bx g14 328 (.agg [.v (.int .i32 ia),.v (.int .i32 ib)]),.bx g 298 (.agg [.sh 1 (w.l.map (fun n=>D.v (.int .i32 n))),dB (w.b||decide (ib<ia))]),.bx g1 306 (.agg [dB false,dB false,dZ]),.bx g3 306 (.agg [dB false,dB q2,.ov ov]),.sl ov 2 328 (o.map RngD.d)] (fun _ hQ21=>?_) ?_
           · skip
             rcases Bool.eq_false_or_eq_true (w.b) with hg22 | hg22
             · skip
               refine zf rfl (oR 3 rfl (oP rfl (zd rfl zaG rfl) (oP rfl ((ze rfl (i:=1) rfl Tryz.isAgg4 rfl).cv (Cv.eq (congrArg (fun b=>D.v (.bool b)) (hg22)))) (oR 8 rfl (oP rfl (zd rfl zaG rfl) (oE rfl (zi (i:=1) (X':=.agg [.sh 1 (w.l.map (fun n=>D.v (.int .i32 n))),dB true]) rfl rfl rfl (CellD.v rfl) Tryz.sizeOf4 rfl rfl rfl) ?_))))))
               rintro _ _ ⟨rfl,rfl⟩
               refine on rfl (zq rfl (PD.norm [.bx g14 328 (.agg [.v (.int .i32 ia),.v (.int .i32 ib)]),.bx g 298 (.agg [.sh 1 (w.l.map (fun n=>D.v (.int .i32 n))),dB (w.b||decide (ib<ia))]),.bx g1 306 (.agg [dB false,dB false,dZ]),.bx g3 306 (.agg [dB false,dB q2,.ov ov]),.sl ov 2 328 (o.map RngD.d)] (by simp only[hc4,hg22,Bool.or_true,Bool.true_or,Bool.or_false,Bool.false_or,Bool.not_true,Bool.not_false]<;>rfl) ?_))
               exact PD.sub [(0,dP g 0),(2,dP g1 0),(3,dP g3 0),(4,.v (.int .i32 z.any.1)),(5,dB (decide (0<z.l.length))),(6,dP g14 0),(10,dP g 0),(11,dP g 0),(12,dP g 1),(13,dB z.b),(14,dB (!z.b)),(24,.tup [.v (.int .i32 z.any.1),dB (decide (0<z.l.length))]),(25,dP g 0),(26,.tup [.v (.int .i32 z.any.1),dB (decide (0<z.l.length))]),(27,.v (.int .i32 z.any.1)),(28,dB (decide (0<z.l.length))),(34,dB (!decide (0<z.l.length)||decide (z.any.1=(93:Int)))),(39,dP g 0),(40,.v (.int .i32 c13)),(41,.agg [.v (.int .i32 c13),.v (.int .i32 0)]),(42,dP g14 0),(43,.v (.int .i32 c13)),(44,dP g14 1)] (sa rfl) hQ21
             · skip
               refine zf rfl (oR 3 rfl (oP rfl (zd rfl zaG rfl) (oP rfl ((ze rfl (i:=1) rfl Tryz.isAgg4 rfl).cv (Cv.eq (congrArg (fun b=>D.v (.bool b)) (hg22)))) (oR 1 rfl (oG rfl (p_arrA0 rfl) (oG rfl (ze rfl (i:=0) rfl Tryz.isAgg21 rfl) (oG rfl (p_arrA1 rfl) (oG rfl (ze rfl (i:=0) rfl Tryz.isAgg21 rfl) (oG rfl (zaF rfl rfl rfl) (oR 2 rfl (oP rfl (zd rfl zaG rfl) (oE rfl (zi (i:=1) (X':=.agg [.sh 1 (w.l.map (fun n=>D.v (.int .i32 n))),dB (decide (ib<ia))]) rfl rfl rfl (CellD.v rfl) Tryz.sizeOf4 rfl rfl rfl) ?_))))))))))))
               rintro _ _ ⟨rfl,rfl⟩
               refine on rfl (zq rfl (PD.norm [.bx g14 328 (.agg [.v (.int .i32 ia),.v (.int .i32 ib)]),.bx g 298 (.agg [.sh 1 (w.l.map (fun n=>D.v (.int .i32 n))),dB (w.b||decide (ib<ia))]),.bx g1 306 (.agg [dB false,dB false,dZ]),.bx g3 306 (.agg [dB false,dB q2,.ov ov]),.sl ov 2 328 (o.map RngD.d)] (by simp only[hc4,hg22,Bool.or_true,Bool.true_or,Bool.or_false,Bool.false_or,Bool.not_true,Bool.not_false]<;>rfl) ?_))
               exact PD.sub [(0,dP g 0),(2,dP g1 0),(3,dP g3 0),(4,.v (.int .i32 z.any.1)),(5,dB (decide (0<z.l.length))),(6,dP g14 0),(10,dP g 0),(11,dP g 0),(12,dP g 1),(13,dB z.b),(14,dB (!z.b)),(24,.tup [.v (.int .i32 z.any.1),dB (decide (0<z.l.length))]),(25,dP g 0),(26,.tup [.v (.int .i32 z.any.1),dB (decide (0<z.l.length))]),(27,.v (.int .i32 z.any.1)),(28,dB (decide (0<z.l.length))),(34,dB (!decide (0<z.l.length)||decide (z.any.1=(93:Int)))),(39,dP g 0),(40,.v (.int .i32 c13)),(41,.agg [.v (.int .i32 c13),.v (.int .i32 0)]),(42,dP g14 0),(43,.v (.int .i32 c13)),(44,dP g14 1)] (sa rfl) hQ21
           · skip
             refine zj (zf rfl (oP rfl (zd rfl fa_306_2 rfl) (oP rfl (ze rfl (i:=3) rfl Tryz.isAgg304 rfl) (oP rfl (zH (d:=.agg [.v (.int .i32 ia),.v (.int .i32 ib)]) rfl (i:=0) rfl Tryz.isAgg328 Tryz.sizeOf328 rfl rfl) (oE rfl (zL [.tmp 90] rfl rfl (.cons CellD.agg .nil) rfl Tryz.runUnderlying304 Tryz.sizeOf328 Tryz.zeroValue328 rfl rfl rfl rfl) ?_)))))
             rintro _ _ ⟨g23,rfl,rfl⟩
             refine oE rfl (zP (f:=RngD.d) (l:=o) (l':=[(RngD.mk ia ib)]) (i:=5) rfl rfl rfl (SrcD.own (j:=0) rfl rfl) und_304 infz_328 rfl rfl (by unfold maxLen;(try simp only[la,lc,ln,lm,lt',ld,ls,lr]);omega) (by (try simp only[la,lc,ln,lm,lt',ld,ls,lr]);omega)) ?_
             rintro _ _ ⟨v24,rfl,rfl⟩
             refine on rfl (oP rfl (zd rfl fa_306_2 rfl) (oE rfl (zi (i:=4) (X':=.agg [dB false,dB q2,.ov v24]) rfl rfl rfl (CellD.o) Tryz.sizeOf304 rfl rfl rfl) ?_))
             rintro _ _ ⟨rfl,rfl⟩
             refine on rfl (zq rfl (zB (PD.subH (HSub.perm (zc (i:=2) rfl)) (pn rfl (PD.subH (HSub.perm (zc (i:=5) rfl)) (pn rfl (PD.subH (HSub.perm (zc (i:=5) rfl)) (pn rfl (PD.subH (HSub.perm (zc (i:=5) rfl)) (pn rfl (PD.subH (HSub.fst 4 rfl) (pn rfl ?_))))))))))))
             exact pl4 f (⟨w.l,(w.b||decide (ib<ia))⟩:PR) v24 (o++[(RngD.mk ia ib)]) (sa rfl) HSub.rfl' ⟨by show w.l.length<_;omega,(class_go hzb h93 hnx (hit)).symm.trans hf,hTw,by simp only[la,List.length_singleton];omega⟩ (by omega)
 · simp only[bA,bB,bC,bD,bE,bF,bG,bH,bI,bJ] at hc4
   have hff:=hf.symm.trans (class_bad (by simpa using hc4))
   refine zF rfl (zw (zu (zr (zj (jT rfl (oP rfl (zH (d:=.agg [dB false,dB q2,.ov ov]) rfl (i:=1) rfl Tryz.isAgg306 Tryz.sizeOf306 rfl rfl) (oE rfl (zi (i:=0) (X':=.agg [dB false,dB q2,.ov ov]) rfl rfl rfl (CellD.agg) Tryz.sizeOf306 rfl rfl rfl) ?_)))))))
   rintro _ _ ⟨rfl,rfl⟩
   refine on rfl (oZ rfl (zn rfl (PD.subH (HSub.perm (zc (i:=2) rfl)) (pn rfl (zbi (Mv.freeze (K':=[(0,dP g 0),(2,dP g1 0),(3,dP g3 0),(10,dP g 0),(11,dP g 0),(12,dP g 1),(13,dB z.b),(14,dB (!z.b)),(94,.agg [dB false,dB q2,.sh 2 (o.map RngD.d)])]) [.sl ov 2 328 (o.map RngD.d)] (H1:=[.bx g1 306 (.agg [dB false,dB q2,.ov ov]),.bx g3 306 (.agg [dB false,dB q2,.ov ov]),.bx g 298 (.agg [.sh 1 (z.l.map (fun n=>D.v (.int .i32 n))),dB z.b])]) (H1':=[.bx g1 306 (.agg [dB false,dB q2,.sh 2 (o.map RngD.d)]),.bx g3 306 (.agg [dB false,dB q2,.sh 2 (o.map RngD.d)]),.bx g 298 (.agg [.sh 1 (z.l.map (fun n=>D.v (.int .i32 n))),dB z.b])]) ⟨⟨_,rfl,ArgC.id⟩,⟨_,rfl,ArgC.id⟩,⟨_,rfl,ArgC.id⟩,⟨_,rfl,ArgC.id⟩,⟨_,rfl,ArgC.id⟩,⟨_,rfl,ArgC.id⟩,⟨_,rfl,ArgC.id⟩,⟨_,rfl,ArgC.id⟩,⟨_,rfl,ArgC.agg (.cons ArgC.id (.cons ArgC.id (.cons (ArgC.own (j:=0) rfl rfl) .nil)))⟩,trivial⟩ (.bx (ArgC.agg (.cons ArgC.id (.cons ArgC.id (.cons (ArgC.own (j:=0) rfl rfl) .nil)))) (.bx (ArgC.agg (.cons ArgC.id (.cons ArgC.id (.cons (ArgC.own (j:=0) rfl rfl) .nil)))) (.same .nil)))) ?_)))))
   refine PD.subH (HSub.perm (zc (i:=2) rfl)) (pn rfl (pn rfl ?_))
   exact zh Tryz.results273 (.cons (zU (i:=1) rfl rfl Tryz.isAgg306 Tryz.sizeOf306 rfl rfl) .nil) rfl (HSub.fst 1 rfl) ⟨⟨false,q2,o⟩,⟨z.l,z.b⟩,class_of e2 hff,rfl,rfl⟩
end Lp
set_option linter.unusedVariables false
namespace Lp
open Go
def Suf (p:PR→Pt×PR):Prop:=∀ s,(p s).2.l <:+s.l
theorem PR.take_suf (s:PR) (c:Int):(s.take c).2.l <:+s.l:=by
 unfold PR.take;split
 · exact List.tail_suffix _
 · exact List.suffix_refl _
theorem PR.any_suf (s:PR):s.any.2.l <:+s.l:=by
 unfold PR.any
 cases e:s.l with
 | nil=>exact List.suffix_refl _
 | cons y l=>exact List.suffix_cons y l
theorem PR.member_suf (s:PR):s.member.2.l <:+s.l:=by
 unfold PR.member;split
 · exact(PR.any_suf _).trans (PR.any_suf _)
 · exact PR.any_suf _
theorem PR.item_suf (s:PR):s.item.2.l <:+s.l:=by
 unfold PR.item;simp only;split
 · exact((PR.member_suf _).trans (PR.any_suf _)).trans (PR.member_suf _)
 · exact PR.member_suf _
theorem classF_suf (nt:Bool):∀ (f:Nat) (o:List RngD) (s:PR),(zbv nt f o s).2.l <:+s.l
 | 0,o,s=>List.suffix_refl _
 | f+1,o,s=>by
  unfold zbv
  split
  · exact List.suffix_refl _
  · split
    · exact PR.take_suf _ _
    · split
      · exact List.suffix_refl _
      · exact(classF_suf nt f (o++[s.item.1]) ⟨s.item.2.l,s.item.2.b||decide (s.item.1.hi<s.item.1.lo)⟩).trans (PR.item_suf s)
theorem PR.cls_suf (s:PR):s.cls.2.l <:+s.l:=(classF_suf _ _ _ _).trans (PR.take_suf _ _)
theorem PR.times_suf (s:PR) (x:Pt):(s.times x).2.l <:+s.l:=by
 unfold PR.times;repeat' split
 all_goals first | exact PR.take_suf _ _ | exact List.suffix_refl _
theorem PR.atom_suf {alt:PR→Pt×PR} (ha:Suf alt) (s:PR):(s.atom alt).2.l <:+s.l:=by
 unfold PR.atom;simp only
 split
 · split
   · exact(ha _).trans (PR.any_suf _)
   · exact((PR.take_suf _ _).trans (ha _)).trans (PR.any_suf _)
 · split
   · exact(PR.cls_suf _).trans (PR.any_suf _)
   · split
     · exact PR.any_suf _
     · split
       · exact(PR.any_suf _).trans (PR.any_suf _)
       · exact PR.any_suf _
theorem partsF_suf {alt:PR→Pt×PR} (ha:Suf alt):∀ (f:Nat) (o:List Pt) (s:PR),(zbd alt f o s).2.l <:+s.l
 | 0,o,s=>List.suffix_refl _
 | f+1,o,s=>by
  unfold zbd
  split
  · exact List.suffix_refl _
  · exact((partsF_suf ha f _ _).trans (PR.times_suf _ _)).trans (PR.atom_suf ha s)
theorem PR.parts_suf {alt:PR→Pt×PR} (ha:Suf alt) (s:PR):(s.parts alt).2.l <:+s.l:=partsF_suf ha _ _ _
theorem altsF_suf {alt:PR→Pt×PR} (ha:Suf alt):∀ (f:Nat) (o:List Pt) (s:PR),(zcg alt f o s).2.l <:+s.l
 | 0,o,s=>List.suffix_refl _
 | f+1,o,s=>by
  unfold zcg
  split
  · exact((altsF_suf ha f _ _).trans (PR.parts_suf ha _)).trans (PR.take_suf _ _)
  · exact List.suffix_refl _
theorem zdr:∀ f:Nat,Suf (altF f)
 | 0=>fun s=>List.suffix_refl _
 | f+1=>fun s=>by
  unfold altF;simp only
  exact(altsF_suf (zdr f) _ _ _).trans (PR.parts_suf (zdr f) s)
end Lp
