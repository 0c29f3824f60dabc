import Derived.Test.YtheccaeefigajaaGreatDoorPPat3
set_option linter.unusedSimpArgs false
set_option linter.unusedVariables false
set_option maxHeartbeats 4000000
set_option maxRecDepth 100000
namespace Lp
open Go Go.RowKit Go.Proofs
theorem bd_312:BdP Tryz.prog #[⟨"l",310,0,false, "", "leporello/pattern",0⟩] [(0,1)]:=fun _=>by kernel_rfl
theorem ze9:BdP Tryz.prog #[⟨"s",306,0,false, "", "leporello/pattern",0⟩] [(0,3)]:=fun _=>by kernel_rfl
theorem fa_312_0:FaP Tryz.prog 312 0 0:=fun _ _ _=>by kernel_rfl
theorem fa_317_0:FaP Tryz.prog 317 0 0:=fun _ _ _=>by kernel_rfl
theorem infz_20:IzP Tryz.prog 20 .nilIface 1 16:=zcs (by kernel_rfl)
theorem und_310:Tryz.prog.underlying 310=some (.slice 20):=by kernel_rfl
theorem CD.nmx {P:Program} {f:FuncId} {H:List Hp} {ds:List D} {α β:Type} {p:α×β} {y:α} {s:β} (e:(y,s)=p) {F:α→D} {G:β→List Hp} (h:CD P f H ds (fun r H'=>∃ y' s',(y',s')=p∧r=F y'∧H'=G s')):CD P f H ds (fun r H'=>r=F y∧H'=G s):=by
 subst e
 refine⟨fun w F' vs h1 h2 h3=>(h.out w F' vs h1 h2 h3).mono ?_⟩
 rintro e' w' ⟨u,he,F2,d,H',⟨y',s',e1,rfl,rfl⟩,hr,hg⟩
 injection e1 with e1 e2;subst e1;subst e2
 exact⟨u,he,F2,_,_,⟨O,O⟩,hr,hg⟩
def AltOk (f:Nat):Prop:=∀ (g:Nat) (s:PR),s.l.length<f→s.l.length≤1000000→ROk s.l→CD Tryz.prog 261 [PB g s] [dP g 0] (fun r H'=>∃ x s',(x,s')=altF f s∧r=Pt.d x∧H'=[PB g s'])
theorem row_d (o:List Pt):D.ifc 317 (.agg [.sh 1 (o.map Pt.d)])=Pt.d (.row o):=by rw[←Pt.ds_eq];rfl
theorem alt_d (o:List Pt):D.ifc 312 (.agg [.sh 1 (o.map Pt.d)])=Pt.d (.alt o):=by rw[←Pt.ds_eq];rfl
section
variable {s s' s1 s2 s3 s4 z:PR} {a b c:Int} {q:Bool} {o:List Pt} {f:Nat} {x y:Pt} {alt:PR→Pt×PR}
theorem atom_g1 (e:(c,s1)=s.any) (hc:c=40) (e2:(x,s2)=alt s1) (hb:s2.b=true):(x,(⟨s2.l,true⟩:PR))=s.atom alt:=by
 unfold PR.atom;rw[←e];simp only[if_pos hc];rw[←e2];simp only[if_pos hb];rw[←hb]
theorem atom_g2 (e:(c,s1)=s.any) (hc:c=40) (e2:(x,s2)=alt s1) (hb:s2.b=false) (e3:(q,s3)=s2.take 41):(x,(⟨s3.l,!q⟩:PR))=s.atom alt:=by
 unfold PR.atom;rw[←e];simp only[if_pos hc];rw[←e2];simp only[if_neg (show ¬s2.b=true by rw[hb];simp)];rw[←e3]
theorem atom_c {st:SetD} (e:(c,s1)=s.any) (h1:¬c=40) (h2:c=91) (e2:(st,s2)=s1.cls):(Pt.one st,s2)=s.atom alt:=by
 unfold PR.atom;rw[←e];simp only[if_neg h1,if_pos h2];rw[←e2]
theorem atom_d (e:(c,s1)=s.any) (h1:¬c=40) (h2:¬c=91) (h3:c=46):(Pt.one ⟨true,false,[]⟩,s1)=s.atom alt:=by
 unfold PR.atom;rw[←e];simp only[if_neg h1,if_neg h2,if_pos h3]
theorem atom_b (e:(c,s1)=s.any) (h1:¬c=40) (h2:¬c=91) (h3:¬c=46) (h4:c=92) (e2:(a,s2)=s1.any):(Pt.one ⟨false,false,[⟨a,a⟩]⟩,s2)=s.atom alt:=by
 unfold PR.atom;rw[←e];simp only[if_neg h1,if_neg h2,if_neg h3,if_pos h4];rw[←e2]
theorem atom_e (e:(c,s1)=s.any) (h1:¬c=40) (h2:¬c=91) (h3:¬c=46) (h4:¬c=92):(Pt.one ⟨false,false,[⟨c,c⟩]⟩,(⟨s1.l,s1.b||sgnN.any (fun x=>decide (x=c))⟩:PR))=s.atom alt:=by
 unfold PR.atom;rw[←e];simp only[if_neg h1,if_neg h2,if_neg h3,if_neg h4]
theorem atom_et (e:(c,s1)=s.any) (h1:¬c=40) (h2:¬c=91) (h3:¬c=46) (h4:¬c=92) (h5:sgnN.any (fun x=>decide (x=c))=true):(Pt.one ⟨false,false,[⟨c,c⟩]⟩,(⟨s1.l,true⟩:PR))=s.atom alt:=by
 rw[←atom_e e h1 h2 h3 h4,h5,Bool.or_true]
theorem atom_ef (e:(c,s1)=s.any) (h1:¬c=40) (h2:¬c=91) (h3:¬c=46) (h4:¬c=92) (h5:sgnN.any (fun x=>decide (x=c))=false):(Pt.one ⟨false,false,[⟨c,c⟩]⟩,(⟨s1.l,s1.b⟩:PR))=s.atom alt:=by
 rw[←atom_e e h1 h2 h3 h4,h5,Bool.or_false]
theorem atom_facts (e:(x,s')=s.atom alt) (h0:0<s.l.length) (ha:∀ s,(alt s).2.l.length≤s.l.length) (hs:Suf alt):s'.l <:+s.l∧s'.l.length+1≤s.l.length:=by
 have h2:s'=(s.atom alt).2:=congrArg Prod.snd e
 rw[h2];exact⟨PR.atom_suf hs s,PR.atom_lt ha (List.length_pos_iff.1 h0)⟩
theorem times_facts (e:(y,s')=s.times x):s'.l <:+s.l:=by
 have h2:s'=(s.times x).2:=congrArg Prod.snd e
 rw[h2];exact PR.times_suf s x
theorem parts_facts (e:(y,s')=s.parts alt) (hs:Suf alt):s'.l <:+s.l:=by
 have h2:s'=(s.parts alt).2:=congrArg Prod.snd e
 rw[h2];exact PR.parts_suf hs s
theorem alt_facts (e:(y,s')=altF f s):s'.l <:+s.l:=by
 have h2:s'=(altF f s).2:=congrArg Prod.snd e
 rw[h2];exact zdF f s
theorem stop_iff:z.stop=true↔(z.l.length=0∨z.any.1=124∨z.any.1=41):=by
 unfold PR.stop
 simp only[Bool.or_eq_true,decide_eq_true_eq,zd1,←List.length_eq_zero_iff]
 omega
theorem parts_bad (h:z.b=true):zam alt (f+1) o z=(o,z):=by unfold zam;rw[if_pos (Or.inl h)]
theorem parts_stop (h:z.l.length=0∨z.any.1=124∨z.any.1=41):zam alt (f+1) o z=(o,z):=by unfold zam;rw[if_pos (Or.inr (stop_iff.2 h))]
theorem parts_go (h:z.b=false) (h2:¬(z.l.length=0∨z.any.1=124∨z.any.1=41)) (e:(x,s1)=z.atom alt) (e2:(y,s2)=s1.times x):zam alt (f+1) o z=zam alt f (o++[y]) s2:=by
 conv=>lhs;unfold zam
 rw[if_neg (by rintro (k | k);(rw[h] at k;cases k);exact h2 (stop_iff.1 k)),←e];simp only;rw[←e2]
theorem parts_of (hf:zam alt (s.l.length+1) [] s=(o,s')):(Pt.row o,s')=s.parts alt:=by unfold PR.parts;rw[hf]
theorem alts_go (e:(q,s1)=z.take 124) (hq:q=true) (e2:(y,s2)=s1.parts alt):zbL alt (f+1) o z=zbL alt f (o++[y]) s2:=by
 conv=>lhs;unfold zbL
 rw[if_pos ((zaQ e).2.2.2.symm.trans hq),←e];simp only;rw[←e2]
theorem alts_end (e:(q,s1)=z.take 124) (hq:¬q=true):zbL alt (f+1) o z=(o,s1):=by
 unfold zbL;rw[if_neg (fun k=>hq ((zaQ e).2.2.2.trans k)),ptake_f e hq]
theorem alts_of (e:(x,s1)=s.parts (altF f)) (hf:zbL (altF f) (s1.l.length+1) [x] s1=(o,s')):(Pt.alt o,s')=altF (f+1) s:=by unfold altF;simp only;rw[←e];simp only;rw[hf]
end
theorem patom_s (g:Nat) (s:PR) (f:Nat) (ih:AltOk f) (hl:s.l.length≤1000000) (hT:ROk s.l) (hf:s.l.length<f+1):
 CD Tryz.prog 271 [.bx g 298 (.agg [.sh 1 (s.l.map dR),dB s.b])] [dP g 0] (fun r H'=>∃ x s',(x,s')=s.atom (altF f)∧r=Pt.d x∧H'=[PB g s']):=by
 refine tZ Tryz.func271 O O (fun C=>?_)
 refine g' 8 O (tX [0] O O acs (ze2 g s (by omega) hT) ?_)
 rintro _ _ ⟨c1,s1,e1,rfl,rfl⟩
 obtain ⟨kl1,kb1,kc1⟩:=ze1 e1 hT
 have hT1:=hT.suf kl1
 have kd1:=kl1.length_le
 refine g' 12 O ?_
 refine tD O (fun hc2=>?_) (fun hc2=>?_)
 · skip
   have hne:0<s.l.length:=by rcases Nat.eq_zero_or_pos s.l.length with h0 | h0;(have hz:=(pnext_0 h0).1;have he:=congrArg Prod.fst e1;simp only at he;omega);exact h0
   refine g' 3 O (tX [0] O O acs (ih g s1 (by omega) (by omega) hT1) ?_)
   rintro _ _ ⟨x3,s3,e3,rfl,rfl⟩
   have kl3:=alt_facts e3
   have hT3:=hT1.suf kl3
   have kd3:=kl3.length_le
   refine g' 4 O ?_
   rcases Bool.eq_false_or_eq_true (s3.b) with hg4 | hg4
   · skip
     refine g' 5 O (tP O ((zk O (i:=0) O Tryz.isAgg4 O).cv (cB ((hg4)))) (gQ 19 [0] O O ?_))
     exact tR O (HSub.fst 1 O) ⟨x3,⟨s3.l,true⟩,atom_g1 e1 hc2 e3 hg4,O,O⟩
   · skip
     refine g' 5 O (tP O ((zk O (i:=0) O Tryz.isAgg4 O).cv (cB ((hg4)))) (g' 2 O (tX [0] O O acs (zdJ g s3 (41:Int) (by omega) hT3) ?_)))
     rintro _ _ ⟨q5,s5,e5,rfl,rfl⟩
     obtain ⟨kl5,kb5,kc5,ke5⟩:=zaQ e5
     have hT5:=hT3.suf kl5
     have kd5:=kl5.length_le
     refine gQ 16 [0] O O ?_
     exact tR O (HSub.fst 1 O) ⟨x3,⟨s5.l,!q5⟩,atom_g2 e1 hc2 e3 hg4 e5,O,O⟩
 · skip
   refine g' 7 O ?_
   refine tD O (fun hc6=>?_) (fun hc6=>?_)
   · skip
     refine g' 3 O (tX [0] O O acs (pclass_c g s1 (by omega) hT1) ?_)
     rintro _ _ ⟨st7,s7,e7,rfl,rfl⟩
     refine tP O (zf [0] [.tmp 29] (zv:=(.agg #[(.bool false),(.bool false),(.slice none 0 0)])) O O (.cons CellD.agg .nil) (Tryz.runUnderlying315) Tryz.zeroValue315 ze9 ⟨O,O,O,trivial⟩ O) (g' 7 O ?_)
     exact tR O (HSub.fst 1 O) ⟨.one st7,⟨s7.l,s7.b⟩,atom_c e1 hc2 hc6 e7,O,O⟩
   · skip
     refine g' 7 O ?_
     refine tD O (fun hc8=>?_) (fun hc8=>?_)
     · skip
       refine g' 2 O (tP O (zf [0] [.const (.bool true)] (zv:=(.agg #[(.bool false),(.bool false),(.slice none 0 0)])) O O (.cons (CellD.v O) .nil) (Tryz.runUnderlying306) Tryz.zeroValue306 zfb ⟨O,O,O,trivial⟩ O) (tP O (zf [0] [.tmp 35] (zv:=(.agg #[(.bool false),(.bool false),(.slice none 0 0)])) O O (.cons CellD.agg .nil) (Tryz.runUnderlying315) Tryz.zeroValue315 ze9 ⟨O,O,O,trivial⟩ O) (g' 7 O ?_)))
       exact tRs O Tryz.results271 (.cons (zd (zc O) (Cv.ifc (Cv.agg (gc (gc (.cons Cv.nil .nil)))))) .nil) O (HSub.fst 1 O) ⟨.one ⟨true,false,[]⟩,⟨s1.l,s1.b⟩,atom_d e1 hc2 hc6 hc8,O,O⟩
     · skip
       refine g' 7 O ?_
       refine tD O (fun hc9=>?_) (fun hc9=>?_)
       · skip
         refine g' 2 O (tX [0] O O acs (ze2 g s1 (by omega) hT1) ?_)
         rintro _ _ ⟨c10,s10,e10,rfl,rfl⟩
         obtain ⟨kl10,kb10,kc10⟩:=ze1 e10 hT1
         have hT10:=hT1.suf kl10
         have kd10:=kl10.length_le
         refine g' 8 O (tP O (p_arr2 O O) (tE O (Qu.ef (d:=.sh 2 ([(RngD.mk c10 c10)].map RngD.d)) (ze [.tmp 51] O O (.cons CellD.agg .nil) O Tryz.runUnderlying304 Tryz.sizeOf328 Tryz.zeroValue328 O O O O)) ?_))
         rintro _ _ ⟨rfl,rfl⟩
         refine tP O (zf [2] [.tmp 52] (zv:=(.agg #[(.bool false),(.bool false),(.slice none 0 0)])) O O (.cons CellD.sh .nil) (Tryz.runUnderlying306) Tryz.zeroValue306 zfb ⟨O,O,O,trivial⟩ O) (tP O (zf [0] [.tmp 53] (zv:=(.agg #[(.bool false),(.bool false),(.slice none 0 0)])) O O (.cons CellD.agg .nil) (Tryz.runUnderlying315) Tryz.zeroValue315 ze9 ⟨O,O,O,trivial⟩ O) (g' 5 O ?_))
         exact tR O (HSub.fst 1 O) ⟨.one ⟨false,false,[⟨c10,c10⟩]⟩,⟨s10.l,s10.b⟩,atom_b e1 hc2 hc6 hc8 hc9 e10,O,O⟩
       · skip
         refine g' 3 O (tW O acs (containsR_c c1 (by omega) (by omega)) (g' 3 O ?_))
         refine tC O (fun hc11=>?_) (fun hc11=>?_)
         · skip
           refine gQ 12 [0] O O (tP O (p_arr2 O O) (tE O (Qu.ef (d:=.sh 2 ([(RngD.mk c1 c1)].map RngD.d)) (ze [.tmp 51] O O (.cons CellD.agg .nil) O Tryz.runUnderlying304 Tryz.sizeOf328 Tryz.zeroValue328 O O O O)) ?_))
           rintro _ _ ⟨rfl,rfl⟩
           refine tP O (zf [2] [.tmp 52] (zv:=(.agg #[(.bool false),(.bool false),(.slice none 0 0)])) O O (.cons CellD.sh .nil) (Tryz.runUnderlying306) Tryz.zeroValue306 zfb ⟨O,O,O,trivial⟩ O) (tP O (zf [0] [.tmp 53] (zv:=(.agg #[(.bool false),(.bool false),(.slice none 0 0)])) O O (.cons CellD.agg .nil) (Tryz.runUnderlying315) Tryz.zeroValue315 ze9 ⟨O,O,O,trivial⟩ O) (g' 5 O ?_))
           exact tR O (HSub.fst 1 O) ⟨.one ⟨false,false,[⟨c1,c1⟩]⟩,⟨s1.l,true⟩,atom_et e1 hc2 hc6 hc8 hc9 (by simpa using hc11),O,O⟩
         · skip
           refine g' 7 O (tP O (p_arr2 O O) (tE O (Qu.ef (d:=.sh 2 ([(RngD.mk c1 c1)].map RngD.d)) (ze [.tmp 51] O O (.cons CellD.agg .nil) O Tryz.runUnderlying304 Tryz.sizeOf328 Tryz.zeroValue328 O O O O)) ?_))
           rintro _ _ ⟨rfl,rfl⟩
           refine tP O (zf [2] [.tmp 52] (zv:=(.agg #[(.bool false),(.bool false),(.slice none 0 0)])) O O (.cons CellD.sh .nil) (Tryz.runUnderlying306) Tryz.zeroValue306 zfb ⟨O,O,O,trivial⟩ O) (tP O (zf [0] [.tmp 53] (zv:=(.agg #[(.bool false),(.bool false),(.slice none 0 0)])) O O (.cons CellD.agg .nil) (Tryz.runUnderlying315) Tryz.zeroValue315 ze9 ⟨O,O,O,trivial⟩ O) (g' 5 O ?_))
           exact tR O (HSub.fst 1 O) ⟨.one ⟨false,false,[⟨c1,c1⟩]⟩,⟨s1.l,s1.b⟩,atom_ef e1 hc2 hc6 hc8 hc9 (by simpa using hc11),O,O⟩
theorem pparts_s (g:Nat) (s:PR) (f:Nat) (ih:AltOk f) (hl:s.l.length≤1000000) (hT:ROk s.l) (hf0:s.l.length<f+1):
 CD Tryz.prog 265 [.bx g 298 (.agg [.sh 1 (s.l.map dR),dB s.b])] [dP g 0] (fun r H'=>∃ x s',(x,s')=s.parts (altF f)∧r=Pt.d x∧H'=[PB g s']):=by
 refine tZ Tryz.func265 O O (fun C=>?_)
 refine g' 7 O ?_
 refine tA O (fun g1=>?_)
 refine g' 4 O (T.subH (HSub.nil 1 20) (T.front 1 O (T.subH (HSub.turn (h':=.bx g1 317 (.agg [.ov (.slice none 0 0)])) O (Hp.cv_bx (Cv.agg (.cons (Cv.ov O) .nil)))) (T.front 1 O (T.front 1 O (T.front 2 O (tl4 (fun (a_:Nat) (b_:PR) (c_:Value) (d_:List Pt)=>[(0,dP g 0),(2,.v .nilIface),(3,dP g1 0)]) (fun a_ b_ c_ d_=>[.bx g 298 (.agg [.sh 1 (b_.l.map dR),dB b_.b]),.bx g1 317 (.agg [.ov c_]),.sl c_ 1 20 (d_.map Pt.d)]) (fun a_ b_ c_ d_=>(b_.l.length<a_)∧(zam (altF f) a_ d_ b_=zam (altF f) (s.l.length+1) [] s)∧(ROk b_.l)∧(d_.length+b_.l.length≤1000000∧b_.l.length≤s.l.length)) (fun a_ b_ c_ d_=>a_) (s.l.length+1) s (.slice none 0 0) [] O (sa O) HSub.rfl' ⟨(by omega),O,hT,(by show 0+s.l.length≤_∧_;omega)⟩ ?_)))))))
 rintro k z ov o ⟨hlf,hf,hz,hol⟩
 obtain ⟨k,rfl⟩:∃ n,k=n+1:=⟨k-1,by omega⟩
 refine gQ 10 [0] O O ?_
 refine tC O (fun hc2=>?_) (fun hc2=>?_)
 · simp only[bX,bJ] at hc2
   have hzb:z.b=false:=by simpa using hc2
   refine g' 6 O (tX [0] O O acs (pnext_c g z (by omega) hz) ?_)
   rintro _ _ ⟨rfl,rfl⟩
   refine g' 13 O ?_
   refine tOr 2 2 (c:=decide (z.any.1=(124:Int))) O O O O O O (fun hb4 nx5=>?_) ?_
   · skip
     have hf6:=of_decide_eq_true (notF hb4)
     refine g' 2 O ?_
     exact nx5 _ O O (kx 2 O O)
   refine g' 1 O ?_
   refine tOr 6 2 (c:=decide (z.any.1=(41:Int))) O O O O O O (fun hb7 nx8=>?_) ?_
   · skip
     obtain ⟨hf9,hf10⟩:=orF hb7
     have hf11:=of_decide_eq_true (notF hf9)
     have hf12:=of_decide_eq_false hf10
     refine g' 2 O ?_
     exact nx8 _ O O (kx 2 O O)
   refine g' 2 O ?_
   refine tC O (fun hc13=>?_) (fun hc13=>?_)
   · simp only[bX,bJ] at hc13
     have hff:=hf.symm.trans (parts_stop (by have h:=hc13;omega))
     refine gQ 14 [1] O O (T.front 2 O ?_)
     refine T.mv (Mv.freeze (K':=[(0,dP g 0),(2,.ifc 317 (.agg [.sh 1 (o.map Pt.d)])),(3,dP g1 0),(4,.v (.int .i32 z.any.1)),(5,dB (decide (0<z.l.length))),(6,dP g 0),(7,dP g 0),(8,dP g 1),(9,dB z.b),(10,dB (!z.b)),(11,.tup [.v (.int .i32 z.any.1),dB (decide (0<z.l.length))]),(12,dP g 0),(13,.tup [.v (.int .i32 z.any.1),dB (decide (0<z.l.length))]),(14,.v (.int .i32 z.any.1)),(15,dB (decide (0<z.l.length))),(16,dB (decide (0<z.l.length))),(17,dB (!decide (0<z.l.length))),(18,dB (!decide (0<z.l.length))),(21,dB (!decide (0<z.l.length)||decide (z.any.1=(124:Int)))),(22,dB (!decide (0<z.l.length)||decide (z.any.1=(124:Int)))),(25,dB ((!decide (0<z.l.length)||decide (z.any.1=(124:Int)))||decide (z.any.1=(41:Int)))),(35,.agg [.sh 1 (o.map Pt.d)]),(36,.ifc 317 (.agg [.sh 1 (o.map Pt.d)]))]) [.sl ov 1 20 (o.map Pt.d)] (H1:=[.bx g 298 (.agg [.sh 1 (z.l.map dR),dB z.b]),.bx g1 317 (.agg [.ov ov])]) (H1':=[.bx g 298 (.agg [.sh 1 (z.l.map dR),dB z.b]),.bx g1 317 (.agg [.sh 1 (o.map Pt.d)])]) ⟨⟨_,O,ArgC.id⟩,⟨_,O,ArgC.ifc (ArgC.agg (.cons (ArgC.own (j:=0) O O) .nil))⟩,⟨_,O,ArgC.id⟩,⟨_,O,ArgC.id⟩,⟨_,O,ArgC.id⟩,⟨_,O,ArgC.id⟩,⟨_,O,ArgC.id⟩,⟨_,O,ArgC.id⟩,⟨_,O,ArgC.id⟩,⟨_,O,ArgC.id⟩,⟨_,O,ArgC.id⟩,⟨_,O,ArgC.id⟩,⟨_,O,ArgC.id⟩,⟨_,O,ArgC.id⟩,⟨_,O,ArgC.id⟩,⟨_,O,ArgC.id⟩,⟨_,O,ArgC.id⟩,⟨_,O,ArgC.id⟩,⟨_,O,ArgC.id⟩,⟨_,O,ArgC.id⟩,⟨_,O,ArgC.id⟩,⟨_,O,ArgC.agg (.cons (ArgC.own (j:=0) O O) .nil)⟩,⟨_,O,ArgC.ifc (ArgC.agg (.cons (ArgC.own (j:=0) O O) .nil))⟩,trivial⟩ (.same (.bx (ArgC.agg (.cons (ArgC.own (j:=0) O O) .nil)) .nil))) ?_
     exact tRs O Tryz.results265 (.cons (zd (zc O) (Cv.eq (row_d _))) .nil) O (HSub.fst 1 O) ⟨.row o,⟨z.l,z.b⟩,parts_of hff,O,O⟩
   · simp only[bX,bJ] at hc13
     have hns:¬(z.l.length=0∨z.any.1=124∨z.any.1=41):=by have h:=hc13;omega
     refine g' 2 O ?_
     obtain ⟨a1,za,ea⟩:∃ a s1,(a,s1)=z.atom (altF f):=⟨_,_,rfl⟩
     obtain ⟨kl1,kd1⟩:=atom_facts ea (by omega) (zeG f) (zdF f)
     have hTa:=hz.suf kl1
     obtain ⟨y1,zb,eb⟩:∃ a s1,(a,s1)=za.times a1:=⟨_,_,rfl⟩
     have kl2:=times_facts eb
     have hTb:=hTa.suf kl2
     have kd2:=kl2.length_le
     have hzT:=hTb
     refine T.keep [0,2,3,4,5,6,7,8,9,10,11,12,13,14,15,16,17,18,21,22,25] O ?_
     refine tDr 7 [(26,dP g1 0,none),(27,.ov ov,none),(28,dP g 0,none),(29,dP g 0,none),(30,Pt.d a1,some [.bx g 298 (.agg [.sh 1 (za.l.map dR),dB za.b]),.bx g1 317 (.agg [.ov ov]),.sl ov 1 20 (o.map Pt.d)]),(31,Pt.d y1,some [.bx g 298 (.agg [.sh 1 (zb.l.map dR),dB zb.b]),.bx g1 317 (.agg [.ov ov]),.sl ov 1 20 (o.map Pt.d)]),(32,.sh 1 ([y1].map Pt.d),none)] [.bx g1 317 (.agg [.ov ov]),.sl ov 1 20 (o.map Pt.d)] (Hn:=[.bx g 298 (.agg [.sh 1 (zb.l.map dR),dB zb.b]),.bx g1 317 (.agg [.ov ov]),.sl ov 1 20 (o.map Pt.d)]) mixed O O O O (HSub.lst 1 O) O ⟨sa_p O O O (zm O fa_317_0 O),sa_p O O O (zk O (i:=0) O Tryz.isAgg310 O),sa_p O O O (zi O),sa_p O O O (zi O),sa_e O O O O (((zem [.bx g 298 (.agg [.sh 1 (z.l.map dR),dB z.b])] [.bx g1 317 (.agg [.ov ov]),.sl ov 1 20 (o.map Pt.d)] [] O O (ga .nil) zbc Tryz.call271 (CD.nmx ea (patom_s g z f ih (by omega) hz (by omega))) (.inl rfl))).mono (by rintro _ _ ⟨_,⟨rfl,rfl⟩,rfl⟩;exact⟨rfl,rfl⟩)) (HSub.lst 1 rfl),sa_e rfl rfl rfl rfl (((zem [.bx g 298 (.agg [.sh 1 (za.l.map dR),dB za.b])] [.bx g1 317 (.agg [.ov ov]),.sl ov 1 20 (o.map Pt.d)] [] rfl rfl (ga (ga .nil)) zbc Tryz.call270 (CD.nmx eb (ptimes_c g za a1 (by omega) hTa)) (.inl rfl))).mono (by rintro _ _ ⟨_,⟨rfl,rfl⟩,rfl⟩;exact⟨rfl,rfl⟩)) (HSub.lst 1 rfl),sa_q rfl rfl rfl (ze [.tmp 31] rfl rfl (.cons (zen _) .nil) rfl Tryz.runUnderlying310 Tryz.sizeOf20 Tryz.zeroValue20 rfl rfl rfl rfl),trivial⟩ ?_
     refine tK O (tE O (zz (f:=Pt.d) (l:=o) (l':=[y1]) (i:=2) O O O (SrcD.sh) und_310 infz_20 O O (by unfold maxLen;(try simp only[la,lc,ln,lm,lt',ld,ls,lr]);omega) (by (try simp only[la,lc,ln,lm,lt',ld,ls,lr]);omega)) ?_)
     rintro _ _ ⟨v14,rfl,rfl⟩
     refine gQ 4 [1] O O ?_
     exact tp4 k zb v14 (o++[y1]) (sa O) HSub.rfl' ⟨by show zb.l.length<_;omega,(parts_go hzb hns ea eb).symm.trans hf,hzT,by simp only[la,List.length_singleton];omega⟩ (by omega)
 · simp only[bX,bJ] at hc2
   have hff:=hf.symm.trans (parts_bad (by simpa using hc2))
   refine gQ 13 [1] O O (T.front 2 O (T.mv (Mv.freeze (K':=[(0,dP g 0),(2,.ifc 317 (.agg [.sh 1 (o.map Pt.d)])),(3,dP g1 0),(6,dP g 0),(7,dP g 0),(8,dP g 1),(9,dB z.b),(10,dB (!z.b)),(35,.agg [.sh 1 (o.map Pt.d)]),(36,.ifc 317 (.agg [.sh 1 (o.map Pt.d)]))]) [.sl ov 1 20 (o.map Pt.d)] (H1:=[.bx g 298 (.agg [.sh 1 (z.l.map dR),dB z.b]),.bx g1 317 (.agg [.ov ov])]) (H1':=[.bx g 298 (.agg [.sh 1 (z.l.map dR),dB z.b]),.bx g1 317 (.agg [.sh 1 (o.map Pt.d)])]) ⟨⟨_,O,ArgC.id⟩,⟨_,O,ArgC.ifc (ArgC.agg (.cons (ArgC.own (j:=0) O O) .nil))⟩,⟨_,O,ArgC.id⟩,⟨_,O,ArgC.id⟩,⟨_,O,ArgC.id⟩,⟨_,O,ArgC.id⟩,⟨_,O,ArgC.id⟩,⟨_,O,ArgC.id⟩,⟨_,O,ArgC.agg (.cons (ArgC.own (j:=0) O O) .nil)⟩,⟨_,O,ArgC.ifc (ArgC.agg (.cons (ArgC.own (j:=0) O O) .nil))⟩,trivial⟩ (.same (.bx (ArgC.agg (.cons (ArgC.own (j:=0) O O) .nil)) .nil))) ?_))
   exact tRs O Tryz.results265 (.cons (zd (zc O) (Cv.eq (row_d _))) .nil) O (HSub.fst 1 O) ⟨.row o,⟨z.l,z.b⟩,parts_of hff,O,O⟩
theorem palt_s (g:Nat) (s:PR) (f:Nat) (ih:AltOk f) (hl:s.l.length≤1000000) (hT:ROk s.l) (hf0:s.l.length<f+1):
 CD Tryz.prog 261 [.bx g 298 (.agg [.sh 1 (s.l.map dR),dB s.b])] [dP g 0] (fun r H'=>∃ x s',(x,s')=altF (f+1) s∧r=Pt.d x∧H'=[PB g s']):=by
 refine tZ Tryz.func261 O O (fun C=>?_)
 refine g' 8 O (tX [0] O O acs (pparts_s g s f ih (by omega) hT (by omega)) ?_)
 rintro _ _ ⟨x1,s1,e1,rfl,rfl⟩
 have kl1:=parts_facts e1 (zdF f)
 have hT1:=hT.suf kl1
 have kd1:=kl1.length_le
 refine tE O (zE [.tmp 5] O O (.cons (zen _) .nil) O Tryz.runUnderlying310 Tryz.sizeOf20 Tryz.zeroValue20 O O O O) ?_
 rintro _ _ ⟨g2,rfl,rfl⟩
 refine tP O (zf [0] [.tmp 6] (zv:=(.agg #[(.slice none 0 0)])) O O (.cons CellD.o .nil) (Tryz.runUnderlying312) Tryz.zeroValue312 bd_312 ⟨O,trivial⟩ O) ?_
 refine tA O (fun g3=>?_)
 refine gQ 5 [0] O O (T.front 1 O (T.front 1 O (T.front 2 O (tl4 (fun (a_:Nat) (b_:PR) (c_:Value) (d_:List Pt)=>[(0,dP g 0),(2,.v .nilIface),(3,dP g3 0)]) (fun a_ b_ c_ d_=>[.bx g 298 (.agg [.sh 1 (b_.l.map dR),dB b_.b]),.bx g3 312 (.agg [.ov c_]),.sl c_ 1 20 (d_.map Pt.d)]) (fun a_ b_ c_ d_=>(b_.l.length<a_)∧(zbL (altF f) a_ d_ b_=zbL (altF f) (s1.l.length+1) [x1] s1)∧(ROk b_.l)∧(d_.length+b_.l.length≤1000001∧b_.l.length≤s.l.length)) (fun a_ b_ c_ d_=>a_) (s1.l.length+1) s1 (vS g2 1 1) [x1] O (sa O) HSub.rfl' ⟨(by omega),O,hT1,(by show 1+s1.l.length≤_∧_;omega)⟩ ?_))))
 rintro k z ov o ⟨hlf,hf,hz,hol⟩
 obtain ⟨k,rfl⟩:∃ n,k=n+1:=⟨k-1,by omega⟩
 refine g' 4 O (tX [0] O O acs (zdJ g z (124:Int) (by omega) hz) ?_)
 rintro _ _ ⟨q4,s4,e4,rfl,rfl⟩
 obtain ⟨kl4,kb4,kc4,ke4⟩:=zaQ e4
 have hT4:=hz.suf kl4
 have kd4:=kl4.length_le
 refine g' 2 O ?_
 refine tC O (fun hc5=>?_) (fun hc5=>?_)
 · skip
   have kq:=kc4 hc5
   refine g' 3 O ?_
   obtain ⟨y1,zb,ey⟩:∃ a s1,(a,s1)=s4.parts (altF f):=⟨_,_,rfl⟩
   have kl2:=parts_facts ey (zdF f)
   have hzT:=hT4.suf kl2
   have kd2:=kl2.length_le
   refine T.keep [0,2,3,8,9] O (tDr 5 [(10,dP g3 0,none),(11,.ov ov,none),(12,dP g 0,none),(13,Pt.d y1,some [.bx g 298 (.agg [.sh 1 (zb.l.map dR),dB zb.b]),.bx g3 312 (.agg [.ov ov]),.sl ov 1 20 (o.map Pt.d)]),(14,.sh 1 ([y1].map Pt.d),none)] [.bx g3 312 (.agg [.ov ov]),.sl ov 1 20 (o.map Pt.d)] (Hn:=[.bx g 298 (.agg [.sh 1 (zb.l.map dR),dB zb.b]),.bx g3 312 (.agg [.ov ov]),.sl ov 1 20 (o.map Pt.d)]) mixed O O O O (HSub.lst 1 O) O ⟨sa_p O O O (zm O fa_312_0 O),sa_p O O O (zk O (i:=0) O Tryz.isAgg310 O),sa_p O O O (zi O),sa_e O O O O (((zem [.bx g 298 (.agg [.sh 1 (s4.l.map dR),dB s4.b])] [.bx g3 312 (.agg [.ov ov]),.sl ov 1 20 (o.map Pt.d)] [] O O (ga .nil) zbc Tryz.call265 (CD.nmx ey (pparts_s g s4 f ih (by omega) hT4 (by omega))) (.inl rfl))).mono (by rintro _ _ ⟨_,⟨rfl,rfl⟩,rfl⟩;exact⟨rfl,rfl⟩)) (HSub.lst 1 rfl),sa_q rfl rfl rfl (ze [.tmp 13] rfl rfl (.cons (zen _) .nil) rfl Tryz.runUnderlying310 Tryz.sizeOf20 Tryz.zeroValue20 rfl rfl rfl rfl),trivial⟩ (tK rfl ?_))
   refine tE O (zz (f:=Pt.d) (l:=o) (l':=[y1]) (i:=2) O O O (SrcD.sh) und_310 infz_20 O O (by unfold maxLen;(try simp only[la,lc,ln,lm,lt',ld,ls,lr]);omega) (by (try simp only[la,lc,ln,lm,lt',ld,ls,lr]);omega)) ?_
   rintro _ _ ⟨v6,rfl,rfl⟩
   refine gQ 4 [1] O O ?_
   exact tp4 k zb v6 (o++[y1]) (sa O) HSub.rfl' ⟨by show zb.l.length<_;omega,(alts_go e4 hc5 ey).symm.trans hf,hzT,by simp only[la,List.length_singleton];omega⟩ (by omega)
 · skip
   have hff:=hf.symm.trans (alts_end e4 (by simpa using hc5))
   refine gQ 13 [1] O O (T.front 2 O (T.mv (Mv.freeze (K':=[(0,dP g 0),(2,.ifc 312 (.agg [.sh 1 (o.map Pt.d)])),(3,dP g3 0),(8,dP g 0),(9,dB q4),(17,.agg [.sh 1 (o.map Pt.d)]),(18,.ifc 312 (.agg [.sh 1 (o.map Pt.d)]))]) [.sl ov 1 20 (o.map Pt.d)] (H1:=[.bx g 298 (.agg [.sh 1 (s4.l.map dR),dB s4.b]),.bx g3 312 (.agg [.ov ov])]) (H1':=[.bx g 298 (.agg [.sh 1 (s4.l.map dR),dB s4.b]),.bx g3 312 (.agg [.sh 1 (o.map Pt.d)])]) ⟨⟨_,O,ArgC.id⟩,⟨_,O,ArgC.ifc (ArgC.agg (.cons (ArgC.own (j:=0) O O) .nil))⟩,⟨_,O,ArgC.id⟩,⟨_,O,ArgC.id⟩,⟨_,O,ArgC.id⟩,⟨_,O,ArgC.agg (.cons (ArgC.own (j:=0) O O) .nil)⟩,⟨_,O,ArgC.ifc (ArgC.agg (.cons (ArgC.own (j:=0) O O) .nil))⟩,trivial⟩ (.same (.bx (ArgC.agg (.cons (ArgC.own (j:=0) O O) .nil)) .nil))) ?_))
   exact tRs O Tryz.results261 (.cons (zd (zc O) (Cv.eq (alt_d _))) .nil) O (HSub.fst 1 O) ⟨.alt o,⟨s4.l,s4.b⟩,alts_of e1 hff,O,O⟩
theorem altOk:∀ f:Nat,AltOk f
 | 0=>fun g s h=>absurd h (by omega)
 | f+1=>fun g s h hl hT=>palt_s g s f (altOk f) hl hT h
end Lp
set_option linter.unusedSimpArgs false
set_option linter.unusedVariables false
set_option maxHeartbeats 4000000
set_option maxRecDepth 100000
namespace Lp
open Go Go.RowKit Go.Proofs
theorem zfa:BdP Tryz.prog #[⟨"s",306,0,false, "", "leporello/pattern",0⟩,⟨"rune",4,3,false, "", "leporello/pattern",32⟩,⟨"a",3,4,false, "", "leporello/pattern",40⟩,⟨"b",3,5,false, "", "leporello/pattern",48⟩] [(0,3),(3,1),(4,1),(5,1)]:=fun _=>by kernel_rfl
theorem fa_302_1:FaP Tryz.prog 302 1 1:=fun _ _ _=>by kernel_rfl
theorem infz_308:IzP Tryz.prog 308 (.agg #[(.bool false),(.bool false),(.slice none 0 0),(.bool false),(.int .i64 0),(.int .i64 0)]) 6 56:=zcs (by kernel_rfl)
theorem und_300:Tryz.prog.underlying 300=some (.slice 308):=by kernel_rfl
structure StepD where
 all:Bool
 nt:Bool
 items:List RngD
 rn:Bool
 a:Int
 b:Int
def StepD.d (x:StepD):D:=.agg [dB x.all,dB x.nt,.sh 2 (x.items.map RngD.d),dB x.rn,dI x.a,dI x.b]
def MB (g:Nat) (tx:D) (v:Value) (fst:Int) (xs:List StepD):List Hp:=[.bx g 302 (.agg [tx,.ov v,dI fst]),.sl v 6 308 (xs.map StepD.d)]
def zeI (n:Nat):Prop:=∀ (g:Nat) (tx:D) (v:Value) (fst:Int) (xs:List StepD) (x:Pt) (th:Int),x.ok→x.sz≤n→xs.length+2*x.sz≤1000000→
 CD Tryz.prog 263 (MB g tx v fst xs) [dP g 0,Pt.d x,dI th] (fun r H'=>∃ v' xs' i,xs.length≤xs'.length∧xs'.length+1≤xs.length+2*x.sz∧r=dI i∧H'=MB g tx v' fst xs')
theorem okL_drop:∀ (l:List Pt) (k:Nat),Pt.okL l→Pt.okL (l.drop k):=fun l k h=>((okL_app (l.take k) (l.drop k)).1 (by rw[List.take_append_drop];exact h)).2
theorem sz_tail {l:List Pt} {x:Pt} (h:l[0]?=some x):Pt.szL ((l.take l.length).drop 1)+x.sz=Pt.szL l:=by
 rw[List.take_length]
 have:=szL_drop l 0 h
 rw[List.drop_zero,Nat.zero_add] at this;omega
theorem ok_tail {l:List Pt} (h:Pt.okL l):Pt.okL ((l.take l.length).drop 1):=by rw[List.take_length];exact okL_drop l 1 h
theorem ze3 (g:Nat) (tx:D) (v:Value) (fst:Int) (xs:List StepD) (a1 a2:Bool) (it:List RngD) (a3:Bool) (a4 a5:Int) (hl:xs.length≤1000000):
 CD Tryz.prog 262 [.bx g 302 (.agg [tx,.ov v,dI fst]),.sl v 6 308 (xs.map StepD.d)] [dP g 0,.agg [dB a1,dB a2,.sh 2 (it.map RngD.d),dB a3,dI a4,dI a5]] (fun r H'=>∃ v',r=dN xs.length∧H'=[.bx g 302 (.agg [tx,.ov v',dI fst]),.sl v' 6 308 ((xs++[StepD.mk a1 a2 it a3 a4 a5]).map StepD.d)]):=by
 refine tZ Tryz.func262 O O (fun C=>?_)
 refine T.bd 1 O (fun bd1=>?_)
 have hap:(xs++[StepD.mk a1 a2 it a3 a4 a5]).length=xs.length+1:=by simp only[la,List.length_singleton,ln]
 refine g' 2 O ?_
 refine tA O (fun g1=>?_)
 refine g' 4 O (T.front 2 O (T.keep [0,1,3,4] O ?_))
 refine tDx 8 [(5,.q (dP g 0)),(6,.q (dP g 0)),(7,.q (dP g 0)),(8,.q (dP g 1)),(9,.q (.ov v)),(10,.q (.agg [dB a1,dB a2,.sh 2 (it.map RngD.d),dB a3,dI a4,dI a5])),(11,.q (.sh 6 [.agg [dB a1,dB a2,.sh 2 (it.map RngD.d),dB a3,dI a4,dI a5]])),(12,.f (fun v=>.ov v))] [.bx g1 308 (.agg [dB a1,dB a2,.sh 2 (it.map RngD.d),dB a3,dI a4,dI a5]),.bx g 302 (.agg [tx,.ov v,dI fst])] (HFr 7 (fun γ=>.sl (γ 7) 6 308 ((xs++[(StepD.mk a1 a2 it a3 a4 a5)]).map StepD.d)) (.sl v 6 308 (xs.map StepD.d)) (HFb [.bx g1 308 (.agg [dB a1,dB a2,.sh 2 (it.map RngD.d),dB a3,dI a4,dI a5]),.bx g 302 (.agg [tx,.ov v,dI fst])])) (fun γ=>[.sl (γ 7) 6 308 ((xs++[(StepD.mk a1 a2 it a3 a4 a5)]).map StepD.d),.bx g1 308 (.agg [dB a1,dB a2,.sh 2 (it.map RngD.d),dB a3,dI a4,dI a5]),.bx g 302 (.agg [tx,.ov v,dI fst])]) mixed O O (by kernel_rfl) (hrs (fun _ _=>HSub.rfl')) (hr0 rfl (fun _ _ _=>rfl)) (hrn rfl (fun _ _ _=>rfl)) (fun γ=>⟨sx_p rfl rfl rfl (zi rfl) (hrq rfl (fun _=>rfl)),sx_p rfl rfl rfl (zi rfl) (hrq rfl (fun _=>rfl)),sx_p rfl rfl rfl (zB rfl) (hrq rfl (fun _=>rfl)),sx_p rfl rfl rfl (zm rfl fa_302_1 rfl) (hrq rfl (fun _=>rfl)),sx_p rfl rfl rfl (zk rfl (i:=1) rfl Tryz.isAgg300 rfl) (hrq rfl (fun _=>rfl)),sx_p rfl rfl rfl (zdv (d:=.agg [dB a1,dB a2,.sh 2 (it.map RngD.d),dB a3,dI a4,dI a5]) rfl (i:=0) rfl Tryz.isAgg308 Tryz.sizeOf308 rfl rfl) (hrq rfl (fun _=>rfl)),sx_q rfl rfl rfl (ze [.tmp 10] rfl rfl (.cons CellD.agg .nil) rfl Tryz.runUnderlying300 Tryz.sizeOf308 Tryz.zeroValue308 rfl rfl rfl rfl) (hrq rfl (fun _=>rfl)),sx_r0 rfl rfl rfl (fun _ _=>rfl) (fun _=>(zz (f:=StepD.d) (l:=xs) (l':=[(StepD.mk a1 a2 it a3 a4 a5)]) (i:=0) rfl rfl rfl (SrcD.sh) und_300 infz_308 rfl rfl (by unfold maxLen;(try simp only[la,lc,ln,lm,lt',ld,ls,lr]);omega) (by (try simp only[la,lc,ln,lm,lt',ld,ls,lr]);omega)).mono (by rintro _ _ ⟨v,rfl,rfl⟩;exact⟨v,rfl,rfl⟩)),trivial⟩) (fun γ=>?_)
 refine tK O (gQ 11 [2,2] O O (tP O (zV (n:=(xs++[(StepD.mk a1 a2 it a3 a4 a5)]).length) (j:=0) O O Tryz.runUnderlying300 (List.length_map _)) (tP O (zcI (c:=((((xs++[(StepD.mk a1 a2 it a3 a4 a5)]).length)-1:Nat):Int)) O O (zn (by omega) (by omega))) (g' 4 O (T.front 2 O ?_)))))
 exact tRs O Tryz.results262 (.cons (zd (zc O) (Cv.eq (congrArg (fun n:Int=>D.v (.int .i64 n)) (by simp only[la,List.length_singleton,ln];omega)))) .nil) O (HSub.fst 2 O) ⟨(γ 7),O,O⟩
theorem pbuild_one (g:Nat) (tx:D) (v:Value) (fst:Int) (xs:List StepD) (st:SetD) (th:Int) (hl:xs.length+2*1≤1000000):
 CD Tryz.prog 263 [.bx g 302 (.agg [tx,.ov v,dI fst]),.sl v 6 308 (xs.map StepD.d)] [dP g 0,.ifc 315 (.agg [dB st.all,dB st.nt,.sh 2 (st.items.map RngD.d)]),dI th] (fun r H'=>∃ v' xs' i,xs.length≤xs'.length∧xs'.length+1≤xs.length+2*1∧r=dI i∧H'=MB g tx v' fst xs'):=by
 refine tZ Tryz.func263 O O (fun C=>?_)
 refine g' 9 O (tP O (zbD O (fun _ _=>by kernel_rfl)) (g' 3 O ?_))
 refine tA O (fun g1=>?_)
 refine gQ 16 [0,0] O O (tP O (zf [0,1,2] [.tmp 26,.const (.bool true),.tmp 27] (zv:=(.agg #[(.bool false),(.bool false),(.slice none 0 0),(.bool false),(.int .i64 0),(.int .i64 0)])) O O (.cons CellD.agg (.cons (CellD.v O) (.cons (CellD.v O) .nil))) (Tryz.runUnderlying308) Tryz.zeroValue308 zfa ⟨O,O,O,O,O,O,trivial⟩ O) (tX [1,1] O O acs (ze3 g (tx) v fst xs st.all st.nt st.items true th 0 (by (try simp only[la,List.length_singleton,ln]);omega)) ?_))
 rintro _ _ ⟨mv2,rfl,rfl⟩
 have halmv2:(xs++[StepD.mk st.all st.nt st.items true th 0]).length=xs.length+1:=by simp only[la,List.length_singleton,ln]
 refine g' 5 O ?_
 exact tR O (HSub.fst 2 O) ⟨mv2,(xs++[StepD.mk st.all st.nt st.items true th 0]),((xs.length:Nat):Int),(by (try simp only[la,List.length_singleton,ln]);omega),(by (try simp only[la,List.length_singleton,Pt.sz]);omega),O,O⟩
theorem pbuild_row (g:Nat) (tx:D) (v:Value) (fst:Int) (xs:List StepD) (l:List Pt) (th:Int) (n:Nat) (ih:zeI n) (hl:xs.length+2*(Pt.szL l+1)≤1000000) (hok:Pt.okL l) (hn:Pt.szL l≤n):
 CD Tryz.prog 263 [.bx g 302 (.agg [tx,.ov v,dI fst]),.sl v 6 308 (xs.map StepD.d)] [dP g 0,.ifc 317 (.agg [.sh 1 (l.map Pt.d)]),dI th] (fun r H'=>∃ v' xs' i,xs.length≤xs'.length∧xs'.length+1≤xs.length+2*(Pt.szL l+1)∧r=dI i∧H'=MB g tx v' fst xs'):=by
 refine tZ Tryz.func263 O O (fun C=>?_)
 have hll:=szL_len l
 refine g' 9 O (tP O ((zaw (zv:=(.agg #[(.bool false),(.bool false),(.slice none 0 0)])) O (fun _ _=>by kernel_rfl)).cv (Cv.tup (.cons (Cv.vagg (by decide)) (gc .nil)))) (g' 3 O ?_))
 refine tA O (fun g1=>?_)
 refine gQ 16 [0] O O (tP O (zbD O (fun _ _=>by kernel_rfl)) (g' 3 O ?_))
 refine tA O (fun g2=>?_)
 refine gQ 15 [0,0] O O (tP O (z8 (n:=l.length) O Tryz.runUnderlying310 (by simp only[lm,lc,ln])) (g' 4 O (tl4 (fun (a_:Nat) (b_:Int) (c_:Value) (d_:List StepD)=>[(0,dP g 0),(1,.ifc 317 (.agg [.sh 1 (l.map Pt.d)])),(6,dI 0),(9,dP g2 0),(38,dN l.length),(39,dN a_),(2,dI b_)]) (fun a_ b_ c_ d_=>[.bx g2 317 (.agg [.sh 1 (l.map Pt.d)]),.bx g1 315 (.agg [dB false,dB false,dZ]),.bx g 302 (.agg [tx,.ov c_,dI fst]),.sl c_ 6 308 (d_.map StepD.d)]) (fun a_ b_ c_ d_=>(a_≤l.length)∧(xs.length≤d_.length)∧(d_.length+2*Pt.szL (l.take (l.length-a_))≤xs.length+2*Pt.szL l)) (fun a_ b_ c_ d_=>l.length-a_) 0 th v xs O (sa O) HSub.rfl' ⟨Nat.zero_le _,Nat.le_refl _,(by rw[Nat.sub_zero,List.take_length];exact Nat.le_refl _)⟩ ?_)))
 rintro k t w ys ⟨hkl,hya,hyb⟩
 refine g' 6 O ?_
 refine tD O (fun hc3=>?_) (fun hc3=>?_)
 · skip
   refine gQ 16 [0,0] O O (tP O (z8 (n:=l.length) O Tryz.runUnderlying310 (by simp only[lm,lc,ln])) (tP O (zcI (c:=((l.length-1:Nat):Int)) O O (zn (by omega) (by omega))) (g' 1 O (tP O (zcI (c:=(((l.length-1)-k:Nat):Int)) O O (zn (by omega) (by omega))) ?_))))
   obtain ⟨x1,hx1⟩:=zN l ((l.length-1)-k) (by omega)
   have hxo:=okL_get hok hx1
   have hxz:=szL_mem hx1
   have hxt:=szL_take l ((l.length-1)-k) hx1
   rw[show l.length-1-k+1=l.length-k by omega] at hxt
   refine tP O (zr (k:=(l.length-1)-k) O O Tryz.runUnderlying310 Tryz.sizeOf20 (by first | rfl | omega) (zI hx1)) (g' 2 O (tX [2,2] O O acs (ih g (tx) w fst ys x1 t hxo (by omega) (by (try simp only[la,List.length_singleton,ln]);omega)) ?_))
   rintro _ _ ⟨mv4,ys4,bi4,hba4,hbb4,rfl,rfl⟩
   refine g' 5 O (tP O (zy (c:=((k+1:Nat):Int)) O O (zn (by omega) (by omega))) (g' 2 O (T.front 1 O (T.front 1 O (T.front 3 O (T.front 3 O ?_))))))
   exact tp4 (k+1) bi4 mv4 ys4 (sa O) HSub.rfl' ⟨by show k+1≤l.length;omega,by show xs.length≤ys4.length;omega,by show ys4.length+2*Pt.szL (l.take (l.length-(k+1)))≤_;rw[show l.length-(k+1)=l.length-1-k by omega];omega⟩ (by omega)
 · skip
   refine g' 13 O (T.front 3 O (T.front 3 O ?_))
   exact tR O (HSub.fst 2 O) ⟨w,ys,t,(by (try simp only[la,List.length_singleton,ln]);omega),(by (try simp only[la,List.length_singleton,Pt.sz]);omega),O,O⟩
theorem pagain_s (g:Nat) (tx:D) (v:Value) (fst:Int) (xs:List StepD) (x:Pt) (rn ra:Bool) (th:Int) (n:Nat) (ih:zeI n) (hl:xs.length+2*(x.sz+1)≤1000000) (hok:x.ok) (hn:x.sz≤n):
 CD Tryz.prog 267 [.bx g 302 (.agg [tx,.ov v,dI fst]),.sl v 6 308 (xs.map StepD.d)] [dP g 0,.agg [Pt.d x,dB rn,dB ra],dI th] (fun r H'=>∃ v' xs' i,xs.length≤xs'.length∧xs'.length+1≤xs.length+2*(x.sz+1)∧r=dI i∧H'=MB g tx v' fst xs'):=by
 refine tZ Tryz.func267 O O (fun C=>?_)
 refine T.bd 1 O (fun bd1=>?_)
 refine g' 2 O ?_
 refine tA O (fun g1=>?_)
 refine gQ 11 [0] O O ?_
 refine tC O (fun hc2=>?_) (fun hc2=>?_)
 · simp only[bX,bJ] at hc2
   refine gQ 7 [0] O O (tX [1,1] O O acs (ih g (tx) v fst xs x th hok hn (by (try simp only[la,List.length_singleton,ln]);omega)) ?_)
   rintro _ _ ⟨mv3,ys3,bi3,hba3,hbb3,rfl,rfl⟩
   refine g' 1 O (tP O (zf [2,3] [.tmp 17,.tmp 18] (zv:=(.agg #[(.bool false),(.bool false),(.slice none 0 0),(.bool false),(.int .i64 0),(.int .i64 0)])) O O (.cons (CellD.v O) (.cons (CellD.v O) .nil)) (Tryz.runUnderlying308) Tryz.zeroValue308 zfa ⟨O,O,O,O,O,O,trivial⟩ O) (tX [0,0] O O (ga (.cons (ArgC.cv (Cv.agg (gc (gc (.cons Cv.nil (gc (gc (gc .nil)))))))) .nil)) (ze3 g (tx) mv3 fst ys3 false false [] false bi3 th (by (try simp only[la,List.length_singleton,ln]);omega)) ?_))
   rintro _ _ ⟨mv4,rfl,rfl⟩
   have halmv4:(ys3++[StepD.mk false false [] false bi3 th]).length=ys3.length+1:=by simp only[la,List.length_singleton,ln]
   refine g' 5 O ?_
   exact tR O (HSub.fst 2 O) ⟨mv4,(ys3++[StepD.mk false false [] false bi3 th]),((ys3.length:Nat):Int),(by (try simp only[la,List.length_singleton,ls]);omega),(by (try simp only[la,List.length_singleton,ls]);omega),O,O⟩
 · simp only[bX,bJ] at hc2
   refine g' 7 O (tP O (zf [2,3] [.tmp 22,.tmp 23] (zv:=(.agg #[(.bool false),(.bool false),(.slice none 0 0),(.bool false),(.int .i64 0),(.int .i64 0)])) O O (.cons (CellD.v O) (.cons (CellD.v O) .nil)) (Tryz.runUnderlying308) Tryz.zeroValue308 zfa ⟨O,O,O,O,O,O,trivial⟩ O) (tX [1,1] O O (ga (.cons (ArgC.cv (Cv.agg (gc (gc (.cons Cv.nil (gc (gc (gc .nil)))))))) .nil)) (ze3 g (tx) v fst xs false false [] false th th (by (try simp only[la,List.length_singleton,ln]);omega)) ?_))
   rintro _ _ ⟨mv5,rfl,rfl⟩
   have halmv5:(xs++[StepD.mk false false [] false th th]).length=xs.length+1:=by simp only[la,List.length_singleton,ln]
   refine gQ 9 [2] O O (tX [0,0] O O acs (ih g (tx) mv5 fst (xs++[StepD.mk false false [] false th th]) x ((xs.length:Nat):Int) hok hn (by (try simp only[la,List.length_singleton,ln]);omega)) ?_)
   rintro _ _ ⟨mv6,ys6,bi6,hba6,hbb6,rfl,rfl⟩
   refine g' 4 O ?_
   have htn:xs.length<ys6.length:=by omega
   refine gQ 7 [0] O O ?_
   obtain ⟨x1,hx1⟩:=zN ys6 xs.length (by omega)
   refine tP O (zbB (k:=xs.length) (j:=1) O O O Tryz.runUnderlying300 Tryz.sizeOf308 (by first | rfl | omega) (zI hx1)) (g' 1 O (tE O (ef_store_m (f:=StepD.d) (k:=xs.length) (z:=6) (o:=4) (i:=1) (a':=(StepD.mk x1.all x1.nt x1.items x1.rn bi6 x1.b)) O O hx1 O (CellD.v O) Tryz.sizeOf3 O O O) ?_))
   rintro _ _ ⟨rfl,rfl⟩
   refine gQ 9 [2] O O ?_
   refine tC O (fun hc7=>?_) (fun hc7=>?_)
   · skip
     refine g' 8 O ?_
     exact tR O (HSub.fst 2 O) ⟨mv6,(ys6.set xs.length (StepD.mk x1.all x1.nt x1.items x1.rn bi6 x1.b)),((xs.length:Nat):Int),(by (try simp only[la,List.length_singleton,ls]);omega),(by (try simp only[la,List.length_singleton,ls]);omega),O,O⟩
   · skip
     refine g' 9 O ?_
     exact tR O (HSub.fst 2 O) ⟨mv6,(ys6.set xs.length (StepD.mk x1.all x1.nt x1.items x1.rn bi6 x1.b)),bi6,(by (try simp only[la,List.length_singleton,ls]);omega),(by (try simp only[la,List.length_singleton,ls]);omega),O,O⟩
theorem pbuild_rep (g:Nat) (tx:D) (v:Value) (fst:Int) (xs:List StepD) (x:Pt) (rn ra:Bool) (th:Int) (n:Nat) (ih:zeI n) (hl:xs.length+2*(x.sz+1)≤1000000) (hok:x.ok) (hn:x.sz≤n):
 CD Tryz.prog 263 [.bx g 302 (.agg [tx,.ov v,dI fst]),.sl v 6 308 (xs.map StepD.d)] [dP g 0,.ifc 320 (.agg [Pt.d x,dB rn,dB ra]),dI th] (fun r H'=>∃ v' xs' i,xs.length≤xs'.length∧xs'.length+1≤xs.length+2*(x.sz+1)∧r=dI i∧H'=MB g tx v' fst xs'):=by
 refine tZ Tryz.func263 O O (fun C=>?_)
 refine g' 9 O (tP O ((zaw (zv:=(.agg #[(.bool false),(.bool false),(.slice none 0 0)])) O (fun _ _=>by kernel_rfl)).cv (Cv.tup (.cons (Cv.vagg (by decide)) (gc .nil)))) (g' 3 O ?_))
 refine tA O (fun g1=>?_)
 refine gQ 16 [0] O O (tP O ((zaw (zv:=(.agg #[(.slice none 0 0)])) O (fun _ _=>by kernel_rfl)).cv (Cv.tup (.cons (Cv.vagg (by decide)) (gc .nil)))) (g' 3 O ?_))
 refine tA O (fun g2=>?_)
 refine gQ 16 [0] O O (tP O (zbD O (fun _ _=>by kernel_rfl)) (g' 3 O ?_))
 refine tA O (fun g3=>?_)
 refine gQ 15 [0,0] O O (tX [3,3] O O acs (pagain_s g (tx) v fst xs x rn ra th n ih (by omega) hok hn) ?_)
 rintro _ _ ⟨mv4,ys4,bi4,hba4,hbb4,rfl,rfl⟩
 refine g' 5 O ?_
 exact tR O (HSub.fst 2 O) ⟨mv4,ys4,bi4,(by (try simp only[la,List.length_singleton,ln]);omega),(by (try simp only[la,List.length_singleton,Pt.sz]);omega),O,O⟩
theorem pbuild_alt (g:Nat) (tx:D) (v:Value) (fst:Int) (xs:List StepD) (l:List Pt) (th:Int) (n:Nat) (ih:zeI n) (hl:xs.length+2*(Pt.szL l+1)≤1000000) (hok:Pt.okL l) (hne:0<l.length) (hn:Pt.szL l≤n):
 CD Tryz.prog 263 [.bx g 302 (.agg [tx,.ov v,dI fst]),.sl v 6 308 (xs.map StepD.d)] [dP g 0,.ifc 312 (.agg [.sh 1 (l.map Pt.d)]),dI th] (fun r H'=>∃ v' xs' i,xs.length≤xs'.length∧xs'.length+1≤xs.length+2*(Pt.szL l+1)∧r=dI i∧H'=MB g tx v' fst xs'):=by
 refine tZ Tryz.func263 O O (fun C=>?_)
 have hll:=szL_len l
 refine g' 9 O (tP O ((zaw (zv:=(.agg #[(.bool false),(.bool false),(.slice none 0 0)])) O (fun _ _=>by kernel_rfl)).cv (Cv.tup (.cons (Cv.vagg (by decide)) (gc .nil)))) (g' 3 O ?_))
 refine tA O (fun g1=>?_)
 refine gQ 16 [0] O O (tP O ((zaw (zv:=(.agg #[(.slice none 0 0)])) O (fun _ _=>by kernel_rfl)).cv (Cv.tup (.cons (Cv.vagg (by decide)) (gc .nil)))) (g' 3 O ?_))
 refine tA O (fun g2=>?_)
 refine gQ 16 [0] O O (tP O ((zaw (zv:=(.agg #[.nilIface,(.bool false),(.bool false)])) O (fun _ _=>by kernel_rfl)).cv (Cv.tup (.cons (Cv.vagg (by decide)) (gc .nil)))) (g' 3 O ?_))
 refine tA O (fun g3=>?_)
 refine gQ 15 [0] O O (tP O (p_assert_1 O (fun _ _=>by kernel_rfl)) (g' 8 O ?_))
 obtain ⟨x1,hx1⟩:=zN l 0 (by omega)
 have hxo:=okL_get hok hx1
 have hxz:=szL_mem hx1
 have hlt:=sz_tail hx1
 have hlo:=ok_tail hok
 have hlq:=szL_len ((l.take l.length).drop 1)
 refine tP O (zr (k:=0) O O Tryz.runUnderlying310 Tryz.sizeOf20 (by first | rfl | omega) (zI hx1)) (g' 2 O (tX [3,3] O O acs (ih g (tx) v fst xs x1 th hxo (by omega) (by (try simp only[la,List.length_singleton,ln]);omega)) ?_))
 rintro _ _ ⟨mv4,ys4,bi4,hba4,hbb4,rfl,rfl⟩
 refine g' 7 O (tP O ((za8 (a:=1) (b:=l.length) O O O (by first | rfl | (show _=_;(try simp only[lm]);omega) | exact List.length_map _) (by first | rfl | (show _=_;(try simp only[lm]);omega) | exact List.length_map _) Tryz.runUnderlying310 Tryz.sizeOf20 (by omega) (by simp only[lm];omega)).cv (Cv.eq (by rw[←List.map_take,←List.map_drop]))) (tP O (z8 (n:=((l.take l.length).drop 1).length) O Tryz.runUnderlying310 (by simp only[lm,lc,ln])) (g' 4 O (T.front 1 O (T.front 1 O (T.front 4 O (T.front 4 O (T.front 4 O ?_))))))))
 refine tl4 (fun (a_:Nat) (b_:Int) (c_:Value) (d_:List StepD)=>[(0,dP g 0),(2,dI th),(6,dI 0),(77,.sh 1 (((l.take l.length).drop 1).map Pt.d)),(78,dN (((l.take l.length).drop 1).length)),(79,dN a_),(15,dI b_)]) (fun a_ b_ c_ d_=>[.bx g3 320 (.agg [.v .nilIface,dB false,dB false]),.bx g2 317 (.agg [dZ]),.bx g1 315 (.agg [dB false,dB false,dZ]),.bx g 302 (.agg [tx,.ov c_,dI fst]),.sl c_ 6 308 (d_.map StepD.d)]) (fun a_ b_ c_ d_=>(a_≤((l.take l.length).drop 1).length)∧(xs.length≤d_.length)∧(d_.length+1+2*Pt.szL (((l.take l.length).drop 1).drop a_)≤xs.length+2*Pt.szL l)) (fun a_ b_ c_ d_=>((l.take l.length).drop 1).length-a_) 0 bi4 mv4 ys4 O (sa O) HSub.rfl' ⟨Nat.zero_le _,(by omega),(by rw[List.drop_zero];omega)⟩ ?_
 rintro k t w ys ⟨hkl,hya,hyb⟩
 refine g' 6 O ?_
 refine tD O (fun hc5=>?_) (fun hc5=>?_)
 · skip
   refine g' 6 O ?_
   obtain ⟨x2,hx2⟩:=zN ((l.take l.length).drop 1) k (by omega)
   have hyo:=okL_get hlo hx2
   have hyz:=szL_mem hx2
   have hyd:=szL_drop _ k hx2
   refine tP O (zr (k:=k) O O Tryz.runUnderlying310 Tryz.sizeOf20 (by first | rfl | omega) (zI hx2)) (g' 10 O (tX [3,3] O O acs (ih g (tx) w fst ys x2 th hyo (by omega) (by (try simp only[la,List.length_singleton,ln]);omega)) ?_))
   rintro _ _ ⟨mv6,ys6,bi6,hba6,hbb6,rfl,rfl⟩
   refine tP O (zf [2,3] [.tmp 84,.tmp 88] (zv:=(.agg #[(.bool false),(.bool false),(.slice none 0 0),(.bool false),(.int .i64 0),(.int .i64 0)])) O O (.cons (CellD.v O) (.cons (CellD.v O) .nil)) (Tryz.runUnderlying308) Tryz.zeroValue308 zfa ⟨O,O,O,O,O,O,trivial⟩ O) (tX [0,0] O O (ga (.cons (ArgC.cv (Cv.agg (gc (gc (.cons Cv.nil (gc (gc (gc .nil)))))))) .nil)) (ze3 g (tx) mv6 fst ys6 false false [] false t bi6 (by (try simp only[la,List.length_singleton,ln]);omega)) ?_)
   rintro _ _ ⟨mv7,rfl,rfl⟩
   have halmv7:(ys6++[StepD.mk false false [] false t bi6]).length=ys6.length+1:=by simp only[la,List.length_singleton,ln]
   refine g' 5 O (tP O (zy (c:=((k+1:Nat):Int)) O O (zn (by omega) (by omega))) (g' 2 O (T.front 1 O (T.front 1 O (T.front 4 O (T.front 4 O (T.front 4 O ?_)))))))
   exact tp4 (k+1) ((ys6.length:Nat):Int) mv7 (ys6++[StepD.mk false false [] false t bi6]) (sa O) HSub.rfl' ⟨by show k+1≤((l.take l.length).drop 1).length;omega,by simp only[la,List.length_singleton,ln];omega,by simp only[la,List.length_singleton,ln];omega⟩ (by omega)
 · skip
   refine g' 12 O (T.front 4 O (T.front 4 O ?_))
   exact tR O (HSub.fst 2 O) ⟨w,ys,t,(by (try simp only[la,List.length_singleton,ln]);omega),(by (try simp only[la,List.length_singleton,Pt.sz]);omega),O,O⟩
theorem buildOk:∀ n:Nat,zeI n
 | 0=>fun g tx v fst xs x th hok hz=>absurd hz (by have:=sz_pos x;omega)
 | n+1=>fun g tx v fst xs x th hok hz hl=>by
  cases x with
  | one st=>exact pbuild_one g tx v fst xs st th hl
  | row l=>
   rw[←row_d]
   exact pbuild_row g tx v fst xs l th n (buildOk n) hl hok (by simp only[Pt.sz] at hz;omega)
  | alt l=>
   rw[←alt_d]
   exact pbuild_alt g tx v fst xs l th n (buildOk n) hl hok.2 (List.length_pos_iff.2 hok.1) (by simp only[Pt.sz] at hz;omega)
  | rep x a b=>exact pbuild_rep g tx v fst xs x a b th n (buildOk n) hl hok (by simp only[Pt.sz] at hz;omega)
end Lp
