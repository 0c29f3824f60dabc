import Derived.Test.YtheccaeefigajaaGreatDoorPPat3
set_option linter.unusedSimpArgs false
set_option linter.unusedVariables false
set_option maxHeartbeats 4000000
set_option maxRecDepth 100000
namespace Lp
open Go Go.RowKit Go.Proofs
namespace HdYtheccaeefigajaaGreatDoorV94
theorem zem:∀ w,((#[⟨"all",4,0,false, "", "leporello/pattern",0⟩,⟨"not",4,1,false, "", "leporello/pattern",1⟩,⟨"items",304,2,false, "", "leporello/pattern",8⟩]:Array Field).mapM fun f=>do pure (f.offset,←Go.sizeOf f.type):Sem (Array (Nat×Nat))).run Tryz.prog w=.ok ([(0,1),(1,1),(2,1)]:List (Nat×Nat)).toArray w:=fun _=>by kernel_rfl
theorem bd_312:∀ w,((#[⟨"l",310,0,false, "", "leporello/pattern",0⟩]:Array Field).mapM fun f=>do pure (f.offset,←Go.sizeOf f.type):Sem (Array (Nat×Nat))).run Tryz.prog w=.ok ([(0,1)]:List (Nat×Nat)).toArray w:=fun _=>by kernel_rfl
theorem zeI:∀ w,((#[⟨"s",306,0,false, "", "leporello/pattern",0⟩]:Array Field).mapM fun f=>do pure (f.offset,←Go.sizeOf f.type):Sem (Array (Nat×Nat))).run Tryz.prog w=.ok ([(0,3)]:List (Nat×Nat)).toArray w:=fun _=>by kernel_rfl
theorem zaG (b o:Nat):∀ w,(Instr.fieldAt 298 (.pointer (some ⟨b,o,none⟩)) 1).run Tryz.prog w=.ok (.pointer (some ⟨b,o+1,none⟩)) w:=fun _=>by kernel_rfl
theorem fa_312_0 (b o:Nat):∀ w,(Instr.fieldAt 312 (.pointer (some ⟨b,o,none⟩)) 0).run Tryz.prog w=.ok (.pointer (some ⟨b,o+0,none⟩)) w:=fun _=>by kernel_rfl
theorem zdm (b o:Nat):∀ w,(Instr.fieldAt 317 (.pointer (some ⟨b,o,none⟩)) 0).run Tryz.prog w=.ok (.pointer (some ⟨b,o+0,none⟩)) w:=fun _=>by kernel_rfl
theorem infz_20:∃ i,Tryz.prog.info? 20=some i∧i.zero=some .nilIface∧i.size=1∧i.bytes=16:=zbq (by kernel_rfl)
theorem und_310:Tryz.prog.underlying 310=some (.slice 20):=by kernel_rfl
end HdYtheccaeefigajaaGreatDoorV94
open HdYtheccaeefigajaaGreatDoorV94
theorem CD.nmx {P:Program} {f:FuncId} {H:List Hp} {ds:List D} {α β:Type} {p:α×β} {y:α} {s:β} (e:(y,s)=p) {F:α→D} {G:β→List Hp} (h:CD P f H ds (fun r H'=>∃ y' s',(y',s')=p∧r=F y'∧H'=G s')):CD P f H ds (fun r H'=>r=F y∧H'=G s):=by
 subst e
 refine⟨fun w F' vs h1 h2 h3=>(h.out w F' vs h1 h2 h3).mono ?_⟩
 rintro e' w' ⟨u,he,F2,d,H',⟨y',s',e1,rfl,rfl⟩,hr,hg⟩
 injection e1 with e1 e2;subst e1;subst e2
 exact⟨u,he,F2,_,_,⟨rfl,J⟩,hr,hg⟩
def AltOk (f:Nat):Prop:=∀ (g:Nat) (s:PR),s.l.length<f→s.l.length≤1000000→ROk s.l→CD Tryz.prog 261 [PB g s] [dP g 0] (fun r H'=>∃ x s',(x,s')=altF f s∧r=Pt.d x∧H'=[PB g s'])
theorem row_d (o:List Pt):D.ifc 317 (.agg [.sh 1 (o.map Pt.d)])=Pt.d (.row o):=by rw[←Pt.ds_eq];rfl
theorem alt_d (o:List Pt):D.ifc 312 (.agg [.sh 1 (o.map Pt.d)])=Pt.d (.alt o):=by rw[←Pt.ds_eq];rfl
section
variable {s s' s1 s2 s3 s4 z:PR} {a b c:Int} {q:Bool} {o:List Pt} {f:Nat} {x y:Pt} {alt:PR→Pt×PR}
theorem atom_g1 (e:(c,s1)=s.any) (hc:c=40) (e2:(x,s2)=alt s1) (hb:s2.b=true):(x,(⟨s2.l,true⟩:PR))=s.atom alt:=by
 unfold PR.atom;rw[←e];simp only[if_pos hc];rw[←e2];simp only[if_pos hb];rw[←hb]
theorem atom_g2 (e:(c,s1)=s.any) (hc:c=40) (e2:(x,s2)=alt s1) (hb:s2.b=false) (e3:(q,s3)=s2.take 41):(x,(⟨s3.l,!q⟩:PR))=s.atom alt:=by
 unfold PR.atom;rw[←e];simp only[if_pos hc];rw[←e2];simp only[if_neg (show ¬s2.b=true by rw[hb];simp)];rw[←e3]
theorem atom_c {st:SetD} (e:(c,s1)=s.any) (h1:¬c=40) (h2:c=91) (e2:(st,s2)=s1.cls):(Pt.one st,s2)=s.atom alt:=by
 unfold PR.atom;rw[←e];simp only[if_neg h1,if_pos h2];rw[←e2]
theorem atom_d (e:(c,s1)=s.any) (h1:¬c=40) (h2:¬c=91) (h3:c=46):(Pt.one ⟨true,false,[]⟩,s1)=s.atom alt:=by
 unfold PR.atom;rw[←e];simp only[if_neg h1,if_neg h2,if_pos h3]
theorem atom_b (e:(c,s1)=s.any) (h1:¬c=40) (h2:¬c=91) (h3:¬c=46) (h4:c=92) (e2:(a,s2)=s1.any):(Pt.one ⟨false,false,[⟨a,a⟩]⟩,s2)=s.atom alt:=by
 unfold PR.atom;rw[←e];simp only[if_neg h1,if_neg h2,if_neg h3,if_pos h4];rw[←e2]
theorem atom_e (e:(c,s1)=s.any) (h1:¬c=40) (h2:¬c=91) (h3:¬c=46) (h4:¬c=92):(Pt.one ⟨false,false,[⟨c,c⟩]⟩,(⟨s1.l,s1.b||sgnN.any (fun x=>decide (x=c))⟩:PR))=s.atom alt:=by
 unfold PR.atom;rw[←e];simp only[if_neg h1,if_neg h2,if_neg h3,if_neg h4]
theorem atom_et (e:(c,s1)=s.any) (h1:¬c=40) (h2:¬c=91) (h3:¬c=46) (h4:¬c=92) (h5:sgnN.any (fun x=>decide (x=c))=true):(Pt.one ⟨false,false,[⟨c,c⟩]⟩,(⟨s1.l,true⟩:PR))=s.atom alt:=by
 rw[←atom_e e h1 h2 h3 h4,h5,Bool.or_true]
theorem atom_ef (e:(c,s1)=s.any) (h1:¬c=40) (h2:¬c=91) (h3:¬c=46) (h4:¬c=92) (h5:sgnN.any (fun x=>decide (x=c))=false):(Pt.one ⟨false,false,[⟨c,c⟩]⟩,(⟨s1.l,s1.b⟩:PR))=s.atom alt:=by
 rw[←atom_e e h1 h2 h3 h4,h5,Bool.or_false]
theorem atom_facts (e:(x,s')=s.atom alt) (h0:0<s.l.length) (ha:∀ s,(alt s).2.l.length≤s.l.length) (hs:Suf alt):s'.l <:+s.l∧s'.l.length+1≤s.l.length:=by
 have h2:s'=(s.atom alt).2:=congrArg Prod.snd e
 rw[h2];exact⟨PR.atom_suf hs s,PR.atom_lt ha (List.length_pos_iff.1 h0)⟩
theorem times_facts (e:(y,s')=s.times x):s'.l <:+s.l:=by
 have h2:s'=(s.times x).2:=congrArg Prod.snd e
 rw[h2];exact PR.times_suf s x
theorem parts_facts (e:(y,s')=s.parts alt) (hs:Suf alt):s'.l <:+s.l:=by
 have h2:s'=(s.parts alt).2:=congrArg Prod.snd e
 rw[h2];exact PR.parts_suf hs s
theorem alt_facts (e:(y,s')=altF f s):s'.l <:+s.l:=by
 have h2:s'=(altF f s).2:=congrArg Prod.snd e
 rw[h2];exact zdr f s
theorem stop_iff:z.stop=true↔(z.l.length=0∨z.any.1=124∨z.any.1=41):=by
 unfold PR.stop
 simp only[Bool.or_eq_true,decide_eq_true_eq,zdG,←List.length_eq_zero_iff]
 omega
theorem parts_bad (h:z.b=true):zbd alt (f+1) o z=(o,z):=by unfold zbd;rw[if_pos (Or.inl h)]
theorem parts_stop (h:z.l.length=0∨z.any.1=124∨z.any.1=41):zbd alt (f+1) o z=(o,z):=by unfold zbd;rw[if_pos (Or.inr (stop_iff.2 h))]
theorem parts_go (h:z.b=false) (h2:¬(z.l.length=0∨z.any.1=124∨z.any.1=41)) (e:(x,s1)=z.atom alt) (e2:(y,s2)=s1.times x):zbd alt (f+1) o z=zbd alt f (o++[y]) s2:=by
 conv=>lhs;unfold zbd
 rw[if_neg (by rintro (k | k);(rw[h] at k;cases k);exact h2 (stop_iff.1 k)),←e];simp only;rw[←e2]
theorem parts_of (hf:zbd alt (s.l.length+1) [] s=(o,s')):(Pt.row o,s')=s.parts alt:=by unfold PR.parts;rw[hf]
theorem alts_go (e:(q,s1)=z.take 124) (hq:q=true) (e2:(y,s2)=s1.parts alt):zcg alt (f+1) o z=zcg alt f (o++[y]) s2:=by
 conv=>lhs;unfold zcg
 rw[if_pos ((za5 e).2.2.2.symm.trans hq),←e];simp only;rw[←e2]
theorem alts_end (e:(q,s1)=z.take 124) (hq:¬q=true):zcg alt (f+1) o z=(o,s1):=by
 unfold zcg;rw[if_neg (fun k=>hq ((za5 e).2.2.2.trans k)),ptake_f e hq]
theorem alts_of (e:(x,s1)=s.parts (altF f)) (hf:zcg (altF f) (s1.l.length+1) [x] s1=(o,s')):(Pt.alt o,s')=altF (f+1) s:=by unfold altF;simp only;rw[←e];simp only;rw[hf]
end
theorem patom_s (g:Nat) (s:PR) (f:Nat) (ih:AltOk f) (hl:s.l.length≤1000000) (hT:ROk s.l) (hf:s.l.length<f+1):
 CD Tryz.prog 271 [.bx g 298 (.agg [.sh 1 (s.l.map (fun n=>D.v (.int .i32 n))),dB s.b])] [dP g 0] (fun r H'=>∃ x s',(x,s')=s.atom (altF f)∧r=Pt.d x∧H'=[PB g s']):=by
 refine zp Tryz.func271 J (N:=56) J J (fun C=>?_)
 refine jk [0] J (jT J (oR 1 J (oZ J (jT J (oR 1 J (oE J (zm [.bx g 298 (.agg [.sh 1 (s.l.map (fun n=>D.v (.int .i32 n))),dB s.b])] [] [] J J (.cons ArgC.id .nil) zg Tryz.call272 (zey g s (by omega) hT) (.inl rfl)) ?_))))))
 rintro _ _ ⟨_,⟨c1,s1,e1,rfl,rfl⟩,rfl⟩
 obtain ⟨kl1,kb1,kc1⟩:=zex e1 hT
 have hT1:=hT.suf kl1
 have kd1:=kl1.length_le
 refine on J (oR 1 J (oZ J (jS J (jB J (jT J (oR 1 J (oP J (zD J J J) (oR 1 J (oZ J ?_)))))))))
 refine jD J (fun hc2=>?_) (fun hc2=>?_)
 · skip
   have hne:0<s.l.length:=by rcases Nat.eq_zero_or_pos s.l.length with h0 | h0;(have hz:=(pnext_0 h0).1;have he:=congrArg Prod.fst e1;simp only at he;omega);exact h0
   refine jT J (oR 1 J (oE J (zm [.bx g 298 (.agg [.sh 1 (s1.l.map (fun n=>D.v (.int .i32 n))),dB s1.b])] [] [] J J (.cons ArgC.id .nil) zg Tryz.call261 (ih g s1 (by omega) (by omega) hT1) (.inl rfl)) ?_))
   rintro _ _ ⟨_,⟨x3,s3,e3,rfl,rfl⟩,rfl⟩
   have kl3:=alt_facts e3
   have hT3:=hT1.suf kl3
   have kd3:=kl3.length_le
   refine on J (oR 1 J (oZ J (jS J ?_)))
   rcases Bool.eq_false_or_eq_true (s3.b) with hg4 | hg4
   · skip
     refine zf J (oR 3 J (oP J (zd J zaG J) (oP J ((ze J (i:=0) J Tryz.isAgg4 J).cv (Cv.eq (congrArg (fun b=>D.v (.bool b)) (hg4)))) (oR 6 J (oP J (zd J zaG J) (oE J (zi (i:=0) (X':=.agg [.sh 1 (s3.l.map (fun n=>D.v (.int .i32 n))),dB true]) J J J (CellD.v J) Tryz.sizeOf4 J J J) ?_))))))
     rintro _ _ ⟨rfl,rfl⟩
     refine on J (oZ J (jk [2,3,4] J (jT J (oR 2 J (oZ J (zn J (zo (zk (pn J ?_)))))))))
     exact zh Tryz.results271 (.cons (zl J) .nil) J (HSub.fst 1 J) ⟨x3,⟨s3.l,true⟩,atom_g1 e1 hc2 e3 hg4,J,J⟩
   · skip
     refine zf J (oR 3 J (oP J (zd J zaG J) (oP J ((ze J (i:=0) J Tryz.isAgg4 J).cv (Cv.eq (congrArg (fun b=>D.v (.bool b)) (hg4)))) (oR 2 J (oF J (zm [.bx g 298 (.agg [.sh 1 (s3.l.map (fun n=>D.v (.int .i32 n))),dB s3.b])] [] [] J J (.cons ArgC.id (.cons ArgC.id .nil)) zg Tryz.call266 (zdt g s3 (41:Int) (by omega) hT3) (.inl rfl)) ?_)))))
     rintro _ _ ⟨_,⟨q5,s5,e5,rfl,rfl⟩,rfl⟩
     obtain ⟨kl5,kb5,kc5,ke5⟩:=za5 e5
     have hT5:=hT3.suf kl5
     have kd5:=kl5.length_le
     refine on J (oG J (zaZ J) (oR 2 J (oP J (zd J zaG J) (oE J (zi (i:=0) (X':=.agg [.sh 1 (s5.l.map (fun n=>D.v (.int .i32 n))),dB (!q5)]) J J J (CellD.v J) Tryz.sizeOf4 J J J) ?_))))
     rintro _ _ ⟨rfl,rfl⟩
     refine on J (oZ J (jk [2,3,4] J (jT J (oR 2 J (oZ J (zn J (zo (zk (pn J ?_)))))))))
     exact zh Tryz.results271 (.cons (zl J) .nil) J (HSub.fst 1 J) ⟨x3,⟨s5.l,!q5⟩,atom_g2 e1 hc2 e3 hg4 e5,J,J⟩
 · skip
   refine jT J (oR 1 J (oP J (zD J J J) (oR 1 J (oZ J ?_))))
   refine jD J (fun hc6=>?_) (fun hc6=>?_)
   · skip
     refine jT J (oR 1 J (oE J (zm [.bx g 298 (.agg [.sh 1 (s1.l.map (fun n=>D.v (.int .i32 n))),dB s1.b])] [] [] J J (.cons ArgC.id .nil) zg Tryz.call273 (pclass_c g s1 (by omega) hT1) (.inl rfl)) ?_))
     rintro _ _ ⟨_,⟨st7,s7,e7,rfl,rfl⟩,rfl⟩
     refine on J (oP J (zJ [0] [.tmp 29] (zv:=(.agg #[(.bool false),(.bool false),(.slice none 0 0)])) J J (.cons CellD.agg .nil) (Tryz.runUnderlying315) Tryz.zeroValue315 zeI ⟨J,J,J,trivial⟩ J) (oP J (zZ J (fun _ _=>by kernel_rfl)) (oR 1 rfl (oZ rfl (jk [2,3] rfl (zn rfl (zo (zk (pn rfl ?_)))))))))
     exact zh Tryz.results271 (.cons (zl J) .nil) J (HSub.fst 1 J) ⟨.one st7,⟨s7.l,s7.b⟩,atom_c e1 hc2 hc6 e7,J,J⟩
   · skip
     refine jT J (oR 1 J (oP J (zD J J J) (oR 1 J (oZ J (jk [0,2,3,32] J ?_)))))
     refine jD J (fun hc8=>?_) (fun hc8=>?_)
     · skip
       refine jT J (oP J (zJ [0] [.const (.bool true)] (zv:=(.agg #[(.bool false),(.bool false),(.slice none 0 0)])) J J (.cons (CellD.v J) .nil) (Tryz.runUnderlying306) Tryz.zeroValue306 zem ⟨J,J,J,trivial⟩ J) (oP J (zJ [0] [.tmp 35] (zv:=(.agg #[(.bool false),(.bool false),(.slice none 0 0)])) J J (.cons CellD.agg .nil) (Tryz.runUnderlying315) Tryz.zeroValue315 zeI ⟨J,J,J,trivial⟩ J) (oP J (zZ J (fun _ _=>by kernel_rfl)) (oR 1 rfl (oZ rfl (zn rfl (zo (zk (pn rfl ?_)))))))))
       exact zh Tryz.results271 (.cons (zx (zl J) (Cv.ifc (Cv.agg (.cons Cv.rfl' (.cons Cv.rfl' (.cons Cv.nil .nil)))))) .nil) J (HSub.fst 1 J) ⟨.one ⟨true,false,[]⟩,⟨s1.l,s1.b⟩,atom_d e1 hc2 hc6 hc8,J,J⟩
     · skip
       refine jT J (oR 1 J (oP J (zD J J J) (oR 1 J (oZ J ?_))))
       refine jD J (fun hc9=>?_) (fun hc9=>?_)
       · skip
         refine zf J (oR 1 J (oE J (zm [.bx g 298 (.agg [.sh 1 (s1.l.map (fun n=>D.v (.int .i32 n))),dB s1.b])] [] [] J J (.cons ArgC.id .nil) zg Tryz.call272 (zey g s1 (by omega) hT1) (.inl rfl)) ?_))
         rintro _ _ ⟨_,⟨c10,s10,e10,rfl,rfl⟩,rfl⟩
         obtain ⟨kl10,kb10,kc10⟩:=zex e10 hT1
         have hT10:=hT1.suf kl10
         have kd10:=kl10.length_le
         refine on J (oR 1 J (zq J (zB (zj (jT J (oR 2 J (oP J (p_arr2 J J) (oE J (Qu.ef (d:=.sh 2 ([(RngD.mk c10 c10)].map RngD.d)) (zy [.tmp 51] J J (.cons CellD.agg .nil) J Tryz.runUnderlying304 Tryz.sizeOf328 Tryz.zeroValue328 J J J J)) ?_))))))))
         rintro _ _ ⟨rfl,rfl⟩
         refine oP J (zJ [2] [.tmp 52] (zv:=(.agg #[(.bool false),(.bool false),(.slice none 0 0)])) J J (.cons CellD.sh .nil) (Tryz.runUnderlying306) Tryz.zeroValue306 zem ⟨J,J,J,trivial⟩ J) (oP J (zJ [0] [.tmp 53] (zv:=(.agg #[(.bool false),(.bool false),(.slice none 0 0)])) J J (.cons CellD.agg .nil) (Tryz.runUnderlying315) Tryz.zeroValue315 zeI ⟨J,J,J,trivial⟩ J) (oP J (zZ J (fun _ _=>by kernel_rfl)) (oR 1 rfl (oZ rfl (jk [2] rfl (zn rfl (pn rfl ?_)))))))
         exact zh Tryz.results271 (.cons (zl J) .nil) J (HSub.fst 1 J) ⟨.one ⟨false,false,[⟨c10,c10⟩]⟩,⟨s10.l,s10.b⟩,atom_b e1 hc2 hc6 hc8 hc9 e10,J,J⟩
       · skip
         refine jT J (oR 1 J (oW J J acs Tryz.call274 (containsR_c c1 (by omega) (by omega)) (oR 1 rfl (oZ rfl ?_))))
         refine jC J (fun hc11=>?_) (fun hc11=>?_)
         · skip
           refine zf J (oR 2 J (oP J (zd J zaG J) (oE J (zi (i:=0) (X':=.agg [.sh 1 (s1.l.map (fun n=>D.v (.int .i32 n))),dB true]) J J J (CellD.v J) Tryz.sizeOf4 J J J) ?_)))
           rintro _ _ ⟨rfl,rfl⟩
           refine on J (zq J (zB (zj (jk [2,3] J (jT J (oR 2 J (oP J (p_arr2 J J) (oE J (Qu.ef (d:=.sh 2 ([(RngD.mk c1 c1)].map RngD.d)) (zy [.tmp 51] J J (.cons CellD.agg .nil) J Tryz.runUnderlying304 Tryz.sizeOf328 Tryz.zeroValue328 J J J J)) ?_))))))))
           rintro _ _ ⟨rfl,rfl⟩
           refine oP J (zJ [2] [.tmp 52] (zv:=(.agg #[(.bool false),(.bool false),(.slice none 0 0)])) J J (.cons CellD.sh .nil) (Tryz.runUnderlying306) Tryz.zeroValue306 zem ⟨J,J,J,trivial⟩ J) (oP J (zJ [0] [.tmp 53] (zv:=(.agg #[(.bool false),(.bool false),(.slice none 0 0)])) J J (.cons CellD.agg .nil) (Tryz.runUnderlying315) Tryz.zeroValue315 zeI ⟨J,J,J,trivial⟩ J) (oP J (zZ J (fun _ _=>by kernel_rfl)) (oR 1 rfl (oZ rfl (zn rfl (pn rfl ?_))))))
           exact zh Tryz.results271 (.cons (zl J) .nil) J (HSub.fst 1 J) ⟨.one ⟨false,false,[⟨c1,c1⟩]⟩,⟨s1.l,true⟩,atom_et e1 hc2 hc6 hc8 hc9 (by simpa using hc11),rfl,rfl⟩
         · skip
           refine zt J (zB (zj (jT J (oR 2 J (oP J (p_arr2 J J) (oE J (Qu.ef (d:=.sh 2 ([(RngD.mk c1 c1)].map RngD.d)) (zy [.tmp 51] J J (.cons CellD.agg .nil) J Tryz.runUnderlying304 Tryz.sizeOf328 Tryz.zeroValue328 J J J J)) ?_))))))
           rintro _ _ ⟨rfl,rfl⟩
           refine oP J (zJ [2] [.tmp 52] (zv:=(.agg #[(.bool false),(.bool false),(.slice none 0 0)])) J J (.cons CellD.sh .nil) (Tryz.runUnderlying306) Tryz.zeroValue306 zem ⟨J,J,J,trivial⟩ J) (oP J (zJ [0] [.tmp 53] (zv:=(.agg #[(.bool false),(.bool false),(.slice none 0 0)])) J J (.cons CellD.agg .nil) (Tryz.runUnderlying315) Tryz.zeroValue315 zeI ⟨J,J,J,trivial⟩ J) (oP J (zZ J (fun _ _=>by kernel_rfl)) (oR 1 rfl (oZ rfl (jk [2] rfl (zn rfl (pn rfl ?_)))))))
           exact zh Tryz.results271 (.cons (zl J) .nil) J (HSub.fst 1 J) ⟨.one ⟨false,false,[⟨c1,c1⟩]⟩,⟨s1.l,s1.b⟩,atom_ef e1 hc2 hc6 hc8 hc9 (by simpa using hc11),rfl,rfl⟩
theorem pparts_s (g:Nat) (s:PR) (f:Nat) (ih:AltOk f) (hl:s.l.length≤1000000) (hT:ROk s.l) (hf0:s.l.length<f+1):
 CD Tryz.prog 265 [.bx g 298 (.agg [.sh 1 (s.l.map (fun n=>D.v (.int .i32 n))),dB s.b])] [dP g 0] (fun r H'=>∃ x s',(x,s')=s.parts (altF f)∧r=Pt.d x∧H'=[PB g s']):=by
 refine zp Tryz.func265 J (N:=37) J J (fun C=>?_)
 refine jk [0] J (jT J (oR 1 J (oZ J (jT J (oE J (zC (zv:=(.agg #[(.slice none 0 0)])) Tryz.zeroValue317 ⟨J,trivial⟩ (Cv.vagg (by decide))) ?_)))))
 rintro _ _ ⟨g1,rfl,rfl⟩
 refine oZ J (jS J (jB J (JD.subH (HSub.nil 1 20) (jn J (JD.subH (HSub.perm (zc (i:=1) J)) (jn J (JD.subH (HSub.turn (h':=.bx g1 317 (.agg [.ov (.slice none 0 0)])) J (Hp.cv_bx (Cv.agg (.cons (Cv.ov J) .nil)))) (JD.subH (HSub.perm (zc (i:=1) J)) (jn J (JD.subH (HSub.perm (zc (i:=1) J)) (jn J (JD.subH (HSub.perm (zc (i:=2) J)) (jn J (jn J (jl4 (fun (a_:Nat) (b_:PR) (c_:Value) (d_:List Pt)=>[(0,dP g 0),(2,.v .nilIface),(3,dP g1 0)]) (fun a_ b_ c_ d_=>[.bx g 298 (.agg [.sh 1 (b_.l.map (fun n=>D.v (.int .i32 n))),dB b_.b]),.bx g1 317 (.agg [.ov c_]),.sl c_ 1 20 (d_.map Pt.d)]) (fun a_ b_ c_ d_=>(b_.l.length<a_)∧(zbd (altF f) a_ d_ b_=zbd (altF f) (s.l.length+1) [] s)∧(ROk b_.l)∧(d_.length+b_.l.length≤1000000∧b_.l.length≤s.l.length)) (fun a_ b_ c_ d_=>a_) (s.l.length+1) s (.slice none 0 0) [] J (sa J) HSub.rfl' ⟨(by omega),rfl,hT,(by show 0+s.l.length≤_∧_;omega)⟩ ?_)))))))))))))))
 rintro k z ov o ⟨hlf,hf,hz,hol⟩
 refine ja J (jn J ?_)
 obtain ⟨k,rfl⟩:∃ n,k=n+1:=⟨k-1,by omega⟩
 refine jS J (jT J (oR 2 J (oP J (zd J zaG J) (oP J (ze J (i:=0) J Tryz.isAgg4 J) (oP J (zaZ J) (oZ J ?_))))))
 refine jC J (fun hc2=>?_) (fun hc2=>?_)
 · simp only[bA,bB,bC,bD,bE,bF,bG,bH,bI,bJ] at hc2
   have hzb:z.b=false:=by simpa using hc2
   refine zt J (zj (jB J (jT J (oR 1 J (oE J (zm [.bx g 298 (.agg [.sh 1 (z.l.map (fun n=>D.v (.int .i32 n))),dB z.b])] [.bx g1 317 (.agg [.ov ov]),.sl ov 1 20 (o.map Pt.d)] [] J J (.cons ArgC.id .nil) zg Tryz.call269 (pnext_c g z (by omega) hz) (.inl rfl)) ?_)))))
   rintro _ _ ⟨_,⟨rfl,rfl⟩,rfl⟩
   refine on J (oR 5 J (oZ J (jS J (jS J (jk [0,2,3,4,5,6,7,8,9,10,11,12,13,14,15] J ?_)))))
   refine zR 25 (((!decide (0<z.l.length)||decide (z.any.1=(124:Int)))||decide (z.any.1=(41:Int)))) [.bx g 298 (.agg [.sh 1 (z.l.map (fun n=>D.v (.int .i32 n))),dB z.b]),.bx g1 317 (.agg [.ov ov]),.sl ov 1 20 (o.map Pt.d)] (fun _ hQ4=>?_) ?_
   · skip
     by_cases hg5:0<z.l.length
     · skip
       refine JD.sub [(0,dP g 0),(2,.v .nilIface),(3,dP g1 0),(4,.v (.int .i32 z.any.1)),(5,dB true),(6,dP g 0),(7,dP g 0),(8,dP g 1),(9,dB z.b),(10,dB (!z.b)),(11,.tup [.v (.int .i32 z.any.1),dB (decide (0<z.l.length))]),(12,dP g 0),(13,.tup [.v (.int .i32 z.any.1),dB (decide (0<z.l.length))]),(14,.v (.int .i32 z.any.1)),(15,dB true)] ⟨sk J,sk J,sk J,sk J,se J (congrArg (fun b=>D.v (.bool b)) (by simp[hg5])),sk rfl,sk rfl,sk rfl,sk rfl,sk rfl,sk rfl,sk rfl,sk rfl,sk rfl,se rfl (congrArg (fun b=>D.v (.bool b)) (by simp[hg5])),trivial⟩ ?_
       by_cases hg6:z.any.1=(124:Int)
       · skip
         refine zf J (oR 4 J (oG J (zD J J (decide_eq_true hg6)) (oR 5 J (zq J ?_))))
         exact PD.sub ((25,dB ((!decide (0<z.l.length)||decide (z.any.1=(124:Int)))||decide (z.any.1=(41:Int))))::[(0,dP g 0),(2,.v .nilIface),(3,dP g1 0),(4,.v (.int .i32 z.any.1)),(5,dB (decide (0<z.l.length))),(6,dP g 0),(7,dP g 0),(8,dP g 1),(9,dB z.b),(10,dB (!z.b)),(11,.tup [.v (.int .i32 z.any.1),dB (decide (0<z.l.length))]),(12,dP g 0),(13,.tup [.v (.int .i32 z.any.1),dB (decide (0<z.l.length))]),(14,.v (.int .i32 z.any.1)),(15,dB (decide (0<z.l.length)))]) ⟨sc J (Cv.eq (congrArg (fun b=>D.v (.bool b)) (by first | (simp[hc2,hg5,hg6];done) | (simp_all;done)))),sk rfl,sk rfl,sk rfl,sk rfl,sc rfl (Cv.eq (congrArg (fun b=>D.v (.bool b)) (by simp[hc2,hg5,hg6]))),sk rfl,sk rfl,sk rfl,sk rfl,sk rfl,sk rfl,sk rfl,sk rfl,sk rfl,sc rfl (Cv.eq (congrArg (fun b=>D.v (.bool b)) (by simp[hc2,hg5,hg6]))),trivial⟩ hQ4
       · skip
         refine zf J (oR 4 J (oG J (zD J J (decide_eq_false hg6)) (oR 3 J (oG J (zD J J J) (oR 1 J (zq J ?_))))))
         exact PD.sub ((25,dB ((!decide (0<z.l.length)||decide (z.any.1=(124:Int)))||decide (z.any.1=(41:Int))))::[(0,dP g 0),(2,.v .nilIface),(3,dP g1 0),(4,.v (.int .i32 z.any.1)),(5,dB (decide (0<z.l.length))),(6,dP g 0),(7,dP g 0),(8,dP g 1),(9,dB z.b),(10,dB (!z.b)),(11,.tup [.v (.int .i32 z.any.1),dB (decide (0<z.l.length))]),(12,dP g 0),(13,.tup [.v (.int .i32 z.any.1),dB (decide (0<z.l.length))]),(14,.v (.int .i32 z.any.1)),(15,dB (decide (0<z.l.length)))]) ⟨sc J (Cv.eq (congrArg (fun b=>D.v (.bool b)) (by first | (simp[hc2,hg5,hg6];done) | (simp_all;done)))),sk rfl,sk rfl,sk rfl,sk rfl,sc rfl (Cv.eq (congrArg (fun b=>D.v (.bool b)) (by simp[hc2,hg5,hg6]))),sk rfl,sk rfl,sk rfl,sk rfl,sk rfl,sk rfl,sk rfl,sk rfl,sk rfl,sc rfl (Cv.eq (congrArg (fun b=>D.v (.bool b)) (by simp[hc2,hg5,hg6]))),trivial⟩ hQ4
     · skip
       refine JD.sub [(0,dP g 0),(2,.v .nilIface),(3,dP g1 0),(4,.v (.int .i32 z.any.1)),(5,dB false),(6,dP g 0),(7,dP g 0),(8,dP g 1),(9,dB z.b),(10,dB (!z.b)),(11,.tup [.v (.int .i32 z.any.1),dB (decide (0<z.l.length))]),(12,dP g 0),(13,.tup [.v (.int .i32 z.any.1),dB (decide (0<z.l.length))]),(14,.v (.int .i32 z.any.1)),(15,dB false)] ⟨sk J,sk J,sk J,sk J,se J (congrArg (fun b=>D.v (.bool b)) (by simp[hg5])),sk rfl,sk rfl,sk rfl,sk rfl,sk rfl,sk rfl,sk rfl,sk rfl,sk rfl,se rfl (congrArg (fun b=>D.v (.bool b)) (by simp[hg5])),trivial⟩ (zf rfl (oR 10 rfl (zq rfl ?_)))
       exact PD.sub ((25,dB ((!decide (0<z.l.length)||decide (z.any.1=(124:Int)))||decide (z.any.1=(41:Int))))::[(0,dP g 0),(2,.v .nilIface),(3,dP g1 0),(4,.v (.int .i32 z.any.1)),(5,dB (decide (0<z.l.length))),(6,dP g 0),(7,dP g 0),(8,dP g 1),(9,dB z.b),(10,dB (!z.b)),(11,.tup [.v (.int .i32 z.any.1),dB (decide (0<z.l.length))]),(12,dP g 0),(13,.tup [.v (.int .i32 z.any.1),dB (decide (0<z.l.length))]),(14,.v (.int .i32 z.any.1)),(15,dB (decide (0<z.l.length)))]) ⟨sc J (Cv.eq (congrArg (fun b=>D.v (.bool b)) (by first | (simp[hc2,hg5];done) | (simp_all;done)))),sk rfl,sk rfl,sk rfl,sk rfl,sc rfl (Cv.eq (congrArg (fun b=>D.v (.bool b)) (by simp[hc2,hg5]))),sk rfl,sk rfl,sk rfl,sk rfl,sk rfl,sk rfl,sk rfl,sk rfl,sk rfl,sc rfl (Cv.eq (congrArg (fun b=>D.v (.bool b)) (by simp[hc2,hg5]))),trivial⟩ hQ4
   · skip
     refine zj ?_
     refine jC J (fun hc7=>?_) (fun hc7=>?_)
     · simp only[bA,bB,bC,bD,bE,bF,bG,bH,bI,bJ] at hc7
       have hff:=hf.symm.trans (parts_stop (by have h:=hc7;omega))
       refine zF J (zw (pd_block_exit_far J (zu (zr (zj (jk [2,3] J (jT J (oP J (zH (d:=.agg [.ov ov]) J (i:=1) J Tryz.isAgg317 Tryz.sizeOf317 J J) (oP J (zZ J (fun _ _=>by kernel_rfl)) (oR 1 rfl (oZ rfl (zn rfl (PD.subH (HSub.perm (zc (i:=2) rfl)) (pn rfl (zbi (Mv.freeze (K':=[(2,.ifc 317 (.agg [.sh 1 (o.map Pt.d)])),(3,dP g1 0),(35,.agg [.sh 1 (o.map Pt.d)]),(36,.ifc 317 (.agg [.sh 1 (o.map Pt.d)]))]) [.sl ov 1 20 (o.map Pt.d)] (H1:=[.bx g 298 (.agg [.sh 1 (z.l.map (fun n=>D.v (.int .i32 n))),dB z.b]),.bx g1 317 (.agg [.ov ov])]) (H1':=[.bx g 298 (.agg [.sh 1 (z.l.map (fun n=>D.v (.int .i32 n))),dB z.b]),.bx g1 317 (.agg [.sh 1 (o.map Pt.d)])]) ⟨⟨_,rfl,ArgC.ifc (ArgC.agg (.cons (ArgC.own (j:=0) rfl rfl) .nil))⟩,⟨_,rfl,ArgC.id⟩,⟨_,rfl,ArgC.agg (.cons (ArgC.own (j:=0) rfl rfl) .nil)⟩,⟨_,rfl,ArgC.ifc (ArgC.agg (.cons (ArgC.own (j:=0) rfl rfl) .nil))⟩,trivial⟩ (.same (.bx (ArgC.agg (.cons (ArgC.own (j:=0) rfl rfl) .nil)) .nil))) (pn rfl ?_))))))))))))))))
       exact zh Tryz.results265 (.cons (zx (zl J) (Cv.eq (row_d _))) .nil) J (HSub.fst 1 J) ⟨.row o,⟨z.l,z.b⟩,parts_of hff,J,J⟩
     · simp only[bA,bB,bC,bD,bE,bF,bG,bH,bI,bJ] at hc7
       have hns:¬(z.l.length=0∨z.any.1=124∨z.any.1=41):=by have h:=hc7;omega
       refine zt J (zj ?_)
       obtain ⟨a1,za,ea⟩:∃ a s1,(a,s1)=z.atom (altF f):=⟨_,_,rfl⟩
       obtain ⟨kl1,kd1⟩:=atom_facts ea (by omega) (altF_le f) (zdr f)
       have hTa:=hz.suf kl1
       obtain ⟨y1,zb,eb⟩:∃ a s1,(a,s1)=za.times a1:=⟨_,_,rfl⟩
       have kl2:=times_facts eb
       have hTb:=hTa.suf kl2
       have kd2:=kl2.length_le
       have hzT:=hTb
       refine jk [0,2,3,4,5,6,7,8,9,10,11,12,13,14,15,25] J (jn J ?_)
       refine zaX 7 [(26,dP g1 0,none),(27,.ov ov,none),(28,dP g 0,none),(29,dP g 0,none),(30,Pt.d a1,some [.bx g 298 (.agg [.sh 1 (za.l.map (fun n=>D.v (.int .i32 n))),dB za.b]),.bx g1 317 (.agg [.ov ov]),.sl ov 1 20 (o.map Pt.d)]),(31,Pt.d y1,some [.bx g 298 (.agg [.sh 1 (zb.l.map (fun n=>D.v (.int .i32 n))),dB zb.b]),.bx g1 317 (.agg [.ov ov]),.sl ov 1 20 (o.map Pt.d)]),(32,.sh 1 ([y1].map Pt.d),none)] [.bx g1 317 (.agg [.ov ov]),.sl ov 1 20 (o.map Pt.d)] (Hn:=[.bx g 298 (.agg [.sh 1 (zb.l.map (fun n=>D.v (.int .i32 n))),dB zb.b]),.bx g1 317 (.agg [.ov ov]),.sl ov 1 20 (o.map Pt.d)]) mixed rfl rfl rfl rfl (HSub.lst 1 rfl) rfl ⟨sa_p rfl rfl rfl (zd rfl zdm rfl),sa_p rfl rfl rfl (ze rfl (i:=0) rfl Tryz.isAgg310 rfl),sa_p rfl rfl rfl (zG rfl),sa_p rfl rfl rfl (zG rfl),sa_e rfl rfl rfl rfl (((zm [.bx g 298 (.agg [.sh 1 (z.l.map (fun n=>D.v (.int .i32 n))),dB z.b])] [.bx g1 317 (.agg [.ov ov]),.sl ov 1 20 (o.map Pt.d)] [] rfl rfl (.cons ArgC.id .nil) zg Tryz.call271 (CD.nmx ea (patom_s g z f ih (by omega) hz (by omega))) (.inl rfl))).mono (by rintro _ _ ⟨_,⟨rfl,rfl⟩,rfl⟩;exact⟨rfl,rfl⟩)) (HSub.lst 1 rfl),sa_e rfl rfl rfl rfl (((zm [.bx g 298 (.agg [.sh 1 (za.l.map (fun n=>D.v (.int .i32 n))),dB za.b])] [.bx g1 317 (.agg [.ov ov]),.sl ov 1 20 (o.map Pt.d)] [] rfl rfl (.cons ArgC.id (.cons ArgC.id .nil)) zg Tryz.call270 (CD.nmx eb (ptimes_c g za a1 (by omega) hTa)) (.inl rfl))).mono (by rintro _ _ ⟨_,⟨rfl,rfl⟩,rfl⟩;exact⟨rfl,rfl⟩)) (HSub.lst 1 rfl),sa_q rfl rfl rfl (zy [.tmp 31] rfl rfl (.cons (zdR _) .nil) rfl Tryz.runUnderlying310 Tryz.sizeOf20 Tryz.zeroValue20 rfl rfl rfl rfl),trivial⟩ ?_
       refine ok [0,2,3,4,5,6,7,8,9,10,11,12,13,14,15,25,26,27,28,29,30,31,32] J (oE J (zP (f:=Pt.d) (l:=o) (l':=[y1]) (i:=2) J J J (SrcD.sh) und_310 infz_20 J J (by unfold maxLen;(try simp only[la,lc,ln,lm,lt',ld,ls,lr]);omega) (by (try simp only[la,lc,ln,lm,lt',ld,ls,lr]);omega)) ?_)
       rintro _ _ ⟨v8,rfl,rfl⟩
       refine on J (oP J (zd J zdm J) (oE J (zi (i:=1) (X':=.agg [.ov v8]) J J J (CellD.o) Tryz.sizeOf310 J J J) ?_))
       rintro _ _ ⟨rfl,rfl⟩
       refine on J (zq J (zB (pn J ?_)))
       exact pl4 k zb v8 (o++[y1]) (sa J) HSub.rfl' ⟨by show zb.l.length<_;omega,(parts_go hzb hns ea eb).symm.trans hf,hzT,by simp only[la,List.length_singleton];omega⟩ (by omega)
 · simp only[bA,bB,bC,bD,bE,bF,bG,bH,bI,bJ] at hc2
   have hff:=hf.symm.trans (parts_bad (by simpa using hc2))
   refine zF J (zw (zu (zr (zj (jT J (oP J (zH (d:=.agg [.ov ov]) J (i:=1) J Tryz.isAgg317 Tryz.sizeOf317 J J) (oP J (zZ J (fun _ _=>by kernel_rfl)) (oR 1 rfl (oZ rfl (jk [2] rfl (zn rfl (PD.subH (HSub.perm (zc (i:=2) rfl)) (pn rfl (zbi (Mv.freeze (K':=[(2,.ifc 317 (.agg [.sh 1 (o.map Pt.d)]))]) [.sl ov 1 20 (o.map Pt.d)] (H1:=[.bx g 298 (.agg [.sh 1 (z.l.map (fun n=>D.v (.int .i32 n))),dB z.b]),.bx g1 317 (.agg [.ov ov])]) (H1':=[.bx g 298 (.agg [.sh 1 (z.l.map (fun n=>D.v (.int .i32 n))),dB z.b]),.bx g1 317 (.agg [.sh 1 (o.map Pt.d)])]) ⟨⟨_,rfl,ArgC.ifc (ArgC.agg (.cons (ArgC.own (j:=0) rfl rfl) .nil))⟩,trivial⟩ (.same (.bx (ArgC.agg (.cons (ArgC.own (j:=0) rfl rfl) .nil)) .nil))) (pn rfl ?_)))))))))))))))
   exact zh Tryz.results265 (.cons (zx (zl J) (Cv.eq (row_d _))) .nil) J (HSub.fst 1 J) ⟨.row o,⟨z.l,z.b⟩,parts_of hff,J,J⟩
theorem palt_s (g:Nat) (s:PR) (f:Nat) (ih:AltOk f) (hl:s.l.length≤1000000) (hT:ROk s.l) (hf0:s.l.length<f+1):
 CD Tryz.prog 261 [.bx g 298 (.agg [.sh 1 (s.l.map (fun n=>D.v (.int .i32 n))),dB s.b])] [dP g 0] (fun r H'=>∃ x s',(x,s')=altF (f+1) s∧r=Pt.d x∧H'=[PB g s']):=by
 refine zp Tryz.func261 J (N:=19) J J (fun C=>?_)
 refine jk [0] J (jT J (oR 1 J (oZ J (jT J (oR 1 J (oE J (zm [.bx g 298 (.agg [.sh 1 (s.l.map (fun n=>D.v (.int .i32 n))),dB s.b])] [] [] J J (.cons ArgC.id .nil) zg Tryz.call265 (pparts_s g s f ih (by omega) hT (by omega)) (.inl rfl)) ?_))))))
 rintro _ _ ⟨_,⟨x1,s1,e1,rfl,rfl⟩,rfl⟩
 have kl1:=parts_facts e1 (zdr f)
 have hT1:=hT.suf kl1
 have kd1:=kl1.length_le
 refine on J (oE J (zL [.tmp 5] J J (.cons (zdR _) .nil) J Tryz.runUnderlying310 Tryz.sizeOf20 Tryz.zeroValue20 J J J J) ?_)
 rintro _ _ ⟨g2,rfl,rfl⟩
 refine oP J (zJ [0] [.tmp 6] (zv:=(.agg #[(.slice none 0 0)])) J J (.cons CellD.o .nil) (Tryz.runUnderlying312) Tryz.zeroValue312 bd_312 ⟨J,trivial⟩ J) (oE J (zC (zv:=(.agg #[(.slice none 0 0)])) Tryz.zeroValue312 ⟨J,trivial⟩ (Cv.vagg (by decide))) ?_)
 rintro _ _ ⟨g3,rfl,rfl⟩
 refine oE J (zi (i:=0) (X':=.agg [.ov (vS g2 1 1)]) J J J (CellD.agg) Tryz.sizeOf312 J J J) ?_
 rintro _ _ ⟨rfl,rfl⟩
 refine on J (oZ J (jS J (jB J (JD.subH (HSub.perm (zc (i:=1) J)) (jn J (JD.subH (HSub.perm (zc (i:=1) J)) (jn J (JD.subH (HSub.perm (zc (i:=2) J)) (jn J (jn J (jl4 (fun (a_:Nat) (b_:PR) (c_:Value) (d_:List Pt)=>[(0,dP g 0),(2,.v .nilIface),(3,dP g3 0)]) (fun a_ b_ c_ d_=>[.bx g 298 (.agg [.sh 1 (b_.l.map (fun n=>D.v (.int .i32 n))),dB b_.b]),.bx g3 312 (.agg [.ov c_]),.sl c_ 1 20 (d_.map Pt.d)]) (fun a_ b_ c_ d_=>(b_.l.length<a_)∧(zcg (altF f) a_ d_ b_=zcg (altF f) (s1.l.length+1) [x1] s1)∧(ROk b_.l)∧(d_.length+b_.l.length≤1000001∧b_.l.length≤s.l.length)) (fun a_ b_ c_ d_=>a_) (s1.l.length+1) s1 (vS g2 1 1) [x1] J (sa J) HSub.rfl' ⟨(by omega),rfl,hT1,(by show 1+s1.l.length≤_∧_;omega)⟩ ?_)))))))))))
 rintro k z ov o ⟨hlf,hf,hz,hol⟩
 refine ja J (jn J ?_)
 obtain ⟨k,rfl⟩:∃ n,k=n+1:=⟨k-1,by omega⟩
 refine jS J (jT J (oR 1 J (oE J (zm [.bx g 298 (.agg [.sh 1 (z.l.map (fun n=>D.v (.int .i32 n))),dB z.b])] [.bx g3 312 (.agg [.ov ov]),.sl ov 1 20 (o.map Pt.d)] [] J J (.cons ArgC.id (.cons ArgC.id .nil)) zg Tryz.call266 (zdt g z (124:Int) (by omega) hz) (.inl rfl)) ?_)))
 rintro _ _ ⟨_,⟨q4,s4,e4,rfl,rfl⟩,rfl⟩
 obtain ⟨kl4,kb4,kc4,ke4⟩:=za5 e4
 have hT4:=hz.suf kl4
 have kd4:=kl4.length_le
 refine on J (oZ J ?_)
 refine jC J (fun hc5=>?_) (fun hc5=>?_)
 · skip
   have kq:=kc4 hc5
   refine zt J (zj (jB J ?_))
   obtain ⟨y1,zb,ey⟩:∃ a s1,(a,s1)=s4.parts (altF f):=⟨_,_,rfl⟩
   have kl2:=parts_facts ey (zdr f)
   have hzT:=hT4.suf kl2
   have kd2:=kl2.length_le
   refine jk [0,2,3,8,9] rfl (jn rfl (zaX 5 [(10,dP g3 0,none),(11,.ov ov,none),(12,dP g 0,none),(13,Pt.d y1,some [.bx g 298 (.agg [.sh 1 (zb.l.map (fun n=>D.v (.int .i32 n))),dB zb.b]),.bx g3 312 (.agg [.ov ov]),.sl ov 1 20 (o.map Pt.d)]),(14,.sh 1 ([y1].map Pt.d),none)] [.bx g3 312 (.agg [.ov ov]),.sl ov 1 20 (o.map Pt.d)] (Hn:=[.bx g 298 (.agg [.sh 1 (zb.l.map (fun n=>D.v (.int .i32 n))),dB zb.b]),.bx g3 312 (.agg [.ov ov]),.sl ov 1 20 (o.map Pt.d)]) mixed rfl rfl rfl rfl (HSub.lst 1 rfl) rfl ⟨sa_p rfl rfl rfl (zd rfl fa_312_0 rfl),sa_p rfl rfl rfl (ze rfl (i:=0) rfl Tryz.isAgg310 rfl),sa_p rfl rfl rfl (zG rfl),sa_e rfl rfl rfl rfl (((zm [.bx g 298 (.agg [.sh 1 (s4.l.map (fun n=>D.v (.int .i32 n))),dB s4.b])] [.bx g3 312 (.agg [.ov ov]),.sl ov 1 20 (o.map Pt.d)] [] rfl rfl (.cons ArgC.id .nil) zg Tryz.call265 (CD.nmx ey (pparts_s g s4 f ih (by omega) hT4 (by omega))) (.inl rfl))).mono (by rintro _ _ ⟨_,⟨rfl,rfl⟩,rfl⟩;exact⟨rfl,rfl⟩)) (HSub.lst 1 rfl),sa_q rfl rfl rfl (zy [.tmp 13] rfl rfl (.cons (zdR _) .nil) rfl Tryz.runUnderlying310 Tryz.sizeOf20 Tryz.zeroValue20 rfl rfl rfl rfl),trivial⟩ (ok [0,2,3,8,9,10,11,12,13,14] rfl ?_)))
   refine oE J (zP (f:=Pt.d) (l:=o) (l':=[y1]) (i:=2) J J J (SrcD.sh) und_310 infz_20 J J (by unfold maxLen;(try simp only[la,lc,ln,lm,lt',ld,ls,lr]);omega) (by (try simp only[la,lc,ln,lm,lt',ld,ls,lr]);omega)) ?_
   rintro _ _ ⟨v6,rfl,rfl⟩
   refine on J (oP J (zd J fa_312_0 J) (oE J (zi (i:=1) (X':=.agg [.ov v6]) J J J (CellD.o) Tryz.sizeOf310 J J J) ?_))
   rintro _ _ ⟨rfl,rfl⟩
   refine on J (zq J (zB (pn J ?_)))
   exact pl4 k zb v6 (o++[y1]) (sa J) HSub.rfl' ⟨by show zb.l.length<_;omega,(alts_go e4 hc5 ey).symm.trans hf,hzT,by simp only[la,List.length_singleton];omega⟩ (by omega)
 · skip
   have hff:=hf.symm.trans (alts_end e4 (by simpa using hc5))
   refine zF J (zw (zu (zr (zj (jT J (oP J (zH (d:=.agg [.ov ov]) J (i:=1) J Tryz.isAgg312 Tryz.sizeOf312 J J) (oP J (zZ J (fun _ _=>by kernel_rfl)) (oR 1 rfl (oZ rfl (zn rfl (PD.subH (HSub.perm (zc (i:=2) rfl)) (pn rfl (zbi (Mv.freeze (K':=[(0,dP g 0),(2,.ifc 312 (.agg [.sh 1 (o.map Pt.d)])),(3,dP g3 0),(8,dP g 0),(9,dB q4),(17,.agg [.sh 1 (o.map Pt.d)]),(18,.ifc 312 (.agg [.sh 1 (o.map Pt.d)]))]) [.sl ov 1 20 (o.map Pt.d)] (H1:=[.bx g 298 (.agg [.sh 1 (s4.l.map (fun n=>D.v (.int .i32 n))),dB s4.b]),.bx g3 312 (.agg [.ov ov])]) (H1':=[.bx g 298 (.agg [.sh 1 (s4.l.map (fun n=>D.v (.int .i32 n))),dB s4.b]),.bx g3 312 (.agg [.sh 1 (o.map Pt.d)])]) ⟨⟨_,rfl,ArgC.id⟩,⟨_,rfl,ArgC.ifc (ArgC.agg (.cons (ArgC.own (j:=0) rfl rfl) .nil))⟩,⟨_,rfl,ArgC.id⟩,⟨_,rfl,ArgC.id⟩,⟨_,rfl,ArgC.id⟩,⟨_,rfl,ArgC.agg (.cons (ArgC.own (j:=0) rfl rfl) .nil)⟩,⟨_,rfl,ArgC.ifc (ArgC.agg (.cons (ArgC.own (j:=0) rfl rfl) .nil))⟩,trivial⟩ (.same (.bx (ArgC.agg (.cons (ArgC.own (j:=0) rfl rfl) .nil)) .nil))) (pn rfl ?_))))))))))))))
   exact zh Tryz.results261 (.cons (zx (zl J) (Cv.eq (alt_d _))) .nil) J (HSub.fst 1 J) ⟨.alt o,⟨s4.l,s4.b⟩,alts_of e1 hff,J,J⟩
theorem altOk:∀ f:Nat,AltOk f
 | 0=>fun g s h=>absurd h (by omega)
 | f+1=>fun g s h hl hT=>palt_s g s f (altOk f) hl hT h
end Lp
