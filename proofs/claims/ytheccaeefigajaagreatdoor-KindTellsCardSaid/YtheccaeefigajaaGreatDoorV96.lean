import Derived.Test.YtheccaeefigajaaGreatDoorV94
set_option linter.unusedSimpArgs false
set_option linter.unusedVariables false
set_option maxHeartbeats 4000000
set_option maxRecDepth 100000
namespace Lp
open Go Go.RowKit Go.Proofs
namespace HdYtheccaeefigajaaGreatDoorV95
theorem zel:∀ w,((#[⟨"s",306,0,false, "", "leporello/pattern",0⟩,⟨"rune",4,3,false, "", "leporello/pattern",32⟩,⟨"a",3,4,false, "", "leporello/pattern",40⟩,⟨"b",3,5,false, "", "leporello/pattern",48⟩]:Array Field).mapM fun f=>do pure (f.offset,←Go.sizeOf f.type):Sem (Array (Nat×Nat))).run Tryz.prog w=.ok ([(0,3),(3,1),(4,1),(5,1)]:List (Nat×Nat)).toArray w:=fun _=>by kernel_rfl
theorem fa_302_1 (b o:Nat):∀ w,(Instr.fieldAt 302 (.pointer (some ⟨b,o,none⟩)) 1).run Tryz.prog w=.ok (.pointer (some ⟨b,o+1,none⟩)) w:=fun _=>by kernel_rfl
theorem fa_308_2 (b o:Nat):∀ w,(Instr.fieldAt 308 (.pointer (some ⟨b,o,none⟩)) 2).run Tryz.prog w=.ok (.pointer (some ⟨b,o+4,none⟩)) w:=fun _=>by kernel_rfl
theorem fa_315_0 (b o:Nat):∀ w,(Instr.fieldAt 315 (.pointer (some ⟨b,o,none⟩)) 0).run Tryz.prog w=.ok (.pointer (some ⟨b,o+0,none⟩)) w:=fun _=>by kernel_rfl
theorem zdm (b o:Nat):∀ w,(Instr.fieldAt 317 (.pointer (some ⟨b,o,none⟩)) 0).run Tryz.prog w=.ok (.pointer (some ⟨b,o+0,none⟩)) w:=fun _=>by kernel_rfl
theorem fa_320_0 (b o:Nat):∀ w,(Instr.fieldAt 320 (.pointer (some ⟨b,o,none⟩)) 0).run Tryz.prog w=.ok (.pointer (some ⟨b,o+0,none⟩)) w:=fun _=>by kernel_rfl
theorem fa_320_1 (b o:Nat):∀ w,(Instr.fieldAt 320 (.pointer (some ⟨b,o,none⟩)) 1).run Tryz.prog w=.ok (.pointer (some ⟨b,o+1,none⟩)) w:=fun _=>by kernel_rfl
theorem fa_320_2 (b o:Nat):∀ w,(Instr.fieldAt 320 (.pointer (some ⟨b,o,none⟩)) 2).run Tryz.prog w=.ok (.pointer (some ⟨b,o+2,none⟩)) w:=fun _=>by kernel_rfl
theorem fg_312_0:∀ vs:List Value,vs.length=1→∀ w,(Instr.field 312 (.agg vs.toArray) 0).run Tryz.prog w=.ok (vs.getD 0 undef) w:=fun vs h w=>by
 obtain ⟨a,rfl⟩:=List.length_eq_one_iff.1 h
 kernel_rfl
theorem infz_308:∃ i,Tryz.prog.info? 308=some i∧i.zero=some (.agg #[(.bool false),(.bool false),(.slice none 0 0),(.bool false),(.int .i64 0),(.int .i64 0)])∧i.size=6∧i.bytes=56:=zbq (by kernel_rfl)
theorem und_300:Tryz.prog.underlying 300=some (.slice 308):=by kernel_rfl
end HdYtheccaeefigajaaGreatDoorV95
open HdYtheccaeefigajaaGreatDoorV95
structure StepD where
 all:Bool
 nt:Bool
 items:List RngD
 rn:Bool
 a:Int
 b:Int
def StepD.d (x:StepD):D:=.agg [dB x.all,dB x.nt,.sh 2 (x.items.map RngD.d),dB x.rn,dI x.a,dI x.b]
def MB (g:Nat) (tx:D) (v:Value) (fst:Int) (xs:List StepD):List Hp:=[.bx g 302 (.agg [tx,.ov v,dI fst]),.sl v 6 308 (xs.map StepD.d)]
def zeg (n:Nat):Prop:=∀ (g:Nat) (tx:D) (v:Value) (fst:Int) (xs:List StepD) (x:Pt) (th:Int),x.ok→x.sz≤n→xs.length+2*x.sz≤1000000→
 CD Tryz.prog 263 (MB g tx v fst xs) [dP g 0,Pt.d x,dI th] (fun r H'=>∃ v' xs' i,xs.length≤xs'.length∧xs'.length+1≤xs.length+2*x.sz∧r=dI i∧H'=MB g tx v' fst xs')
theorem okL_drop:∀ (l:List Pt) (k:Nat),Pt.okL l→Pt.okL (l.drop k):=fun l k h=>((okL_app (l.take k) (l.drop k)).1 (by rw[List.take_append_drop];exact h)).2
theorem sz_tail {l:List Pt} {x:Pt} (h:l[0]?=some x):Pt.szL ((l.take l.length).drop 1)+x.sz=Pt.szL l:=by
 rw[List.take_length]
 have:=szL_drop l 0 h
 rw[List.drop_zero,Nat.zero_add] at this;omega
theorem ok_tail {l:List Pt} (h:Pt.okL l):Pt.okL ((l.take l.length).drop 1):=by rw[List.take_length];exact okL_drop l 1 h
theorem zez (g:Nat) (tx:D) (v:Value) (fst:Int) (xs:List StepD) (a1 a2:Bool) (it:List RngD) (a3:Bool) (a4 a5:Int) (hl:xs.length≤1000000):
 CD Tryz.prog 262 [.bx g 302 (.agg [tx,.ov v,dI fst]),.sl v 6 308 (xs.map StepD.d)] [dP g 0,.agg [dB a1,dB a2,.sh 2 (it.map RngD.d),dB a3,dI a4,dI a5]] (fun r H'=>∃ v',r=dN xs.length∧H'=[.bx g 302 (.agg [tx,.ov v',dI fst]),.sl v' 6 308 ((xs++[StepD.mk a1 a2 it a3 a4 a5]).map StepD.d)]):=by
 refine zp Tryz.func262 J (N:=21) J J (fun C=>?_)
 refine jk [0,1] J ?_
 refine JD.bd 1 J (fun bd1=>?_)
 have hap:(xs++[StepD.mk a1 a2 it a3 a4 a5]).length=xs.length+1:=by simp only[la,List.length_singleton,ln]
 refine jT J (oE J (zaY J (CellD.agg)) ?_)
 rintro _ _ ⟨g1,rfl,rfl⟩
 refine oR 1 J (oZ J (jS J (JD.subH (HSub.perm (zc (i:=2) J)) (jn J (jk [0,1,3,4] J (jn J ?_))))))
 refine jd_drawo 8 [(5,.q (dP g 0)),(6,.q (dP g 0)),(7,.q (dP g 0)),(8,.q (dP g 1)),(9,.q (.ov v)),(10,.q (.agg [dB a1,dB a2,.sh 2 (it.map RngD.d),dB a3,dI a4,dI a5])),(11,.q (.sh 6 [.agg [dB a1,dB a2,.sh 2 (it.map RngD.d),dB a3,dI a4,dI a5]])),(12,.o (fun γ=>[.sl (γ 7) 6 308 ((xs++[(StepD.mk a1 a2 it a3 a4 a5)]).map StepD.d),.bx g1 308 (.agg [dB a1,dB a2,.sh 2 (it.map RngD.d),dB a3,dI a4,dI a5]),.bx g 302 (.agg [tx,.ov v,dI fst])]))] [.bx g1 308 (.agg [dB a1,dB a2,.sh 2 (it.map RngD.d),dB a3,dI a4,dI a5]),.bx g 302 (.agg [tx,.ov v,dI fst])] (Hn:=fun γ=>[.sl (γ 7) 6 308 ((xs++[(StepD.mk a1 a2 it a3 a4 a5)]).map StepD.d),.bx g1 308 (.agg [dB a1,dB a2,.sh 2 (it.map RngD.d),dB a3,dI a4,dI a5]),.bx g 302 (.agg [tx,.ov v,dI fst])]) mixed rfl rfl (by kernel_rfl) (by kernel_rfl) (by kernel_rfl) (HSub.lst 1 rfl) (fun _=>rfl) (fun γ=>⟨so_p rfl rfl rfl (zG rfl),so_p rfl rfl rfl (zG rfl),so_p rfl rfl rfl (zbD rfl),so_p rfl rfl rfl (zd rfl fa_302_1 rfl),so_p rfl rfl rfl (ze rfl (i:=1) rfl Tryz.isAgg300 rfl),so_p rfl rfl rfl (zH (d:=.agg [dB a1,dB a2,.sh 2 (it.map RngD.d),dB a3,dI a4,dI a5]) rfl (i:=0) rfl Tryz.isAgg308 Tryz.sizeOf308 rfl rfl),so_q rfl rfl rfl (zy [.tmp 10] rfl rfl (.cons CellD.agg .nil) rfl Tryz.runUnderlying300 Tryz.sizeOf308 Tryz.zeroValue308 rfl rfl rfl rfl),so_o rfl rfl rfl rfl ((zP (f:=StepD.d) (l:=xs) (l':=[(StepD.mk a1 a2 it a3 a4 a5)]) (i:=0) rfl rfl rfl (SrcD.sh) und_300 infz_308 rfl rfl (by unfold maxLen;(try simp only[la,lc,ln,lm,lt',ld,ls,lr]);omega) (by (try simp only[la,lc,ln,lm,lt',ld,ls,lr]);omega)).mono (by rintro _ _ ⟨v,rfl,rfl⟩;exact⟨v,rfl,rfl⟩)) (fun _=>HSub.lst 1 rfl),trivial⟩) (fun γ=>?_)
 refine ok [0,1,3,4,5,6,7,8,9,10,11,12] J (oR 1 J (oP J (zd J fa_302_1 J) (oE J (zi (i:=2) (X':=.agg [tx,.ov (γ 7),dI fst]) J J J (CellD.o) Tryz.sizeOf300 J J J) ?_)))
 rintro _ _ ⟨rfl,rfl⟩
 refine on J (oZ J (jk [0,4] J (jT J (oR 2 J (oP J (zd J fa_302_1 J) (oP J (ze J (i:=2) J Tryz.isAgg300 J) (oP J (zay (n:=(xs++[(StepD.mk a1 a2 it a3 a4 a5)]).length) (j:=0) J J Tryz.runUnderlying300 (List.length_map _)) (oP J (zeA (c:=((((xs++[(StepD.mk a1 a2 it a3 a4 a5)]).length)-1:Nat):Int)) J J (zab (by omega) (by omega))) (oR 1 rfl (oZ rfl (zn rfl (PD.subH (HSub.perm (zc (i:=2) rfl)) (pn rfl (pn rfl ?_))))))))))))))
 exact zh Tryz.results262 (.cons (zx (zl J) (Cv.eq (congrArg (fun n:Int=>D.v (.int .i64 n)) (by simp only[la,List.length_singleton,ln];omega)))) .nil) rfl (HSub.fst 2 rfl) ⟨(γ 7),rfl,rfl⟩
theorem pbuild_one (g:Nat) (tx:D) (v:Value) (fst:Int) (xs:List StepD) (st:SetD) (th:Int) (hl:xs.length+2*1≤1000000):
 CD Tryz.prog 263 [.bx g 302 (.agg [tx,.ov v,dI fst]),.sl v 6 308 (xs.map StepD.d)] [dP g 0,.ifc 315 (.agg [dB st.all,dB st.nt,.sh 2 (st.items.map RngD.d)]),dI th] (fun r H'=>∃ v' xs' i,xs.length≤xs'.length∧xs'.length+1≤xs.length+2*1∧r=dI i∧H'=MB g tx v' fst xs'):=by
 refine zp Tryz.func263 J (N:=93) J J (fun C=>?_)
 refine jk [0,1,2] J (jT J (oR 1 J (oZ J (jS J (jT J (oR 1 J (oP J (zbX J (fun _ _=>by kernel_rfl)) (oR 3 rfl (oE rfl (zC (zv:=(.agg #[(.bool false),(.bool false),(.slice none 0 0)])) Tryz.zeroValue315 ⟨rfl,rfl,rfl,trivial⟩ (Cv.vagg (by decide))) ?_)))))))))
 rintro _ _ ⟨g1,rfl,rfl⟩
 refine oE J (zi (i:=0) (X':=.agg [dB st.all,dB st.nt,.sh 2 (st.items.map RngD.d)]) J J J (CellD.agg) Tryz.sizeOf315 J J J) ?_
 rintro _ _ ⟨rfl,rfl⟩
 refine on J (oR 1 J (oZ J (jT J (oR 1 J (oZ J (jCt J (jT J (oR 1 J (oP J (zd J fa_315_0 J) (oP J (zH (d:=.agg [dB st.all,dB st.nt,.sh 2 (st.items.map RngD.d)]) J (i:=0) J Tryz.isAgg306 Tryz.sizeOf306 J J) (oR 1 J (oP J (zJ [0,1,2] [.tmp 26,.const (.bool true),.tmp 27] (zv:=(.agg #[(.bool false),(.bool false),(.slice none 0 0),(.bool false),(.int .i64 0),(.int .i64 0)])) J J (.cons CellD.agg (.cons (CellD.v J) (.cons (CellD.v J) .nil))) (Tryz.runUnderlying308) Tryz.zeroValue308 zel ⟨J,J,J,J,J,J,trivial⟩ J) (OpsD.subH (HSub.perm (zc (i:=2) J)) (on J (OpsD.subH (HSub.perm (zc (i:=2) J)) (on J (oE J (zm [.bx g 302 (.agg [tx,.ov v,dI fst]),.sl v 6 308 (xs.map StepD.d)] [.bx g1 315 (.agg [dB st.all,dB st.nt,.sh 2 (st.items.map RngD.d)])] [] J J (.cons ArgC.id (.cons ArgC.id .nil)) zg Tryz.call262 (zez g (tx) v fst xs st.all st.nt st.items true th 0 (by (try simp only[la,List.length_singleton,ln]);omega)) (.inl rfl)) ?_)))))))))))))))))
 rintro _ _ ⟨_,⟨mv2,rfl,rfl⟩,rfl⟩
 have halmv2:(xs++[StepD.mk st.all st.nt st.items true th 0]).length=xs.length+1:=by simp only[la,List.length_singleton,ln]
 refine on J (oR 1 J (oZ J (jk [0,1,2,6] J (zn J (zk (pn J ?_))))))
 exact zh Tryz.results263 (.cons (zl J) .nil) J (HSub.fst 2 J) ⟨mv2,(xs++[StepD.mk st.all st.nt st.items true th 0]),((xs.length:Nat):Int),(by (try simp only[la,List.length_singleton,ln]);omega),(by (try simp only[la,List.length_singleton,Pt.sz]);omega),rfl,rfl⟩
theorem pbuild_row (g:Nat) (tx:D) (v:Value) (fst:Int) (xs:List StepD) (l:List Pt) (th:Int) (n:Nat) (ih:zeg n) (hl:xs.length+2*(Pt.szL l+1)≤1000000) (hok:Pt.okL l) (hn:Pt.szL l≤n):
 CD Tryz.prog 263 [.bx g 302 (.agg [tx,.ov v,dI fst]),.sl v 6 308 (xs.map StepD.d)] [dP g 0,.ifc 317 (.agg [.sh 1 (l.map Pt.d)]),dI th] (fun r H'=>∃ v' xs' i,xs.length≤xs'.length∧xs'.length+1≤xs.length+2*(Pt.szL l+1)∧r=dI i∧H'=MB g tx v' fst xs'):=by
 refine zp Tryz.func263 J (N:=93) J J (fun C=>?_)
 refine jk [0,1,2] J ?_
 have hll:=szL_len l
 refine jT J (oR 1 J (oZ J (jS J (jT J (oR 1 J (oP J ((zaS (zv:=(.agg #[(.bool false),(.bool false),(.slice none 0 0)])) J (fun _ _=>by kernel_rfl)).cv (Cv.tup (.cons (Cv.vagg (by decide)) (.cons Cv.rfl' .nil)))) (oR 3 rfl (oE rfl (zC (zv:=(.agg #[(.bool false),(.bool false),(.slice none 0 0)])) Tryz.zeroValue315 ⟨rfl,rfl,rfl,trivial⟩ (Cv.vagg (by decide))) ?_))))))))
 rintro _ _ ⟨g1,rfl,rfl⟩
 refine oE J (zi (i:=0) (X':=.agg [dB false,dB false,dZ]) J J J (CellD.agg) Tryz.sizeOf315 J J J) ?_
 rintro _ _ ⟨rfl,rfl⟩
 refine on J (oR 1 J (oZ J (jT J (oR 1 J (oZ J (jCf J (zt J (zj (jS J (jT J (oR 1 J (oP J (zbX J (fun _ _=>by kernel_rfl)) (oR 3 rfl (oE rfl (zC (zv:=(.agg #[(.slice none 0 0)])) Tryz.zeroValue317 ⟨rfl,trivial⟩ (Cv.vagg (by decide))) ?_))))))))))))))
 rintro _ _ ⟨g2,rfl,rfl⟩
 refine oE J (zi (i:=0) (X':=.agg [.sh 1 (l.map Pt.d)]) J J J (CellD.agg) Tryz.sizeOf317 J J J) ?_
 rintro _ _ ⟨rfl,rfl⟩
 refine on J (oR 1 J (oZ J (jk [0,1,2,6,9,10] J (jT J (oR 1 J (oZ J (jCt J (jS J (jT J (oP J (zd J zdm J) (oP J (ze J (i:=0) J Tryz.isAgg310 J) (oP J (zbf (n:=l.length) J Tryz.runUnderlying310 (by simp only[lm,lc,ln])) (oR 1 rfl (oZ rfl (jB rfl (jl4 (fun (a_:Nat) (b_:Int) (c_:Value) (d_:List StepD)=>[(0,dP g 0),(1,.ifc 317 (.agg [.sh 1 (l.map Pt.d)])),(6,dI 0),(9,dP g2 0),(38,dN l.length),(39,dN a_),(2,dI b_)]) (fun a_ b_ c_ d_=>[.bx g2 317 (.agg [.sh 1 (l.map Pt.d)]),.bx g1 315 (.agg [dB false,dB false,dZ]),.bx g 302 (.agg [tx,.ov c_,dI fst]),.sl c_ 6 308 (d_.map StepD.d)]) (fun a_ b_ c_ d_=>(a_≤l.length)∧(xs.length≤d_.length)∧(d_.length+2*Pt.szL (l.take (l.length-a_))≤xs.length+2*Pt.szL l)) (fun a_ b_ c_ d_=>l.length-a_) 0 th v xs rfl (sa rfl) HSub.rfl' ⟨Nat.zero_le _,Nat.le_refl _,(by rw[Nat.sub_zero,List.take_length];exact Nat.le_refl _)⟩ ?_))))))))))))))))
 rintro k t w ys ⟨hkl,hya,hyb⟩
 refine ja J (jn J (jT J (oP J (zN J J J) (oZ J (jS J ?_)))))
 refine jD J (fun hc3=>?_) (fun hc3=>?_)
 · skip
   refine zt J (zj (jS J (jB J (jT J (oR 2 J (oZ J (zf J (oR 1 J (oP J (zd J zdm J) (oP J (ze J (i:=0) J Tryz.isAgg310 J) (oP J (zd J zdm J) (oP J (ze J (i:=0) J Tryz.isAgg310 J) (oP J (zbf (n:=l.length) J Tryz.runUnderlying310 (by simp only[lm,lc,ln])) (oP rfl (zeA (c:=((l.length-1:Nat):Int)) rfl rfl (zab (by omega) (by omega))) (oR 1 rfl (oP rfl (zeA (c:=(((l.length-1)-k:Nat):Int)) rfl rfl (zab (by omega) (by omega))) ?_))))))))))))))))
   obtain ⟨x1,hx1⟩:=zW l ((l.length-1)-k) (by omega)
   have hxo:=okL_get hok hx1
   have hxz:=szL_mem hx1
   have hxt:=szL_take l ((l.length-1)-k) hx1
   rw[show l.length-1-k+1=l.length-k by omega] at hxt
   refine oP J (zI (k:=(l.length-1)-k) J J Tryz.runUnderlying310 Tryz.sizeOf20 (by first | rfl | omega) (zK hx1)) (oP rfl (zar rfl Tryz.isAgg20 rfl) (oR 1 rfl (OpsD.subH (HSub.perm (zc (i:=3) rfl)) (on rfl (OpsD.subH (HSub.perm (zc (i:=3) rfl)) (on rfl (oE rfl (zm [.bx g 302 (.agg [tx,.ov w,dI fst]),.sl w 6 308 (ys.map StepD.d)] [.bx g2 317 (.agg [.sh 1 (l.map Pt.d)]),.bx g1 315 (.agg [dB false,dB false,dZ])] [] rfl rfl (.cons ArgC.id (.cons ArgC.id (.cons ArgC.id .nil))) zg Tryz.call263 (ih g (tx) w fst ys x1 t hxo (by omega) (by (try simp only[la,List.length_singleton,ln]);omega)) (.inl rfl)) ?_)))))))
   rintro _ _ ⟨_,⟨mv4,ys4,bi4,hba4,hbb4,rfl,rfl⟩,rfl⟩
   refine on J (oR 1 J (zq J (zB (zj (zf J (oP J (zaz (c:=((k+1:Nat):Int)) J J (zab (by omega) (by omega))) (oR 1 rfl (zq rfl (PD.subH (HSub.perm (zc (i:=1) rfl)) (pn rfl (PD.subH (HSub.perm (zc (i:=1) rfl)) (pn rfl (PD.subH (HSub.perm (zc (i:=3) rfl)) (pn rfl (PD.subH (HSub.perm (zc (i:=3) rfl)) (pn rfl (pn rfl ?_)))))))))))))))))
   exact pl4 (k+1) bi4 mv4 ys4 (sa J) HSub.rfl' ⟨by show k+1≤l.length;omega,by show xs.length≤ys4.length;omega,by show ys4.length+2*Pt.szL (l.take (l.length-(k+1)))≤_;rw[show l.length-(k+1)=l.length-1-k by omega];omega⟩ (by omega)
 · skip
   refine zF J (zw (zu (zr (zj (jT J (oR 2 J (oZ J (zn J (zk (PD.subH (HSub.perm (zc (i:=3) J)) (pn J (PD.subH (HSub.perm (zc (i:=3) J)) (pn J (pn J ?_))))))))))))))
   exact zh Tryz.results263 (.cons (zl J) .nil) J (HSub.fst 2 J) ⟨w,ys,t,(by (try simp only[la,List.length_singleton,ln]);omega),(by (try simp only[la,List.length_singleton,Pt.sz]);omega),rfl,rfl⟩
theorem pagain_s (g:Nat) (tx:D) (v:Value) (fst:Int) (xs:List StepD) (x:Pt) (rn ra:Bool) (th:Int) (n:Nat) (ih:zeg n) (hl:xs.length+2*(x.sz+1)≤1000000) (hok:x.ok) (hn:x.sz≤n):
 CD Tryz.prog 267 [.bx g 302 (.agg [tx,.ov v,dI fst]),.sl v 6 308 (xs.map StepD.d)] [dP g 0,.agg [Pt.d x,dB rn,dB ra],dI th] (fun r H'=>∃ v' xs' i,xs.length≤xs'.length∧xs'.length+1≤xs.length+2*(x.sz+1)∧r=dI i∧H'=MB g tx v' fst xs'):=by
 refine zp Tryz.func267 J (N:=43) J J (fun C=>?_)
 refine jk [0,1,2] J ?_
 refine JD.bd 1 J (fun bd1=>?_)
 refine jT J (oE J (zaY J (CellD.agg)) ?_)
 rintro _ _ ⟨g1,rfl,rfl⟩
 refine oR 1 J (oZ J (jS J (jT J (oP J (zd J fa_320_2 J) (oP J (ze J (i:=0) J Tryz.isAgg4 J) (oP J (zaZ J) (oZ J ?_)))))))
 refine jC J (fun hc2=>?_) (fun hc2=>?_)
 · simp only[bA,bB,bC,bD,bE,bF,bG,bH,bI,bJ] at hc2
   refine jT J (oR 2 J (oP J (zd J fa_320_0 J) (oP J (ze J (i:=0) J Tryz.isAgg20 J) (oR 1 J (OpsD.subH (HSub.perm (zc (i:=2) J)) (on J (OpsD.subH (HSub.perm (zc (i:=2) J)) (on J (oE J (zm [.bx g 302 (.agg [tx,.ov v,dI fst]),.sl v 6 308 (xs.map StepD.d)] [.bx g1 320 (.agg [Pt.d x,dB rn,dB ra])] [] J J (.cons ArgC.id (.cons ArgC.id (.cons ArgC.id .nil))) zg Tryz.call263 (ih g (tx) v fst xs x th hok hn (by (try simp only[la,List.length_singleton,ln]);omega)) (.inl rfl)) ?_)))))))))
   rintro _ _ ⟨_,⟨mv3,ys3,bi3,hba3,hbb3,rfl,rfl⟩,rfl⟩
   refine on J (oR 1 J (oP J (zJ [2,3] [.tmp 17,.tmp 18] (zv:=(.agg #[(.bool false),(.bool false),(.slice none 0 0),(.bool false),(.int .i64 0),(.int .i64 0)])) J J (.cons (CellD.v J) (.cons (CellD.v J) .nil)) (Tryz.runUnderlying308) Tryz.zeroValue308 zel ⟨J,J,J,J,J,J,trivial⟩ J) (oE J (zm [.bx g 302 (.agg [tx,.ov mv3,dI fst]),.sl mv3 6 308 (ys3.map StepD.d)] [.bx g1 320 (.agg [Pt.d x,dB rn,dB ra])] [] J J (.cons ArgC.id (.cons (ArgC.cv (Cv.agg (.cons Cv.rfl' (.cons Cv.rfl' (.cons Cv.nil (.cons Cv.rfl' (.cons Cv.rfl' (.cons Cv.rfl' .nil)))))))) .nil)) zg Tryz.call262 (zez g (tx) mv3 fst ys3 false false [] false bi3 th (by (try simp only[la,List.length_singleton,ln]);omega)) (.inl rfl)) ?_)))
   rintro _ _ ⟨_,⟨mv4,rfl,rfl⟩,rfl⟩
   have halmv4:(ys3++[StepD.mk false false [] false bi3 th]).length=ys3.length+1:=by simp only[la,List.length_singleton,ln]
   refine on J (oR 1 J (oZ J (jk [0,2,4,6] J (zn J (zk (pn J ?_))))))
   exact zh Tryz.results267 (.cons (zl J) .nil) J (HSub.fst 2 J) ⟨mv4,(ys3++[StepD.mk false false [] false bi3 th]),((ys3.length:Nat):Int),(by (try simp only[la,List.length_singleton,ls]);omega),(by (try simp only[la,List.length_singleton,ls]);omega),rfl,rfl⟩
 · simp only[bA,bB,bC,bD,bE,bF,bG,bH,bI,bJ] at hc2
   refine zt J (zj (jT J (oR 3 J (oP J (zJ [2,3] [.tmp 22,.tmp 23] (zv:=(.agg #[(.bool false),(.bool false),(.slice none 0 0),(.bool false),(.int .i64 0),(.int .i64 0)])) J J (.cons (CellD.v J) (.cons (CellD.v J) .nil)) (Tryz.runUnderlying308) Tryz.zeroValue308 zel ⟨J,J,J,J,J,J,trivial⟩ J) (OpsD.subH (HSub.perm (zc (i:=2) J)) (on J (OpsD.subH (HSub.perm (zc (i:=2) J)) (on J (oE J (zm [.bx g 302 (.agg [tx,.ov v,dI fst]),.sl v 6 308 (xs.map StepD.d)] [.bx g1 320 (.agg [Pt.d x,dB rn,dB ra])] [] J J (.cons ArgC.id (.cons (ArgC.cv (Cv.agg (.cons Cv.rfl' (.cons Cv.rfl' (.cons Cv.nil (.cons Cv.rfl' (.cons Cv.rfl' (.cons Cv.rfl' .nil)))))))) .nil)) zg Tryz.call262 (zez g (tx) v fst xs false false [] false th th (by (try simp only[la,List.length_singleton,ln]);omega)) (.inl rfl)) ?_)))))))))
   rintro _ _ ⟨_,⟨mv5,rfl,rfl⟩,rfl⟩
   have halmv5:(xs++[StepD.mk false false [] false th th]).length=xs.length+1:=by simp only[la,List.length_singleton,ln]
   refine on J (oR 1 J (oZ J (jk [0,4,6,7] J (jT J (oR 1 J (oP J (zd J fa_320_0 J) (oP J (ze J (i:=2) J Tryz.isAgg20 J) (oR 1 J (oE J (zm [.bx g 302 (.agg [tx,.ov mv5,dI fst]),.sl mv5 6 308 ((xs++[StepD.mk false false [] false th th]).map StepD.d)] [.bx g1 320 (.agg [Pt.d x,dB rn,dB ra])] [] J J (.cons ArgC.id (.cons ArgC.id (.cons ArgC.id .nil))) zg Tryz.call263 (ih g (tx) mv5 fst (xs++[StepD.mk false false [] false th th]) x ((xs.length:Nat):Int) hok hn (by (try simp only[la,List.length_singleton,ln]);omega)) (.inl rfl)) ?_)))))))))
   rintro _ _ ⟨_,⟨mv6,ys6,bi6,hba6,hbb6,rfl,rfl⟩,rfl⟩
   refine on J (oR 1 J (oZ J (jS J ?_)))
   have htn:xs.length<ys6.length:=by omega
   refine zf J (oR 2 J (oP J (zd J fa_302_1 J) (oP J (ze J (i:=0) J Tryz.isAgg300 J) (oR 2 J ?_))))
   obtain ⟨x1,hx1⟩:=zW ys6 xs.length (by omega)
   refine oP J (zT (k:=xs.length) (j:=1) J J J Tryz.runUnderlying300 Tryz.sizeOf308 (by first | rfl | omega) (zK hx1)) (oP rfl (zd rfl fa_308_2 rfl) (oE rfl (ef_store_m (f:=StepD.d) (k:=xs.length) (z:=6) (o:=4) (i:=1) (a':=(StepD.mk x1.all x1.nt x1.items x1.rn bi6 x1.b)) rfl rfl hx1 rfl (CellD.v rfl) Tryz.sizeOf3 rfl rfl rfl) ?_))
   rintro _ _ ⟨rfl,rfl⟩
   refine on J (oZ J (jk [4,6,7,8] J (jS J (jT J (oP J (zd J fa_320_1 J) (oP J (ze J (i:=2) J Tryz.isAgg4 J) (oZ J ?_)))))))
   refine jC J (fun hc7=>?_) (fun hc7=>?_)
   · skip
     refine jT J (oR 2 J (oZ J (zn J (zk (pn J ?_)))))
     exact zh Tryz.results267 (.cons (zl J) .nil) J (HSub.fst 2 J) ⟨mv6,(ys6.set xs.length (StepD.mk x1.all x1.nt x1.items x1.rn bi6 x1.b)),((xs.length:Nat):Int),(by (try simp only[la,List.length_singleton,ls]);omega),(by (try simp only[la,List.length_singleton,ls]);omega),rfl,rfl⟩
   · skip
     refine zt J (zj (jT J (oR 2 J (oZ J (zn J (pn J ?_))))))
     exact zh Tryz.results267 (.cons (zl J) .nil) J (HSub.fst 2 J) ⟨mv6,(ys6.set xs.length (StepD.mk x1.all x1.nt x1.items x1.rn bi6 x1.b)),bi6,(by (try simp only[la,List.length_singleton,ls]);omega),(by (try simp only[la,List.length_singleton,ls]);omega),rfl,rfl⟩
theorem pbuild_rep (g:Nat) (tx:D) (v:Value) (fst:Int) (xs:List StepD) (x:Pt) (rn ra:Bool) (th:Int) (n:Nat) (ih:zeg n) (hl:xs.length+2*(x.sz+1)≤1000000) (hok:x.ok) (hn:x.sz≤n):
 CD Tryz.prog 263 [.bx g 302 (.agg [tx,.ov v,dI fst]),.sl v 6 308 (xs.map StepD.d)] [dP g 0,.ifc 320 (.agg [Pt.d x,dB rn,dB ra]),dI th] (fun r H'=>∃ v' xs' i,xs.length≤xs'.length∧xs'.length+1≤xs.length+2*(x.sz+1)∧r=dI i∧H'=MB g tx v' fst xs'):=by
 refine zp Tryz.func263 J (N:=93) J J (fun C=>?_)
 refine jk [0,1,2] J (jT J (oR 1 J (oZ J (jS J (jT J (oR 1 J (oP J ((zaS (zv:=(.agg #[(.bool false),(.bool false),(.slice none 0 0)])) J (fun _ _=>by kernel_rfl)).cv (Cv.tup (.cons (Cv.vagg (by decide)) (.cons Cv.rfl' .nil)))) (oR 3 rfl (oE rfl (zC (zv:=(.agg #[(.bool false),(.bool false),(.slice none 0 0)])) Tryz.zeroValue315 ⟨rfl,rfl,rfl,trivial⟩ (Cv.vagg (by decide))) ?_)))))))))
 rintro _ _ ⟨g1,rfl,rfl⟩
 refine oE J (zi (i:=0) (X':=.agg [dB false,dB false,dZ]) J J J (CellD.agg) Tryz.sizeOf315 J J J) ?_
 rintro _ _ ⟨rfl,rfl⟩
 refine on J (oR 1 J (oZ J (jT J (oR 1 J (oZ J (jCf J (zt J (zj (jS J (jT J (oR 1 J (oP J ((zaS (zv:=(.agg #[(.slice none 0 0)])) J (fun _ _=>by kernel_rfl)).cv (Cv.tup (.cons (Cv.vagg (by decide)) (.cons Cv.rfl' .nil)))) (oR 3 rfl (oE rfl (zC (zv:=(.agg #[(.slice none 0 0)])) Tryz.zeroValue317 ⟨rfl,trivial⟩ (Cv.vagg (by decide))) ?_))))))))))))))
 rintro _ _ ⟨g2,rfl,rfl⟩
 refine oE J (zi (i:=0) (X':=.agg [dZ]) J J J (CellD.agg) Tryz.sizeOf317 J J J) ?_
 rintro _ _ ⟨rfl,rfl⟩
 refine on J (oR 1 J (oZ J (jk [0,1,2,6,9,10] J (jT J (oR 1 J (oZ J (jCf J (zt J (zj (jS J (jT J (oR 1 J (oP J (zbX J (fun _ _=>by kernel_rfl)) (oR 3 rfl (oE rfl (zC (zv:=(.agg #[.nilIface,(.bool false),(.bool false)])) Tryz.zeroValue320 ⟨rfl,rfl,rfl,trivial⟩ (Cv.vagg (by decide))) ?_)))))))))))))))
 rintro _ _ ⟨g3,rfl,rfl⟩
 refine oE J (zi (i:=0) (X':=.agg [Pt.d x,dB rn,dB ra]) J J J (CellD.agg) Tryz.sizeOf320 J J J) ?_
 rintro _ _ ⟨rfl,rfl⟩
 refine on J (oR 1 J (oZ J (jT J (oR 1 J (oZ J (jk [0,1,2,6,12,62] J (jCt J (jT J (oR 1 J (oP J (zH (d:=.agg [Pt.d x,dB rn,dB ra]) J (i:=0) J Tryz.isAgg320 Tryz.sizeOf320 J J) (oR 1 J (OpsD.subH (HSub.perm (zc (i:=4) J)) (on J (OpsD.subH (HSub.perm (zc (i:=4) J)) (on J (oE J (zm [.bx g 302 (.agg [tx,.ov v,dI fst]),.sl v 6 308 (xs.map StepD.d)] [.bx g3 320 (.agg [Pt.d x,dB rn,dB ra]),.bx g2 317 (.agg [dZ]),.bx g1 315 (.agg [dB false,dB false,dZ])] [] J J (.cons ArgC.id (.cons ArgC.id (.cons ArgC.id .nil))) zg Tryz.call267 (pagain_s g (tx) v fst xs x rn ra th n ih (by omega) hok hn) (.inl rfl)) ?_))))))))))))))))
 rintro _ _ ⟨_,⟨mv4,ys4,bi4,hba4,hbb4,rfl,rfl⟩,rfl⟩
 refine on J (oR 1 J (oZ J (zn J (zk (pn J ?_)))))
 exact zh Tryz.results263 (.cons (zl J) .nil) J (HSub.fst 2 J) ⟨mv4,ys4,bi4,(by (try simp only[la,List.length_singleton,ln]);omega),(by (try simp only[la,List.length_singleton,Pt.sz]);omega),rfl,rfl⟩
theorem pbuild_alt (g:Nat) (tx:D) (v:Value) (fst:Int) (xs:List StepD) (l:List Pt) (th:Int) (n:Nat) (ih:zeg n) (hl:xs.length+2*(Pt.szL l+1)≤1000000) (hok:Pt.okL l) (hne:0<l.length) (hn:Pt.szL l≤n):
 CD Tryz.prog 263 [.bx g 302 (.agg [tx,.ov v,dI fst]),.sl v 6 308 (xs.map StepD.d)] [dP g 0,.ifc 312 (.agg [.sh 1 (l.map Pt.d)]),dI th] (fun r H'=>∃ v' xs' i,xs.length≤xs'.length∧xs'.length+1≤xs.length+2*(Pt.szL l+1)∧r=dI i∧H'=MB g tx v' fst xs'):=by
 refine zp Tryz.func263 J (N:=93) J J (fun C=>?_)
 refine jk [0,1,2] J ?_
 have hll:=szL_len l
 refine jT J (oR 1 J (oZ J (jS J (jT J (oR 1 J (oP J ((zaS (zv:=(.agg #[(.bool false),(.bool false),(.slice none 0 0)])) J (fun _ _=>by kernel_rfl)).cv (Cv.tup (.cons (Cv.vagg (by decide)) (.cons Cv.rfl' .nil)))) (oR 3 rfl (oE rfl (zC (zv:=(.agg #[(.bool false),(.bool false),(.slice none 0 0)])) Tryz.zeroValue315 ⟨rfl,rfl,rfl,trivial⟩ (Cv.vagg (by decide))) ?_))))))))
 rintro _ _ ⟨g1,rfl,rfl⟩
 refine oE J (zi (i:=0) (X':=.agg [dB false,dB false,dZ]) J J J (CellD.agg) Tryz.sizeOf315 J J J) ?_
 rintro _ _ ⟨rfl,rfl⟩
 refine on J (oR 1 J (oZ J (jT J (oR 1 J (oZ J (jCf J (zt J (zj (jS J (jT J (oR 1 J (oP J ((zaS (zv:=(.agg #[(.slice none 0 0)])) J (fun _ _=>by kernel_rfl)).cv (Cv.tup (.cons (Cv.vagg (by decide)) (.cons Cv.rfl' .nil)))) (oR 3 rfl (oE rfl (zC (zv:=(.agg #[(.slice none 0 0)])) Tryz.zeroValue317 ⟨rfl,trivial⟩ (Cv.vagg (by decide))) ?_))))))))))))))
 rintro _ _ ⟨g2,rfl,rfl⟩
 refine oE J (zi (i:=0) (X':=.agg [dZ]) J J J (CellD.agg) Tryz.sizeOf317 J J J) ?_
 rintro _ _ ⟨rfl,rfl⟩
 refine on J (oR 1 J (oZ J (jk [0,1,2,6,9,10] J (jT J (oR 1 J (oZ J (jCf J (zt J (zj (jS J (jT J (oR 1 J (oP J ((zaS (zv:=(.agg #[.nilIface,(.bool false),(.bool false)])) J (fun _ _=>by kernel_rfl)).cv (Cv.tup (.cons (Cv.vagg (by decide)) (.cons Cv.rfl' .nil)))) (oR 3 rfl (oE rfl (zC (zv:=(.agg #[.nilIface,(.bool false),(.bool false)])) Tryz.zeroValue320 ⟨rfl,rfl,rfl,trivial⟩ (Cv.vagg (by decide))) ?_)))))))))))))))
 rintro _ _ ⟨g3,rfl,rfl⟩
 refine oE J (zi (i:=0) (X':=.agg [.v .nilIface,dB false,dB false]) J J J (CellD.agg) Tryz.sizeOf320 J J J) ?_
 rintro _ _ ⟨rfl,rfl⟩
 refine on J (oR 1 J (oZ J (jT J (oR 1 J (oZ J (jk [0,1,2,6,12,62] J (jCf J (zt J (zj (jT J (oR 1 J (oP J (p_assert_1 J (fun _ _=>by kernel_rfl)) (oP rfl (p_field rfl rfl rfl fg_312_0 rfl) (oR 1 rfl (oZ rfl (jT rfl (oR 2 rfl ?_)))))))))))))))))
 obtain ⟨x1,hx1⟩:=zW l 0 (by omega)
 have hxo:=okL_get hok hx1
 have hxz:=szL_mem hx1
 have hlt:=sz_tail hx1
 have hlo:=ok_tail hok
 have hlq:=szL_len ((l.take l.length).drop 1)
 refine oP J (zI (k:=0) J J Tryz.runUnderlying310 Tryz.sizeOf20 (by first | rfl | omega) (zK hx1)) (oP rfl (zar rfl Tryz.isAgg20 rfl) (oR 1 rfl (OpsD.subH (HSub.perm (zc (i:=4) rfl)) (on rfl (OpsD.subH (HSub.perm (zc (i:=4) rfl)) (on rfl (oE rfl (zm [.bx g 302 (.agg [tx,.ov v,dI fst]),.sl v 6 308 (xs.map StepD.d)] [.bx g3 320 (.agg [.v .nilIface,dB false,dB false]),.bx g2 317 (.agg [dZ]),.bx g1 315 (.agg [dB false,dB false,dZ])] [] rfl rfl (.cons ArgC.id (.cons ArgC.id (.cons ArgC.id .nil))) zg Tryz.call263 (ih g (tx) v fst xs x1 th hxo (by omega) (by (try simp only[la,List.length_singleton,ln]);omega)) (.inl rfl)) ?_)))))))
 rintro _ _ ⟨_,⟨mv4,ys4,bi4,hba4,hbb4,rfl,rfl⟩,rfl⟩
 refine on J (oR 1 J (oZ J (jk [0,2,6,14,15] J (jS J (jT J (oR 1 J (oP J ((zd7 (a:=1) (b:=l.length) J J J (by first | rfl | (show _=_;(try simp only[lm]);omega) | exact List.length_map _) (by first | rfl | (show _=_;(try simp only[lm]);omega) | exact List.length_map _) Tryz.runUnderlying310 Tryz.sizeOf20 (by omega) (by simp only[lm];omega)).cv (Cv.eq (by rw[←List.map_take,←List.map_drop]))) (oP rfl (zbf (n:=((l.take l.length).drop 1).length) rfl Tryz.runUnderlying310 (by simp only[lm,lc,ln])) (oR 1 rfl (oZ rfl (jB rfl (JD.subH (HSub.perm (zc (i:=1) rfl)) (jn rfl (JD.subH (HSub.perm (zc (i:=1) rfl)) (jn rfl (JD.subH (HSub.perm (zc (i:=4) rfl)) (jn rfl (JD.subH (HSub.perm (zc (i:=4) rfl)) (jn rfl (JD.subH (HSub.perm (zc (i:=4) rfl)) (jn rfl ?_)))))))))))))))))))))
 refine jl4 (fun (a_:Nat) (b_:Int) (c_:Value) (d_:List StepD)=>[(0,dP g 0),(2,dI th),(6,dI 0),(77,.sh 1 (((l.take l.length).drop 1).map Pt.d)),(78,dN (((l.take l.length).drop 1).length)),(79,dN a_),(15,dI b_)]) (fun a_ b_ c_ d_=>[.bx g3 320 (.agg [.v .nilIface,dB false,dB false]),.bx g2 317 (.agg [dZ]),.bx g1 315 (.agg [dB false,dB false,dZ]),.bx g 302 (.agg [tx,.ov c_,dI fst]),.sl c_ 6 308 (d_.map StepD.d)]) (fun a_ b_ c_ d_=>(a_≤((l.take l.length).drop 1).length)∧(xs.length≤d_.length)∧(d_.length+1+2*Pt.szL (((l.take l.length).drop 1).drop a_)≤xs.length+2*Pt.szL l)) (fun a_ b_ c_ d_=>((l.take l.length).drop 1).length-a_) 0 bi4 mv4 ys4 J (sa J) HSub.rfl' ⟨Nat.zero_le _,(by omega),(by rw[List.drop_zero];omega)⟩ ?_
 rintro k t w ys ⟨hkl,hya,hyb⟩
 refine ja J (jn J (jT J (oP J (zN J J J) (oZ J (jS J ?_)))))
 refine jD J (fun hc5=>?_) (fun hc5=>?_)
 · skip
   refine zt J (zj (jS J (jB J (jT J ?_))))
   obtain ⟨x2,hx2⟩:=zW ((l.take l.length).drop 1) k (by omega)
   have hyo:=okL_get hlo hx2
   have hyz:=szL_mem hx2
   have hyd:=szL_drop _ k hx2
   refine oP J (zI (k:=k) J J Tryz.runUnderlying310 Tryz.sizeOf20 (by first | rfl | omega) (zK hx2)) (oP rfl (zar rfl Tryz.isAgg20 rfl) (oR 1 rfl (oZ rfl (zf rfl (oR 5 rfl (OpsD.subH (HSub.perm (zc (i:=4) rfl)) (on rfl (OpsD.subH (HSub.perm (zc (i:=4) rfl)) (on rfl (oE rfl (zm [.bx g 302 (.agg [tx,.ov w,dI fst]),.sl w 6 308 (ys.map StepD.d)] [.bx g3 320 (.agg [.v .nilIface,dB false,dB false]),.bx g2 317 (.agg [dZ]),.bx g1 315 (.agg [dB false,dB false,dZ])] [] rfl rfl (.cons ArgC.id (.cons ArgC.id (.cons ArgC.id .nil))) zg Tryz.call263 (ih g (tx) w fst ys x2 th hyo (by omega) (by (try simp only[la,List.length_singleton,ln]);omega)) (.inl rfl)) ?_))))))))))
   rintro _ _ ⟨_,⟨mv6,ys6,bi6,hba6,hbb6,rfl,rfl⟩,rfl⟩
   refine on J (oP J (zJ [2,3] [.tmp 84,.tmp 88] (zv:=(.agg #[(.bool false),(.bool false),(.slice none 0 0),(.bool false),(.int .i64 0),(.int .i64 0)])) J J (.cons (CellD.v J) (.cons (CellD.v J) .nil)) (Tryz.runUnderlying308) Tryz.zeroValue308 zel ⟨J,J,J,J,J,J,trivial⟩ J) (oE J (zm [.bx g 302 (.agg [tx,.ov mv6,dI fst]),.sl mv6 6 308 (ys6.map StepD.d)] [.bx g3 320 (.agg [.v .nilIface,dB false,dB false]),.bx g2 317 (.agg [dZ]),.bx g1 315 (.agg [dB false,dB false,dZ])] [] J J (.cons ArgC.id (.cons (ArgC.cv (Cv.agg (.cons Cv.rfl' (.cons Cv.rfl' (.cons Cv.nil (.cons Cv.rfl' (.cons Cv.rfl' (.cons Cv.rfl' .nil)))))))) .nil)) zg Tryz.call262 (zez g (tx) mv6 fst ys6 false false [] false t bi6 (by (try simp only[la,List.length_singleton,ln]);omega)) (.inl rfl)) ?_))
   rintro _ _ ⟨_,⟨mv7,rfl,rfl⟩,rfl⟩
   have halmv7:(ys6++[StepD.mk false false [] false t bi6]).length=ys6.length+1:=by simp only[la,List.length_singleton,ln]
   refine on J (oR 1 J (zq J (zB (zj (zf J (oP J (zaz (c:=((k+1:Nat):Int)) J J (zab (by omega) (by omega))) (oR 1 rfl (zq rfl (PD.subH (HSub.perm (zc (i:=1) rfl)) (pn rfl (PD.subH (HSub.perm (zc (i:=1) rfl)) (pn rfl (PD.subH (HSub.perm (zc (i:=4) rfl)) (pn rfl (PD.subH (HSub.perm (zc (i:=4) rfl)) (pn rfl (PD.subH (HSub.perm (zc (i:=4) rfl)) (pn rfl (pn rfl ?_)))))))))))))))))))
   exact pl4 (k+1) ((ys6.length:Nat):Int) mv7 (ys6++[StepD.mk false false [] false t bi6]) (sa J) HSub.rfl' ⟨by show k+1≤((l.take l.length).drop 1).length;omega,by simp only[la,List.length_singleton,ln];omega,by simp only[la,List.length_singleton,ln];omega⟩ (by omega)
 · skip
   refine zF J (zw (zu (zr (zj (jT J (oR 2 J (oZ J (zn J (PD.subH (HSub.perm (zc (i:=4) J)) (pn J (PD.subH (HSub.perm (zc (i:=4) J)) (pn J (pn J ?_)))))))))))))
   exact zh Tryz.results263 (.cons (zl J) .nil) J (HSub.fst 2 J) ⟨w,ys,t,(by (try simp only[la,List.length_singleton,ln]);omega),(by (try simp only[la,List.length_singleton,Pt.sz]);omega),rfl,rfl⟩
theorem buildOk:∀ n:Nat,zeg n
 | 0=>fun g tx v fst xs x th hok hz=>absurd hz (by have:=sz_pos x;omega)
 | n+1=>fun g tx v fst xs x th hok hz hl=>by
  cases x with
  | one st=>exact pbuild_one g tx v fst xs st th hl
  | row l=>
   rw[←row_d]
   exact pbuild_row g tx v fst xs l th n (buildOk n) hl hok (by simp only[Pt.sz] at hz;omega)
  | alt l=>
   rw[←alt_d]
   exact pbuild_alt g tx v fst xs l th n (buildOk n) hl hok.2 (List.length_pos_iff.2 hok.1) (by simp only[Pt.sz] at hz;omega)
  | rep x a b=>exact pbuild_rep g tx v fst xs x a b th n (buildOk n) hl hok (by simp only[Pt.sz] at hz;omega)
end Lp
set_option linter.unusedSimpArgs false
set_option linter.unusedVariables false
set_option maxHeartbeats 4000000
set_option maxRecDepth 100000
namespace Lp
open Go Go.RowKit Go.Proofs
namespace HdYtheccaeefigajaaGreatDoorV96
theorem bd_291:∀ w,((#[⟨"m",65,0,false, "", "leporello/store",0⟩,⟨"p",289,3,false, "", "leporello/store",40⟩]:Array Field).mapM fun f=>do pure (f.offset,←Go.sizeOf f.type):Sem (Array (Nat×Nat))).run Tryz.prog w=.ok ([(0,3),(3,1)]:List (Nat×Nat)).toArray w:=fun _=>by kernel_rfl
theorem bd_298:∀ w,((#[⟨"l",130,0,false, "", "leporello/pattern",0⟩,⟨"bad",4,1,false, "", "leporello/pattern",24⟩]:Array Field).mapM fun f=>do pure (f.offset,←Go.sizeOf f.type):Sem (Array (Nat×Nat))).run Tryz.prog w=.ok ([(0,1),(1,1)]:List (Nat×Nat)).toArray w:=fun _=>by kernel_rfl
theorem bd_302:∀ w,((#[⟨"text",9,0,false, "", "leporello/pattern",0⟩,⟨"steps",300,1,false, "", "leporello/pattern",16⟩,⟨"first",3,2,false, "", "leporello/pattern",40⟩]:Array Field).mapM fun f=>do pure (f.offset,←Go.sizeOf f.type):Sem (Array (Nat×Nat))).run Tryz.prog w=.ok ([(0,1),(1,1),(2,1)]:List (Nat×Nat)).toArray w:=fun _=>by kernel_rfl
theorem zel:∀ w,((#[⟨"s",306,0,false, "", "leporello/pattern",0⟩,⟨"rune",4,3,false, "", "leporello/pattern",32⟩,⟨"a",3,4,false, "", "leporello/pattern",40⟩,⟨"b",3,5,false, "", "leporello/pattern",48⟩]:Array Field).mapM fun f=>do pure (f.offset,←Go.sizeOf f.type):Sem (Array (Nat×Nat))).run Tryz.prog w=.ok ([(0,3),(3,1),(4,1),(5,1)]:List (Nat×Nat)).toArray w:=fun _=>by kernel_rfl
theorem za4 (b o:Nat):∀ w,(Instr.fieldAt 298 (.pointer (some ⟨b,o,none⟩)) 0).run Tryz.prog w=.ok (.pointer (some ⟨b,o+0,none⟩)) w:=fun _=>by kernel_rfl
theorem zaG (b o:Nat):∀ w,(Instr.fieldAt 298 (.pointer (some ⟨b,o,none⟩)) 1).run Tryz.prog w=.ok (.pointer (some ⟨b,o+1,none⟩)) w:=fun _=>by kernel_rfl
theorem fa_302_2 (b o:Nat):∀ w,(Instr.fieldAt 302 (.pointer (some ⟨b,o,none⟩)) 2).run Tryz.prog w=.ok (.pointer (some ⟨b,o+2,none⟩)) w:=fun _=>by kernel_rfl
theorem fa_65_0 (b o:Nat):∀ w,(Instr.fieldAt 65 (.pointer (some ⟨b,o,none⟩)) 0).run Tryz.prog w=.ok (.pointer (some ⟨b,o+0,none⟩)) w:=fun _=>by kernel_rfl
theorem zdQ (b o:Nat):∀ w,(Instr.fieldAt 65 (.pointer (some ⟨b,o,none⟩)) 1).run Tryz.prog w=.ok (.pointer (some ⟨b,o+1,none⟩)) w:=fun _=>by kernel_rfl
theorem fa_65_2 (b o:Nat):∀ w,(Instr.fieldAt 65 (.pointer (some ⟨b,o,none⟩)) 2).run Tryz.prog w=.ok (.pointer (some ⟨b,o+2,none⟩)) w:=fun _=>by kernel_rfl
end HdYtheccaeefigajaaGreatDoorV96
open HdYtheccaeefigajaaGreatDoorV96
noncomputable def patE (s:ByteArray):Int:=if 40<(zah s).length then 1 else if patR (zah s)=true then 0 else 2
theorem pat_e {s:ByteArray} {x:Pt} {s1:PR} (e:(x,s1)=altF ((zah s).length+1) ⟨zah s,false⟩):patR (zah s)=(decide ((zah s).length≤40)&&!s1.b&&decide (s1.l=[])):=by unfold patR;rw[←e]
theorem pat_long {s:ByteArray} (h:40<(zah s).length):1=patE s:=by unfold patE;rw[if_pos h]
theorem pat_bad {s:ByteArray} {x:Pt} {s1:PR} (e:(x,s1)=altF ((zah s).length+1) ⟨zah s,false⟩) (h:¬40<(zah s).length) (hb:s1.b=true∨0<s1.l.length):2=patE s:=by
 unfold patE;rw[if_neg h,if_neg];rw[pat_e e]
 rcases hb with hb | hb
 · rw[hb];simp
 · rw[decide_eq_false (List.ne_nil_of_length_pos hb)];simp
theorem pat_good {s:ByteArray} {x:Pt} {s1:PR} (e:(x,s1)=altF ((zah s).length+1) ⟨zah s,false⟩) (h:¬40<(zah s).length) (hb:s1.b=false∧s1.l.length=0):0=patE s:=by
 unfold patE;rw[if_neg h,if_pos];rw[pat_e e,hb.1,decide_eq_true (List.length_eq_zero_iff.1 hb.2),decide_eq_true (by omega)];rfl
theorem pt_facts {f:Nat} {s s':PR} {x:Pt} (e:(x,s')=altF f s):x.sz+3*s'.l.length≤3*s.l.length+2∧x.ok:=by
 have h:=altF_sz f s
 rw[←e] at h;exact h
theorem Cv.any {u:Value} (h:u.oneCell'=true):Cv (.v u) .any:=⟨fun _ _ _ e=>by rw[show _=u from e];exact h⟩
theorem Cv.oany {u:Value}:Cv (.ov u) .any:=⟨fun _ _ _ e=>by rw[e.1];exact e.2⟩
theorem runes_ok (s:ByteArray):ROk (zah s):=by
 have key:∀ (n p:Nat),s.size-p=n→ROk (zaW s p):=by
  intro n
  induction n using Nat.strongRecOn with
  | _ n ih=>
   intro p hn
   by_cases hp:p<s.size
   · have hw:=zY s p
     rw[zaO hp]
     intro c hc
     rcases List.mem_cons.1 hc with rfl | hc
     · have:=zcM s p;omega
     · exact ih (s.size-(p+decW s p)) (by omega) _ rfl c hc
   · rw[zbb (by omega)];intro c hc;cases hc
 exact key _ 0 J
theorem patE_0 (s:ByteArray):decide (patE s=0)=patR (zah s):=by
 unfold patE
 split
 · rename_i h;unfold patR;rw[decide_eq_false (by omega:¬(zah s).length≤40)];simp
 · split
   · rename_i h;rw[h];rfl
   · rename_i h;simp[h]
theorem pcompile_c (s:ByteArray) (hs:s.size≤1000000):
 CD Tryz.prog 259 [] [.s s] (fun r H'=>r=.tup [.any,dI (patE s)]∧H'=[]):=by
 refine zp Tryz.func259 J (N:=45) J J (fun C=>?_)
 refine jk [0] J ?_
 refine JD.bd 0 J (fun bd0=>?_)
 have sz0:s.size≤9223372036854775807:=bd0
 have hrl:=runesAt_len s _ 0 J
 have hrl2:(zah s).length≤s.size:=by have e:(zah s).length=(zaW s 0).length:=rfl;omega
 refine jT J (oR 2 J (oZ J (jT J (oR 1 J (oE J (zm [] _ [] J J (.cons ArgC.id .nil) zg Tryz.call152 (Spell_c s (by omega)) (.inl rfl)) ?_)))))
 rintro _ _ ⟨_,⟨v1,rfl,rfl⟩,rfl⟩
 refine on J (oR 1 J (oZ J (jS J (jT J (oR 1 J (oP J (zay (n:=(zah s).length) (j:=0) J J Tryz.runUnderlying130 (List.length_map _)) (oP J (zaF J J J) (oZ J ?_))))))))
 refine jD J (fun hc2=>?_) (fun hc2=>?_)
 · skip
   have hlg:=pat_long (s:=s) (by have h:=hc2;omega)
   refine jT J (oR 2 J (oZ J (zn J (zk ?_))))
   exact zh Tryz.results259 (.cons (zx (zl J) (Cv.any J)) (.cons (zx (zl J) (Cv.eq (congrArg dI hlg))) .nil)) J HSub.none ⟨rfl,J⟩
 · skip
   have hsh:¬40<(zah s).length:=by have h:=hc2;omega
   refine zt J (zj (jS J (JD.mv (Mv.freeze (K':=[(0,.s s),(2,.v (.pointer none)),(3,dI 0),(4,.sh 1 ((zah s).map dR)),(9,.s s),(10,.sh 1 ((zah s).map dR)),(11,.sh 1 ((zah s).map dR)),(12,dN ((zah s).length)),(13,dB (decide ((40:Int)<(((zah s).length:Nat):Int))))]) [.sl v1 1 21 ((zah s).map dR)] (H1:=[]) (H1':=[]) ⟨⟨_,J,ArgC.id⟩,⟨_,J,ArgC.id⟩,⟨_,J,ArgC.id⟩,⟨_,J,ArgC.own (j:=0) J J⟩,⟨_,J,ArgC.id⟩,⟨_,J,ArgC.own (j:=0) J J⟩,⟨_,J,ArgC.own (j:=0) J J⟩,⟨_,J,ArgC.id⟩,⟨_,J,ArgC.id⟩,trivial⟩ .nil) (zf J (oR 1 J (oP J (zJ [0] [.tmp 14] (zv:=(.agg #[(.slice none 0 0),(.bool false)])) J J (.cons CellD.sh .nil) (Tryz.runUnderlying298) Tryz.zeroValue298 bd_298 ⟨rfl,J,trivial⟩ J) (oE J (zaY J (CellD.agg)) ?_)))))))
   rintro _ _ ⟨g3,rfl,rfl⟩
   refine oR 1 J (oZ J (jk [0,2,3,5] J (jS J ?_)))
   obtain ⟨z,ez⟩:∃ x:PR,x=⟨zah s,false⟩:=⟨_,rfl⟩
   have hzl:z.l=zah s:=by rw[ez]
   have hzT:ROk z.l:=by rw[hzl];exact runes_ok s
   have hzn:z.l.length=(zah s).length:=by rw[hzl]
   refine JD.norm [.bx g3 298 (.agg [.sh 1 (z.l.map (fun n=>D.v (.int .i32 n))),dB z.b])] (by rw[ez]<;>rfl) (zf rfl (oR 1 rfl (oE rfl (zm [.bx g3 298 (.agg [.sh 1 (z.l.map (fun n=>D.v (.int .i32 n))),dB z.b])] [] [] rfl rfl (.cons ArgC.id .nil) zg Tryz.call261 (altOk ((zah s).length+1) g3 z (by omega) (by omega) hzT) (.inl rfl)) ?_)))
   rintro _ _ ⟨_,⟨x4,s4,e4,rfl,rfl⟩,rfl⟩
   obtain ⟨hsz4,hok4⟩:=pt_facts e4
   rw[ez] at e4
   have kd4:s4.l.length≤1000000:=by omega
   refine on J (oR 1 J (oZ J (jS J (jS J (jk [0,2,3,5,6] J ?_)))))
   refine zR 30 ((s4.b||decide ((0:Int)<((s4.l.length:Nat):Int)))) [.bx g3 298 (.agg [.sh 1 (s4.l.map (fun n=>D.v (.int .i32 n))),dB s4.b])] (fun _ hQ5=>?_) ?_
   · skip
     rcases Bool.eq_false_or_eq_true (s4.b) with hg6 | hg6
     · skip
       refine zf J (oR 2 J (oP J (zd J zaG J) (oP J ((ze J (i:=0) J Tryz.isAgg4 J).cv (Cv.eq (congrArg (fun b=>D.v (.bool b)) (hg6)))) (oR 8 J (zq J ?_)))))
       exact PD.sub ((30,dB (s4.b||decide ((0:Int)<((s4.l.length:Nat):Int))))::[(0,.s s),(2,.v (.pointer none)),(3,dI 0),(5,dP g3 0),(6,Pt.d x4)]) ⟨sc J (Cv.eq (congrArg (fun b=>D.v (.bool b)) (by first | (simp[hc2,hg6];done) | (simp_all;done)))),sk rfl,sk rfl,sk rfl,sk rfl,sk rfl,trivial⟩ hQ5
     · skip
       refine zf J (oR 2 J (oP J (zd J zaG J) (oP J ((ze J (i:=0) J Tryz.isAgg4 J).cv (Cv.eq (congrArg (fun b=>D.v (.bool b)) (hg6)))) (oR 3 J (oG J (zd J za4 J) (oG J (ze J (i:=0) J Tryz.isAgg130 J) (oG J (zbf (n:=s4.l.length) J Tryz.runUnderlying130 (by simp only[lm,lc,ln])) (oG rfl (zaF rfl rfl rfl) (oR 1 rfl (zq rfl ?_))))))))))
       exact PD.sub ((30,dB (s4.b||decide ((0:Int)<((s4.l.length:Nat):Int))))::[(0,.s s),(2,.v (.pointer none)),(3,dI 0),(5,dP g3 0),(6,Pt.d x4)]) ⟨sc J (Cv.eq (congrArg (fun b=>D.v (.bool b)) (by first | (simp[hc2,hg6];done) | (simp_all;done)))),sk rfl,sk rfl,sk rfl,sk rfl,sk rfl,trivial⟩ hQ5
   · skip
     refine zj ?_
     refine jC J (fun hc7=>?_) (fun hc7=>?_)
     · simp only[bA,bB,bC,bD,bE,bF,bG,bH,bI,bJ] at hc7
       have hbd:=pat_bad e4 hsh (by have h:=hc7;rcases h with h | h;exact .inl h;exact .inr (by omega))
       refine jT J (oR 2 J (oZ J (zn J (zk ?_))))
       exact zh Tryz.results259 (.cons (zx (zl J) (Cv.any J)) (.cons (zx (zl J) (Cv.eq (congrArg dI hbd))) .nil)) J HSub.none ⟨rfl,J⟩
     · simp only[bA,bB,bC,bD,bE,bF,bG,bH,bI,bJ] at hc7
       have hgd:=pat_good e4 hsh (by have h:=hc7;exact⟨h.1,by omega⟩)
       refine zt J (zj (jT J (oR 1 J (oP J (zJ [0] [.tmp 31] (zv:=(.agg #[(.string ByteArray.empty),(.slice none 0 0),(.int .i64 0)])) J J (.cons CellD.s .nil) (Tryz.runUnderlying302) Tryz.zeroValue302 bd_302 ⟨rfl,J,J,trivial⟩ J) (oE J (zaY J (CellD.agg)) ?_)))))
       rintro _ _ ⟨g8,rfl,rfl⟩
       refine oR 1 J (oZ J (jS J (JD.subH (HSub.nil 6 308) (jn J (JD.subH (HSub.perm (zc (i:=1) J)) (jn J (JD.subH (HSub.turn (h':=.bx g8 302 (.agg [.s s,.ov (.slice none 0 0),dI 0])) J (Hp.cv_bx (Cv.agg (.cons Cv.rfl' (.cons (Cv.ov J) (.cons Cv.rfl' .nil)))))) (zf J (oR 1 J (oP J (zJ [2,3] [.const (.int .i64 (-1)),.const (.int .i64 (-1))] (zv:=(.agg #[(.bool false),(.bool false),(.slice none 0 0),(.bool false),(.int .i64 0),(.int .i64 0)])) J J (.cons (CellD.v J) (.cons (CellD.v J) .nil)) (Tryz.runUnderlying308) Tryz.zeroValue308 zel ⟨J,J,J,J,J,J,trivial⟩ J) (oE J (zm [.bx g8 302 (.agg [.s s,.ov (.slice none 0 0),dI 0]),.sl (.slice none 0 0) 6 308 ([].map StepD.d)] [.bx g3 298 (.agg [.sh 1 (s4.l.map (fun n=>D.v (.int .i32 n))),dB s4.b])] [] J J (.cons ArgC.id (.cons (ArgC.cv (Cv.agg (.cons Cv.rfl' (.cons Cv.rfl' (.cons Cv.nil (.cons Cv.rfl' (.cons Cv.rfl' (.cons Cv.rfl' .nil)))))))) .nil)) zg Tryz.call262 (zez g8 (.s s) (.slice none 0 0) 0 ([]:List StepD) false false [] false (-1) (-1) (by (try simp only[la,List.length_singleton,ln]);omega)) (.inl rfl)) ?_)))))))))))
       rintro _ _ ⟨_,⟨mv9,rfl,rfl⟩,rfl⟩
       have halmv9:(([]:List StepD)++[StepD.mk false false [] false (-1) (-1)]).length=([]:List StepD).length+1:=by simp only[la,List.length_singleton,ln]
       refine on J (oR 1 J (oZ J (jk [2,3,6,7,8] J (jT J (oR 4 J (oE J (zm [.bx g8 302 (.agg [.s s,.ov mv9,dI 0]),.sl mv9 6 308 ((([]:List StepD)++[StepD.mk false false [] false (-1) (-1)]).map StepD.d)] [.bx g3 298 (.agg [.sh 1 (s4.l.map (fun n=>D.v (.int .i32 n))),dB s4.b])] [] J J (.cons ArgC.id (.cons ArgC.id (.cons ArgC.id .nil))) zg Tryz.call263 ((buildOk x4.sz) g8 (.s s) mv9 0 (([]:List StepD)++[StepD.mk false false [] false (-1) (-1)]) x4 ((([]:List StepD).length:Nat):Int) hok4 (Nat.le_refl _) (by (try simp only[la,List.length_singleton,ln]);omega)) (.inl rfl)) ?_))))))
       rintro _ _ ⟨_,⟨mv10,ys10,bi10,hba10,hbb10,rfl,rfl⟩,rfl⟩
       refine on J (oR 1 J (oP J (zd J fa_302_2 J) (oE J (zi (i:=0) (X':=.agg [.s s,.ov mv10,dI bi10]) J J J (CellD.v J) Tryz.sizeOf3 J J J) ?_)))
       rintro _ _ ⟨rfl,rfl⟩
       refine on J (oZ J (jk [2,3,7] J (jT J (oR 3 J (oZ J (zn J ?_))))))
       exact zh Tryz.results259 (.cons (zx (zl J) (Cv.any J)) (.cons (zx (zl J) (Cv.eq (congrArg dI hgd))) .nil)) J HSub.none ⟨rfl,J⟩
def tstD (m:MatD):D:=.agg [.s m.n,dI m.op,.s m.v,.any]
def noMat:MatD:=⟨ByteArray.empty,0,ByteArray.empty⟩
theorem ready_c (m:MatD) (hn:m.n.size≤1000000) (hv:m.v.size≤1000000):
 CD Tryz.prog 257 [] [MatD.d m] (fun r H'=>∃ m',r=.tup [tstD m',dB (zcG m)]∧(zcG m=true→m'=m)∧H'=[]):=by
 refine zp Tryz.func257 J (N:=37) J J (fun C=>?_)
 refine jk [0] J ?_
 refine JD.bd 0 J (fun bd0=>?_)
 refine jT J (oE J (zaY J (CellD.agg)) ?_)
 rintro _ _ ⟨g1,rfl,rfl⟩
 refine oE J (zC (zv:=(.agg #[(.string ByteArray.empty),(.int .i64 0),(.string ByteArray.empty),(.pointer none)])) Tryz.zeroValue291 ⟨J,J,J,J,trivial⟩ (Cv.vagg (by decide))) ?_
 rintro _ _ ⟨g2,rfl,rfl⟩
 refine oR 1 J (oZ J (jS J (jS J (jk [1,2,3] J ?_))))
 refine zR 19 (((!(zck m.n)||decide (m.op<(1:Int)))||decide ((4:Int)<m.op))) [.bx g2 291 (.agg [.v (.string ByteArray.empty),dI 0,.v (.string ByteArray.empty),.v (.pointer none)]),.bx g1 65 (MatD.d m)] (fun _ hQ3=>?_) ?_
 · skip
   rcases Bool.eq_false_or_eq_true (zck m.n) with hg4 | hg4
   · skip
     by_cases hg5:m.op<(1:Int)
     · skip
       refine zf J (oP J (zd J fa_65_0 J) (oP J (ze J (i:=1) J Tryz.isAgg9 J) (oW J J acs Tryz.call176 (Name_c m.n) (os 8 J (congrArg (fun b=>D.v (.bool b)) hg4) (oR 2 J (oG J (zd J zdQ J) (oG J (ze J (i:=1) J Tryz.isAgg3 J) (oG J (zN J J (decide_eq_true hg5)) (oR 6 J (zq J ?_))))))))))
       exact PD.sub ((19,dB ((!(zck m.n)||decide (m.op<(1:Int)))||decide ((4:Int)<m.op)))::[(1,dP g1 0),(2,dP g2 0),(3,dB false)]) ⟨sc J (Cv.eq (congrArg (fun b=>D.v (.bool b)) (by first | (simp[hg4,hg5];done) | (simp_all;done)))),sk rfl,sk rfl,sk rfl,trivial⟩ hQ3
     · skip
       refine zf J (oP J (zd J fa_65_0 J) (oP J (ze J (i:=1) J Tryz.isAgg9 J) (oW J J acs Tryz.call176 (Name_c m.n) (os 8 J (congrArg (fun b=>D.v (.bool b)) hg4) (oR 2 J (oG J (zd J zdQ J) (oG J (ze J (i:=1) J Tryz.isAgg3 J) (oG J (zN J J (decide_eq_false hg5)) (oR 2 J (oG J (zd J zdQ J) (oG J (ze J (i:=1) J Tryz.isAgg3 J) (oG J (zaF J J J) (oR 1 J (zq J ?_))))))))))))))
       exact PD.sub ((19,dB ((!(zck m.n)||decide (m.op<(1:Int)))||decide ((4:Int)<m.op)))::[(1,dP g1 0),(2,dP g2 0),(3,dB false)]) ⟨sc J (Cv.eq (congrArg (fun b=>D.v (.bool b)) (by first | (simp[hg4,hg5];done) | (simp_all;done)))),sk rfl,sk rfl,sk rfl,trivial⟩ hQ3
   · skip
     refine zf J (oP J (zd J fa_65_0 J) (oP J (ze J (i:=1) J Tryz.isAgg9 J) (oW J J acs Tryz.call176 (Name_c m.n) (os 8 J (congrArg (fun b=>D.v (.bool b)) hg4) (oR 11 J (zq J ?_))))))
     exact PD.sub ((19,dB ((!(zck m.n)||decide (m.op<(1:Int)))||decide ((4:Int)<m.op)))::[(1,dP g1 0),(2,dP g2 0),(3,dB false)]) ⟨sc J (Cv.eq (congrArg (fun b=>D.v (.bool b)) (by first | (simp[hg4];done) | (simp_all;done)))),sk rfl,sk rfl,sk rfl,trivial⟩ hQ3
 · skip
   refine zj ?_
   refine jC J (fun hc6=>?_) (fun hc6=>?_)
   · simp only[bA,bB,bC,bD,bE,bF,bG,bH,bI,bJ] at hc6
     have hrd:zcG m=false:=by unfold zcG;have h:=hc6;rcases h with (h | h) | h;(rw[h];rfl);(rw[decide_eq_false (by omega:¬(1≤m.op∧m.op≤4))];simp);(rw[decide_eq_false (by omega:¬(1≤m.op∧m.op≤4))];simp)
     refine jT J (oP J (zJ [] [] (zv:=(.agg #[(.string ByteArray.empty),(.int .i64 0),(.string ByteArray.empty),(.pointer none)])) J J (.nil) (Tryz.runUnderlying291) Tryz.zeroValue291 bd_291 ⟨rfl,J,J,J,trivial⟩ J) (oE J (zi (i:=0) (X':=.agg [.v (.string ByteArray.empty),dI 0,.v (.string ByteArray.empty),.v (.pointer none)]) J J J (CellD.agg) Tryz.sizeOf291 J J J) ?_))
     rintro _ _ ⟨rfl,rfl⟩
     refine on J (oR 1 J (oZ J (zn J (zk ?_))))
     exact zh Tryz.results257 (.cons (zx (zU (X:=.agg [.v (.string ByteArray.empty),dI 0,.v (.string ByteArray.empty),.v (.pointer none)]) (d:=.agg [.v (.string ByteArray.empty),dI 0,.v (.string ByteArray.empty),.v (.pointer none)]) (i:=0) J J Tryz.isAgg291 Tryz.sizeOf291 J J) (Cv.agg (.cons (Cv.str (by decide)) (.cons Cv.rfl' (.cons (Cv.str (by decide)) (.cons (Cv.any rfl) .nil)))))) (.cons (zx (zl rfl) (Cv.eq (congrArg dB hrd.symm))) .nil)) rfl HSub.none ⟨noMat,rfl,(fun h=>by rw[hrd] at h;cases h),rfl⟩
   · simp only[bA,bB,bC,bD,bE,bF,bG,bH,bI,bJ] at hc6
     have hgd:zck m.n=true∧(1≤m.op∧m.op≤4):=by have h:=hc6;exact⟨h.1.1,by omega⟩
     refine zt J (zj (jS J (jT J (oP J (zd J zdQ J) (oP J (ze J (i:=1) J Tryz.isAgg3 J) (oP J (zN J J J) (oZ J ?_)))))))
     refine jD J (fun hc7=>?_) (fun hc7=>?_)
     · skip
       have hrd:zcG m=true:=by unfold zcG;rw[hgd.1,decide_eq_true hgd.2,decide_eq_true (by have h:=hc7;omega:m.op<3)];rfl
       refine jT J (oP J (zH (d:=MatD.d m) J (i:=1) J Tryz.isAgg65 Tryz.sizeOf65 J J) (oP J (zJ [0] [.tmp 24] (zv:=(.agg #[(.string ByteArray.empty),(.int .i64 0),(.string ByteArray.empty),(.pointer none)])) J J (.cons CellD.agg .nil) (Tryz.runUnderlying291) Tryz.zeroValue291 bd_291 ⟨rfl,J,J,J,trivial⟩ J) (oE J (zi (i:=0) (X':=.agg [.s m.n,dI m.op,.s m.v,.v (.pointer none)]) J J J (CellD.agg) Tryz.sizeOf291 J J J) ?_)))
       rintro _ _ ⟨rfl,rfl⟩
       refine on J (oR 1 J (oZ J (zn J (zk ?_))))
       exact zh Tryz.results257 (.cons (zx (zU (X:=.agg [.s m.n,dI m.op,.s m.v,.v (.pointer none)]) (d:=.agg [.s m.n,dI m.op,.s m.v,.v (.pointer none)]) (i:=0) J J Tryz.isAgg291 Tryz.sizeOf291 J J) (Cv.agg (.cons Cv.rfl' (.cons Cv.rfl' (.cons Cv.rfl' (.cons (Cv.any J) .nil)))))) (.cons (zx (zl J) (Cv.eq (congrArg dB (hrd.symm)))) .nil)) J HSub.none ⟨m,J,(fun _=>J),J⟩
     · skip
       have hrd:zcG m=patR (zah m.v):=by unfold zcG;rw[hgd.1,decide_eq_true hgd.2,decide_eq_false (by have h:=hc7;omega:¬m.op<3)];simp
       refine zt J (zj (jT J (oP J (zd J fa_65_2 J) (oP J (ze J (i:=1) J Tryz.isAgg9 J) (oW J J acs Tryz.call259 (pcompile_c m.v (by omega)) (oR 5 rfl (oZ rfl (jk [1,2,3,4,5] rfl (jT rfl (oP rfl (zH (d:=MatD.d m) rfl (i:=1) rfl Tryz.isAgg65 Tryz.sizeOf65 rfl rfl) (oR 1 rfl (oP rfl (zJ [0,1] [.tmp 32,.tmp 33] (zv:=(.agg #[(.string ByteArray.empty),(.int .i64 0),(.string ByteArray.empty),(.pointer none)])) rfl rfl (.cons CellD.agg (.cons CellD.any .nil)) (Tryz.runUnderlying291) Tryz.zeroValue291 bd_291 ⟨rfl,rfl,rfl,rfl,trivial⟩ rfl) (oR 1 rfl (oP rfl (zD rfl rfl rfl) (oE rfl (zi (i:=0) (X':=.agg [.s m.n,dI m.op,.s m.v,.any]) rfl rfl rfl (CellD.agg) Tryz.sizeOf291 rfl rfl rfl) ?_)))))))))))))))
       rintro _ _ ⟨rfl,rfl⟩
       refine on J (oR 1 J (oZ J (zn J ?_)))
       exact zh Tryz.results257 (.cons (zx (zU (X:=.agg [.s m.n,dI m.op,.s m.v,.any]) (d:=.agg [.s m.n,dI m.op,.s m.v,.any]) (i:=0) J J Tryz.isAgg291 Tryz.sizeOf291 J J) (Cv.agg (.cons Cv.rfl' (.cons Cv.rfl' (.cons Cv.rfl' (.cons Cv.rfl' .nil)))))) (.cons (zx (zl J) (Cv.eq (congrArg dB ((patE_0 m.v).trans hrd.symm)))) .nil)) J HSub.none ⟨m,J,(fun _=>J),J⟩
end Lp
