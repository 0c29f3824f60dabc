import Derived.Test.YtpbcckjedaieoaaGreatDoorV94
set_option linter.unusedSimpArgs false
set_option linter.unusedVariables false
set_option maxHeartbeats 4000000
set_option maxRecDepth 100000
namespace Lp
open Go Go.RowKit Go.Proofs Tryz
variable {s:ByteArray} {name:ByteArray}
theorem zfS:BdP prog #[⟨"s",335,0,false, "", "leporello/pattern",0⟩,⟨"rune",4,3,false, "", "leporello/pattern",32⟩,⟨"a",3,4,false, "", "leporello/pattern",40⟩,⟨"b",3,5,false, "", "leporello/pattern",48⟩] [(0,3),(3,1),(4,1),(5,1)]:=λ_=>by kernel_rfl
theorem fa_321_1:FaP prog 321 1 1:=λ_ _ _=>by kernel_rfl
theorem infz_337:IzP prog 337 cD 6 56:=zbg (by kernel_rfl)
theorem und_319:Tryz.prog.underlying 319=some (.slice 337):=by kernel_rfl
structure StepD where
 all:Bool
 nt:Bool
 items:List RngD
 rn:Bool
 a:Int
 b:Int
def StepD.d (x:StepD):D:=.agg [dB x.all,dB x.nt,.sh 2 (x.items.map RngD.d),dB x.rn,dI x.a,dI x.b]
def MB (g:Nat) (tx:D) (v:Value) (fst:Int) (xs:List StepD):List Hp:=[.bx g 321 (.agg [tx,.ov v,dI fst]),.sl v 6 337 (xs.map StepD.d)]
def zfj (n:Nat):Prop:=∀ (g:Nat) (tx:D) (v:Value) (fst:Int) (xs:List StepD) (x:Pt) (th:Int),x.ok->x.sz<=n->xs.length+2*x.sz<=1000000->
 CD prog 271 (MB g tx v fst xs) [dP g 0,Pt.d x,dI th] (λr H'=>∃ v' xs' i,xs.length<=xs'.length/\xs'.length+1<=xs.length+2*x.sz/\r=dI i/\H'=MB g tx v' fst xs')
theorem okL_drop:∀ (l:List Pt) (k:Nat),Pt.okL l->Pt.okL (l.drop k):=λl k h=>((okL_app (l.take k) (l.drop k)).1 (by rw[dQ];exact h)).2
theorem sz_tail {l:List Pt} {x:Pt} (h:l[0]?=some x):Pt.szL ((l.take l.length).drop 1)+x.sz=Pt.szL l:=by
 rw[d7];have:=szL_drop l 0 h;rw[jF,d6] at this;omega
theorem ok_tail {l:List Pt} (h:Pt.okL l):Pt.okL ((l.take l.length).drop 1):=by rw[d7];exact okL_drop l 1 h
theorem zfK (g:Nat) (tx:D) (v:Value) (fst:Int) (xs:List StepD) (a1 a2:Bool) (it:List RngD) (a3:Bool) (a4 a5:Int) (hl:xs.length<=1000000):
 CD prog 270 [.bx g 321 (.agg [tx,.ov v,dI fst]),.sl v 6 337 (xs.map StepD.d)] [dP g 0,.agg [dB a1,dB a2,.sh 2 (it.map RngD.d),dB a3,dI a4,dI a5]] (λr H'=>∃ v',r=dN xs.length/\H'=[.bx g 321 (.agg [tx,.ov v',dI fst]),.sl v' 6 337 ((xs++[StepD.mk a1 a2 it a3 a4 a5]).map StepD.d)]):=by
 refine tZ func270 O O (λC=>?_);refine T.bd 1 O (λbd1=>?_);have hap:(xs++[StepD.mk a1 a2 it a3 a4 a5]).length=xs.length+1:=by simp only[la,dA,ln]
 refine g' 2 O ?_;refine tA O (λg1=>?_);refine g' 4 O (kE 2 O (T.keep [0,1,3,4] O ?_));refine tDx 8 [(5,.q (dP g 0)),(6,.q (dP g 0)),(7,.q (dP g 0)),(8,.q (dP g 1)),(9,.q (.ov v)),(10,.q (.agg [dB a1,dB a2,.sh 2 (it.map RngD.d),dB a3,dI a4,dI a5])),(11,.q (.sh 6 [.agg [dB a1,dB a2,.sh 2 (it.map RngD.d),dB a3,dI a4,dI a5]])),(12,.f (λv=>.ov v))] [.bx g1 337 (.agg [dB a1,dB a2,.sh 2 (it.map RngD.d),dB a3,dI a4,dI a5]),.bx g 321 (.agg [tx,.ov v,dI fst])] (HFr 7 (λγ=>.sl (γ 7) 6 337 ((xs++[(StepD.mk a1 a2 it a3 a4 a5)]).map StepD.d)) (.sl v 6 337 (xs.map StepD.d)) (HFb [.bx g1 337 (.agg [dB a1,dB a2,.sh 2 (it.map RngD.d),dB a3,dI a4,dI a5]),.bx g 321 (.agg [tx,.ov v,dI fst])])) (λγ=>[.sl (γ 7) 6 337 ((xs++[(StepD.mk a1 a2 it a3 a4 a5)]).map StepD.d),.bx g1 337 (.agg [dB a1,dB a2,.sh 2 (it.map RngD.d),dB a3,dI a4,dI a5]),.bx g 321 (.agg [tx,.ov v,dI fst])]) mixed O O (by kernel_rfl) (hrs (λ_ _=>mD)) (hr0 rfl (λ_ _ _=>rfl)) (hrn rfl (λ_ _ _=>rfl)) (λγ=>⟨sx_p rfl rfl rfl (zc rfl) (hrq rfl (λ_=>rfl)),sx_p rfl rfl rfl (zc rfl) (hrq rfl (λ_=>rfl)),sx_p rfl rfl rfl (zb0 rfl) (hrq rfl (λ_=>rfl)),sx_p rfl rfl rfl (zl rfl fa_321_1 rfl) (hrq rfl (λ_=>rfl)),sx_p rfl rfl rfl (zn rfl (i:=1) rfl isAgg319 rfl) (hrq rfl (λ_=>rfl)),sx_p rfl rfl rfl (zaP (d:=.agg [dB a1,dB a2,.sh 2 (it.map RngD.d),dB a3,dI a4,dI a5]) rfl (i:=0) rfl isAgg337 sizeOf337 rfl rfl) (hrq rfl (λ_=>rfl)),sx_q rfl rfl rfl (zm [.tmp 10] rfl rfl (.cons CellD.agg .nil) rfl runUnderlying319 sizeOf337 zeroValue337 rfl rfl rfl rfl) (hrq rfl (λ_=>rfl)),sx_r0 rfl rfl rfl (λ_ _=>rfl) (λ_=>(zy (f:=StepD.d) (l:=xs) (l':=[(StepD.mk a1 a2 it a3 a4 a5)]) (i:=0) rfl rfl rfl (SrcD.sh) und_319 infz_337 rfl rfl (by unfold maxLen;(try simp only[la,lc,ln,lm,lt',ld,ls,lr]);omega) (by (try simp only[la,lc,ln,lm,lt',ld,ls,lr]);omega)).mono (by rintro _ _ ⟨v,rfl,rfl⟩;exact⟨v,rfl,rfl⟩)),trivial⟩) (λγ=>?_);refine tK O (gQ 11 [2,2] O O (tP O (zG (n:=(xs++[(StepD.mk a1 a2 it a3 a4 a5)]).length) (j:=0) O O runUnderlying319 (cW _)) (tP O (zT (c:=((((xs++[(StepD.mk a1 a2 it a3 a4 a5)]).length)-1:Nat):Int)) O O (zk (by omega) (by omega))) (g' 4 O (kE 2 O ?_)))));exact tRs O results270 (.cons (zf (zd O) (mB (congrArg (λn:Int=>D.v (.int .i64 n)) (by simp only[la,dA,ln];omega)))) .nil) O (mT 2 O) ⟨(γ 7),O,O⟩
theorem pbuild_one (g:Nat) (tx:D) (v:Value) (fst:Int) (xs:List StepD) (st:SetD) (th:Int) (hl:xs.length+2*1<=1000000):
 CD prog 271 [.bx g 321 (.agg [tx,.ov v,dI fst]),.sl v 6 337 (xs.map StepD.d)] [dP g 0,.ifc 356 (.agg [dB st.all,dB st.nt,.sh 2 (st.items.map RngD.d)]),dI th] (λr H'=>∃ v' xs' i,xs.length<=xs'.length/\xs'.length+1<=xs.length+2*1/\r=dI i/\H'=MB g tx v' fst xs'):=by
 refine tZ func271 O O (λC=>?_);refine g' 9 O (tP O (zaT O (λ_ _=>by kernel_rfl)) (g' 3 O ?_));refine tA O (λg1=>?_);refine gQ 16 [0,0] O O (tP O (zr [0,1,2] [.tmp 26,.const (.bool true),.tmp 27] (zv:=cD) O O (.cons CellD.agg (.cons (CellD.v O) (.cons (CellD.v O) .nil))) (runUnderlying337) zeroValue337 zfS ⟨O,O,O,O,O,O,trivial⟩ O) (tX [1,1] O O acs (zfK g (tx) v fst xs st.all st.nt st.items true th 0 (by (try simp only[la,dA,ln]);omega)) ?_));rintro _ _ ⟨mv2,rfl,rfl⟩;have halmv2:(xs++[StepD.mk st.all st.nt st.items true th 0]).length=xs.length+1:=by simp only[la,dA,ln]
 refine g' 5 O ?_;exact tR O (mT 2 O) ⟨mv2,(xs++[StepD.mk st.all st.nt st.items true th 0]),((xs.length:Nat):Int),(by (try simp only[la,dA,ln]);omega),(by (try simp only[la,dA,Pt.sz]);omega),O,O⟩
theorem pbuild_row (g:Nat) (tx:D) (v:Value) (fst:Int) (xs:List StepD) (l:List Pt) (th:Int) (n:Nat) (ih:zfj n) (hl:xs.length+2*(Pt.szL l+1)<=1000000) (hok:Pt.okL l) (hn:Pt.szL l<=n):
 CD prog 271 [.bx g 321 (.agg [tx,.ov v,dI fst]),.sl v 6 337 (xs.map StepD.d)] [dP g 0,.ifc 358 (.agg [.sh 1 (l.map Pt.d)]),dI th] (λr H'=>∃ v' xs' i,xs.length<=xs'.length/\xs'.length+1<=xs.length+2*(Pt.szL l+1)/\r=dI i/\H'=MB g tx v' fst xs'):=by
 refine tZ func271 O O (λC=>?_);have hll:=szL_len l;refine g' 9 O (tP O ((zak (zv:=cC) O (λ_ _=>by kernel_rfl)).cv (Cv.tup (.cons (mC (by decide)) (gc .nil)))) (g' 3 O ?_));refine tA O (λg1=>?_);refine gQ 16 [0] O O (tP O (zaT O (λ_ _=>by kernel_rfl)) (g' 3 O ?_));refine tA O (λg2=>?_);refine gQ 15 [0,0] O O (tP O (zH (n:=l.length) O runUnderlying352 (by simp only[lm,lc,ln])) (g' 4 O (tl4 (λ(a_:Nat) (b_:Int) (c_:Value) (d_:List StepD)=>[(0,dP g 0),(1,.ifc 358 (.agg [.sh 1 (l.map Pt.d)])),(6,dI 0),(9,dP g2 0),(38,dN l.length),(39,dN a_),(2,dI b_)]) (λa_ b_ c_ d_=>[.bx g2 358 (.agg [.sh 1 (l.map Pt.d)]),.bx g1 356 cT,.bx g 321 (.agg [tx,.ov c_,dI fst]),.sl c_ 6 337 (d_.map StepD.d)]) (λa_ b_ c_ d_=>(a_<=l.length)/\(xs.length<=d_.length)/\(d_.length+2*Pt.szL (l.take (l.length-a_))<=xs.length+2*Pt.szL l)) (λa_ b_ c_ d_=>l.length-a_) 0 th v xs O (sa O) mD ⟨c7 _,dD _,(by rw[Nat.sub_zero,d7];exact dD _)⟩ ?_)));rintro k t w ys ⟨hkl,hya,hyb⟩;refine g' 6 O ?_;refine tD O (λhc3=>?_) (λhc3=>?_)
 · refine gQ 16 [0,0] O O (tP O (zH (n:=l.length) O runUnderlying352 (by simp only[lm,lc,ln])) (tP O (zT (c:=((l.length-1:Nat):Int)) O O (zk (by omega) (by omega))) (g' 1 O (tP O (zT (c:=(((l.length-1)-k:Nat):Int)) O O (zk (by omega) (by omega))) ?_))));obtain ⟨x1,hx1⟩:=zj l ((l.length-1)-k) (by omega);have hxo:=okL_get hok hx1;have hxz:=szL_mem hx1;have hxt:=szL_take l ((l.length-1)-k) hx1;rw[show l.length-1-k+1=l.length-k by omega] at hxt;refine tP O (zh (k:=(l.length-1)-k) O O runUnderlying352 sizeOf20 (by first | rfl | omega) (ze hx1)) (g' 2 O (tX [2,2] O O acs (ih g (tx) w fst ys x1 t hxo (by omega) (by (try simp only[la,dA,ln]);omega)) ?_));rintro _ _ ⟨mv4,ys4,bi4,hba4,hbb4,rfl,rfl⟩;refine g' 5 O (tP O (zu (c:=((k+1:Nat):Int)) O O (zk (by omega) (by omega))) (g' 2 O (kE 1 O (kE 1 O (kE 3 O (kE 3 O ?_))))));exact tp4 (k+1) bi4 mv4 ys4 (sa O) mD ⟨by show k+1<=l.length;omega,by show xs.length<=ys4.length;omega,by show ys4.length+2*Pt.szL (l.take (l.length-(k+1)))<=_;rw[show l.length-(k+1)=l.length-1-k by omega];omega⟩ (by omega)
 refine g' 13 O (kE 3 O (kE 3 O ?_));exact tR O (mT 2 O) ⟨w,ys,t,(by (try simp only[la,dA,ln]);omega),(by (try simp only[la,dA,Pt.sz]);omega),O,O⟩
theorem pagain_s (g:Nat) (tx:D) (v:Value) (fst:Int) (xs:List StepD) (x:Pt) (rn ra:Bool) (th:Int) (n:Nat) (ih:zfj n) (hl:xs.length+2*(x.sz+1)<=1000000) (hok:x.ok) (hn:x.sz<=n):
 CD prog 288 [.bx g 321 (.agg [tx,.ov v,dI fst]),.sl v 6 337 (xs.map StepD.d)] [dP g 0,.agg [Pt.d x,dB rn,dB ra],dI th] (λr H'=>∃ v' xs' i,xs.length<=xs'.length/\xs'.length+1<=xs.length+2*(x.sz+1)/\r=dI i/\H'=MB g tx v' fst xs'):=by
 refine tZ func288 O O (λC=>?_);refine T.bd 1 O (λbd1=>?_);refine g' 2 O ?_;refine tA O (λg1=>?_);refine gQ 11 [0] O O ?_;refine tC O (λhc2=>?_) (λhc2=>?_)
 · simp only[bX,bJ] at hc2;refine gQ 7 [0] O O (tX [1,1] O O acs (ih g (tx) v fst xs x th hok hn (by (try simp only[la,dA,ln]);omega)) ?_);rintro _ _ ⟨mv3,ys3,bi3,hba3,hbb3,rfl,rfl⟩;refine g' 1 O (tP O (zr [2,3] [.tmp 17,.tmp 18] (zv:=cD) O O (.cons (CellD.v O) (.cons (CellD.v O) .nil)) (runUnderlying337) zeroValue337 zfS ⟨O,O,O,O,O,O,trivial⟩ O) (tX [0,0] O O (ga (.cons (ArgC.cv (Cv.agg (gc (gc (.cons Cv.nil (gc (gc (gc .nil)))))))) .nil)) (zfK g (tx) mv3 fst ys3 false false [] false bi3 th (by (try simp only[la,dA,ln]);omega)) ?_));rintro _ _ ⟨mv4,rfl,rfl⟩;have halmv4:(ys3++[StepD.mk false false [] false bi3 th]).length=ys3.length+1:=(by simp only[la,dA,ln]);refine g' 5 O ?_;exact tR O (mT 2 O) ⟨mv4,(ys3++[StepD.mk false false [] false bi3 th]),((ys3.length:Nat):Int),(by (try simp only[la,dA,ls]);omega),(by (try simp only[la,dA,ls]);omega),O,O⟩
 simp only[bX,bJ] at hc2;refine g' 7 O (tP O (zr [2,3] [.tmp 22,.tmp 23] (zv:=cD) O O (.cons (CellD.v O) (.cons (CellD.v O) .nil)) (runUnderlying337) zeroValue337 zfS ⟨O,O,O,O,O,O,trivial⟩ O) (tX [1,1] O O (ga (.cons (ArgC.cv (Cv.agg (gc (gc (.cons Cv.nil (gc (gc (gc .nil)))))))) .nil)) (zfK g (tx) v fst xs false false [] false th th (by (try simp only[la,dA,ln]);omega)) ?_));rintro _ _ ⟨mv5,rfl,rfl⟩;have halmv5:(xs++[StepD.mk false false [] false th th]).length=xs.length+1:=by simp only[la,dA,ln]
 refine gQ 9 [2] O O (tX [0,0] O O acs (ih g (tx) mv5 fst (xs++[StepD.mk false false [] false th th]) x ((xs.length:Nat):Int) hok hn (by (try simp only[la,dA,ln]);omega)) ?_);rintro _ _ ⟨mv6,ys6,bi6,hba6,hbb6,rfl,rfl⟩;refine g' 4 O ?_;have htn:xs.length<ys6.length:=by omega
 refine gQ 7 [0] O O ?_;obtain ⟨x1,hx1⟩:=zj ys6 xs.length (by omega);refine tP O (zg (k:=xs.length) (j:=1) O O O runUnderlying319 sizeOf337 (by first | rfl | omega) (ze hx1)) (g' 1 O (tE O (zW (f:=StepD.d) (k:=xs.length) (z:=6) (o:=4) (i:=1) (a':=(StepD.mk x1.all x1.nt x1.items x1.rn bi6 x1.b)) O O hx1 O (CellD.v O) sizeOf3 O O O) ?_));rintro _ _ ⟨rfl,rfl⟩;refine gQ 9 [2] O O ?_;refine tC O (λhc7=>?_) (λhc7=>?_)
 · refine g' 8 O ?_;exact tR O (mT 2 O) ⟨mv6,(ys6.set xs.length (StepD.mk x1.all x1.nt x1.items x1.rn bi6 x1.b)),((xs.length:Nat):Int),(by (try simp only[la,dA,ls]);omega),(by (try simp only[la,dA,ls]);omega),O,O⟩
 refine g' 9 O ?_;exact tR O (mT 2 O) ⟨mv6,(ys6.set xs.length (StepD.mk x1.all x1.nt x1.items x1.rn bi6 x1.b)),bi6,(by (try simp only[la,dA,ls]);omega),(by (try simp only[la,dA,ls]);omega),O,O⟩
theorem pbuild_rep (g:Nat) (tx:D) (v:Value) (fst:Int) (xs:List StepD) (x:Pt) (rn ra:Bool) (th:Int) (n:Nat) (ih:zfj n) (hl:xs.length+2*(x.sz+1)<=1000000) (hok:x.ok) (hn:x.sz<=n):
 CD prog 271 [.bx g 321 (.agg [tx,.ov v,dI fst]),.sl v 6 337 (xs.map StepD.d)] [dP g 0,.ifc 361 (.agg [Pt.d x,dB rn,dB ra]),dI th] (λr H'=>∃ v' xs' i,xs.length<=xs'.length/\xs'.length+1<=xs.length+2*(x.sz+1)/\r=dI i/\H'=MB g tx v' fst xs'):=by
 refine tZ func271 O O (λC=>?_);refine g' 9 O (tP O ((zak (zv:=cC) O (λ_ _=>by kernel_rfl)).cv (Cv.tup (.cons (mC (by decide)) (gc .nil)))) (g' 3 O ?_));refine tA O (λg1=>?_);refine gQ 16 [0] O O (tP O ((zak (zv:=cP) O (λ_ _=>by kernel_rfl)).cv (Cv.tup (.cons (mC (by decide)) (gc .nil)))) (g' 3 O ?_));refine tA O (λg2=>?_);refine gQ 16 [0] O O (tP O (zaT O (λ_ _=>by kernel_rfl)) (g' 3 O ?_));refine tA O (λg3=>?_);refine gQ 15 [0,0] O O (tX [3,3] O O acs (pagain_s g (tx) v fst xs x rn ra th n ih (by omega) hok hn) ?_);rintro _ _ ⟨mv4,ys4,bi4,hba4,hbb4,rfl,rfl⟩;refine g' 5 O ?_;exact tR O (mT 2 O) ⟨mv4,ys4,bi4,(by (try simp only[la,dA,ln]);omega),(by (try simp only[la,dA,Pt.sz]);omega),O,O⟩
theorem pbuild_alt (g:Nat) (tx:D) (v:Value) (fst:Int) (xs:List StepD) (l:List Pt) (th:Int) (n:Nat) (ih:zfj n) (hl:xs.length+2*(Pt.szL l+1)<=1000000) (hok:Pt.okL l) (hne:0<l.length) (hn:Pt.szL l<=n):
 CD prog 271 [.bx g 321 (.agg [tx,.ov v,dI fst]),.sl v 6 337 (xs.map StepD.d)] [dP g 0,.ifc 354 (.agg [.sh 1 (l.map Pt.d)]),dI th] (λr H'=>∃ v' xs' i,xs.length<=xs'.length/\xs'.length+1<=xs.length+2*(Pt.szL l+1)/\r=dI i/\H'=MB g tx v' fst xs'):=by
 refine tZ func271 O O (λC=>?_);have hll:=szL_len l;refine g' 9 O (tP O ((zak (zv:=cC) O (λ_ _=>by kernel_rfl)).cv (Cv.tup (.cons (mC (by decide)) (gc .nil)))) (g' 3 O ?_));refine tA O (λg1=>?_);refine gQ 16 [0] O O (tP O ((zak (zv:=cP) O (λ_ _=>by kernel_rfl)).cv (Cv.tup (.cons (mC (by decide)) (gc .nil)))) (g' 3 O ?_));refine tA O (λg2=>?_);refine gQ 16 [0] O O (tP O ((zak (zv:=cM) O (λ_ _=>by kernel_rfl)).cv (Cv.tup (.cons (mC (by decide)) (gc .nil)))) (g' 3 O ?_));refine tA O (λg3=>?_);refine gQ 15 [0] O O (tP O (zdr O (λ_ _=>by kernel_rfl)) (g' 8 O ?_));obtain ⟨x1,hx1⟩:=zj l 0 (by omega);have hxo:=okL_get hok hx1;have hxz:=szL_mem hx1;have hlt:=sz_tail hx1;have hlo:=ok_tail hok;have hlq:=szL_len ((l.take l.length).drop 1);refine tP O (zh (k:=0) O O runUnderlying352 sizeOf20 (by first | rfl | omega) (ze hx1)) (g' 2 O (tX [3,3] O O acs (ih g (tx) v fst xs x1 th hxo (by omega) (by (try simp only[la,dA,ln]);omega)) ?_));rintro _ _ ⟨mv4,ys4,bi4,hba4,hbb4,rfl,rfl⟩;refine g' 7 O (tP O ((zcM (a:=1) (b:=l.length) O O O (by first | rfl | (show _=_;(try simp only[lm]);omega) | exact cW _) (by first | rfl | (show _=_;(try simp only[lm]);omega) | exact cW _) runUnderlying352 sizeOf20 (by omega) (by simp only[lm];omega)).cv (mB (by rw[<-jQ,<-jR]))) (tP O (zH (n:=((l.take l.length).drop 1).length) O runUnderlying352 (by simp only[lm,lc,ln])) (g' 4 O (kE 1 O (kE 1 O (kE 4 O (kE 4 O (kE 4 O ?_))))))));refine tl4 (λ(a_:Nat) (b_:Int) (c_:Value) (d_:List StepD)=>[(0,dP g 0),(2,dI th),(6,dI 0),(77,.sh 1 (((l.take l.length).drop 1).map Pt.d)),(78,dN (((l.take l.length).drop 1).length)),(79,dN a_),(15,dI b_)]) (λa_ b_ c_ d_=>[.bx g3 361 (.agg [.v .nilIface,dB false,dB false]),.bx g2 358 (.agg [dZ]),.bx g1 356 cT,.bx g 321 (.agg [tx,.ov c_,dI fst]),.sl c_ 6 337 (d_.map StepD.d)]) (λa_ b_ c_ d_=>(a_<=((l.take l.length).drop 1).length)/\(xs.length<=d_.length)/\(d_.length+1+2*Pt.szL (((l.take l.length).drop 1).drop a_)<=xs.length+2*Pt.szL l)) (λa_ b_ c_ d_=>((l.take l.length).drop 1).length-a_) 0 bi4 mv4 ys4 O (sa O) mD ⟨c7 _,(by omega),(by rw[jF];omega)⟩ ?_;rintro k t w ys ⟨hkl,hya,hyb⟩;refine g' 6 O ?_;refine tD O (λhc5=>?_) (λhc5=>?_)
 · refine g' 6 O ?_;obtain ⟨x2,hx2⟩:=zj ((l.take l.length).drop 1) k (by omega);have hyo:=okL_get hlo hx2;have hyz:=szL_mem hx2;have hyd:=szL_drop _ k hx2;refine tP O (zh (k:=k) O O runUnderlying352 sizeOf20 (by first | rfl | omega) (ze hx2)) (g' 10 O (tX [3,3] O O acs (ih g (tx) w fst ys x2 th hyo (by omega) (by (try simp only[la,dA,ln]);omega)) ?_));rintro _ _ ⟨mv6,ys6,bi6,hba6,hbb6,rfl,rfl⟩;refine tP O (zr [2,3] [.tmp 84,.tmp 88] (zv:=cD) O O (.cons (CellD.v O) (.cons (CellD.v O) .nil)) (runUnderlying337) zeroValue337 zfS ⟨O,O,O,O,O,O,trivial⟩ O) (tX [0,0] O O (ga (.cons (ArgC.cv (Cv.agg (gc (gc (.cons Cv.nil (gc (gc (gc .nil)))))))) .nil)) (zfK g (tx) mv6 fst ys6 false false [] false t bi6 (by (try simp only[la,dA,ln]);omega)) ?_);rintro _ _ ⟨mv7,rfl,rfl⟩;have halmv7:(ys6++[StepD.mk false false [] false t bi6]).length=ys6.length+1:=(by simp only[la,dA,ln]);refine g' 5 O (tP O (zu (c:=((k+1:Nat):Int)) O O (zk (by omega) (by omega))) (g' 2 O (kE 1 O (kE 1 O (kE 4 O (kE 4 O (kE 4 O ?_)))))));exact tp4 (k+1) ((ys6.length:Nat):Int) mv7 (ys6++[StepD.mk false false [] false t bi6]) (sa O) mD ⟨by show k+1<=((l.take l.length).drop 1).length;omega,by simp only[la,dA,ln];omega,by simp only[la,dA,ln];omega⟩ (by omega)
 refine g' 12 O (kE 4 O (kE 4 O ?_));exact tR O (mT 2 O) ⟨w,ys,t,(by (try simp only[la,dA,ln]);omega),(by (try simp only[la,dA,Pt.sz]);omega),O,O⟩
theorem buildOk:∀ n:Nat,zfj n
 | 0=>λg tx v fst xs x th hok hz=>absurd hz (by have:=sz_pos x;omega)
 | n+1=>λg tx v fst xs x th hok hz hl=>by
  cases x with
  | one st=>exact pbuild_one g tx v fst xs st th hl
  | row l=>
   rw[<-row_d];exact pbuild_row g tx v fst xs l th n (buildOk n) hl hok (by simp only[Pt.sz] at hz;omega)
  | alt l=>
   rw[<-alt_d];exact pbuild_alt g tx v fst xs l th n (buildOk n) hl hok.2 (jE.2 hok.1) (by simp only[Pt.sz] at hz;omega)
  | rep x a b=>exact pbuild_rep g tx v fst xs x a b th n (buildOk n) hl hok (by simp only[Pt.sz] at hz;omega)
theorem bd_259:BdP prog #[⟨"m",199,0,false, "", "leporello/store",0⟩,⟨"p",257,3,false, "", "leporello/store",40⟩] [(0,3),(3,1)]:=λ_=>by kernel_rfl
theorem bd_321:BdP prog #[⟨"text",9,0,false, "", "leporello/pattern",0⟩,⟨"steps",319,1,false, "", "leporello/pattern",16⟩,⟨"first",3,2,false, "", "leporello/pattern",40⟩] [(0,1),(1,1),(2,1)]:=λ_=>by kernel_rfl
theorem bd_330:BdP prog #[⟨"l",124,0,false, "", "leporello/pattern",0⟩,⟨"bad",4,1,false, "", "leporello/pattern",24⟩] [(0,1),(1,1)]:=λ_=>by kernel_rfl
noncomputable def patE (s:ByteArray):Int:=if 40<(zS s).length then 1 else if patR (zS s)=true then 0 else 2
theorem pat_e {x:Pt} {s1:PR} (e:(x,s1)=altF ((zS s).length+1) ⟨zS s,false⟩):patR (zS s)=(decide ((zS s).length<=40)&&!s1.b&&decide (s1.l=[])):=by unfold patR;rw[<-e]
theorem pat_long (h:40<(zS s).length):1=patE s:=by unfold patE;rw[if_pos h]
theorem pat_bad {x:Pt} {s1:PR} (e:(x,s1)=altF ((zS s).length+1) ⟨zS s,false⟩) (h:¬40<(zS s).length) (hb:s1.b=true\/0<s1.l.length):2=patE s:=by
 unfold patE;rw[if_neg h,if_neg];rw[pat_e e];rcases hb with hb | hb
 · rw[hb];simp
 rw[decide_eq_false (List.ne_nil_of_length_pos hb)];simp
theorem pat_good {x:Pt} {s1:PR} (e:(x,s1)=altF ((zS s).length+1) ⟨zS s,false⟩) (h:¬40<(zS s).length) (hb:s1.b=false/\s1.l.length=0):0=patE s:=by
 unfold patE;rw[if_neg h,if_pos];rw[pat_e e,hb.1,decide_eq_true (jV.1 hb.2),decide_eq_true (by omega)];rfl
theorem pt_facts {f:Nat} {s s':PR} {x:Pt} (e:(x,s')=altF f s):x.sz+3*s'.l.length<=3*s.l.length+2/\x.ok:=by
 have h:=altF_sz f s;rw[<-e] at h;exact h
theorem Cv.any {u:Value} (h:u.oneCell'=true):Cv (.v u) .any:=⟨λ_ _ _ e=>by rw[show _=u from e];exact h⟩
theorem Cv.oany {u:Value}:Cv (.ov u) .any:=⟨λ_ _ _ e=>by rw[e.1];exact e.2⟩
theorem runes_ok (s:ByteArray):ROk (zS s):=by
 have key:∀ (n p:Nat),s.size-p=n->ROk (zaB s p):=by
  intro n
  induction n using Nat.strongRecOn with
  | _ n ih=>
   intro p hn;by_cases hp:p<s.size
   · have hw:=zL s p;rw[zav hp];intro c hc;rcases dO.1 hc with rfl | hc
     · have:=zcA s p;omega
     exact ih (s.size-(p+decW s p)) (by omega) _ O c hc
   rw[zaH (by omega)];intro c hc;cases hc
 exact key _ 0 O
theorem patE_0 (s:ByteArray):decide (patE s=0)=patR (zS s):=by
 unfold patE;split
 · rename_i h;unfold patR;rw[decide_eq_false (by omega:¬(zS s).length<=40)];simp
 split
 · rename_i h;rw[h];rfl
 rename_i h;simp[h]
theorem pcompile_c (s:ByteArray) (hs:s.size<=1000000):
 CD prog 257 [] [.s s] (λr H'=>r=.tup [.any,dI (patE s)]/\H'=[]):=by
 refine tZ func257 O O (λC=>?_);refine T.bd 0 O (λbd0=>?_);have sz0:s.size<=9223372036854775807:=bd0;have hrl:=runesAt_len s _ 0 O;have hrl2:(zS s).length<=s.size:=by have e:(zS s).length=(zaB s 0).length:=rfl;omega
 refine g' 9 O (tX [] O O acs (Spell_c s (by omega)) ?_);rintro _ _ ⟨v1,rfl,rfl⟩;refine g' 7 O (tP O (zG (n:=(zS s).length) (j:=0) O O runUnderlying124 (cW _)) (g' 3 O ?_));refine tD O (λhc2=>?_) (λhc2=>?_)
 · have hlg:=pat_long (s:=s) (by have h:=hc2;omega);refine g' 8 O ?_;exact tRs O results257 (.cons (zf (zd O) (Cv.any O)) (.cons (zf (zd O) (mB (congrArg dI hlg))) .nil)) O HSub.none ⟨O,O⟩
 have hsh:¬40<(zS s).length:=by have h:=hc2;omega
 refine g' 3 O (m9 (Mv.freeze (K':=[(0,.s s),(2,.v (.pointer none)),(3,dI 0),(4,.sh 1 ((zS s).map dR)),(9,.s s),(10,.sh 1 ((zS s).map dR)),(11,.sh 1 ((zS s).map dR)),(12,dN ((zS s).length)),(13,dB (decide ((40:Int)<(((zS s).length:Nat):Int))))]) [.sl v1 1 21 ((zS s).map dR)] (H1:=[]) (H1':=[]) ⟨⟨_,O,mO⟩,⟨_,O,mO⟩,⟨_,O,mO⟩,⟨_,O,mP (j:=0) O O⟩,⟨_,O,mO⟩,⟨_,O,mP (j:=0) O O⟩,⟨_,O,mP (j:=0) O O⟩,⟨_,O,mO⟩,⟨_,O,mO⟩,trivial⟩ .nil) (g' 2 O (tP O (zr [0] [.tmp 14] (zv:=(.agg #[(.slice none 0 0),(.bool false)])) O O (.cons CellD.sh .nil) (runUnderlying330) zeroValue330 bd_330 ⟨O,O,trivial⟩ O) ?_)));refine tA O (λg3=>?_);refine g' 4 O ?_;obtain ⟨z,ez⟩:∃ x:PR,x=⟨zS s,false⟩:=⟨_,rfl⟩;have hzl:z.l=zS s:=by rw[ez]
 have hzT:ROk z.l:=by rw[hzl];exact runes_ok s
 have hzn:z.l.length=(zS s).length:=by rw[hzl]
 refine kD [.bx g3 330 (.agg [.sh 1 (z.l.map dR),dB z.b])] (by rw[ez]<;>rfl) (g' 2 O (tX [0] O O acs (altOk ((zS s).length+1) g3 z (by omega) (by omega) hzT) ?_));rintro _ _ ⟨x4,s4,e4,rfl,rfl⟩;obtain ⟨hsz4,hok4⟩:=pt_facts e4;rw[ez] at e4;have kd4:s4.l.length<=1000000:=by omega
 refine gQ 11 [0] O O ?_;refine tOr 4 6 (c:=decide ((0:Int)<((s4.l.length:Nat):Int))) O O O O O O (λhb5 nx6=>?_) ?_
 · refine gQ 4 [0] O O (tG O (zH (n:=s4.l.length) O runUnderlying124 (by simp only[lm,lc,ln])) (g' 1 O ?_));exact nx6 _ O O (kx 6 O O)
 refine g' 2 O ?_;refine tC O (λhc7=>?_) (λhc7=>?_)
 · simp only[bX,bJ] at hc7;have hbd:=pat_bad e4 hsh (by have h:=hc7;rcases h with h | h;exact .inl h;exact .inr (by omega));refine g' 8 O ?_;exact tRs O results257 (.cons (zf (zd O) (Cv.any O)) (.cons (zf (zd O) (mB (congrArg dI hbd))) .nil)) O HSub.none ⟨O,O⟩
 simp only[bX,bJ] at hc7;have hgd:=pat_good e4 hsh (by have h:=hc7;exact⟨h.1,by omega⟩);refine g' 5 O (tP O (zr [0] [.tmp 31] (zv:=(.agg #[(.string ByteArray.empty),(.slice none 0 0),(.int .i64 0)])) O O (.cons CellD.s .nil) (runUnderlying321) zeroValue321 bd_321 ⟨O,O,O,trivial⟩ O) ?_);refine tA O (λg8=>?_);refine g' 4 O (kC (HSub.nil 6 337) (kE 1 O (kC (mG (h':=.bx g8 321 (.agg [.s s,.ov (.slice none 0 0),dI 0])) O (mH (Cv.agg (gc (.cons (Cv.ov O) (gc .nil)))))) (g' 2 O (tP O (zr [2,3] [.const (.int .i64 (-1)),.const (.int .i64 (-1))] (zv:=cD) O O (.cons (CellD.v O) (.cons (CellD.v O) .nil)) (runUnderlying337) zeroValue337 zfS ⟨O,O,O,O,O,O,trivial⟩ O) (tX [0,0] O O (ga (.cons (ArgC.cv (Cv.agg (gc (gc (.cons Cv.nil (gc (gc (gc .nil)))))))) .nil)) (zfK g8 (.s s) (.slice none 0 0) 0 ([]:List StepD) false false [] false (-1) (-1) (by (try simp only[la,dA,ln]);omega)) ?_))))));rintro _ _ ⟨mv9,rfl,rfl⟩;have halmv9:(([]:List StepD)++[StepD.mk false false [] false (-1) (-1)]).length=([]:List StepD).length+1:=by simp only[la,dA,ln]
 refine g' 9 O (tX [0,0] O O acs ((buildOk x4.sz) g8 (.s s) mv9 0 (([]:List StepD)++[StepD.mk false false [] false (-1) (-1)]) x4 ((([]:List StepD).length:Nat):Int) hok4 (dD _) (by (try simp only[la,dA,ln]);omega)) ?_);rintro _ _ ⟨mv10,ys10,bi10,hba10,hbb10,rfl,rfl⟩;refine gQ 13 [0] O O ?_;exact tRs O results257 (.cons (zf (zd O) (Cv.any O)) (.cons (zf (zd O) (mB (congrArg dI hgd))) .nil)) O HSub.none ⟨O,O⟩
def tstD (m:MatD):D:=.agg [.s m.n,dI m.op,.s m.v,.any]
def noMat:MatD:=⟨ByteArray.empty,0,ByteArray.empty⟩
theorem ready_c (m:MatD) (hn:m.n.size<=1000000) (hv:m.v.size<=1000000):
 CD prog 229 [] [MatD.d m] (λr H'=>∃ m',r=.tup [tstD m',dB (zc2 m)]/\(zc2 m=true->m'=m)/\H'=[]):=by
 refine tZ func229 O O (λC=>?_);refine T.bd 0 O (λbd0=>?_);refine g' 2 O ?_;refine tA O (λg1=>?_);refine tA O (λg2=>?_);refine gQ 8 [1] O O (tW O acs (ze8 m.n) (g' 2 O ?_));refine tOr 4 3 (c:=decide (m.op<(1:Int))) O O O O O O (λhb3 nx4=>?_) ?_
 · have hf5:=notF hb3;refine gQ 3 [1] O O ?_;exact nx4 _ O O (kx 3 O O)
 refine g' 1 O ?_;refine tOr 9 3 (c:=decide ((4:Int)<m.op)) O O O O O O (λhb6 nx7=>?_) ?_
 · obtain ⟨hf8,hf9⟩:=orF hb6;have hf10:=notF hf8;have hf11:=of_decide_eq_false hf9;refine gQ 3 [1] O O ?_;exact nx7 _ O O (kx 3 O O)
 refine g' 2 O ?_;refine tC O (λhc12=>?_) (λhc12=>?_)
 · simp only[bX,bJ] at hc12;have hrd:zc2 m=false:=(by unfold zc2;have h:=hc12;rcases h with (h | h) | h;(rw[h];rfl);(rw[decide_eq_false (by omega:¬(1<=m.op/\m.op<=4))];simp);(rw[decide_eq_false (by omega:¬(1<=m.op/\m.op<=4))];simp));refine g' 2 O (tP O (zr [] [] (zv:=cG) O O (.nil) (runUnderlying259) zeroValue259 bd_259 ⟨O,O,O,O,trivial⟩ O) (gQ 6 [0] O O ?_));exact tRs O results229 (.cons (zf (zO (X:=.agg [cA,dI 0,cA,.v (.pointer none)]) (d:=.agg [cA,dI 0,cA,.v (.pointer none)]) (i:=0) O O isAgg259 sizeOf259 O O) (Cv.agg (.cons cS (gc (.cons cS (.cons (Cv.any O) .nil)))))) (.cons (zf (zd O) (mB (congrArg dB hrd.symm))) .nil)) O HSub.none ⟨noMat,O,(λh=>by rw[hrd] at h;cases h),O⟩
 simp only[bX,bJ] at hc12;have hgd:zbu m.n=true/\(1<=m.op/\m.op<=4):=by have h:=hc12;exact⟨h.1.1,by omega⟩
 refine gQ 10 [1] O O ?_;refine tD O (λhc13=>?_) (λhc13=>?_)
 · have hrd:zc2 m=true:=(by unfold zc2;rw[hgd.1,decide_eq_true hgd.2,decide_eq_true (by have h:=hc13;omega:m.op<3)];rfl);refine gQ 3 [1] O O (tP O (zr [0] [.tmp 24] (zv:=cG) O O (.cons CellD.agg .nil) (runUnderlying259) zeroValue259 bd_259 ⟨O,O,O,O,trivial⟩ O) (gQ 6 [0] O O ?_));exact tRs O results229 (.cons (zf (zO (X:=.agg [.s m.n,dI m.op,.s m.v,.v (.pointer none)]) (d:=.agg [.s m.n,dI m.op,.s m.v,.v (.pointer none)]) (i:=0) O O isAgg259 sizeOf259 O O) (Cv.agg (gc (gc (gc (.cons (Cv.any O) .nil)))))) (.cons (zf (zd O) (mB (congrArg dB (hrd.symm)))) .nil)) O HSub.none ⟨m,O,(λ_=>rfl),O⟩
 have hrd:zc2 m=patR (zS m.v):=by unfold zc2;rw[hgd.1,decide_eq_true hgd.2,decide_eq_false (by have h:=hc13;omega:¬m.op<3)];simp
 refine gQ 6 [1] O O (tW O acs (pcompile_c m.v (by omega)) (gQ 11 [1] O O (tP O (zr [0,1] [.tmp 32,.tmp 33] (zv:=cG) O O (.cons CellD.agg (.cons CellD.any .nil)) (runUnderlying259) zeroValue259 bd_259 ⟨O,O,O,O,trivial⟩ O) (gQ 7 [0] O O ?_))));exact tRs O results229 (.cons (zf (zO (X:=.agg [.s m.n,dI m.op,.s m.v,.any]) (d:=.agg [.s m.n,dI m.op,.s m.v,.any]) (i:=0) O O isAgg259 sizeOf259 O O) (Cv.agg (gc (gc (gc (gc .nil)))))) (.cons (zf (zd O) (mB (congrArg dB ((patE_0 m.v).trans hrd.symm)))) .nil)) O HSub.none ⟨m,O,(λ_=>rfl),O⟩
theorem bd_208:BdP prog #[⟨"of",206,0,false, "", "leporello/window",0⟩] [(0,1)]:=λ_=>by kernel_rfl
theorem bd_212:BdP prog #[⟨"of",141,0,false, "", "leporello/window",0⟩] [(0,1)]:=λ_=>by kernel_rfl
theorem bd_215:BdP prog #[⟨"each",4,0,false, "", "leporello/window",0⟩] [(0,1)]:=λ_=>by kernel_rfl
theorem infz_259:IzP prog 259 cG 4 48:=zbg (by kernel_rfl)
theorem und_253:Tryz.prog.underlying 253=some (.slice 259):=by kernel_rfl
theorem rm_bad {m:List MatD} {k:Nat} {x:MatD} (hx:m[k]?=some x) (h:zc2 x=false):false=rmD m:=by
 unfold rmD;rw[vH.2 ⟨x,d4 hx,by rw[h];simp⟩];rfl
theorem rm_end {m:List MatD} {k:Nat} (h:(m.take k).all zc2=true) (hk:m.length<=k):decide (((m.length:Nat):Int)<=10)=rmD m:=by
 rw[dE hk] at h;unfold rmD;rw[h,uY];exact decide_eq_decide.2 (by omega)
theorem all_c (m:List MatD) (hl:m.length<=2000000) (hm:∀ x∈m,x.n.size<=1000/\x.v.size<=1000):
 CD prog 187 [] [.sh 3 (m.map MatD.d)] (λr H'=>r=.tup [.any,dB (rmD m)]/\H'=[]):=by
 refine tZ func187 O O (λC=>?_);refine T.bd 0 O (λbd0=>?_);have nl0:=zA bd0;refine g' 15 O (tP O (zH (n:=m.length) O runUnderlying55 (by simp only[lm,lc,ln])) (g' 4 O (tl3 (λ(a_:Nat) (b_:Value) (c_:List MatD)=>[(0,.sh 3 (m.map MatD.d)),(9,.sh 3 (m.map MatD.d)),(10,dN m.length),(11,dN a_),(4,.ov b_)]) (λa_ b_ c_=>[.sl b_ 4 259 (c_.map tstD)]) (λa_ b_ c_=>(a_<=m.length)/\((m.take a_).all zc2=true)/\(c_.length<=a_)) (λa_ b_ c_=>m.length-a_) 0 (.slice none 0 0) [] O ⟨sk O,sk O,sk O,sk O,sc O (Cv.ov O),trivial⟩ (HSub.nil 4 259) ⟨c7 _,O,dD _⟩ ?_)));rintro k ov o ⟨hk,ho,hol⟩;refine g' 6 O ?_;refine tD O (λhc1=>?_) (λhc1=>?_)
 · refine g' 6 O ?_;obtain ⟨x1,hx1⟩:=zj m k (by omega);have hmx:=hm x1 (d4 hx1);refine tP O (zh (k:=k) O O runUnderlying55 sizeOf199 (by first | rfl | omega) (ze hx1)) (g' 1 O ?_);refine tA O (λg2=>?_);refine gQ 6 [0,0] O O (tX [] O O acs (ready_c x1 (by omega) (by omega)) ?_);rintro _ _ ⟨tm3,rfl,hqtm3,rfl⟩;refine g' 3 O ?_;refine tA O (λg4=>?_);refine gQ 11 [0] O O ?_;refine tC O (λhc5=>?_) (λhc5=>?_)
   · simp only[bX,bJ] at hc5;refine g' 13 O ?_;exact tRs O results187 (.cons (zf (zd O) (Cv.any O)) (.cons (zf (zd O) (mB (congrArg dB (rm_bad hx1 (by simpa using hc5))))) .nil)) O HSub.none ⟨O,O⟩
   simp only[bX,bJ] at hc5;refine gQ 5 [0] O O (tE O (zq [.tmp 23] O O (.cons CellD.agg .nil) O runUnderlying253 sizeOf259 zeroValue259 O O O O) ?_);rintro _ _ ⟨g6,rfl,rfl⟩;refine tE O (zy (f:=tstD) (l:=o) (l':=[tm3]) (i:=3) O O O (mK (j:=0) O O) und_253 infz_259 O O (by unfold maxLen;(try simp only[la,lc,ln,lm,lt',ld,ls,lr]);omega) (by (try simp only[la,lc,ln,lm,lt',ld,ls,lr]);omega)) ?_;rintro _ _ ⟨v7,rfl,rfl⟩;refine g' 5 O (tP O (zu (c:=((k+1:Nat):Int)) O O (zk (by omega) (by omega))) (g' 2 O (kE 3 O (kC (mT 1 O) ?_))));exact tp3 (k+1) v7 (o++[tm3]) (sa O) mD ⟨by show k+1<=m.length;omega,by rw[zU hx1,List.all_append,ho];simpa using hc5,by simp only[la,dA];omega⟩ (by omega)
 refine g' 9 O (tP O (zH (n:=m.length) O runUnderlying55 (by simp only[lm,lc,ln])) (g' 6 O ?_));exact tRs O results187 (.cons (zf (zd O) (Cv.oany)) (.cons (zf (zd O) (mB (congrArg dB (rm_end ho (by omega))))) .nil)) O HSub.none ⟨O,O⟩
theorem rightM_c (m:List MatD) (hl:m.length<=2000000) (hm:∀ x∈m,x.n.size<=1000/\x.v.size<=1000):
 CD prog 256 [] [.sh 3 (m.map MatD.d)] (isR (dB (rmD m))):=by
 refine tZ func256 O O (λC=>?_);refine T.bd 0 O (λbd0=>?_);have nl0:=zA bd0;refine g' 8 O (tW O acs (all_c m (by omega) hm) (g' 14 O ?_));exact tR O HSub.none ⟨O,O⟩
theorem aggs_c  :
 CD prog 203 [] [] (zcc 1 9 (aggN.map D.s)):=by
 refine tZ func203 O O (λC=>?_);refine g' 7 O (tE O (zq [.const (.string ⟨#[115,117,109]⟩),.const (.string ⟨#[109,105,110]⟩),.const (.string ⟨#[109,97,120]⟩),.const (.string ⟨#[99,111,117,110,116]⟩),.const (.string ⟨#[97,118,103]⟩),.const (.string ⟨#[116,111,112,107]⟩),.const (.string ⟨#[113,117,97,110,116,105,108,101]⟩)] O O (.cons (CellD.v O) (.cons (CellD.v O) (.cons (CellD.v O) (.cons (CellD.v O) (.cons (CellD.v O) (.cons (CellD.v O) (.cons (CellD.v O) .nil))))))) O runUnderlying49 sizeOf9 zeroValue9 O O O O) ?_);rintro _ _ ⟨g1,rfl,rfl⟩;refine g' 4 O (kC (mG (h':=.sl (vS g1 7 7) 1 9 ([(⟨#[115,117,109]⟩:ByteArray),(⟨#[109,105,110]⟩:ByteArray),(⟨#[109,97,120]⟩:ByteArray),(⟨#[99,111,117,110,116]⟩:ByteArray),(⟨#[97,118,103]⟩:ByteArray),(⟨#[116,111,112,107]⟩:ByteArray),(⟨#[113,117,97,110,116,105,108,101]⟩:ByteArray)].map D.s)) O (mR (.cons cS (.cons cS (.cons cS (.cons cS (.cons cS (.cons cS (.cons cS .nil))))))))) (kC (mE (zau (i:=0) O)) (kC (mG (h':=.sl (vS g1 7 7) 1 9 (aggN.map D.s)) O (mI (show List.map D.s [(⟨#[115,117,109]⟩:ByteArray),(⟨#[109,105,110]⟩:ByteArray),(⟨#[109,97,120]⟩:ByteArray),(⟨#[99,111,117,110,116]⟩:ByteArray),(⟨#[97,118,103]⟩:ByteArray),(⟨#[116,111,112,107]⟩:ByteArray),(⟨#[113,117,97,110,116,105,108,101]⟩:ByteArray)]=List.map D.s aggN from congrArg _ (by rfl)))) ?_)));exact tR O mD ⟨_,O,O⟩
theorem Agg_c (name:ByteArray) :
 CD prog 157 [] [.s name] (isR (dB (hasN aggN name))):=by
 refine tZ func157 O O (λC=>?_);refine T.bd 0 O (λbd0=>?_);have sz0:name.size<=9223372036854775807:=bd0;refine g' 7 O (tX [] O O acs (aggs_c) ?_);rintro _ _ ⟨v1,rfl,rfl⟩;refine g' 1 O (tV [0] O O (.cons (mP (j:=0) O O) (ga .nil)) (zc0 aggN name) O (g' 4 O ?_));exact tR O HSub.none ⟨O,O⟩
theorem fnN_no {t:ByteArray} (h0:¬t=⟨#[115,117,109,95,111,118,101,114]⟩) (h1:¬t=⟨#[97,118,103,95,111,118,101,114]⟩) (h2:¬t=⟨#[109,105,110,95,111,118,101,114]⟩) (h3:¬t=⟨#[109,97,120,95,111,118,101,114]⟩) (h4:¬t=⟨#[99,111,117,110,116,95,111,118,101,114]⟩) (h5:¬t=⟨#[108,97,115,116,95,111,118,101,114]⟩) (h6:¬t=⟨#[105,110,99,114,101,97,115,101]⟩) (h7:¬t=⟨#[114,97,116,101]⟩):hasN fnN t=false:=by
 unfold hasN fnN;simp only[List.any_cons,List.any_nil,vB,uT,decide_eq_false_iff_not];exact⟨Ne.symm h0,Ne.symm h1,Ne.symm h2,Ne.symm h3,Ne.symm h4,Ne.symm h5,Ne.symm h6,Ne.symm h7⟩
theorem winfn_c (name:ByteArray) :
 CD prog 141 [] [.s name] (λr H'=>((∃ t x,r=.ifc t x/\hasN fnN name=true)\/(r=.v .nilIface/\hasN fnN name=false))/\H'=[]):=by
 refine tZ func141 O O (λC=>?_);refine T.bd 0 O (λbd0=>?_);have sz0:name.size<=9223372036854775807:=bd0;refine g' 18 O ?_;refine tD O (λhc1=>?_) (λhc1=>?_)
 · refine g' 2 O (tP O (zr [0] [.func 190] (zv:=cQ) O O (.cons CellD.fn .nil) (runUnderlying208) zeroValue208 bd_208 ⟨O,trivial⟩ O) (g' 7 O ?_));exact tR O HSub.none ⟨.inl ⟨208,_,O,by rw[hc1];decide⟩,O⟩
 refine g' 6 O ?_;refine tD O (λhc2=>?_) (λhc2=>?_)
 · refine g' 2 O (tP O (zr [0] [.func 191] (zv:=cQ) O O (.cons CellD.fn .nil) (runUnderlying208) zeroValue208 bd_208 ⟨O,trivial⟩ O) (g' 7 O ?_));exact tR O HSub.none ⟨.inl ⟨208,_,O,by rw[hc2];decide⟩,O⟩
 refine g' 6 O ?_;refine tD O (λhc3=>?_) (λhc3=>?_)
 · refine g' 2 O (tP O (zr [0] [.func 192] (zv:=cQ) O O (.cons CellD.fn .nil) (runUnderlying212) zeroValue212 bd_212 ⟨O,trivial⟩ O) (g' 7 O ?_));exact tR O HSub.none ⟨.inl ⟨212,_,O,by rw[hc3];decide⟩,O⟩
 refine g' 6 O ?_;refine tD O (λhc4=>?_) (λhc4=>?_)
 · refine g' 2 O (tP O (zr [0] [.func 193] (zv:=cQ) O O (.cons CellD.fn .nil) (runUnderlying212) zeroValue212 bd_212 ⟨O,trivial⟩ O) (g' 7 O ?_));exact tR O HSub.none ⟨.inl ⟨212,_,O,by rw[hc4];decide⟩,O⟩
 refine g' 6 O ?_;refine tD O (λhc5=>?_) (λhc5=>?_)
 · refine g' 2 O (tP O (zr [0] [.func 194] (zv:=cQ) O O (.cons CellD.fn .nil) (runUnderlying212) zeroValue212 bd_212 ⟨O,trivial⟩ O) (g' 7 O ?_));exact tR O HSub.none ⟨.inl ⟨212,_,O,by rw[hc5];decide⟩,O⟩
 refine g' 6 O ?_;refine tD O (λhc6=>?_) (λhc6=>?_)
 · refine g' 2 O (tP O (zr [0] [.func 195] (zv:=cQ) O O (.cons CellD.fn .nil) (runUnderlying212) zeroValue212 bd_212 ⟨O,trivial⟩ O) (g' 7 O ?_));exact tR O HSub.none ⟨.inl ⟨212,_,O,by rw[hc6];decide⟩,O⟩
 refine g' 6 O ?_;refine tD O (λhc7=>?_) (λhc7=>?_)
 · refine g' 2 O (tP O (zr [] [] (zv:=(.agg #[(.bool false)])) O O (.nil) (runUnderlying215) zeroValue215 bd_215 ⟨O,trivial⟩ O) (g' 7 O ?_));exact tR O HSub.none ⟨.inl ⟨215,_,O,by rw[hc7];decide⟩,O⟩
 refine g' 6 O ?_;refine tD O (λhc8=>?_) (λhc8=>?_)
 · refine g' 2 O (tP O (zr [0] [.const (.bool true)] (zv:=(.agg #[(.bool false)])) O O (.cons (CellD.v O) .nil) (runUnderlying215) zeroValue215 bd_215 ⟨O,trivial⟩ O) (g' 7 O ?_));exact tR O HSub.none ⟨.inl ⟨215,_,O,by rw[hc8];decide⟩,O⟩
 refine g' 9 O ?_;exact tR O HSub.none ⟨.inr ⟨O,fnN_no hc1 hc2 hc3 hc4 hc5 hc6 hc7 hc8⟩,O⟩
theorem CD.to {P:Program} {f:FuncId} {H:List Hp} {ds:List D} {R R':D->List Hp->Prop} (h:CD P f H ds R) (k:∀ r H',R r H'->R' r H'):CD P f H ds R':=
 ⟨λw F vs h1 h2 h3=>(h.out w F vs h1 h2 h3).mono (by rintro e w' ⟨u,he,F',d,H',hR,hr,hg⟩;exact⟨u,he,F',d,H',k _ _ hR,hr,hg⟩)⟩
theorem winfn_t (h:hasN fnN name=true):CD prog 141 [] [.s name] (λr H'=>∃ t x,r=.ifc t x/\H'=[]):=(winfn_c name).to (by
 rintro r H' ⟨⟨t,x,e,_⟩ | ⟨_,e⟩,e2⟩
 · exact⟨t,x,e,e2⟩
 rw[h] at e;cases e)
theorem winfn_f (h:hasN fnN name=false):CD prog 141 [] [.s name] (λr H'=>r=.v .nilIface/\H'=[]):=(winfn_c name).to (by
 rintro r H' ⟨⟨t,x,_,e⟩ | ⟨e,_⟩,e2⟩
 · rw[h] at e;cases e
 exact⟨e,e2⟩)
theorem p_ifc_ne {ty t t':TypeId} {K:Kd} {H:List Hp} {x y:Operand} {T:TypeId} {d:D} (hx:opD K x=some (.ifc T d)) (hy:y=.const .nilIface) (ht:t=20):Pu prog (.binOp .neq t x y t') ty K H (dB true):=
 ⟨λρ F0 F hk _ _=>by
  subst hy;subst ht;obtain ⟨u,e,_⟩:=hk.op hx;exact zbS (zp ρ [x,.const .nilIface]) (za5 ρ e) (za4 ρ O) (λw=>by kernel_rfl) ⟨O,O⟩⟩
theorem Fn_c (name:ByteArray) :
 CD prog 182 [] [.s name] (isR (dB (hasN fnN name))):=by
 refine tZ func182 O O (λC=>?_);refine T.bd 0 O (λbd0=>?_);have sz0:name.size<=9223372036854775807:=bd0;rcases jY (hasN fnN name) with hw | hw
 · refine g' 8 O (tX [] O O acs (winfn_t hw) ?_);rintro _ _ ⟨tw,xw,rfl,rfl⟩;refine tP O (p_ifc_ne O O O) (g' 4 O ?_);exact tRs O results182 (.cons (zf (zd O) (cB ((by rw[hw])))) .nil) O HSub.none ⟨O,O⟩
 refine g' 8 O (tW O acs (winfn_f hw) (tP O (zdX (r:=.bool false) O O (λ_=>by kernel_rfl)) (g' 4 O ?_)));exact tRs O results182 (.cons (zf (zd O) (cB ((by rw[hw])))) .nil) O HSub.none ⟨O,O⟩
theorem kept_c (s:ByteArray) :
 CD prog 225 [] [.s s] (isR (dB (zfM s))):=by
 refine tZ func225 O O (λC=>?_);refine T.bd 0 O (λbd0=>?_);have sz0:s.size<=9223372036854775807:=bd0;refine g' 8 O (tW O acs (Agg_c s) (g' 1 O ?_));refine tOr 2 2 (c:=hasN fnN s) O O O O O O (λhb1 nx2=>?_) ?_
 · refine g' 1 O (tW O acs (Fn_c s) ?_);exact nx2 _ O O (kx 2 O O)
 refine g' 1 O ?_;refine tOr 6 3 (c:=hasN [(⟨#[111,114,100,101,114]⟩:ByteArray),(⟨#[108,105,109,105,116]⟩:ByteArray),(⟨#[111,102,102,115,101,116]⟩:ByteArray),(⟨#[97,115,99]⟩:ByteArray),(⟨#[100,101,115,99]⟩:ByteArray),(⟨#[111,110]⟩:ByteArray),(⟨#[105,103,110,111,114,105,110,103]⟩:ByteArray),(⟨#[98,121]⟩:ByteArray),(⟨#[119,105,116,104,111,117,116]⟩:ByteArray)] s) O O O O O O (λhb3 nx4=>?_) ?_
 · obtain ⟨hf5,hf6⟩:=orF hb3;refine tF O (Qu.ef (d:=.sh 1 ([(⟨#[111,114,100,101,114]⟩:ByteArray),(⟨#[108,105,109,105,116]⟩:ByteArray),(⟨#[111,102,102,115,101,116]⟩:ByteArray),(⟨#[97,115,99]⟩:ByteArray),(⟨#[100,101,115,99]⟩:ByteArray),(⟨#[111,110]⟩:ByteArray),(⟨#[105,103,110,111,114,105,110,103]⟩:ByteArray),(⟨#[98,121]⟩:ByteArray),(⟨#[119,105,116,104,111,117,116]⟩:ByteArray)].map D.s)) ((zm [.const (.string ⟨#[111,114,100,101,114]⟩),.const (.string ⟨#[108,105,109,105,116]⟩),.const (.string ⟨#[111,102,102,115,101,116]⟩),.const (.string ⟨#[97,115,99]⟩),.const (.string ⟨#[100,101,115,99]⟩),.const (.string ⟨#[111,110]⟩),.const (.string ⟨#[105,103,110,111,114,105,110,103]⟩),.const (.string ⟨#[98,121]⟩),.const (.string ⟨#[119,105,116,104,111,117,116]⟩)] O O (.cons (CellD.v O) (.cons (CellD.v O) (.cons (CellD.v O) (.cons (CellD.v O) (.cons (CellD.v O) (.cons (CellD.v O) (.cons (CellD.v O) (.cons (CellD.v O) (.cons (CellD.v O) .nil))))))))) O runUnderlying49 sizeOf9 zeroValue9 O O O O).cv (mS (.cons cS (.cons cS (.cons cS (.cons cS (.cons cS (.cons cS (.cons cS (.cons cS (.cons cS .nil)))))))))))) ?_;rintro _ _ ⟨rfl,rfl⟩;refine g' 1 O (tW O acs (zc0 [(⟨#[111,114,100,101,114]⟩:ByteArray),(⟨#[108,105,109,105,116]⟩:ByteArray),(⟨#[111,102,102,115,101,116]⟩:ByteArray),(⟨#[97,115,99]⟩:ByteArray),(⟨#[100,101,115,99]⟩:ByteArray),(⟨#[111,110]⟩:ByteArray),(⟨#[105,103,110,111,114,105,110,103]⟩:ByteArray),(⟨#[98,121]⟩:ByteArray),(⟨#[119,105,116,104,111,117,116]⟩:ByteArray)] s) ?_);exact nx4 _ O O (kx 3 O O)
 refine g' 4 O ?_;exact tRs O results225 (.cons (zf (zd O) (cB ((by rfl)))) .nil) O HSub.none ⟨O,O⟩
theorem numbered_c (name:ByteArray) :
 CD prog 224 [] [.s name] (isR (dB (zcr name))):=by
 refine tZ func224 O O (λC=>?_);refine T.bd 0 O (λbd0=>?_);have sz0:name.size<=9223372036854775807:=bd0;refine g' 10 O ?_;refine tOr 2 2 (c:=decide (name=(⟨#[113,117,97,110,116,105,108,101]⟩:ByteArray))) O O O O O O (λhb1 nx2=>?_) ?_
 · have hf3:=of_decide_eq_false hb1;refine g' 2 O ?_;exact nx2 _ O O (kx 2 O O)
 refine g' 4 O ?_;exact tRs O results224 (.cons (zf (zd O) (cB ((by rfl)))) .nil) O HSub.none ⟨O,O⟩
theorem op_idx (t:ByteArray):(idxN t 0 [tEq,tNe,zek,zck]+1:Int)=opM t:=by
 unfold opM;by_cases h1:t=tEq
 · rw[if_pos h1,h1];decide
 by_cases h2:t=tNe
 · rw[if_neg h1,if_pos h2,h2];decide
 by_cases h3:t=zek
 · rw[if_neg h1,if_neg h2,if_pos h3,h3];decide
 by_cases h4:t=zck
 · rw[if_neg h1,if_neg h2,if_neg h3,if_pos h4,h4];decide
 rw[if_neg h1,if_neg h2,if_neg h3,if_neg h4];simp only[idxN,if_neg h1,if_neg h2,if_neg h3,if_neg h4];rfl
theorem op_bd (t:ByteArray): -1<=idxN t 0 [tEq,tNe,zek,zck]/\idxN t 0 [tEq,tNe,zek,zck]<=3:=by
 have h:=op_idx t;have h2:0<=opM t/\opM t<=4:=by
  unfold opM;repeat' split
  all_goals omega
 omega
theorem opM_c (s:ByteArray) :
 CD prog 255 [] [.s s] (isR (dI (opM s))):=by
 refine tZ func255 O O (λC=>?_);refine T.bd 0 O (λbd0=>?_);have sz0:s.size<=9223372036854775807:=bd0;have hob: -1<=idxN s 0 [(⟨#[61]⟩:ByteArray),(⟨#[33,61]⟩:ByteArray),(⟨#[61,126]⟩:ByteArray),(⟨#[33,126]⟩:ByteArray)]/\idxN s 0 [(⟨#[61]⟩:ByteArray),(⟨#[33,61]⟩:ByteArray),(⟨#[61,126]⟩:ByteArray),(⟨#[33,126]⟩:ByteArray)]<=3:=op_bd s;refine g' 7 O (tE O (Qu.ef (d:=.sh 1 ([(⟨#[61]⟩:ByteArray),(⟨#[33,61]⟩:ByteArray),(⟨#[61,126]⟩:ByteArray),(⟨#[33,126]⟩:ByteArray)].map D.s)) ((zm [.const (.string ⟨#[61]⟩),.const (.string ⟨#[33,61]⟩),.const (.string ⟨#[61,126]⟩),.const (.string ⟨#[33,126]⟩)] O O (.cons (CellD.v O) (.cons (CellD.v O) (.cons (CellD.v O) (.cons (CellD.v O) .nil)))) O runUnderlying49 sizeOf9 zeroValue9 O O O O).cv (mS (.cons cS (.cons cS (.cons cS (.cons cS .nil))))))) ?_);rintro _ _ ⟨rfl,rfl⟩;refine g' 1 O (tW O acs (indexS_c [(⟨#[61]⟩:ByteArray),(⟨#[33,61]⟩:ByteArray),(⟨#[61,126]⟩:ByteArray),(⟨#[33,126]⟩:ByteArray)] s) (tP O (zu (c:=(idxN s 0 [(⟨#[61]⟩:ByteArray),(⟨#[33,61]⟩:ByteArray),(⟨#[61,126]⟩:ByteArray),(⟨#[33,126]⟩:ByteArray)]+1)) O O (zk (by omega) (by omega))) (g' 4 O ?_)));exact tRs O results255 (.cons (zf (zd O) (mB (congrArg (λn=>D.v (.int .i64 n)) (by exact op_idx s)))) .nil) O HSub.none ⟨O,O⟩
end Lp
