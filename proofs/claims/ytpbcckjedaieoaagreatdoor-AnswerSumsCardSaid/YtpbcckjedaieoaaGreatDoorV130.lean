import Derived.Test.YtpbcckjedaieoaaGreatDoorV60
set_option linter.unusedSimpArgs false
set_option linter.unusedVariables false
set_option maxHeartbeats 4000000
set_option maxRecDepth 100000
namespace Lp
open Go Go.RowKit Go.Proofs Tryz
theorem zf4:BdP prog #[⟨"Labels",30,0,false, "", "",0⟩,⟨"V",3,1,false, "", "",24⟩] [(0,1),(1,1)]:=λ_=>by kernel_rfl
theorem zfe:FaP prog 42 0 0:=λ_ _ _=>by kernel_rfl
theorem zeN:FaP prog 42 1 1:=λ_ _ _=>by kernel_rfl
theorem zeM:IzP prog 42 cJ 2 32:=zbg (by kernel_rfl)
theorem zfk:Tryz.prog.underlying 36=some (.slice 42):=by kernel_rfl
theorem vorder_c (a:RowD) (b:RowD) :
 CD prog 140 [] [RowD.d a,RowD.d b] (isR (dI (zw a.ls b.ls))):=by
 refine tZ func140 O O (λC=>?_);refine T.bd 0 O (λbd0=>?_);refine T.bd 1 O (λbd1=>?_);refine g' 2 O ?_;refine tA O (λg1=>?_);refine tA O (λg2=>?_);refine gQ 9 [1,0] O O (tW O acs (zb5 a.ls b.ls) (g' 4 O ?_));exact tR O HSub.none ⟨O,O⟩
theorem single_c (r:RowD) :
 CD prog 138 [] [RowD.d r] (isR (dB (zbt r))):=by
 refine tZ func138 O O (λC=>?_);refine T.bd 0 O (λbd0=>?_);refine g' 2 O ?_;refine tA O (λg1=>?_);refine gQ 7 [0] O O (tW O acs (right_c r.ls) (g' 1 O ?_));refine tAnd 3 3 (c:=zQ r.v) O O O O O O (λhb2 nx3=>?_) ?_
 · refine gQ 2 [0] O O (tW O acs (zbR r.v) ?_);exact nx3 _ O O (kx 3 O O)
 refine g' 4 O ?_;exact tRs O results138 (.cons (zf (zd O) (cB ((by unfold zbt;rw[rightB_eq])))) .nil) O HSub.none ⟨O,O⟩
theorem vown_c (r:RowD) (hl:r.ls.length<=1000000):
 CD prog 139 [] [RowD.d r] (isR (RowD.d r)):=by
 refine tZ func139 O O (λC=>?_);refine T.bd 0 O (λbd0=>?_);refine g' 2 O ?_;refine tA O (λg1=>?_);refine tA O (λg2=>?_);refine g' 3 O (T.keep [0,1,2] O (tDr 5 [(3,dP g1 0,none),(4,.sh 2 (r.ls.map Lbl.d),none),(5,.sh 2 (r.ls.map Lbl.d),none),(6,dP g1 1,none),(7,dI r.v,none)] [.bx g2 42 (.agg [dZ,dI 0]),.bx g1 42 (RowD.d r)] (Hn:=[.bx g2 42 (.agg [dZ,dI 0]),.bx g1 42 (RowD.d r)]) mixed O O O O mD O ⟨sa_p O O O (zl O zfe O),sa_p O O O (zn O (i:=1) O isAgg30 O),sa_q O O O (zac O (gc .nil) Tryz.call20 (zd6 r.ls (by omega)) zbb),sa_p O O O (zl O zeN O),sa_p O O O (zn O (i:=1) O isAgg3 O),trivial⟩ (tK O (tP O (zr [0,1] [.tmp 5,.tmp 7] (zv:=cJ) O O (.cons CellD.sh (.cons (CellD.v O) .nil)) (runUnderlying42) zeroValue42 zf4 ⟨O,O,trivial⟩ O) (gQ 4 [0] O O ?_)))));exact tRs O results139 (.cons (zO (i:=0) O O isAgg42 sizeOf42 O O) .nil) O HSub.none ⟨O,O⟩
theorem key_c (mode:Int) (names:List ByteArray) (l:List Lbl) (hl:l.length<=1000000):
 CD prog 108 [] [dI mode,.sh 1 (names.map D.s),.sh 2 (l.map Lbl.d)] (zcc 2 52 ((keyL mode names l).map Lbl.d)):=by
 refine tZ func108 O O (λC=>?_);refine T.bd 1 O (λbd1=>?_);have nl1:=zA bd1;refine T.bd 2 O (λbd2=>?_);have nl2:=zA bd2;have hp1:=pickL_len l names false;refine g' 18 O ?_;refine tD O (λhc1=>?_) (λhc1=>?_)
 · refine g' 4 O (tX [] O O acs (only_c l names (by omega)) ?_);rintro _ _ ⟨v2,rfl,rfl⟩;refine g' 6 O (kC (mE (zau (i:=0) O)) (kC (mG (h':=.sl v2 2 52 ((keyL mode names l).map Lbl.d)) O (mI (show List.map Lbl.d (zbl l names true)=List.map Lbl.d (keyL mode names l) from congrArg _ (by unfold keyL metB;simp[*])))) ?_));exact tR O mD ⟨_,O,O⟩
 refine g' 6 O ?_;refine tD O (λhc3=>?_) (λhc3=>?_)
 · refine g' 4 O (tX [] O O acs (without_c l names (by omega)) ?_);rintro _ _ ⟨v4,rfl,rfl⟩;refine tE O (zq [.const (.string ⟨#[109,101,116,114,105,99]⟩)] O O (.cons (CellD.v O) .nil) O runUnderlying49 sizeOf9 zeroValue9 O O O O) ?_;rintro _ _ ⟨g5,rfl,rfl⟩;refine kC (mG (h':=.sl (vS g5 1 1) 1 9 ([(⟨#[109,101,116,114,105,99]⟩:ByteArray)].map D.s)) O (mR (.cons cS .nil))) (tY [] [1,0] O O O (.cons (mP (j:=0) O O) (.cons (mP (j:=1) O O) .nil)) (without_c (zbl l names false) [(⟨#[109,101,116,114,105,99]⟩:ByteArray)] (by omega)) (.inr (isOwn_flat (flatL_map (λ_=>rfl) _))) ?_);rintro _ _ ⟨v6,rfl,rfl⟩;refine g' 6 O (kC (mE (zau (i:=0) O)) (kC (mG (h':=.sl v6 2 52 ((keyL mode names l).map Lbl.d)) O (mI (show List.map Lbl.d (zbl (zbl l names false) [(⟨#[109,101,116,114,105,99]⟩:ByteArray)] false)=List.map Lbl.d (keyL mode names l) from congrArg _ (by unfold keyL metB;simp[*])))) ?_));exact tR O mD ⟨_,O,O⟩
 refine g' 6 O (tE O (zq [.const (.string ⟨#[109,101,116,114,105,99]⟩)] O O (.cons (CellD.v O) .nil) O runUnderlying49 sizeOf9 zeroValue9 O O O O) ?_);rintro _ _ ⟨g7,rfl,rfl⟩;refine kC (mG (h':=.sl (vS g7 1 1) 1 9 ([(⟨#[109,101,116,114,105,99]⟩:ByteArray)].map D.s)) O (mR (.cons cS .nil))) (tY [] [0] O O O (ga (.cons (mP (j:=0) O O) .nil)) (without_c l [(⟨#[109,101,116,114,105,99]⟩:ByteArray)] (by omega)) (.inr (isOwn_flat (flatL_map (λ_=>rfl) _))) ?_);rintro _ _ ⟨v8,rfl,rfl⟩;refine g' 4 O (kC (mE (zau (i:=0) O)) (kC (mG (h':=.sl v8 2 52 ((keyL mode names l).map Lbl.d)) O (mI (show List.map Lbl.d (zbl l [(⟨#[109,101,116,114,105,99]⟩:ByteArray)] false)=List.map Lbl.d (keyL mode names l) from congrArg _ (by unfold keyL metB;simp[*])))) ?_));exact tR O mD ⟨_,O,O⟩
theorem vRight_c (l:List RowD) :
 CD prog 153 [] [.sh 2 (l.map RowD.d)] (isR (dB (z7 l))):=by
 refine tZ func153 O O (λC=>?_);refine T.bd 0 O (λbd0=>?_);have nl0:=zA bd0;refine g' 9 O (tP O (zH (n:=l.length) O runUnderlying36 (by simp only[lm,lc,ln])) (g' 3 O ?_));refine tD O (λhc1=>?_) (λhc1=>?_)
 · refine g' 7 O ?_;exact tRs O results153 (.cons (zf (zd O) (cB ((by exact vr_long hc1)))) .nil) O HSub.none ⟨O,O⟩
 refine g' 6 O (tP O (zH (n:=l.length) O runUnderlying36 (by simp only[lm,lc,ln])) (g' 4 O (tl1 (λ(a_:Nat)=>[(0,.sh 2 (l.map RowD.d)),(8,.sh 2 (l.map RowD.d)),(9,dN l.length),(10,dN a_)]) (λa_=>[]) (λa_=>(zbJ l 0=zbJ l a_)) (λa_=>l.length-a_) 0 O (sa O) mD O ?_)));rintro k hk;refine g' 6 O ?_;refine tD O (λhc2=>?_) (λhc2=>?_)
 · refine g' 7 O ?_;obtain ⟨x1,hx1⟩:=zj l k (by omega);refine tP O (zh (k:=k) O O runUnderlying36 sizeOf42 (by first | rfl | omega) (ze hx1)) (g' 1 O ?_);refine tA O (λg3=>?_);refine gQ 5 [0] O O ?_;rcases jY (zbt x1) with hg4 | hg4
   · by_cases hg5:(0:Int)<((k:Nat):Int)
     · refine T.keep [0,3,4,8,9,10,11,12,13,14] O ?_;obtain ⟨x2,hx2⟩:=zj l (k-1) (by omega);refine tDr 13 [(15,RowD.d x1,none),(16,dB true,none),(17,dB false,none),(18,dB false,none),(19,dN k,none),(20,dB true,none),(21,dB true,none),(22,.sh 2 (l.map RowD.d),none),(23,dN k,none),(24,dN (k-1),none),(25,.el (RowD.d x2) 0,none),(26,RowD.d x2,none),(27,RowD.d x1,none)] [.bx g3 42 (RowD.d x1)] (Hn:=[.bx g3 42 (RowD.d x1)]) mixed O O O O mD O ⟨sa_p O O O (zaP (d:=RowD.d x1) O (i:=0) O isAgg42 sizeOf42 O O),sa_q O O O ((zac O (gc .nil) Tryz.call138 (single_c x1) z8).cv (cB (hg4))),sa_p O O O (zdF (q:=true) O),sa_p O O O (zc O),zo O O O O O O (zc O).qu,zo O O O O O O (zaV O O (decide_eq_true hg5)).qu,zo O O O O O O (zc O).qu,zo O O O O O O (zc O).qu,zo O O O O O O (zc O).qu,zo O O O O O O (zT (c:=((k-1:Nat):Int)) O O (zk (by omega) (by omega))).qu,zo O O O O O O (zh (k:=k-1) O O runUnderlying36 sizeOf42 (by first | rfl | omega) (ze hx2)).qu,zo O O O O O O (zbp (d:=RowD.d x2) O isAgg42 sizeOf42 O O).qu,zo O O O O O O (zaP (d:=RowD.d x1) O (i:=0) O isAgg42 sizeOf42 O O).qu,trivial⟩ ?_;refine tK O (tW O acs (vorder_c x2 x1) (g' 5 O ?_));refine tD O (λhc6=>?_) (λhc6=>?_)
       · refine g' 11 O ?_;exact tRs O results153 (.cons (zf (zd O) (cB ((by exact vr_bad2 hk hx1 (prevR_pos hg5 hx2) hc6)))) .nil) O HSub.none ⟨O,O⟩
       refine g' 4 O (tP O (zu (c:=((k+1:Nat):Int)) O O (zk (by omega) (by omega))) (g' 2 O ?_));exact tp1 (k+1) (sa O) HSub.none (vr_step hk hx1 hg4 (prevR_pos hg5 hx2) hc6) (by omega)
     refine T.keep [0,3,4,8,9,10,11,12,13,14] O (tDr 13 [(15,RowD.d x1,none),(16,dB true,none),(17,dB false,none),(18,dB false,none),(19,dN k,none),(20,dB false,none),(21,dB false,none),(22,.v undef,none),(23,.v undef,none),(24,.v undef,none),(25,.v undef,none),(26,.v undef,none),(27,.v undef,none)] [.bx g3 42 (RowD.d x1)] (Hn:=[.bx g3 42 (RowD.d x1)]) mixed O O O O mD O ⟨sa_p O O O (zaP (d:=RowD.d x1) O (i:=0) O isAgg42 sizeOf42 O O),sa_q O O O ((zac O (gc .nil) Tryz.call138 (single_c x1) z8).cv (cB (hg4))),sa_p O O O (zdF (q:=true) O),sa_p O O O (zc O),zo O O O O O O (zc O).qu,zo O O O O O O (zaV O O (decide_eq_false hg5)).qu,zo O O O O O O (zc O).qu,sa_s O O O O O O (by decide),sa_s O O O O O O (by decide),sa_s O O O O O O (by decide),sa_s O O O O O O (by decide),sa_s O O O O O O (by decide),sa_s O O O O O O (by decide),trivial⟩ (tK O (g' 11 O (tP O (zu (c:=((k+1:Nat):Int)) O O (zk (by omega) (by omega))) (g' 2 O ?_)))));exact tp1 (k+1) (sa O) HSub.none (vr_step0 hk hx1 hg4 (prevR_zero hg5)) (by omega)
   refine T.keep [0,3,4,8,9,10,11,12,13,14] O (tDr 13 [(15,RowD.d x1,none),(16,dB false,none),(17,dB true,none),(18,dB true,none),(19,.v undef,none),(20,.v undef,none),(21,.v undef,none),(22,.v undef,none),(23,.v undef,none),(24,.v undef,none),(25,.v undef,none),(26,.v undef,none),(27,.v undef,none)] [.bx g3 42 (RowD.d x1)] (Hn:=[.bx g3 42 (RowD.d x1)]) mixed O O O O mD O ⟨sa_p O O O (zaP (d:=RowD.d x1) O (i:=0) O isAgg42 sizeOf42 O O),sa_q O O O ((zac O (gc .nil) Tryz.call138 (single_c x1) z8).cv (cB (hg4))),sa_p O O O (zdF (q:=false) O),sa_p O O O (zc O),sa_s O O O O O O (by decide),sa_s O O O O O O (by decide),sa_s O O O O O O (by decide),sa_s O O O O O O (by decide),sa_s O O O O O O (by decide),sa_s O O O O O O (by decide),sa_s O O O O O O (by decide),sa_s O O O O O O (by decide),sa_s O O O O O O (by decide),trivial⟩ (tK O (g' 18 O ?_)));exact tRs O results153 (.cons (zf (zd O) (cB ((by exact vr_bad1 hk hx1 hg4)))) .nil) O HSub.none ⟨O,O⟩
 refine g' 11 O ?_;exact tRs O results153 (.cons (zf (zd O) (cB ((by exact vr_good hk (by omega) (by omega))))) .nil) O HSub.none ⟨O,O⟩
theorem vTidy_c (l:List RowD) :
 CD prog 105 [] [.sh 2 (l.map RowD.d)] (λr H'=>∃ v0_,r=.tup [.ov v0_,dI (rtE l)]/\H'=[.sl v0_ 2 42 ((rtL l).map RowD.d)]):=by
 refine tZ func105 O O (λC=>?_);refine T.bd 0 O (λbd0=>?_);have nl0:=zA bd0;refine g' 10 O (tP O (zH (n:=l.length) O runUnderlying36 (by simp only[lm,lc,ln])) (g' 3 O ?_));refine tD O (λhc1=>?_) (λhc1=>?_)
 · refine g' 8 O (kC (HSub.nil 2 42) (kC (mG (h':=.sl (.slice none 0 0) 2 42 ((rtL l).map RowD.d)) O (mI (congrArg (List.map RowD.d) (show []=rtL l by first | exact(rt_long hc1).1 | exact(rt_long hc1).2)))) ?_));exact tRs O results105 (.cons (zf (zd O) (Cv.ov O)) (.cons (zf (zd O) (mB (congrArg (λn=>D.v (.int .i64 n)) (by first | exact(rt_long hc1).1 | exact(rt_long hc1).2)))) .nil)) O (mT 1 O) ⟨(.slice none 0 0),O,O⟩
 refine g' 11 O (tP O (zH (n:=l.length) O runUnderlying36 (by simp only[lm,lc,ln])) (g' 4 O (tl3 (λ(a_:Nat) (b_:Value) (c_:List RowD)=>[(11,.sh 2 (l.map RowD.d)),(12,dN l.length),(13,dN a_),(4,.ov b_)]) (λa_ b_ c_=>[.sl b_ 2 42 (c_.map RowD.d)]) (λa_ b_ c_=>(a_<=l.length)/\(c_=l.take a_)/\(zc5 (l.take a_)=true)) (λa_ b_ c_=>l.length-a_) 0 (.slice none 0 0) [] O ⟨sk O,sk O,sk O,sc O (Cv.ov O),trivial⟩ (HSub.nil 2 42) ⟨c7 _,O,O⟩ ?_)));rintro k ov o ⟨hkl,ho,hw⟩;have hol:o.length<=2000:=by rw[ho,dG];omega
 refine g' 6 O ?_;refine tD O (λhc2=>?_) (λhc2=>?_)
 · refine g' 6 O ?_;obtain ⟨x1,hx1⟩:=zj l k (by omega);refine tP O (zh (k:=k) O O runUnderlying36 sizeOf42 (by first | rfl | omega) (ze hx1)) (g' 1 O ?_);refine tA O (λg3=>?_);refine gQ 7 [0,0] O O (tW O acs (single_c x1) (g' 3 O ?_));refine tC O (λhc4=>?_) (λhc4=>?_)
   · simp only[bX,bJ] at hc4;refine g' 13 O (kC (HSub.nil 2 42) (kC (mG (h':=.sl (.slice none 0 0) 2 42 ((rtL l).map RowD.d)) O (mI (congrArg (List.map RowD.d) (show []=rtL l by first | exact(rt_bad' hx1 hc4).1 | exact(rt_bad' hx1 hc4).2)))) ?_));exact tRs O results105 (.cons (zf (zd O) (Cv.ov O)) (.cons (zf (zd O) (mB (congrArg (λn=>D.v (.int .i64 n)) (by first | exact(rt_bad' hx1 hc4).1 | exact(rt_bad' hx1 hc4).2)))) .nil)) O (mT 1 O) ⟨(.slice none 0 0),O,O⟩
   simp only[bX,bJ] at hc4;refine gQ 5 [0] O O (tW O acs (vown_c x1 (by have h:=okRow_len hc4;omega)) (tE O (zq [.tmp 22] O O (.cons CellD.agg .nil) O runUnderlying36 sizeOf42 zeroValue42 O O O O) ?_));rintro _ _ ⟨g5,rfl,rfl⟩;refine tE O (zy (f:=RowD.d) (l:=o) (l':=[x1]) (i:=2) O O O (mK (j:=0) O O) zfk zeM O O (by unfold maxLen;(try simp only[la,lc,ln,lm,lt',ld,ls,lr]);omega) (by (try simp only[la,lc,ln,lm,lt',ld,ls,lr]);omega)) ?_;rintro _ _ ⟨v6,rfl,rfl⟩;refine g' 5 O (tP O (zu (c:=((k+1:Nat):Int)) O O (zk (by omega) (by omega))) (g' 2 O (kE 2 O (kC (mT 1 O) ?_))));exact tp3 (k+1) v6 (o++[x1]) (sa O) mD ⟨by show k+1<=l.length;omega,by rw[ho,zU hx1],rowsB_snoc' hx1 hw hc4⟩ (by omega)
 have hrow:=td_rows hw (by omega);obtain rfl:l=o:=by rw[ho,dE (by omega)]
 have hil:=zd0 (c:=zi 0) _ l O;refine g' 8 O (tX [0] O O acs (vsortstR_c ov l 0 (by omega)) ?_);rintro _ _ ⟨rfl,rfl⟩;refine g' 9 O (tl1 (λ(a_:Nat)=>[(4,.ov ov),(7,dN a_)]) (λa_=>[.sl ov 2 42 ((zx (zi 0) l).map RowD.d)]) (λa_=>(1<=a_)/\(zed (zx (zi 0) l) a_)) (λa_=>l.length-a_) 1 O (sa O) mD ⟨dD _,zed.one _⟩ ?_);rintro i ⟨hi,hn⟩;refine g' 5 O (tP O (zG (n:=(zx (zi 0) l).length) (j:=0) O O runUnderlying36 (cW _)) (g' 3 O ?_));refine tD O (λhc7=>?_) (λhc7=>?_)
 · refine g' 5 O (T.keep [4,7,28,29,30,31] O ?_);obtain ⟨x2,hx2⟩:=zj (zx (zi 0) l) (i-1) (by omega);obtain ⟨x3,hx3⟩:=zj (zx (zi 0) l) i (by omega);refine tDr 9 [(34,.ov ov,none),(35,dN i,none),(36,dN (i-1),none),(37,.v (.pointer (some ⟨bl ov,(i-1)*2+0,none⟩)),none),(38,RowD.d x2,none),(39,.ov ov,none),(40,dN i,none),(41,.v (.pointer (some ⟨bl ov,i*2+0,none⟩)),none),(42,RowD.d x3,none)] [.sl ov 2 42 ((zx (zi 0) l).map RowD.d)] (Hn:=[.sl ov 2 42 ((zx (zi 0) l).map RowD.d)]) mixed O O O O mD O ⟨sa_p O O O (zc O),sa_p O O O (zc O),sa_p O O O (zT (c:=((i-1:Nat):Int)) O O (zk (by omega) (by omega))),sa_p O O O (zg (k:=i-1) (j:=0) O O O runUnderlying36 sizeOf42 (by first | rfl | omega) (ze hx2)),sa_p O O O (zB (d:=RowD.d x2) O (i:=0) O (ze hx2) isAgg42 sizeOf42 O O),sa_p O O O (zc O),sa_p O O O (zc O),sa_p O O O (zg (k:=i) (j:=0) O O O runUnderlying36 sizeOf42 (by first | rfl | omega) (ze hx3)),sa_p O O O (zB (d:=RowD.d x3) O (i:=0) O (ze hx3) isAgg42 sizeOf42 O O),trivial⟩ (tK O (tW O acs (vorder_c x2 x3) (g' 3 O ?_)));refine tD O (λhc8=>?_) (λhc8=>?_)
   · refine g' 12 O (kC (HSub.nil 2 42) (kC (mG (h':=.sl (.slice none 0 0) 2 42 ((rtL l).map RowD.d)) O (mI (congrArg (List.map RowD.d) (show []=rtL l by first | exact(td_twin (by omega) hrow hi hx2 hx3 hc8).1 | exact(td_twin (by omega) hrow hi hx2 hx3 hc8).2)))) ?_));exact tRs O results105 (.cons (zf (zd O) (Cv.ov O)) (.cons (zf (zd O) (mB (congrArg (λn=>D.v (.int .i64 n)) (by first | exact(td_twin (by omega) hrow hi hx2 hx3 hc8).1 | exact(td_twin (by omega) hrow hi hx2 hx3 hc8).2)))) .nil)) O (mT 1 O) ⟨(.slice none 0 0),O,O⟩
   refine g' 5 O (tP O (zu (c:=((i+1:Nat):Int)) O O (zk (by omega) (by omega))) (g' 2 O ?_));exact tp1 (i+1) (sa O) mD ⟨by show 1<=i+1;omega,hn.next hi hx2 hx3 hc8⟩ (by omega)
 refine g' 13 O (kC (mG (h':=.sl ov 2 42 ((rtL l).map RowD.d)) O (mI (congrArg (List.map RowD.d) (show (zx (zi 0) l)=rtL l by first | exact(td_good (by omega) hrow hn (by omega)).1 | exact(td_good (by omega) hrow hn (by omega)).2)))) ?_);exact tRs O results105 (.cons (zd O) (.cons (zf (zd O) (mB (congrArg (λn=>D.v (.int .i64 n)) (by first | exact(td_good (by omega) hrow hn (by omega)).1 | exact(td_good (by omega) hrow hn (by omega)).2)))) .nil)) O (mT 1 O) ⟨ov,O,O⟩
end Lp
namespace Lp
open Go
structure PtD where
 t:Int
 v:Int
 deriving DecidableEq
def PtD.d (x:PtD):D:=.agg [.v (.int .i64 x.t),.v (.int .i64 x.v)]
structure SerD where
 ls:List Lbl
 ps:List PtD
 deriving DecidableEq
def SerD.d (x:SerD):D:=.agg [.sh 2 (x.ls.map Lbl.d),.sh 2 (x.ps.map PtD.d)]
def okPt (p:PtD):Bool:=decide (0<=p.t)&&(decide (p.t<=1000000000)&&zQ p.v)
def zdU (l:List PtD):Nat->Option PtD
 | 0=>none
 | k+1=>l[k]?
def ltT (p:Option PtD) (x:PtD):Bool:=match p with
 | none=>true
 | some q=>decide (q.t<x.t)
def ascP:Option PtD->List PtD->Bool
 | _,[]=>true
 | p,r::l=>okPt r&&(ltT p r&&ascP (some r) l)
def zc9 (l:List PtD) (k:Nat):Bool:=ascP (zdU l k) (l.drop k)
def zdI (l:List PtD):Bool:=decide (l.length<=25)&&zc9 l 0
theorem ascPt_next {l:List PtD} {k:Nat} {x:PtD} (h:l[k]?=some x):zc9 l k=(okPt x&&(ltT (zdU l k) x&&zc9 l (k+1))):=by
 unfold zc9;rw[zbv h];show (okPt x&&(ltT (zdU l k) x&&ascP (some x) (l.drop (k+1))))=_;rw[show zdU l (k+1)=some x from h]
theorem ascPt_end {l:List PtD} {k:Nat} (h:l.length<=k):zc9 l k=true:=by
 unfold zc9;rw[j7.2 h];rfl
theorem zdf {l:List PtD} {k:Nat} {y:PtD} (h:(0:Int)<((k:Nat):Int)) (hy:l[k-1]?=some y):zdU l k=some y:=by
 cases k with
 | zero=>simp at h
 | succ k=>simpa [zdU] using hy
theorem prevP_zero {l:List PtD} {k:Nat} (h:¬(0:Int)<((k:Nat):Int)):zdU l k=none:=by
 have:k=0:=by omega
 subst this;rfl
section
variable {l:List PtD} {k:Nat} {x:PtD}
theorem wr_long (h:(25:Int)<((l.length:Nat):Int)):false=zdI l:=by
 have:¬l.length<=25:=by omega
 simp[zdI,this]
theorem wr_good (hk:zc9 l 0=zc9 l k) (hx:l.length<=k) (h:¬(25:Int)<((l.length:Nat):Int)):true=zdI l:=by
 have:l.length<=25:=by omega
 simp[zdI,hk,ascPt_end hx,this]
def zef (p:Option PtD) (x:PtD):Bool:=!(okPt x&&ltT p x)
theorem wr_bad (hk:zc9 l 0=zc9 l k) (hx:l[k]?=some x) (h:zef (zdU l k) x=true):false=zdI l:=by
 have h:(okPt x&&ltT (zdU l k) x)=false:=by
  unfold zef at h;cases hh:(okPt x&&ltT (zdU l k) x) with
  | false=>rfl
  | true=>rw[hh] at h;cases h
 rw[zdI,hk,ascPt_next hx,<-Bool.and_assoc (okPt x),h];simp
theorem wr_step (hk:zc9 l 0=zc9 l k) (hx:l[k]?=some x) (h:zef (zdU l k) x=false):zc9 l 0=zc9 l (k+1):=by
 have h:(okPt x&&ltT (zdU l k) x)=true:=by
  unfold zef at h;cases hh:(okPt x&&ltT (zdU l k) x) with
  | true=>rfl
  | false=>rw[hh] at h;cases h
 rw[hk,ascPt_next hx,<-Bool.and_assoc (okPt x),h,uY]
end
theorem ok1 {x:PtD} (h:x.t<0):okPt x=false:=by unfold okPt;simp;omega
theorem ok2 {x:PtD} (h:(1000000000:Int)<x.t):okPt x=false:=by unfold okPt;simp;omega
theorem ok3 {x:PtD} (h:zQ x.v=false):okPt x=false:=by unfold okPt;simp[h]
theorem okt {x:PtD} (h1:¬x.t<0) (h2:¬(1000000000:Int)<x.t) (h3:zQ x.v=true):okPt x=true:=by unfold okPt;simp[h3];omega
theorem bp1 {p:Option PtD} {x:PtD} (h:okPt x=false):zef p x=true:=by unfold zef;simp[h]
theorem bp2 {p:Option PtD} {x y:PtD} (h:p=some y) (hy:x.t<=y.t):zef p x=true:=by subst h;unfold zef ltT;simp;exact .inr hy
theorem bg1 {p:Option PtD} {x:PtD} (h:okPt x=true) (hp:p=none):zef p x=false:=by subst hp;unfold zef ltT;simp[h]
theorem bg2 {p:Option PtD} {x y:PtD} (h:okPt x=true) (hp:p=some y) (hy:¬x.t<=y.t):zef p x=false:=by subst hp;unfold zef ltT;simp[h];omega
def inW (t w:Int) (p:PtD):Bool:=decide (t-w<p.t)&&decide (p.t<=t)
def wOf (l:List PtD) (t w:Int):List PtD:=if zdI l=true/\0<=t/\t<=1000000000/\0<=w/\w<=1000000000 then l.filter (inW t w) else []
theorem of_in {l:List PtD} {t w:Int} {k:Nat} {x:PtD} (hx:l[k]?=some x) (h:t-w<x.t/\x.t<=t):(l.take (k+1)).filter (inW t w)=(l.take k).filter (inW t w)++[x]:=by
 rw[zU hx,List.filter_append];simp[inW,h.1,h.2]
theorem of_out {l:List PtD} {t w:Int} {k:Nat} {x:PtD} (hx:l[k]?=some x) (h:¬t-w<x.t\/¬x.t<=t):(l.take (k+1)).filter (inW t w)=(l.take k).filter (inW t w):=by
 rw[zU hx,List.filter_append];have:inW t w x=false:=by unfold inW;rcases h with h | h<;>simp[h]
 simp[this]
theorem wOf_no {l:List PtD} {t w:Int} (h:(((zdI l=false\/t<0)\/(1000000000:Int)<t)\/w<0)\/(1000000000:Int)<w):[]=wOf l t w:=by
 unfold wOf;rw[if_neg];rintro ⟨a,b⟩;rcases h with (((h | h) | h) | h) | h
 · rw[h] at a;cases a
 all_goals omega
theorem wOf_yes {l:List PtD} {t w:Int} (h:(((zdI l=true/\¬t<0)/\¬(1000000000:Int)<t)/\¬w<0)/\¬(1000000000:Int)<w):l.filter (inW t w)=wOf l t w:=by
 unfold wOf;rw[if_pos ⟨h.1.1.1.1,by omega,by omega,by omega,by omega⟩]
theorem wOf_len (l:List PtD) (t w:Int):(wOf l t w).length<=l.length:=by
 unfold wOf;split
 · exact List.length_filter_le _ _
 exact c7 _
def zch (l:List PtD) (t w:Int):Int×Bool:=match (wOf l t w).getLast? with
 | some p=>(p.v,true)
 | none=>(0,false)
theorem wLast_no {l:List PtD} {t w:Int} (h:(wOf l t w).length=0):(0:Int)=(zch l t w).1/\false=(zch l t w).2:=by
 unfold zch;rw[jV.1 h];exact⟨rfl,rfl⟩
theorem wLast_yes {l:List PtD} {t w:Int} {x:PtD} (h:(wOf l t w)[(wOf l t w).length-1]?=some x):x.v=(zch l t w).1/\true=(zch l t w).2:=by
 unfold zch;rw[List.getLast?_eq_getElem?,h];exact⟨rfl,rfl⟩
def zbY (l:List Lbl):Bool:=zZ l&&decide (getL l metB≠ByteArray.empty)
def selR (S:List SerD) (t:Int):List RowD:=S.filterMap λs=>match zch s.ps t 300 with
 | (v,true)=>some ⟨s.ls,v⟩
 | _=>none
def named (name:ByteArray) (S:List SerD):List SerD:=if name=ByteArray.empty then S else S.filter λs=>decide (getL s.ls metB=name)
end Lp
namespace Lp
open Go Go.RowKit Go.Proofs Tryz
theorem bd_33:BdP prog #[⟨"Labels",30,0,false, "", "",0⟩,⟨"Points",31,1,false, "", "",24⟩] [(0,1),(1,1)]:=λ_=>by kernel_rfl
theorem eqn_31 (x:Operand) (A:Option Addr) (n c:Nat) (w:World):(do eqGuard .eql 31 x (.const (.slice none 0 0)) (.slice A n c) (.slice none 0 0);binOp .eql 31 (.slice A n c) (.slice none 0 0):Sem Value).run prog w=.ok (.bool A.isNone) w:=by cases A<;>kernel_rfl
theorem fa_33_0:FaP prog 33 0 0:=λ_ _ _=>by kernel_rfl
theorem fa_33_1:FaP prog 33 1 1:=λ_ _ _=>by kernel_rfl
theorem zbV:FaP prog 35 0 0:=λ_ _ _=>by kernel_rfl
theorem fa_35_1:FaP prog 35 1 1:=λ_ _ _=>by kernel_rfl
theorem zcu:IzP prog 33 cK 2 48:=zbg (by kernel_rfl)
theorem zfd:IzP prog 35 cF 2 16:=zbg (by kernel_rfl)
theorem zdJ:Tryz.prog.underlying 26=some (.slice 33):=by kernel_rfl
theorem zfE:Tryz.prog.underlying 31=some (.slice 35):=by kernel_rfl
theorem wright_c (l:List PtD) :
 CD prog 142 [] [.sh 2 (l.map PtD.d)] (isR (dB (zdI l))):=by
 refine tZ func142 O O (λC=>?_);refine T.bd 0 O (λbd0=>?_);have nl0:=zA bd0;refine g' 9 O (tP O (zH (n:=l.length) O runUnderlying31 (by simp only[lm,lc,ln])) (g' 3 O ?_));refine tD O (λhc1=>?_) (λhc1=>?_)
 · refine g' 7 O ?_;exact tRs O results142 (.cons (zf (zd O) (cB ((by exact wr_long hc1)))) .nil) O HSub.none ⟨O,O⟩
 refine g' 6 O (tP O (zH (n:=l.length) O runUnderlying31 (by simp only[lm,lc,ln])) (g' 4 O (tl1 (λ(a_:Nat)=>[(0,.sh 2 (l.map PtD.d)),(8,.sh 2 (l.map PtD.d)),(9,dN l.length),(10,dN a_)]) (λa_=>[]) (λa_=>(zc9 l 0=zc9 l a_)) (λa_=>l.length-a_) 0 O (sa O) mD O ?_)));rintro k hk;refine g' 6 O ?_;refine tD O (λhc2=>?_) (λhc2=>?_)
 · refine g' 7 O ?_;obtain ⟨x1,hx1⟩:=zj l k (by omega);refine tP O (zh (k:=k) O O runUnderlying31 sizeOf35 (by first | rfl | omega) (ze hx1)) (g' 1 O ?_);refine tA O (λg3=>?_);refine gQ 5 [0] O O ?_;by_cases hg4:x1.t<(0:Int)
   · refine T.keep [0,3,4,8,9,10,11,12,13,14] O ?_;refine tDr 26 [(15,dP g3 0,none),(16,dI x1.t,none),(17,dB true,none),(18,dB true,none),(19,.v undef,none),(20,.v undef,none),(21,.v undef,none),(22,dB true,none),(23,dB true,none),(24,.v undef,none),(25,.v undef,none),(26,.v undef,none),(27,.v undef,none),(28,dB true,none),(29,dB true,none),(30,.v undef,none),(31,.v undef,none),(32,.v undef,none),(33,.v undef,none),(34,.v undef,none),(35,.v undef,none),(36,.v undef,none),(37,.v undef,none),(38,.v undef,none),(39,.v undef,none),(40,.v undef,none)] [.bx g3 35 (PtD.d x1)] (Hn:=[.bx g3 35 (PtD.d x1)]) mixed O O O O mD O ⟨sa_p O O O (zl O zbV O),sa_p O O O (zn O (i:=0) O isAgg3 O),sa_p O O O (zba O O (decide_eq_true hg4)),sa_p O O O (zc O),sa_s O O O O O O (by decide),sa_s O O O O O O (by decide),sa_s O O O O O O (by decide),sa_p O O O (zcp O O),sa_p O O O (zc O),sa_s O O O O O O (by decide),sa_s O O O O O O (by decide),sa_s O O O O O O (by decide),sa_s O O O O O O (by decide),sa_p O O O (zcp O O),sa_p O O O (zc O),sa_s O O O O O O (by decide),sa_s O O O O O O (by decide),sa_s O O O O O O (by decide),sa_s O O O O O O (by decide),sa_s O O O O O O (by decide),sa_s O O O O O O (by decide),sa_s O O O O O O (by decide),sa_s O O O O O O (by decide),sa_s O O O O O O (by decide),sa_s O O O O O O (by decide),sa_s O O O O O O (by decide),trivial⟩ ?_;refine tK O (g' 17 O ?_);exact tRs O results142 (.cons (zf (zd O) (cB ((by exact wr_bad hk hx1 (by first | exact bp1 (ok1 (by assumption)) | exact bp1 (ok2 (by assumption)) | exact bp1 (ok3 (by assumption)) | exact bp2 (zdf (by assumption) (by assumption)) (by assumption)))))) .nil) O HSub.none ⟨O,O⟩
   by_cases hg5:(1000000000:Int)<x1.t
   · refine T.keep [0,3,4,8,9,10,11,12,13,14] O ?_;refine tDr 26 [(15,dP g3 0,none),(16,dI x1.t,none),(17,dB false,none),(18,dB false,none),(19,dP g3 0,none),(20,dI x1.t,none),(21,dB true,none),(22,dB true,none),(23,dB true,none),(24,.v undef,none),(25,.v undef,none),(26,.v undef,none),(27,.v undef,none),(28,dB true,none),(29,dB true,none),(30,.v undef,none),(31,.v undef,none),(32,.v undef,none),(33,.v undef,none),(34,.v undef,none),(35,.v undef,none),(36,.v undef,none),(37,.v undef,none),(38,.v undef,none),(39,.v undef,none),(40,.v undef,none)] [.bx g3 35 (PtD.d x1)] (Hn:=[.bx g3 35 (PtD.d x1)]) mixed O O O O mD O ⟨sa_p O O O (zl O zbV O),sa_p O O O (zn O (i:=0) O isAgg3 O),sa_p O O O (zba O O (decide_eq_false hg4)),sa_p O O O (zc O),zo O O O O O O (zl O zbV O).qu,zo O O O O O O (zn O (i:=0) O isAgg3 O).qu,zo O O O O O O (zaV O O (decide_eq_true hg5)).qu,sa_p O O O (zaC O O),sa_p O O O (zc O),sa_s O O O O O O (by decide),sa_s O O O O O O (by decide),sa_s O O O O O O (by decide),sa_s O O O O O O (by decide),sa_p O O O (zcp O O),sa_p O O O (zc O),sa_s O O O O O O (by decide),sa_s O O O O O O (by decide),sa_s O O O O O O (by decide),sa_s O O O O O O (by decide),sa_s O O O O O O (by decide),sa_s O O O O O O (by decide),sa_s O O O O O O (by decide),sa_s O O O O O O (by decide),sa_s O O O O O O (by decide),sa_s O O O O O O (by decide),sa_s O O O O O O (by decide),trivial⟩ ?_;refine tK O (g' 17 O ?_);exact tRs O results142 (.cons (zf (zd O) (cB ((by exact wr_bad hk hx1 (by first | exact bp1 (ok1 (by assumption)) | exact bp1 (ok2 (by assumption)) | exact bp1 (ok3 (by assumption)) | exact bp2 (zdf (by assumption) (by assumption)) (by assumption)))))) .nil) O HSub.none ⟨O,O⟩
   rcases jY (zQ x1.v) with hg6 | hg6
   · by_cases hg7:(0:Int)<((k:Nat):Int)
     · refine T.keep [0,3,4,8,9,10,11,12,13,14] O ?_;obtain ⟨x2,hx2⟩:=zj l (k-1) (by omega);refine tDr 26 [(15,dP g3 0,none),(16,dI x1.t,none),(17,dB false,none),(18,dB false,none),(19,dP g3 0,none),(20,dI x1.t,none),(21,dB false,none),(22,dB false,none),(23,dB false,none),(24,dP g3 1,none),(25,dI x1.v,none),(26,dB true,none),(27,dB false,none),(28,dB false,none),(29,dB false,none),(30,dN k,none),(31,dB true,none),(32,dB true,none),(33,.sh 2 (l.map PtD.d),none),(34,dN k,none),(35,dN (k-1),none),(36,.el (PtD.d x2) 0,none),(37,.el (PtD.d x2) 0,none),(38,dI x2.t,none),(39,dP g3 0,none),(40,dI x1.t,none)] [.bx g3 35 (PtD.d x1)] (Hn:=[.bx g3 35 (PtD.d x1)]) mixed O O O O mD O ⟨sa_p O O O (zl O zbV O),sa_p O O O (zn O (i:=0) O isAgg3 O),sa_p O O O (zba O O (decide_eq_false hg4)),sa_p O O O (zc O),zo O O O O O O (zl O zbV O).qu,zo O O O O O O (zn O (i:=0) O isAgg3 O).qu,zo O O O O O O (zaV O O (decide_eq_false hg5)).qu,sa_p O O O (zaC O O),sa_p O O O (zc O),zo O O O O O O (zl O fa_35_1 O).qu,zo O O O O O O (zn O (i:=0) O isAgg3 O).qu,zo O O O O O O ((zac O (gc .nil) Tryz.call16 (zbR x1.v) z8).cv (cB (hg6))),zo O O O O O O (zdF (q:=true) O).qu,sa_p O O O (zaC O O),sa_p O O O (zc O),zo O O O O O O (zc O).qu,zo O O O O O O (zaV O O (decide_eq_true hg7)).qu,zo O O O O O O (zc O).qu,zo O O O O O O (zc O).qu,zo O O O O O O (zc O).qu,zo O O O O O O (zT (c:=((k-1:Nat):Int)) O O (zk (by omega) (by omega))).qu,zo O O O O O O (zh (k:=k-1) O O runUnderlying31 sizeOf35 (by first | rfl | omega) (ze hx2)).qu,zo O O O O O O (zD O zbV O).qu,zo O O O O O O (zK O isAgg3 O).qu,zo O O O O O O (zl O zbV O).qu,zo O O O O O O (zn O (i:=0) O isAgg3 O).qu,trivial⟩ ?_;refine tK O (g' 5 O ?_);refine tD O (λhc8=>?_) (λhc8=>?_)
       · refine g' 11 O ?_;exact tRs O results142 (.cons (zf (zd O) (cB ((by exact wr_bad hk hx1 (by first | exact bp1 (ok1 (by assumption)) | exact bp1 (ok2 (by assumption)) | exact bp1 (ok3 (by assumption)) | exact bp2 (zdf (by assumption) (by assumption)) (by assumption)))))) .nil) O HSub.none ⟨O,O⟩
       refine g' 4 O (tP O (zu (c:=((k+1:Nat):Int)) O O (zk (by omega) (by omega))) (g' 2 O ?_));exact tp1 (k+1) (sa O) HSub.none (wr_step hk hx1 (by first | exact bg1 (okt (by assumption) (by assumption) (by assumption)) (prevP_zero (by assumption)) | exact bg2 (okt (by assumption) (by assumption) (by assumption)) (zdf (by assumption) (by assumption)) (by assumption))) (by omega)
     refine T.keep [0,3,4,8,9,10,11,12,13,14] O ?_;refine tDr 26 [(15,dP g3 0,none),(16,dI x1.t,none),(17,dB false,none),(18,dB false,none),(19,dP g3 0,none),(20,dI x1.t,none),(21,dB false,none),(22,dB false,none),(23,dB false,none),(24,dP g3 1,none),(25,dI x1.v,none),(26,dB true,none),(27,dB false,none),(28,dB false,none),(29,dB false,none),(30,dN k,none),(31,dB false,none),(32,dB false,none),(33,.v undef,none),(34,.v undef,none),(35,.v undef,none),(36,.v undef,none),(37,.v undef,none),(38,.v undef,none),(39,.v undef,none),(40,.v undef,none)] [.bx g3 35 (PtD.d x1)] (Hn:=[.bx g3 35 (PtD.d x1)]) mixed O O O O mD O ⟨sa_p O O O (zl O zbV O),sa_p O O O (zn O (i:=0) O isAgg3 O),sa_p O O O (zba O O (decide_eq_false hg4)),sa_p O O O (zc O),zo O O O O O O (zl O zbV O).qu,zo O O O O O O (zn O (i:=0) O isAgg3 O).qu,zo O O O O O O (zaV O O (decide_eq_false hg5)).qu,sa_p O O O (zaC O O),sa_p O O O (zc O),zo O O O O O O (zl O fa_35_1 O).qu,zo O O O O O O (zn O (i:=0) O isAgg3 O).qu,zo O O O O O O ((zac O (gc .nil) Tryz.call16 (zbR x1.v) z8).cv (cB (hg6))),zo O O O O O O (zdF (q:=true) O).qu,sa_p O O O (zaC O O),sa_p O O O (zc O),zo O O O O O O (zc O).qu,zo O O O O O O (zaV O O (decide_eq_false hg7)).qu,zo O O O O O O (zc O).qu,sa_s O O O O O O (by decide),sa_s O O O O O O (by decide),sa_s O O O O O O (by decide),sa_s O O O O O O (by decide),sa_s O O O O O O (by decide),sa_s O O O O O O (by decide),sa_s O O O O O O (by decide),sa_s O O O O O O (by decide),trivial⟩ ?_;refine tK O (g' 10 O (tP O (zu (c:=((k+1:Nat):Int)) O O (zk (by omega) (by omega))) (g' 2 O ?_)));exact tp1 (k+1) (sa O) HSub.none (wr_step hk hx1 (by first | exact bg1 (okt (by assumption) (by assumption) (by assumption)) (prevP_zero (by assumption)) | exact bg2 (okt (by assumption) (by assumption) (by assumption)) (zdf (by assumption) (by assumption)) (by assumption))) (by omega)
   refine T.keep [0,3,4,8,9,10,11,12,13,14] O ?_;refine tDr 26 [(15,dP g3 0,none),(16,dI x1.t,none),(17,dB false,none),(18,dB false,none),(19,dP g3 0,none),(20,dI x1.t,none),(21,dB false,none),(22,dB false,none),(23,dB false,none),(24,dP g3 1,none),(25,dI x1.v,none),(26,dB false,none),(27,dB true,none),(28,dB true,none),(29,dB true,none),(30,.v undef,none),(31,.v undef,none),(32,.v undef,none),(33,.v undef,none),(34,.v undef,none),(35,.v undef,none),(36,.v undef,none),(37,.v undef,none),(38,.v undef,none),(39,.v undef,none),(40,.v undef,none)] [.bx g3 35 (PtD.d x1)] (Hn:=[.bx g3 35 (PtD.d x1)]) mixed O O O O mD O ⟨sa_p O O O (zl O zbV O),sa_p O O O (zn O (i:=0) O isAgg3 O),sa_p O O O (zba O O (decide_eq_false hg4)),sa_p O O O (zc O),zo O O O O O O (zl O zbV O).qu,zo O O O O O O (zn O (i:=0) O isAgg3 O).qu,zo O O O O O O (zaV O O (decide_eq_false hg5)).qu,sa_p O O O (zaC O O),sa_p O O O (zc O),zo O O O O O O (zl O fa_35_1 O).qu,zo O O O O O O (zn O (i:=0) O isAgg3 O).qu,zo O O O O O O ((zac O (gc .nil) Tryz.call16 (zbR x1.v) z8).cv (cB (hg6))),zo O O O O O O (zdF (q:=false) O).qu,sa_p O O O (zaC O O),sa_p O O O (zc O),sa_s O O O O O O (by decide),sa_s O O O O O O (by decide),sa_s O O O O O O (by decide),sa_s O O O O O O (by decide),sa_s O O O O O O (by decide),sa_s O O O O O O (by decide),sa_s O O O O O O (by decide),sa_s O O O O O O (by decide),sa_s O O O O O O (by decide),sa_s O O O O O O (by decide),sa_s O O O O O O (by decide),trivial⟩ ?_;refine tK O (g' 17 O ?_);exact tRs O results142 (.cons (zf (zd O) (cB ((by exact wr_bad hk hx1 (by first | exact bp1 (ok1 (by assumption)) | exact bp1 (ok2 (by assumption)) | exact bp1 (ok3 (by assumption)) | exact bp2 (zdf (by assumption) (by assumption)) (by assumption)))))) .nil) O HSub.none ⟨O,O⟩
 refine g' 11 O ?_;exact tRs O results142 (.cons (zf (zd O) (cB ((by exact wr_good hk (by omega) (by omega))))) .nil) O HSub.none ⟨O,O⟩
theorem wof_c (l:List PtD) (t:Int) (w:Int) (hl:l.length<=1000000):
 CD prog 107 [] [.sh 2 (l.map PtD.d),dI t,dI w] (zcc 2 35 ((wOf l t w).map PtD.d)):=by
 refine tZ func107 O O (λC=>?_);refine T.bd 0 O (λbd0=>?_);have nl0:=zA bd0;refine g' 9 O (tW O acs (wright_c l) (g' 2 O ?_));refine tOr 3 2 (c:=decide (t<(0:Int))) O O O O O O (λhb1 nx2=>?_) ?_
 · have hf3:=notF hb1;refine g' 2 O ?_;exact nx2 _ O O (kx 2 O O)
 refine g' 1 O ?_;refine tOr 7 2 (c:=decide ((1000000000:Int)<t)) O O O O O O (λhb4 nx5=>?_) ?_
 · obtain ⟨hf6,hf7⟩:=orF hb4;have hf8:=notF hf6;have hf9:=of_decide_eq_false hf7;refine g' 2 O ?_;exact nx5 _ O O (kx 2 O O)
 refine g' 1 O ?_;refine tOr 11 2 (c:=decide (w<(0:Int))) O O O O O O (λhb10 nx11=>?_) ?_
 · obtain ⟨hf12,hf13⟩:=orF hb10;obtain ⟨hf14,hf15⟩:=orF hf12;have hf16:=notF hf14;have hf17:=of_decide_eq_false hf15;have hf18:=of_decide_eq_false hf13;refine g' 2 O ?_;exact nx11 _ O O (kx 2 O O)
 refine g' 1 O ?_;refine tOr 15 2 (c:=decide ((1000000000:Int)<w)) O O O O O O (λhb19 nx20=>?_) ?_
 · obtain ⟨hf21,hf22⟩:=orF hb19;obtain ⟨hf23,hf24⟩:=orF hf21;obtain ⟨hf25,hf26⟩:=orF hf23;have hf27:=notF hf25;have hf28:=of_decide_eq_false hf26;have hf29:=of_decide_eq_false hf24;have hf30:=of_decide_eq_false hf22;refine g' 2 O ?_;exact nx20 _ O O (kx 2 O O)
 refine g' 2 O ?_;refine tC O (λhc31=>?_) (λhc31=>?_)
 · simp only[bX,bJ] at hc31;refine g' 7 O ?_;refine T.drop (kC (HSub.nil 2 35) ?_);refine kC (mG (h':=.sl (.slice none 0 0) 2 35 ((wOf l t w).map PtD.d)) O (mI (show List.map PtD.d []=List.map PtD.d (wOf l t w) from congrArg _ (by exact wOf_no (by assumption))))) ?_;exact tRs O results107 (.cons (zf (zd O) (Cv.ov O)) .nil) O mD ⟨_,O,O⟩
 simp only[bX,bJ] at hc31;refine g' 11 O (tP O (zH (n:=l.length) O runUnderlying31 (by simp only[lm,lc,ln])) (g' 4 O (tl3 (λ(a_:Nat) (b_:Value) (c_:List PtD)=>[(1,dI t),(2,dI w),(6,dZ),(29,.sh 2 (l.map PtD.d)),(30,dN l.length),(31,dN a_),(7,.ov b_)]) (λa_ b_ c_=>[.sl b_ 2 35 (c_.map PtD.d)]) (λa_ b_ c_=>(a_<=l.length)/\(c_=(l.take a_).filter (inW t w))) (λa_ b_ c_=>l.length-a_) 0 (.slice none 0 0) [] O ⟨sk O,sk O,sk O,sk O,sk O,sk O,sc O (Cv.ov O),trivial⟩ (HSub.nil 2 35) ⟨c7 _,O⟩ ?_)));rintro k ov o ⟨hk,ho⟩;have hol:o.length<=1000000:=by have h:=List.length_filter_le (inW t w) (l.take k);rw[<-ho,dG] at h;omega
 refine g' 6 O ?_;refine tD O (λhc32=>?_) (λhc32=>?_)
 · refine g' 6 O ?_;obtain ⟨x1,hx1⟩:=zj l k (by omega);refine tP O (zh (k:=k) O O runUnderlying31 sizeOf35 (by first | rfl | omega) (ze hx1)) (g' 1 O ?_);refine tA O (λg33=>?_);refine gQ 9 [0,0] O O (tP O (zT (c:=(t-w)) O O (zk (by omega) (by omega))) (g' 2 O ?_));refine tAnd 6 4 (c:=decide (x1.t<=t)) O O O O O O (λhb34 nx35=>?_) ?_
   · have hf36:=of_decide_eq_true hb34;refine gQ 4 [0] O O ?_;exact nx35 _ O O (kx 4 O O)
   refine g' 2 O ?_;refine tC O (λhc37=>?_) (λhc37=>?_)
   · simp only[bX,bJ] at hc37;refine gQ 3 [0] O O (tE O (zq [.tmp 48] O O (.cons CellD.agg .nil) O runUnderlying31 sizeOf35 zeroValue35 O O O O) ?_);rintro _ _ ⟨g38,rfl,rfl⟩;refine tE O (zy (f:=PtD.d) (l:=o) (l':=[x1]) (i:=2) O O O (mK (j:=0) O O) zfE zfd O O (by unfold maxLen;(try simp only[la,lc,ln,lm,lt',ld,ls,lr]);omega) (by (try simp only[la,lc,ln,lm,lt',ld,ls,lr]);omega)) ?_;rintro _ _ ⟨v39,rfl,rfl⟩;refine g' 5 O (tP O (zu (c:=((k+1:Nat):Int)) O O (zk (by omega) (by omega))) (g' 2 O (kE 2 O (kC (mT 1 O) ?_))));exact tp3 (k+1) v39 (o++[x1]) (sa O) mD ⟨by show k+1<=l.length;omega,by rw[ho];first | exact(of_in hx1 (by assumption)).symm | exact(of_out hx1 (by assumption)).symm⟩ (by omega)
   simp only[bX,bJ] at hc37;refine g' 4 O (tP O (zu (c:=((k+1:Nat):Int)) O O (zk (by omega) (by omega))) (g' 2 O (kE 1 O (kC (mT 1 O) ?_))));exact tp3 (k+1) ov o (sa O) mD ⟨by show k+1<=l.length;omega,by rw[ho];first | exact(of_in hx1 (by assumption)).symm | exact(of_out hx1 (by assumption)).symm⟩ (by omega)
 refine g' 12 O (kC (mE (zau (i:=0) O)) (kC (mG (h':=.sl ov 2 35 ((wOf l t w).map PtD.d)) O (mI (show List.map PtD.d o=List.map PtD.d (wOf l t w) from congrArg _ (by rw[ho,dE (by omega)];exact wOf_yes (by assumption))))) ?_));exact tR O mD ⟨_,O,O⟩
theorem wlast_c (l:List PtD) (t:Int) (w:Int) (hl:l.length<=1000000):
 CD prog 104 [] [.sh 2 (l.map PtD.d),dI t,dI w] (isR (.tup [dI ((zch l t w).1),dB ((zch l t w).2)])):=by
 refine tZ func104 O O (λC=>?_);refine T.bd 0 O (λbd0=>?_);have nl0:=zA bd0;have hwl:=wOf_len l t w;refine g' 11 O (tX [] O O acs (wof_c l t w (by omega)) ?_);rintro _ _ ⟨v1,rfl,rfl⟩;refine g' 7 O (tP O (zG (n:=(wOf l t w).length) (j:=0) O O runUnderlying31 (cW _)) (g' 3 O ?_));refine tD O (λhc2=>?_) (λhc2=>?_)
 · refine g' 8 O ?_;exact tRs O results104 (.cons (zf (zd O) (mB (congrArg (λn=>D.v (.int .i64 n)) (by first | exact(wLast_no (by omega)).1 | exact(wLast_no (by omega)).2)))) (.cons (zf (zd O) (cB ((by first | exact(wLast_no (by omega)).1 | exact(wLast_no (by omega)).2)))) .nil)) O HSub.none ⟨O,O⟩
 refine g' 6 O (tP O (zG (n:=(wOf l t w).length) (j:=0) O O runUnderlying31 (cW _)) (tP O (zT (c:=((((wOf l t w).length)-1:Nat):Int)) O O (zk (by omega) (by omega))) ?_));obtain ⟨x1,hx1⟩:=zj (wOf l t w) (((wOf l t w).length)-1) (by omega);refine tP O (zg (k:=((wOf l t w).length)-1) (j:=0) O O O runUnderlying31 sizeOf35 (by first | rfl | omega) (ze hx1)) (g' 1 O (tP O (zaA O (i:=0) O (ze hx1) isAgg3 O) (g' 5 O ?_)));exact tRs O results104 (.cons (zf (zd O) (mB (congrArg (λn=>D.v (.int .i64 n)) (by first | exact(wLast_yes hx1).1 | exact(wLast_yes hx1).2)))) (.cons (zf (zd O) (cB ((by first | exact(wLast_yes hx1).1 | exact(wLast_yes hx1).2)))) .nil)) O HSub.none ⟨O,O⟩
theorem sright_c (l:List Lbl) :
 CD prog 15 [] [.sh 2 (l.map Lbl.d)] (isR (dB (zbY l))):=by
 refine tZ func15 O O (λC=>?_);refine T.bd 0 O (λbd0=>?_);have nl0:=zA bd0;refine g' 8 O (tW O acs (right_c l) (g' 1 O ?_));refine tAnd 2 3 (c:=decide ((getL l (⟨#[109,101,116,114,105,99]⟩:ByteArray))≠ByteArray.empty)) O O O O O O (λhb1 nx2=>?_) ?_
 · refine g' 1 O (tW O (ga (.cons (ArgC.cv cS) .nil)) (getL_c l (⟨#[109,101,116,114,105,99]⟩:ByteArray)) (g' 1 O ?_));exact nx2 _ O O (kx 3 O O)
 refine g' 4 O ?_;exact tRs O results15 (.cons (zf (zd O) (cB ((by unfold zbY;rw[rightB_eq]<;>rfl)))) .nil) O HSub.none ⟨O,O⟩
theorem sorder_c (x:SerD) (l:List Lbl) :
 CD prog 18 [] [SerD.d x,.sh 2 (l.map Lbl.d)] (isR (dI (zw x.ls l))):=by
 refine tZ func18 O O (λC=>?_);refine T.bd 0 O (λbd0=>?_);refine T.bd 1 O (λbd1=>?_);have nl1:=zA bd1;refine g' 2 O ?_;refine tA O (λg1=>?_);refine gQ 8 [0] O O (tW O acs (zb5 x.ls l) (g' 4 O ?_));exact tR O HSub.none ⟨O,O⟩
theorem cloneP_c (l:List PtD) (hl:l.length<=1000000):
 CD prog 258 [] [.sh 2 (l.map PtD.d)] (zcc 2 35 (l.map PtD.d)):=by
 refine tZ func258 O O (λC=>?_);refine T.bd 0 O (λbd0=>?_);have nl0:=zA bd0;refine g' 9 O (tE O (ef_isNil O (eqn_31 _)) ?_);rintro _ _ ⟨b1,rfl,rfl,hb1⟩;refine g' 2 O ?_;refine tC O (λhc2=>?_) (λhc2=>?_)
 · refine g' 7 O ?_;refine T.drop (kC (HSub.nil 2 35) ?_);refine kC (mG (h':=.sl (.slice none 0 0) 2 35 (l.map PtD.d)) O (mI (show List.map PtD.d []=List.map PtD.d l from congrArg _ (by exact(vA.1 (hb1 hc2)).symm)))) ?_;exact tRs O results258 (.cons (zf (zd O) (Cv.ov O)) .nil) O mD ⟨_,O,O⟩
 refine g' 4 O (tE O (ef_buildSlice0 runUnderlying31 sizeOf35) ?_);rintro _ _ ⟨g3,rfl,rfl⟩;refine g' 1 O (tE O (zy (f:=PtD.d) (l:=[]) (l':=l) (i:=0) O O O (SrcD.sh) zfE zfd O O (by unfold maxLen;(try simp only[la,lc,ln,lm,lt',ld,ls,lr]);omega) (by (try simp only[la,lc,ln,lm,lt',ld,ls,lr]);omega)) ?_);rintro _ _ ⟨v4,rfl,rfl⟩;refine g' 4 O (kC (mE (zau (i:=0) O)) (kC (mG (h':=.sl v4 2 35 (l.map PtD.d)) O (mI (show List.map PtD.d ([]++l)=List.map PtD.d l from congrArg _ (by rfl)))) ?_));exact tR O mD ⟨_,O,O⟩
theorem copies_c (l:List SerD) (hl:l.length<=1000000) (hs:∀ s∈l,s.ls.length<=1000000/\s.ps.length<=1000000):
 CD prog 230 [] [.sh 2 (l.map SerD.d)] (zcc 2 33 (l.map SerD.d)):=by
 refine tZ func230 O O (λC=>?_);refine T.bd 0 O (λbd0=>?_);have nl0:=zA bd0;refine g' 14 O (tP O (zH (n:=l.length) O runUnderlying26 (by simp only[lm,lc,ln])) (g' 4 O (tl3 (λ(a_:Nat) (b_:Value) (c_:List SerD)=>[(2,dZ),(6,.sh 2 (l.map SerD.d)),(7,dN l.length),(8,dN a_),(3,.ov b_)]) (λa_ b_ c_=>[.sl b_ 2 33 (c_.map SerD.d)]) (λa_ b_ c_=>(a_<=l.length)/\(c_=l.take a_)) (λa_ b_ c_=>l.length-a_) 0 (.slice none 0 0) [] O ⟨sk O,sk O,sk O,sk O,sc O (Cv.ov O),trivial⟩ (HSub.nil 2 33) ⟨c7 _,O⟩ ?_)));rintro k ov o ⟨hk,ho⟩;have hol:o.length<=1000000:=by rw[ho,dG];omega
 refine g' 6 O ?_;refine tD O (λhc1=>?_) (λhc1=>?_)
 · refine g' 6 O ?_;obtain ⟨x1,hx1⟩:=zj l k (by omega);have hzx1:=hs x1 (zaw hx1);refine tP O (zh (k:=k) O O runUnderlying26 sizeOf33 (by first | rfl | omega) (ze hx1)) (g' 1 O ?_);refine tA O (λg2=>?_);refine gQ 3 [0] O O (T.keep [2,3,5,6,7,8,9,10,11] O ?_);refine tDr 9 [(12,.ov ov,none),(13,dP g2 0,none),(14,.sh 2 (x1.ls.map Lbl.d),none),(15,.sh 2 (x1.ls.map Lbl.d),none),(16,dP g2 1,none),(17,.sh 2 (x1.ps.map PtD.d),none),(18,.sh 2 (x1.ps.map PtD.d),none),(19,.agg [.sh 2 (x1.ls.map Lbl.d),.sh 2 (x1.ps.map PtD.d)],none),(20,.sh 2 ([x1].map SerD.d),none)] [.bx g2 33 (SerD.d x1),.sl ov 2 33 (o.map SerD.d)] (Hn:=[.bx g2 33 (SerD.d x1),.sl ov 2 33 (o.map SerD.d)]) mixed O O O O mD O ⟨sa_p O O O (zc O),sa_p O O O (zl O fa_33_0 O),sa_p O O O (zn O (i:=0) O isAgg30 O),sa_q O O O (zac O (gc .nil) Tryz.call20 (zd6 x1.ls (by omega)) zbb),sa_p O O O (zl O fa_33_1 O),sa_p O O O (zn O (i:=0) O isAgg31 O),sa_q O O O (zac O (gc .nil) Tryz.call258 (cloneP_c x1.ps (by omega)) zbb),sa_p O O O (zr [0,1] [.tmp 15,.tmp 18] (zv:=cK) O O (.cons CellD.sh (.cons CellD.sh .nil)) (runUnderlying33) zeroValue33 bd_33 ⟨O,O,trivial⟩ O),sa_q O O O (zm [.tmp 19] O O (.cons CellD.agg .nil) O runUnderlying26 sizeOf33 zeroValue33 O O O O),trivial⟩ (tK O ?_);refine tE O (zy (f:=SerD.d) (l:=o) (l':=[x1]) (i:=1) O O O (SrcD.sh) zdJ zcu O O (by unfold maxLen;(try simp only[la,lc,ln,lm,lt',ld,ls,lr]);omega) (by (try simp only[la,lc,ln,lm,lt',ld,ls,lr]);omega)) ?_;rintro _ _ ⟨v3,rfl,rfl⟩;refine g' 5 O (tP O (zu (c:=((k+1:Nat):Int)) O O (zk (by omega) (by omega))) (g' 2 O (kE 1 O (kC (mT 1 O) ?_))));exact tp3 (k+1) v3 (o++[x1]) (sa O) mD ⟨by show k+1<=l.length;omega,by rw[ho,zU hx1]⟩ (by omega)
 refine g' 12 O (kC (mE (zau (i:=0) O)) (kC (mG (h':=.sl ov 2 33 (l.map SerD.d)) O (mI (show List.map SerD.d o=List.map SerD.d l from congrArg _ (by rw[ho,dE (by omega)])))) ?_));exact tR O mD ⟨_,O,O⟩
end Lp
