import Derived.Test.YtegbgpbchcjahaaGreatDoorV60
set_option linter.all false
set_option maxHeartbeats 4000000
set_option maxRecDepth 100000
namespace Lp
open Go Go.RowKit Go.Proofs Tryz
def zf3:BdP prog #[⟨"Labels",40,0,false, "", "",0⟩,⟨"V",3,1,false, "", "",24⟩] [(0,1),(1,1)]:=λ_=>by kernel_rfl
def zfW:FaP prog 50 0 0:=λ_ _ _=>by kernel_rfl
def zeg:FaP prog 50 1 1:=λ_ _ _=>by kernel_rfl
def zfV:IzP prog 50 cG 2 32:=zdf (by kernel_rfl)
def zgo:Tryz.prog.underlying 32=some (.slice 50):=by kernel_rfl
def aA2 (a:RowD) (b:RowD) :
 CD prog 193 [] [RowD.d a,RowD.d b] (isR (dI (zt a.ls b.ls))):=by
 refine tZ func193 O O (λC=>?_);refine T.bd 0 O (λbd0=>?_);refine T.bd 1 O (λbd1=>?_);refine g' 2 O ?_;refine tA O (λg1=>?_);refine tA O (λg2=>?_);refine gQ 9 [1,0] O O (tW O acs (zcu a.ls b.ls) (g' 4 O ?_));exact tR O HSub.none ⟨O,O⟩
def iR (r:RowD) :
 CD prog 191 [] [RowD.d r] (isR (dB (zcK r))):=by
 refine tZ func191 O O (λC=>?_);refine T.bd 0 O (λbd0=>?_);refine g' 2 O ?_;refine tA O (λg1=>?_);refine gQ 7 [0] O O (tW O acs (aHa r.ls) (g' 1 O ?_));refine tAnd 3 3 (c:=zD r.v) O O O O O O (λhb2 nx3=>?_) ?_
 · refine gQ 2 [0] O O (tW O acs (zch r.v) ?_);exact nx3 _ O O (kx 3 O O)
 refine g' 4 O ?_;exact tRs O results191 (.cons (zc (za O) (cB ((by unfold zcK;rw[sB])))) .nil) O HSub.none ⟨O,O⟩
def aVs (r:RowD) (hl:r.ls.length<=1000000):
 CD prog 192 [] [RowD.d r] (isR (RowD.d r)):=by
 refine tZ func192 O O (λC=>?_);refine T.bd 0 O (λbd0=>?_);refine g' 2 O ?_;refine tA O (λg1=>?_);refine tA O (λg2=>?_);refine g' 3 O (T.keep [0,1,2] O (tDr 5 [(3,dP g1 0,none),(4,.sh 2 (r.ls.map Lbl.d),none),(5,.sh 2 (r.ls.map Lbl.d),none),(6,dP g1 1,none),(7,dI r.v,none)] [.bx g2 50 (.agg [dZ,dI 0]),.bx g1 50 (RowD.d r)] (Hn:=[.bx g2 50 (.agg [dZ,dI 0]),.bx g1 50 (RowD.d r)]) mixed O O O O w8 O ⟨sa_p O O O (zk O zfW O),sa_p O O O (zl O (i:=1) O isAgg40 O),sa_q O O O (zal O (gc .nil) Tryz.call26 (zeS r.ls (by omega)) zb3),sa_p O O O (zk O zeg O),sa_p O O O (zl O (i:=1) O bU O),trivial⟩ (tK O (tP O (zm [0,1] [.tmp 5,.tmp 7] (zv:=cG) O O (.cons CellD.sh (.cons (CellD.v O) .nil)) (eD) bQ zf3 ⟨O,O,trivial⟩ O) (gQ 4 [0] O O ?_)))));exact tRs O results192 (.cons (zu (i:=0) O O bL aL O O) .nil) O HSub.none ⟨O,O⟩
def aXn (mode:Int) (names:List Ba) (l:List Lbl) (hl:l.length<=1000000):
 CD prog 154 [] [dI mode,.sh 1 (names.map D.s),.sh 2 (l.map Lbl.d)] (zcA 2 48 ((keyL mode names l).map Lbl.d)):=by
 refine tZ func154 O O (λC=>?_);refine T.bd 1 O (λbd1=>?_);have nl1:=zy bd1;refine T.bd 2 O (λbd2=>?_);have nl2:=zy bd2;have hp1:=kJ l names false;refine g' 18 O ?_;refine tD O (λhc1=>?_) (λhc1=>?_)
 · refine g' 4 O (tX [] O O acs (aW8 l names (by omega)) ?_);rintro _ _ ⟨v2,rfl,rfl⟩;refine g' 6 O (mW (w9 (zaJ (i:=0) O)) (mW (mB (h':=.sl v2 2 48 ((keyL mode names l).map Lbl.d)) O (mD (show List.map Lbl.d (zb0 l names true)=List.map Lbl.d (keyL mode names l) from aG _ (by unfold keyL metB;simp[*])))) ?_));exact tR O w8 ⟨_,O,O⟩
 refine g' 6 O ?_;refine tD O (λhc3=>?_) (λhc3=>?_)
 · refine g' 4 O (tX [] O O acs (kV l names (by omega)) ?_);rintro _ _ ⟨v4,rfl,rfl⟩;refine tE O (zw [.const (.string ⟨#[109,101,116,114,105,99]⟩)] O O (.cons (CellD.v O) .nil) O bK eE bW O O O O) ?_;rintro _ _ ⟨g5,rfl,rfl⟩;refine mW (mB (h':=.sl (vS g5 1 1) 1 9 ([(⟨#[109,101,116,114,105,99]⟩:Ba)].map D.s)) O (mM (.cons cS .nil))) (tY [] [1,0] O O O (.cons (mK (j:=0) O O) (.cons (mK (j:=1) O O) .nil)) (kV (zb0 l names false) [(⟨#[109,101,116,114,105,99]⟩:Ba)] (by omega)) (.inr (oB (kF (λ_=>rfl) _))) ?_);rintro _ _ ⟨v6,rfl,rfl⟩;refine g' 6 O (mW (w9 (zaJ (i:=0) O)) (mW (mB (h':=.sl v6 2 48 ((keyL mode names l).map Lbl.d)) O (mD (show List.map Lbl.d (zb0 (zb0 l names false) [(⟨#[109,101,116,114,105,99]⟩:Ba)] false)=List.map Lbl.d (keyL mode names l) from aG _ (by unfold keyL metB;simp[*])))) ?_));exact tR O w8 ⟨_,O,O⟩
 refine g' 6 O (tE O (zw [.const (.string ⟨#[109,101,116,114,105,99]⟩)] O O (.cons (CellD.v O) .nil) O bK eE bW O O O O) ?_);rintro _ _ ⟨g7,rfl,rfl⟩;refine mW (mB (h':=.sl (vS g7 1 1) 1 9 ([(⟨#[109,101,116,114,105,99]⟩:Ba)].map D.s)) O (mM (.cons cS .nil))) (tY [] [0] O O O (ga (.cons (mK (j:=0) O O) .nil)) (kV l [(⟨#[109,101,116,114,105,99]⟩:Ba)] (by omega)) (.inr (oB (kF (λ_=>rfl) _))) ?_);rintro _ _ ⟨v8,rfl,rfl⟩;refine g' 4 O (mW (w9 (zaJ (i:=0) O)) (mW (mB (h':=.sl v8 2 48 ((keyL mode names l).map Lbl.d)) O (mD (show List.map Lbl.d (zb0 l [(⟨#[109,101,116,114,105,99]⟩:Ba)] false)=List.map Lbl.d (keyL mode names l) from aG _ (by unfold keyL metB;simp[*])))) ?_));exact tR O w8 ⟨_,O,O⟩
def aCf (l:List RowD) :
 CD prog 206 [] [.sh 2 (l.map RowD.d)] (isR (dB (zbc l))):=by
 refine tZ func206 O O (λC=>?_);refine T.bd 0 O (λbd0=>?_);have nl0:=zy bd0;refine g' 9 O (tP O (zH (n:=l.length) O aK (by simp only[lm,lc,ln])) (g' 3 O ?_));refine tD O (λhc1=>?_) (λhc1=>?_)
 · refine g' 7 O ?_;exact tRs O results206 (.cons (zc (za O) (cB ((by exact aR3 hc1)))) .nil) O HSub.none ⟨O,O⟩
 refine g' 6 O (tP O (zH (n:=l.length) O aK (by simp only[lm,lc,ln])) (g' 4 O (tl1 (λ(a_:Nat)=>[(0,.sh 2 (l.map RowD.d)),(8,.sh 2 (l.map RowD.d)),(9,dN l.length),(10,dN a_)]) (λa_=>[]) (λa_=>(zcc l 0=zcc l a_)) (λa_=>l.length-a_) 0 O (sa O) w8 O ?_)));rintro k hk;refine g' 6 O ?_;refine tD O (λhc2=>?_) (λhc2=>?_)
 · refine g' 7 O ?_;obtain ⟨x1,hx1⟩:=zi l k (by omega);refine tP O (zf (k:=k) O O aK aL (by first | rfl | omega) (zd hx1)) (g' 1 O ?_);refine tA O (λg3=>?_);refine gQ 5 [0] O O ?_;rcases jA (zcK x1) with hg4 | hg4
   · by_cases hg5:(0:Int)<((k:Nat):Int)
     · refine T.keep [0,3,4,8,9,10,11,12,13,14] O ?_;obtain ⟨x2,hx2⟩:=zi l (k-1) (by omega);refine tDr 13 [(15,RowD.d x1,none),(16,dB true,none),(17,dB false,none),(18,dB false,none),(19,dN k,none),(20,dB true,none),(21,dB true,none),(22,.sh 2 (l.map RowD.d),none),(23,dN k,none),(24,dN (k-1),none),(25,.el (RowD.d x2) 0,none),(26,RowD.d x2,none),(27,RowD.d x1,none)] [.bx g3 50 (RowD.d x1)] (Hn:=[.bx g3 50 (RowD.d x1)]) mixed O O O O w8 O ⟨sa_p O O O (zbg (d:=RowD.d x1) O (i:=0) O bL aL O O),sa_q O O O ((zal O (gc .nil) Tryz.call191 (iR x1) zaf).cv (cB (hg4))),sa_p O O O (zed (q:=true) O),sa_p O O O (zb O),zn O O O O O O (zb O).qu,zn O O O O O O (zan O O (aE hg5)).qu,zn O O O O O O (zb O).qu,zn O O O O O O (zb O).qu,zn O O O O O O (zb O).qu,zn O O O O O O (zR (c:=((k-1:Nat):Int)) O O (zh (by omega) (by omega))).qu,zn O O O O O O (zf (k:=k-1) O O aK aL (by first | rfl | omega) (zd hx2)).qu,zn O O O O O O (zbb (d:=RowD.d x2) O bL aL O O).qu,zn O O O O O O (zbg (d:=RowD.d x1) O (i:=0) O bL aL O O).qu,trivial⟩ ?_;refine tK O (tW O acs (aA2 x2 x1) (g' 5 O ?_));refine tD O (λhc6=>?_) (λhc6=>?_)
       · refine g' 11 O ?_;exact tRs O results206 (.cons (zc (za O) (cB ((by exact aSr hk hx1 (tI hg5 hx2) hc6)))) .nil) O HSub.none ⟨O,O⟩
       refine g' 4 O (tP O (zq (c:=((k+1:Nat):Int)) O O (zh (by omega) (by omega))) (g' 2 O ?_));exact tp1 (k+1) (sa O) HSub.none (aUv hk hx1 hg4 (tI hg5 hx2) hc6) (by omega)
     refine T.keep [0,3,4,8,9,10,11,12,13,14] O (tDr 13 [(15,RowD.d x1,none),(16,dB true,none),(17,dB false,none),(18,dB false,none),(19,dN k,none),(20,dB false,none),(21,dB false,none),(22,.v undef,none),(23,.v undef,none),(24,.v undef,none),(25,.v undef,none),(26,.v undef,none),(27,.v undef,none)] [.bx g3 50 (RowD.d x1)] (Hn:=[.bx g3 50 (RowD.d x1)]) mixed O O O O w8 O ⟨sa_p O O O (zbg (d:=RowD.d x1) O (i:=0) O bL aL O O),sa_q O O O ((zal O (gc .nil) Tryz.call191 (iR x1) zaf).cv (cB (hg4))),sa_p O O O (zed (q:=true) O),sa_p O O O (zb O),zn O O O O O O (zb O).qu,zn O O O O O O (zan O O (aD hg5)).qu,zn O O O O O O (zb O).qu,sa_s O O O O O O (by decide),sa_s O O O O O O (by decide),sa_s O O O O O O (by decide),sa_s O O O O O O (by decide),sa_s O O O O O O (by decide),sa_s O O O O O O (by decide),trivial⟩ (tK O (g' 11 O (tP O (zq (c:=((k+1:Nat):Int)) O O (zh (by omega) (by omega))) (g' 2 O ?_)))));exact tp1 (k+1) (sa O) HSub.none (aLn hk hx1 hg4 (aDy hg5)) (by omega)
   refine T.keep [0,3,4,8,9,10,11,12,13,14] O (tDr 13 [(15,RowD.d x1,none),(16,dB false,none),(17,dB true,none),(18,dB true,none),(19,.v undef,none),(20,.v undef,none),(21,.v undef,none),(22,.v undef,none),(23,.v undef,none),(24,.v undef,none),(25,.v undef,none),(26,.v undef,none),(27,.v undef,none)] [.bx g3 50 (RowD.d x1)] (Hn:=[.bx g3 50 (RowD.d x1)]) mixed O O O O w8 O ⟨sa_p O O O (zbg (d:=RowD.d x1) O (i:=0) O bL aL O O),sa_q O O O ((zal O (gc .nil) Tryz.call191 (iR x1) zaf).cv (cB (hg4))),sa_p O O O (zed (q:=false) O),sa_p O O O (zb O),sa_s O O O O O O (by decide),sa_s O O O O O O (by decide),sa_s O O O O O O (by decide),sa_s O O O O O O (by decide),sa_s O O O O O O (by decide),sa_s O O O O O O (by decide),sa_s O O O O O O (by decide),sa_s O O O O O O (by decide),sa_s O O O O O O (by decide),trivial⟩ (tK O (g' 18 O ?_)));exact tRs O results206 (.cons (zc (za O) (cB ((by exact aTf hk hx1 hg4)))) .nil) O HSub.none ⟨O,O⟩
 refine g' 11 O ?_;exact tRs O results206 (.cons (zc (za O) (cB ((by exact aUc hk (by omega) (by omega))))) .nil) O HSub.none ⟨O,O⟩
def aHq (l:List RowD) :
 CD prog 151 [] [.sh 2 (l.map RowD.d)] (λr H'=>∃ v0_,r=.tup [.ov v0_,dI (rtE l)]/\H'=[.sl v0_ 2 50 ((rtL l).map RowD.d)]):=by
 refine tZ func151 O O (λC=>?_);refine T.bd 0 O (λbd0=>?_);have nl0:=zy bd0;refine g' 10 O (tP O (zH (n:=l.length) O aK (by simp only[lm,lc,ln])) (g' 3 O ?_));refine tD O (λhc1=>?_) (λhc1=>?_)
 · refine g' 8 O (mW (HSub.nil 2 50) (mW (mB (h':=.sl (.slice none 0 0) 2 50 ((rtL l).map RowD.d)) O (mD (aG (List.map RowD.d) (show []=rtL l by first | exact(pN hc1).1 | exact(pN hc1).2)))) ?_));exact tRs O results151 (.cons (zc (za O) (Cv.ov O)) (.cons (zc (za O) (w6 (aG (λn=>D.v (.int .i64 n)) (by first | exact(pN hc1).1 | exact(pN hc1).2)))) .nil)) O (mO 1 O) ⟨(.slice none 0 0),O,O⟩
 refine g' 11 O (tP O (zH (n:=l.length) O aK (by simp only[lm,lc,ln])) (g' 4 O (tl3 (λ(a_:Nat) (b_:Value) (c_:List RowD)=>[(11,.sh 2 (l.map RowD.d)),(12,dN l.length),(13,dN a_),(4,.ov b_)]) (λa_ b_ c_=>[.sl b_ 2 50 (c_.map RowD.d)]) (λa_ b_ c_=>(a_<=l.length)/\(c_=l.take a_)/\(zdT (l.take a_)=true)) (λa_ b_ c_=>l.length-a_) 0 (.slice none 0 0) [] O ⟨sk O,sk O,sk O,sc O (Cv.ov O),trivial⟩ (HSub.nil 2 50) ⟨cT _,O,O⟩ ?_)));rintro k ov o ⟨hkl,ho,hw⟩;have hol:o.length<=2000:=by rw[ho,cY];omega
 refine g' 6 O ?_;refine tD O (λhc2=>?_) (λhc2=>?_)
 · refine g' 6 O ?_;obtain ⟨x1,hx1⟩:=zi l k (by omega);refine tP O (zf (k:=k) O O aK aL (by first | rfl | omega) (zd hx1)) (g' 1 O ?_);refine tA O (λg3=>?_);refine gQ 7 [0,0] O O (tW O acs (iR x1) (g' 3 O ?_));refine tC O (λhc4=>?_) (λhc4=>?_)
   · simp only[bX,bJ] at hc4;refine g' 13 O (mW (HSub.nil 2 50) (mW (mB (h':=.sl (.slice none 0 0) 2 50 ((rtL l).map RowD.d)) O (mD (aG (List.map RowD.d) (show []=rtL l by first | exact(qH hx1 hc4).1 | exact(qH hx1 hc4).2)))) ?_));exact tRs O results151 (.cons (zc (za O) (Cv.ov O)) (.cons (zc (za O) (w6 (aG (λn=>D.v (.int .i64 n)) (by first | exact(qH hx1 hc4).1 | exact(qH hx1 hc4).2)))) .nil)) O (mO 1 O) ⟨(.slice none 0 0),O,O⟩
   simp only[bX,bJ] at hc4;refine gQ 5 [0] O O (tW O acs (aVs x1 (by have h:=gB hc4;omega)) (tE O (zw [.tmp 22] O O (.cons CellD.agg .nil) O aK aL bQ O O O O) ?_));rintro _ _ ⟨g5,rfl,rfl⟩;refine tE O (zG (f:=RowD.d) (l:=o) (l':=[x1]) (i:=2) O O O (mF (j:=0) O O) zgo zfV O O (by unfold maxLen;(try simp only[la,lc,ln,lm,lt',ld,ls,lr]);omega) (by (try simp only[la,lc,ln,lm,lt',ld,ls,lr]);omega)) ?_;rintro _ _ ⟨v6,rfl,rfl⟩;refine g' 5 O (tP O (zq (c:=((k+1:Nat):Int)) O O (zh (by omega) (by omega))) (g' 2 O (mY 2 O (mW (mO 1 O) ?_))));exact tp3 (k+1) v6 (o++[x1]) (sa O) w8 ⟨by show k+1<=l.length;omega,by rw[ho,zS hx1],xI hx1 hw hc4⟩ (by omega)
 have hrow:=aUt hw (by omega);obtain rfl:l=o:=by rw[ho,c6 (by omega)]
 have hil:=zeJ (c:=zg 0) _ l O;refine g' 8 O (tX [0] O O acs (aDm ov l 0 (by omega)) ?_);rintro _ _ ⟨rfl,rfl⟩;refine g' 9 O (tl1 (λ(a_:Nat)=>[(4,.ov ov),(7,dN a_)]) (λa_=>[.sl ov 2 50 ((zr (zg 0) l).map RowD.d)]) (λa_=>(1<=a_)/\(ze1 (zr (zg 0) l) a_)) (λa_=>l.length-a_) 1 O (sa O) w8 ⟨cW _,ze1.one _⟩ ?_);rintro i ⟨hi,hn⟩;refine g' 5 O (tP O (zK (n:=(zr (zg 0) l).length) (j:=0) O O aK (cN _)) (g' 3 O ?_));refine tD O (λhc7=>?_) (λhc7=>?_)
 · refine g' 5 O (T.keep [4,7,28,29,30,31] O ?_);obtain ⟨x2,hx2⟩:=zi (zr (zg 0) l) (i-1) (by omega);obtain ⟨x3,hx3⟩:=zi (zr (zg 0) l) i (by omega);refine tDr 9 [(34,.ov ov,none),(35,dN i,none),(36,dN (i-1),none),(37,.v (.pointer (some ⟨bl ov,(i-1)*2+0,none⟩)),none),(38,RowD.d x2,none),(39,.ov ov,none),(40,dN i,none),(41,.v (.pointer (some ⟨bl ov,i*2+0,none⟩)),none),(42,RowD.d x3,none)] [.sl ov 2 50 ((zr (zg 0) l).map RowD.d)] (Hn:=[.sl ov 2 50 ((zr (zg 0) l).map RowD.d)]) mixed O O O O w8 O ⟨sa_p O O O (zb O),sa_p O O O (zb O),sa_p O O O (zR (c:=((i-1:Nat):Int)) O O (zh (by omega) (by omega))),sa_p O O O (ze (k:=i-1) (j:=0) O O O aK aL (by first | rfl | omega) (zd hx2)),sa_p O O O (zA (d:=RowD.d x2) O (i:=0) O (zd hx2) bL aL O O),sa_p O O O (zb O),sa_p O O O (zb O),sa_p O O O (ze (k:=i) (j:=0) O O O aK aL (by first | rfl | omega) (zd hx3)),sa_p O O O (zA (d:=RowD.d x3) O (i:=0) O (zd hx3) bL aL O O),trivial⟩ (tK O (tW O acs (aA2 x2 x3) (g' 3 O ?_)));refine tD O (λhc8=>?_) (λhc8=>?_)
   · refine g' 12 O (mW (HSub.nil 2 50) (mW (mB (h':=.sl (.slice none 0 0) 2 50 ((rtL l).map RowD.d)) O (mD (aG (List.map RowD.d) (show []=rtL l by first | exact(qJ (by omega) hrow hi hx2 hx3 hc8).1 | exact(qJ (by omega) hrow hi hx2 hx3 hc8).2)))) ?_));exact tRs O results151 (.cons (zc (za O) (Cv.ov O)) (.cons (zc (za O) (w6 (aG (λn=>D.v (.int .i64 n)) (by first | exact(qJ (by omega) hrow hi hx2 hx3 hc8).1 | exact(qJ (by omega) hrow hi hx2 hx3 hc8).2)))) .nil)) O (mO 1 O) ⟨(.slice none 0 0),O,O⟩
   refine g' 5 O (tP O (zq (c:=((i+1:Nat):Int)) O O (zh (by omega) (by omega))) (g' 2 O ?_));exact tp1 (i+1) (sa O) w8 ⟨by show 1<=i+1;omega,hn.next hi hx2 hx3 hc8⟩ (by omega)
 refine g' 13 O (mW (mB (h':=.sl ov 2 50 ((rtL l).map RowD.d)) O (mD (aG (List.map RowD.d) (show (zr (zg 0) l)=rtL l by first | exact(oM (by omega) hrow hn (by omega)).1 | exact(oM (by omega) hrow hn (by omega)).2)))) ?_);exact tRs O results151 (.cons (za O) (.cons (zc (za O) (w6 (aG (λn=>D.v (.int .i64 n)) (by first | exact(oM (by omega) hrow hn (by omega)).1 | exact(oM (by omega) hrow hn (by omega)).2)))) .nil)) O (mO 1 O) ⟨ov,O,O⟩
end Lp
namespace Lp
open Go
structure PtD where
 t:Int
 v:Int
 deriving DecidableEq
def PtD.d (x:PtD):D:=.agg [.v (.int .i64 x.t),.v (.int .i64 x.v)]
structure SerD where
 ls:List Lbl
 ps:List PtD
 deriving DecidableEq
def SerD.d (x:SerD):D:=.agg [.sh 2 (x.ls.map Lbl.d),.sh 2 (x.ps.map PtD.d)]
def okPt (p:PtD):Bool:=decide (0<=p.t)&&(decide (p.t<=1000000000)&&zD p.v)
def zey (l:List PtD):Nat->Option PtD
 | 0=>none
 | k+1=>l[k]?
def ltT (p:Option PtD) (x:PtD):Bool:=match p with
 | none=>true
 | some q=>decide (q.t<x.t)
def ascP:Option PtD->List PtD->Bool
 | _,[]=>true
 | p,r::l=>okPt r&&(ltT p r&&ascP (some r) l)
def zdA (l:List PtD) (k:Nat):Bool:=ascP (zey l k) (l.drop k)
def zeo (l:List PtD):Bool:=decide (l.length<=25)&&zdA l 0
def lR {l:List PtD} {k:Nat} {x:PtD} (h:l[k]?=some x):zdA l k=(okPt x&&(ltT (zey l k) x&&zdA l (k+1))):=by
 unfold zdA;rw[zb9 h];show (okPt x&&(ltT (zey l k) x&&ascP (some x) (l.drop (k+1))))=_;rw[show zey l (k+1)=some x from h]
def aHx {l:List PtD} {k:Nat} (h:l.length<=k):zdA l k=true:=by
 unfold zdA;rw[jZ.2 h];rfl
def zdI {l:List PtD} {k:Nat} {y:PtD} (h:(0:Int)<((k:Nat):Int)) (hy:l[k-1]?=some y):zey l k=some y:=by
 cases k with
 | zero=>simp at h
 | succ k=>simpa [zey] using hy
def oK {l:List PtD} {k:Nat} (h:¬(0:Int)<((k:Nat):Int)):zey l k=none:=by
 have:k=0:=by omega
 subst this;rfl
section
variable {l:List PtD} {k:Nat} {x:PtD}
def aQ7 (h:(25:Int)<((l.length:Nat):Int)):false=zeo l:=by
 have:¬l.length<=25:=by omega
 simp[zeo,this]
def aRy (hk:zdA l 0=zdA l k) (hx:l.length<=k) (h:¬(25:Int)<((l.length:Nat):Int)):true=zeo l:=by
 have:l.length<=25:=by omega
 simp[zeo,hk,aHx hx,this]
def ze3 (p:Option PtD) (x:PtD):Bool:=!(okPt x&&ltT p x)
def aA0 (hk:zdA l 0=zdA l k) (hx:l[k]?=some x) (h:ze3 (zey l k) x=true):false=zeo l:=by
 have h:(okPt x&&ltT (zey l k) x)=false:=by
  unfold ze3 at h;cases hh:(okPt x&&ltT (zey l k) x) with
  | false=>rfl
  | true=>rw[hh] at h;cases h
 rw[zeo,hk,lR hx,<-Bool.and_assoc (okPt x),h];simp
def aH6 (hk:zdA l 0=zdA l k) (hx:l[k]?=some x) (h:ze3 (zey l k) x=false):zdA l 0=zdA l (k+1):=by
 have h:(okPt x&&ltT (zey l k) x)=true:=by
  unfold ze3 at h;cases hh:(okPt x&&ltT (zey l k) x) with
  | true=>rfl
  | false=>rw[hh] at h;cases h
 rw[hk,lR hx,<-Bool.and_assoc (okPt x),h,uV]
end
def ok1 {x:PtD} (h:x.t<0):okPt x=false:=by unfold okPt;simp;omega
def ok2 {x:PtD} (h:(1000000000:Int)<x.t):okPt x=false:=by unfold okPt;simp;omega
def ok3 {x:PtD} (h:zD x.v=false):okPt x=false:=by unfold okPt;simp[h]
def okt {x:PtD} (h1:¬x.t<0) (h2:¬(1000000000:Int)<x.t) (h3:zD x.v=true):okPt x=true:=by unfold okPt;simp[h3];omega
def bp1 {p:Option PtD} {x:PtD} (h:okPt x=false):ze3 p x=true:=by unfold ze3;simp[h]
def bp2 {p:Option PtD} {x y:PtD} (h:p=some y) (hy:x.t<=y.t):ze3 p x=true:=by subst h;unfold ze3 ltT;simp;exact .inr hy
def bg1 {p:Option PtD} {x:PtD} (h:okPt x=true) (hp:p=none):ze3 p x=false:=by subst hp;unfold ze3 ltT;simp[h]
def bg2 {p:Option PtD} {x y:PtD} (h:okPt x=true) (hp:p=some y) (hy:¬x.t<=y.t):ze3 p x=false:=by subst hp;unfold ze3 ltT;simp[h];omega
def inW (t w:Int) (p:PtD):Bool:=decide (t-w<p.t)&&decide (p.t<=t)
def wOf (l:List PtD) (t w:Int):List PtD:=if zeo l=true/\0<=t/\t<=1000000000/\0<=w/\w<=1000000000 then l.filter (inW t w) else []
def aW4 {l:List PtD} {t w:Int} {k:Nat} {x:PtD} (hx:l[k]?=some x) (h:t-w<x.t/\x.t<=t):(l.take (k+1)).filter (inW t w)=(l.take k).filter (inW t w)++[x]:=by
 rw[zS hx,List.filter_append];simp[inW,h.1,h.2]
def aOl {l:List PtD} {t w:Int} {k:Nat} {x:PtD} (hx:l[k]?=some x) (h:¬t-w<x.t\/¬x.t<=t):(l.take (k+1)).filter (inW t w)=(l.take k).filter (inW t w):=by
 rw[zS hx,List.filter_append];have:inW t w x=false:=by unfold inW;rcases h with h | h<;>simp[h]
 simp[this]
def aW3 {l:List PtD} {t w:Int} (h:(((zeo l=false\/t<0)\/(1000000000:Int)<t)\/w<0)\/(1000000000:Int)<w):[]=wOf l t w:=by
 unfold wOf;rw[aA];rintro ⟨a,b⟩;rcases h with (((h | h) | h) | h) | h
 · rw[h] at a;cases a
 all_goals omega
def aQx {l:List PtD} {t w:Int} (h:(((zeo l=true/\¬t<0)/\¬(1000000000:Int)<t)/\¬w<0)/\¬(1000000000:Int)<w):l.filter (inW t w)=wOf l t w:=by
 unfold wOf;rw[aB ⟨h.1.1.1.1,by omega,by omega,by omega,by omega⟩]
def aT9 (l:List PtD) (t w:Int):(wOf l t w).length<=l.length:=by
 unfold wOf;split
 · exact List.length_filter_le _ _
 exact cT _
def zdx (l:List PtD) (t w:Int):Int×Bool:=match (wOf l t w).getLast? with
 | some p=>(p.v,true)
 | none=>(0,false)
def iM {l:List PtD} {t w:Int} (h:(wOf l t w).length=0):(0:Int)=(zdx l t w).1/\false=(zdx l t w).2:=by
 unfold zdx;rw[List.length_eq_zero_iff.1 h];exact⟨rfl,rfl⟩
def gF {l:List PtD} {t w:Int} {x:PtD} (h:(wOf l t w)[(wOf l t w).length-1]?=some x):x.v=(zdx l t w).1/\true=(zdx l t w).2:=by
 unfold zdx;rw[List.getLast?_eq_getElem?,h];exact⟨rfl,rfl⟩
def zc7 (l:List Lbl):Bool:=zaG l&&decide (getL l metB≠ByteArray.empty)
def selR (S:List SerD) (t:Int):List RowD:=S.filterMap λs=>match zdx s.ps t 300 with
 | (v,true)=>some ⟨s.ls,v⟩
 | _=>none
def named (name:Ba) (S:List SerD):List SerD:=if name=ByteArray.empty then S else S.filter λs=>decide (getL s.ls metB=name)
end Lp
namespace Lp
open Go Go.RowKit Go.Proofs Tryz
def aN7:BdP prog #[⟨"Labels",40,0,false, "", "",0⟩,⟨"Points",68,1,false, "", "",24⟩] [(0,1),(1,1)]:=λ_=>by kernel_rfl
def aVa (x:Operand) (A:Option Addr) (n c:Nat) (w:World):(do eqGuard .eql 68 x (.const (.slice none 0 0)) (.slice A n c) (.slice none 0 0);binOp .eql 68 (.slice A n c) (.slice none 0 0):Sem Value).run prog w=.ok (.bool A.isNone) w:=by cases A<;>kernel_rfl
def aH2:FaP prog 70 0 0:=λ_ _ _=>by kernel_rfl
def xF:FaP prog 70 1 1:=λ_ _ _=>by kernel_rfl
def zcm:FaP prog 75 0 0:=λ_ _ _=>by kernel_rfl
def xN:FaP prog 75 1 1:=λ_ _ _=>by kernel_rfl
def zcP:IzP prog 70 cI 2 48:=zdf (by kernel_rfl)
def zfU:IzP prog 75 cF 2 16:=zdf (by kernel_rfl)
def zep:Tryz.prog.underlying 27=some (.slice 70):=by kernel_rfl
def zgn:Tryz.prog.underlying 68=some (.slice 75):=by kernel_rfl
def aLi (l:List PtD) :
 CD prog 195 [] [.sh 2 (l.map PtD.d)] (isR (dB (zeo l))):=by
 refine tZ func195 O O (λC=>?_);refine T.bd 0 O (λbd0=>?_);have nl0:=zy bd0;refine g' 9 O (tP O (zH (n:=l.length) O aX (by simp only[lm,lc,ln])) (g' 3 O ?_));refine tD O (λhc1=>?_) (λhc1=>?_)
 · refine g' 7 O ?_;exact tRs O results195 (.cons (zc (za O) (cB ((by exact aQ7 hc1)))) .nil) O HSub.none ⟨O,O⟩
 refine g' 6 O (tP O (zH (n:=l.length) O aX (by simp only[lm,lc,ln])) (g' 4 O (tl1 (λ(a_:Nat)=>[(0,.sh 2 (l.map PtD.d)),(8,.sh 2 (l.map PtD.d)),(9,dN l.length),(10,dN a_)]) (λa_=>[]) (λa_=>(zdA l 0=zdA l a_)) (λa_=>l.length-a_) 0 O (sa O) w8 O ?_)));rintro k hk;refine g' 6 O ?_;refine tD O (λhc2=>?_) (λhc2=>?_)
 · refine g' 7 O ?_;obtain ⟨x1,hx1⟩:=zi l k (by omega);refine tP O (zf (k:=k) O O aX eG (by first | rfl | omega) (zd hx1)) (g' 1 O ?_);refine tA O (λg3=>?_);refine gQ 5 [0] O O ?_;by_cases hg4:x1.t<(0:Int)
   · refine T.keep [0,3,4,8,9,10,11,12,13,14] O ?_;refine tDr 26 [(15,dP g3 0,none),(16,dI x1.t,none),(17,dB true,none),(18,dB true,none),(19,.v undef,none),(20,.v undef,none),(21,.v undef,none),(22,dB true,none),(23,dB true,none),(24,.v undef,none),(25,.v undef,none),(26,.v undef,none),(27,.v undef,none),(28,dB true,none),(29,dB true,none),(30,.v undef,none),(31,.v undef,none),(32,.v undef,none),(33,.v undef,none),(34,.v undef,none),(35,.v undef,none),(36,.v undef,none),(37,.v undef,none),(38,.v undef,none),(39,.v undef,none),(40,.v undef,none)] [.bx g3 75 (PtD.d x1)] (Hn:=[.bx g3 75 (PtD.d x1)]) mixed O O O O w8 O ⟨sa_p O O O (zk O zcm O),sa_p O O O (zl O (i:=0) O bU O),sa_p O O O (zau O O (aE hg4)),sa_p O O O (zb O),sa_s O O O O O O (by decide),sa_s O O O O O O (by decide),sa_s O O O O O O (by decide),sa_p O O O (zcJ O O),sa_p O O O (zb O),sa_s O O O O O O (by decide),sa_s O O O O O O (by decide),sa_s O O O O O O (by decide),sa_s O O O O O O (by decide),sa_p O O O (zcJ O O),sa_p O O O (zb O),sa_s O O O O O O (by decide),sa_s O O O O O O (by decide),sa_s O O O O O O (by decide),sa_s O O O O O O (by decide),sa_s O O O O O O (by decide),sa_s O O O O O O (by decide),sa_s O O O O O O (by decide),sa_s O O O O O O (by decide),sa_s O O O O O O (by decide),sa_s O O O O O O (by decide),sa_s O O O O O O (by decide),trivial⟩ ?_;refine tK O (g' 17 O ?_);exact tRs O results195 (.cons (zc (za O) (cB ((by exact aA0 hk hx1 (by first | exact bp1 (ok1 (by assumption)) | exact bp1 (ok2 (by assumption)) | exact bp1 (ok3 (by assumption)) | exact bp2 (zdI (by assumption) (by assumption)) (by assumption)))))) .nil) O HSub.none ⟨O,O⟩
   by_cases hg5:(1000000000:Int)<x1.t
   · refine T.keep [0,3,4,8,9,10,11,12,13,14] O ?_;refine tDr 26 [(15,dP g3 0,none),(16,dI x1.t,none),(17,dB false,none),(18,dB false,none),(19,dP g3 0,none),(20,dI x1.t,none),(21,dB true,none),(22,dB true,none),(23,dB true,none),(24,.v undef,none),(25,.v undef,none),(26,.v undef,none),(27,.v undef,none),(28,dB true,none),(29,dB true,none),(30,.v undef,none),(31,.v undef,none),(32,.v undef,none),(33,.v undef,none),(34,.v undef,none),(35,.v undef,none),(36,.v undef,none),(37,.v undef,none),(38,.v undef,none),(39,.v undef,none),(40,.v undef,none)] [.bx g3 75 (PtD.d x1)] (Hn:=[.bx g3 75 (PtD.d x1)]) mixed O O O O w8 O ⟨sa_p O O O (zk O zcm O),sa_p O O O (zl O (i:=0) O bU O),sa_p O O O (zau O O (aD hg4)),sa_p O O O (zb O),zn O O O O O O (zk O zcm O).qu,zn O O O O O O (zl O (i:=0) O bU O).qu,zn O O O O O O (zan O O (aE hg5)).qu,sa_p O O O (zaY O O),sa_p O O O (zb O),sa_s O O O O O O (by decide),sa_s O O O O O O (by decide),sa_s O O O O O O (by decide),sa_s O O O O O O (by decide),sa_p O O O (zcJ O O),sa_p O O O (zb O),sa_s O O O O O O (by decide),sa_s O O O O O O (by decide),sa_s O O O O O O (by decide),sa_s O O O O O O (by decide),sa_s O O O O O O (by decide),sa_s O O O O O O (by decide),sa_s O O O O O O (by decide),sa_s O O O O O O (by decide),sa_s O O O O O O (by decide),sa_s O O O O O O (by decide),sa_s O O O O O O (by decide),trivial⟩ ?_;refine tK O (g' 17 O ?_);exact tRs O results195 (.cons (zc (za O) (cB ((by exact aA0 hk hx1 (by first | exact bp1 (ok1 (by assumption)) | exact bp1 (ok2 (by assumption)) | exact bp1 (ok3 (by assumption)) | exact bp2 (zdI (by assumption) (by assumption)) (by assumption)))))) .nil) O HSub.none ⟨O,O⟩
   rcases jA (zD x1.v) with hg6 | hg6
   · by_cases hg7:(0:Int)<((k:Nat):Int)
     · refine T.keep [0,3,4,8,9,10,11,12,13,14] O ?_;obtain ⟨x2,hx2⟩:=zi l (k-1) (by omega);refine tDr 26 [(15,dP g3 0,none),(16,dI x1.t,none),(17,dB false,none),(18,dB false,none),(19,dP g3 0,none),(20,dI x1.t,none),(21,dB false,none),(22,dB false,none),(23,dB false,none),(24,dP g3 1,none),(25,dI x1.v,none),(26,dB true,none),(27,dB false,none),(28,dB false,none),(29,dB false,none),(30,dN k,none),(31,dB true,none),(32,dB true,none),(33,.sh 2 (l.map PtD.d),none),(34,dN k,none),(35,dN (k-1),none),(36,.el (PtD.d x2) 0,none),(37,.el (PtD.d x2) 0,none),(38,dI x2.t,none),(39,dP g3 0,none),(40,dI x1.t,none)] [.bx g3 75 (PtD.d x1)] (Hn:=[.bx g3 75 (PtD.d x1)]) mixed O O O O w8 O ⟨sa_p O O O (zk O zcm O),sa_p O O O (zl O (i:=0) O bU O),sa_p O O O (zau O O (aD hg4)),sa_p O O O (zb O),zn O O O O O O (zk O zcm O).qu,zn O O O O O O (zl O (i:=0) O bU O).qu,zn O O O O O O (zan O O (aD hg5)).qu,sa_p O O O (zaY O O),sa_p O O O (zb O),zn O O O O O O (zk O xN O).qu,zn O O O O O O (zl O (i:=0) O bU O).qu,zn O O O O O O ((zal O (gc .nil) Tryz.call22 (zch x1.v) zaf).cv (cB (hg6))),zn O O O O O O (zed (q:=true) O).qu,sa_p O O O (zaY O O),sa_p O O O (zb O),zn O O O O O O (zb O).qu,zn O O O O O O (zan O O (aE hg7)).qu,zn O O O O O O (zb O).qu,zn O O O O O O (zb O).qu,zn O O O O O O (zb O).qu,zn O O O O O O (zR (c:=((k-1:Nat):Int)) O O (zh (by omega) (by omega))).qu,zn O O O O O O (zf (k:=k-1) O O aX eG (by first | rfl | omega) (zd hx2)).qu,zn O O O O O O (zz O zcm O).qu,zn O O O O O O (zJ O bU O).qu,zn O O O O O O (zk O zcm O).qu,zn O O O O O O (zl O (i:=0) O bU O).qu,trivial⟩ ?_;refine tK O (g' 5 O ?_);refine tD O (λhc8=>?_) (λhc8=>?_)
       · refine g' 11 O ?_;exact tRs O results195 (.cons (zc (za O) (cB ((by exact aA0 hk hx1 (by first | exact bp1 (ok1 (by assumption)) | exact bp1 (ok2 (by assumption)) | exact bp1 (ok3 (by assumption)) | exact bp2 (zdI (by assumption) (by assumption)) (by assumption)))))) .nil) O HSub.none ⟨O,O⟩
       refine g' 4 O (tP O (zq (c:=((k+1:Nat):Int)) O O (zh (by omega) (by omega))) (g' 2 O ?_));exact tp1 (k+1) (sa O) HSub.none (aH6 hk hx1 (by first | exact bg1 (okt (by assumption) (by assumption) (by assumption)) (oK (by assumption)) | exact bg2 (okt (by assumption) (by assumption) (by assumption)) (zdI (by assumption) (by assumption)) (by assumption))) (by omega)
     refine T.keep [0,3,4,8,9,10,11,12,13,14] O ?_;refine tDr 26 [(15,dP g3 0,none),(16,dI x1.t,none),(17,dB false,none),(18,dB false,none),(19,dP g3 0,none),(20,dI x1.t,none),(21,dB false,none),(22,dB false,none),(23,dB false,none),(24,dP g3 1,none),(25,dI x1.v,none),(26,dB true,none),(27,dB false,none),(28,dB false,none),(29,dB false,none),(30,dN k,none),(31,dB false,none),(32,dB false,none),(33,.v undef,none),(34,.v undef,none),(35,.v undef,none),(36,.v undef,none),(37,.v undef,none),(38,.v undef,none),(39,.v undef,none),(40,.v undef,none)] [.bx g3 75 (PtD.d x1)] (Hn:=[.bx g3 75 (PtD.d x1)]) mixed O O O O w8 O ⟨sa_p O O O (zk O zcm O),sa_p O O O (zl O (i:=0) O bU O),sa_p O O O (zau O O (aD hg4)),sa_p O O O (zb O),zn O O O O O O (zk O zcm O).qu,zn O O O O O O (zl O (i:=0) O bU O).qu,zn O O O O O O (zan O O (aD hg5)).qu,sa_p O O O (zaY O O),sa_p O O O (zb O),zn O O O O O O (zk O xN O).qu,zn O O O O O O (zl O (i:=0) O bU O).qu,zn O O O O O O ((zal O (gc .nil) Tryz.call22 (zch x1.v) zaf).cv (cB (hg6))),zn O O O O O O (zed (q:=true) O).qu,sa_p O O O (zaY O O),sa_p O O O (zb O),zn O O O O O O (zb O).qu,zn O O O O O O (zan O O (aD hg7)).qu,zn O O O O O O (zb O).qu,sa_s O O O O O O (by decide),sa_s O O O O O O (by decide),sa_s O O O O O O (by decide),sa_s O O O O O O (by decide),sa_s O O O O O O (by decide),sa_s O O O O O O (by decide),sa_s O O O O O O (by decide),sa_s O O O O O O (by decide),trivial⟩ ?_;refine tK O (g' 10 O (tP O (zq (c:=((k+1:Nat):Int)) O O (zh (by omega) (by omega))) (g' 2 O ?_)));exact tp1 (k+1) (sa O) HSub.none (aH6 hk hx1 (by first | exact bg1 (okt (by assumption) (by assumption) (by assumption)) (oK (by assumption)) | exact bg2 (okt (by assumption) (by assumption) (by assumption)) (zdI (by assumption) (by assumption)) (by assumption))) (by omega)
   refine T.keep [0,3,4,8,9,10,11,12,13,14] O ?_;refine tDr 26 [(15,dP g3 0,none),(16,dI x1.t,none),(17,dB false,none),(18,dB false,none),(19,dP g3 0,none),(20,dI x1.t,none),(21,dB false,none),(22,dB false,none),(23,dB false,none),(24,dP g3 1,none),(25,dI x1.v,none),(26,dB false,none),(27,dB true,none),(28,dB true,none),(29,dB true,none),(30,.v undef,none),(31,.v undef,none),(32,.v undef,none),(33,.v undef,none),(34,.v undef,none),(35,.v undef,none),(36,.v undef,none),(37,.v undef,none),(38,.v undef,none),(39,.v undef,none),(40,.v undef,none)] [.bx g3 75 (PtD.d x1)] (Hn:=[.bx g3 75 (PtD.d x1)]) mixed O O O O w8 O ⟨sa_p O O O (zk O zcm O),sa_p O O O (zl O (i:=0) O bU O),sa_p O O O (zau O O (aD hg4)),sa_p O O O (zb O),zn O O O O O O (zk O zcm O).qu,zn O O O O O O (zl O (i:=0) O bU O).qu,zn O O O O O O (zan O O (aD hg5)).qu,sa_p O O O (zaY O O),sa_p O O O (zb O),zn O O O O O O (zk O xN O).qu,zn O O O O O O (zl O (i:=0) O bU O).qu,zn O O O O O O ((zal O (gc .nil) Tryz.call22 (zch x1.v) zaf).cv (cB (hg6))),zn O O O O O O (zed (q:=false) O).qu,sa_p O O O (zaY O O),sa_p O O O (zb O),sa_s O O O O O O (by decide),sa_s O O O O O O (by decide),sa_s O O O O O O (by decide),sa_s O O O O O O (by decide),sa_s O O O O O O (by decide),sa_s O O O O O O (by decide),sa_s O O O O O O (by decide),sa_s O O O O O O (by decide),sa_s O O O O O O (by decide),sa_s O O O O O O (by decide),sa_s O O O O O O (by decide),trivial⟩ ?_;refine tK O (g' 17 O ?_);exact tRs O results195 (.cons (zc (za O) (cB ((by exact aA0 hk hx1 (by first | exact bp1 (ok1 (by assumption)) | exact bp1 (ok2 (by assumption)) | exact bp1 (ok3 (by assumption)) | exact bp2 (zdI (by assumption) (by assumption)) (by assumption)))))) .nil) O HSub.none ⟨O,O⟩
 refine g' 11 O ?_;exact tRs O results195 (.cons (zc (za O) (cB ((by exact aRy hk (by omega) (by omega))))) .nil) O HSub.none ⟨O,O⟩
def aZn (l:List PtD) (t:Int) (w:Int) (hl:l.length<=1000000):
 CD prog 153 [] [.sh 2 (l.map PtD.d),dI t,dI w] (zcA 2 75 ((wOf l t w).map PtD.d)):=by
 refine tZ func153 O O (λC=>?_);refine T.bd 0 O (λbd0=>?_);have nl0:=zy bd0;refine g' 9 O (tW O acs (aLi l) (g' 2 O ?_));refine tOr 3 2 (c:=decide (t<(0:Int))) O O O O O O (λhb1 nx2=>?_) ?_
 · have hf3:=notF hb1;refine g' 2 O ?_;exact nx2 _ O O (kx 2 O O)
 refine g' 1 O ?_;refine tOr 7 2 (c:=decide ((1000000000:Int)<t)) O O O O O O (λhb4 nx5=>?_) ?_
 · obtain ⟨hf6,hf7⟩:=orF hb4;have hf8:=notF hf6;have hf9:=aC hf7;refine g' 2 O ?_;exact nx5 _ O O (kx 2 O O)
 refine g' 1 O ?_;refine tOr 11 2 (c:=decide (w<(0:Int))) O O O O O O (λhb10 nx11=>?_) ?_
 · obtain ⟨hf12,hf13⟩:=orF hb10;obtain ⟨hf14,hf15⟩:=orF hf12;have hf16:=notF hf14;have hf17:=aC hf15;have hf18:=aC hf13;refine g' 2 O ?_;exact nx11 _ O O (kx 2 O O)
 refine g' 1 O ?_;refine tOr 15 2 (c:=decide ((1000000000:Int)<w)) O O O O O O (λhb19 nx20=>?_) ?_
 · obtain ⟨hf21,hf22⟩:=orF hb19;obtain ⟨hf23,hf24⟩:=orF hf21;obtain ⟨hf25,hf26⟩:=orF hf23;have hf27:=notF hf25;have hf28:=aC hf26;have hf29:=aC hf24;have hf30:=aC hf22;refine g' 2 O ?_;exact nx20 _ O O (kx 2 O O)
 refine g' 2 O ?_;refine tC O (λhc31=>?_) (λhc31=>?_)
 · simp only[bX,bJ] at hc31;refine g' 7 O ?_;refine T.drop (mW (HSub.nil 2 75) ?_);refine mW (mB (h':=.sl (.slice none 0 0) 2 75 ((wOf l t w).map PtD.d)) O (mD (show List.map PtD.d []=List.map PtD.d (wOf l t w) from aG _ (by exact aW3 (by assumption))))) ?_;exact tRs O results153 (.cons (zc (za O) (Cv.ov O)) .nil) O w8 ⟨_,O,O⟩
 simp only[bX,bJ] at hc31;refine g' 11 O (tP O (zH (n:=l.length) O aX (by simp only[lm,lc,ln])) (g' 4 O (tl3 (λ(a_:Nat) (b_:Value) (c_:List PtD)=>[(1,dI t),(2,dI w),(6,dZ),(29,.sh 2 (l.map PtD.d)),(30,dN l.length),(31,dN a_),(7,.ov b_)]) (λa_ b_ c_=>[.sl b_ 2 75 (c_.map PtD.d)]) (λa_ b_ c_=>(a_<=l.length)/\(c_=(l.take a_).filter (inW t w))) (λa_ b_ c_=>l.length-a_) 0 (.slice none 0 0) [] O ⟨sk O,sk O,sk O,sk O,sk O,sk O,sc O (Cv.ov O),trivial⟩ (HSub.nil 2 75) ⟨cT _,O⟩ ?_)));rintro k ov o ⟨hk,ho⟩;have hol:o.length<=1000000:=by have h:=List.length_filter_le (inW t w) (l.take k);rw[<-ho,cY] at h;omega
 refine g' 6 O ?_;refine tD O (λhc32=>?_) (λhc32=>?_)
 · refine g' 6 O ?_;obtain ⟨x1,hx1⟩:=zi l k (by omega);refine tP O (zf (k:=k) O O aX eG (by first | rfl | omega) (zd hx1)) (g' 1 O ?_);refine tA O (λg33=>?_);refine gQ 9 [0,0] O O (tP O (zR (c:=(t-w)) O O (zh (by omega) (by omega))) (g' 2 O ?_));refine tAnd 6 4 (c:=decide (x1.t<=t)) O O O O O O (λhb34 nx35=>?_) ?_
   · have hf36:=aF hb34;refine gQ 4 [0] O O ?_;exact nx35 _ O O (kx 4 O O)
   refine g' 2 O ?_;refine tC O (λhc37=>?_) (λhc37=>?_)
   · simp only[bX,bJ] at hc37;refine gQ 3 [0] O O (tE O (zw [.tmp 48] O O (.cons CellD.agg .nil) O aX eG bZ O O O O) ?_);rintro _ _ ⟨g38,rfl,rfl⟩;refine tE O (zG (f:=PtD.d) (l:=o) (l':=[x1]) (i:=2) O O O (mF (j:=0) O O) zgn zfU O O (by unfold maxLen;(try simp only[la,lc,ln,lm,lt',ld,ls,lr]);omega) (by (try simp only[la,lc,ln,lm,lt',ld,ls,lr]);omega)) ?_;rintro _ _ ⟨v39,rfl,rfl⟩;refine g' 5 O (tP O (zq (c:=((k+1:Nat):Int)) O O (zh (by omega) (by omega))) (g' 2 O (mY 2 O (mW (mO 1 O) ?_))));exact tp3 (k+1) v39 (o++[x1]) (sa O) w8 ⟨by show k+1<=l.length;omega,by rw[ho];first | exact(aW4 hx1 (by assumption)).symm | exact(aOl hx1 (by assumption)).symm⟩ (by omega)
   simp only[bX,bJ] at hc37;refine g' 4 O (tP O (zq (c:=((k+1:Nat):Int)) O O (zh (by omega) (by omega))) (g' 2 O (mY 1 O (mW (mO 1 O) ?_))));exact tp3 (k+1) ov o (sa O) w8 ⟨by show k+1<=l.length;omega,by rw[ho];first | exact(aW4 hx1 (by assumption)).symm | exact(aOl hx1 (by assumption)).symm⟩ (by omega)
 refine g' 12 O (mW (w9 (zaJ (i:=0) O)) (mW (mB (h':=.sl ov 2 75 ((wOf l t w).map PtD.d)) O (mD (show List.map PtD.d o=List.map PtD.d (wOf l t w) from aG _ (by rw[ho,c6 (by omega)];exact aQx (by assumption))))) ?_));exact tR O w8 ⟨_,O,O⟩
def aQ0 (l:List PtD) (t:Int) (w:Int) (hl:l.length<=1000000):
 CD prog 150 [] [.sh 2 (l.map PtD.d),dI t,dI w] (isR (.tup [dI ((zdx l t w).1),dB ((zdx l t w).2)])):=by
 refine tZ func150 O O (λC=>?_);refine T.bd 0 O (λbd0=>?_);have nl0:=zy bd0;have hwl:=aT9 l t w;refine g' 11 O (tX [] O O acs (aZn l t w (by omega)) ?_);rintro _ _ ⟨v1,rfl,rfl⟩;refine g' 7 O (tP O (zK (n:=(wOf l t w).length) (j:=0) O O aX (cN _)) (g' 3 O ?_));refine tD O (λhc2=>?_) (λhc2=>?_)
 · refine g' 8 O ?_;exact tRs O results150 (.cons (zc (za O) (w6 (aG (λn=>D.v (.int .i64 n)) (by first | exact(iM (by omega)).1 | exact(iM (by omega)).2)))) (.cons (zc (za O) (cB ((by first | exact(iM (by omega)).1 | exact(iM (by omega)).2)))) .nil)) O HSub.none ⟨O,O⟩
 refine g' 6 O (tP O (zK (n:=(wOf l t w).length) (j:=0) O O aX (cN _)) (tP O (zR (c:=((((wOf l t w).length)-1:Nat):Int)) O O (zh (by omega) (by omega))) ?_));obtain ⟨x1,hx1⟩:=zi (wOf l t w) (((wOf l t w).length)-1) (by omega);refine tP O (ze (k:=((wOf l t w).length)-1) (j:=0) O O O aX eG (by first | rfl | omega) (zd hx1)) (g' 1 O (tP O (zaS O (i:=0) O (zd hx1) bU O) (g' 5 O ?_)));exact tRs O results150 (.cons (zc (za O) (w6 (aG (λn=>D.v (.int .i64 n)) (by first | exact(gF hx1).1 | exact(gF hx1).2)))) (.cons (zc (za O) (cB ((by first | exact(gF hx1).1 | exact(gF hx1).2)))) .nil)) O HSub.none ⟨O,O⟩
def aC1 (l:List Lbl) :
 CD prog 21 [] [.sh 2 (l.map Lbl.d)] (isR (dB (zc7 l))):=by
 refine tZ func21 O O (λC=>?_);refine T.bd 0 O (λbd0=>?_);have nl0:=zy bd0;refine g' 8 O (tW O acs (aHa l) (g' 1 O ?_));refine tAnd 2 3 (c:=decide ((getL l (⟨#[109,101,116,114,105,99]⟩:Ba))≠ByteArray.empty)) O O O O O O (λhb1 nx2=>?_) ?_
 · refine g' 1 O (tW O (ga (.cons (ArgC.cv cS) .nil)) (aOg l (⟨#[109,101,116,114,105,99]⟩:Ba)) (g' 1 O ?_));exact nx2 _ O O (kx 3 O O)
 refine g' 4 O ?_;exact tRs O results21 (.cons (zc (za O) (cB ((by unfold zc7;rw[sB]<;>rfl)))) .nil) O HSub.none ⟨O,O⟩
def aN5 (x:SerD) (l:List Lbl) :
 CD prog 24 [] [SerD.d x,.sh 2 (l.map Lbl.d)] (isR (dI (zt x.ls l))):=by
 refine tZ func24 O O (λC=>?_);refine T.bd 0 O (λbd0=>?_);refine T.bd 1 O (λbd1=>?_);have nl1:=zy bd1;refine g' 2 O ?_;refine tA O (λg1=>?_);refine gQ 8 [0] O O (tW O acs (zcu x.ls l) (g' 4 O ?_));exact tR O HSub.none ⟨O,O⟩
def aKj (l:List PtD) (hl:l.length<=1000000):
 CD prog 322 [] [.sh 2 (l.map PtD.d)] (zcA 2 75 (l.map PtD.d)):=by
 refine tZ func322 O O (λC=>?_);refine T.bd 0 O (λbd0=>?_);have nl0:=zy bd0;refine g' 9 O (tE O (iO O (aVa _)) ?_);rintro _ _ ⟨b1,rfl,rfl,hb1⟩;refine g' 2 O ?_;refine tC O (λhc2=>?_) (λhc2=>?_)
 · refine g' 7 O ?_;refine T.drop (mW (HSub.nil 2 75) ?_);refine mW (mB (h':=.sl (.slice none 0 0) 2 75 (l.map PtD.d)) O (mD (show List.map PtD.d []=List.map PtD.d l from aG _ (by exact(uW.1 (hb1 hc2)).symm)))) ?_;exact tRs O results322 (.cons (zc (za O) (Cv.ov O)) .nil) O w8 ⟨_,O,O⟩
 refine g' 4 O (tE O (eN aX eG) ?_);rintro _ _ ⟨g3,rfl,rfl⟩;refine g' 1 O (tE O (zG (f:=PtD.d) (l:=[]) (l':=l) (i:=0) O O O (SrcD.sh) zgn zfU O O (by unfold maxLen;(try simp only[la,lc,ln,lm,lt',ld,ls,lr]);omega) (by (try simp only[la,lc,ln,lm,lt',ld,ls,lr]);omega)) ?_);rintro _ _ ⟨v4,rfl,rfl⟩;refine g' 4 O (mW (w9 (zaJ (i:=0) O)) (mW (mB (h':=.sl v4 2 75 (l.map PtD.d)) O (mD (show List.map PtD.d ([]++l)=List.map PtD.d l from aG _ (by rfl)))) ?_));exact tR O w8 ⟨_,O,O⟩
def aK1 (l:List SerD) (hl:l.length<=1000000) (hs:∀ s∈l,s.ls.length<=1000000/\s.ps.length<=1000000):
 CD prog 290 [] [.sh 2 (l.map SerD.d)] (zcA 2 70 (l.map SerD.d)):=by
 refine tZ func290 O O (λC=>?_);refine T.bd 0 O (λbd0=>?_);have nl0:=zy bd0;refine g' 14 O (tP O (zH (n:=l.length) O aO (by simp only[lm,lc,ln])) (g' 4 O (tl3 (λ(a_:Nat) (b_:Value) (c_:List SerD)=>[(2,dZ),(6,.sh 2 (l.map SerD.d)),(7,dN l.length),(8,dN a_),(3,.ov b_)]) (λa_ b_ c_=>[.sl b_ 2 70 (c_.map SerD.d)]) (λa_ b_ c_=>(a_<=l.length)/\(c_=l.take a_)) (λa_ b_ c_=>l.length-a_) 0 (.slice none 0 0) [] O ⟨sk O,sk O,sk O,sk O,sc O (Cv.ov O),trivial⟩ (HSub.nil 2 70) ⟨cT _,O⟩ ?_)));rintro k ov o ⟨hk,ho⟩;have hol:o.length<=1000000:=by rw[ho,cY];omega
 refine g' 6 O ?_;refine tD O (λhc1=>?_) (λhc1=>?_)
 · refine g' 6 O ?_;obtain ⟨x1,hx1⟩:=zi l k (by omega);have hzx1:=hs x1 (za1 hx1);refine tP O (zf (k:=k) O O aO aV (by first | rfl | omega) (zd hx1)) (g' 1 O ?_);refine tA O (λg2=>?_);refine gQ 3 [0] O O (T.keep [2,3,5,6,7,8,9,10,11] O ?_);refine tDr 9 [(12,.ov ov,none),(13,dP g2 0,none),(14,.sh 2 (x1.ls.map Lbl.d),none),(15,.sh 2 (x1.ls.map Lbl.d),none),(16,dP g2 1,none),(17,.sh 2 (x1.ps.map PtD.d),none),(18,.sh 2 (x1.ps.map PtD.d),none),(19,.agg [.sh 2 (x1.ls.map Lbl.d),.sh 2 (x1.ps.map PtD.d)],none),(20,.sh 2 ([x1].map SerD.d),none)] [.bx g2 70 (SerD.d x1),.sl ov 2 70 (o.map SerD.d)] (Hn:=[.bx g2 70 (SerD.d x1),.sl ov 2 70 (o.map SerD.d)]) mixed O O O O w8 O ⟨sa_p O O O (zb O),sa_p O O O (zk O aH2 O),sa_p O O O (zl O (i:=0) O isAgg40 O),sa_q O O O (zal O (gc .nil) Tryz.call26 (zeS x1.ls (by omega)) zb3),sa_p O O O (zk O xF O),sa_p O O O (zl O (i:=0) O isAgg68 O),sa_q O O O (zal O (gc .nil) Tryz.call322 (aKj x1.ps (by omega)) zb3),sa_p O O O (zm [0,1] [.tmp 15,.tmp 18] (zv:=cI) O O (.cons CellD.sh (.cons CellD.sh .nil)) (eM) eF aN7 ⟨O,O,trivial⟩ O),sa_q O O O (zp [.tmp 19] O O (.cons CellD.agg .nil) O aO aV eF O O O O),trivial⟩ (tK O ?_);refine tE O (zG (f:=SerD.d) (l:=o) (l':=[x1]) (i:=1) O O O (SrcD.sh) zep zcP O O (by unfold maxLen;(try simp only[la,lc,ln,lm,lt',ld,ls,lr]);omega) (by (try simp only[la,lc,ln,lm,lt',ld,ls,lr]);omega)) ?_;rintro _ _ ⟨v3,rfl,rfl⟩;refine g' 5 O (tP O (zq (c:=((k+1:Nat):Int)) O O (zh (by omega) (by omega))) (g' 2 O (mY 1 O (mW (mO 1 O) ?_))));exact tp3 (k+1) v3 (o++[x1]) (sa O) w8 ⟨by show k+1<=l.length;omega,by rw[ho,zS hx1]⟩ (by omega)
 refine g' 12 O (mW (w9 (zaJ (i:=0) O)) (mW (mB (h':=.sl ov 2 70 (l.map SerD.d)) O (mD (show List.map SerD.d o=List.map SerD.d l from aG _ (by rw[ho,c6 (by omega)])))) ?_));exact tR O w8 ⟨_,O,O⟩
end Lp
