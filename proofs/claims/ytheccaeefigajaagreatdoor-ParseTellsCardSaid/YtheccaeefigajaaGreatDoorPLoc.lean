import Derived.Test.YtheccaeefigajaaGreatDoorV118
set_option linter.unusedSimpArgs false
set_option linter.unusedVariables false
set_option maxHeartbeats 4000000
set_option maxRecDepth 100000
namespace Lp
open Go Go.RowKit Go.Proofs
theorem zdt:FaP Tryz.prog 277 4 4:=λ_ _ _=>by kernel_rfl
abbrev P7 (g:Nat) (p:List Int) (rt:Int) (l:List Unit) (a k:Nat) (x:Nat×Bool):D->List Hp->Prop:=λr H'=>∃ (i:Int) (pv':Value) (a':Nat) (b':Bool) (l':List Unit),(a',b')=x/\l'.length+3*a+k<=l.length+3*a'+1/\r=dI i/\H'=[nB g pv' rt p a' b',.sl pv' 9 288 (l'.map paD)]
def zfg (p:List Int) (f:Nat):Prop:=∀ (g:Nat) (pv:Value) (rt:Int) (a:Nat) (b:Bool) (l:List Unit),a<=p.length->p.length<f+a->l.length<=3*a->CD Tryz.prog 246 [nB g pv rt p a b,.sl pv 9 288 (l.map paD)] [dP g 0] (P7 g p rt l a 0 (alt7 p f a b))
section
variable {p:List Int} {a a1 a2 f n:Nat} {b b1 b2:Bool} {alt:Nat->Bool->Nat×Bool}
theorem aUn (h:nx p a=40) (e:(a1,b1)=alt (a+1) b):(a1+1,b1||decide (nx p a1≠41))=zbX p alt a b:=by unfold zbX;rw[aB h,<-e]
theorem aVw (h:nx p a=91) (e:(a1,b1)=zd0 p (a+1) b):(a1,b1)=zbX p alt a b:=by unfold zbX;rw[aA (by omega),aB h,<-e]
theorem aWs (h:nx p a=46):(a+1,b)=zbX p alt a b:=by unfold zbX;rw[aA (by omega),aA (by omega),aB h]
theorem aUy (h:nx p a=92):(a+1+1,b||decide (((p.length:Nat):Int)<=((a+1:Nat):Int)))=zbX p alt a b:=by unfold zbX;rw[aA (by omega),aA (by omega),aA (by omega),aB h,show decide (((p.length:Nat):Int)<=((a+1:Nat):Int))=decide (p.length<=a+1) from decide_eq_decide.2 (by omega)]
theorem oQ (h:nx p a=42\/nx p a=43\/nx p a=63\/nx p a=93):(a+1,true)=zbX p alt a b:=by unfold zbX;rw[aA (by omega),aA (by omega),aA (by omega),aA (by omega),aE h,jY]
theorem qH (h:¬(nx p a=42\/nx p a=43\/nx p a=63\/nx p a=93)) (k:¬(nx p a=40\/nx p a=91\/nx p a=46\/nx p a=92)):(a+1,b)=zbX p alt a b:=by unfold zbX;rw[aA (by omega),aA (by omega),aA (by omega),aA (by omega),aD h,dQ]
theorem nW (e:(a1,b1)=zbX p alt a b) (h:nx p a1=42\/nx p a1=43\/nx p a1=63):(a1+1,b1)=zcf p alt a b:=by unfold zcf;simp only;rw[<-e,aB h]
theorem aNc (e:(a1,b1)=zbX p alt a b) (h:¬(nx p a1=42\/nx p a1=43\/nx p a1=63)):(a1,b1)=zcf p alt a b:=by unfold zcf;simp only;rw[<-e,aA h]
theorem sN (h:b1=true\/p.length<=a1\/nx p a1=124\/nx p a1=41):za0 p alt n a1 b1=(a1,b1):=by cases n<;>unfold za0;rfl;rw[aB h]
theorem aEw (h:¬(b1=true\/p.length<=a1\/nx p a1=124\/nx p a1=41)) (e:(a2,b2)=zcf p alt a1 b1):za0 p alt (n+1) a1 b1=za0 p alt n a2 b2:=by
 conv=>lhs;unfold za0
 rw[aA h,<-e]
theorem aFn (hf:za0 p alt (p.length+1-a) a b=(a1,b1)):(a1,b1)=zbl p alt a b:=hf.symm
theorem sB (h:¬(nx p a1=124/\b1=false)):za6 p alt n a1 b1=(a1,b1):=by cases n<;>unfold za6;rfl;rw[aA h]
theorem aEs (h:nx p a1=124/\b1=false) (e:(a2,b2)=zbl p alt (a1+1) b1):za6 p alt (n+1) a1 b1=za6 p alt n a2 b2:=by
 conv=>lhs;unfold za6
 rw[aB h,<-e]
theorem aU7 (e:(a1,b1)=zbl p (alt7 p f) a b) (hf:za6 p (alt7 p f) (p.length+1-a1) a1 b1=(a2,b2)):(a2,b2)=alt7 p (f+1) a b:=by unfold alt7;rw[<-e];exact hf.symm
theorem aZ4 (e:(a1,b1)=alt7 p f a b):a<=a1/\a1<=max a (p.length+7*f):=by have:=zgd p f a b;rw[<-e] at this;exact this
theorem aP0 (e:(a1,b1)=zd0 p a b):a<a1/\a1<=max (a+1) (p.length+5)+1:=by have:=aBq (p:=p) a b;rw[<-e] at this;exact this
theorem aOb (e:(a1,b1)=zcf p (alt7 p f) a b) (ha:a<p.length):a<a1/\a1<=p.length+7*f+7:=by have:=aCq (zgd p f) ha (b:=b);rw[<-e] at this;exact this
theorem aUv (e:(a1,b1)=zbX p (alt7 p f) a b) (ha:a<p.length):a<a1/\a1<=p.length+7*f+6:=by have:=aLz (zgd p f) ha (b:=b);rw[<-e] at this;exact this
theorem rG (e:(a1,b1)=zbl p (alt7 p f) a b):a<=a1/\a1<=max a (p.length+7*f+7):=by have:=lB (zgd p f) a b;rw[<-e] at this;exact this
end
theorem aVb (g:Nat) (pv:Value) (rt:Int) (p:List Int) (a:Nat) (b:Bool) (l:List Unit) (f:Nat) (ih:zfg p f) (hpl:p.length<=1000) (hfl:f<=1001) (hl:l.length<=3*a+1) (ha:a<p.length) (hlf:p.length<f+1+a):
 CD Tryz.prog 260 [nB g pv rt p a b,.sl pv 9 288 (l.map paD)] [dP g 0] (P7 g p rt l a 3 (zbX p (alt7 p f) a b)):=by
 refine tZ Tryz.func260 O O (λC=>?_);refine g' 8 O (tV [0] O O (.cons (mR (j:=0) O (ArgC.agg (.cons (ArgC.cv kI) (ga (ga (ga (ga .nil))))))) .nil) (zbj (PatD.mk () rt p a b) (by simp only;omega) (by simp only;omega)) O (gQ 9 [0] O O (tP O (zE (c:=((a+1:Nat):Int)) O O (zp (by omega) (by omega))) (gQ 18 [0] O O ?_))));refine tD O (λhc1=>?_) (λhc1=>?_)
 · refine g' 3 O (tX [0,0] O O acs (ih g pv rt (a+1) b l (ze5 (x:=40) (by decide) (by assumption)) (by omega) (by omega)) ?_);rintro _ _ ⟨i2,pv2,a2,b2,l2,e2,hl2,rfl,rfl⟩;have hb2:=aZ4 e2;refine gQ 11 [0] O O ?_;refine tOr 5 3 (c:=decide (nx p a2≠(41:Int))) O O O O O O (λhb3 nx4=>?_) ?_
   · refine g' 1 O (tV [0] O O (.cons (mR (j:=0) O (ArgC.agg (.cons (ArgC.cv kI) (ga (ga (ga (ga .nil))))))) .nil) (zbj (PatD.mk () rt p a2 b2) (by simp only;omega) (by simp only;omega)) O (g' 1 O ?_));exact nx4 _ O O (kx 3 O O)
   refine gQ 11 [0,0] O O (tP O (zE (c:=((a2+1:Nat):Int)) O O (zp (by omega) (by omega))) (gQ 14 [0] O O ?_));exact tR O (mP 2 O) ⟨_,_,_,_,_,aUn (by assumption) e2,(by omega),O,O⟩
 refine g' 6 O ?_;refine tD O (λhc5=>?_) (λhc5=>?_)
 · refine g' 3 O (tX [0,0] O O acs (aMh g pv rt p (a+1) b l (by omega) (by omega) (by omega)) ?_);rintro _ _ ⟨i6,pv6,a6,b6,l6,e6,hl6,rfl,rfl⟩;have hb6:=aP0 e6;refine g' 6 O ?_;exact tR O (mP 2 O) ⟨_,_,_,_,_,aVw (by assumption) e6,(by omega),O,O⟩
 refine g' 6 O ?_;refine tD O (λhc7=>?_) (λhc7=>?_)
 · refine g' 3 O (tP O (zj [0] [.const (.int .i64 2)] (zv:=(.agg #[(.int .i64 0),(.int .i32 0),(.slice none 0 0),(.slice none 0 0),(.bool false),(.int .i64 0),(.int .i64 0),(.int .i64 0),(.bool false)])) O O (.cons (CellD.v O) .nil) (Tryz.runUnderlying288) Tryz.zeroValue288 zeg ⟨O,O,O,O,O,O,O,O,O,trivial⟩ O) (tX [0,0] O O (ga (.cons (ArgC.agg (.cons (ArgC.cv (Cv.any O)) (.cons (ArgC.cv (Cv.any O)) (.cons (ArgC.cv (Cv.any O)) (.cons (ArgC.cv (Cv.any O)) (.cons (ArgC.cv (Cv.any O)) (.cons (ArgC.cv (Cv.any O)) (.cons (ArgC.cv (Cv.any O)) (.cons (ArgC.cv (Cv.any O)) (.cons (ArgC.cv (Cv.any O)) .nil)))))))))) .nil)) (zd2 g pv rt p (a+1) b l (by omega)) ?_));rintro _ _ ⟨i8,pv8,l8,hl8,rfl,rfl⟩;refine g' 6 O ?_;exact tR O (mP 2 O) ⟨_,_,_,_,_,aWs (by assumption),(by omega),O,O⟩
 refine g' 6 O ?_;refine tD O (λhc9=>?_) (λhc9=>?_)
 · refine g' 3 O (tV [0] O O (.cons (mR (j:=0) O (ArgC.agg (.cons (ArgC.cv kI) (ga (ga (ga (ga .nil))))))) .nil) (zbj (PatD.mk () rt p (a+1) b) (by simp only;omega) (by simp only;omega)) O (g' 4 O ?_));refine tM [(0,dP g 0),(2,dI 0),(3,.v (.int .i32 (nx p (a+1))))] [.bx g 277 (.agg [.ov pv,dI rt,.sh 1 (p.map dR),dN (a+1),dB (b||decide (((p.length:Nat):Int)<=((a+1:Nat):Int)))]),.sl pv 9 288 (l.map paD)] (λ_ hQ10=>?_) ?_
   · rcases jU (b) with hg11 | hg11
     · refine T.keep [0,2,3] O ?_;refine tDr 17 [(52,dP g 0,none),(53,dP g 0,none),(54,dP g 0,none),(55,dP g 4,none),(56,dB true,none),(57,dB true,none),(58,.v undef,none),(59,.v undef,none),(60,.v undef,none),(61,.v undef,none),(62,.v undef,none),(63,.v undef,none),(64,.v undef,none),(65,.v undef,none),(66,.v undef,none),(67,.v undef,none),(68,dB true,none)] [nB g pv rt p (a+1) b,.sl pv 9 288 (l.map paD)] (Hn:=[nB g pv rt p (a+1) b,.sl pv 9 288 (l.map paD)]) mixed O O O O w9 O ⟨sa_p O O O (zk O),sa_p O O O (zk O),sa_p O O O (zN O),sa_p O O O (ze O zdt O),sa_p O O O ((zf O (i:=0) O Tryz.isAgg4 O).cv (cB ((hg11)))),sa_p O O O (zk O),sa_s O O O O O O (by decide),sa_s O O O O O O (by decide),sa_s O O O O O O (by decide),sa_s O O O O O O (by decide),sa_s O O O O O O (by decide),sa_s O O O O O O (by decide),sa_s O O O O O O (by decide),sa_s O O O O O O (by decide),sa_s O O O O O O (by decide),sa_s O O O O O O (by decide),sa_p O O O (zeo O O),trivial⟩ ?_;refine tK O (gQ 4 [0] O O (m9 [.bx g 277 (.agg [.ov pv,dI rt,.sh 1 (p.map dR),dN (a+1),dB (b||decide (((p.length:Nat):Int)<=((a+1:Nat):Int)))]),.sl pv 9 288 (l.map paD)] (by simp only[aD hc1,aD hc5,aD hc7,aE hc9,hg11,jY,u9,dQ,uQ,wI,Bool.not_false]<;>rfl) ?_));exact tqe hQ10 O
     refine T.keep [0,2,3] O ?_;refine tDr 17 [(52,dP g 0,none),(53,dP g 0,none),(54,dP g 0,none),(55,dP g 4,none),(56,dB false,none),(57,dB false,none),(58,dP g 0,none),(59,dP g 0,none),(60,dP g 3,none),(61,dN (a+1),none),(62,dP g 0,none),(63,dP g 0,none),(64,dP g 2,none),(65,.sh 1 (p.map dR),none),(66,dN p.length,none),(67,dB (decide (((p.length:Nat):Int)<=((a+1:Nat):Int))),none),(68,dB (decide (((p.length:Nat):Int)<=((a+1:Nat):Int))),none)] [nB g pv rt p (a+1) b,.sl pv 9 288 (l.map paD)] (Hn:=[nB g pv rt p (a+1) b,.sl pv 9 288 (l.map paD)]) mixed O O O O w9 O ⟨sa_p O O O (zk O),sa_p O O O (zk O),sa_p O O O (zN O),sa_p O O O (ze O zdt O),sa_p O O O ((zf O (i:=0) O Tryz.isAgg4 O).cv (cB ((hg11)))),sa_p O O O (zk O),zJ O O O O O O (zk O).qu,zJ O O O O O O (zN O).qu,zJ O O O O O O (ze O zcs O).qu,zJ O O O O O O (zf O (i:=0) O Tryz.isAgg3 O).qu,zJ O O O O O O (zk O).qu,zJ O O O O O O (zN O).qu,zJ O O O O O O (ze O zct O).qu,zJ O O O O O O (zf O (i:=0) O Tryz.isAgg130 O).qu,zJ O O O O O O (zaa (n:=p.length) O Tryz.runUnderlying130 (by simp only[lm,lc,ln])).qu,zJ O O O O O O (zaE O O O).qu,sa_p O O O (zdp O O),trivial⟩ ?_;refine tK O (gQ 4 [0] O O (m9 [.bx g 277 (.agg [.ov pv,dI rt,.sh 1 (p.map dR),dN (a+1),dB (b||decide (((p.length:Nat):Int)<=((a+1:Nat):Int)))]),.sl pv 9 288 (l.map paD)] (by simp only[aD hc1,aD hc5,aD hc7,aE hc9,hg11,jY,u9,dQ,uQ,wI,Bool.not_false]<;>rfl) ?_));exact tqe hQ10 O
   refine gQ 7 [0] O O (tP O (zE (c:=(((a+1)+1:Nat):Int)) O O (zp (by omega) (by omega))) (gQ 9 [0] O O (tP O (zj [0,1] [.const (.int .i64 1),.tmp 79] (zv:=(.agg #[(.int .i64 0),(.int .i32 0),(.slice none 0 0),(.slice none 0 0),(.bool false),(.int .i64 0),(.int .i64 0),(.int .i64 0),(.bool false)])) O O (.cons (CellD.v O) (.cons (CellD.v O) .nil)) (Tryz.runUnderlying288) Tryz.zeroValue288 zeg ⟨O,O,O,O,O,O,O,O,O,trivial⟩ O) (tX [0,0] O O (ga (.cons (ArgC.agg (.cons (ArgC.cv (Cv.any O)) (.cons (ArgC.cv (Cv.any O)) (.cons (ArgC.cv (Cv.any O)) (.cons (ArgC.cv (Cv.any O)) (.cons (ArgC.cv (Cv.any O)) (.cons (ArgC.cv (Cv.any O)) (.cons (ArgC.cv (Cv.any O)) (.cons (ArgC.cv (Cv.any O)) (.cons (ArgC.cv (Cv.any O)) .nil)))))))))) .nil)) (zd2 g pv rt p ((a+1)+1) (b||decide (((p.length:Nat):Int)<=((a+1:Nat):Int))) l (by omega)) ?_))));rintro _ _ ⟨i12,pv12,l12,hl12,rfl,rfl⟩;refine g' 6 O ?_;exact tR O (mP 2 O) ⟨_,_,_,_,_,aUy (by assumption),(by omega),O,O⟩
 refine tJ (λ(jg:Bool)=>[(0,dP g 0),(2,dI 0),(3,.v (.int .i32 (nx p a)))]) (λ(jg:Bool)=>[nB g pv rt p (a+1) jg,.sl pv 9 288 (l.map paD)]) (λ(jg:Bool)=>((a+1,jg)=zbX p (alt7 p f) a b)) (λ_ hQ13=>?_) ?_
 · refine g' 7 O ?_;refine tD O (λhc14=>?_) (λhc14=>?_)
   · refine g' 2 O ?_;refine tD O (λhc15=>?_) (λhc15=>?_)
     · refine gQ 6 [0] O O ?_;exact tqe (hQ13 true (oQ (by simp only at*;omega))) O
     refine g' 1 O ?_;exact tqe (hQ13 b (qH (by simp only at*;omega) (by simp only at*;omega))) O
   refine g' 6 O ?_;refine tD O (λhc16=>?_) (λhc16=>?_)
   · refine g' 2 O ?_;refine tD O (λhc17=>?_) (λhc17=>?_)
     · refine gQ 6 [0] O O ?_;exact tqe (hQ13 true (oQ (by simp only at*;omega))) O
     refine g' 1 O ?_;exact tqe (hQ13 b (qH (by simp only at*;omega) (by simp only at*;omega))) O
   refine g' 6 O ?_;refine tD O (λhc18=>?_) (λhc18=>?_)
   · refine g' 2 O ?_;refine tD O (λhc19=>?_) (λhc19=>?_)
     · refine gQ 6 [0] O O ?_;exact tqe (hQ13 true (oQ (by simp only at*;omega))) O
     refine g' 1 O ?_;exact tqe (hQ13 b (qH (by simp only at*;omega) (by simp only at*;omega))) O
   refine g' 5 O ?_;refine tD O (λhc20=>?_) (λhc20=>?_)
   · refine gQ 6 [0] O O ?_;exact tqe (hQ13 true (oQ (by simp only at*;omega))) O
   refine g' 1 O ?_;exact tqe (hQ13 b (qH (by simp only at*;omega) (by simp only at*;omega))) O
 rintro nb hnb;refine g' 6 O (tP O (zj [0,1] [.const (.int .i64 1),.tmp 91] (zv:=(.agg #[(.int .i64 0),(.int .i32 0),(.slice none 0 0),(.slice none 0 0),(.bool false),(.int .i64 0),(.int .i64 0),(.int .i64 0),(.bool false)])) O O (.cons (CellD.v O) (.cons (CellD.v O) .nil)) (Tryz.runUnderlying288) Tryz.zeroValue288 zeg ⟨O,O,O,O,O,O,O,O,O,trivial⟩ O) (tX [0,0] O O (ga (.cons (ArgC.agg (.cons (ArgC.cv (Cv.any O)) (.cons (ArgC.cv (Cv.any O)) (.cons (ArgC.cv (Cv.any O)) (.cons (ArgC.cv (Cv.any O)) (.cons (ArgC.cv (Cv.any O)) (.cons (ArgC.cv (Cv.any O)) (.cons (ArgC.cv (Cv.any O)) (.cons (ArgC.cv (Cv.any O)) (.cons (ArgC.cv (Cv.any O)) .nil)))))))))) .nil)) (zd2 g pv rt p (a+1) nb l (by omega)) ?_));rintro _ _ ⟨i21,pv21,l21,hl21,rfl,rfl⟩;refine g' 4 O ?_;exact tR O (mP 2 O) ⟨_,_,_,_,_,hnb,(by omega),O,O⟩
theorem aQk (g:Nat) (pv:Value) (rt:Int) (p:List Int) (a:Nat) (b:Bool) (l:List Unit) (f:Nat) (ih:zfg p f) (hpl:p.length<=1000) (hfl:f<=1001) (hl:l.length<=3*a+1) (ha:a<p.length) (hlf:p.length<f+1+a):
 CD Tryz.prog 258 [nB g pv rt p a b,.sl pv 9 288 (l.map paD)] [dP g 0] (P7 g p rt l a 3 (zcf p (alt7 p f) a b)):=by
 refine tZ Tryz.func258 O O (λC=>?_);refine g' 8 O (tX [0,0] O O acs (aVb g pv rt p a b l f ih (by omega) (by omega) (by omega) (by omega) (by omega)) ?_);rintro _ _ ⟨i1,pv1,a1,b1,l1,e1,hl1,rfl,rfl⟩;have hb1:=aUv e1 (by omega);refine g' 7 O (tV [0] O O (.cons (mR (j:=0) O (ArgC.agg (.cons (ArgC.cv kI) (ga (ga (ga (ga .nil))))))) .nil) (zbj (PatD.mk () rt p a1 b1) (by simp only;omega) (by simp only;omega)) O (g' 9 O ?_));refine tD O (λhc2=>?_) (λhc2=>?_)
 · refine g' 3 O (tP O (zj [0,5] [.const (.int .i64 6),.tmp 12] (zv:=(.agg #[(.int .i64 0),(.int .i32 0),(.slice none 0 0),(.slice none 0 0),(.bool false),(.int .i64 0),(.int .i64 0),(.int .i64 0),(.bool false)])) O O (.cons (CellD.v O) (.cons (CellD.v O) .nil)) (Tryz.runUnderlying288) Tryz.zeroValue288 zeg ⟨O,O,O,O,O,O,O,O,O,trivial⟩ O) (tX [0,0] O O (ga (.cons (ArgC.agg (.cons (ArgC.cv (Cv.any O)) (.cons (ArgC.cv (Cv.any O)) (.cons (ArgC.cv (Cv.any O)) (.cons (ArgC.cv (Cv.any O)) (.cons (ArgC.cv (Cv.any O)) (.cons (ArgC.cv (Cv.any O)) (.cons (ArgC.cv (Cv.any O)) (.cons (ArgC.cv (Cv.any O)) (.cons (ArgC.cv (Cv.any O)) .nil)))))))))) .nil)) (zd2 g pv1 rt p a1 b1 l1 (by omega)) ?_));rintro _ _ ⟨i3,pv3,l3,hl3,rfl,rfl⟩;refine gQ 10 [0] O O (tP O (zE (c:=((a1+1:Nat):Int)) O O (zp (by omega) (by omega))) (gQ 12 [0] O O ?_));exact tR O (mP 2 O) ⟨_,_,_,_,_,nW e1 (by simp only at*;omega),(by omega),O,O⟩
 refine g' 6 O ?_;refine tD O (λhc4=>?_) (λhc4=>?_)
 · refine g' 3 O (tP O (zj [0,5,7] [.const (.int .i64 6),.tmp 18,.const (.int .i64 1)] (zv:=(.agg #[(.int .i64 0),(.int .i32 0),(.slice none 0 0),(.slice none 0 0),(.bool false),(.int .i64 0),(.int .i64 0),(.int .i64 0),(.bool false)])) O O (.cons (CellD.v O) (.cons (CellD.v O) (.cons (CellD.v O) .nil))) (Tryz.runUnderlying288) Tryz.zeroValue288 zeg ⟨O,O,O,O,O,O,O,O,O,trivial⟩ O) (tX [0,0] O O (ga (.cons (ArgC.agg (.cons (ArgC.cv (Cv.any O)) (.cons (ArgC.cv (Cv.any O)) (.cons (ArgC.cv (Cv.any O)) (.cons (ArgC.cv (Cv.any O)) (.cons (ArgC.cv (Cv.any O)) (.cons (ArgC.cv (Cv.any O)) (.cons (ArgC.cv (Cv.any O)) (.cons (ArgC.cv (Cv.any O)) (.cons (ArgC.cv (Cv.any O)) .nil)))))))))) .nil)) (zd2 g pv1 rt p a1 b1 l1 (by omega)) ?_));rintro _ _ ⟨i5,pv5,l5,hl5,rfl,rfl⟩;refine gQ 10 [0] O O (tP O (zE (c:=((a1+1:Nat):Int)) O O (zp (by omega) (by omega))) (gQ 12 [0] O O ?_));exact tR O (mP 2 O) ⟨_,_,_,_,_,nW e1 (by simp only at*;omega),(by omega),O,O⟩
 refine g' 6 O ?_;refine tD O (λhc6=>?_) (λhc6=>?_)
 · refine g' 3 O (tP O (zj [0,5,8] [.const (.int .i64 6),.tmp 24,.const (.bool true)] (zv:=(.agg #[(.int .i64 0),(.int .i32 0),(.slice none 0 0),(.slice none 0 0),(.bool false),(.int .i64 0),(.int .i64 0),(.int .i64 0),(.bool false)])) O O (.cons (CellD.v O) (.cons (CellD.v O) (.cons (CellD.v O) .nil))) (Tryz.runUnderlying288) Tryz.zeroValue288 zeg ⟨O,O,O,O,O,O,O,O,O,trivial⟩ O) (tX [0,0] O O (ga (.cons (ArgC.agg (.cons (ArgC.cv (Cv.any O)) (.cons (ArgC.cv (Cv.any O)) (.cons (ArgC.cv (Cv.any O)) (.cons (ArgC.cv (Cv.any O)) (.cons (ArgC.cv (Cv.any O)) (.cons (ArgC.cv (Cv.any O)) (.cons (ArgC.cv (Cv.any O)) (.cons (ArgC.cv (Cv.any O)) (.cons (ArgC.cv (Cv.any O)) .nil)))))))))) .nil)) (zd2 g pv1 rt p a1 b1 l1 (by omega)) ?_));rintro _ _ ⟨i7,pv7,l7,hl7,rfl,rfl⟩;refine gQ 10 [0] O O (tP O (zE (c:=((a1+1:Nat):Int)) O O (zp (by omega) (by omega))) (gQ 12 [0] O O ?_));exact tR O (mP 2 O) ⟨_,_,_,_,_,nW e1 (by simp only at*;omega),(by omega),O,O⟩
 refine g' 9 O ?_;exact tR O (mP 2 O) ⟨_,_,_,_,_,aNc e1 (by simp only at*;omega),(by omega),O,O⟩
theorem xD (g:Nat) (pv:Value) (rt:Int) (p:List Int) (a:Nat) (b:Bool) (l:List Unit) (f:Nat) (ih:zfg p f) (hpl:p.length<=1000) (hfl:f<=1001) (hl:l.length<=3*a) (ha:a<=p.length) (hlf:p.length<f+1+a):
 CD Tryz.prog 253 [nB g pv rt p a b,.sl pv 9 288 (l.map paD)] [dP g 0] (P7 g p rt l a 0 (zbl p (alt7 p f) a b)):=by
 refine tZ Tryz.func253 O O (λC=>?_);refine g' 8 O (tP O (zj [] [] (zv:=(.agg #[(.int .i64 0),(.int .i32 0),(.slice none 0 0),(.slice none 0 0),(.bool false),(.int .i64 0),(.int .i64 0),(.int .i64 0),(.bool false)])) O O (.nil) (Tryz.runUnderlying288) Tryz.zeroValue288 zeg ⟨O,O,O,O,O,O,O,O,O,trivial⟩ O) (tX [0,0] O O (ga (.cons (ArgC.agg (.cons (ArgC.cv (Cv.any O)) (.cons (ArgC.cv (Cv.any O)) (.cons (ArgC.cv (Cv.any O)) (.cons (ArgC.cv (Cv.any O)) (.cons (ArgC.cv (Cv.any O)) (.cons (ArgC.cv (Cv.any O)) (.cons (ArgC.cv (Cv.any O)) (.cons (ArgC.cv (Cv.any O)) (.cons (ArgC.cv (Cv.any O)) .nil)))))))))) .nil)) (zd2 g pv rt p a b l (by omega)) ?_));rintro _ _ ⟨i1,pv1,l1,hl1,rfl,rfl⟩;refine g' 5 O (tl6 (λ(a_:Nat) (b_:Nat) (c_:Bool) (d_:Value) (e_:List Unit) (f_:Int)=>[(0,dP g 0),(2,dI 0),(3,dI f_)]) (λa_ b_ c_ d_ e_ f_=>[nB g d_ rt p b_ c_,.sl d_ 9 288 (e_.map paD)]) (λa_ b_ c_ d_ e_ f_=>(za0 p (alt7 p f) a_ b_ c_=za0 p (alt7 p f) (p.length+1-a) a b)/\(p.length+1<=a_+b_)/\(e_.length+3*a<=l.length+3*b_+1)/\(a<=b_/\b_<=9000)) (λa_ b_ c_ d_ e_ f_=>p.length-b_) (p.length+1-a) a b pv1 l1 i1 O (sa O) w9 ⟨O,(by omega),(by omega),(by omega)⟩ ?_);rintro n a1 b1 pv1 l1 i1 ⟨hf,hn,hl1,ha1⟩;refine g' 2 O (T.keep [0,2,3] O ?_);refine tS 33 ((((!b1&&decide (((a1:Nat):Int)<((p.length:Nat):Int)))&&decide (nx p a1≠(124:Int)))&&decide (nx p a1≠(41:Int)))) (λ_ hQ2=>?_) ?_
 · rcases jU (b1) with hg3 | hg3
   · refine T.keep [0,2,3] O ?_;refine tDr 15 [(7,dP g 0,none),(8,dP g 0,none),(9,dP g 4,none),(10,dB true,none),(11,dB false,none),(12,dB false,none),(13,.v undef,none),(14,.v undef,none),(15,.v undef,none),(16,.v undef,none),(17,.v undef,none),(18,.v undef,none),(19,.v undef,none),(20,.v undef,none),(21,.v undef,none)] [nB g pv1 rt p a1 b1,.sl pv1 9 288 (l1.map paD)] (Hn:=[nB g pv1 rt p a1 b1,.sl pv1 9 288 (l1.map paD)]) mixed O O O O w9 O ⟨sa_p O O O (zk O),sa_p O O O (zN O),sa_p O O O (ze O zdt O),sa_p O O O ((zf O (i:=0) O Tryz.isAgg4 O).cv (cB ((hg3)))),sa_p O O O (zgf (q:=true) O),sa_p O O O (zk O),sa_s O O O O O O (by decide),sa_s O O O O O O (by decide),sa_s O O O O O O (by decide),sa_s O O O O O O (by decide),sa_s O O O O O O (by decide),sa_s O O O O O O (by decide),sa_s O O O O O O (by decide),sa_s O O O O O O (by decide),sa_s O O O O O O (by decide),trivial⟩ ?_;refine tK O (g' 13 O ?_);exact tQ hQ2 O O (by first | (simp[hg3];done) | (simp_all;done))
   by_cases hg4:((a1:Nat):Int)<((p.length:Nat):Int)
   · by_cases hg5:nx p a1≠(124:Int)
     · refine T.keep [0,2,3] O ?_;refine tDr 15 [(7,dP g 0,none),(8,dP g 0,none),(9,dP g 4,none),(10,dB false,none),(11,dB true,none),(12,dB true,none),(13,dP g 0,none),(14,dP g 0,none),(15,dP g 3,none),(16,dN a1,none),(17,dP g 0,none),(18,dP g 0,none),(19,dP g 2,none),(20,.sh 1 (p.map dR),none),(21,dN p.length,none)] [nB g pv1 rt p a1 b1,.sl pv1 9 288 (l1.map paD)] (Hn:=[nB g pv1 rt p a1 b1,.sl pv1 9 288 (l1.map paD)]) mixed O O O O w9 O ⟨sa_p O O O (zk O),sa_p O O O (zN O),sa_p O O O (ze O zdt O),sa_p O O O ((zf O (i:=0) O Tryz.isAgg4 O).cv (cB ((hg3)))),sa_p O O O (zgf (q:=false) O),sa_p O O O (zk O),zJ O O O O O O (zk O).qu,zJ O O O O O O (zN O).qu,zJ O O O O O O (ze O zcs O).qu,zJ O O O O O O (zf O (i:=0) O Tryz.isAgg3 O).qu,zJ O O O O O O (zk O).qu,zJ O O O O O O (zN O).qu,zJ O O O O O O (ze O zct O).qu,zJ O O O O O O (zf O (i:=0) O Tryz.isAgg130 O).qu,zJ O O O O O O (zaa (n:=p.length) O Tryz.runUnderlying130 (by simp only[lm,lc,ln])).qu,trivial⟩ ?_;refine tK O (tG O (zbO O O (aE hg4)) (g' 3 O (tV [0] O O (.cons (mR (j:=0) O (ArgC.agg (.cons (ArgC.cv kI) (ga (ga (ga (ga .nil))))))) .nil) (zbj (PatD.mk () rt p a1 b1) (by simp only;omega) (by simp only;omega)) O (tG O (zeQ O O (aE hg5)) (g' 3 O (tV [0] O O (.cons (mR (j:=0) O (ArgC.agg (.cons (ArgC.cv kI) (ga (ga (ga (ga .nil))))))) .nil) (zbj (PatD.mk () rt p a1 b1) (by simp only;omega) (by simp only;omega)) O (g' 3 O ?_)))))));exact tQ hQ2 O O (by first | (simp[hg3,hg4,hg5];done) | (simp_all;done))
     refine T.keep [0,2,3] O ?_;refine tDr 15 [(7,dP g 0,none),(8,dP g 0,none),(9,dP g 4,none),(10,dB false,none),(11,dB true,none),(12,dB true,none),(13,dP g 0,none),(14,dP g 0,none),(15,dP g 3,none),(16,dN a1,none),(17,dP g 0,none),(18,dP g 0,none),(19,dP g 2,none),(20,.sh 1 (p.map dR),none),(21,dN p.length,none)] [nB g pv1 rt p a1 b1,.sl pv1 9 288 (l1.map paD)] (Hn:=[nB g pv1 rt p a1 b1,.sl pv1 9 288 (l1.map paD)]) mixed O O O O w9 O ⟨sa_p O O O (zk O),sa_p O O O (zN O),sa_p O O O (ze O zdt O),sa_p O O O ((zf O (i:=0) O Tryz.isAgg4 O).cv (cB ((hg3)))),sa_p O O O (zgf (q:=false) O),sa_p O O O (zk O),zJ O O O O O O (zk O).qu,zJ O O O O O O (zN O).qu,zJ O O O O O O (ze O zcs O).qu,zJ O O O O O O (zf O (i:=0) O Tryz.isAgg3 O).qu,zJ O O O O O O (zk O).qu,zJ O O O O O O (zN O).qu,zJ O O O O O O (ze O zct O).qu,zJ O O O O O O (zf O (i:=0) O Tryz.isAgg130 O).qu,zJ O O O O O O (zaa (n:=p.length) O Tryz.runUnderlying130 (by simp only[lm,lc,ln])).qu,trivial⟩ ?_;refine tK O (tG O (zbO O O (aE hg4)) (g' 3 O (tV [0] O O (.cons (mR (j:=0) O (ArgC.agg (.cons (ArgC.cv kI) (ga (ga (ga (ga .nil))))))) .nil) (zbj (PatD.mk () rt p a1 b1) (by simp only;omega) (by simp only;omega)) O (tG O (zeQ O O (aD hg5)) (g' 7 O ?_)))));exact tQ hQ2 O O (by first | (simp[hg3,hg4,hg5];done) | (simp_all;done))
   refine T.keep [0,2,3] O ?_;refine tDr 15 [(7,dP g 0,none),(8,dP g 0,none),(9,dP g 4,none),(10,dB false,none),(11,dB true,none),(12,dB true,none),(13,dP g 0,none),(14,dP g 0,none),(15,dP g 3,none),(16,dN a1,none),(17,dP g 0,none),(18,dP g 0,none),(19,dP g 2,none),(20,.sh 1 (p.map dR),none),(21,dN p.length,none)] [nB g pv1 rt p a1 b1,.sl pv1 9 288 (l1.map paD)] (Hn:=[nB g pv1 rt p a1 b1,.sl pv1 9 288 (l1.map paD)]) mixed O O O O w9 O ⟨sa_p O O O (zk O),sa_p O O O (zN O),sa_p O O O (ze O zdt O),sa_p O O O ((zf O (i:=0) O Tryz.isAgg4 O).cv (cB ((hg3)))),sa_p O O O (zgf (q:=false) O),sa_p O O O (zk O),zJ O O O O O O (zk O).qu,zJ O O O O O O (zN O).qu,zJ O O O O O O (ze O zcs O).qu,zJ O O O O O O (zf O (i:=0) O Tryz.isAgg3 O).qu,zJ O O O O O O (zk O).qu,zJ O O O O O O (zN O).qu,zJ O O O O O O (ze O zct O).qu,zJ O O O O O O (zf O (i:=0) O Tryz.isAgg130 O).qu,zJ O O O O O O (zaa (n:=p.length) O Tryz.runUnderlying130 (by simp only[lm,lc,ln])).qu,trivial⟩ ?_;refine tK O (tG O (zbO O O (aD hg4)) (g' 12 O ?_));exact tQ hQ2 O O (by first | (simp[hg3,hg4];done) | (simp_all;done))
 refine g' 1 O ?_;refine tC O (λhc6=>?_) (λhc6=>?_)
 · simp only[bX,bJ] at hc6;have hst:¬(b1=true\/p.length<=a1\/nx p a1=124\/nx p a1=41):=(by have h:=hc6;rintro (k | k);(rw[k] at h;exact aH h.1.1.1 (by decide));omega);obtain ⟨n,rfl⟩:∃ k,n=k+1:=⟨n-1,by omega⟩;refine g' 7 O (tX [0,0] O O acs (aQk g pv1 rt p a1 b1 l1 f ih (by omega) (by omega) (by omega) (by omega) (by omega)) ?_);rintro _ _ ⟨i7,pv7,a7,b7,l7,e7,hl7,rfl,rfl⟩;have hb7:=aOb e7 (by omega);refine tP O (zj [0,5,6] [.const (.int .i64 4),.tmp 35,.tmp 37] (zv:=(.agg #[(.int .i64 0),(.int .i32 0),(.slice none 0 0),(.slice none 0 0),(.bool false),(.int .i64 0),(.int .i64 0),(.int .i64 0),(.bool false)])) O O (.cons (CellD.v O) (.cons (CellD.v O) (.cons (CellD.v O) .nil))) (Tryz.runUnderlying288) Tryz.zeroValue288 zeg ⟨O,O,O,O,O,O,O,O,O,trivial⟩ O) (tX [0,0] O O (ga (.cons (ArgC.agg (.cons (ArgC.cv (Cv.any O)) (.cons (ArgC.cv (Cv.any O)) (.cons (ArgC.cv (Cv.any O)) (.cons (ArgC.cv (Cv.any O)) (.cons (ArgC.cv (Cv.any O)) (.cons (ArgC.cv (Cv.any O)) (.cons (ArgC.cv (Cv.any O)) (.cons (ArgC.cv (Cv.any O)) (.cons (ArgC.cv (Cv.any O)) .nil)))))))))) .nil)) (zd2 g pv7 rt p a7 b7 l7 (by omega)) ?_);rintro _ _ ⟨i8,pv8,l8,hl8,rfl,rfl⟩;refine g' 3 O ?_;exact tp6 n a7 b7 pv8 l8 i8 (sa O) w9 ⟨(aEw hst e7).symm.trans hf,by omega,by omega,by omega⟩ (by omega)
 simp only[bX,bJ] at hc6;have hff:=hf.symm.trans (sN (by have h:=hc6;cases hb:b1;right;simp[hb] at h;omega;exact .inl O));refine g' 12 O ?_;exact tR O (mP 2 O) ⟨_,_,_,_,_,aFn hff,(by omega),O,O⟩
theorem aJi (g:Nat) (pv:Value) (rt:Int) (p:List Int) (a:Nat) (b:Bool) (l:List Unit) (f:Nat) (ih:zfg p f) (hpl:p.length<=1000) (hfl:f<=1001) (hl:l.length<=3*a) (ha:a<=p.length) (hlf:p.length<f+1+a):
 CD Tryz.prog 246 [nB g pv rt p a b,.sl pv 9 288 (l.map paD)] [dP g 0] (P7 g p rt l a 0 (alt7 p (f+1) a b)):=by
 refine tZ Tryz.func246 O O (λC=>?_);refine g' 8 O (tX [0,0] O O acs (xD g pv rt p a b l f ih (by omega) (by omega) (by omega) (by omega) (by omega)) ?_);rintro _ _ ⟨i1,pv1,a1,b1,l1,e1,hl1,rfl,rfl⟩;have hb1:=rG e1;refine g' 5 O (tl6 (λ(a_:Nat) (b_:Nat) (c_:Bool) (d_:Value) (e_:List Unit) (f_:Int)=>[(0,dP g 0),(2,dI 0),(3,dI f_)]) (λa_ b_ c_ d_ e_ f_=>[nB g d_ rt p b_ c_,.sl d_ 9 288 (e_.map paD)]) (λa_ b_ c_ d_ e_ f_=>(za6 p (alt7 p f) a_ b_ c_=za6 p (alt7 p f) (p.length+1-a1) a1 b1)/\(p.length+1<=a_+b_)/\(e_.length+3*a<=l.length+3*b_+1)/\(a<=b_/\b_<=9000)) (λa_ b_ c_ d_ e_ f_=>p.length-b_) (p.length+1-a1) a1 b1 pv1 l1 i1 O (sa O) w9 ⟨O,(by omega),(by omega),(by omega)⟩ ?_);rintro n a1 b1 pv1 l1 i1 ⟨hf,hn,hl1,ha1⟩;refine g' 4 O (tV [0] O O (.cons (mR (j:=0) O (ArgC.agg (.cons (ArgC.cv kI) (ga (ga (ga (ga .nil))))))) .nil) (zbj (PatD.mk () rt p a1 b1) (by simp only;omega) (by simp only;omega)) O (g' 2 O ?_));refine tAnd 3 5 (c:=!b1) O O O O O O (λhb2 nx3=>?_) ?_
 · have hf4:=aF hb2;refine gQ 5 [0] O O ?_;exact nx3 _ O O (kx 5 O O)
 refine g' 2 O ?_;refine tC O (λhc5=>?_) (λhc5=>?_)
 · simp only[bX,bJ] at hc5;have hst:nx p a1=124/\b1=false:=(by have h:=hc5;exact⟨h.1,by simpa using h.2⟩);have hnl:=ze5 (x:=124) (by decide) hst.1;obtain ⟨n,rfl⟩:∃ k,n=k+1:=⟨n-1,by omega⟩;refine gQ 9 [0] O O (tP O (zE (c:=((a1+1:Nat):Int)) O O (zp (by omega) (by omega))) (gQ 9 [0] O O (tX [0,0] O O acs (xD g pv1 rt p (a1+1) b1 l1 f ih (by omega) (by omega) (by omega) (by omega) (by omega)) ?_)));rintro _ _ ⟨i6,pv6,a6,b6,l6,e6,hl6,rfl,rfl⟩;have hb6:=rG e6;refine tP O (zj [0,5,6] [.const (.int .i64 5),.tmp 24,.tmp 26] (zv:=(.agg #[(.int .i64 0),(.int .i32 0),(.slice none 0 0),(.slice none 0 0),(.bool false),(.int .i64 0),(.int .i64 0),(.int .i64 0),(.bool false)])) O O (.cons (CellD.v O) (.cons (CellD.v O) (.cons (CellD.v O) .nil))) (Tryz.runUnderlying288) Tryz.zeroValue288 zeg ⟨O,O,O,O,O,O,O,O,O,trivial⟩ O) (tX [0,0] O O (ga (.cons (ArgC.agg (.cons (ArgC.cv (Cv.any O)) (.cons (ArgC.cv (Cv.any O)) (.cons (ArgC.cv (Cv.any O)) (.cons (ArgC.cv (Cv.any O)) (.cons (ArgC.cv (Cv.any O)) (.cons (ArgC.cv (Cv.any O)) (.cons (ArgC.cv (Cv.any O)) (.cons (ArgC.cv (Cv.any O)) (.cons (ArgC.cv (Cv.any O)) .nil)))))))))) .nil)) (zd2 g pv6 rt p a6 b6 l6 (by omega)) ?_);rintro _ _ ⟨i7,pv7,l7,hl7,rfl,rfl⟩;refine g' 3 O ?_;exact tp6 n a6 b6 pv7 l7 i7 (sa O) w9 ⟨(aEs hst e6).symm.trans hf,by omega,by omega,by omega⟩ (by omega)
 simp only[bX,bJ] at hc5;have hff:=hf.symm.trans (sB (by have h:=hc5;intro k;rcases h with q | q;exact q k.1;rw[k.2] at q;cases q));refine g' 12 O ?_;exact tR O (mP 2 O) ⟨_,_,_,_,_,aU7 e1 hff,(by omega),O,O⟩
theorem aDm (p:List Int) (hpl:p.length<=1000):∀ f:Nat,f<=1001->zfg p f
 | 0=>λ_ g pv rt a b l h1 h2=>aH h1 (by omega)
 | f+1=>λhf g pv rt a b l h1 h2 h3=>aJi g pv rt p a b l f (aDm p hpl f (by omega)) hpl (by omega) h3 h1 (by omega)
end Lp
namespace Lp
open Go Go.RowKit Go.Proofs
variable {s:ByteArray}
theorem aYy:BdP Tryz.prog #[⟨"parts",275,0,false, "", "leporello/leporelloref1",0⟩,⟨"Root",3,1,false, "", "",24⟩,⟨"p",130,2,false, "", "leporello/leporelloref1",32⟩,⟨"at",3,3,false, "", "leporello/leporelloref1",56⟩,⟨"bad",4,4,false, "", "leporello/leporelloref1",64⟩] [(0,1),(1,1),(2,1),(3,1),(4,1)]:=λ_=>by kernel_rfl
theorem aAl (x y:Operand) (a:Addr) (w:World):(do eqGuard .neq 262 x y (.pointer (some a)) (.pointer none);binOp .neq 262 (.pointer (some a)) (.pointer none):Sem Value).run Tryz.prog w=.ok (.bool true) w:=by kernel_rfl
theorem aBr (s:ByteArray):∀ c∈zB s,0<=c:=by
 have key:∀ (n p:Nat),s.size-p=n->∀ c∈zaW s p,0<=c:=by
  intro n
  induction n using Nat.strongRecOn with
  | _ n ih=>
   intro p hn;by_cases hp:p<s.size
   · have hw:=zF s p;rw[zaw hp];intro c hc;rcases dH.1 hc with rfl | hc
     · have:=zbQ s p;omega
     exact ih (s.size-(p+decW s p)) (by omega) _ O c hc
   rw[zaG (by omega)];intro c hc;cases hc
 exact key _ 0 O
theorem aTt {a:Nat} {b:Bool} (e:(a,b)=alt7 (zB s) ((zB s).length+1) 0 false) (h40:(zB s).length<=40) (h:b=true\/a<(zB s).length):(none:Option Nat).isSome=patR (zB s):=by
 rw[<-aZn (aBr s) h40];unfold pat7;rw[<-e];rcases h with h | h
 · rw[h];rfl
 rw[aD (by omega:¬(zB s).length<=a)];simp
theorem aV7 {a g:Nat} {b:Bool} (e:(a,b)=alt7 (zB s) ((zB s).length+1) 0 false) (h40:(zB s).length<=40) (h:b=false/\(zB s).length<=a):(some g).isSome=patR (zB s):=by
 rw[<-aZn (aBr s) h40];unfold pat7;rw[<-e,h.1,aE h.2];rfl
theorem lO (s:ByteArray) (hs:s.size<=1000000) (h40:(zB s).length<=40):
 CD Tryz.prog 236 [] [.s s] (λr H'=>∃ q:Option Nat,q.isSome=patR (zB s)/\r=.v (.pointer (q.map λg=>⟨g,0,none⟩))/\H'=[]):=by
 refine tZ Tryz.func236 O O (λC=>?_);refine T.bd 0 O (λbd0=>?_);have sz0:s.size<=9223372036854775807:=bd0;refine g' 8 O (tX [] O O acs (zdd s (by omega)) ?_);rintro _ _ ⟨v1,rfl,rfl⟩;refine tP O (zj [2] [.tmp 5] (zv:=(.agg #[(.slice none 0 0),(.int .i64 0),(.slice none 0 0),(.int .i64 0),(.bool false)])) O O (.cons CellD.o .nil) (Tryz.runUnderlying277) Tryz.zeroValue277 aYy ⟨O,O,O,O,O,trivial⟩ O) ?_;refine tA O (λg2=>?_);refine g' 4 O (m7 (Mv.subH (mB (fU (i:=1) O))) (m7 (Mv.freeze (K':=[(0,.s s),(2,.v (.pointer none)),(3,dP g2 0),(4,.s s),(5,.sh 1 ((zB s).map dR)),(6,.agg [dZ,dI 0,.sh 1 ((zB s).map dR),dI 0,dB false]),(7,dP g2 0)]) [.sl v1 1 21 ((zB s).map dR)] (H1:=[.bx g2 277 (.agg [dZ,dI 0,.ov v1,dI 0,dB false])]) (H1':=[.bx g2 277 (.agg [dZ,dI 0,.sh 1 ((zB s).map dR),dI 0,dB false])]) ⟨⟨_,O,mJ⟩,⟨_,O,mJ⟩,⟨_,O,mJ⟩,⟨_,O,mJ⟩,⟨_,O,mK (j:=0) O O⟩,⟨_,O,ArgC.agg (ga (ga (.cons (mK (j:=0) O O) (ga (ga .nil)))))⟩,⟨_,O,mJ⟩,trivial⟩ (.bx (ArgC.agg (ga (ga (.cons (mK (j:=0) O O) (ga (ga .nil)))))) .nil)) (m8 (HSub.nil 9 288) (kA 1 O ?_))));refine m8 (mC (h':=.bx g2 277 (.agg [.ov (.slice none 0 0),dI 0,.sh 1 ((zB s).map dR),dI 0,dB false])) O (mD (Cv.agg (.cons (Cv.ov O) (gc (gc (gc (gc .nil)))))))) (g' 3 O (tX [0,0] O O acs (aDm (zB s) (by omega) ((zB s).length+1) (by omega) g2 (.slice none 0 0) 0 0 false [] (cX _) (by omega) (cX _)) ?_));rintro _ _ ⟨i3,pv3,a3,b3,l3,e3,hl3,rfl,rfl⟩;refine gQ 7 [0] O O (T.keep [2,3] O ?_);refine tS 28 ((b3||decide (((a3:Nat):Int)<(((zB s).length:Nat):Int)))) (λ_ hQ4=>?_) ?_
 · rcases jU (b3) with hg5 | hg5
   · refine T.keep [2,3] O ?_;refine tDr 14 [(13,dP g2 0,none),(14,dP g2 0,none),(15,dP g2 4,none),(16,dB true,none),(17,dB true,none),(18,.v undef,none),(19,.v undef,none),(20,.v undef,none),(21,.v undef,none),(22,.v undef,none),(23,.v undef,none),(24,.v undef,none),(25,.v undef,none),(26,.v undef,none)] [nB g2 pv3 i3 (zB s) a3 b3,.sl pv3 9 288 (l3.map paD)] (Hn:=[nB g2 pv3 i3 (zB s) a3 b3,.sl pv3 9 288 (l3.map paD)]) mixed O O O O w9 O ⟨sa_p O O O (zk O),sa_p O O O (zN O),sa_p O O O (ze O zdt O),sa_p O O O ((zf O (i:=0) O Tryz.isAgg4 O).cv (cB ((hg5)))),sa_p O O O (zk O),sa_s O O O O O O (by decide),sa_s O O O O O O (by decide),sa_s O O O O O O (by decide),sa_s O O O O O O (by decide),sa_s O O O O O O (by decide),sa_s O O O O O O (by decide),sa_s O O O O O O (by decide),sa_s O O O O O O (by decide),sa_s O O O O O O (by decide),trivial⟩ ?_;refine tK O (g' 3 O ?_);exact tQ hQ4 O O (by first | (simp[hg5];done) | (simp_all;done))
   refine T.keep [2,3] O ?_;refine tDr 14 [(13,dP g2 0,none),(14,dP g2 0,none),(15,dP g2 4,none),(16,dB false,none),(17,dB false,none),(18,dP g2 0,none),(19,dP g2 0,none),(20,dP g2 3,none),(21,dN a3,none),(22,dP g2 0,none),(23,dP g2 0,none),(24,dP g2 2,none),(25,.sh 1 ((zB s).map dR),none),(26,dN ((zB s).length),none)] [nB g2 pv3 i3 (zB s) a3 b3,.sl pv3 9 288 (l3.map paD)] (Hn:=[nB g2 pv3 i3 (zB s) a3 b3,.sl pv3 9 288 (l3.map paD)]) mixed O O O O w9 O ⟨sa_p O O O (zk O),sa_p O O O (zN O),sa_p O O O (ze O zdt O),sa_p O O O ((zf O (i:=0) O Tryz.isAgg4 O).cv (cB ((hg5)))),sa_p O O O (zk O),zJ O O O O O O (zk O).qu,zJ O O O O O O (zN O).qu,zJ O O O O O O (ze O zcs O).qu,zJ O O O O O O (zf O (i:=0) O Tryz.isAgg3 O).qu,zJ O O O O O O (zk O).qu,zJ O O O O O O (zN O).qu,zJ O O O O O O (ze O zct O).qu,zJ O O O O O O (zf O (i:=0) O Tryz.isAgg130 O).qu,zJ O O O O O O (zaa (n:=(zB s).length) O Tryz.runUnderlying130 (by simp only[lm,lc,ln])).qu,trivial⟩ ?_;refine tK O (g' 3 O ?_);exact tQ hQ4 O O (by first | (simp[hg5];done) | (simp_all;done))
 refine g' 1 O ?_;refine tC O (λhc6=>?_) (λhc6=>?_)
 · simp only[bX,bJ] at hc6;have hcm:=aTt e3 h40 (by have h:=hc6;rcases h with h | h;exact .inl h;exact .inr (by omega));refine g' 7 O ?_;exact tR O mO ⟨_,hcm,O,O⟩
 simp only[bX,bJ] at hc6;have hcm:=aV7 (g:=g2) e3 h40 (by have h:=hc6;exact⟨h.1,by omega⟩);refine g' 9 O ?_;exact tR O mO ⟨_,hcm,O,O⟩
theorem aE1 (hp:patR (zB s)=true) (hs:s.size<=1000000) (h40:(zB s).length<=40):CD Tryz.prog 236 [] [.s s] (λr H'=>∃ g:Nat,r=dP g 0/\H'=[]):=CD.to (lO s hs h40) (by
 rintro r H' ⟨q,h,rfl,rfl⟩;cases q with
 | none=>rw[hp] at h;cases h
 | some g=>exact⟨g,rfl,rfl⟩)
theorem aEm (hp:patR (zB s)=false) (hs:s.size<=1000000) (h40:(zB s).length<=40):CD Tryz.prog 236 [] [.s s] (λr H'=>r=.v (.pointer none)/\H'=[]):=CD.to (lO s hs h40) (by
 rintro r H' ⟨q,h,rfl,rfl⟩;cases q with
 | none=>exact⟨rfl,rfl⟩
 | some g=>rw[hp] at h;cases h)
theorem aU0 {l:List Int} (h:patR l=true):l.length<=40:=by unfold patR at h;simp only[cY,aI] at h;exact h.1.1
theorem aEo (m:MatD) (hn:m.n.size<=1000000) (hv:m.v.size<=1000000):
 CD Tryz.prog 226 [] [MatD.d m] (isR (dB (zcc m))):=by
 refine tZ Tryz.func226 O O (λC=>?_);refine T.bd 0 O (λbd0=>?_);refine g' 2 O ?_;refine tA O (λg1=>?_);refine gQ 8 [0] O O (tW O acs (aIr m.n (by omega)) (g' 2 O ?_));refine tOr 4 3 (c:=decide (m.op<(1:Int))) O O O O O O (λhb2 nx3=>?_) ?_
 · have hf4:=notF hb2;refine gQ 3 [0] O O ?_;exact nx3 _ O O (kx 3 O O)
 refine g' 1 O ?_;refine tOr 9 3 (c:=decide ((4:Int)<m.op)) O O O O O O (λhb5 nx6=>?_) ?_
 · obtain ⟨hf7,hf8⟩:=orF hb5;have hf9:=notF hf7;have hf10:=aC hf8;refine gQ 3 [0] O O ?_;exact nx6 _ O O (kx 3 O O)
 refine g' 2 O ?_;refine tC O (λhc11=>?_) (λhc11=>?_)
 · simp only[bX,bJ] at hc11;have hrd:false=zcc m:=(by unfold zcc;have h:=hc11;rcases h with (h | h) | h;(rw[h];rfl);(rw[aD (by omega:¬(1<=m.op/\m.op<=4))];simp);(rw[aD (by omega:¬(1<=m.op/\m.op<=4))];simp));refine g' 7 O ?_;exact tRs O Tryz.results226 (.cons (zd (zc O) (cB ((by exact hrd)))) .nil) O mO ⟨O,O⟩
 simp only[bX,bJ] at hc11;have hgd:zcC m.n=true/\(1<=m.op/\m.op<=4):=by have h:=hc11;exact⟨h.1.1,by omega⟩
 refine g' 3 O ?_;cases hpt:patR (zB m.v)
 · refine tS 2 ((decide (m.op<(3:Int))||(decide ((((zB m.v).length:Nat):Int)<=(40:Int))&&false))) (λ_ hQ12=>?_) ?_
   · by_cases hg13:m.op<(3:Int)
     · refine gQ 3 [0] O O (tP O (zbO O O (aE hg13)) (g' 15 O ?_));exact tQ hQ12 O O (by first | (simp[hg13];done) | (simp_all;done))
     by_cases hg14:(((zB m.v).length:Nat):Int)<=(40:Int)
     · refine gQ 3 [0] O O (tP O (zbO O O (aD hg13)) (gQ 3 [0] O O (tX [] O O acs (zdd m.v (by omega)) ?_)));rintro _ _ ⟨v15,rfl,rfl⟩;refine tG O (zan (n:=(zB m.v).length) (j:=0) O O Tryz.runUnderlying130 (cV _)) (tG O (zbH O O (aE hg14)) (gQ 3 [1] O O (tW O acs (aEm hpt (by omega) (by omega)) (tG O (zep (r:=.bool false) O O (λ_=>by kernel_rfl)) (g' 4 O (m8 (mQ 1 O) ?_))))));exact tQ hQ12 O O (by first | (simp[hg13,hg14];done) | (simp_all;done))
     refine gQ 3 [0] O O (tP O (zbO O O (aD hg13)) (gQ 3 [0] O O (tX [] O O acs (zdd m.v (by omega)) ?_)));rintro _ _ ⟨v16,rfl,rfl⟩;refine tG O (zan (n:=(zB m.v).length) (j:=0) O O Tryz.runUnderlying130 (cV _)) (tG O (zbH O O (aD hg14)) (g' 9 O (m8 (mQ 1 O) ?_)));exact tQ hQ12 O O (by first | (simp[hg13,hg14];done) | (simp_all;done))
   refine g' 2 O ?_;exact tRs O Tryz.results226 (.cons (zd (zc O) (cB ((by unfold zcc;rw[hgd.1,aE hgd.2,hpt];simp;done)))) .nil) O mO ⟨O,O⟩
 refine tS 2 ((decide (m.op<(3:Int))||decide ((((zB m.v).length:Nat):Int)<=(40:Int)))) (λ_ hQ18=>?_) ?_
 · by_cases hg19:m.op<(3:Int)
   · refine gQ 3 [0] O O (tP O (zbO O O (aE hg19)) (g' 15 O ?_));exact tQ hQ18 O O (by first | (simp[hg19];done) | (simp_all;done))
   by_cases hg20:(((zB m.v).length:Nat):Int)<=(40:Int)
   · refine gQ 3 [0] O O (tP O (zbO O O (aD hg19)) (gQ 3 [0] O O (tX [] O O acs (zdd m.v (by omega)) ?_)));rintro _ _ ⟨v21,rfl,rfl⟩;refine tG O (zan (n:=(zB m.v).length) (j:=0) O O Tryz.runUnderlying130 (cV _)) (tG O (zbH O O (aE hg20)) (gQ 3 [1] O O (tX [] O O acs (aE1 hpt (by omega) (by omega)) ?_)));rintro _ _ ⟨gq22,rfl,rfl⟩;refine tG O (zep (r:=.bool true) O O (aAl _ _ _)) (g' 4 O (m8 (mQ 1 O) ?_));exact tQ hQ18 O O (by first | (simp[hg19,hg20];done) | (simp_all;done))
   refine gQ 3 [0] O O (tP O (zbO O O (aD hg19)) (gQ 3 [0] O O (tX [] O O acs (zdd m.v (by omega)) ?_)));rintro _ _ ⟨v23,rfl,rfl⟩;refine tG O (zan (n:=(zB m.v).length) (j:=0) O O Tryz.runUnderlying130 (cV _)) (tG O (zbH O O (aD hg20)) (g' 9 O (m8 (mQ 1 O) ?_)));exact tQ hQ18 O O (by first | (simp[hg19,hg20];done) | (simp_all;done))
 refine g' 2 O ?_;exact tRs O Tryz.results226 (.cons (zd (zc O) (cB ((by unfold zcc;rw[hgd.1,aE hgd.2,hpt];simp;have:=aU0 hpt;omega)))) .nil) O mO ⟨O,O⟩
theorem xY (m:List MatD) (hl:m.length<=2000000) (hm:∀ x∈m,x.n.size<=1000/\x.v.size<=1000):
 CD Tryz.prog 208 [] [.sh 3 (m.map MatD.d)] (isR (dB (rmD m))):=by
 refine tZ Tryz.func208 O O (λC=>?_);refine T.bd 0 O (λbd0=>?_);have nl0:=zbW bd0;refine g' 12 O (tl1 (λ(a_:Nat)=>[(0,.sh 3 (m.map MatD.d)),(3,dN a_)]) (λa_=>[]) (λa_=>(a_<=m.length)/\((m.take a_).all zcc=true)) (λa_=>m.length-a_) 0 O (sa O) w9 ⟨cX _,O⟩ ?_);rintro k ⟨hk,ho⟩;refine g' 5 O (tP O (zaa (n:=m.length) O Tryz.runUnderlying24 (by simp only[lm,lc,ln])) (g' 3 O ?_));refine tD O (λhc1=>?_) (λhc1=>?_)
 · refine g' 8 O ?_;obtain ⟨x1,hx1⟩:=zO m k (by omega);have hmx:=hm x1 (dT hx1);refine tP O (zh (k:=k) O O Tryz.runUnderlying24 Tryz.sizeOf65 (by first | rfl | omega) (zI hx1)) (g' 1 O (tW O acs (aEo x1 (by omega) (by omega)) (g' 3 O ?_)));refine tC O (λhc2=>?_) (λhc2=>?_)
   · simp only[bX,bJ] at hc2;refine g' 11 O ?_;exact tRs O Tryz.results208 (.cons (zd (zc O) (cB ((by exact aR7 hx1 (by simpa using hc2))))) .nil) O mO ⟨O,O⟩
   simp only[bX,bJ] at hc2;refine g' 5 O (tP O (zE (c:=((k+1:Nat):Int)) O O (zp (by omega) (by omega))) (g' 2 O ?_));exact tp1 (k+1) (sa O) w9 ⟨by omega,by rw[za9 hx1,List.all_append,ho];simpa using hc2⟩ (by omega)
 refine g' 8 O (tP O (zaa (n:=m.length) O Tryz.runUnderlying24 (by simp only[lm,lc,ln])) (g' 5 O ?_));exact tRs O Tryz.results208 (.cons (zd (zc O) (cB ((by exact aQ2 ho (by omega))))) .nil) O mO ⟨O,O⟩
end Lp
namespace Lp
open Go
section
variable {s:Rd} {k:Int} {ts:List ByteArray} {x:ByteArray}
theorem zeH:(s.take k ts).2.2.b=s.b:=by unfold Rd.take;split<;>rfl
theorem z7 (h:s.b=true):(s.must x).b=true:=by unfold Rd.must;simp only[zeH,h,u9]
theorem zbZ (h:s.b=true):(s.any k).2.b=true:=by unfold Rd.any;rw[aB (.inl h)]
theorem zaR (h:s.b=true):s.node.b=true:=by unfold Rd.node;simp only[h,u9]
theorem zcU (h:s.b=true):s.take k ts=(ByteArray.empty,false,s):=zba (.inl h)
theorem qL {F:Nat} {o:List ByteArray} (h:s.b=true):(zaF F o s).2.b=true:=by
 cases F with
 | zero=>exact h
 | succ F=>unfold zaF;rw[aB h];exact h
theorem aCb {y:ByteArray} (h:s.b=true):(s.mode x y).2.2.b=true:=by
 unfold Rd.mode;rw[zcU h];simpa using h
theorem zbU {part:Rd->Nd×Rd} {F:Nat} {o:Nd} (h:s.b=true):(zaz part ts F o s).2.b=true:=by
 cases F with
 | zero=>exact h
 | succ F=>unfold zaz;rw[zcU h];simpa using h
theorem iX {F:Nat} {o:List MatD} (h:s.b=true):(zW F o s).2.b=true:=by
 cases F with
 | zero=>exact h
 | succ F=>unfold zW;rw[aB h];exact h
end
def Bad (p:Rd->Nd×Rd):Prop:=∀ s,s.b=true->(p s).2.b=true
theorem Bad.no {p:Rd->Nd×Rd} (h:Bad p) {s:Rd} (e:(p s).2.b=false):s.b=false:=by
 cases hs:s.b with
 | false=>rfl
 | true=>rw[h s hs] at e;cases e
theorem zS {a b:Bool} (h:a=true->b=true) (e:b=false):a=false:=by
 cases a with
 | false=>rfl
 | true=>rw[h rfl] at e;cases e
theorem yD {part:Rd->Nd×Rd} (h:Bad part) (ts:List ByteArray):Bad (λs=>s.level part ts):=λs hs=>zbU (h s hs)
section
variable (rm:List MatD->Bool)
theorem zgm (ex:Rd->Nd×Rd):Bad (λs=>s.prim rm ex):=λs h=>by simp only[Rd.prim];rw[aB h];exact h
theorem zei (ex:Rd->Nd×Rd):∀ F,Bad (zaf rm ex F)
 | 0,s,h=>h
 | F+1,s,h=>by unfold zaf;rw[zcU h];simpa using zgm rm ex s h
theorem zf2 (ex:Rd->Nd×Rd):Bad (zcY rm ex):=yD (λs h=>zei rm ex _ s h) _
theorem zeW (ex:Rd->Nd×Rd):Bad (sumP rm ex):=yD (zf2 rm ex) _
theorem zef:∀ F,Bad (zas rm F)
 | 0,s,h=>h
 | F+1,s,h=>yD (zeW rm (zas rm F)) _ s h
theorem aL7 {s:Rd} (h:s.b=true):(s.braces rm).2.b=true:=by
 unfold Rd.braces;split
 · exact z7 (z7 h)
 show (((zW _ [] (s.must zH)).2.must zA).b||_)=true;rw[z7 (iX (z7 h))];rfl
theorem aKm {s:Rd} {x:ByteArray} (h:s.b=true):(s.selMs rm x).2.b=true:=by
 unfold Rd.selMs;split
 · exact aL7 rm h
 show (s.b||_)=true;rw[h];rfl
end
theorem zeX {s:Rd} (h:s.b=true):s.selWin.2.b=true:=by unfold Rd.selWin;rw[zcU h];simpa using h
def er (t:TokD):TokD:=⟨t.k,0,t.t⟩
theorem zgQ {x y:TokD} (h:er x=er y):x.k=y.k/\x.t=y.t:=by
 have a:(er x).k=(er y).k:=aG TokD.k h;have b:(er x).t=(er y).t:=aG TokD.t h;exact⟨a,b⟩
structure R (r:List TokD) (s t:Rd):Prop where
 l:t.l.map er=(s.l++r).map er
 n:t.n=s.n
 b:t.b=s.b
def Hq (r:List TokD):Prop:=∀ h,r.head?=some h->h.k=5/\h.t=zx\/h.k=1/\(h.t=zaJ\/h.t=zar\/h.t=z8)
section
variable {r:List TokD} {s t:Rd} {k:Int} {ts:List ByteArray} {x:ByteArray}
theorem zgD {s:Rd}:er s.pk=(s.l.map er).headD zbm:=by
 unfold Rd.pk;cases s.l with
 | nil=>rfl
 | cons y l=>rfl
theorem R.pk (h:R r s t) (hl:s.l≠[]):t.pk.k=s.pk.k/\t.pk.t=s.pk.t:=by
 have e1:=zgD (s:=t);have e2:=zgD (s:=s);rw[h.l] at e1;obtain ⟨y,l,hy⟩:=uA hl;rw[hy] at e1 e2;have e3:er t.pk=er s.pk:=by rw[e1,e2];rfl
 exact zgQ e3
theorem R.is (h:R r s t) (hl:s.l≠[]):t.is k ts=s.is k ts:=by
 have e:=h.pk hl;unfold Rd.is;rw[e.1,e.2]
theorem zee (hl:s.l=[]) (hk:k≠0):s.is k ts=false:=by
 unfold Rd.is;rw[pk_0 (by rw[hl];rfl),aD (show ¬zbm.k=k from λe=>hk e.symm)];rfl
structure Qt (k:Int) (ts:List ByteArray):Prop where
 kn:k≠0
 a:k=5->hasN ts zx=false
 b:k=1->hasN ts zaJ=false/\hasN ts zar=false/\hasN ts z8=false
theorem R.isq (h:R r s t) (hr:Hq r) (q:Qt k ts):t.is k ts=s.is k ts:=by
 by_cases hl:s.l=[]
 · rw[zee hl q.kn];have e1:=zgD (s:=t);rw[h.l,hl,jG] at e1;cases r with
   | nil=>exact zee (List.map_eq_nil_iff.1 (by rw[h.l,hl];rfl)) q.kn
   | cons y r=>
    have e3:er t.pk=er y:=e1;obtain ⟨e4,e5⟩:=zgQ e3;unfold Rd.is;rw[e4,e5];rcases hr y rfl with ⟨a,b⟩ | ⟨a,b⟩
    · rw[a,b];by_cases hk:k=5
      · rw[q.a hk,jI]
      rw[aD (λe=>hk e.symm)];rfl
    rw[a];by_cases hk:k=1
    · obtain ⟨q1,q2,q3⟩:=q.b hk;rcases b with b | b | b<;>rw[b]
      · rw[q1,jI]
      · rw[q2,jI]
      rw[q3,jI]
    rw[aD (λe=>hk e.symm)];rfl
 exact h.is hl
theorem zfA (hk:k≠0) (h:s.is k ts=true):s.l≠[]:=λe=>by rw[zee e hk] at h;cases h
theorem qt_5 {ts:List ByteArray} (h:hasN ts zx=false):Qt 5 ts:=⟨by decide,λ_=>h,λe=>by cases e⟩
end
end Lp
