import Derived.Test.YtheccaeefigajaaGreatDoorV118
set_option linter.unusedSimpArgs false
set_option linter.unusedVariables false
set_option maxHeartbeats 4000000
set_option maxRecDepth 100000
namespace Lp
open Go Go.RowKit Go.Proofs
theorem zcz:FaP Tryz.prog 277 4 4:=fun _ _ _=>by kernel_rfl
abbrev P7 (g:Nat) (p:List Int) (rt:Int) (l:List Unit) (a k:Nat) (x:Nat×Bool):D→List Hp→Prop:=fun r H'=>∃ (i:Int) (pv':Value) (a':Nat) (b':Bool) (l':List Unit),(a',b')=x∧l'.length+3*a+k≤l.length+3*a'+1∧r=dI i∧H'=[nB g pv' rt p a' b',.sl pv' 9 288 (l'.map paD)]
def zee (p:List Int) (f:Nat):Prop:=∀ (g:Nat) (pv:Value) (rt:Int) (a:Nat) (b:Bool) (l:List Unit),a≤p.length→p.length<f+a→l.length≤3*a→CD Tryz.prog 246 [nB g pv rt p a b,.sl pv 9 288 (l.map paD)] [dP g 0] (P7 g p rt l a 0 (alt7 p f a b))
section
variable {p:List Int} {a a1 a2 f n:Nat} {b b1 b2:Bool} {alt:Nat→Bool→Nat×Bool}
theorem atom7_g (h:nx p a=40) (e:(a1,b1)=alt (a+1) b):(a1+1,b1||decide (nx p a1≠41))=zbf p alt a b:=by unfold zbf;rw[if_pos h,←e]
theorem atom7_c (h:nx p a=91) (e:(a1,b1)=zc6 p (a+1) b):(a1,b1)=zbf p alt a b:=by unfold zbf;rw[if_neg (by omega),if_pos h,←e]
theorem atom7_d (h:nx p a=46):(a+1,b)=zbf p alt a b:=by unfold zbf;rw[if_neg (by omega),if_neg (by omega),if_pos h]
theorem atom7_q (h:nx p a=92):(a+1+1,b||decide (((p.length:Nat):Int)≤((a+1:Nat):Int)))=zbf p alt a b:=by unfold zbf;rw[if_neg (by omega),if_neg (by omega),if_neg (by omega),if_pos h,show decide (((p.length:Nat):Int)≤((a+1:Nat):Int))=decide (p.length≤a+1) from decide_eq_decide.2 (by omega)]
theorem atom7_y (h:nx p a=42∨nx p a=43∨nx p a=63∨nx p a=93):(a+1,true)=zbf p alt a b:=by unfold zbf;rw[if_neg (by omega),if_neg (by omega),if_neg (by omega),if_neg (by omega),decide_eq_true h,Bool.or_true]
theorem atom7_n (h:¬(nx p a=42∨nx p a=43∨nx p a=63∨nx p a=93)) (k:¬(nx p a=40∨nx p a=91∨nx p a=46∨nx p a=92)):(a+1,b)=zbf p alt a b:=by unfold zbf;rw[if_neg (by omega),if_neg (by omega),if_neg (by omega),if_neg (by omega),decide_eq_false h,Bool.or_false]
theorem again7_y (e:(a1,b1)=zbf p alt a b) (h:nx p a1=42∨nx p a1=43∨nx p a1=63):(a1+1,b1)=zbv p alt a b:=by unfold zbv;simp only;rw[←e,if_pos h]
theorem again7_n (e:(a1,b1)=zbf p alt a b) (h:¬(nx p a1=42∨nx p a1=43∨nx p a1=63)):(a1,b1)=zbv p alt a b:=by unfold zbv;simp only;rw[←e,if_neg h]
theorem behind7_stop (h:b1=true∨p.length≤a1∨nx p a1=124∨nx p a1=41):zas p alt n a1 b1=(a1,b1):=by cases n<;>unfold zas;rfl;rw[if_pos h]
theorem behind7_go (h:¬(b1=true∨p.length≤a1∨nx p a1=124∨nx p a1=41)) (e:(a2,b2)=zbv p alt a1 b1):zas p alt (n+1) a1 b1=zas p alt n a2 b2:=by
 conv=>lhs;unfold zas
 rw[if_neg h,←e]
theorem behind7_of (hf:zas p alt (p.length+1-a) a b=(a1,b1)):(a1,b1)=zaH p alt a b:=hf.symm
theorem either7_stop (h:¬(nx p a1=124∧b1=false)):zaz p alt n a1 b1=(a1,b1):=by cases n<;>unfold zaz;rfl;rw[if_neg h]
theorem either7_go (h:nx p a1=124∧b1=false) (e:(a2,b2)=zaH p alt (a1+1) b1):zaz p alt (n+1) a1 b1=zaz p alt n a2 b2:=by
 conv=>lhs;unfold zaz
 rw[if_pos h,←e]
theorem alt7_of (e:(a1,b1)=zaH p (alt7 p f) a b) (hf:zaz p (alt7 p f) (p.length+1-a1) a1 b1=(a2,b2)):(a2,b2)=alt7 p (f+1) a b:=by unfold alt7;rw[←e];exact hf.symm
theorem alt7_e (e:(a1,b1)=alt7 p f a b):a≤a1∧a1≤max a (p.length+7*f):=by have:=zeT p f a b;rw[←e] at this;exact this
theorem class7_e (e:(a1,b1)=zc6 p a b):a<a1∧a1≤max (a+1) (p.length+5)+1:=by have:=class7_b (p:=p) a b;rw[←e] at this;exact this
theorem again7_e (e:(a1,b1)=zbv p (alt7 p f) a b) (ha:a<p.length):a<a1∧a1≤p.length+7*f+7:=by have:=again7_b (zeT p f) ha (b:=b);rw[←e] at this;exact this
theorem atom7_e (e:(a1,b1)=zbf p (alt7 p f) a b) (ha:a<p.length):a<a1∧a1≤p.length+7*f+6:=by have:=atom7_b (zeT p f) ha (b:=b);rw[←e] at this;exact this
theorem behind7_e (e:(a1,b1)=zaH p (alt7 p f) a b):a≤a1∧a1≤max a (p.length+7*f+7):=by have:=behind7_b (zeT p f) a b;rw[←e] at this;exact this
end
theorem atom7_s (g:Nat) (pv:Value) (rt:Int) (p:List Int) (a:Nat) (b:Bool) (l:List Unit) (f:Nat) (ih:zee p f) (hpl:p.length≤1000) (hfl:f≤1001) (hl:l.length≤3*a+1) (ha:a<p.length) (hlf:p.length<f+1+a):
 CD Tryz.prog 260 [nB g pv rt p a b,.sl pv 9 288 (l.map paD)] [dP g 0] (P7 g p rt l a 3 (zbf p (alt7 p f) a b)):=by
 refine tZ Tryz.func260 O O (fun C=>?_)
 refine g' 8 O (tV [0] O O (.cons (ArgC.boxC (j:=0) O (ArgC.agg (.cons (ArgC.cv Cv.oany) (ga (ga (ga (ga .nil))))))) .nil) (zaF (PatD.mk () rt p a b) (by simp only;omega) (by simp only;omega)) O (gQ 9 [0] O O (tP O (zy (c:=((a+1:Nat):Int)) O O (zn (by omega) (by omega))) (gQ 18 [0] O O ?_))))
 refine tD O (fun hc1=>?_) (fun hc1=>?_)
 · skip
   refine g' 3 O (tX [0,0] O O acs (ih g pv rt (a+1) b l (zd4 (x:=40) (by decide) (by assumption)) (by omega) (by omega)) ?_)
   rintro _ _ ⟨i2,pv2,a2,b2,l2,e2,hl2,rfl,rfl⟩
   have hb2:=alt7_e e2
   refine gQ 11 [0] O O ?_
   refine tOr 5 3 (c:=decide (nx p a2≠(41:Int))) O O O O O O (fun hb3 nx4=>?_) ?_
   · skip
     refine g' 1 O (tV [0] O O (.cons (ArgC.boxC (j:=0) O (ArgC.agg (.cons (ArgC.cv Cv.oany) (ga (ga (ga (ga .nil))))))) .nil) (zaF (PatD.mk () rt p a2 b2) (by simp only;omega) (by simp only;omega)) O (g' 1 O ?_))
     exact nx4 _ O O (kx 3 O O)
   refine gQ 11 [0,0] O O (tP O (zy (c:=((a2+1:Nat):Int)) O O (zn (by omega) (by omega))) (gQ 14 [0] O O ?_))
   exact tR O (HSub.fst 2 O) ⟨_,_,_,_,_,atom7_g (by assumption) e2,(by omega),O,O⟩
 · skip
   refine g' 6 O ?_
   refine tD O (fun hc5=>?_) (fun hc5=>?_)
   · skip
     refine g' 3 O (tX [0,0] O O acs (class7_c g pv rt p (a+1) b l (by omega) (by omega) (by omega)) ?_)
     rintro _ _ ⟨i6,pv6,a6,b6,l6,e6,hl6,rfl,rfl⟩
     have hb6:=class7_e e6
     refine g' 6 O ?_
     exact tR O (HSub.fst 2 O) ⟨_,_,_,_,_,atom7_c (by assumption) e6,(by omega),O,O⟩
   · skip
     refine g' 6 O ?_
     refine tD O (fun hc7=>?_) (fun hc7=>?_)
     · skip
       refine g' 3 O (tP O (zf [0] [.const (.int .i64 2)] (zv:=(.agg #[(.int .i64 0),(.int .i32 0),(.slice none 0 0),(.slice none 0 0),(.bool false),(.int .i64 0),(.int .i64 0),(.int .i64 0),(.bool false)])) O O (.cons (CellD.v O) .nil) (Tryz.runUnderlying288) Tryz.zeroValue288 zdi ⟨O,O,O,O,O,O,O,O,O,trivial⟩ O) (tX [0,0] O O (ga (.cons (ArgC.agg (.cons (ArgC.cv (Cv.any O)) (.cons (ArgC.cv (Cv.any O)) (.cons (ArgC.cv (Cv.any O)) (.cons (ArgC.cv (Cv.any O)) (.cons (ArgC.cv (Cv.any O)) (.cons (ArgC.cv (Cv.any O)) (.cons (ArgC.cv (Cv.any O)) (.cons (ArgC.cv (Cv.any O)) (.cons (ArgC.cv (Cv.any O)) .nil)))))))))) .nil)) (zc7 g pv rt p (a+1) b l (by omega)) ?_))
       rintro _ _ ⟨i8,pv8,l8,hl8,rfl,rfl⟩
       refine g' 6 O ?_
       exact tR O (HSub.fst 2 O) ⟨_,_,_,_,_,atom7_d (by assumption),(by omega),O,O⟩
     · skip
       refine g' 6 O ?_
       refine tD O (fun hc9=>?_) (fun hc9=>?_)
       · skip
         refine g' 3 O (tV [0] O O (.cons (ArgC.boxC (j:=0) O (ArgC.agg (.cons (ArgC.cv Cv.oany) (ga (ga (ga (ga .nil))))))) .nil) (zaF (PatD.mk () rt p (a+1) b) (by simp only;omega) (by simp only;omega)) O (g' 4 O ?_))
         refine tM [(0,dP g 0),(2,dI 0),(3,.v (.int .i32 (nx p (a+1))))] [.bx g 277 (.agg [.ov pv,dI rt,.sh 1 (p.map dR),dN (a+1),dB (b||decide (((p.length:Nat):Int)≤((a+1:Nat):Int)))]),.sl pv 9 288 (l.map paD)] (fun _ hQ10=>?_) ?_
         · skip
           rcases Bool.eq_false_or_eq_true (b) with hg11 | hg11
           · skip
             refine T.keep [0,2,3] O ?_
             refine tDr 17 [(52,dP g 0,none),(53,dP g 0,none),(54,dP g 0,none),(55,dP g 4,none),(56,dB true,none),(57,dB true,none),(58,.v undef,none),(59,.v undef,none),(60,.v undef,none),(61,.v undef,none),(62,.v undef,none),(63,.v undef,none),(64,.v undef,none),(65,.v undef,none),(66,.v undef,none),(67,.v undef,none),(68,dB true,none)] [nB g pv rt p (a+1) b,.sl pv 9 288 (l.map paD)] (Hn:=[nB g pv rt p (a+1) b,.sl pv 9 288 (l.map paD)]) mixed O O O O HSub.rfl' O ⟨sa_p O O O (zi O),sa_p O O O (zi O),sa_p O O O (zB O),sa_p O O O (zm O zcz O),sa_p O O O ((zk O (i:=0) O Tryz.isAgg4 O).cv (cB ((hg11)))),sa_p O O O (zi O),sa_s O O O O O O (by decide),sa_s O O O O O O (by decide),sa_s O O O O O O (by decide),sa_s O O O O O O (by decide),sa_s O O O O O O (by decide),sa_s O O O O O O (by decide),sa_s O O O O O O (by decide),sa_s O O O O O O (by decide),sa_s O O O O O O (by decide),sa_s O O O O O O (by decide),sa_p O O O (zdt O O),trivial⟩ ?_
             refine tK O (gQ 4 [0] O O (T.norm [.bx g 277 (.agg [.ov pv,dI rt,.sh 1 (p.map dR),dN (a+1),dB (b||decide (((p.length:Nat):Int)≤((a+1:Nat):Int)))]),.sl pv 9 288 (l.map paD)] (by simp only[decide_eq_false hc1,decide_eq_false hc5,decide_eq_false hc7,decide_eq_true hc9,hg11,Bool.or_true,Bool.true_or,Bool.or_false,Bool.false_or,Bool.not_true,Bool.not_false]<;>rfl) ?_))
             exact tqe hQ10 O
           · skip
             refine T.keep [0,2,3] O ?_
             refine tDr 17 [(52,dP g 0,none),(53,dP g 0,none),(54,dP g 0,none),(55,dP g 4,none),(56,dB false,none),(57,dB false,none),(58,dP g 0,none),(59,dP g 0,none),(60,dP g 3,none),(61,dN (a+1),none),(62,dP g 0,none),(63,dP g 0,none),(64,dP g 2,none),(65,.sh 1 (p.map dR),none),(66,dN p.length,none),(67,dB (decide (((p.length:Nat):Int)≤((a+1:Nat):Int))),none),(68,dB (decide (((p.length:Nat):Int)≤((a+1:Nat):Int))),none)] [nB g pv rt p (a+1) b,.sl pv 9 288 (l.map paD)] (Hn:=[nB g pv rt p (a+1) b,.sl pv 9 288 (l.map paD)]) mixed O O O O HSub.rfl' O ⟨sa_p O O O (zi O),sa_p O O O (zi O),sa_p O O O (zB O),sa_p O O O (zm O zcz O),sa_p O O O ((zk O (i:=0) O Tryz.isAgg4 O).cv (cB ((hg11)))),sa_p O O O (zi O),zA O O O O O O (zi O).qu,zA O O O O O O (zB O).qu,zA O O O O O O (zm O zbF O).qu,zA O O O O O O (zk O (i:=0) O Tryz.isAgg3 O).qu,zA O O O O O O (zi O).qu,zA O O O O O O (zB O).qu,zA O O O O O O (zm O zbG O).qu,zA O O O O O O (zk O (i:=0) O Tryz.isAgg130 O).qu,zA O O O O O O (z8 (n:=p.length) O Tryz.runUnderlying130 (by simp only[lm,lc,ln])).qu,zA O O O O O O (zad O O O).qu,sa_p O O O (zdu O O),trivial⟩ ?_
             refine tK O (gQ 4 [0] O O (T.norm [.bx g 277 (.agg [.ov pv,dI rt,.sh 1 (p.map dR),dN (a+1),dB (b||decide (((p.length:Nat):Int)≤((a+1:Nat):Int)))]),.sl pv 9 288 (l.map paD)] (by simp only[decide_eq_false hc1,decide_eq_false hc5,decide_eq_false hc7,decide_eq_true hc9,hg11,Bool.or_true,Bool.true_or,Bool.or_false,Bool.false_or,Bool.not_true,Bool.not_false]<;>rfl) ?_))
             exact tqe hQ10 O
         · skip
           refine gQ 7 [0] O O (tP O (zy (c:=(((a+1)+1:Nat):Int)) O O (zn (by omega) (by omega))) (gQ 9 [0] O O (tP O (zf [0,1] [.const (.int .i64 1),.tmp 79] (zv:=(.agg #[(.int .i64 0),(.int .i32 0),(.slice none 0 0),(.slice none 0 0),(.bool false),(.int .i64 0),(.int .i64 0),(.int .i64 0),(.bool false)])) O O (.cons (CellD.v O) (.cons (CellD.v O) .nil)) (Tryz.runUnderlying288) Tryz.zeroValue288 zdi ⟨O,O,O,O,O,O,O,O,O,trivial⟩ O) (tX [0,0] O O (ga (.cons (ArgC.agg (.cons (ArgC.cv (Cv.any O)) (.cons (ArgC.cv (Cv.any O)) (.cons (ArgC.cv (Cv.any O)) (.cons (ArgC.cv (Cv.any O)) (.cons (ArgC.cv (Cv.any O)) (.cons (ArgC.cv (Cv.any O)) (.cons (ArgC.cv (Cv.any O)) (.cons (ArgC.cv (Cv.any O)) (.cons (ArgC.cv (Cv.any O)) .nil)))))))))) .nil)) (zc7 g pv rt p ((a+1)+1) (b||decide (((p.length:Nat):Int)≤((a+1:Nat):Int))) l (by omega)) ?_))))
           rintro _ _ ⟨i12,pv12,l12,hl12,rfl,rfl⟩
           refine g' 6 O ?_
           exact tR O (HSub.fst 2 O) ⟨_,_,_,_,_,atom7_q (by assumption),(by omega),O,O⟩
       · skip
         refine tJ (fun (jg:Bool)=>[(0,dP g 0),(2,dI 0),(3,.v (.int .i32 (nx p a)))]) (fun (jg:Bool)=>[nB g pv rt p (a+1) jg,.sl pv 9 288 (l.map paD)]) (fun (jg:Bool)=>((a+1,jg)=zbf p (alt7 p f) a b)) (fun _ hQ13=>?_) ?_
         · skip
           refine g' 7 O ?_
           refine tD O (fun hc14=>?_) (fun hc14=>?_)
           · skip
             refine g' 2 O ?_
             refine tD O (fun hc15=>?_) (fun hc15=>?_)
             · skip
               refine gQ 6 [0] O O ?_
               exact tqe (hQ13 true (atom7_y (by simp only at*;omega))) O
             · skip
               refine g' 1 O ?_
               exact tqe (hQ13 b (atom7_n (by simp only at*;omega) (by simp only at*;omega))) O
           · skip
             refine g' 6 O ?_
             refine tD O (fun hc16=>?_) (fun hc16=>?_)
             · skip
               refine g' 2 O ?_
               refine tD O (fun hc17=>?_) (fun hc17=>?_)
               · skip
                 refine gQ 6 [0] O O ?_
                 exact tqe (hQ13 true (atom7_y (by simp only at*;omega))) O
               · skip
                 refine g' 1 O ?_
                 exact tqe (hQ13 b (atom7_n (by simp only at*;omega) (by simp only at*;omega))) O
             · skip
               refine g' 6 O ?_
               refine tD O (fun hc18=>?_) (fun hc18=>?_)
               · skip
                 refine g' 2 O ?_
                 refine tD O (fun hc19=>?_) (fun hc19=>?_)
                 · skip
                   refine gQ 6 [0] O O ?_
                   exact tqe (hQ13 true (atom7_y (by simp only at*;omega))) O
                 · skip
                   refine g' 1 O ?_
                   exact tqe (hQ13 b (atom7_n (by simp only at*;omega) (by simp only at*;omega))) O
               · skip
                 refine g' 5 O ?_
                 refine tD O (fun hc20=>?_) (fun hc20=>?_)
                 · skip
                   refine gQ 6 [0] O O ?_
                   exact tqe (hQ13 true (atom7_y (by simp only at*;omega))) O
                 · skip
                   refine g' 1 O ?_
                   exact tqe (hQ13 b (atom7_n (by simp only at*;omega) (by simp only at*;omega))) O
         · skip
           rintro nb hnb
           refine g' 6 O (tP O (zf [0,1] [.const (.int .i64 1),.tmp 91] (zv:=(.agg #[(.int .i64 0),(.int .i32 0),(.slice none 0 0),(.slice none 0 0),(.bool false),(.int .i64 0),(.int .i64 0),(.int .i64 0),(.bool false)])) O O (.cons (CellD.v O) (.cons (CellD.v O) .nil)) (Tryz.runUnderlying288) Tryz.zeroValue288 zdi ⟨O,O,O,O,O,O,O,O,O,trivial⟩ O) (tX [0,0] O O (ga (.cons (ArgC.agg (.cons (ArgC.cv (Cv.any O)) (.cons (ArgC.cv (Cv.any O)) (.cons (ArgC.cv (Cv.any O)) (.cons (ArgC.cv (Cv.any O)) (.cons (ArgC.cv (Cv.any O)) (.cons (ArgC.cv (Cv.any O)) (.cons (ArgC.cv (Cv.any O)) (.cons (ArgC.cv (Cv.any O)) (.cons (ArgC.cv (Cv.any O)) .nil)))))))))) .nil)) (zc7 g pv rt p (a+1) nb l (by omega)) ?_))
           rintro _ _ ⟨i21,pv21,l21,hl21,rfl,rfl⟩
           refine g' 4 O ?_
           exact tR O (HSub.fst 2 O) ⟨_,_,_,_,_,hnb,(by omega),O,O⟩
theorem again7_s (g:Nat) (pv:Value) (rt:Int) (p:List Int) (a:Nat) (b:Bool) (l:List Unit) (f:Nat) (ih:zee p f) (hpl:p.length≤1000) (hfl:f≤1001) (hl:l.length≤3*a+1) (ha:a<p.length) (hlf:p.length<f+1+a):
 CD Tryz.prog 258 [nB g pv rt p a b,.sl pv 9 288 (l.map paD)] [dP g 0] (P7 g p rt l a 3 (zbv p (alt7 p f) a b)):=by
 refine tZ Tryz.func258 O O (fun C=>?_)
 refine g' 8 O (tX [0,0] O O acs (atom7_s g pv rt p a b l f ih (by omega) (by omega) (by omega) (by omega) (by omega)) ?_)
 rintro _ _ ⟨i1,pv1,a1,b1,l1,e1,hl1,rfl,rfl⟩
 have hb1:=atom7_e e1 (by omega)
 refine g' 7 O (tV [0] O O (.cons (ArgC.boxC (j:=0) O (ArgC.agg (.cons (ArgC.cv Cv.oany) (ga (ga (ga (ga .nil))))))) .nil) (zaF (PatD.mk () rt p a1 b1) (by simp only;omega) (by simp only;omega)) O (g' 9 O ?_))
 refine tD O (fun hc2=>?_) (fun hc2=>?_)
 · skip
   refine g' 3 O (tP O (zf [0,5] [.const (.int .i64 6),.tmp 12] (zv:=(.agg #[(.int .i64 0),(.int .i32 0),(.slice none 0 0),(.slice none 0 0),(.bool false),(.int .i64 0),(.int .i64 0),(.int .i64 0),(.bool false)])) O O (.cons (CellD.v O) (.cons (CellD.v O) .nil)) (Tryz.runUnderlying288) Tryz.zeroValue288 zdi ⟨O,O,O,O,O,O,O,O,O,trivial⟩ O) (tX [0,0] O O (ga (.cons (ArgC.agg (.cons (ArgC.cv (Cv.any O)) (.cons (ArgC.cv (Cv.any O)) (.cons (ArgC.cv (Cv.any O)) (.cons (ArgC.cv (Cv.any O)) (.cons (ArgC.cv (Cv.any O)) (.cons (ArgC.cv (Cv.any O)) (.cons (ArgC.cv (Cv.any O)) (.cons (ArgC.cv (Cv.any O)) (.cons (ArgC.cv (Cv.any O)) .nil)))))))))) .nil)) (zc7 g pv1 rt p a1 b1 l1 (by omega)) ?_))
   rintro _ _ ⟨i3,pv3,l3,hl3,rfl,rfl⟩
   refine gQ 10 [0] O O (tP O (zy (c:=((a1+1:Nat):Int)) O O (zn (by omega) (by omega))) (gQ 12 [0] O O ?_))
   exact tR O (HSub.fst 2 O) ⟨_,_,_,_,_,again7_y e1 (by simp only at*;omega),(by omega),O,O⟩
 · skip
   refine g' 6 O ?_
   refine tD O (fun hc4=>?_) (fun hc4=>?_)
   · skip
     refine g' 3 O (tP O (zf [0,5,7] [.const (.int .i64 6),.tmp 18,.const (.int .i64 1)] (zv:=(.agg #[(.int .i64 0),(.int .i32 0),(.slice none 0 0),(.slice none 0 0),(.bool false),(.int .i64 0),(.int .i64 0),(.int .i64 0),(.bool false)])) O O (.cons (CellD.v O) (.cons (CellD.v O) (.cons (CellD.v O) .nil))) (Tryz.runUnderlying288) Tryz.zeroValue288 zdi ⟨O,O,O,O,O,O,O,O,O,trivial⟩ O) (tX [0,0] O O (ga (.cons (ArgC.agg (.cons (ArgC.cv (Cv.any O)) (.cons (ArgC.cv (Cv.any O)) (.cons (ArgC.cv (Cv.any O)) (.cons (ArgC.cv (Cv.any O)) (.cons (ArgC.cv (Cv.any O)) (.cons (ArgC.cv (Cv.any O)) (.cons (ArgC.cv (Cv.any O)) (.cons (ArgC.cv (Cv.any O)) (.cons (ArgC.cv (Cv.any O)) .nil)))))))))) .nil)) (zc7 g pv1 rt p a1 b1 l1 (by omega)) ?_))
     rintro _ _ ⟨i5,pv5,l5,hl5,rfl,rfl⟩
     refine gQ 10 [0] O O (tP O (zy (c:=((a1+1:Nat):Int)) O O (zn (by omega) (by omega))) (gQ 12 [0] O O ?_))
     exact tR O (HSub.fst 2 O) ⟨_,_,_,_,_,again7_y e1 (by simp only at*;omega),(by omega),O,O⟩
   · skip
     refine g' 6 O ?_
     refine tD O (fun hc6=>?_) (fun hc6=>?_)
     · skip
       refine g' 3 O (tP O (zf [0,5,8] [.const (.int .i64 6),.tmp 24,.const (.bool true)] (zv:=(.agg #[(.int .i64 0),(.int .i32 0),(.slice none 0 0),(.slice none 0 0),(.bool false),(.int .i64 0),(.int .i64 0),(.int .i64 0),(.bool false)])) O O (.cons (CellD.v O) (.cons (CellD.v O) (.cons (CellD.v O) .nil))) (Tryz.runUnderlying288) Tryz.zeroValue288 zdi ⟨O,O,O,O,O,O,O,O,O,trivial⟩ O) (tX [0,0] O O (ga (.cons (ArgC.agg (.cons (ArgC.cv (Cv.any O)) (.cons (ArgC.cv (Cv.any O)) (.cons (ArgC.cv (Cv.any O)) (.cons (ArgC.cv (Cv.any O)) (.cons (ArgC.cv (Cv.any O)) (.cons (ArgC.cv (Cv.any O)) (.cons (ArgC.cv (Cv.any O)) (.cons (ArgC.cv (Cv.any O)) (.cons (ArgC.cv (Cv.any O)) .nil)))))))))) .nil)) (zc7 g pv1 rt p a1 b1 l1 (by omega)) ?_))
       rintro _ _ ⟨i7,pv7,l7,hl7,rfl,rfl⟩
       refine gQ 10 [0] O O (tP O (zy (c:=((a1+1:Nat):Int)) O O (zn (by omega) (by omega))) (gQ 12 [0] O O ?_))
       exact tR O (HSub.fst 2 O) ⟨_,_,_,_,_,again7_y e1 (by simp only at*;omega),(by omega),O,O⟩
     · skip
       refine g' 9 O ?_
       exact tR O (HSub.fst 2 O) ⟨_,_,_,_,_,again7_n e1 (by simp only at*;omega),(by omega),O,O⟩
theorem behind7_s (g:Nat) (pv:Value) (rt:Int) (p:List Int) (a:Nat) (b:Bool) (l:List Unit) (f:Nat) (ih:zee p f) (hpl:p.length≤1000) (hfl:f≤1001) (hl:l.length≤3*a) (ha:a≤p.length) (hlf:p.length<f+1+a):
 CD Tryz.prog 253 [nB g pv rt p a b,.sl pv 9 288 (l.map paD)] [dP g 0] (P7 g p rt l a 0 (zaH p (alt7 p f) a b)):=by
 refine tZ Tryz.func253 O O (fun C=>?_)
 refine g' 8 O (tP O (zf [] [] (zv:=(.agg #[(.int .i64 0),(.int .i32 0),(.slice none 0 0),(.slice none 0 0),(.bool false),(.int .i64 0),(.int .i64 0),(.int .i64 0),(.bool false)])) O O (.nil) (Tryz.runUnderlying288) Tryz.zeroValue288 zdi ⟨O,O,O,O,O,O,O,O,O,trivial⟩ O) (tX [0,0] O O (ga (.cons (ArgC.agg (.cons (ArgC.cv (Cv.any O)) (.cons (ArgC.cv (Cv.any O)) (.cons (ArgC.cv (Cv.any O)) (.cons (ArgC.cv (Cv.any O)) (.cons (ArgC.cv (Cv.any O)) (.cons (ArgC.cv (Cv.any O)) (.cons (ArgC.cv (Cv.any O)) (.cons (ArgC.cv (Cv.any O)) (.cons (ArgC.cv (Cv.any O)) .nil)))))))))) .nil)) (zc7 g pv rt p a b l (by omega)) ?_))
 rintro _ _ ⟨i1,pv1,l1,hl1,rfl,rfl⟩
 refine g' 5 O (tl6 (fun (a_:Nat) (b_:Nat) (c_:Bool) (d_:Value) (e_:List Unit) (f_:Int)=>[(0,dP g 0),(2,dI 0),(3,dI f_)]) (fun a_ b_ c_ d_ e_ f_=>[nB g d_ rt p b_ c_,.sl d_ 9 288 (e_.map paD)]) (fun a_ b_ c_ d_ e_ f_=>(zas p (alt7 p f) a_ b_ c_=zas p (alt7 p f) (p.length+1-a) a b)∧(p.length+1≤a_+b_)∧(e_.length+3*a≤l.length+3*b_+1)∧(a≤b_∧b_≤9000)) (fun a_ b_ c_ d_ e_ f_=>p.length-b_) (p.length+1-a) a b pv1 l1 i1 O (sa O) HSub.rfl' ⟨O,(by omega),(by omega),(by omega)⟩ ?_)
 rintro n a1 b1 pv1 l1 i1 ⟨hf,hn,hl1,ha1⟩
 refine g' 2 O (T.keep [0,2,3] O ?_)
 refine tS 33 ((((!b1&&decide (((a1:Nat):Int)<((p.length:Nat):Int)))&&decide (nx p a1≠(124:Int)))&&decide (nx p a1≠(41:Int)))) (fun _ hQ2=>?_) ?_
 · skip
   rcases Bool.eq_false_or_eq_true (b1) with hg3 | hg3
   · skip
     refine T.keep [0,2,3] O ?_
     refine tDr 15 [(7,dP g 0,none),(8,dP g 0,none),(9,dP g 4,none),(10,dB true,none),(11,dB false,none),(12,dB false,none),(13,.v undef,none),(14,.v undef,none),(15,.v undef,none),(16,.v undef,none),(17,.v undef,none),(18,.v undef,none),(19,.v undef,none),(20,.v undef,none),(21,.v undef,none)] [nB g pv1 rt p a1 b1,.sl pv1 9 288 (l1.map paD)] (Hn:=[nB g pv1 rt p a1 b1,.sl pv1 9 288 (l1.map paD)]) mixed O O O O HSub.rfl' O ⟨sa_p O O O (zi O),sa_p O O O (zB O),sa_p O O O (zm O zcz O),sa_p O O O ((zk O (i:=0) O Tryz.isAgg4 O).cv (cB ((hg3)))),sa_p O O O (ze4 (q:=true) O),sa_p O O O (zi O),sa_s O O O O O O (by decide),sa_s O O O O O O (by decide),sa_s O O O O O O (by decide),sa_s O O O O O O (by decide),sa_s O O O O O O (by decide),sa_s O O O O O O (by decide),sa_s O O O O O O (by decide),sa_s O O O O O O (by decide),sa_s O O O O O O (by decide),trivial⟩ ?_
     refine tK O (g' 13 O ?_)
     exact tQ hQ2 O O (by first | (simp[hg3];done) | (simp_all;done))
   · skip
     by_cases hg4:((a1:Nat):Int)<((p.length:Nat):Int)
     · skip
       by_cases hg5:nx p a1≠(124:Int)
       · skip
         refine T.keep [0,2,3] O ?_
         refine tDr 15 [(7,dP g 0,none),(8,dP g 0,none),(9,dP g 4,none),(10,dB false,none),(11,dB true,none),(12,dB true,none),(13,dP g 0,none),(14,dP g 0,none),(15,dP g 3,none),(16,dN a1,none),(17,dP g 0,none),(18,dP g 0,none),(19,dP g 2,none),(20,.sh 1 (p.map dR),none),(21,dN p.length,none)] [nB g pv1 rt p a1 b1,.sl pv1 9 288 (l1.map paD)] (Hn:=[nB g pv1 rt p a1 b1,.sl pv1 9 288 (l1.map paD)]) mixed O O O O HSub.rfl' O ⟨sa_p O O O (zi O),sa_p O O O (zB O),sa_p O O O (zm O zcz O),sa_p O O O ((zk O (i:=0) O Tryz.isAgg4 O).cv (cB ((hg3)))),sa_p O O O (ze4 (q:=false) O),sa_p O O O (zi O),zA O O O O O O (zi O).qu,zA O O O O O O (zB O).qu,zA O O O O O O (zm O zbF O).qu,zA O O O O O O (zk O (i:=0) O Tryz.isAgg3 O).qu,zA O O O O O O (zi O).qu,zA O O O O O O (zB O).qu,zA O O O O O O (zm O zbG O).qu,zA O O O O O O (zk O (i:=0) O Tryz.isAgg130 O).qu,zA O O O O O O (z8 (n:=p.length) O Tryz.runUnderlying130 (by simp only[lm,lc,ln])).qu,trivial⟩ ?_
         refine tK O (tG O (za5 O O (decide_eq_true hg4)) (g' 3 O (tV [0] O O (.cons (ArgC.boxC (j:=0) O (ArgC.agg (.cons (ArgC.cv Cv.oany) (ga (ga (ga (ga .nil))))))) .nil) (zaF (PatD.mk () rt p a1 b1) (by simp only;omega) (by simp only;omega)) O (tG O (zdT O O (decide_eq_true hg5)) (g' 3 O (tV [0] O O (.cons (ArgC.boxC (j:=0) O (ArgC.agg (.cons (ArgC.cv Cv.oany) (ga (ga (ga (ga .nil))))))) .nil) (zaF (PatD.mk () rt p a1 b1) (by simp only;omega) (by simp only;omega)) O (g' 3 O ?_)))))))
         exact tQ hQ2 O O (by first | (simp[hg3,hg4,hg5];done) | (simp_all;done))
       · skip
         refine T.keep [0,2,3] O ?_
         refine tDr 15 [(7,dP g 0,none),(8,dP g 0,none),(9,dP g 4,none),(10,dB false,none),(11,dB true,none),(12,dB true,none),(13,dP g 0,none),(14,dP g 0,none),(15,dP g 3,none),(16,dN a1,none),(17,dP g 0,none),(18,dP g 0,none),(19,dP g 2,none),(20,.sh 1 (p.map dR),none),(21,dN p.length,none)] [nB g pv1 rt p a1 b1,.sl pv1 9 288 (l1.map paD)] (Hn:=[nB g pv1 rt p a1 b1,.sl pv1 9 288 (l1.map paD)]) mixed O O O O HSub.rfl' O ⟨sa_p O O O (zi O),sa_p O O O (zB O),sa_p O O O (zm O zcz O),sa_p O O O ((zk O (i:=0) O Tryz.isAgg4 O).cv (cB ((hg3)))),sa_p O O O (ze4 (q:=false) O),sa_p O O O (zi O),zA O O O O O O (zi O).qu,zA O O O O O O (zB O).qu,zA O O O O O O (zm O zbF O).qu,zA O O O O O O (zk O (i:=0) O Tryz.isAgg3 O).qu,zA O O O O O O (zi O).qu,zA O O O O O O (zB O).qu,zA O O O O O O (zm O zbG O).qu,zA O O O O O O (zk O (i:=0) O Tryz.isAgg130 O).qu,zA O O O O O O (z8 (n:=p.length) O Tryz.runUnderlying130 (by simp only[lm,lc,ln])).qu,trivial⟩ ?_
         refine tK O (tG O (za5 O O (decide_eq_true hg4)) (g' 3 O (tV [0] O O (.cons (ArgC.boxC (j:=0) O (ArgC.agg (.cons (ArgC.cv Cv.oany) (ga (ga (ga (ga .nil))))))) .nil) (zaF (PatD.mk () rt p a1 b1) (by simp only;omega) (by simp only;omega)) O (tG O (zdT O O (decide_eq_false hg5)) (g' 7 O ?_)))))
         exact tQ hQ2 O O (by first | (simp[hg3,hg4,hg5];done) | (simp_all;done))
     · skip
       refine T.keep [0,2,3] O ?_
       refine tDr 15 [(7,dP g 0,none),(8,dP g 0,none),(9,dP g 4,none),(10,dB false,none),(11,dB true,none),(12,dB true,none),(13,dP g 0,none),(14,dP g 0,none),(15,dP g 3,none),(16,dN a1,none),(17,dP g 0,none),(18,dP g 0,none),(19,dP g 2,none),(20,.sh 1 (p.map dR),none),(21,dN p.length,none)] [nB g pv1 rt p a1 b1,.sl pv1 9 288 (l1.map paD)] (Hn:=[nB g pv1 rt p a1 b1,.sl pv1 9 288 (l1.map paD)]) mixed O O O O HSub.rfl' O ⟨sa_p O O O (zi O),sa_p O O O (zB O),sa_p O O O (zm O zcz O),sa_p O O O ((zk O (i:=0) O Tryz.isAgg4 O).cv (cB ((hg3)))),sa_p O O O (ze4 (q:=false) O),sa_p O O O (zi O),zA O O O O O O (zi O).qu,zA O O O O O O (zB O).qu,zA O O O O O O (zm O zbF O).qu,zA O O O O O O (zk O (i:=0) O Tryz.isAgg3 O).qu,zA O O O O O O (zi O).qu,zA O O O O O O (zB O).qu,zA O O O O O O (zm O zbG O).qu,zA O O O O O O (zk O (i:=0) O Tryz.isAgg130 O).qu,zA O O O O O O (z8 (n:=p.length) O Tryz.runUnderlying130 (by simp only[lm,lc,ln])).qu,trivial⟩ ?_
       refine tK O (tG O (za5 O O (decide_eq_false hg4)) (g' 12 O ?_))
       exact tQ hQ2 O O (by first | (simp[hg3,hg4];done) | (simp_all;done))
 · skip
   refine g' 1 O ?_
   refine tC O (fun hc6=>?_) (fun hc6=>?_)
   · simp only[bX,bJ] at hc6
     have hst:¬(b1=true∨p.length≤a1∨nx p a1=124∨nx p a1=41):=by have h:=hc6;rintro (k | k);(rw[k] at h;exact absurd h.1.1.1 (by decide));omega
     obtain ⟨n,rfl⟩:∃ k,n=k+1:=⟨n-1,by omega⟩
     refine g' 7 O (tX [0,0] O O acs (again7_s g pv1 rt p a1 b1 l1 f ih (by omega) (by omega) (by omega) (by omega) (by omega)) ?_)
     rintro _ _ ⟨i7,pv7,a7,b7,l7,e7,hl7,rfl,rfl⟩
     have hb7:=again7_e e7 (by omega)
     refine tP O (zf [0,5,6] [.const (.int .i64 4),.tmp 35,.tmp 37] (zv:=(.agg #[(.int .i64 0),(.int .i32 0),(.slice none 0 0),(.slice none 0 0),(.bool false),(.int .i64 0),(.int .i64 0),(.int .i64 0),(.bool false)])) O O (.cons (CellD.v O) (.cons (CellD.v O) (.cons (CellD.v O) .nil))) (Tryz.runUnderlying288) Tryz.zeroValue288 zdi ⟨O,O,O,O,O,O,O,O,O,trivial⟩ O) (tX [0,0] O O (ga (.cons (ArgC.agg (.cons (ArgC.cv (Cv.any O)) (.cons (ArgC.cv (Cv.any O)) (.cons (ArgC.cv (Cv.any O)) (.cons (ArgC.cv (Cv.any O)) (.cons (ArgC.cv (Cv.any O)) (.cons (ArgC.cv (Cv.any O)) (.cons (ArgC.cv (Cv.any O)) (.cons (ArgC.cv (Cv.any O)) (.cons (ArgC.cv (Cv.any O)) .nil)))))))))) .nil)) (zc7 g pv7 rt p a7 b7 l7 (by omega)) ?_)
     rintro _ _ ⟨i8,pv8,l8,hl8,rfl,rfl⟩
     refine g' 3 O ?_
     exact tp6 n a7 b7 pv8 l8 i8 (sa O) HSub.rfl' ⟨(behind7_go hst e7).symm.trans hf,by omega,by omega,by omega⟩ (by omega)
   · simp only[bX,bJ] at hc6
     have hff:=hf.symm.trans (behind7_stop (by have h:=hc6;cases hb:b1;right;simp[hb] at h;omega;exact .inl O))
     refine g' 12 O ?_
     exact tR O (HSub.fst 2 O) ⟨_,_,_,_,_,behind7_of hff,(by omega),O,O⟩
theorem either7_s (g:Nat) (pv:Value) (rt:Int) (p:List Int) (a:Nat) (b:Bool) (l:List Unit) (f:Nat) (ih:zee p f) (hpl:p.length≤1000) (hfl:f≤1001) (hl:l.length≤3*a) (ha:a≤p.length) (hlf:p.length<f+1+a):
 CD Tryz.prog 246 [nB g pv rt p a b,.sl pv 9 288 (l.map paD)] [dP g 0] (P7 g p rt l a 0 (alt7 p (f+1) a b)):=by
 refine tZ Tryz.func246 O O (fun C=>?_)
 refine g' 8 O (tX [0,0] O O acs (behind7_s g pv rt p a b l f ih (by omega) (by omega) (by omega) (by omega) (by omega)) ?_)
 rintro _ _ ⟨i1,pv1,a1,b1,l1,e1,hl1,rfl,rfl⟩
 have hb1:=behind7_e e1
 refine g' 5 O (tl6 (fun (a_:Nat) (b_:Nat) (c_:Bool) (d_:Value) (e_:List Unit) (f_:Int)=>[(0,dP g 0),(2,dI 0),(3,dI f_)]) (fun a_ b_ c_ d_ e_ f_=>[nB g d_ rt p b_ c_,.sl d_ 9 288 (e_.map paD)]) (fun a_ b_ c_ d_ e_ f_=>(zaz p (alt7 p f) a_ b_ c_=zaz p (alt7 p f) (p.length+1-a1) a1 b1)∧(p.length+1≤a_+b_)∧(e_.length+3*a≤l.length+3*b_+1)∧(a≤b_∧b_≤9000)) (fun a_ b_ c_ d_ e_ f_=>p.length-b_) (p.length+1-a1) a1 b1 pv1 l1 i1 O (sa O) HSub.rfl' ⟨O,(by omega),(by omega),(by omega)⟩ ?_)
 rintro n a1 b1 pv1 l1 i1 ⟨hf,hn,hl1,ha1⟩
 refine g' 4 O (tV [0] O O (.cons (ArgC.boxC (j:=0) O (ArgC.agg (.cons (ArgC.cv Cv.oany) (ga (ga (ga (ga .nil))))))) .nil) (zaF (PatD.mk () rt p a1 b1) (by simp only;omega) (by simp only;omega)) O (g' 2 O ?_))
 refine tAnd 3 5 (c:=!b1) O O O O O O (fun hb2 nx3=>?_) ?_
 · skip
   have hf4:=of_decide_eq_true hb2
   refine gQ 5 [0] O O ?_
   exact nx3 _ O O (kx 5 O O)
 refine g' 2 O ?_
 refine tC O (fun hc5=>?_) (fun hc5=>?_)
 · simp only[bX,bJ] at hc5
   have hst:nx p a1=124∧b1=false:=by have h:=hc5;exact⟨h.1,by simpa using h.2⟩
   have hnl:=zd4 (x:=124) (by decide) hst.1
   obtain ⟨n,rfl⟩:∃ k,n=k+1:=⟨n-1,by omega⟩
   refine gQ 9 [0] O O (tP O (zy (c:=((a1+1:Nat):Int)) O O (zn (by omega) (by omega))) (gQ 9 [0] O O (tX [0,0] O O acs (behind7_s g pv1 rt p (a1+1) b1 l1 f ih (by omega) (by omega) (by omega) (by omega) (by omega)) ?_)))
   rintro _ _ ⟨i6,pv6,a6,b6,l6,e6,hl6,rfl,rfl⟩
   have hb6:=behind7_e e6
   refine tP O (zf [0,5,6] [.const (.int .i64 5),.tmp 24,.tmp 26] (zv:=(.agg #[(.int .i64 0),(.int .i32 0),(.slice none 0 0),(.slice none 0 0),(.bool false),(.int .i64 0),(.int .i64 0),(.int .i64 0),(.bool false)])) O O (.cons (CellD.v O) (.cons (CellD.v O) (.cons (CellD.v O) .nil))) (Tryz.runUnderlying288) Tryz.zeroValue288 zdi ⟨O,O,O,O,O,O,O,O,O,trivial⟩ O) (tX [0,0] O O (ga (.cons (ArgC.agg (.cons (ArgC.cv (Cv.any O)) (.cons (ArgC.cv (Cv.any O)) (.cons (ArgC.cv (Cv.any O)) (.cons (ArgC.cv (Cv.any O)) (.cons (ArgC.cv (Cv.any O)) (.cons (ArgC.cv (Cv.any O)) (.cons (ArgC.cv (Cv.any O)) (.cons (ArgC.cv (Cv.any O)) (.cons (ArgC.cv (Cv.any O)) .nil)))))))))) .nil)) (zc7 g pv6 rt p a6 b6 l6 (by omega)) ?_)
   rintro _ _ ⟨i7,pv7,l7,hl7,rfl,rfl⟩
   refine g' 3 O ?_
   exact tp6 n a6 b6 pv7 l7 i7 (sa O) HSub.rfl' ⟨(either7_go hst e6).symm.trans hf,by omega,by omega,by omega⟩ (by omega)
 · simp only[bX,bJ] at hc5
   have hff:=hf.symm.trans (either7_stop (by have h:=hc5;intro k;rcases h with q | q;exact q k.1;rw[k.2] at q;cases q))
   refine g' 12 O ?_
   exact tR O (HSub.fst 2 O) ⟨_,_,_,_,_,alt7_of e1 hff,(by omega),O,O⟩
theorem eitherOk (p:List Int) (hpl:p.length≤1000):∀ f:Nat,f≤1001→zee p f
 | 0=>fun _ g pv rt a b l h1 h2=>absurd h1 (by omega)
 | f+1=>fun hf g pv rt a b l h1 h2 h3=>either7_s g pv rt p a b l f (eitherOk p hpl f (by omega)) hpl (by omega) h3 h1 (by omega)
end Lp
set_option linter.unusedSimpArgs false
set_option linter.unusedVariables false
set_option maxHeartbeats 4000000
set_option maxRecDepth 100000
namespace Lp
open Go Go.RowKit Go.Proofs
theorem bd_277:BdP Tryz.prog #[⟨"parts",275,0,false, "", "leporello/leporelloref1",0⟩,⟨"Root",3,1,false, "", "",24⟩,⟨"p",130,2,false, "", "leporello/leporelloref1",32⟩,⟨"at",3,3,false, "", "leporello/leporelloref1",56⟩,⟨"bad",4,4,false, "", "leporello/leporelloref1",64⟩] [(0,1),(1,1),(2,1),(3,1),(4,1)]:=fun _=>by kernel_rfl
theorem eqp_262_neq (x y:Operand) (a:Addr) (w:World):(do eqGuard .neq 262 x y (.pointer (some a)) (.pointer none);binOp .neq 262 (.pointer (some a)) (.pointer none):Sem Value).run Tryz.prog w=.ok (.bool true) w:=by kernel_rfl
theorem runes_nn (s:ByteArray):∀ c∈zo s,0≤c:=by
 have key:∀ (n p:Nat),s.size-p=n→∀ c∈zao s p,0≤c:=by
  intro n
  induction n using Nat.strongRecOn with
  | _ n ih=>
   intro p hn
   by_cases hp:p<s.size
   · have hw:=zp s p
     rw[zX hp]
     intro c hc
     rcases List.mem_cons.1 hc with rfl | hc
     · have:=za9 s p;omega
     · exact ih (s.size-(p+decW s p)) (by omega) _ O c hc
   · rw[zaf (by omega)];intro c hc;cases hc
 exact key _ 0 O
theorem comp7_y {s:ByteArray} {a:Nat} {b:Bool} (e:(a,b)=alt7 (zo s) ((zo s).length+1) 0 false) (h40:(zo s).length≤40) (h:b=true∨a<(zo s).length):(none:Option Nat).isSome=patR (zo s):=by
 rw[←pat_7 (runes_nn s) h40];unfold pat7;rw[←e]
 rcases h with h | h
 · rw[h];rfl
 · rw[decide_eq_false (by omega:¬(zo s).length≤a)];simp
theorem comp7_n {s:ByteArray} {a g:Nat} {b:Bool} (e:(a,b)=alt7 (zo s) ((zo s).length+1) 0 false) (h40:(zo s).length≤40) (h:b=false∧(zo s).length≤a):(some g).isSome=patR (zo s):=by
 rw[←pat_7 (runes_nn s) h40];unfold pat7;rw[←e,h.1,decide_eq_true h.2];rfl
theorem compile7_c (s:ByteArray) (hs:s.size≤1000000) (h40:(zo s).length≤40):
 CD Tryz.prog 236 [] [.s s] (fun r H'=>∃ q:Option Nat,q.isSome=patR (zo s)∧r=.v (.pointer (q.map fun g=>⟨g,0,none⟩))∧H'=[]):=by
 refine tZ Tryz.func236 O O (fun C=>?_)
 refine T.bd 0 O (fun bd0=>?_)
 have sz0:s.size≤9223372036854775807:=bd0
 refine g' 8 O (tX [] O O acs (zcl s (by omega)) ?_)
 rintro _ _ ⟨v1,rfl,rfl⟩
 refine tP O (zf [2] [.tmp 5] (zv:=(.agg #[(.slice none 0 0),(.int .i64 0),(.slice none 0 0),(.int .i64 0),(.bool false)])) O O (.cons CellD.o .nil) (Tryz.runUnderlying277) Tryz.zeroValue277 bd_277 ⟨O,O,O,O,O,trivial⟩ O) ?_
 refine tA O (fun g2=>?_)
 refine g' 4 O (T.mv (Mv.subH (HSub.perm (perm_front (i:=1) O))) (T.mv (Mv.freeze (K':=[(0,.s s),(2,.v (.pointer none)),(3,dP g2 0),(4,.s s),(5,.sh 1 ((zo s).map dR)),(6,.agg [dZ,dI 0,.sh 1 ((zo s).map dR),dI 0,dB false]),(7,dP g2 0)]) [.sl v1 1 21 ((zo s).map dR)] (H1:=[.bx g2 277 (.agg [dZ,dI 0,.ov v1,dI 0,dB false])]) (H1':=[.bx g2 277 (.agg [dZ,dI 0,.sh 1 ((zo s).map dR),dI 0,dB false])]) ⟨⟨_,O,ArgC.id⟩,⟨_,O,ArgC.id⟩,⟨_,O,ArgC.id⟩,⟨_,O,ArgC.id⟩,⟨_,O,ArgC.own (j:=0) O O⟩,⟨_,O,ArgC.agg (ga (ga (.cons (ArgC.own (j:=0) O O) (ga (ga .nil)))))⟩,⟨_,O,ArgC.id⟩,trivial⟩ (.bx (ArgC.agg (ga (ga (.cons (ArgC.own (j:=0) O O) (ga (ga .nil)))))) .nil)) (T.subH (HSub.nil 9 288) (T.front 1 O ?_))))
 refine T.subH (HSub.turn (h':=.bx g2 277 (.agg [.ov (.slice none 0 0),dI 0,.sh 1 ((zo s).map dR),dI 0,dB false])) O (Hp.cv_bx (Cv.agg (.cons (Cv.ov O) (gc (gc (gc (gc .nil)))))))) (g' 3 O (tX [0,0] O O acs (eitherOk (zo s) (by omega) ((zo s).length+1) (by omega) g2 (.slice none 0 0) 0 0 false [] (Nat.zero_le _) (by omega) (Nat.zero_le _)) ?_))
 rintro _ _ ⟨i3,pv3,a3,b3,l3,e3,hl3,rfl,rfl⟩
 refine gQ 7 [0] O O (T.keep [2,3] O ?_)
 refine tS 28 ((b3||decide (((a3:Nat):Int)<(((zo s).length:Nat):Int)))) (fun _ hQ4=>?_) ?_
 · skip
   rcases Bool.eq_false_or_eq_true (b3) with hg5 | hg5
   · skip
     refine T.keep [2,3] O ?_
     refine tDr 14 [(13,dP g2 0,none),(14,dP g2 0,none),(15,dP g2 4,none),(16,dB true,none),(17,dB true,none),(18,.v undef,none),(19,.v undef,none),(20,.v undef,none),(21,.v undef,none),(22,.v undef,none),(23,.v undef,none),(24,.v undef,none),(25,.v undef,none),(26,.v undef,none)] [nB g2 pv3 i3 (zo s) a3 b3,.sl pv3 9 288 (l3.map paD)] (Hn:=[nB g2 pv3 i3 (zo s) a3 b3,.sl pv3 9 288 (l3.map paD)]) mixed O O O O HSub.rfl' O ⟨sa_p O O O (zi O),sa_p O O O (zB O),sa_p O O O (zm O zcz O),sa_p O O O ((zk O (i:=0) O Tryz.isAgg4 O).cv (cB ((hg5)))),sa_p O O O (zi O),sa_s O O O O O O (by decide),sa_s O O O O O O (by decide),sa_s O O O O O O (by decide),sa_s O O O O O O (by decide),sa_s O O O O O O (by decide),sa_s O O O O O O (by decide),sa_s O O O O O O (by decide),sa_s O O O O O O (by decide),sa_s O O O O O O (by decide),trivial⟩ ?_
     refine tK O (g' 3 O ?_)
     exact tQ hQ4 O O (by first | (simp[hg5];done) | (simp_all;done))
   · skip
     refine T.keep [2,3] O ?_
     refine tDr 14 [(13,dP g2 0,none),(14,dP g2 0,none),(15,dP g2 4,none),(16,dB false,none),(17,dB false,none),(18,dP g2 0,none),(19,dP g2 0,none),(20,dP g2 3,none),(21,dN a3,none),(22,dP g2 0,none),(23,dP g2 0,none),(24,dP g2 2,none),(25,.sh 1 ((zo s).map dR),none),(26,dN ((zo s).length),none)] [nB g2 pv3 i3 (zo s) a3 b3,.sl pv3 9 288 (l3.map paD)] (Hn:=[nB g2 pv3 i3 (zo s) a3 b3,.sl pv3 9 288 (l3.map paD)]) mixed O O O O HSub.rfl' O ⟨sa_p O O O (zi O),sa_p O O O (zB O),sa_p O O O (zm O zcz O),sa_p O O O ((zk O (i:=0) O Tryz.isAgg4 O).cv (cB ((hg5)))),sa_p O O O (zi O),zA O O O O O O (zi O).qu,zA O O O O O O (zB O).qu,zA O O O O O O (zm O zbF O).qu,zA O O O O O O (zk O (i:=0) O Tryz.isAgg3 O).qu,zA O O O O O O (zi O).qu,zA O O O O O O (zB O).qu,zA O O O O O O (zm O zbG O).qu,zA O O O O O O (zk O (i:=0) O Tryz.isAgg130 O).qu,zA O O O O O O (z8 (n:=(zo s).length) O Tryz.runUnderlying130 (by simp only[lm,lc,ln])).qu,trivial⟩ ?_
     refine tK O (g' 3 O ?_)
     exact tQ hQ4 O O (by first | (simp[hg5];done) | (simp_all;done))
 · skip
   refine g' 1 O ?_
   refine tC O (fun hc6=>?_) (fun hc6=>?_)
   · simp only[bX,bJ] at hc6
     have hcm:=comp7_y e3 h40 (by have h:=hc6;rcases h with h | h;exact .inl h;exact .inr (by omega))
     refine g' 7 O ?_
     exact tR O HSub.none ⟨_,hcm,O,O⟩
   · simp only[bX,bJ] at hc6
     have hcm:=comp7_n (g:=g2) e3 h40 (by have h:=hc6;exact⟨h.1,by omega⟩)
     refine g' 9 O ?_
     exact tR O HSub.none ⟨_,hcm,O,O⟩
theorem compile7_t {s:ByteArray} (hp:patR (zo s)=true) (hs:s.size≤1000000) (h40:(zo s).length≤40):CD Tryz.prog 236 [] [.s s] (fun r H'=>∃ g:Nat,r=dP g 0∧H'=[]):=CD.to (compile7_c s hs h40) (by
 rintro r H' ⟨q,h,rfl,rfl⟩
 cases q with
 | none=>rw[hp] at h;cases h
 | some g=>exact⟨g,rfl,rfl⟩)
theorem compile7_f {s:ByteArray} (hp:patR (zo s)=false) (hs:s.size≤1000000) (h40:(zo s).length≤40):CD Tryz.prog 236 [] [.s s] (fun r H'=>r=.v (.pointer none)∧H'=[]):=CD.to (compile7_c s hs h40) (by
 rintro r H' ⟨q,h,rfl,rfl⟩
 cases q with
 | none=>exact⟨rfl,rfl⟩
 | some g=>rw[hp] at h;cases h)
theorem patR_40 {l:List Int} (h:patR l=true):l.length≤40:=by unfold patR at h;simp only[Bool.and_eq_true,decide_eq_true_eq] at h;exact h.1.1
theorem matcher7_c (m:MatD) (hn:m.n.size≤1000000) (hv:m.v.size≤1000000):
 CD Tryz.prog 226 [] [MatD.d m] (isR (dB (zbs m))):=by
 refine tZ Tryz.func226 O O (fun C=>?_)
 refine T.bd 0 O (fun bd0=>?_)
 refine g' 2 O ?_
 refine tA O (fun g1=>?_)
 refine gQ 8 [0] O O (tW O acs (refName_c m.n (by omega)) (g' 2 O ?_))
 refine tOr 4 3 (c:=decide (m.op<(1:Int))) O O O O O O (fun hb2 nx3=>?_) ?_
 · skip
   have hf4:=notF hb2
   refine gQ 3 [0] O O ?_
   exact nx3 _ O O (kx 3 O O)
 refine g' 1 O ?_
 refine tOr 9 3 (c:=decide ((4:Int)<m.op)) O O O O O O (fun hb5 nx6=>?_) ?_
 · skip
   obtain ⟨hf7,hf8⟩:=orF hb5
   have hf9:=notF hf7
   have hf10:=of_decide_eq_false hf8
   refine gQ 3 [0] O O ?_
   exact nx6 _ O O (kx 3 O O)
 refine g' 2 O ?_
 refine tC O (fun hc11=>?_) (fun hc11=>?_)
 · simp only[bX,bJ] at hc11
   have hrd:false=zbs m:=by unfold zbs;have h:=hc11;rcases h with (h | h) | h;(rw[h];rfl);(rw[decide_eq_false (by omega:¬(1≤m.op∧m.op≤4))];simp);(rw[decide_eq_false (by omega:¬(1≤m.op∧m.op≤4))];simp)
   refine g' 7 O ?_
   exact tRs O Tryz.results226 (.cons (zd (zc O) (cB ((by exact hrd)))) .nil) O HSub.none ⟨O,O⟩
 · simp only[bX,bJ] at hc11
   have hgd:zbN m.n=true∧(1≤m.op∧m.op≤4):=by have h:=hc11;exact⟨h.1.1,by omega⟩
   refine g' 3 O ?_
   cases hpt:patR (zo m.v)
   · skip
     refine tS 2 ((decide (m.op<(3:Int))||(decide ((((zo m.v).length:Nat):Int)≤(40:Int))&&false))) (fun _ hQ12=>?_) ?_
     · skip
       by_cases hg13:m.op<(3:Int)
       · skip
         refine gQ 3 [0] O O (tP O (za5 O O (decide_eq_true hg13)) (g' 15 O ?_))
         exact tQ hQ12 O O (by first | (simp[hg13];done) | (simp_all;done))
       · skip
         by_cases hg14:(((zo m.v).length:Nat):Int)≤(40:Int)
         · skip
           refine gQ 3 [0] O O (tP O (za5 O O (decide_eq_false hg13)) (gQ 3 [0] O O (tX [] O O acs (zcl m.v (by omega)) ?_)))
           rintro _ _ ⟨v15,rfl,rfl⟩
           refine tG O (zV (n:=(zo m.v).length) (j:=0) O O Tryz.runUnderlying130 (List.length_map _)) (tG O (zaY O O (decide_eq_true hg14)) (gQ 3 [1] O O (tW O acs (compile7_f hpt (by omega) (by omega)) (tG O (zdU (r:=.bool false) O O (fun _=>by kernel_rfl)) (g' 4 O (T.subH (HSub.lst 1 O) ?_))))))
           exact tQ hQ12 O O (by first | (simp[hg13,hg14];done) | (simp_all;done))
         · skip
           refine gQ 3 [0] O O (tP O (za5 O O (decide_eq_false hg13)) (gQ 3 [0] O O (tX [] O O acs (zcl m.v (by omega)) ?_)))
           rintro _ _ ⟨v16,rfl,rfl⟩
           refine tG O (zV (n:=(zo m.v).length) (j:=0) O O Tryz.runUnderlying130 (List.length_map _)) (tG O (zaY O O (decide_eq_false hg14)) (g' 9 O (T.subH (HSub.lst 1 O) ?_)))
           exact tQ hQ12 O O (by first | (simp[hg13,hg14];done) | (simp_all;done))
     · skip
       refine g' 2 O ?_
       exact tRs O Tryz.results226 (.cons (zd (zc O) (cB ((by unfold zbs;rw[hgd.1,decide_eq_true hgd.2,hpt];simp;done)))) .nil) O HSub.none ⟨O,O⟩
   · skip
     refine tS 2 ((decide (m.op<(3:Int))||decide ((((zo m.v).length:Nat):Int)≤(40:Int)))) (fun _ hQ18=>?_) ?_
     · skip
       by_cases hg19:m.op<(3:Int)
       · skip
         refine gQ 3 [0] O O (tP O (za5 O O (decide_eq_true hg19)) (g' 15 O ?_))
         exact tQ hQ18 O O (by first | (simp[hg19];done) | (simp_all;done))
       · skip
         by_cases hg20:(((zo m.v).length:Nat):Int)≤(40:Int)
         · skip
           refine gQ 3 [0] O O (tP O (za5 O O (decide_eq_false hg19)) (gQ 3 [0] O O (tX [] O O acs (zcl m.v (by omega)) ?_)))
           rintro _ _ ⟨v21,rfl,rfl⟩
           refine tG O (zV (n:=(zo m.v).length) (j:=0) O O Tryz.runUnderlying130 (List.length_map _)) (tG O (zaY O O (decide_eq_true hg20)) (gQ 3 [1] O O (tX [] O O acs (compile7_t hpt (by omega) (by omega)) ?_)))
           rintro _ _ ⟨gq22,rfl,rfl⟩
           refine tG O (zdU (r:=.bool true) O O (eqp_262_neq _ _ _)) (g' 4 O (T.subH (HSub.lst 1 O) ?_))
           exact tQ hQ18 O O (by first | (simp[hg19,hg20];done) | (simp_all;done))
         · skip
           refine gQ 3 [0] O O (tP O (za5 O O (decide_eq_false hg19)) (gQ 3 [0] O O (tX [] O O acs (zcl m.v (by omega)) ?_)))
           rintro _ _ ⟨v23,rfl,rfl⟩
           refine tG O (zV (n:=(zo m.v).length) (j:=0) O O Tryz.runUnderlying130 (List.length_map _)) (tG O (zaY O O (decide_eq_false hg20)) (g' 9 O (T.subH (HSub.lst 1 O) ?_)))
           exact tQ hQ18 O O (by first | (simp[hg19,hg20];done) | (simp_all;done))
     · skip
       refine g' 2 O ?_
       exact tRs O Tryz.results226 (.cons (zd (zc O) (cB ((by unfold zbs;rw[hgd.1,decide_eq_true hgd.2,hpt];simp;have:=patR_40 hpt;omega)))) .nil) O HSub.none ⟨O,O⟩
theorem matchers7_c (m:List MatD) (hl:m.length≤2000000) (hm:∀ x∈m,x.n.size≤1000∧x.v.size≤1000):
 CD Tryz.prog 208 [] [.sh 3 (m.map MatD.d)] (isR (dB (rmD m))):=by
 refine tZ Tryz.func208 O O (fun C=>?_)
 refine T.bd 0 O (fun bd0=>?_)
 have nl0:=zbK bd0
 refine g' 12 O (tl1 (fun (a_:Nat)=>[(0,.sh 3 (m.map MatD.d)),(3,dN a_)]) (fun a_=>[]) (fun a_=>(a_≤m.length)∧((m.take a_).all zbs=true)) (fun a_=>m.length-a_) 0 O (sa O) HSub.rfl' ⟨Nat.zero_le _,O⟩ ?_)
 rintro k ⟨hk,ho⟩
 refine g' 5 O (tP O (z8 (n:=m.length) O Tryz.runUnderlying24 (by simp only[lm,lc,ln])) (g' 3 O ?_))
 refine tD O (fun hc1=>?_) (fun hc1=>?_)
 · skip
   refine g' 8 O ?_
   obtain ⟨x1,hx1⟩:=zN m k (by omega)
   have hmx:=hm x1 (List.mem_of_getElem? hx1)
   refine tP O (zr (k:=k) O O Tryz.runUnderlying24 Tryz.sizeOf65 (by first | rfl | omega) (zI hx1)) (g' 1 O (tW O acs (matcher7_c x1 (by omega) (by omega)) (g' 3 O ?_)))
   refine tC O (fun hc2=>?_) (fun hc2=>?_)
   · simp only[bX,bJ] at hc2
     refine g' 11 O ?_
     exact tRs O Tryz.results208 (.cons (zd (zc O) (cB ((by exact rm_bad hx1 (by simpa using hc2))))) .nil) O HSub.none ⟨O,O⟩
   · simp only[bX,bJ] at hc2
     refine g' 5 O (tP O (zy (c:=((k+1:Nat):Int)) O O (zn (by omega) (by omega))) (g' 2 O ?_))
     exact tp1 (k+1) (sa O) HSub.rfl' ⟨by omega,by rw[zbZ hx1,List.all_append,ho];simpa using hc2⟩ (by omega)
 · skip
   refine g' 8 O (tP O (z8 (n:=m.length) O Tryz.runUnderlying24 (by simp only[lm,lc,ln])) (g' 5 O ?_))
   exact tRs O Tryz.results208 (.cons (zd (zc O) (cB ((by exact rm_end ho (by omega))))) .nil) O HSub.none ⟨O,O⟩
end Lp
set_option linter.unusedVariables false
namespace Lp
open Go
section
variable {s:Rd} {k:Int} {ts:List ByteArray} {x:ByteArray}
theorem take_b:(s.take k ts).2.2.b=s.b:=by unfold Rd.take;split<;>rfl
theorem zaM (h:s.b=true):(s.must x).b=true:=by unfold Rd.must;simp only[take_b,h,Bool.true_or]
theorem zcD (h:s.b=true):(s.any k).2.b=true:=by unfold Rd.any;rw[if_pos (.inl h)]
theorem zcn (h:s.b=true):s.node.b=true:=by unfold Rd.node;simp only[h,Bool.true_or]
theorem zb5 (h:s.b=true):s.take k ts=(ByteArray.empty,false,s):=za7 (.inl h)
theorem namesF_b {F:Nat} {o:List ByteArray} (h:s.b=true):(zaT F o s).2.b=true:=by
 cases F with
 | zero=>exact h
 | succ F=>unfold zaT;rw[if_pos h];exact h
theorem mode_b {y:ByteArray} (h:s.b=true):(s.mode x y).2.2.b=true:=by
 unfold Rd.mode;rw[zb5 h];simpa using h
theorem zc3 {part:Rd→Nd×Rd} {F:Nat} {o:Nd} (h:s.b=true):(za4 part ts F o s).2.b=true:=by
 cases F with
 | zero=>exact h
 | succ F=>unfold za4;rw[zb5 h];simpa using h
end
def Bad (p:Rd→Nd×Rd):Prop:=∀ s,s.b=true→(p s).2.b=true
theorem Bad.no {p:Rd→Nd×Rd} (h:Bad p) {s:Rd} (e:(p s).2.b=false):s.b=false:=by
 cases hs:s.b with
 | false=>rfl
 | true=>rw[h s hs] at e;cases e
theorem zc0 {a b:Bool} (h:a=true→b=true) (e:b=false):a=false:=by
 cases a with
 | false=>rfl
 | true=>rw[h rfl] at e;cases e
theorem level_b {part:Rd→Nd×Rd} (h:Bad part) (ts:List ByteArray):Bad (fun s=>s.level part ts):=fun s hs=>zc3 (h s hs)
section
variable (rm:List MatD→Bool)
theorem prim_b (ex:Rd→Nd×Rd):Bad (fun s=>s.prim rm ex):=fun s h=>by simp only[Rd.prim];rw[if_pos h];exact h
theorem unaryF_b (ex:Rd→Nd×Rd):∀ F,Bad (zaK rm ex F)
 | 0,s,h=>h
 | F+1,s,h=>by unfold zaK;rw[zb5 h];simpa using prim_b rm ex s h
theorem prod_b (ex:Rd→Nd×Rd):Bad (zeV rm ex):=level_b (fun s h=>unaryF_b rm ex _ s h) _
theorem zfm (ex:Rd→Nd×Rd):Bad (sumP rm ex):=level_b (prod_b rm ex) _
theorem expr_b:∀ F,Bad (zdW rm F)
 | 0,s,h=>h
 | F+1,s,h=>level_b (zfm rm (zdW rm F)) _ s h
end
theorem selWin_b {s:Rd} (h:s.b=true):s.selWin.2.b=true:=by unfold Rd.selWin;rw[zb5 h];simpa using h
def er (t:TokD):TokD:=⟨t.k,0,t.t⟩
structure R (r:List TokD) (s t:Rd):Prop where
 l:t.l.map er=(s.l++r).map er
 n:t.n=s.n
 b:t.b=s.b
section
variable {r:List TokD} {s t:Rd} {k:Int} {ts:List ByteArray} {x:ByteArray}
theorem is_nil (hl:s.l=[]) (hk:k≠0):s.is k ts=false:=by
 unfold Rd.is;rw[pk_0 (by rw[hl];rfl),decide_eq_false (show ¬zaS.k=k from fun e=>hk e.symm)];rfl
theorem zeR (hk:k≠0) (h:s.is k ts=true):s.l≠[]:=fun e=>by rw[is_nil e hk] at h;cases h
end
end Lp
set_option linter.unusedVariables false
namespace Lp
open Go
section
variable {r:List TokD} {s t:Rd} {k:Int} {ts:List ByteArray} {x:ByteArray}
theorem must_len (e:(s.must x).b=false):(s.must x).l.length+1=s.l.length:=by
 have hq:(s.take 5 [x]).2.1=true:=by
  unfold Rd.must at e;simp only[Bool.or_eq_false_iff,Bool.not_eq_false'] at e;exact e.2
 exact(zdn (by decide) hq).1
theorem any_len (hk:k≠0) (e:(s.any k).2.b=false):(s.any k).2.l.length+1=s.l.length:=by
 have hb:s.b=false:=zc0 zcD e
 have hp:s.pk.k=k:=Decidable.byContradiction fun hn=>by rw[zec (.inr hn)] at e;cases e
 exact(zeF hk hb hp).1
variable (rm:List MatD→Bool)
theorem sel_nil {s:Rd} (hl:s.l=[]):(s.selector rm).2.b=true:=by
 have hp:s.pk=zaS:=pk_0 (by rw[hl];rfl)
 have e1:s.selName=(ByteArray.empty,s):=by unfold Rd.selName;rw[if_neg (by rw[hp];rintro ⟨a,_⟩;exact absurd a (by decide))]
 unfold Rd.selector
 simp only[e1]
 refine zcn (selWin_b ?_)
 unfold Rd.selMs
 rw[if_neg (by rw[is_nil hl (by decide)];decide)]
 show (s.b||decide (ByteArray.empty=ByteArray.empty))=true
 rw[decide_eq_true rfl,Bool.or_true]
end
end Lp
