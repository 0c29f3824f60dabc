import Derived.Test.YtheccaeefigajaaGreatDoorPPr
set_option linter.unusedSimpArgs false
set_option linter.unusedVariables false
set_option maxHeartbeats 4000000
set_option maxRecDepth 100000
namespace Lp
open Go Go.RowKit Go.Proofs
namespace HdYtheccaeefigajaaGreatDoorV105
theorem bd_113:∀ w,((#[⟨"n",3,0,false, "", "leporello/parse",0⟩]:Array Field).mapM fun f=>do pure (f.offset,←Go.sizeOf f.type):Sem (Array (Nat×Nat))).run Tryz.prog w=.ok ([(0,1)]:List (Nat×Nat)).toArray w:=fun _=>by kernel_rfl
theorem bd_116:∀ w,((#[⟨"kid",27,0,false, "", "leporello/parse",0⟩]:Array Field).mapM fun f=>do pure (f.offset,←Go.sizeOf f.type):Sem (Array (Nat×Nat))).run Tryz.prog w=.ok ([(0,7)]:List (Nat×Nat)).toArray w:=fun _=>by kernel_rfl
theorem bd_119:∀ w,((#[⟨"n",27,0,false, "", "leporello/parse",0⟩]:Array Field).mapM fun f=>do pure (f.offset,←Go.sizeOf f.type):Sem (Array (Nat×Nat))).run Tryz.prog w=.ok ([(0,7)]:List (Nat×Nat)).toArray w:=fun _=>by kernel_rfl
theorem zaA (b o:Nat):∀ w,(Instr.fieldAt 27 (.pointer (some ⟨b,o,none⟩)) 0).run Tryz.prog w=.ok (.pointer (some ⟨b,o+0,none⟩)) w:=fun _=>by kernel_rfl
theorem za6 (b o:Nat):∀ w,(Instr.fieldAt 27 (.pointer (some ⟨b,o,none⟩)) 2).run Tryz.prog w=.ok (.pointer (some ⟨b,o+2,none⟩)) w:=fun _=>by kernel_rfl
theorem zbt (b o:Nat):∀ w,(Instr.fieldAt 27 (.pointer (some ⟨b,o,none⟩)) 6).run Tryz.prog w=.ok (.pointer (some ⟨b,o+6,none⟩)) w:=fun _=>by kernel_rfl
end HdYtheccaeefigajaaGreatDoorV105
open HdYtheccaeefigajaaGreatDoorV105
abbrev PrT (t:ByteArray):D→List Hp→Prop:=fun r H'=>r=.s t∧H'=[HPow]
theorem lift_num (text:ByteArray) (n:Nat) (mode:Int) (names:List ByteArray) (ms:List MatD) :
 CD Tryz.prog 98 [] [.agg [.s (⟨#[110,117,109]⟩:ByteArray),.s text,dN n,dI mode,.sh 1 (names.map D.s),.sh 3 (ms.map MatD.d),.sh 7 []]] (isR (.ifc 113 (.agg [dN n]))):=by
 refine zq Tryz.func98 rfl (N:=69) rfl rfl (fun C=>?_)
 refine jk [0] rfl ?_
 refine JD.bd 0 rfl (fun bd0=>?_)
 refine jT rfl (oE rfl (zaW rfl (CellD.agg)) ?_)
 rintro _ _ ⟨g1,rfl,rfl⟩
 refine oR 1 rfl (oZ rfl (jT rfl (oP rfl (zd rfl zbt rfl) (oP rfl (ze rfl (i:=0) rfl Tryz.isAgg25 rfl) (oP rfl (zaJ (n:=0) rfl Tryz.runUnderlying25 rfl) (oR 1 rfl (oZ rfl (jS rfl (jB rfl (jT rfl (oP rfl (zd rfl zaA rfl) (oP rfl (ze rfl (i:=0) rfl Tryz.isAgg9 rfl) (oP rfl (za0 rfl rfl (decide_eq_true (by decide))) (oR 1 rfl (oZ rfl (jCt rfl (jT rfl (oP rfl (zd rfl za6 rfl) (oP rfl (ze rfl (i:=0) rfl Tryz.isAgg3 rfl) (oP rfl (zC [0] [.tmp 12] (zv:=(.agg #[(.int .i64 0)])) rfl rfl (.cons (CellD.v rfl) .nil) (Tryz.runUnderlying113) Tryz.zeroValue113 bd_113 ⟨rfl,trivial⟩ rfl) (oP rfl (z8 rfl (fun _ _=>by kernel_rfl)) (oR 1 rfl (oZ rfl (jk [2] rfl (zn rfl (zk (zj ?_)))))))))))))))))))))))))))
 exact zi Tryz.results98 (.cons (zm rfl) .nil) rfl HSub.none ⟨rfl,rfl⟩
theorem lift_neg (text:ByteArray) (n:Nat) (mode:Int) (names:List ByteArray) (ms:List MatD) (xa xb:ByteArray) (xc xd:Int) (xe:List ByteArray) (xf:List MatD) (xg:List Nd) :
 CD Tryz.prog 98 [] [.agg [.s (⟨#[110,101,103]⟩:ByteArray),.s text,dN n,dI mode,.sh 1 (names.map D.s),.sh 3 (ms.map MatD.d),.sh 7 [.agg [.s xa,.s xb,dI xc,dI xd,.sh 1 (xe.map D.s),.sh 3 (xf.map MatD.d),.sh 7 (Nd.ds xg)]]]] (isR (.ifc 116 (.agg [.s xa,.s xb,dI xc,dI xd,.sh 1 (xe.map D.s),.sh 3 (xf.map MatD.d),.sh 7 (Nd.ds xg)]))):=by
 refine zq Tryz.func98 rfl (N:=69) rfl rfl (fun C=>?_)
 refine jk [0] rfl ?_
 refine JD.bd 0 rfl (fun bd0=>?_)
 refine jT rfl (oE rfl (zaW rfl (CellD.agg)) ?_)
 rintro _ _ ⟨g1,rfl,rfl⟩
 refine oR 1 rfl (oZ rfl (jT rfl (oP rfl (zd rfl zbt rfl) (oP rfl (ze rfl (i:=0) rfl Tryz.isAgg25 rfl) (oP rfl (zaJ (n:=1) rfl Tryz.runUnderlying25 rfl) (oR 1 rfl (oZ rfl (jS rfl (jB rfl (jT rfl (oP rfl (zd rfl zaA rfl) (oP rfl (ze rfl (i:=0) rfl Tryz.isAgg9 rfl) (oP rfl (za0 rfl rfl (decide_eq_false (by decide))) (oR 1 rfl (oZ rfl (jCf rfl (jT rfl (oP rfl (zd rfl zaA rfl) (oP rfl (ze rfl (i:=0) rfl Tryz.isAgg9 rfl) (oP rfl (za0 rfl rfl (decide_eq_true (by decide))) (oR 2 rfl (oG rfl (zF rfl rfl (decide_eq_true (by decide))) (oR 2 rfl (oZ rfl (jk [1,2,3,15] rfl (jCt rfl (jT rfl (oP rfl (zd rfl zbt rfl) (oP rfl (ze rfl (i:=0) rfl Tryz.isAgg25 rfl) (oP rfl (zE (k:=0) rfl rfl Tryz.runUnderlying25 Tryz.sizeOf27 (by first | rfl | omega) rfl) (oP rfl (zbo (d:=.agg [.s xa,.s xb,dI xc,dI xd,.sh 1 (xe.map D.s),.sh 3 (xf.map MatD.d),.sh 7 (Nd.ds xg)]) rfl Tryz.isAgg27 Tryz.sizeOf27 rfl rfl) (oP rfl (zC [0] [.tmp 26] (zv:=(.agg #[(.string ByteArray.empty),(.string ByteArray.empty),(.int .i64 0),(.int .i64 0),(.slice none 0 0),(.slice none 0 0),(.slice none 0 0)])) rfl rfl (.cons CellD.agg .nil) (Tryz.runUnderlying116) Tryz.zeroValue116 bd_116 ⟨rfl,rfl,rfl,rfl,rfl,rfl,rfl,trivial⟩ rfl) (oP rfl (z8 rfl (fun _ _=>by kernel_rfl)) (oR 1 rfl (oZ rfl (jk [2] rfl (zn rfl (zk ?_))))))))))))))))))))))))))))))))))))))
 refine zj ?_
 exact zi Tryz.results98 (.cons (zm rfl) .nil) rfl HSub.none ⟨rfl,rfl⟩
theorem lift_bin (text:ByteArray) (n:Nat) (mode:Int) (names:List ByteArray) (ms:List MatD) (xa xb:ByteArray) (xc xd:Int) (xe:List ByteArray) (xf:List MatD) (xg:List Nd) (ya yb:ByteArray) (yc yd:Int) (ye:List ByteArray) (yf:List MatD) (yg:List Nd) :
 CD Tryz.prog 98 [] [.agg [.s (⟨#[98,105,110]⟩:ByteArray),.s text,dN n,dI mode,.sh 1 (names.map D.s),.sh 3 (ms.map MatD.d),.sh 7 [.agg [.s xa,.s xb,dI xc,dI xd,.sh 1 (xe.map D.s),.sh 3 (xf.map MatD.d),.sh 7 (Nd.ds xg)],.agg [.s ya,.s yb,dI yc,dI yd,.sh 1 (ye.map D.s),.sh 3 (yf.map MatD.d),.sh 7 (Nd.ds yg)]]]] (isR (.ifc 119 (.agg [.s (⟨#[98,105,110]⟩:ByteArray),.s text,dN n,dI mode,.sh 1 (names.map D.s),.sh 3 (ms.map MatD.d),.sh 7 [.agg [.s xa,.s xb,dI xc,dI xd,.sh 1 (xe.map D.s),.sh 3 (xf.map MatD.d),.sh 7 (Nd.ds xg)],.agg [.s ya,.s yb,dI yc,dI yd,.sh 1 (ye.map D.s),.sh 3 (yf.map MatD.d),.sh 7 (Nd.ds yg)]]]))):=by
 refine zq Tryz.func98 rfl (N:=69) rfl rfl (fun C=>?_)
 refine jk [0] rfl ?_
 refine JD.bd 0 rfl (fun bd0=>?_)
 refine jT rfl (oE rfl (zaW rfl (CellD.agg)) ?_)
 rintro _ _ ⟨g1,rfl,rfl⟩
 refine oR 1 rfl (oZ rfl (jT rfl (oP rfl (zd rfl zbt rfl) (oP rfl (ze rfl (i:=0) rfl Tryz.isAgg25 rfl) (oP rfl (zaJ (n:=2) rfl Tryz.runUnderlying25 rfl) (oR 1 rfl (oZ rfl (jS rfl (jB rfl (jT rfl (oP rfl (zd rfl zaA rfl) (oP rfl (ze rfl (i:=0) rfl Tryz.isAgg9 rfl) (oP rfl (za0 rfl rfl (decide_eq_false (by decide))) (oR 1 rfl (oZ rfl (jCf rfl (jT rfl (oP rfl (zd rfl zaA rfl) (oP rfl (ze rfl (i:=0) rfl Tryz.isAgg9 rfl) (oP rfl (za0 rfl rfl (decide_eq_false (by decide))) (oR 5 rfl (oZ rfl (jk [1,2,3,15] rfl (jCf rfl (jT rfl (oP rfl (zd rfl zaA rfl) (oP rfl (ze rfl (i:=0) rfl Tryz.isAgg9 rfl) (oP rfl (za0 rfl rfl (decide_eq_true (by decide))) (oR 2 rfl (oG rfl (zF rfl rfl (decide_eq_true (by decide))) (oR 2 rfl (oZ rfl (jCt rfl (jT rfl (oP rfl (zz (d:=.agg [.s (⟨#[98,105,110]⟩:ByteArray),.s text,dN n,dI mode,.sh 1 (names.map D.s),.sh 3 (ms.map MatD.d),.sh 7 [.agg [.s xa,.s xb,dI xc,dI xd,.sh 1 (xe.map D.s),.sh 3 (xf.map MatD.d),.sh 7 (Nd.ds xg)],.agg [.s ya,.s yb,dI yc,dI yd,.sh 1 (ye.map D.s),.sh 3 (yf.map MatD.d),.sh 7 (Nd.ds yg)]]]) rfl (i:=0) rfl Tryz.isAgg27 Tryz.sizeOf27 rfl rfl) ?_)))))))))))))))))))))))))))))))))))
 refine oP rfl (zC [0] [.tmp 37] (zv:=(.agg #[(.string ByteArray.empty),(.string ByteArray.empty),(.int .i64 0),(.int .i64 0),(.slice none 0 0),(.slice none 0 0),(.slice none 0 0)])) rfl rfl (.cons CellD.agg .nil) (Tryz.runUnderlying119) Tryz.zeroValue119 bd_119 ⟨rfl,rfl,rfl,rfl,rfl,rfl,rfl,trivial⟩ rfl) (oP rfl (z8 rfl (fun _ _=>by kernel_rfl)) (oR 1 rfl (oZ rfl (jk [2] rfl (zn rfl (zk (zj ?_)))))))
 exact zi Tryz.results98 (.cons (zm rfl) .nil) rfl HSub.none ⟨rfl,rfl⟩
theorem inner_num (text:ByteArray) (n:Nat) (mode:Int) (names:List ByteArray) (ms:List MatD) (t:ByteArray) (ht:t.size≤100000000) (hn:CD Tryz.prog 34 [HPow] [.agg [.s (⟨#[110,117,109]⟩:ByteArray),.s text,dN n,dI mode,.sh 1 (names.map D.s),.sh 3 (ms.map MatD.d),.sh 7 []]] (PrT t)):
 CD Tryz.prog 99 [HPow] [.agg [.s (⟨#[110,117,109]⟩:ByteArray),.s text,dN n,dI mode,.sh 1 (names.map D.s),.sh 3 (ms.map MatD.d),.sh 7 []]] (PrT (t)):=by
 refine zq Tryz.func99 rfl (N:=30) rfl rfl (fun C=>?_)
 refine jk [0] rfl ?_
 refine JD.bd 0 rfl (fun bd0=>?_)
 refine jT rfl (oE rfl (zaW rfl (CellD.agg)) ?_)
 rintro _ _ ⟨g1,rfl,rfl⟩
 refine oR 1 rfl (oZ rfl (jT rfl (oP rfl (zz (d:=.agg [.s (⟨#[110,117,109]⟩:ByteArray),.s text,dN n,dI mode,.sh 1 (names.map D.s),.sh 3 (ms.map MatD.d),.sh 7 []]) rfl (i:=0) rfl Tryz.isAgg27 Tryz.sizeOf27 rfl rfl) (oE rfl (zl [] [.bx g1 27 (.agg [.s (⟨#[110,117,109]⟩:ByteArray),.s text,dN n,dI mode,.sh 1 (names.map D.s),.sh 3 (ms.map MatD.d),.sh 7 []]),HPow] [] rfl rfl (.cons ArgC.id .nil) zh Tryz.call98 (lift_num text n mode names ms) (.inl rfl)) ?_))))
 rintro _ _ ⟨_,⟨rfl,rfl⟩,rfl⟩
 refine on rfl (oR 1 rfl (oZ rfl (jT rfl (oR 1 rfl (oP rfl ((zay (zv:=(.agg #[(.string ByteArray.empty),(.string ByteArray.empty),(.int .i64 0),(.int .i64 0),(.slice none 0 0),(.slice none 0 0),(.slice none 0 0)])) rfl (fun _ _=>by kernel_rfl)).cv (Cv.tup (.cons (Cv.vagg (by decide)) (.cons Cv.rfl' .nil)))) (oR 3 rfl (oE rfl (zy (zv:=(.agg #[(.string ByteArray.empty),(.string ByteArray.empty),(.int .i64 0),(.int .i64 0),(.slice none 0 0),(.slice none 0 0),(.slice none 0 0)])) Tryz.zeroValue116 ⟨rfl,rfl,rfl,rfl,rfl,rfl,rfl,trivial⟩ (Cv.vagg (by decide))) ?_)))))))
 rintro _ _ ⟨g2,rfl,rfl⟩
 refine oE rfl (zg (i:=0) (X':=.agg [.v (.string ByteArray.empty),.v (.string ByteArray.empty),dI 0,dI 0,dZ,dZ,dZ]) rfl rfl rfl (CellD.agg) Tryz.sizeOf116 rfl rfl rfl) ?_
 rintro _ _ ⟨rfl,rfl⟩
 refine on rfl (oR 1 rfl (oZ rfl (jk [1,2,3,5] rfl (jS rfl (jT rfl (oR 1 rfl (oP rfl ((zay (zv:=(.agg #[(.string ByteArray.empty),(.string ByteArray.empty),(.int .i64 0),(.int .i64 0),(.slice none 0 0),(.slice none 0 0),(.slice none 0 0)])) rfl (fun _ _=>by kernel_rfl)).cv (Cv.tup (.cons (Cv.vagg (by decide)) (.cons Cv.rfl' .nil)))) (oR 3 rfl (oE rfl (zy (zv:=(.agg #[(.string ByteArray.empty),(.string ByteArray.empty),(.int .i64 0),(.int .i64 0),(.slice none 0 0),(.slice none 0 0),(.slice none 0 0)])) Tryz.zeroValue119 ⟨rfl,rfl,rfl,rfl,rfl,rfl,rfl,trivial⟩ (Cv.vagg (by decide))) ?_)))))))))
 rintro _ _ ⟨g3,rfl,rfl⟩
 refine oE rfl (zg (i:=0) (X':=.agg [.v (.string ByteArray.empty),.v (.string ByteArray.empty),dI 0,dI 0,dZ,dZ,dZ]) rfl rfl rfl (CellD.agg) Tryz.sizeOf119 rfl rfl rfl) ?_
 rintro _ _ ⟨rfl,rfl⟩
 refine on rfl (oR 1 rfl (oZ rfl (jT rfl (oR 4 rfl (oZ rfl (jk [1,2,23] rfl (jCf rfl (zr rfl (zo (jT rfl (oP rfl (zz (d:=.agg [.s (⟨#[110,117,109]⟩:ByteArray),.s text,dN n,dI mode,.sh 1 (names.map D.s),.sh 3 (ms.map MatD.d),.sh 7 []]) rfl (i:=2) rfl Tryz.isAgg27 Tryz.sizeOf27 rfl rfl) (OpsD.subH (HSub.perm (zc (i:=3) rfl)) (on rfl (oE rfl (zl [HPow] [.bx g3 119 (.agg [.v (.string ByteArray.empty),.v (.string ByteArray.empty),dI 0,dI 0,dZ,dZ,dZ]),.bx g2 116 (.agg [.v (.string ByteArray.empty),.v (.string ByteArray.empty),dI 0,dI 0,dZ,dZ,dZ]),.bx g1 27 (.agg [.s (⟨#[110,117,109]⟩:ByteArray),.s text,dN n,dI mode,.sh 1 (names.map D.s),.sh 3 (ms.map MatD.d),.sh 7 []])] [] rfl rfl (.cons ArgC.id .nil) zh Tryz.call34 (hn) (.inl rfl)) ?_))))))))))))))
 rintro _ _ ⟨_,⟨rfl,rfl⟩,rfl⟩
 refine on rfl (oR 1 rfl (oZ rfl (zn rfl (pn rfl ?_))))
 exact zi Tryz.results99 (.cons (zm rfl) .nil) rfl (HSub.fst 1 rfl) ⟨rfl,rfl⟩
theorem inner_neg (text:ByteArray) (n:Nat) (mode:Int) (names:List ByteArray) (ms:List MatD) (xa xb:ByteArray) (xc xd:Int) (xe:List ByteArray) (xf:List MatD) (xg:List Nd) (t:ByteArray) (ht:t.size≤100000000) (hn:CD Tryz.prog 34 [HPow] [.agg [.s (⟨#[110,101,103]⟩:ByteArray),.s text,dN n,dI mode,.sh 1 (names.map D.s),.sh 3 (ms.map MatD.d),.sh 7 [.agg [.s xa,.s xb,dI xc,dI xd,.sh 1 (xe.map D.s),.sh 3 (xf.map MatD.d),.sh 7 (Nd.ds xg)]]]] (PrT t)):
 CD Tryz.prog 99 [HPow] [.agg [.s (⟨#[110,101,103]⟩:ByteArray),.s text,dN n,dI mode,.sh 1 (names.map D.s),.sh 3 (ms.map MatD.d),.sh 7 [.agg [.s xa,.s xb,dI xc,dI xd,.sh 1 (xe.map D.s),.sh 3 (xf.map MatD.d),.sh 7 (Nd.ds xg)]]]] (PrT (zR++t++zJ)):=by
 refine zq Tryz.func99 rfl (N:=30) rfl rfl (fun C=>?_)
 refine jk [0] rfl ?_
 refine JD.bd 0 rfl (fun bd0=>?_)
 refine jT rfl (oE rfl (zaW rfl (CellD.agg)) ?_)
 rintro _ _ ⟨g1,rfl,rfl⟩
 refine oR 1 rfl (oZ rfl (jT rfl (oP rfl (zz (d:=.agg [.s (⟨#[110,101,103]⟩:ByteArray),.s text,dN n,dI mode,.sh 1 (names.map D.s),.sh 3 (ms.map MatD.d),.sh 7 [.agg [.s xa,.s xb,dI xc,dI xd,.sh 1 (xe.map D.s),.sh 3 (xf.map MatD.d),.sh 7 (Nd.ds xg)]]]) rfl (i:=0) rfl Tryz.isAgg27 Tryz.sizeOf27 rfl rfl) (oE rfl (zl [] [.bx g1 27 (.agg [.s (⟨#[110,101,103]⟩:ByteArray),.s text,dN n,dI mode,.sh 1 (names.map D.s),.sh 3 (ms.map MatD.d),.sh 7 [.agg [.s xa,.s xb,dI xc,dI xd,.sh 1 (xe.map D.s),.sh 3 (xf.map MatD.d),.sh 7 (Nd.ds xg)]]]),HPow] [] rfl rfl (.cons ArgC.id .nil) zh Tryz.call98 (lift_neg text n mode names ms xa xb xc xd xe xf xg) (.inl rfl)) ?_))))
 rintro _ _ ⟨_,⟨rfl,rfl⟩,rfl⟩
 refine on rfl (oR 1 rfl (oZ rfl (jT rfl (oR 1 rfl (oP rfl (zby rfl (fun _ _=>by kernel_rfl)) (oR 3 rfl (oE rfl (zy (zv:=(.agg #[(.string ByteArray.empty),(.string ByteArray.empty),(.int .i64 0),(.int .i64 0),(.slice none 0 0),(.slice none 0 0),(.slice none 0 0)])) Tryz.zeroValue116 ⟨rfl,rfl,rfl,rfl,rfl,rfl,rfl,trivial⟩ (Cv.vagg (by decide))) ?_)))))))
 rintro _ _ ⟨g2,rfl,rfl⟩
 refine oE rfl (zg (i:=0) (X':=.agg [.s xa,.s xb,dI xc,dI xd,.sh 1 (xe.map D.s),.sh 3 (xf.map MatD.d),.sh 7 (Nd.ds xg)]) rfl rfl rfl (CellD.agg) Tryz.sizeOf116 rfl rfl rfl) ?_
 rintro _ _ ⟨rfl,rfl⟩
 refine on rfl (oR 1 rfl (oZ rfl (jk [1,2,3,5] rfl (jS rfl (jT rfl (oR 1 rfl (oP rfl ((zay (zv:=(.agg #[(.string ByteArray.empty),(.string ByteArray.empty),(.int .i64 0),(.int .i64 0),(.slice none 0 0),(.slice none 0 0),(.slice none 0 0)])) rfl (fun _ _=>by kernel_rfl)).cv (Cv.tup (.cons (Cv.vagg (by decide)) (.cons Cv.rfl' .nil)))) (oR 3 rfl (oE rfl (zy (zv:=(.agg #[(.string ByteArray.empty),(.string ByteArray.empty),(.int .i64 0),(.int .i64 0),(.slice none 0 0),(.slice none 0 0),(.slice none 0 0)])) Tryz.zeroValue119 ⟨rfl,rfl,rfl,rfl,rfl,rfl,rfl,trivial⟩ (Cv.vagg (by decide))) ?_)))))))))
 rintro _ _ ⟨g3,rfl,rfl⟩
 refine oE rfl (zg (i:=0) (X':=.agg [.v (.string ByteArray.empty),.v (.string ByteArray.empty),dI 0,dI 0,dZ,dZ,dZ]) rfl rfl rfl (CellD.agg) Tryz.sizeOf119 rfl rfl rfl) ?_
 rintro _ _ ⟨rfl,rfl⟩
 refine on rfl (oR 1 rfl (oZ rfl (jT rfl (oR 4 rfl (oZ rfl (jk [1,2,23] rfl (jCt rfl (jT rfl (oP rfl (zz (d:=.agg [.s (⟨#[110,101,103]⟩:ByteArray),.s text,dN n,dI mode,.sh 1 (names.map D.s),.sh 3 (ms.map MatD.d),.sh 7 [.agg [.s xa,.s xb,dI xc,dI xd,.sh 1 (xe.map D.s),.sh 3 (xf.map MatD.d),.sh 7 (Nd.ds xg)]]]) rfl (i:=2) rfl Tryz.isAgg27 Tryz.sizeOf27 rfl rfl) (OpsD.subH (HSub.perm (zc (i:=3) rfl)) (on rfl (oE rfl (zl [HPow] [.bx g3 119 (.agg [.v (.string ByteArray.empty),.v (.string ByteArray.empty),dI 0,dI 0,dZ,dZ,dZ]),.bx g2 116 (.agg [.s xa,.s xb,dI xc,dI xd,.sh 1 (xe.map D.s),.sh 3 (xf.map MatD.d),.sh 7 (Nd.ds xg)]),.bx g1 27 (.agg [.s (⟨#[110,101,103]⟩:ByteArray),.s text,dN n,dI mode,.sh 1 (names.map D.s),.sh 3 (ms.map MatD.d),.sh 7 [.agg [.s xa,.s xb,dI xc,dI xd,.sh 1 (xe.map D.s),.sh 3 (xf.map MatD.d),.sh 7 (Nd.ds xg)]]])] [] rfl rfl (.cons ArgC.id .nil) zh Tryz.call34 (hn) (.inl rfl)) ?_))))))))))))
 rintro _ _ ⟨_,⟨rfl,rfl⟩,rfl⟩
 refine on rfl (oP rfl (za9 rfl rfl (by unfold maxLen;(try simp only[ByteArray.size_append]);(try simp only[ByteArray.size_append]);have kz:=catz;omega)) (oP rfl (za9 rfl rfl (by unfold maxLen;(try simp only[ByteArray.size_append]);(try simp only[ByteArray.size_append]);have kz:=catz;omega)) (oR 1 rfl (oZ rfl (zn rfl (zj (pn rfl ?_)))))))
 exact zi Tryz.results99 (.cons (zu (zm rfl) (Cv.eq (congrArg D.s (show (((⟨#[40]⟩:ByteArray)++t)++(⟨#[41]⟩:ByteArray))=zR++t++zJ from(by rfl))))) .nil) rfl (HSub.fst 1 rfl) ⟨rfl,rfl⟩
theorem inner_bin (text:ByteArray) (n:Nat) (mode:Int) (names:List ByteArray) (ms:List MatD) (xa xb:ByteArray) (xc xd:Int) (xe:List ByteArray) (xf:List MatD) (xg:List Nd) (ya yb:ByteArray) (yc yd:Int) (ye:List ByteArray) (yf:List MatD) (yg:List Nd) (t:ByteArray) (ht:t.size≤100000000) (hn:CD Tryz.prog 34 [HPow] [.agg [.s (⟨#[98,105,110]⟩:ByteArray),.s text,dN n,dI mode,.sh 1 (names.map D.s),.sh 3 (ms.map MatD.d),.sh 7 [.agg [.s xa,.s xb,dI xc,dI xd,.sh 1 (xe.map D.s),.sh 3 (xf.map MatD.d),.sh 7 (Nd.ds xg)],.agg [.s ya,.s yb,dI yc,dI yd,.sh 1 (ye.map D.s),.sh 3 (yf.map MatD.d),.sh 7 (Nd.ds yg)]]]] (PrT t)):
 CD Tryz.prog 99 [HPow] [.agg [.s (⟨#[98,105,110]⟩:ByteArray),.s text,dN n,dI mode,.sh 1 (names.map D.s),.sh 3 (ms.map MatD.d),.sh 7 [.agg [.s xa,.s xb,dI xc,dI xd,.sh 1 (xe.map D.s),.sh 3 (xf.map MatD.d),.sh 7 (Nd.ds xg)],.agg [.s ya,.s yb,dI yc,dI yd,.sh 1 (ye.map D.s),.sh 3 (yf.map MatD.d),.sh 7 (Nd.ds yg)]]]] (PrT (zR++t++zJ)):=by
 refine zq Tryz.func99 rfl (N:=30) rfl rfl (fun C=>?_)
 refine jk [0] rfl ?_
 refine JD.bd 0 rfl (fun bd0=>?_)
 refine jT rfl (oE rfl (zaW rfl (CellD.agg)) ?_)
 rintro _ _ ⟨g1,rfl,rfl⟩
 refine oR 1 rfl (oZ rfl (jT rfl (oP rfl (zz (d:=.agg [.s (⟨#[98,105,110]⟩:ByteArray),.s text,dN n,dI mode,.sh 1 (names.map D.s),.sh 3 (ms.map MatD.d),.sh 7 [.agg [.s xa,.s xb,dI xc,dI xd,.sh 1 (xe.map D.s),.sh 3 (xf.map MatD.d),.sh 7 (Nd.ds xg)],.agg [.s ya,.s yb,dI yc,dI yd,.sh 1 (ye.map D.s),.sh 3 (yf.map MatD.d),.sh 7 (Nd.ds yg)]]]) rfl (i:=0) rfl Tryz.isAgg27 Tryz.sizeOf27 rfl rfl) (oE rfl (zl [] [.bx g1 27 (.agg [.s (⟨#[98,105,110]⟩:ByteArray),.s text,dN n,dI mode,.sh 1 (names.map D.s),.sh 3 (ms.map MatD.d),.sh 7 [.agg [.s xa,.s xb,dI xc,dI xd,.sh 1 (xe.map D.s),.sh 3 (xf.map MatD.d),.sh 7 (Nd.ds xg)],.agg [.s ya,.s yb,dI yc,dI yd,.sh 1 (ye.map D.s),.sh 3 (yf.map MatD.d),.sh 7 (Nd.ds yg)]]]),HPow] [] rfl rfl (.cons ArgC.id .nil) zh Tryz.call98 (lift_bin text n mode names ms xa xb xc xd xe xf xg ya yb yc yd ye yf yg) (.inl rfl)) ?_))))
 rintro _ _ ⟨_,⟨rfl,rfl⟩,rfl⟩
 refine on rfl (oR 1 rfl (oZ rfl (jT rfl (oR 1 rfl (oP rfl ((zay (zv:=(.agg #[(.string ByteArray.empty),(.string ByteArray.empty),(.int .i64 0),(.int .i64 0),(.slice none 0 0),(.slice none 0 0),(.slice none 0 0)])) rfl (fun _ _=>by kernel_rfl)).cv (Cv.tup (.cons (Cv.vagg (by decide)) (.cons Cv.rfl' .nil)))) (oR 3 rfl (oE rfl (zy (zv:=(.agg #[(.string ByteArray.empty),(.string ByteArray.empty),(.int .i64 0),(.int .i64 0),(.slice none 0 0),(.slice none 0 0),(.slice none 0 0)])) Tryz.zeroValue116 ⟨rfl,rfl,rfl,rfl,rfl,rfl,rfl,trivial⟩ (Cv.vagg (by decide))) ?_)))))))
 rintro _ _ ⟨g2,rfl,rfl⟩
 refine oE rfl (zg (i:=0) (X':=.agg [.v (.string ByteArray.empty),.v (.string ByteArray.empty),dI 0,dI 0,dZ,dZ,dZ]) rfl rfl rfl (CellD.agg) Tryz.sizeOf116 rfl rfl rfl) ?_
 rintro _ _ ⟨rfl,rfl⟩
 refine on rfl (oR 1 rfl (oZ rfl (jk [1,2,3,5] rfl (jS rfl (jT rfl (oR 1 rfl (oP rfl (zby rfl (fun _ _=>by kernel_rfl)) (oR 3 rfl (oE rfl (zy (zv:=(.agg #[(.string ByteArray.empty),(.string ByteArray.empty),(.int .i64 0),(.int .i64 0),(.slice none 0 0),(.slice none 0 0),(.slice none 0 0)])) Tryz.zeroValue119 ⟨rfl,rfl,rfl,rfl,rfl,rfl,rfl,trivial⟩ (Cv.vagg (by decide))) ?_)))))))))
 rintro _ _ ⟨g3,rfl,rfl⟩
 refine oE rfl (zg (i:=0) (X':=.agg [.s (⟨#[98,105,110]⟩:ByteArray),.s text,dN n,dI mode,.sh 1 (names.map D.s),.sh 3 (ms.map MatD.d),.sh 7 [.agg [.s xa,.s xb,dI xc,dI xd,.sh 1 (xe.map D.s),.sh 3 (xf.map MatD.d),.sh 7 (Nd.ds xg)],.agg [.s ya,.s yb,dI yc,dI yd,.sh 1 (ye.map D.s),.sh 3 (yf.map MatD.d),.sh 7 (Nd.ds yg)]]]) rfl rfl rfl (CellD.agg) Tryz.sizeOf119 rfl rfl rfl) ?_
 rintro _ _ ⟨rfl,rfl⟩
 refine on rfl (oR 1 rfl (oZ rfl (jT rfl (oR 4 rfl (oZ rfl (jk [1,2,23] rfl (jCt rfl (jT rfl (oP rfl (zz (d:=.agg [.s (⟨#[98,105,110]⟩:ByteArray),.s text,dN n,dI mode,.sh 1 (names.map D.s),.sh 3 (ms.map MatD.d),.sh 7 [.agg [.s xa,.s xb,dI xc,dI xd,.sh 1 (xe.map D.s),.sh 3 (xf.map MatD.d),.sh 7 (Nd.ds xg)],.agg [.s ya,.s yb,dI yc,dI yd,.sh 1 (ye.map D.s),.sh 3 (yf.map MatD.d),.sh 7 (Nd.ds yg)]]]) rfl (i:=2) rfl Tryz.isAgg27 Tryz.sizeOf27 rfl rfl) (OpsD.subH (HSub.perm (zc (i:=3) rfl)) (on rfl ?_)))))))))))
 refine oE rfl (zl [HPow] [.bx g3 119 (.agg [.s (⟨#[98,105,110]⟩:ByteArray),.s text,dN n,dI mode,.sh 1 (names.map D.s),.sh 3 (ms.map MatD.d),.sh 7 [.agg [.s xa,.s xb,dI xc,dI xd,.sh 1 (xe.map D.s),.sh 3 (xf.map MatD.d),.sh 7 (Nd.ds xg)],.agg [.s ya,.s yb,dI yc,dI yd,.sh 1 (ye.map D.s),.sh 3 (yf.map MatD.d),.sh 7 (Nd.ds yg)]]]),.bx g2 116 (.agg [.v (.string ByteArray.empty),.v (.string ByteArray.empty),dI 0,dI 0,dZ,dZ,dZ]),.bx g1 27 (.agg [.s (⟨#[98,105,110]⟩:ByteArray),.s text,dN n,dI mode,.sh 1 (names.map D.s),.sh 3 (ms.map MatD.d),.sh 7 [.agg [.s xa,.s xb,dI xc,dI xd,.sh 1 (xe.map D.s),.sh 3 (xf.map MatD.d),.sh 7 (Nd.ds xg)],.agg [.s ya,.s yb,dI yc,dI yd,.sh 1 (ye.map D.s),.sh 3 (yf.map MatD.d),.sh 7 (Nd.ds yg)]]])] [] rfl rfl (.cons ArgC.id .nil) zh Tryz.call34 (hn) (.inl rfl)) ?_
 rintro _ _ ⟨_,⟨rfl,rfl⟩,rfl⟩
 refine on rfl (oP rfl (za9 rfl rfl (by unfold maxLen;(try simp only[ByteArray.size_append]);(try simp only[ByteArray.size_append]);have kz:=catz;omega)) (oP rfl (za9 rfl rfl (by unfold maxLen;(try simp only[ByteArray.size_append]);(try simp only[ByteArray.size_append]);have kz:=catz;omega)) (oR 1 rfl (oZ rfl (zn rfl (zj (pn rfl ?_)))))))
 exact zi Tryz.results99 (.cons (zu (zm rfl) (Cv.eq (congrArg D.s (show (((⟨#[40]⟩:ByteArray)++t)++(⟨#[41]⟩:ByteArray))=zR++t++zJ from(by rfl))))) .nil) rfl (HSub.fst 1 rfl) ⟨rfl,rfl⟩
end Lp
set_option linter.unusedSimpArgs false
set_option linter.unusedVariables false
set_option maxHeartbeats 4000000
set_option maxRecDepth 100000
namespace Lp
open Go Go.RowKit Go.Proofs
namespace HdYtheccaeefigajaaGreatDoorV106
theorem fa_113_0 (b o:Nat):∀ w,(Instr.fieldAt 113 (.pointer (some ⟨b,o,none⟩)) 0).run Tryz.prog w=.ok (.pointer (some ⟨b,o+0,none⟩)) w:=fun _=>by kernel_rfl
theorem fa_116_0 (b o:Nat):∀ w,(Instr.fieldAt 116 (.pointer (some ⟨b,o,none⟩)) 0).run Tryz.prog w=.ok (.pointer (some ⟨b,o+0,none⟩)) w:=fun _=>by kernel_rfl
end HdYtheccaeefigajaaGreatDoorV106
open HdYtheccaeefigajaaGreatDoorV106
theorem node_num (text:ByteArray) (n:Nat) (mode:Int) (names:List ByteArray) (ms:List MatD) (h1:n≤1000000000000):
 CD Tryz.prog 34 [HPow] [.agg [.s (⟨#[110,117,109]⟩:ByteArray),.s text,dN n,dI mode,.sh 1 (names.map D.s),.sh 3 (ms.map MatD.d),.sh 7 []]] (PrT (digB n)):=by
 refine zq Tryz.func34 rfl (N:=79) rfl rfl (fun C=>?_)
 refine jk [0] rfl ?_
 refine JD.bd 0 rfl (fun bd0=>?_)
 refine jT rfl (oE rfl (zaW rfl (CellD.agg)) ?_)
 rintro _ _ ⟨g1,rfl,rfl⟩
 refine oR 1 rfl (oZ rfl (jT rfl (oP rfl (zz (d:=.agg [.s (⟨#[110,117,109]⟩:ByteArray),.s text,dN n,dI mode,.sh 1 (names.map D.s),.sh 3 (ms.map MatD.d),.sh 7 []]) rfl (i:=0) rfl Tryz.isAgg27 Tryz.sizeOf27 rfl rfl) (oE rfl (zl [] [.bx g1 27 (.agg [.s (⟨#[110,117,109]⟩:ByteArray),.s text,dN n,dI mode,.sh 1 (names.map D.s),.sh 3 (ms.map MatD.d),.sh 7 []]),HPow] [] rfl rfl (.cons ArgC.id .nil) zh Tryz.call98 (lift_num text n mode names ms) (.inl rfl)) ?_))))
 rintro _ _ ⟨_,⟨rfl,rfl⟩,rfl⟩
 refine on rfl (oR 1 rfl (oZ rfl (jS rfl (jT rfl (oR 1 rfl (oP rfl (zby rfl (fun _ _=>by kernel_rfl)) (oR 3 rfl (oE rfl (zy (zv:=(.agg #[(.int .i64 0)])) Tryz.zeroValue113 ⟨rfl,trivial⟩ (Cv.vagg (by decide))) ?_))))))))
 rintro _ _ ⟨g2,rfl,rfl⟩
 refine oE rfl (zg (i:=0) (X':=.agg [dN n]) rfl rfl rfl (CellD.agg) Tryz.sizeOf113 rfl rfl rfl) ?_
 rintro _ _ ⟨rfl,rfl⟩
 refine on rfl (oR 1 rfl (oZ rfl (jk [2,3,4,5] rfl (jT rfl (oR 1 rfl (oZ rfl (jCt rfl (jT rfl (oP rfl (zd rfl fa_113_0 rfl) (oP rfl (ze rfl (i:=0) rfl Tryz.isAgg3 rfl) ?_))))))))))
 have hdz:=zdi h1
 refine OpsD.subH (HSub.perm (zc (i:=2) rfl)) (on rfl (oE rfl (zl [HPow] [.bx g2 113 (.agg [dN n]),.bx g1 27 (.agg [.s (⟨#[110,117,109]⟩:ByteArray),.s text,dN n,dI mode,.sh 1 (names.map D.s),.sh 3 (ms.map MatD.d),.sh 7 []])] [] rfl rfl (.cons ArgC.id .nil) zh Tryz.call97 (itoa_c n (by omega)) (.inl rfl)) ?_))
 rintro _ _ ⟨_,⟨rfl,rfl⟩,rfl⟩
 refine on rfl (oR 1 rfl (oZ rfl (zn rfl (zj (pn rfl ?_)))))
 exact zi Tryz.results34 (.cons (zu (zm rfl) (Cv.eq (congrArg D.s (show (digB n)=digB n from(by rfl))))) .nil) rfl (HSub.fst 1 rfl) ⟨rfl,rfl⟩
theorem node_neg (text:ByteArray) (n:Nat) (mode:Int) (names:List ByteArray) (ms:List MatD) (xa xb:ByteArray) (xc xd:Int) (xe:List ByteArray) (xf:List MatD) (xg:List Nd) (ta:ByteArray) (hxt:ta.size≤10000000) (hx:CD Tryz.prog 99 [HPow] [.agg [.s xa,.s xb,dI xc,dI xd,.sh 1 (xe.map D.s),.sh 3 (xf.map MatD.d),.sh 7 (Nd.ds xg)]] (PrT ta)):
 CD Tryz.prog 34 [HPow] [.agg [.s (⟨#[110,101,103]⟩:ByteArray),.s text,dN n,dI mode,.sh 1 (names.map D.s),.sh 3 (ms.map MatD.d),.sh 7 [.agg [.s xa,.s xb,dI xc,dI xd,.sh 1 (xe.map D.s),.sh 3 (xf.map MatD.d),.sh 7 (Nd.ds xg)]]]] (PrT (zbv++ta)):=by
 refine zq Tryz.func34 rfl (N:=79) rfl rfl (fun C=>?_)
 refine jk [0] rfl ?_
 refine JD.bd 0 rfl (fun bd0=>?_)
 refine jT rfl (oE rfl (zaW rfl (CellD.agg)) ?_)
 rintro _ _ ⟨g1,rfl,rfl⟩
 refine oR 1 rfl (oZ rfl (jT rfl (oP rfl (zz (d:=.agg [.s (⟨#[110,101,103]⟩:ByteArray),.s text,dN n,dI mode,.sh 1 (names.map D.s),.sh 3 (ms.map MatD.d),.sh 7 [.agg [.s xa,.s xb,dI xc,dI xd,.sh 1 (xe.map D.s),.sh 3 (xf.map MatD.d),.sh 7 (Nd.ds xg)]]]) rfl (i:=0) rfl Tryz.isAgg27 Tryz.sizeOf27 rfl rfl) (oE rfl (zl [] [.bx g1 27 (.agg [.s (⟨#[110,101,103]⟩:ByteArray),.s text,dN n,dI mode,.sh 1 (names.map D.s),.sh 3 (ms.map MatD.d),.sh 7 [.agg [.s xa,.s xb,dI xc,dI xd,.sh 1 (xe.map D.s),.sh 3 (xf.map MatD.d),.sh 7 (Nd.ds xg)]]]),HPow] [] rfl rfl (.cons ArgC.id .nil) zh Tryz.call98 (lift_neg text n mode names ms xa xb xc xd xe xf xg) (.inl rfl)) ?_))))
 rintro _ _ ⟨_,⟨rfl,rfl⟩,rfl⟩
 refine on rfl (oR 1 rfl (oZ rfl (jS rfl (jT rfl (oR 1 rfl (oP rfl ((zay (zv:=(.agg #[(.int .i64 0)])) rfl (fun _ _=>by kernel_rfl)).cv (Cv.tup (.cons (Cv.vagg (by decide)) (.cons Cv.rfl' .nil)))) (oR 3 rfl (oE rfl (zy (zv:=(.agg #[(.int .i64 0)])) Tryz.zeroValue113 ⟨rfl,trivial⟩ (Cv.vagg (by decide))) ?_))))))))
 rintro _ _ ⟨g2,rfl,rfl⟩
 refine oE rfl (zg (i:=0) (X':=.agg [dI 0]) rfl rfl rfl (CellD.agg) Tryz.sizeOf113 rfl rfl rfl) ?_
 rintro _ _ ⟨rfl,rfl⟩
 refine on rfl (oR 1 rfl (oZ rfl (jk [2,3,4,5] rfl (jT rfl (oR 1 rfl (oZ rfl (jCf rfl (zr rfl (zo (jS rfl (jT rfl (oR 1 rfl (oP rfl (zby rfl (fun _ _=>by kernel_rfl)) (oR 3 rfl (oE rfl (zy (zv:=(.agg #[(.string ByteArray.empty),(.string ByteArray.empty),(.int .i64 0),(.int .i64 0),(.slice none 0 0),(.slice none 0 0),(.slice none 0 0)])) Tryz.zeroValue116 ⟨rfl,rfl,rfl,rfl,rfl,rfl,rfl,trivial⟩ (Cv.vagg (by decide))) ?_)))))))))))))))
 rintro _ _ ⟨g3,rfl,rfl⟩
 refine oE rfl (zg (i:=0) (X':=.agg [.s xa,.s xb,dI xc,dI xd,.sh 1 (xe.map D.s),.sh 3 (xf.map MatD.d),.sh 7 (Nd.ds xg)]) rfl rfl rfl (CellD.agg) Tryz.sizeOf116 rfl rfl rfl) ?_
 rintro _ _ ⟨rfl,rfl⟩
 refine on rfl (oR 1 rfl (oZ rfl (jT rfl (oR 1 rfl (oZ rfl (jk [2,3,6,32] rfl (jCt rfl (jT rfl (oP rfl (zd rfl fa_116_0 rfl) (oP rfl (zz (d:=.agg [.s xa,.s xb,dI xc,dI xd,.sh 1 (xe.map D.s),.sh 3 (xf.map MatD.d),.sh 7 (Nd.ds xg)]) rfl (i:=0) rfl Tryz.isAgg27 Tryz.sizeOf27 rfl rfl) (OpsD.subH (HSub.perm (zc (i:=3) rfl)) (on rfl (oE rfl (zl [HPow] [.bx g3 116 (.agg [.s xa,.s xb,dI xc,dI xd,.sh 1 (xe.map D.s),.sh 3 (xf.map MatD.d),.sh 7 (Nd.ds xg)]),.bx g2 113 (.agg [dI 0]),.bx g1 27 (.agg [.s (⟨#[110,101,103]⟩:ByteArray),.s text,dN n,dI mode,.sh 1 (names.map D.s),.sh 3 (ms.map MatD.d),.sh 7 [.agg [.s xa,.s xb,dI xc,dI xd,.sh 1 (xe.map D.s),.sh 3 (xf.map MatD.d),.sh 7 (Nd.ds xg)]]])] [] rfl rfl (.cons ArgC.id .nil) zh Tryz.call99 (hx) (.inl rfl)) ?_)))))))))))))
 rintro _ _ ⟨_,⟨rfl,rfl⟩,rfl⟩
 refine on rfl (oP rfl (za9 rfl rfl (by unfold maxLen;(try simp only[ByteArray.size_append]);(try simp only[ByteArray.size_append]);have kz:=catz;omega)) (oR 1 rfl (oZ rfl (zn rfl (zj (pn rfl ?_))))))
 exact zi Tryz.results34 (.cons (zu (zm rfl) (Cv.eq (congrArg D.s (show ((⟨#[45]⟩:ByteArray)++ta)=zbv++ta from(by rfl))))) .nil) rfl (HSub.fst 1 rfl) ⟨rfl,rfl⟩
end Lp
set_option linter.unusedVariables false
namespace Lp
open Go
def asc (l:List UInt8):Bool:=l.all (fun b=>decide (b.toNat<128))
theorem asc_cons {b:UInt8} {l:List UInt8} (h:asc (b::l)=true):b.toNat<128∧asc l=true:=by
 unfold asc at h ⊢;simp only[List.all_cons,Bool.and_eq_true,decide_eq_true_eq] at h;exact h
theorem asc_drop {l:List UInt8} (h:asc l=true) (n:Nat):asc (l.drop n)=true:=by
 unfold asc at h ⊢;rw[List.all_eq_true] at h ⊢;exact fun b hb=>h b (List.mem_of_mem_drop hb)
theorem asc_take {l:List UInt8} (h:asc l=true) (n:Nat):asc (l.take n)=true:=by
 unfold asc at h ⊢;rw[List.all_eq_true] at h ⊢;exact fun b hb=>h b (List.mem_of_mem_take hb)
def runA (f:Int→Bool):List UInt8→Nat
 | []=>0
 | b::r=>if f (b.toNat:Int)=true then 1+runA f r else 0
theorem zdO (f:Int→Bool):∀ (l:List UInt8),asc l=true→runL f l=runA f l
 | [],_=>zbR
 | b::r,h=>by
  obtain ⟨h1,h2⟩:=asc_cons h
  unfold runA
  have hd:=zZ (t:=r) h1
  by_cases hf:f (b.toNat:Int)=true
  · rw[if_pos hf,zcG (by simp) (by rw[hd];exact hf),hd]
    show 1+runL f r=_
    rw[zdO f r h2]
  · rw[if_neg hf,zco (by rw[hd];simpa using hf)]
theorem runes_asc {l:List UInt8} (h:asc l=true):zae (mkB l)=l.map (fun b=>(b.toNat:Int)):=by
 have key:∀ (n p:Nat),(mkB l).size-p=n→zaM (mkB l) p=(l.drop p).map (fun b=>(b.toNat:Int)):=by
  intro n
  induction n using Nat.strongRecOn with
  | _ n ih=>
   intro p hn
   rw[z7] at hn
   rcases Nat.lt_or_ge p l.length with hp | hp
   · have hb:bts (mkB l) p=l.drop p:=by unfold bts;rw[←zbL l];rfl
     obtain ⟨b,hx⟩:∃ b,l[p]?=some b:=⟨l[p],List.getElem?_eq_getElem hp⟩
     have hdr:l.drop p=b::l.drop (p+1):=by
      rw[List.drop_eq_getElem_cons hp];congr 1
      rw[List.getElem?_eq_getElem hp] at hx;injection hx
     have hb1:b.toNat<128:=(asc_cons (by rw[←hdr];exact asc_drop h p)).1
     have hd:decL (bts (mkB l) p)=(b.toNat,1):=by rw[hb,hdr];exact zZ hb1
     rw[zaE (by rw[z7];exact hp),zbW,zbV,hd,hdr]
     rw[ih (l.length-(p+1)) (by omega) (p+1) (by rw[z7])]
     rfl
   · rw[za1 (by rw[z7];exact hp),List.drop_eq_nil_of_le hp];rfl
 rw[show zae (mkB l)=zaM (mkB l) 0 from rfl,key _ 0 rfl,List.drop_zero]
def digK:Nat→Nat→List UInt8
 | 0,_=>[]
 | f+1,n=>if n<10 then [UInt8.ofNat (48+n)] else digK f (n / 10)++[UInt8.ofNat (48+n % 10)]
theorem digK_eq:∀ (f n:Nat),0<f→n<10 ^ f→digK f n=digL n
 | 0,n,h,_=>absurd h (by omega)
 | f+1,n,_,h=>by
  unfold digK digL
  by_cases hn:n<10
  · rw[if_pos hn,dif_pos hn]
  · rw[if_neg hn,dif_neg hn]
    rw[Nat.pow_succ] at h
    cases f with
    | zero=>simp at h;omega
    | succ f=>rw[digK_eq (f+1) (n / 10) (by omega) (by omega)]
theorem digK_B {n:Nat} (h:n≤1000000000000):mkB (digK 20 n)=digB n:=by
 unfold digB;rw[digK_eq 20 n (by decide) (Nat.lt_of_le_of_lt h (by decide))]
def za2 (b:UInt8):Bool:=decide (b.toNat<128)&&decide (b.toNat≠34)&&decide (b.toNat≠92)&&decide (b.toNat≠10)
theorem enc_asc {c:Nat} (h:c<128):encR c=[UInt8.ofNat c]:=by unfold encR;rw[if_pos (by omega),Nat.mod_eq_of_lt (by omega)]
theorem quote_plain {l:List UInt8} (h:∀ b∈l,za2 b=true):zaF (mkB l)=34::(l++[34]):=by
 have key:∀ (n p:Nat),(mkB l).size-p=n→zac (mkB l) p=l.drop p:=by
  intro n
  induction n using Nat.strongRecOn with
  | _ n ih=>
   intro p hn
   rw[z7] at hn
   rcases Nat.lt_or_ge p l.length with hp | hp
   · have hb:bts (mkB l) p=l.drop p:=by unfold bts;rw[←zbL l];rfl
     have hdr:l.drop p=l[p]::l.drop (p+1):=List.drop_eq_getElem_cons hp
     have hq:=h l[p] (List.getElem_mem hp)
     unfold za2 at hq;simp only[Bool.and_eq_true,decide_eq_true_eq] at hq
     obtain ⟨⟨⟨h1,h2⟩,h3⟩,h4⟩:=hq
     have hd:decL (bts (mkB l) p)=(l[p].toNat,1):=by rw[hb,hdr];exact zZ h1
     have hr:decR (mkB l) p=l[p].toNat:=by rw[zbW,hd]
     have hw:decW (mkB l) p=1:=by rw[zbV,hd]
     rw[zaH (by rw[z7];exact hp),piece_4 (by rw[hr];omega) (by rw[hr];exact h4) (by rw[hr];omega),hr,hw,enc_asc h1,ih (l.length-(p+1)) (by omega) (p+1) (by rw[z7]),hdr]
     simp
   · rw[zbg (by rw[z7];exact hp),List.drop_eq_nil_of_le hp]
 unfold zaF;rw[key _ 0 rfl,List.drop_zero]
def firstA (l:List UInt8):Option (TokD×Nat):=
 match l with
 | []=>none
 | c::r=>
  if zG (c.toNat:Int)=1 then
   if zcI 0 ((l.take (runA isLD l)).map (fun b=>(b.toNat:Int)))=true∧0<runA isLD l then some (⟨1,0,mkB (l.take (runA isLD l))⟩,runA isLD l) else none
  else if zG (c.toNat:Int)=2 then
   if 13<runA isD l∨1000000000000<digV (l.take (runA isD l))∨runA isD l=0 then none
   else if runA isLD l=runA isD l then some (⟨2,0,mkB (digK 20 (digV (l.take (runA isD l))))⟩,runA isD l)
   else if secB (mkB ((l.take (runA isLD l)).drop (runA isD l)))=0∨1000000000 / secB (mkB ((l.take (runA isLD l)).drop (runA isD l)))<digV (l.take (runA isD l))∨1000000000000<digV (l.take (runA isD l))*secB (mkB ((l.take (runA isLD l)).drop (runA isD l)))∨runA isLD l=0 then none
   else some (⟨4,0,mkB (digK 20 (digV (l.take (runA isD l))*secB (mkB ((l.take (runA isLD l)).drop (runA isD l)))))⟩,runA isLD l)
  else if c.toNat=34 then
   if (r.drop (r.takeWhile za2).length).head?=some 34 then some (⟨3,0,mkB (r.takeWhile za2)⟩,(r.takeWhile za2).length+2) else none
  else if (zbD l).2=0 then none else some (zbD l)
theorem firstA_ok {l:List UInt8} (ha:asc l=true) {t:TokD} {n:Nat} (h:firstA l=some (t,n)):zt l=(t,n)∧n≠0:=by
 cases l with
 | nil=>cases h
 | cons c r=>
  have hc:=(asc_cons ha).1
  have hd:=zZ (t:=r) hc
  unfold firstA at h
  simp only at h
  unfold zt;rw[hd]
  by_cases h1:zG (c.toNat:Int)=1
  · rw[if_pos h1] at h ⊢
    split at h
    · rename_i h2
      injection h with h;injection h with e1 e2
      subst e1;subst e2
      refine⟨?_,by omega⟩
      unfold zbH
      rw[zdO _ _ ha]
      have hn:zb0 (mkB ((c::r).take (runA isLD (c::r))))=true:=by unfold zb0;rw[runes_asc (asc_take ha _)];exact h2.1
      rw[if_pos hn]
    · cases h
  · rw[if_neg h1] at h ⊢
    by_cases h2:zG (c.toNat:Int)=2
    · rw[if_pos h2] at h ⊢
      unfold numT
      rw[zdO _ _ ha,zdO _ _ ha]
      split at h
      · cases h
      · rename_i h3
        rw[if_neg (by omega)]
        split at h
        · rename_i h4
          injection h with h;injection h with e1 e2
          subst e1;subst e2
          rw[if_pos h4,digK_B (by omega)];exact⟨rfl,by omega⟩
        · rename_i h4
          split at h
          · cases h
          · rename_i h5
            injection h with h;injection h with e1 e2
            subst e1;subst e2
            rw[if_neg h4,if_neg (by omega),digK_B (by omega)];exact⟨rfl,by omega⟩
    · rw[if_neg h2] at h ⊢
      by_cases h3:c.toNat=34
      · rw[if_pos h3] at h
        split at h
        · rename_i h4
          injection h with h;injection h with e1 e2
          subst e1;subst e2
          refine⟨?_,by omega⟩
          have hr:r=r.takeWhile za2++34::r.drop ((r.takeWhile za2).length+1):=by
           have e1:r=r.take (r.takeWhile za2).length++r.drop (r.takeWhile za2).length:=(List.take_append_drop _ _).symm
           have e2:r.take (r.takeWhile za2).length=r.takeWhile za2:=by
            have:=List.takeWhile_prefix (l:=r) za2
            exact(List.prefix_iff_eq_take.1 this).symm
           have e3:r.drop (r.takeWhile za2).length=34::r.drop ((r.takeWhile za2).length+1):=by
            cases hh:r.drop (r.takeWhile za2).length with
            | nil=>rw[hh] at h4;cases h4
            | cons y z=>
             rw[hh] at h4
             have:y=34:=by simpa using h4
             subst this
             congr 1
             have:=congrArg List.tail hh
             rw[List.tail_drop] at this
             exact this.symm
           rw[←e3,←e2];rw[e2];exact e1.trans (by rw[e2])
          have hq:=quote_plain (l:=r.takeWhile za2) (fun b hb=>by
           have:=List.all_takeWhile (p:=za2) (l:=r)
           exact List.all_eq_true.1 this b hb)
          have hc34:c=34:=UInt8.toNat_inj.1 h3
          have hl:c::r=zaF (mkB (r.takeWhile za2))++r.drop ((r.takeWhile za2).length+1):=by
           rw[hq,hc34];simp only[List.cons_append,List.append_assoc,List.nil_append];congr 1
          have hs:=strT_quote (mkB (r.takeWhile za2)) (r.drop ((r.takeWhile za2).length+1))
          rw[←hl] at hs
          unfold zt at hs
          rw[hd,if_neg h1,if_neg h2] at hs
          rw[hs,hq]
          simp
        · cases h
      · rw[if_neg h3] at h
        have h3':¬(c.toNat,1).1=34:=h3
        rw[if_neg h3']
        split at h
        · cases h
        · rename_i h4;injection h with h;rw[h] at h4 ⊢;exact⟨rfl,h4⟩
def lexA:Nat→List UInt8→Nat→Option (List TokD)
 | 0,_,_=>none
 | f+1,l,a=>
  if l.drop (runA isB l)=[] then some []
  else match firstA (l.drop (runA isB l)) with
   | none=>none
   | some (t,n)=>(lexA f ((l.drop (runA isB l)).drop n) (a+runA isB l+n)).map (t.put (a+runA isB l)::·)
theorem lexA_ok:∀ (f:Nat) (l:List UInt8) (a:Nat) (ts:List TokD),asc l=true→lexA f l a=some ts→zV l a=some ts
 | 0,l,a,ts,_,h=>by cases h
 | f+1,l,a,ts,ha,h=>by
  unfold lexA at h
  have hb:=zdO isB l ha
  unfold zV;rw[hb]
  split at h
  · rename_i h0;injection h with h;subst h;rw[h0];exact zax
  · rename_i h0
    cases e:firstA (l.drop (runA isB l)) with
    | none=>rw[e] at h;cases h
    | some p=>
     obtain ⟨t,n⟩:=p
     rw[e] at h
     simp only at h
     obtain ⟨e1,e2⟩:=firstA_ok (asc_drop ha _) e
     cases e3:lexA f ((l.drop (runA isB l)).drop n) (a+runA isB l+n) with
     | none=>rw[e3] at h;cases h
     | some t2=>
      rw[e3] at h
      have h:t.put (a+runA isB l)::t2=ts:=by injection h
      have ih:=lexA_ok f _ _ _ (asc_drop (asc_drop ha _) n) e3
      have hlen:(l.drop (runA isB l)).length≤l.length:=by rw[List.length_drop];omega
      rw[zaX h0 (by rw[e1];exact e2) hlen,e1]
      simp only
      rw[ih]
      show some _=some _
      rw[←h]
theorem lexA_lex {s:ByteArray} {ts:List TokD} (h:lexA (s.size+1) (bl8 s) 0=some ts) (ha:asc (bl8 s)=true) (hs:s.size≤600):lexL s=ts∧lexE s=0:=lex_of hs (lexA_ok _ _ _ _ ha h)
end Lp
set_option linter.unusedVariables false
namespace Lp
open Go
abbrev a8S1:ByteArray:=(⟨#[49,43,50,42,45,51]⟩:ByteArray)
abbrev a8S2:ByteArray:=(⟨#[115,117,109,32,98,121,32,40,104,111,115,116,41,32,40,99,112,117,123,97,61,34,98,34,125,41,32,111,114,100,101,114,32,100,101,115,99,32,108,105,109,105,116,32,51]⟩:ByteArray)
abbrev a8T1:List TokD:=[⟨2,0,(⟨#[49]⟩:ByteArray)⟩,⟨5,1,(⟨#[43]⟩:ByteArray)⟩,⟨2,2,(⟨#[50]⟩:ByteArray)⟩,⟨5,3,(⟨#[42]⟩:ByteArray)⟩,⟨5,4,(⟨#[45]⟩:ByteArray)⟩,⟨2,5,(⟨#[51]⟩:ByteArray)⟩]
abbrev a8T2:List TokD:=[⟨1,0,(⟨#[115,117,109]⟩:ByteArray)⟩,⟨1,4,(⟨#[98,121]⟩:ByteArray)⟩,⟨5,7,(⟨#[40]⟩:ByteArray)⟩,⟨1,8,(⟨#[104,111,115,116]⟩:ByteArray)⟩,⟨5,12,(⟨#[41]⟩:ByteArray)⟩,⟨5,14,(⟨#[40]⟩:ByteArray)⟩,⟨1,15,(⟨#[99,112,117]⟩:ByteArray)⟩,⟨5,18,(⟨#[123]⟩:ByteArray)⟩,⟨1,19,(⟨#[97]⟩:ByteArray)⟩,⟨5,20,(⟨#[61]⟩:ByteArray)⟩,⟨3,21,(⟨#[98]⟩:ByteArray)⟩,⟨5,24,(⟨#[125]⟩:ByteArray)⟩,⟨5,25,(⟨#[41]⟩:ByteArray)⟩,⟨1,27,(⟨#[111,114,100,101,114]⟩:ByteArray)⟩,⟨1,33,(⟨#[100,101,115,99]⟩:ByteArray)⟩,⟨1,38,(⟨#[108,105,109,105,116]⟩:ByteArray)⟩,⟨2,44,(⟨#[51]⟩:ByteArray)⟩]
abbrev a8P:ByteArray:=(⟨#[49,32,43,32,40,50,32,42,32,40,45,51,41,41]⟩:ByteArray)
theorem al8_1:lexL a8S1=a8T1∧lexE a8S1=0:=lexA_lex (by kernel_rfl) (by decide) (by decide)
theorem al8_2:lexL a8S2=a8T2∧lexE a8S2=0:=lexA_lex (by kernel_rfl) (by decide) (by decide)
def a8n (n:Nat):Nd:=.mk tNum ByteArray.empty (n:Int) 0 [] [] []
def a8K1:List Nd:=[a8n 1,.mk tBin zcT 0 0 [] [] [a8n 2,.mk tNeg ByteArray.empty 0 0 [] [] [a8n 3]]]
def a8K2:List Nd:=[.mk nSel (⟨#[99,112,117]⟩:ByteArray) 0 0 [] [⟨(⟨#[97]⟩:ByteArray),1,(⟨#[98]⟩:ByteArray)⟩] []]
theorem rd_is {s:ByteArray} {l:List TokD} {q:QryD} (h:lexL s=l∧lexE s=0) (hp:zcU rmD l=some q):zW s=0∧zbc s=q:=by
 unfold zW zbc;rw[if_pos h.2,if_pos h.2,h.1,hp];exact⟨rfl,rfl⟩
theorem al8_r1:zW a8S1=0∧zbc a8S1=⟨.mk tBin zeb 0 0 [] [] a8K1,0,-1,-1⟩:=rd_is al8_1 (by kernel_rfl)
theorem al8_r2:zW a8S2=0∧zbc a8S2=⟨.mk tAgg (⟨#[115,117,109]⟩:ByteArray) 0 1 [(⟨#[104,111,115,116]⟩:ByteArray)] [] a8K2,2,3,-1⟩:=rd_is al8_2 (by kernel_rfl)
end Lp
set_option linter.unusedVariables false
namespace Lp
open Go
abbrev d1:ByteArray:=⟨#[49]⟩
end Lp
set_option linter.unusedVariables false
namespace Lp
open Go
theorem cnt_mem {l:List Nd} {x:Nd} (h:x∈l):x.cnt≤Nd.cntL l:=by
 induction l with
 | nil=>cases h
 | cons y l ih=>
  simp only[Nd.cntL]
  rcases List.mem_cons.1 h with e | e
  · rw[e];omega
  · have:=ih e;omega
theorem Nd.ind {p:Nd→Prop} (h:∀ op text n mode names ms kids,(∀ x∈kids,p x)→p (.mk op text n mode names ms kids)):∀ q,p q:=by
 have key:∀ (n:Nat) (q:Nd),q.cnt=n→p q:=by
  intro n
  induction n using Nat.strongRecOn with
  | _ n ih=>
   intro q hq
   obtain ⟨op,text,n',mode,names,ms,kids⟩:=q
   refine h op text n' mode names ms kids (fun x hx=>ih x.cnt ?_ x rfl)
   have:=cnt_mem hx
   simp only[Nd.cnt] at hq;omega
 exact fun q=>key q.cnt q rfl
inductive Ask where
 | leaf (k:Int)
 | whole (a b:Int)
 | plain
 | pair (m:Int)
 | none
end Lp
set_option linter.unusedVariables false
namespace Lp
open Go
deriving instance DecidableEq for MatD
noncomputable def Nd.eqB (a b:Nd):Bool:=@decide (a=b) (Classical.propDecidable _)
theorem eqB_t {a b:Nd} (h:a=b):true=a.eqB b:=(@decide_eq_true _ (Classical.propDecidable _) h).symm
theorem zeB {a b:Nd} (h:a≠b):false=a.eqB b:=(@decide_eq_false _ (Classical.propDecidable _) h).symm
theorem eqB_is {a b:Nd}:a.eqB b=true↔a=b:=⟨fun h=>@of_decide_eq_true _ (Classical.propDecidable _) h,fun h=>(eqB_t h).symm⟩
theorem eqB_no {a b:Nd}:a.eqB b=false↔a≠b:=⟨fun h=>@of_decide_eq_false _ (Classical.propDecidable _) h,fun h=>(zeB h).symm⟩
noncomputable def zbP (a b:QryD):Bool:=decide (a.order=b.order)&&decide (a.limit=b.limit)&&decide (a.offset=b.offset)&&a.root.eqB b.root
theorem sameQ_is {a b:QryD}:zbP a b=true↔a=b:=by
 obtain ⟨a1,a2,a3,a4⟩:=a
 obtain ⟨b1,b2,b3,b4⟩:=b
 unfold zbP
 simp only[Bool.and_eq_true,decide_eq_true_eq,eqB_is,QryD.mk.injEq]
 constructor
 · rintro ⟨⟨⟨h1,h2⟩,h3⟩,h4⟩;exact⟨h4,h1,h2,h3⟩
 · rintro ⟨h4,h1,h2,h3⟩;exact⟨⟨⟨h1,h2⟩,h3⟩,h4⟩
theorem tk_ne {α:Type} {a b:List α} {k:Nat} {x y:α} (hx:a[k]?=some x) (hy:b[k]?=some y) (h:x≠y):a≠b:=by
 rintro rfl;rw[hx] at hy;injection hy with e;exact h e
theorem tk_go {α:Type} {a b:List α} {k:Nat} {x y:α} (hx:a[k]?=some x) (hy:b[k]?=some y) (hf:a.take k=b.take k) (h:x=y):a.take (k+1)=b.take (k+1):=by
 rw[take_snoc hx,take_snoc hy,hf,h]
theorem tk_all {α:Type} {a b:List α} {k:Nat} (h1:a.length≤k) (h2:b.length≤k) (hf:a.take k=b.take k):a=b:=by
 rwa [List.take_of_length_le h1,List.take_of_length_le h2] at hf
theorem mk_eq {a1 a2 b1 b2:ByteArray} {a3 a4 b3 b4:Int} {a5 b5:List ByteArray} {a6 b6:List MatD} {a7 b7:List Nd} (h1:a1=b1) (h2:a2=b2) (h3:a3=b3) (h4:a4=b4) (h5:a5=b5) (h6:a6=b6) (h7:a7=b7):Nd.mk a1 a2 a3 a4 a5 a6 a7=Nd.mk b1 b2 b3 b4 b5 b6 b7:=by
 subst h1;subst h2;subst h3;subst h4;subst h5;subst h6;subst h7;rfl
end Lp
