import Derived.Test.YtheccaeefigajaaGreatDoorPPr
set_option linter.unusedSimpArgs false
set_option linter.unusedVariables false
set_option maxHeartbeats 4000000
set_option maxRecDepth 100000
namespace Lp
open Go Go.RowKit Go.Proofs
namespace HdYtheccaeefigajaaGreatDoorV105
theorem bd_113:∀ w,((#[⟨"n",3,0,false, "", "leporello/parse",0⟩]:Array Field).mapM fun f=>do pure (f.offset,←Go.sizeOf f.type):Sem (Array (Nat×Nat))).run Tryz.prog w=.ok ([(0,1)]:List (Nat×Nat)).toArray w:=fun _=>by kernel_rfl
theorem bd_116:∀ w,((#[⟨"kid",27,0,false, "", "leporello/parse",0⟩]:Array Field).mapM fun f=>do pure (f.offset,←Go.sizeOf f.type):Sem (Array (Nat×Nat))).run Tryz.prog w=.ok ([(0,7)]:List (Nat×Nat)).toArray w:=fun _=>by kernel_rfl
theorem bd_119:∀ w,((#[⟨"n",27,0,false, "", "leporello/parse",0⟩]:Array Field).mapM fun f=>do pure (f.offset,←Go.sizeOf f.type):Sem (Array (Nat×Nat))).run Tryz.prog w=.ok ([(0,7)]:List (Nat×Nat)).toArray w:=fun _=>by kernel_rfl
theorem bd_122:∀ w,((#[⟨"n",27,0,false, "", "leporello/parse",0⟩]:Array Field).mapM fun f=>do pure (f.offset,←Go.sizeOf f.type):Sem (Array (Nat×Nat))).run Tryz.prog w=.ok ([(0,7)]:List (Nat×Nat)).toArray w:=fun _=>by kernel_rfl
theorem bd_124:∀ w,((#[⟨"n",27,0,false, "", "leporello/parse",0⟩]:Array Field).mapM fun f=>do pure (f.offset,←Go.sizeOf f.type):Sem (Array (Nat×Nat))).run Tryz.prog w=.ok ([(0,7)]:List (Nat×Nat)).toArray w:=fun _=>by kernel_rfl
theorem bd_126:∀ w,((#[⟨"n",27,0,false, "", "leporello/parse",0⟩]:Array Field).mapM fun f=>do pure (f.offset,←Go.sizeOf f.type):Sem (Array (Nat×Nat))).run Tryz.prog w=.ok ([(0,7)]:List (Nat×Nat)).toArray w:=fun _=>by kernel_rfl
theorem zT (b o:Nat):∀ w,(Instr.fieldAt 27 (.pointer (some ⟨b,o,none⟩)) 0).run Tryz.prog w=.ok (.pointer (some ⟨b,o+0,none⟩)) w:=fun _=>by kernel_rfl
theorem zaq (b o:Nat):∀ w,(Instr.fieldAt 27 (.pointer (some ⟨b,o,none⟩)) 2).run Tryz.prog w=.ok (.pointer (some ⟨b,o+2,none⟩)) w:=fun _=>by kernel_rfl
theorem zaI (b o:Nat):∀ w,(Instr.fieldAt 27 (.pointer (some ⟨b,o,none⟩)) 6).run Tryz.prog w=.ok (.pointer (some ⟨b,o+6,none⟩)) w:=fun _=>by kernel_rfl
end HdYtheccaeefigajaaGreatDoorV105
open HdYtheccaeefigajaaGreatDoorV105
abbrev PrT (t:ByteArray):D→List Hp→Prop:=fun r H'=>r=.s t∧H'=[HPow]
theorem lift_num (text:ByteArray) (n:Nat) (mode:Int) (names:List ByteArray) (ms:List MatD) :
 CD Tryz.prog 98 [] [.agg [.s (⟨#[110,117,109]⟩:ByteArray),.s text,dN n,dI mode,.sh 1 (names.map D.s),.sh 3 (ms.map MatD.d),.sh 7 []]] (isR (.ifc 113 (.agg [dN n]))):=by
 refine zq Tryz.func98 J (N:=69) J J (fun C=>?_)
 refine jk [0] J ?_
 refine JD.bd 0 J (fun bd0=>?_)
 refine jT J (oE J (zaD J (CellD.agg)) ?_)
 rintro _ _ ⟨g1,rfl,rfl⟩
 refine oR 1 J (oZ J (jT J (oP J (zc J zaI J) (oP J (ze J (i:=0) J Tryz.isAgg25 J) (oP J (zaB (n:=0) J Tryz.runUnderlying25 J) (oR 1 J (oZ J (jS J (jB J (jT J (oP J (zc J zT J) (oP J (ze J (i:=0) J Tryz.isAgg9 J) (oP J (zal J J (decide_eq_true (by decide))) (oR 1 rfl (oZ rfl (jCt rfl (jT rfl (oP rfl (zc rfl zaq rfl) (oP rfl (ze rfl (i:=0) rfl Tryz.isAgg3 rfl) (oP rfl (zI [0] [.tmp 12] (zv:=(.agg #[(.int .i64 0)])) rfl rfl (.cons (CellD.v rfl) .nil) (Tryz.runUnderlying113) Tryz.zeroValue113 bd_113 ⟨rfl,trivial⟩ rfl) (oP rfl (zam rfl (fun _ _=>by kernel_rfl)) (oR 1 rfl (oZ rfl (jk [2] rfl (zo rfl (zm (zj ?_)))))))))))))))))))))))))))
 exact zi Tryz.results98 (.cons (zl J) .nil) J HSub.none ⟨rfl,J⟩
theorem lift_neg (text:ByteArray) (n:Nat) (mode:Int) (names:List ByteArray) (ms:List MatD) (xa xb:ByteArray) (xc xd:Int) (xe:List ByteArray) (xf:List MatD) (xg:List Nd) :
 CD Tryz.prog 98 [] [.agg [.s (⟨#[110,101,103]⟩:ByteArray),.s text,dN n,dI mode,.sh 1 (names.map D.s),.sh 3 (ms.map MatD.d),.sh 7 [.agg [.s xa,.s xb,dI xc,dI xd,.sh 1 (xe.map D.s),.sh 3 (xf.map MatD.d),.sh 7 (Nd.ds xg)]]]] (isR (.ifc 116 (.agg [.s xa,.s xb,dI xc,dI xd,.sh 1 (xe.map D.s),.sh 3 (xf.map MatD.d),.sh 7 (Nd.ds xg)]))):=by
 refine zq Tryz.func98 J (N:=69) J J (fun C=>?_)
 refine jk [0] J ?_
 refine JD.bd 0 J (fun bd0=>?_)
 refine jT J (oE J (zaD J (CellD.agg)) ?_)
 rintro _ _ ⟨g1,rfl,rfl⟩
 refine oR 1 J (oZ J (jT J (oP J (zc J zaI J) (oP J (ze J (i:=0) J Tryz.isAgg25 J) (oP J (zaB (n:=1) J Tryz.runUnderlying25 J) (oR 1 J (oZ J (jS J (jB J (jT J (oP J (zc J zT J) (oP J (ze J (i:=0) J Tryz.isAgg9 J) (oP J (zal J J (decide_eq_false (by decide))) (oR 1 rfl (oZ rfl (jCf rfl (jT rfl (oP rfl (zc rfl zT rfl) (oP rfl (ze rfl (i:=0) rfl Tryz.isAgg9 rfl) (oP rfl (zal rfl rfl (decide_eq_true (by decide))) (oR 2 rfl (oG rfl (zK rfl rfl (decide_eq_true (by decide))) (oR 2 rfl (oZ rfl (jk [1,2,3,15] rfl (jCt rfl (jT rfl (oP rfl (zc rfl zaI rfl) (oP rfl (ze rfl (i:=0) rfl Tryz.isAgg25 rfl) (oP rfl (zA (k:=0) rfl rfl Tryz.runUnderlying25 Tryz.sizeOf27 (by first | rfl | omega) rfl) (oP rfl (zau (d:=.agg [.s xa,.s xb,dI xc,dI xd,.sh 1 (xe.map D.s),.sh 3 (xf.map MatD.d),.sh 7 (Nd.ds xg)]) rfl Tryz.isAgg27 Tryz.sizeOf27 rfl rfl) (oP rfl (zI [0] [.tmp 26] (zv:=(.agg #[(.string ByteArray.empty),(.string ByteArray.empty),(.int .i64 0),(.int .i64 0),(.slice none 0 0),(.slice none 0 0),(.slice none 0 0)])) rfl rfl (.cons CellD.agg .nil) (Tryz.runUnderlying116) Tryz.zeroValue116 bd_116 ⟨rfl,rfl,rfl,rfl,rfl,rfl,rfl,trivial⟩ rfl) (oP rfl (zam rfl (fun _ _=>by kernel_rfl)) (oR 1 rfl (oZ rfl (jk [2] rfl (zo rfl (zm ?_))))))))))))))))))))))))))))))))))))))
 refine zj ?_
 exact zi Tryz.results98 (.cons (zl J) .nil) J HSub.none ⟨rfl,J⟩
theorem lift_bin (text:ByteArray) (n:Nat) (mode:Int) (names:List ByteArray) (ms:List MatD) (xa xb:ByteArray) (xc xd:Int) (xe:List ByteArray) (xf:List MatD) (xg:List Nd) (ya yb:ByteArray) (yc yd:Int) (ye:List ByteArray) (yf:List MatD) (yg:List Nd) :
 CD Tryz.prog 98 [] [.agg [.s (⟨#[98,105,110]⟩:ByteArray),.s text,dN n,dI mode,.sh 1 (names.map D.s),.sh 3 (ms.map MatD.d),.sh 7 [.agg [.s xa,.s xb,dI xc,dI xd,.sh 1 (xe.map D.s),.sh 3 (xf.map MatD.d),.sh 7 (Nd.ds xg)],.agg [.s ya,.s yb,dI yc,dI yd,.sh 1 (ye.map D.s),.sh 3 (yf.map MatD.d),.sh 7 (Nd.ds yg)]]]] (isR (.ifc 119 (.agg [.s (⟨#[98,105,110]⟩:ByteArray),.s text,dN n,dI mode,.sh 1 (names.map D.s),.sh 3 (ms.map MatD.d),.sh 7 [.agg [.s xa,.s xb,dI xc,dI xd,.sh 1 (xe.map D.s),.sh 3 (xf.map MatD.d),.sh 7 (Nd.ds xg)],.agg [.s ya,.s yb,dI yc,dI yd,.sh 1 (ye.map D.s),.sh 3 (yf.map MatD.d),.sh 7 (Nd.ds yg)]]]))):=by
 refine zq Tryz.func98 J (N:=69) J J (fun C=>?_)
 refine jk [0] J ?_
 refine JD.bd 0 J (fun bd0=>?_)
 refine jT J (oE J (zaD J (CellD.agg)) ?_)
 rintro _ _ ⟨g1,rfl,rfl⟩
 refine oR 1 J (oZ J (jT J (oP J (zc J zaI J) (oP J (ze J (i:=0) J Tryz.isAgg25 J) (oP J (zaB (n:=2) J Tryz.runUnderlying25 J) (oR 1 J (oZ J (jS J (jB J (jT J (oP J (zc J zT J) (oP J (ze J (i:=0) J Tryz.isAgg9 J) (oP J (zal J J (decide_eq_false (by decide))) (oR 1 rfl (oZ rfl (jCf rfl (jT rfl (oP rfl (zc rfl zT rfl) (oP rfl (ze rfl (i:=0) rfl Tryz.isAgg9 rfl) (oP rfl (zal rfl rfl (decide_eq_false (by decide))) (oR 5 rfl (oZ rfl (jk [1,2,3,15] rfl (jCf rfl (jT rfl (oP rfl (zc rfl zT rfl) (oP rfl (ze rfl (i:=0) rfl Tryz.isAgg9 rfl) (oP rfl (zal rfl rfl (decide_eq_true (by decide))) (oR 2 rfl (oG rfl (zK rfl rfl (decide_eq_true (by decide))) (oR 2 rfl (oZ rfl (jCt rfl (jT rfl (oP rfl (zx (d:=.agg [.s (⟨#[98,105,110]⟩:ByteArray),.s text,dN n,dI mode,.sh 1 (names.map D.s),.sh 3 (ms.map MatD.d),.sh 7 [.agg [.s xa,.s xb,dI xc,dI xd,.sh 1 (xe.map D.s),.sh 3 (xf.map MatD.d),.sh 7 (Nd.ds xg)],.agg [.s ya,.s yb,dI yc,dI yd,.sh 1 (ye.map D.s),.sh 3 (yf.map MatD.d),.sh 7 (Nd.ds yg)]]]) rfl (i:=0) rfl Tryz.isAgg27 Tryz.sizeOf27 rfl rfl) ?_)))))))))))))))))))))))))))))))))))
 refine oP J (zI [0] [.tmp 37] (zv:=(.agg #[(.string ByteArray.empty),(.string ByteArray.empty),(.int .i64 0),(.int .i64 0),(.slice none 0 0),(.slice none 0 0),(.slice none 0 0)])) J J (.cons CellD.agg .nil) (Tryz.runUnderlying119) Tryz.zeroValue119 bd_119 ⟨J,J,J,J,J,J,J,trivial⟩ J) (oP J (zam J (fun _ _=>by kernel_rfl)) (oR 1 rfl (oZ rfl (jk [2] rfl (zo rfl (zm (zj ?_)))))))
 exact zi Tryz.results98 (.cons (zl J) .nil) J HSub.none ⟨rfl,J⟩
theorem lift_agg (text:ByteArray) (n:Nat) (mode:Int) (names:List ByteArray) (ms:List MatD) (xa xb:ByteArray) (xc xd:Int) (xe:List ByteArray) (xf:List MatD) (xg:List Nd) :
 CD Tryz.prog 98 [] [.agg [.s (⟨#[97,103,103]⟩:ByteArray),.s text,dN n,dI mode,.sh 1 (names.map D.s),.sh 3 (ms.map MatD.d),.sh 7 [.agg [.s xa,.s xb,dI xc,dI xd,.sh 1 (xe.map D.s),.sh 3 (xf.map MatD.d),.sh 7 (Nd.ds xg)]]]] (isR (.ifc 122 (.agg [.s (⟨#[97,103,103]⟩:ByteArray),.s text,dN n,dI mode,.sh 1 (names.map D.s),.sh 3 (ms.map MatD.d),.sh 7 [.agg [.s xa,.s xb,dI xc,dI xd,.sh 1 (xe.map D.s),.sh 3 (xf.map MatD.d),.sh 7 (Nd.ds xg)]]]))):=by
 refine zq Tryz.func98 J (N:=69) J J (fun C=>?_)
 refine jk [0] J ?_
 refine JD.bd 0 J (fun bd0=>?_)
 refine jT J (oE J (zaD J (CellD.agg)) ?_)
 rintro _ _ ⟨g1,rfl,rfl⟩
 refine oR 1 J (oZ J (jT J (oP J (zc J zaI J) (oP J (ze J (i:=0) J Tryz.isAgg25 J) (oP J (zaB (n:=1) J Tryz.runUnderlying25 J) (oR 1 J (oZ J (jS J (jB J (jT J (oP J (zc J zT J) (oP J (ze J (i:=0) J Tryz.isAgg9 J) (oP J (zal J J (decide_eq_false (by decide))) (oR 1 rfl (oZ rfl (jCf rfl (jT rfl (oP rfl (zc rfl zT rfl) (oP rfl (ze rfl (i:=0) rfl Tryz.isAgg9 rfl) (oP rfl (zal rfl rfl (decide_eq_false (by decide))) (oR 5 rfl (oZ rfl (jk [1,2,3,15] rfl (jCf rfl (jT rfl (oP rfl (zc rfl zT rfl) (oP rfl (ze rfl (i:=0) rfl Tryz.isAgg9 rfl) (oP rfl (zal rfl rfl (decide_eq_false (by decide))) (oR 5 rfl (oZ rfl (jCf rfl (jT rfl (oP rfl (zc rfl zT rfl) (oP rfl (ze rfl (i:=0) rfl Tryz.isAgg9 rfl) (oP rfl (zal rfl rfl (decide_eq_true (by decide))) (oR 2 rfl (oG rfl (zK rfl rfl (decide_eq_true (by decide))) (oR 2 rfl (oZ rfl (jk [1,2,3,40] rfl (jCt rfl (jT rfl (oP rfl (zx (d:=.agg [.s (⟨#[97,103,103]⟩:ByteArray),.s text,dN n,dI mode,.sh 1 (names.map D.s),.sh 3 (ms.map MatD.d),.sh 7 [.agg [.s xa,.s xb,dI xc,dI xd,.sh 1 (xe.map D.s),.sh 3 (xf.map MatD.d),.sh 7 (Nd.ds xg)]]]) rfl (i:=0) rfl Tryz.isAgg27 Tryz.sizeOf27 rfl rfl) ?_)))))))))))))))))))))))))))))))))))))))))))
 refine oP J (zI [0] [.tmp 48] (zv:=(.agg #[(.string ByteArray.empty),(.string ByteArray.empty),(.int .i64 0),(.int .i64 0),(.slice none 0 0),(.slice none 0 0),(.slice none 0 0)])) J J (.cons CellD.agg .nil) (Tryz.runUnderlying122) Tryz.zeroValue122 bd_122 ⟨J,J,J,J,J,J,J,trivial⟩ J) (oP J (zam J (fun _ _=>by kernel_rfl)) (oR 1 rfl (oZ rfl (zo rfl (zm (zj ?_))))))
 exact zi Tryz.results98 (.cons (zl J) .nil) J HSub.none ⟨rfl,J⟩
theorem lift_fn (text:ByteArray) (n:Nat) (mode:Int) (names:List ByteArray) (ms:List MatD) (xa xb:ByteArray) (xc xd:Int) (xe:List ByteArray) (xf:List MatD) (xg:List Nd) :
 CD Tryz.prog 98 [] [.agg [.s (⟨#[102,110]⟩:ByteArray),.s text,dN n,dI mode,.sh 1 (names.map D.s),.sh 3 (ms.map MatD.d),.sh 7 [.agg [.s xa,.s xb,dI xc,dI xd,.sh 1 (xe.map D.s),.sh 3 (xf.map MatD.d),.sh 7 (Nd.ds xg)]]]] (isR (.ifc 124 (.agg [.s (⟨#[102,110]⟩:ByteArray),.s text,dN n,dI mode,.sh 1 (names.map D.s),.sh 3 (ms.map MatD.d),.sh 7 [.agg [.s xa,.s xb,dI xc,dI xd,.sh 1 (xe.map D.s),.sh 3 (xf.map MatD.d),.sh 7 (Nd.ds xg)]]]))):=by
 refine zq Tryz.func98 J (N:=69) J J (fun C=>?_)
 refine jk [0] J ?_
 refine JD.bd 0 J (fun bd0=>?_)
 refine jT J (oE J (zaD J (CellD.agg)) ?_)
 rintro _ _ ⟨g1,rfl,rfl⟩
 refine oR 1 J (oZ J (jT J (oP J (zc J zaI J) (oP J (ze J (i:=0) J Tryz.isAgg25 J) (oP J (zaB (n:=1) J Tryz.runUnderlying25 J) (oR 1 J (oZ J (jS J (jB J (jT J (oP J (zc J zT J) (oP J (ze J (i:=0) J Tryz.isAgg9 J) (oP J (zal J J (decide_eq_false (by decide))) (oR 1 rfl (oZ rfl (jCf rfl (jT rfl (oP rfl (zc rfl zT rfl) (oP rfl (ze rfl (i:=0) rfl Tryz.isAgg9 rfl) (oP rfl (zal rfl rfl (decide_eq_false (by decide))) (oR 5 rfl (oZ rfl (jk [1,2,3,15] rfl (jCf rfl (jT rfl (oP rfl (zc rfl zT rfl) (oP rfl (ze rfl (i:=0) rfl Tryz.isAgg9 rfl) (oP rfl (zal rfl rfl (decide_eq_false (by decide))) (oR 5 rfl (oZ rfl (jCf rfl (jT rfl (oP rfl (zc rfl zT rfl) (oP rfl (ze rfl (i:=0) rfl Tryz.isAgg9 rfl) (oP rfl (zal rfl rfl (decide_eq_false (by decide))) (oR 5 rfl (oZ rfl (jk [1,2,3,40] rfl (jCf rfl (jT rfl (oP rfl (zc rfl zT rfl) (oP rfl (ze rfl (i:=0) rfl Tryz.isAgg9 rfl) (oP rfl (zal rfl rfl (decide_eq_true (by decide))) (oR 2 rfl (oG rfl (zK rfl rfl (decide_eq_true (by decide))) (oR 2 rfl (oZ rfl (jk [1,2,51] rfl (jCt rfl (jT rfl ?_))))))))))))))))))))))))))))))))))))))))))))))))))
 refine oP J (zx (d:=.agg [.s (⟨#[102,110]⟩:ByteArray),.s text,dN n,dI mode,.sh 1 (names.map D.s),.sh 3 (ms.map MatD.d),.sh 7 [.agg [.s xa,.s xb,dI xc,dI xd,.sh 1 (xe.map D.s),.sh 3 (xf.map MatD.d),.sh 7 (Nd.ds xg)]]]) J (i:=0) J Tryz.isAgg27 Tryz.sizeOf27 J J) (oP J (zI [0] [.tmp 59] (zv:=(.agg #[(.string ByteArray.empty),(.string ByteArray.empty),(.int .i64 0),(.int .i64 0),(.slice none 0 0),(.slice none 0 0),(.slice none 0 0)])) J J (.cons CellD.agg .nil) (Tryz.runUnderlying124) Tryz.zeroValue124 bd_124 ⟨J,J,J,J,J,J,J,trivial⟩ J) (oP J (zam J (fun _ _=>by kernel_rfl)) (oR 1 rfl (oZ rfl (zo rfl (zm (zj ?_)))))))
 exact zi Tryz.results98 (.cons (zl J) .nil) J HSub.none ⟨rfl,J⟩
theorem lift_sel (text:ByteArray) (n:Nat) (mode:Int) (names:List ByteArray) (ms:List MatD) :
 CD Tryz.prog 98 [] [.agg [.s (⟨#[115,101,108]⟩:ByteArray),.s text,dN n,dI mode,.sh 1 (names.map D.s),.sh 3 (ms.map MatD.d),.sh 7 []]] (isR (.ifc 126 (.agg [.s (⟨#[115,101,108]⟩:ByteArray),.s text,dN n,dI mode,.sh 1 (names.map D.s),.sh 3 (ms.map MatD.d),.sh 7 []]))):=by
 refine zq Tryz.func98 J (N:=69) J J (fun C=>?_)
 refine jk [0] J ?_
 refine JD.bd 0 J (fun bd0=>?_)
 refine jT J (oE J (zaD J (CellD.agg)) ?_)
 rintro _ _ ⟨g1,rfl,rfl⟩
 refine oR 1 J (oZ J (jT J (oP J (zc J zaI J) (oP J (ze J (i:=0) J Tryz.isAgg25 J) (oP J (zaB (n:=0) J Tryz.runUnderlying25 J) (oR 1 J (oZ J (jS J (jB J (jT J (oP J (zc J zT J) (oP J (ze J (i:=0) J Tryz.isAgg9 J) (oP J (zal J J (decide_eq_false (by decide))) (oR 1 rfl (oZ rfl (jCf rfl (jT rfl (oP rfl (zc rfl zT rfl) (oP rfl (ze rfl (i:=0) rfl Tryz.isAgg9 rfl) (oP rfl (zal rfl rfl (decide_eq_false (by decide))) (oR 5 rfl (oZ rfl (jk [1,2,3,15] rfl (jCf rfl (jT rfl (oP rfl (zc rfl zT rfl) (oP rfl (ze rfl (i:=0) rfl Tryz.isAgg9 rfl) (oP rfl (zal rfl rfl (decide_eq_false (by decide))) (oR 5 rfl (oZ rfl (jCf rfl (jT rfl (oP rfl (zc rfl zT rfl) (oP rfl (ze rfl (i:=0) rfl Tryz.isAgg9 rfl) (oP rfl (zal rfl rfl (decide_eq_false (by decide))) (oR 5 rfl (oZ rfl (jk [1,2,3,40] rfl (jCf rfl (jT rfl (oP rfl (zc rfl zT rfl) (oP rfl (ze rfl (i:=0) rfl Tryz.isAgg9 rfl) (oP rfl (zal rfl rfl (decide_eq_false (by decide))) (oR 5 rfl (oZ rfl (jk [1,2,51] rfl (jCf rfl (jT rfl (oP rfl (zc rfl zT rfl) (oP rfl (ze rfl (i:=0) rfl Tryz.isAgg9 rfl) (oP rfl (zal rfl rfl (decide_eq_true (by decide))) (oR 1 rfl (oZ rfl (jCt rfl (jT rfl ?_)))))))))))))))))))))))))))))))))))))))))))))))))))))))
 refine oP J (zx (d:=.agg [.s (⟨#[115,101,108]⟩:ByteArray),.s text,dN n,dI mode,.sh 1 (names.map D.s),.sh 3 (ms.map MatD.d),.sh 7 []]) J (i:=0) J Tryz.isAgg27 Tryz.sizeOf27 J J) (oP J (zI [0] [.tmp 66] (zv:=(.agg #[(.string ByteArray.empty),(.string ByteArray.empty),(.int .i64 0),(.int .i64 0),(.slice none 0 0),(.slice none 0 0),(.slice none 0 0)])) J J (.cons CellD.agg .nil) (Tryz.runUnderlying126) Tryz.zeroValue126 bd_126 ⟨J,J,J,J,J,J,J,trivial⟩ J) (oP J (zam J (fun _ _=>by kernel_rfl)) (oR 1 rfl (oZ rfl (jk [2] rfl (zo rfl (zm (zj ?_))))))))
 exact zi Tryz.results98 (.cons (zl J) .nil) J HSub.none ⟨rfl,J⟩
theorem inner_num (text:ByteArray) (n:Nat) (mode:Int) (names:List ByteArray) (ms:List MatD) (t:ByteArray) (ht:t.size≤100000000) (hn:CD Tryz.prog 34 [HPow] [.agg [.s (⟨#[110,117,109]⟩:ByteArray),.s text,dN n,dI mode,.sh 1 (names.map D.s),.sh 3 (ms.map MatD.d),.sh 7 []]] (PrT t)):
 CD Tryz.prog 99 [HPow] [.agg [.s (⟨#[110,117,109]⟩:ByteArray),.s text,dN n,dI mode,.sh 1 (names.map D.s),.sh 3 (ms.map MatD.d),.sh 7 []]] (PrT (t)):=by
 refine zq Tryz.func99 J (N:=30) J J (fun C=>?_)
 refine jk [0] J ?_
 refine JD.bd 0 J (fun bd0=>?_)
 refine jT J (oE J (zaD J (CellD.agg)) ?_)
 rintro _ _ ⟨g1,rfl,rfl⟩
 refine oR 1 J (oZ J (jT J (oP J (zx (d:=.agg [.s (⟨#[110,117,109]⟩:ByteArray),.s text,dN n,dI mode,.sh 1 (names.map D.s),.sh 3 (ms.map MatD.d),.sh 7 []]) J (i:=0) J Tryz.isAgg27 Tryz.sizeOf27 J J) (oE J (zk [] [.bx g1 27 (.agg [.s (⟨#[110,117,109]⟩:ByteArray),.s text,dN n,dI mode,.sh 1 (names.map D.s),.sh 3 (ms.map MatD.d),.sh 7 []]),HPow] [] J J (.cons ArgC.id .nil) zh Tryz.call98 (lift_num text n mode names ms) (.inl J)) ?_))))
 rintro _ _ ⟨_,⟨rfl,rfl⟩,rfl⟩
 refine on J (oR 1 J (oZ J (jT J (oR 1 J (oP J ((zO (zv:=(.agg #[(.string ByteArray.empty),(.string ByteArray.empty),(.int .i64 0),(.int .i64 0),(.slice none 0 0),(.slice none 0 0),(.slice none 0 0)])) J (fun _ _=>by kernel_rfl)).cv (Cv.tup (.cons (Cv.vagg (by decide)) (.cons Cv.rfl' .nil)))) (oR 3 rfl (oE rfl (zw (zv:=(.agg #[(.string ByteArray.empty),(.string ByteArray.empty),(.int .i64 0),(.int .i64 0),(.slice none 0 0),(.slice none 0 0),(.slice none 0 0)])) Tryz.zeroValue116 ⟨rfl,rfl,rfl,rfl,rfl,rfl,rfl,trivial⟩ (Cv.vagg (by decide))) ?_)))))))
 rintro _ _ ⟨g2,rfl,rfl⟩
 refine oE J (zg (i:=0) (X':=.agg [.v (.string ByteArray.empty),.v (.string ByteArray.empty),dI 0,dI 0,dZ,dZ,dZ]) J J J (CellD.agg) Tryz.sizeOf116 J J J) ?_
 rintro _ _ ⟨rfl,rfl⟩
 refine on J (oR 1 J (oZ J (jk [1,2,3,5] J (jS J (jT J (oR 1 J (oP J ((zO (zv:=(.agg #[(.string ByteArray.empty),(.string ByteArray.empty),(.int .i64 0),(.int .i64 0),(.slice none 0 0),(.slice none 0 0),(.slice none 0 0)])) J (fun _ _=>by kernel_rfl)).cv (Cv.tup (.cons (Cv.vagg (by decide)) (.cons Cv.rfl' .nil)))) (oR 3 rfl (oE rfl (zw (zv:=(.agg #[(.string ByteArray.empty),(.string ByteArray.empty),(.int .i64 0),(.int .i64 0),(.slice none 0 0),(.slice none 0 0),(.slice none 0 0)])) Tryz.zeroValue119 ⟨rfl,rfl,rfl,rfl,rfl,rfl,rfl,trivial⟩ (Cv.vagg (by decide))) ?_)))))))))
 rintro _ _ ⟨g3,rfl,rfl⟩
 refine oE J (zg (i:=0) (X':=.agg [.v (.string ByteArray.empty),.v (.string ByteArray.empty),dI 0,dI 0,dZ,dZ,dZ]) J J J (CellD.agg) Tryz.sizeOf119 J J J) ?_
 rintro _ _ ⟨rfl,rfl⟩
 refine on J (oR 1 J (oZ J (jT J (oR 4 J (oZ J (jk [1,2,23] J (jCf J (zp J (zn (jT J (oP J (zx (d:=.agg [.s (⟨#[110,117,109]⟩:ByteArray),.s text,dN n,dI mode,.sh 1 (names.map D.s),.sh 3 (ms.map MatD.d),.sh 7 []]) J (i:=2) J Tryz.isAgg27 Tryz.sizeOf27 J J) (OpsD.subH (HSub.perm (zd (i:=3) J)) (on J (oE J (zk [HPow] [.bx g3 119 (.agg [.v (.string ByteArray.empty),.v (.string ByteArray.empty),dI 0,dI 0,dZ,dZ,dZ]),.bx g2 116 (.agg [.v (.string ByteArray.empty),.v (.string ByteArray.empty),dI 0,dI 0,dZ,dZ,dZ]),.bx g1 27 (.agg [.s (⟨#[110,117,109]⟩:ByteArray),.s text,dN n,dI mode,.sh 1 (names.map D.s),.sh 3 (ms.map MatD.d),.sh 7 []])] [] J J (.cons ArgC.id .nil) zh Tryz.call34 (hn) (.inl J)) ?_))))))))))))))
 rintro _ _ ⟨_,⟨rfl,rfl⟩,rfl⟩
 refine on J (oR 1 J (oZ J (zo J (pn J ?_))))
 exact zi Tryz.results99 (.cons (zl J) .nil) J (HSub.fst 1 J) ⟨rfl,J⟩
theorem inner_neg (text:ByteArray) (n:Nat) (mode:Int) (names:List ByteArray) (ms:List MatD) (xa xb:ByteArray) (xc xd:Int) (xe:List ByteArray) (xf:List MatD) (xg:List Nd) (t:ByteArray) (ht:t.size≤100000000) (hn:CD Tryz.prog 34 [HPow] [.agg [.s (⟨#[110,101,103]⟩:ByteArray),.s text,dN n,dI mode,.sh 1 (names.map D.s),.sh 3 (ms.map MatD.d),.sh 7 [.agg [.s xa,.s xb,dI xc,dI xd,.sh 1 (xe.map D.s),.sh 3 (xf.map MatD.d),.sh 7 (Nd.ds xg)]]]] (PrT t)):
 CD Tryz.prog 99 [HPow] [.agg [.s (⟨#[110,101,103]⟩:ByteArray),.s text,dN n,dI mode,.sh 1 (names.map D.s),.sh 3 (ms.map MatD.d),.sh 7 [.agg [.s xa,.s xb,dI xc,dI xd,.sh 1 (xe.map D.s),.sh 3 (xf.map MatD.d),.sh 7 (Nd.ds xg)]]]] (PrT (zC++t++zS)):=by
 refine zq Tryz.func99 J (N:=30) J J (fun C=>?_)
 refine jk [0] J ?_
 refine JD.bd 0 J (fun bd0=>?_)
 refine jT J (oE J (zaD J (CellD.agg)) ?_)
 rintro _ _ ⟨g1,rfl,rfl⟩
 refine oR 1 J (oZ J (jT J (oP J (zx (d:=.agg [.s (⟨#[110,101,103]⟩:ByteArray),.s text,dN n,dI mode,.sh 1 (names.map D.s),.sh 3 (ms.map MatD.d),.sh 7 [.agg [.s xa,.s xb,dI xc,dI xd,.sh 1 (xe.map D.s),.sh 3 (xf.map MatD.d),.sh 7 (Nd.ds xg)]]]) J (i:=0) J Tryz.isAgg27 Tryz.sizeOf27 J J) (oE J (zk [] [.bx g1 27 (.agg [.s (⟨#[110,101,103]⟩:ByteArray),.s text,dN n,dI mode,.sh 1 (names.map D.s),.sh 3 (ms.map MatD.d),.sh 7 [.agg [.s xa,.s xb,dI xc,dI xd,.sh 1 (xe.map D.s),.sh 3 (xf.map MatD.d),.sh 7 (Nd.ds xg)]]]),HPow] [] J J (.cons ArgC.id .nil) zh Tryz.call98 (lift_neg text n mode names ms xa xb xc xd xe xf xg) (.inl J)) ?_))))
 rintro _ _ ⟨_,⟨rfl,rfl⟩,rfl⟩
 refine on J (oR 1 J (oZ J (jT J (oR 1 J (oP J (zbn J (fun _ _=>by kernel_rfl)) (oR 3 rfl (oE rfl (zw (zv:=(.agg #[(.string ByteArray.empty),(.string ByteArray.empty),(.int .i64 0),(.int .i64 0),(.slice none 0 0),(.slice none 0 0),(.slice none 0 0)])) Tryz.zeroValue116 ⟨rfl,rfl,rfl,rfl,rfl,rfl,rfl,trivial⟩ (Cv.vagg (by decide))) ?_)))))))
 rintro _ _ ⟨g2,rfl,rfl⟩
 refine oE J (zg (i:=0) (X':=.agg [.s xa,.s xb,dI xc,dI xd,.sh 1 (xe.map D.s),.sh 3 (xf.map MatD.d),.sh 7 (Nd.ds xg)]) J J J (CellD.agg) Tryz.sizeOf116 J J J) ?_
 rintro _ _ ⟨rfl,rfl⟩
 refine on J (oR 1 J (oZ J (jk [1,2,3,5] J (jS J (jT J (oR 1 J (oP J ((zO (zv:=(.agg #[(.string ByteArray.empty),(.string ByteArray.empty),(.int .i64 0),(.int .i64 0),(.slice none 0 0),(.slice none 0 0),(.slice none 0 0)])) J (fun _ _=>by kernel_rfl)).cv (Cv.tup (.cons (Cv.vagg (by decide)) (.cons Cv.rfl' .nil)))) (oR 3 rfl (oE rfl (zw (zv:=(.agg #[(.string ByteArray.empty),(.string ByteArray.empty),(.int .i64 0),(.int .i64 0),(.slice none 0 0),(.slice none 0 0),(.slice none 0 0)])) Tryz.zeroValue119 ⟨rfl,rfl,rfl,rfl,rfl,rfl,rfl,trivial⟩ (Cv.vagg (by decide))) ?_)))))))))
 rintro _ _ ⟨g3,rfl,rfl⟩
 refine oE J (zg (i:=0) (X':=.agg [.v (.string ByteArray.empty),.v (.string ByteArray.empty),dI 0,dI 0,dZ,dZ,dZ]) J J J (CellD.agg) Tryz.sizeOf119 J J J) ?_
 rintro _ _ ⟨rfl,rfl⟩
 refine on J (oR 1 J (oZ J (jT J (oR 4 J (oZ J (jk [1,2,23] J (jCt J (jT J (oP J (zx (d:=.agg [.s (⟨#[110,101,103]⟩:ByteArray),.s text,dN n,dI mode,.sh 1 (names.map D.s),.sh 3 (ms.map MatD.d),.sh 7 [.agg [.s xa,.s xb,dI xc,dI xd,.sh 1 (xe.map D.s),.sh 3 (xf.map MatD.d),.sh 7 (Nd.ds xg)]]]) J (i:=2) J Tryz.isAgg27 Tryz.sizeOf27 J J) (OpsD.subH (HSub.perm (zd (i:=3) J)) (on J (oE J (zk [HPow] [.bx g3 119 (.agg [.v (.string ByteArray.empty),.v (.string ByteArray.empty),dI 0,dI 0,dZ,dZ,dZ]),.bx g2 116 (.agg [.s xa,.s xb,dI xc,dI xd,.sh 1 (xe.map D.s),.sh 3 (xf.map MatD.d),.sh 7 (Nd.ds xg)]),.bx g1 27 (.agg [.s (⟨#[110,101,103]⟩:ByteArray),.s text,dN n,dI mode,.sh 1 (names.map D.s),.sh 3 (ms.map MatD.d),.sh 7 [.agg [.s xa,.s xb,dI xc,dI xd,.sh 1 (xe.map D.s),.sh 3 (xf.map MatD.d),.sh 7 (Nd.ds xg)]]])] [] J J (.cons ArgC.id .nil) zh Tryz.call34 (hn) (.inl J)) ?_))))))))))))
 rintro _ _ ⟨_,⟨rfl,rfl⟩,rfl⟩
 refine on J (oP J (zao J J (by unfold maxLen;(try simp only[ByteArray.size_append]);(try simp only[ByteArray.size_append]);have kz:=catz;omega)) (oP rfl (zao rfl rfl (by unfold maxLen;(try simp only[ByteArray.size_append]);(try simp only[ByteArray.size_append]);have kz:=catz;omega)) (oR 1 rfl (oZ rfl (zo rfl (zj (pn rfl ?_)))))))
 exact zi Tryz.results99 (.cons (zt (zl J) (Cv.eq (congrArg D.s (show (((⟨#[40]⟩:ByteArray)++t)++(⟨#[41]⟩:ByteArray))=zC++t++zS from(by rfl))))) .nil) rfl (HSub.fst 1 rfl) ⟨rfl,rfl⟩
theorem inner_bin (text:ByteArray) (n:Nat) (mode:Int) (names:List ByteArray) (ms:List MatD) (xa xb:ByteArray) (xc xd:Int) (xe:List ByteArray) (xf:List MatD) (xg:List Nd) (ya yb:ByteArray) (yc yd:Int) (ye:List ByteArray) (yf:List MatD) (yg:List Nd) (t:ByteArray) (ht:t.size≤100000000) (hn:CD Tryz.prog 34 [HPow] [.agg [.s (⟨#[98,105,110]⟩:ByteArray),.s text,dN n,dI mode,.sh 1 (names.map D.s),.sh 3 (ms.map MatD.d),.sh 7 [.agg [.s xa,.s xb,dI xc,dI xd,.sh 1 (xe.map D.s),.sh 3 (xf.map MatD.d),.sh 7 (Nd.ds xg)],.agg [.s ya,.s yb,dI yc,dI yd,.sh 1 (ye.map D.s),.sh 3 (yf.map MatD.d),.sh 7 (Nd.ds yg)]]]] (PrT t)):
 CD Tryz.prog 99 [HPow] [.agg [.s (⟨#[98,105,110]⟩:ByteArray),.s text,dN n,dI mode,.sh 1 (names.map D.s),.sh 3 (ms.map MatD.d),.sh 7 [.agg [.s xa,.s xb,dI xc,dI xd,.sh 1 (xe.map D.s),.sh 3 (xf.map MatD.d),.sh 7 (Nd.ds xg)],.agg [.s ya,.s yb,dI yc,dI yd,.sh 1 (ye.map D.s),.sh 3 (yf.map MatD.d),.sh 7 (Nd.ds yg)]]]] (PrT (zC++t++zS)):=by
 refine zq Tryz.func99 J (N:=30) J J (fun C=>?_)
 refine jk [0] J ?_
 refine JD.bd 0 J (fun bd0=>?_)
 refine jT J (oE J (zaD J (CellD.agg)) ?_)
 rintro _ _ ⟨g1,rfl,rfl⟩
 refine oR 1 J (oZ J (jT J (oP J (zx (d:=.agg [.s (⟨#[98,105,110]⟩:ByteArray),.s text,dN n,dI mode,.sh 1 (names.map D.s),.sh 3 (ms.map MatD.d),.sh 7 [.agg [.s xa,.s xb,dI xc,dI xd,.sh 1 (xe.map D.s),.sh 3 (xf.map MatD.d),.sh 7 (Nd.ds xg)],.agg [.s ya,.s yb,dI yc,dI yd,.sh 1 (ye.map D.s),.sh 3 (yf.map MatD.d),.sh 7 (Nd.ds yg)]]]) J (i:=0) J Tryz.isAgg27 Tryz.sizeOf27 J J) (oE J (zk [] [.bx g1 27 (.agg [.s (⟨#[98,105,110]⟩:ByteArray),.s text,dN n,dI mode,.sh 1 (names.map D.s),.sh 3 (ms.map MatD.d),.sh 7 [.agg [.s xa,.s xb,dI xc,dI xd,.sh 1 (xe.map D.s),.sh 3 (xf.map MatD.d),.sh 7 (Nd.ds xg)],.agg [.s ya,.s yb,dI yc,dI yd,.sh 1 (ye.map D.s),.sh 3 (yf.map MatD.d),.sh 7 (Nd.ds yg)]]]),HPow] [] J J (.cons ArgC.id .nil) zh Tryz.call98 (lift_bin text n mode names ms xa xb xc xd xe xf xg ya yb yc yd ye yf yg) (.inl J)) ?_))))
 rintro _ _ ⟨_,⟨rfl,rfl⟩,rfl⟩
 refine on J (oR 1 J (oZ J (jT J (oR 1 J (oP J ((zO (zv:=(.agg #[(.string ByteArray.empty),(.string ByteArray.empty),(.int .i64 0),(.int .i64 0),(.slice none 0 0),(.slice none 0 0),(.slice none 0 0)])) J (fun _ _=>by kernel_rfl)).cv (Cv.tup (.cons (Cv.vagg (by decide)) (.cons Cv.rfl' .nil)))) (oR 3 rfl (oE rfl (zw (zv:=(.agg #[(.string ByteArray.empty),(.string ByteArray.empty),(.int .i64 0),(.int .i64 0),(.slice none 0 0),(.slice none 0 0),(.slice none 0 0)])) Tryz.zeroValue116 ⟨rfl,rfl,rfl,rfl,rfl,rfl,rfl,trivial⟩ (Cv.vagg (by decide))) ?_)))))))
 rintro _ _ ⟨g2,rfl,rfl⟩
 refine oE J (zg (i:=0) (X':=.agg [.v (.string ByteArray.empty),.v (.string ByteArray.empty),dI 0,dI 0,dZ,dZ,dZ]) J J J (CellD.agg) Tryz.sizeOf116 J J J) ?_
 rintro _ _ ⟨rfl,rfl⟩
 refine on J (oR 1 J (oZ J (jk [1,2,3,5] J (jS J (jT J (oR 1 J (oP J (zbn J (fun _ _=>by kernel_rfl)) (oR 3 rfl (oE rfl (zw (zv:=(.agg #[(.string ByteArray.empty),(.string ByteArray.empty),(.int .i64 0),(.int .i64 0),(.slice none 0 0),(.slice none 0 0),(.slice none 0 0)])) Tryz.zeroValue119 ⟨rfl,rfl,rfl,rfl,rfl,rfl,rfl,trivial⟩ (Cv.vagg (by decide))) ?_)))))))))
 rintro _ _ ⟨g3,rfl,rfl⟩
 refine oE J (zg (i:=0) (X':=.agg [.s (⟨#[98,105,110]⟩:ByteArray),.s text,dN n,dI mode,.sh 1 (names.map D.s),.sh 3 (ms.map MatD.d),.sh 7 [.agg [.s xa,.s xb,dI xc,dI xd,.sh 1 (xe.map D.s),.sh 3 (xf.map MatD.d),.sh 7 (Nd.ds xg)],.agg [.s ya,.s yb,dI yc,dI yd,.sh 1 (ye.map D.s),.sh 3 (yf.map MatD.d),.sh 7 (Nd.ds yg)]]]) J J J (CellD.agg) Tryz.sizeOf119 J J J) ?_
 rintro _ _ ⟨rfl,rfl⟩
 refine on J (oR 1 J (oZ J (jT J (oR 4 J (oZ J (jk [1,2,23] J (jCt J (jT J (oP J (zx (d:=.agg [.s (⟨#[98,105,110]⟩:ByteArray),.s text,dN n,dI mode,.sh 1 (names.map D.s),.sh 3 (ms.map MatD.d),.sh 7 [.agg [.s xa,.s xb,dI xc,dI xd,.sh 1 (xe.map D.s),.sh 3 (xf.map MatD.d),.sh 7 (Nd.ds xg)],.agg [.s ya,.s yb,dI yc,dI yd,.sh 1 (ye.map D.s),.sh 3 (yf.map MatD.d),.sh 7 (Nd.ds yg)]]]) J (i:=2) J Tryz.isAgg27 Tryz.sizeOf27 J J) (OpsD.subH (HSub.perm (zd (i:=3) J)) (on J ?_)))))))))))
 refine oE J (zk [HPow] [.bx g3 119 (.agg [.s (⟨#[98,105,110]⟩:ByteArray),.s text,dN n,dI mode,.sh 1 (names.map D.s),.sh 3 (ms.map MatD.d),.sh 7 [.agg [.s xa,.s xb,dI xc,dI xd,.sh 1 (xe.map D.s),.sh 3 (xf.map MatD.d),.sh 7 (Nd.ds xg)],.agg [.s ya,.s yb,dI yc,dI yd,.sh 1 (ye.map D.s),.sh 3 (yf.map MatD.d),.sh 7 (Nd.ds yg)]]]),.bx g2 116 (.agg [.v (.string ByteArray.empty),.v (.string ByteArray.empty),dI 0,dI 0,dZ,dZ,dZ]),.bx g1 27 (.agg [.s (⟨#[98,105,110]⟩:ByteArray),.s text,dN n,dI mode,.sh 1 (names.map D.s),.sh 3 (ms.map MatD.d),.sh 7 [.agg [.s xa,.s xb,dI xc,dI xd,.sh 1 (xe.map D.s),.sh 3 (xf.map MatD.d),.sh 7 (Nd.ds xg)],.agg [.s ya,.s yb,dI yc,dI yd,.sh 1 (ye.map D.s),.sh 3 (yf.map MatD.d),.sh 7 (Nd.ds yg)]]])] [] J J (.cons ArgC.id .nil) zh Tryz.call34 (hn) (.inl J)) ?_
 rintro _ _ ⟨_,⟨rfl,rfl⟩,rfl⟩
 refine on J (oP J (zao J J (by unfold maxLen;(try simp only[ByteArray.size_append]);(try simp only[ByteArray.size_append]);have kz:=catz;omega)) (oP rfl (zao rfl rfl (by unfold maxLen;(try simp only[ByteArray.size_append]);(try simp only[ByteArray.size_append]);have kz:=catz;omega)) (oR 1 rfl (oZ rfl (zo rfl (zj (pn rfl ?_)))))))
 exact zi Tryz.results99 (.cons (zt (zl J) (Cv.eq (congrArg D.s (show (((⟨#[40]⟩:ByteArray)++t)++(⟨#[41]⟩:ByteArray))=zC++t++zS from(by rfl))))) .nil) rfl (HSub.fst 1 rfl) ⟨rfl,rfl⟩
theorem inner_agg (text:ByteArray) (n:Nat) (mode:Int) (names:List ByteArray) (ms:List MatD) (xa xb:ByteArray) (xc xd:Int) (xe:List ByteArray) (xf:List MatD) (xg:List Nd) (t:ByteArray) (ht:t.size≤100000000) (hn:CD Tryz.prog 34 [HPow] [.agg [.s (⟨#[97,103,103]⟩:ByteArray),.s text,dN n,dI mode,.sh 1 (names.map D.s),.sh 3 (ms.map MatD.d),.sh 7 [.agg [.s xa,.s xb,dI xc,dI xd,.sh 1 (xe.map D.s),.sh 3 (xf.map MatD.d),.sh 7 (Nd.ds xg)]]]] (PrT t)):
 CD Tryz.prog 99 [HPow] [.agg [.s (⟨#[97,103,103]⟩:ByteArray),.s text,dN n,dI mode,.sh 1 (names.map D.s),.sh 3 (ms.map MatD.d),.sh 7 [.agg [.s xa,.s xb,dI xc,dI xd,.sh 1 (xe.map D.s),.sh 3 (xf.map MatD.d),.sh 7 (Nd.ds xg)]]]] (PrT (t)):=by
 refine zq Tryz.func99 J (N:=30) J J (fun C=>?_)
 refine jk [0] J ?_
 refine JD.bd 0 J (fun bd0=>?_)
 refine jT J (oE J (zaD J (CellD.agg)) ?_)
 rintro _ _ ⟨g1,rfl,rfl⟩
 refine oR 1 J (oZ J (jT J (oP J (zx (d:=.agg [.s (⟨#[97,103,103]⟩:ByteArray),.s text,dN n,dI mode,.sh 1 (names.map D.s),.sh 3 (ms.map MatD.d),.sh 7 [.agg [.s xa,.s xb,dI xc,dI xd,.sh 1 (xe.map D.s),.sh 3 (xf.map MatD.d),.sh 7 (Nd.ds xg)]]]) J (i:=0) J Tryz.isAgg27 Tryz.sizeOf27 J J) (oE J (zk [] [.bx g1 27 (.agg [.s (⟨#[97,103,103]⟩:ByteArray),.s text,dN n,dI mode,.sh 1 (names.map D.s),.sh 3 (ms.map MatD.d),.sh 7 [.agg [.s xa,.s xb,dI xc,dI xd,.sh 1 (xe.map D.s),.sh 3 (xf.map MatD.d),.sh 7 (Nd.ds xg)]]]),HPow] [] J J (.cons ArgC.id .nil) zh Tryz.call98 (lift_agg text n mode names ms xa xb xc xd xe xf xg) (.inl J)) ?_))))
 rintro _ _ ⟨_,⟨rfl,rfl⟩,rfl⟩
 refine on J (oR 1 J (oZ J (jT J (oR 1 J (oP J ((zO (zv:=(.agg #[(.string ByteArray.empty),(.string ByteArray.empty),(.int .i64 0),(.int .i64 0),(.slice none 0 0),(.slice none 0 0),(.slice none 0 0)])) J (fun _ _=>by kernel_rfl)).cv (Cv.tup (.cons (Cv.vagg (by decide)) (.cons Cv.rfl' .nil)))) (oR 3 rfl (oE rfl (zw (zv:=(.agg #[(.string ByteArray.empty),(.string ByteArray.empty),(.int .i64 0),(.int .i64 0),(.slice none 0 0),(.slice none 0 0),(.slice none 0 0)])) Tryz.zeroValue116 ⟨rfl,rfl,rfl,rfl,rfl,rfl,rfl,trivial⟩ (Cv.vagg (by decide))) ?_)))))))
 rintro _ _ ⟨g2,rfl,rfl⟩
 refine oE J (zg (i:=0) (X':=.agg [.v (.string ByteArray.empty),.v (.string ByteArray.empty),dI 0,dI 0,dZ,dZ,dZ]) J J J (CellD.agg) Tryz.sizeOf116 J J J) ?_
 rintro _ _ ⟨rfl,rfl⟩
 refine on J (oR 1 J (oZ J (jk [1,2,3,5] J (jS J (jT J (oR 1 J (oP J ((zO (zv:=(.agg #[(.string ByteArray.empty),(.string ByteArray.empty),(.int .i64 0),(.int .i64 0),(.slice none 0 0),(.slice none 0 0),(.slice none 0 0)])) J (fun _ _=>by kernel_rfl)).cv (Cv.tup (.cons (Cv.vagg (by decide)) (.cons Cv.rfl' .nil)))) (oR 3 rfl (oE rfl (zw (zv:=(.agg #[(.string ByteArray.empty),(.string ByteArray.empty),(.int .i64 0),(.int .i64 0),(.slice none 0 0),(.slice none 0 0),(.slice none 0 0)])) Tryz.zeroValue119 ⟨rfl,rfl,rfl,rfl,rfl,rfl,rfl,trivial⟩ (Cv.vagg (by decide))) ?_)))))))))
 rintro _ _ ⟨g3,rfl,rfl⟩
 refine oE J (zg (i:=0) (X':=.agg [.v (.string ByteArray.empty),.v (.string ByteArray.empty),dI 0,dI 0,dZ,dZ,dZ]) J J J (CellD.agg) Tryz.sizeOf119 J J J) ?_
 rintro _ _ ⟨rfl,rfl⟩
 refine on J (oR 1 J (oZ J (jT J (oR 4 J (oZ J (jk [1,2,23] J (jCf J (zp J (zn (jT J (oP J (zx (d:=.agg [.s (⟨#[97,103,103]⟩:ByteArray),.s text,dN n,dI mode,.sh 1 (names.map D.s),.sh 3 (ms.map MatD.d),.sh 7 [.agg [.s xa,.s xb,dI xc,dI xd,.sh 1 (xe.map D.s),.sh 3 (xf.map MatD.d),.sh 7 (Nd.ds xg)]]]) J (i:=2) J Tryz.isAgg27 Tryz.sizeOf27 J J) (OpsD.subH (HSub.perm (zd (i:=3) J)) (on J (oE J (zk [HPow] [.bx g3 119 (.agg [.v (.string ByteArray.empty),.v (.string ByteArray.empty),dI 0,dI 0,dZ,dZ,dZ]),.bx g2 116 (.agg [.v (.string ByteArray.empty),.v (.string ByteArray.empty),dI 0,dI 0,dZ,dZ,dZ]),.bx g1 27 (.agg [.s (⟨#[97,103,103]⟩:ByteArray),.s text,dN n,dI mode,.sh 1 (names.map D.s),.sh 3 (ms.map MatD.d),.sh 7 [.agg [.s xa,.s xb,dI xc,dI xd,.sh 1 (xe.map D.s),.sh 3 (xf.map MatD.d),.sh 7 (Nd.ds xg)]]])] [] J J (.cons ArgC.id .nil) zh Tryz.call34 (hn) (.inl J)) ?_))))))))))))))
 rintro _ _ ⟨_,⟨rfl,rfl⟩,rfl⟩
 refine on J (oR 1 J (oZ J (zo J (pn J ?_))))
 exact zi Tryz.results99 (.cons (zl J) .nil) J (HSub.fst 1 J) ⟨rfl,J⟩
theorem inner_fn (text:ByteArray) (n:Nat) (mode:Int) (names:List ByteArray) (ms:List MatD) (xa xb:ByteArray) (xc xd:Int) (xe:List ByteArray) (xf:List MatD) (xg:List Nd) (t:ByteArray) (ht:t.size≤100000000) (hn:CD Tryz.prog 34 [HPow] [.agg [.s (⟨#[102,110]⟩:ByteArray),.s text,dN n,dI mode,.sh 1 (names.map D.s),.sh 3 (ms.map MatD.d),.sh 7 [.agg [.s xa,.s xb,dI xc,dI xd,.sh 1 (xe.map D.s),.sh 3 (xf.map MatD.d),.sh 7 (Nd.ds xg)]]]] (PrT t)):
 CD Tryz.prog 99 [HPow] [.agg [.s (⟨#[102,110]⟩:ByteArray),.s text,dN n,dI mode,.sh 1 (names.map D.s),.sh 3 (ms.map MatD.d),.sh 7 [.agg [.s xa,.s xb,dI xc,dI xd,.sh 1 (xe.map D.s),.sh 3 (xf.map MatD.d),.sh 7 (Nd.ds xg)]]]] (PrT (t)):=by
 refine zq Tryz.func99 J (N:=30) J J (fun C=>?_)
 refine jk [0] J ?_
 refine JD.bd 0 J (fun bd0=>?_)
 refine jT J (oE J (zaD J (CellD.agg)) ?_)
 rintro _ _ ⟨g1,rfl,rfl⟩
 refine oR 1 J (oZ J (jT J (oP J (zx (d:=.agg [.s (⟨#[102,110]⟩:ByteArray),.s text,dN n,dI mode,.sh 1 (names.map D.s),.sh 3 (ms.map MatD.d),.sh 7 [.agg [.s xa,.s xb,dI xc,dI xd,.sh 1 (xe.map D.s),.sh 3 (xf.map MatD.d),.sh 7 (Nd.ds xg)]]]) J (i:=0) J Tryz.isAgg27 Tryz.sizeOf27 J J) (oE J (zk [] [.bx g1 27 (.agg [.s (⟨#[102,110]⟩:ByteArray),.s text,dN n,dI mode,.sh 1 (names.map D.s),.sh 3 (ms.map MatD.d),.sh 7 [.agg [.s xa,.s xb,dI xc,dI xd,.sh 1 (xe.map D.s),.sh 3 (xf.map MatD.d),.sh 7 (Nd.ds xg)]]]),HPow] [] J J (.cons ArgC.id .nil) zh Tryz.call98 (lift_fn text n mode names ms xa xb xc xd xe xf xg) (.inl J)) ?_))))
 rintro _ _ ⟨_,⟨rfl,rfl⟩,rfl⟩
 refine on J (oR 1 J (oZ J (jT J (oR 1 J (oP J ((zO (zv:=(.agg #[(.string ByteArray.empty),(.string ByteArray.empty),(.int .i64 0),(.int .i64 0),(.slice none 0 0),(.slice none 0 0),(.slice none 0 0)])) J (fun _ _=>by kernel_rfl)).cv (Cv.tup (.cons (Cv.vagg (by decide)) (.cons Cv.rfl' .nil)))) (oR 3 rfl (oE rfl (zw (zv:=(.agg #[(.string ByteArray.empty),(.string ByteArray.empty),(.int .i64 0),(.int .i64 0),(.slice none 0 0),(.slice none 0 0),(.slice none 0 0)])) Tryz.zeroValue116 ⟨rfl,rfl,rfl,rfl,rfl,rfl,rfl,trivial⟩ (Cv.vagg (by decide))) ?_)))))))
 rintro _ _ ⟨g2,rfl,rfl⟩
 refine oE J (zg (i:=0) (X':=.agg [.v (.string ByteArray.empty),.v (.string ByteArray.empty),dI 0,dI 0,dZ,dZ,dZ]) J J J (CellD.agg) Tryz.sizeOf116 J J J) ?_
 rintro _ _ ⟨rfl,rfl⟩
 refine on J (oR 1 J (oZ J (jk [1,2,3,5] J (jS J (jT J (oR 1 J (oP J ((zO (zv:=(.agg #[(.string ByteArray.empty),(.string ByteArray.empty),(.int .i64 0),(.int .i64 0),(.slice none 0 0),(.slice none 0 0),(.slice none 0 0)])) J (fun _ _=>by kernel_rfl)).cv (Cv.tup (.cons (Cv.vagg (by decide)) (.cons Cv.rfl' .nil)))) (oR 3 rfl (oE rfl (zw (zv:=(.agg #[(.string ByteArray.empty),(.string ByteArray.empty),(.int .i64 0),(.int .i64 0),(.slice none 0 0),(.slice none 0 0),(.slice none 0 0)])) Tryz.zeroValue119 ⟨rfl,rfl,rfl,rfl,rfl,rfl,rfl,trivial⟩ (Cv.vagg (by decide))) ?_)))))))))
 rintro _ _ ⟨g3,rfl,rfl⟩
 refine oE J (zg (i:=0) (X':=.agg [.v (.string ByteArray.empty),.v (.string ByteArray.empty),dI 0,dI 0,dZ,dZ,dZ]) J J J (CellD.agg) Tryz.sizeOf119 J J J) ?_
 rintro _ _ ⟨rfl,rfl⟩
 refine on J (oR 1 J (oZ J (jT J (oR 4 J (oZ J (jk [1,2,23] J (jCf J (zp J (zn (jT J (oP J (zx (d:=.agg [.s (⟨#[102,110]⟩:ByteArray),.s text,dN n,dI mode,.sh 1 (names.map D.s),.sh 3 (ms.map MatD.d),.sh 7 [.agg [.s xa,.s xb,dI xc,dI xd,.sh 1 (xe.map D.s),.sh 3 (xf.map MatD.d),.sh 7 (Nd.ds xg)]]]) J (i:=2) J Tryz.isAgg27 Tryz.sizeOf27 J J) (OpsD.subH (HSub.perm (zd (i:=3) J)) (on J (oE J (zk [HPow] [.bx g3 119 (.agg [.v (.string ByteArray.empty),.v (.string ByteArray.empty),dI 0,dI 0,dZ,dZ,dZ]),.bx g2 116 (.agg [.v (.string ByteArray.empty),.v (.string ByteArray.empty),dI 0,dI 0,dZ,dZ,dZ]),.bx g1 27 (.agg [.s (⟨#[102,110]⟩:ByteArray),.s text,dN n,dI mode,.sh 1 (names.map D.s),.sh 3 (ms.map MatD.d),.sh 7 [.agg [.s xa,.s xb,dI xc,dI xd,.sh 1 (xe.map D.s),.sh 3 (xf.map MatD.d),.sh 7 (Nd.ds xg)]]])] [] J J (.cons ArgC.id .nil) zh Tryz.call34 (hn) (.inl J)) ?_))))))))))))))
 rintro _ _ ⟨_,⟨rfl,rfl⟩,rfl⟩
 refine on J (oR 1 J (oZ J (zo J (pn J ?_))))
 exact zi Tryz.results99 (.cons (zl J) .nil) J (HSub.fst 1 J) ⟨rfl,J⟩
theorem inner_sel (text:ByteArray) (n:Nat) (mode:Int) (names:List ByteArray) (ms:List MatD) (t:ByteArray) (ht:t.size≤100000000) (hn:CD Tryz.prog 34 [HPow] [.agg [.s (⟨#[115,101,108]⟩:ByteArray),.s text,dN n,dI mode,.sh 1 (names.map D.s),.sh 3 (ms.map MatD.d),.sh 7 []]] (PrT t)):
 CD Tryz.prog 99 [HPow] [.agg [.s (⟨#[115,101,108]⟩:ByteArray),.s text,dN n,dI mode,.sh 1 (names.map D.s),.sh 3 (ms.map MatD.d),.sh 7 []]] (PrT (t)):=by
 refine zq Tryz.func99 J (N:=30) J J (fun C=>?_)
 refine jk [0] J ?_
 refine JD.bd 0 J (fun bd0=>?_)
 refine jT J (oE J (zaD J (CellD.agg)) ?_)
 rintro _ _ ⟨g1,rfl,rfl⟩
 refine oR 1 J (oZ J (jT J (oP J (zx (d:=.agg [.s (⟨#[115,101,108]⟩:ByteArray),.s text,dN n,dI mode,.sh 1 (names.map D.s),.sh 3 (ms.map MatD.d),.sh 7 []]) J (i:=0) J Tryz.isAgg27 Tryz.sizeOf27 J J) (oE J (zk [] [.bx g1 27 (.agg [.s (⟨#[115,101,108]⟩:ByteArray),.s text,dN n,dI mode,.sh 1 (names.map D.s),.sh 3 (ms.map MatD.d),.sh 7 []]),HPow] [] J J (.cons ArgC.id .nil) zh Tryz.call98 (lift_sel text n mode names ms) (.inl J)) ?_))))
 rintro _ _ ⟨_,⟨rfl,rfl⟩,rfl⟩
 refine on J (oR 1 J (oZ J (jT J (oR 1 J (oP J ((zO (zv:=(.agg #[(.string ByteArray.empty),(.string ByteArray.empty),(.int .i64 0),(.int .i64 0),(.slice none 0 0),(.slice none 0 0),(.slice none 0 0)])) J (fun _ _=>by kernel_rfl)).cv (Cv.tup (.cons (Cv.vagg (by decide)) (.cons Cv.rfl' .nil)))) (oR 3 rfl (oE rfl (zw (zv:=(.agg #[(.string ByteArray.empty),(.string ByteArray.empty),(.int .i64 0),(.int .i64 0),(.slice none 0 0),(.slice none 0 0),(.slice none 0 0)])) Tryz.zeroValue116 ⟨rfl,rfl,rfl,rfl,rfl,rfl,rfl,trivial⟩ (Cv.vagg (by decide))) ?_)))))))
 rintro _ _ ⟨g2,rfl,rfl⟩
 refine oE J (zg (i:=0) (X':=.agg [.v (.string ByteArray.empty),.v (.string ByteArray.empty),dI 0,dI 0,dZ,dZ,dZ]) J J J (CellD.agg) Tryz.sizeOf116 J J J) ?_
 rintro _ _ ⟨rfl,rfl⟩
 refine on J (oR 1 J (oZ J (jk [1,2,3,5] J (jS J (jT J (oR 1 J (oP J ((zO (zv:=(.agg #[(.string ByteArray.empty),(.string ByteArray.empty),(.int .i64 0),(.int .i64 0),(.slice none 0 0),(.slice none 0 0),(.slice none 0 0)])) J (fun _ _=>by kernel_rfl)).cv (Cv.tup (.cons (Cv.vagg (by decide)) (.cons Cv.rfl' .nil)))) (oR 3 rfl (oE rfl (zw (zv:=(.agg #[(.string ByteArray.empty),(.string ByteArray.empty),(.int .i64 0),(.int .i64 0),(.slice none 0 0),(.slice none 0 0),(.slice none 0 0)])) Tryz.zeroValue119 ⟨rfl,rfl,rfl,rfl,rfl,rfl,rfl,trivial⟩ (Cv.vagg (by decide))) ?_)))))))))
 rintro _ _ ⟨g3,rfl,rfl⟩
 refine oE J (zg (i:=0) (X':=.agg [.v (.string ByteArray.empty),.v (.string ByteArray.empty),dI 0,dI 0,dZ,dZ,dZ]) J J J (CellD.agg) Tryz.sizeOf119 J J J) ?_
 rintro _ _ ⟨rfl,rfl⟩
 refine on J (oR 1 J (oZ J (jT J (oR 4 J (oZ J (jk [1,2,23] J (jCf J (zp J (zn (jT J (oP J (zx (d:=.agg [.s (⟨#[115,101,108]⟩:ByteArray),.s text,dN n,dI mode,.sh 1 (names.map D.s),.sh 3 (ms.map MatD.d),.sh 7 []]) J (i:=2) J Tryz.isAgg27 Tryz.sizeOf27 J J) (OpsD.subH (HSub.perm (zd (i:=3) J)) (on J (oE J (zk [HPow] [.bx g3 119 (.agg [.v (.string ByteArray.empty),.v (.string ByteArray.empty),dI 0,dI 0,dZ,dZ,dZ]),.bx g2 116 (.agg [.v (.string ByteArray.empty),.v (.string ByteArray.empty),dI 0,dI 0,dZ,dZ,dZ]),.bx g1 27 (.agg [.s (⟨#[115,101,108]⟩:ByteArray),.s text,dN n,dI mode,.sh 1 (names.map D.s),.sh 3 (ms.map MatD.d),.sh 7 []])] [] J J (.cons ArgC.id .nil) zh Tryz.call34 (hn) (.inl J)) ?_))))))))))))))
 rintro _ _ ⟨_,⟨rfl,rfl⟩,rfl⟩
 refine on J (oR 1 J (oZ J (zo J (pn J ?_))))
 exact zi Tryz.results99 (.cons (zl J) .nil) J (HSub.fst 1 J) ⟨rfl,J⟩
theorem wordq_c (mode:Int) (a b:ByteArray) :
 CD Tryz.prog 144 [] [dI mode,.s a,.s b] (isR (.s (zcd mode a b))):=by
 refine zq Tryz.func144 J (N:=11) J J (fun C=>?_)
 refine jk [0,1,2] J ?_
 refine JD.bd 1 J (fun bd1=>?_)
 have sz1:a.size≤9223372036854775807:=bd1
 refine JD.bd 2 J (fun bd2=>?_)
 have sz2:b.size≤9223372036854775807:=bd2
 refine jT J (oR 1 J (oZ J (jS J (jT J (oR 1 J (oP J (zK J J J) (oZ J ?_)))))))
 refine jD J (fun hc1=>?_) (fun hc1=>?_)
 · skip
   refine jT J (oR 2 J (oZ J (zo J (zj ?_))))
   exact zi Tryz.results144 (.cons (zt (zl J) (Cv.eq (congrArg D.s (by unfold zcd;first | rw[if_pos (by simpa using hc1)] | rw[if_neg (by simpa using hc1)])))) .nil) rfl HSub.none ⟨rfl,rfl⟩
 · skip
   refine zp J (zn (jT J (oR 2 J (oZ J (zo J ?_)))))
   exact zi Tryz.results144 (.cons (zt (zl J) (Cv.eq (congrArg D.s (by unfold zcd;first | rw[if_pos (by simpa using hc1)] | rw[if_neg (by simpa using hc1)])))) .nil) rfl HSub.none ⟨rfl,rfl⟩
theorem names_p (l:List ByteArray) (hl:l.length≤1000000) (hs:zae l≤100000000):
 CD Tryz.prog 145 [] [.sh 1 (l.map D.s)] (isR (D.s (namP l))):=by
 refine zq Tryz.func145 J (N:=7) J J (fun C=>?_)
 refine jk [0] J ?_
 refine JD.bd 0 J (fun bd0=>?_)
 have nl0:=zbZ bd0
 refine jT J (oR 1 J (oZ J (jT J (oR 1 J (oW J J (.cons ArgC.id (.cons (ArgC.cv (Cv.str (by first | decide | (unfold maxLen;omega)))) .nil)) Tryz.call149 (Join_c l (⟨#[44]⟩:ByteArray) (by omega) (by omega) (by first | decide | omega) (by first | decide | omega)) (oP rfl (zao rfl rfl (by unfold maxLen;(try simp only[ByteArray.size_append]);have e:=za0 (sep:=(⟨#[44]⟩:ByteArray)) rfl l;(try simp only[ByteArray.size_append]);have kz:=catz;omega)) (oP rfl (zao rfl rfl (by unfold maxLen;(try simp only[ByteArray.size_append]);have e:=za0 (sep:=(⟨#[44]⟩:ByteArray)) rfl l;(try simp only[ByteArray.size_append]);have kz:=catz;omega)) (oR 1 rfl (oZ rfl (zo rfl ?_))))))))))
 exact zi Tryz.results145 (.cons (zt (zl J) (Cv.eq (congrArg D.s (by rfl)))) .nil) rfl HSub.none ⟨rfl,rfl⟩
theorem sign_1  :
 CD Tryz.prog 147 [] [dI 1] (isR (.s (zb7 1))):=by
 refine zq Tryz.func147 J (N:=16) J J (fun C=>?_)
 refine jk [0] J (jT J (oR 1 J (oZ J (jT J (oE J (zV [.const (.string (⟨#[61]⟩:ByteArray)),.const (.string (⟨#[33,61]⟩:ByteArray)),.const (.string (⟨#[61,126]⟩:ByteArray)),.const (.string (⟨#[33,126]⟩:ByteArray))] J J (.cons (CellD.v J) (.cons (CellD.v J) (.cons (CellD.v J) (.cons (CellD.v J) .nil)))) J Tryz.runUnderlying23 Tryz.sizeOf9 Tryz.zeroValue9 J J J J) ?_)))))
 rintro _ _ ⟨g1,rfl,rfl⟩
 refine oR 1 J (oZ J (jS J (jS J (jk [0,2,3] J ?_))))
 refine zac 10 ((decide ((1:Int)<(1:Int))||decide ((4:Int)<(1:Int)))) [.sl (vS g1 4 4) 1 9 ([.v (.string (⟨#[61]⟩:ByteArray)),.v (.string (⟨#[33,61]⟩:ByteArray)),.v (.string (⟨#[61,126]⟩:ByteArray)),.v (.string (⟨#[33,126]⟩:ByteArray))])] (fun _ hQ2=>?_) ?_
 · skip
   by_cases hg3:(1:Int)<(1:Int)
   · skip
     refine zf J (oR 1 J (oP J (za2 J J (decide_eq_true hg3)) (oR 4 J (zr J ?_))))
     exact PD.sub ((10,dB (decide ((1:Int)<(1:Int))||decide ((4:Int)<(1:Int))))::[(0,dI 1),(2,.v (.string ByteArray.empty)),(3,.ov (vS g1 4 4))]) ⟨sc J (Cv.eq (congrArg (fun b=>D.v (.bool b)) (by first | (simp[hg3];done) | (simp_all;done)))),sk rfl,sk rfl,sk rfl,trivial⟩ hQ2
   · skip
     refine zf J (oR 1 J (oP J (za2 J J (decide_eq_false hg3)) (oR 2 J (oG J (zbg J J J) (oR 1 J (zr J ?_))))))
     exact PD.sub ((10,dB (decide ((1:Int)<(1:Int))||decide ((4:Int)<(1:Int))))::[(0,dI 1),(2,.v (.string ByteArray.empty)),(3,.ov (vS g1 4 4))]) ⟨sc J (Cv.eq (congrArg (fun b=>D.v (.bool b)) (by first | (simp[hg3];done) | (simp_all;done)))),sk rfl,sk rfl,sk rfl,trivial⟩ hQ2
 · skip
   refine zn ?_
   refine jC J (fun hc4=>?_) (fun hc4=>?_)
   · simp only[bA,bB,bC,bD,bE,bF,bG,bH,bI,bJ] at hc4
     refine jT J (oR 1 J (oZ J (zo J (zj ?_))))
     exact zi Tryz.results147 (.cons (zt (zl J) (((Cv.str (by first | decide | (unfold maxLen;omega)))).trans (Cv.eq (congrArg D.s (by first | rfl | (exfalso;omega)))))) .nil) rfl HSub.none ⟨rfl,rfl⟩
   · simp only[bA,bB,bC,bD,bE,bF,bG,bH,bI,bJ] at hc4
     refine zp J (zn (jT J (oR 2 J (oP J (zdp (c:=(0:Int)) J J (zaL (by omega) (by omega))) (oP rfl (zbH (k:=0) (j:=0) rfl rfl rfl Tryz.runUnderlying23 Tryz.sizeOf9 (by first | rfl | omega) rfl) (oP rfl (zdq rfl (i:=0) rfl rfl Tryz.isAgg9 rfl) (oR 1 rfl (oZ rfl (zo rfl ?_)))))))))
     exact zi Tryz.results147 (.cons (zt (zl J) (((Cv.str (by first | decide | (unfold maxLen;omega)))).trans (Cv.eq (congrArg D.s (by first | rfl | (exfalso;omega)))))) .nil) rfl HSub.none ⟨rfl,rfl⟩
theorem sign_2  :
 CD Tryz.prog 147 [] [dI 2] (isR (.s (zb7 2))):=by
 refine zq Tryz.func147 J (N:=16) J J (fun C=>?_)
 refine jk [0] J (jT J (oR 1 J (oZ J (jT J (oE J (zV [.const (.string (⟨#[61]⟩:ByteArray)),.const (.string (⟨#[33,61]⟩:ByteArray)),.const (.string (⟨#[61,126]⟩:ByteArray)),.const (.string (⟨#[33,126]⟩:ByteArray))] J J (.cons (CellD.v J) (.cons (CellD.v J) (.cons (CellD.v J) (.cons (CellD.v J) .nil)))) J Tryz.runUnderlying23 Tryz.sizeOf9 Tryz.zeroValue9 J J J J) ?_)))))
 rintro _ _ ⟨g1,rfl,rfl⟩
 refine oR 1 J (oZ J (jS J (jS J (jk [0,2,3] J ?_))))
 refine zac 10 ((decide ((2:Int)<(1:Int))||decide ((4:Int)<(2:Int)))) [.sl (vS g1 4 4) 1 9 ([.v (.string (⟨#[61]⟩:ByteArray)),.v (.string (⟨#[33,61]⟩:ByteArray)),.v (.string (⟨#[61,126]⟩:ByteArray)),.v (.string (⟨#[33,126]⟩:ByteArray))])] (fun _ hQ2=>?_) ?_
 · skip
   by_cases hg3:(2:Int)<(1:Int)
   · skip
     refine zf J (oR 1 J (oP J (za2 J J (decide_eq_true hg3)) (oR 4 J (zr J ?_))))
     exact PD.sub ((10,dB (decide ((2:Int)<(1:Int))||decide ((4:Int)<(2:Int))))::[(0,dI 2),(2,.v (.string ByteArray.empty)),(3,.ov (vS g1 4 4))]) ⟨sc J (Cv.eq (congrArg (fun b=>D.v (.bool b)) (by first | (simp[hg3];done) | (simp_all;done)))),sk rfl,sk rfl,sk rfl,trivial⟩ hQ2
   · skip
     refine zf J (oR 1 J (oP J (za2 J J (decide_eq_false hg3)) (oR 2 J (oG J (zbg J J J) (oR 1 J (zr J ?_))))))
     exact PD.sub ((10,dB (decide ((2:Int)<(1:Int))||decide ((4:Int)<(2:Int))))::[(0,dI 2),(2,.v (.string ByteArray.empty)),(3,.ov (vS g1 4 4))]) ⟨sc J (Cv.eq (congrArg (fun b=>D.v (.bool b)) (by first | (simp[hg3];done) | (simp_all;done)))),sk rfl,sk rfl,sk rfl,trivial⟩ hQ2
 · skip
   refine zn ?_
   refine jC J (fun hc4=>?_) (fun hc4=>?_)
   · simp only[bA,bB,bC,bD,bE,bF,bG,bH,bI,bJ] at hc4
     refine jT J (oR 1 J (oZ J (zo J (zj ?_))))
     exact zi Tryz.results147 (.cons (zt (zl J) (((Cv.str (by first | decide | (unfold maxLen;omega)))).trans (Cv.eq (congrArg D.s (by first | rfl | (exfalso;omega)))))) .nil) rfl HSub.none ⟨rfl,rfl⟩
   · simp only[bA,bB,bC,bD,bE,bF,bG,bH,bI,bJ] at hc4
     refine zp J (zn (jT J (oR 2 J (oP J (zdp (c:=(1:Int)) J J (zaL (by omega) (by omega))) (oP rfl (zbH (k:=1) (j:=0) rfl rfl rfl Tryz.runUnderlying23 Tryz.sizeOf9 (by first | rfl | omega) rfl) (oP rfl (zdq rfl (i:=0) rfl rfl Tryz.isAgg9 rfl) (oR 1 rfl (oZ rfl (zo rfl ?_)))))))))
     exact zi Tryz.results147 (.cons (zt (zl J) (((Cv.str (by first | decide | (unfold maxLen;omega)))).trans (Cv.eq (congrArg D.s (by first | rfl | (exfalso;omega)))))) .nil) rfl HSub.none ⟨rfl,rfl⟩
theorem sign_3  :
 CD Tryz.prog 147 [] [dI 3] (isR (.s (zb7 3))):=by
 refine zq Tryz.func147 J (N:=16) J J (fun C=>?_)
 refine jk [0] J (jT J (oR 1 J (oZ J (jT J (oE J (zV [.const (.string (⟨#[61]⟩:ByteArray)),.const (.string (⟨#[33,61]⟩:ByteArray)),.const (.string (⟨#[61,126]⟩:ByteArray)),.const (.string (⟨#[33,126]⟩:ByteArray))] J J (.cons (CellD.v J) (.cons (CellD.v J) (.cons (CellD.v J) (.cons (CellD.v J) .nil)))) J Tryz.runUnderlying23 Tryz.sizeOf9 Tryz.zeroValue9 J J J J) ?_)))))
 rintro _ _ ⟨g1,rfl,rfl⟩
 refine oR 1 J (oZ J (jS J (jS J (jk [0,2,3] J ?_))))
 refine zac 10 ((decide ((3:Int)<(1:Int))||decide ((4:Int)<(3:Int)))) [.sl (vS g1 4 4) 1 9 ([.v (.string (⟨#[61]⟩:ByteArray)),.v (.string (⟨#[33,61]⟩:ByteArray)),.v (.string (⟨#[61,126]⟩:ByteArray)),.v (.string (⟨#[33,126]⟩:ByteArray))])] (fun _ hQ2=>?_) ?_
 · skip
   by_cases hg3:(3:Int)<(1:Int)
   · skip
     refine zf J (oR 1 J (oP J (za2 J J (decide_eq_true hg3)) (oR 4 J (zr J ?_))))
     exact PD.sub ((10,dB (decide ((3:Int)<(1:Int))||decide ((4:Int)<(3:Int))))::[(0,dI 3),(2,.v (.string ByteArray.empty)),(3,.ov (vS g1 4 4))]) ⟨sc J (Cv.eq (congrArg (fun b=>D.v (.bool b)) (by first | (simp[hg3];done) | (simp_all;done)))),sk rfl,sk rfl,sk rfl,trivial⟩ hQ2
   · skip
     refine zf J (oR 1 J (oP J (za2 J J (decide_eq_false hg3)) (oR 2 J (oG J (zbg J J J) (oR 1 J (zr J ?_))))))
     exact PD.sub ((10,dB (decide ((3:Int)<(1:Int))||decide ((4:Int)<(3:Int))))::[(0,dI 3),(2,.v (.string ByteArray.empty)),(3,.ov (vS g1 4 4))]) ⟨sc J (Cv.eq (congrArg (fun b=>D.v (.bool b)) (by first | (simp[hg3];done) | (simp_all;done)))),sk rfl,sk rfl,sk rfl,trivial⟩ hQ2
 · skip
   refine zn ?_
   refine jC J (fun hc4=>?_) (fun hc4=>?_)
   · simp only[bA,bB,bC,bD,bE,bF,bG,bH,bI,bJ] at hc4
     refine jT J (oR 1 J (oZ J (zo J (zj ?_))))
     exact zi Tryz.results147 (.cons (zt (zl J) (((Cv.str (by first | decide | (unfold maxLen;omega)))).trans (Cv.eq (congrArg D.s (by first | rfl | (exfalso;omega)))))) .nil) rfl HSub.none ⟨rfl,rfl⟩
   · simp only[bA,bB,bC,bD,bE,bF,bG,bH,bI,bJ] at hc4
     refine zp J (zn (jT J (oR 2 J (oP J (zdp (c:=(2:Int)) J J (zaL (by omega) (by omega))) (oP rfl (zbH (k:=2) (j:=0) rfl rfl rfl Tryz.runUnderlying23 Tryz.sizeOf9 (by first | rfl | omega) rfl) (oP rfl (zdq rfl (i:=0) rfl rfl Tryz.isAgg9 rfl) (oR 1 rfl (oZ rfl (zo rfl ?_)))))))))
     exact zi Tryz.results147 (.cons (zt (zl J) (((Cv.str (by first | decide | (unfold maxLen;omega)))).trans (Cv.eq (congrArg D.s (by first | rfl | (exfalso;omega)))))) .nil) rfl HSub.none ⟨rfl,rfl⟩
theorem sign_4  :
 CD Tryz.prog 147 [] [dI 4] (isR (.s (zb7 4))):=by
 refine zq Tryz.func147 J (N:=16) J J (fun C=>?_)
 refine jk [0] J (jT J (oR 1 J (oZ J (jT J (oE J (zV [.const (.string (⟨#[61]⟩:ByteArray)),.const (.string (⟨#[33,61]⟩:ByteArray)),.const (.string (⟨#[61,126]⟩:ByteArray)),.const (.string (⟨#[33,126]⟩:ByteArray))] J J (.cons (CellD.v J) (.cons (CellD.v J) (.cons (CellD.v J) (.cons (CellD.v J) .nil)))) J Tryz.runUnderlying23 Tryz.sizeOf9 Tryz.zeroValue9 J J J J) ?_)))))
 rintro _ _ ⟨g1,rfl,rfl⟩
 refine oR 1 J (oZ J (jS J (jS J (jk [0,2,3] J ?_))))
 refine zac 10 ((decide ((4:Int)<(1:Int))||decide ((4:Int)<(4:Int)))) [.sl (vS g1 4 4) 1 9 ([.v (.string (⟨#[61]⟩:ByteArray)),.v (.string (⟨#[33,61]⟩:ByteArray)),.v (.string (⟨#[61,126]⟩:ByteArray)),.v (.string (⟨#[33,126]⟩:ByteArray))])] (fun _ hQ2=>?_) ?_
 · skip
   by_cases hg3:(4:Int)<(1:Int)
   · skip
     refine zf J (oR 1 J (oP J (za2 J J (decide_eq_true hg3)) (oR 4 J (zr J ?_))))
     exact PD.sub ((10,dB (decide ((4:Int)<(1:Int))||decide ((4:Int)<(4:Int))))::[(0,dI 4),(2,.v (.string ByteArray.empty)),(3,.ov (vS g1 4 4))]) ⟨sc J (Cv.eq (congrArg (fun b=>D.v (.bool b)) (by first | (simp[hg3];done) | (simp_all;done)))),sk rfl,sk rfl,sk rfl,trivial⟩ hQ2
   · skip
     refine zf J (oR 1 J (oP J (za2 J J (decide_eq_false hg3)) (oR 2 J (oG J (zbg J J J) (oR 1 J (zr J ?_))))))
     exact PD.sub ((10,dB (decide ((4:Int)<(1:Int))||decide ((4:Int)<(4:Int))))::[(0,dI 4),(2,.v (.string ByteArray.empty)),(3,.ov (vS g1 4 4))]) ⟨sc J (Cv.eq (congrArg (fun b=>D.v (.bool b)) (by first | (simp[hg3];done) | (simp_all;done)))),sk rfl,sk rfl,sk rfl,trivial⟩ hQ2
 · skip
   refine zn ?_
   refine jC J (fun hc4=>?_) (fun hc4=>?_)
   · simp only[bA,bB,bC,bD,bE,bF,bG,bH,bI,bJ] at hc4
     refine jT J (oR 1 J (oZ J (zo J (zj ?_))))
     exact zi Tryz.results147 (.cons (zt (zl J) (((Cv.str (by first | decide | (unfold maxLen;omega)))).trans (Cv.eq (congrArg D.s (by first | rfl | (exfalso;omega)))))) .nil) rfl HSub.none ⟨rfl,rfl⟩
   · simp only[bA,bB,bC,bD,bE,bF,bG,bH,bI,bJ] at hc4
     refine zp J (zn (jT J (oR 2 J (oP J (zdp (c:=(3:Int)) J J (zaL (by omega) (by omega))) (oP rfl (zbH (k:=3) (j:=0) rfl rfl rfl Tryz.runUnderlying23 Tryz.sizeOf9 (by first | rfl | omega) rfl) (oP rfl (zdq rfl (i:=0) rfl rfl Tryz.isAgg9 rfl) (oR 1 rfl (oZ rfl (zo rfl ?_)))))))))
     exact zi Tryz.results147 (.cons (zt (zl J) (((Cv.str (by first | decide | (unfold maxLen;omega)))).trans (Cv.eq (congrArg D.s (by first | rfl | (exfalso;omega)))))) .nil) rfl HSub.none ⟨rfl,rfl⟩
theorem signp_c (op:Int) (h:1≤op∧op≤4):CD Tryz.prog 147 [] [dI op] (isR (.s (zb7 op))):=by
 obtain rfl | rfl | rfl | rfl:op=1∨op=2∨op=3∨op=4:=by omega
 · exact sign_1
 · exact sign_2
 · exact sign_3
 · exact sign_4
end Lp
