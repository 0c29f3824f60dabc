import Derived.Laws.BytesArg
import Derived.Test.YtheccaeefigajaaGreatDoorDJ
set_option linter.unusedSimpArgs false
set_option linter.unusedVariables false
set_option maxHeartbeats 4000000
set_option maxRecDepth 100000
namespace Lp
open Go Go.RowKit Go.Proofs
theorem cv_21_241 {a:Int} (h:0≤a∧a≤4294967295):∀ w,(convert 21 241 (.int .i32 a)).run Tryz.prog w=.ok (.int .u32 a) w:=fun w=>by
 have e:IntKind.u32.wrap a=a:=by simp[IntKind.wrap,IntKind.bits,IntKind.signed];omega
 simp[convert,run_underlying (show Tryz.prog.underlying 21=some _ by kernel_rfl),run_underlying (show Tryz.prog.underlying 241=some _ by kernel_rfl),Conv.intToInt,e]
theorem fa_213_1:FaP Tryz.prog 213 1 1:=fun _ _ _=>by kernel_rfl
theorem zaA (a:Nat):∀ w,(convert 21 5 (.int .i32 (a:Int))).run Tryz.prog w=.ok (.int .u8 ((a % 256:Nat):Int)) w:=fun w=>by
 have e:IntKind.u8.wrap (a:Int)=((a % 256:Nat):Int):=by simp[IntKind.wrap,IntKind.bits,IntKind.signed]
 simp[convert,run_underlying (show Tryz.prog.underlying 21=some _ by kernel_rfl),run_underlying (show Tryz.prog.underlying 5=some _ by kernel_rfl),Conv.intToInt,e]
theorem appNA_c (v:Value) (bs:List UInt8) (x:Nat) (h1:127<x) (h2:x<2147483648) (hl:bs.length≤1000000000000):
 CD Tryz.prog 215 [.sl v 1 5 (bs.map dU8)] [.ov v,.v (.int .i32 ((x:Nat):Int))] (fun r H'=>∃ v',r=.ov v'∧H'=[.sl v' 1 5 ((bs++encR x).map dU8)]):=by
 refine tZ Tryz.func215 O O (fun C=>?_)
 refine g' 8 O (tP O (zav O (c:=((x:Nat):Int)) (cv_21_241 (by omega))) (g' 11 O ?_))
 refine tD O (fun hc1=>?_) (fun hc1=>?_)
 · skip
   refine g' 4 O (tP O (zdR (a:=x) (n:=6) (m:=64) O O (by decide) (by decide)) (tP O (zav O (c:=(((x / 64) % 256:Nat):Int)) (zaA _)) (tP O (zcJ (a:=192) (b:=(x / 64) % 256) O O (by decide) (by omega) (or192 _ (by omega))) (g' 1 O (tP O (zav O (c:=((x % 256:Nat):Int)) (zaA _)) (tP O (zcF (a:=x % 256) (b:=63) O O (by omega) (by decide) (zed _)) (tP O (zcJ (a:=128) (b:=(x % 256) % 64) O O (by decide) (by omega) (zd3 _ (by omega))) (tE O (zE [.tmp 18,.tmp 22] O O (.cons (CellD.v O) (.cons (CellD.v O) .nil)) O Tryz.runUnderlying103 Tryz.sizeOf5 Tryz.zeroValue5 O O O O) ?_))))))))
   rintro _ _ ⟨g2,rfl,rfl⟩
   refine T.subH (HSub.turn (h':=.sl (vS g2 2 2) 1 5 ([(UInt8.ofNat (192+((x / 64) % 256))),(UInt8.ofNat (128+((x % 256) % 64)))].map dU8)) O (Hp.cvs_sl (.cons (Cv.eq (zci O (by omega))) (.cons (Cv.eq (zci O (by omega))) .nil)))) (tE O (zz (f:=dU8) (l:=bs) (l':=[(UInt8.ofNat (192+((x / 64) % 256))),(UInt8.ofNat (128+((x % 256) % 64)))]) (i:=1) O O O (SrcD.own (j:=0) O O) za6 zcf O O (by unfold maxLen;(try simp only[la,lc,ln,lm,lt',ld,ls,lr]);omega) (by (try simp only[la,lc,ln,lm,lt',ld,ls,lr]);omega)) ?_)
   rintro _ _ ⟨v3,rfl,rfl⟩
   refine g' 5 O (T.front 1 O (T.norm [.sl v3 1 5 ((bs++encR x).map dU8),.sl (vS g2 2 2) 1 5 ([(UInt8.ofNat (192+((x / 64) % 256))),(UInt8.ofNat (128+((x % 256) % 64)))].map dU8)] (by first | (exfalso;omega) | skip;unfold encR;first | rw[if_neg (by omega),if_pos (by omega)] | rw[if_neg (by omega),if_neg (by omega),if_pos (by omega)] | rw[if_neg (by omega),if_neg (by omega),if_neg (by omega),if_pos (by omega)] | rw[if_neg (by omega),if_neg (by omega),if_neg (by omega),if_neg (by omega)]) ?_))
   exact tR O (HSub.fst 1 O) ⟨v3,O,O⟩
 · skip
   refine g' 8 O ?_
   refine tD O (fun hc4=>?_) (fun hc4=>?_)
   · skip
     refine g' 2 O ?_
     refine tD O (fun hc5=>?_) (fun hc5=>?_)
     · skip
       refine g' 4 O (tP O (zdR (a:=x) (n:=12) (m:=4096) O O (by decide) (by decide)) (tP O (zav O (c:=(((x / 4096) % 256:Nat):Int)) (zaA _)) (tP O (zcJ (a:=224) (b:=(x / 4096) % 256) O O (by decide) (by omega) (or224 _ (by omega))) (g' 1 O (tP O (zdR (a:=x) (n:=6) (m:=64) O O (by decide) (by decide)) (tP O (zav O (c:=(((x / 64) % 256:Nat):Int)) (zaA _)) (tP O (zcF (a:=(x / 64) % 256) (b:=63) O O (by omega) (by decide) (zed _)) (tP O (zcJ (a:=128) (b:=((x / 64) % 256) % 64) O O (by decide) (by omega) (zd3 _ (by omega))) (g' 1 O (tP O (zav O (c:=((x % 256:Nat):Int)) (zaA _)) (tP O (zcF (a:=x % 256) (b:=63) O O (by omega) (by decide) (zed _)) (tP O (zcJ (a:=128) (b:=(x % 256) % 64) O O (by decide) (by omega) (zd3 _ (by omega))) (tE O (zE [.tmp 38,.tmp 43,.tmp 47] O O (.cons (CellD.v O) (.cons (CellD.v O) (.cons (CellD.v O) .nil))) O Tryz.runUnderlying103 Tryz.sizeOf5 Tryz.zeroValue5 O O O O) ?_)))))))))))))
       rintro _ _ ⟨g6,rfl,rfl⟩
       refine T.subH (HSub.turn (h':=.sl (vS g6 3 3) 1 5 ([(UInt8.ofNat (224+((x / 4096) % 256))),(UInt8.ofNat (128+(((x / 64) % 256) % 64))),(UInt8.ofNat (128+((x % 256) % 64)))].map dU8)) O (Hp.cvs_sl (.cons (Cv.eq (zci O (by omega))) (.cons (Cv.eq (zci O (by omega))) (.cons (Cv.eq (zci O (by omega))) .nil))))) (tE O (zz (f:=dU8) (l:=bs) (l':=[(UInt8.ofNat (224+((x / 4096) % 256))),(UInt8.ofNat (128+(((x / 64) % 256) % 64))),(UInt8.ofNat (128+((x % 256) % 64)))]) (i:=1) O O O (SrcD.own (j:=0) O O) za6 zcf O O (by unfold maxLen;(try simp only[la,lc,ln,lm,lt',ld,ls,lr]);omega) (by (try simp only[la,lc,ln,lm,lt',ld,ls,lr]);omega)) ?_)
       rintro _ _ ⟨v7,rfl,rfl⟩
       refine g' 5 O (T.front 1 O (T.norm [.sl v7 1 5 ((bs++encR x).map dU8),.sl (vS g6 3 3) 1 5 ([(UInt8.ofNat (224+((x / 4096) % 256))),(UInt8.ofNat (128+(((x / 64) % 256) % 64))),(UInt8.ofNat (128+((x % 256) % 64)))].map dU8)] (by first | (exfalso;omega) | skip;unfold encR;first | rw[if_neg (by omega),if_pos (by omega)] | rw[if_neg (by omega),if_neg (by omega),if_pos (by omega)] | rw[if_neg (by omega),if_neg (by omega),if_neg (by omega),if_pos (by omega)] | rw[if_neg (by omega),if_neg (by omega),if_neg (by omega),if_neg (by omega)]) ?_))
       exact tR O (HSub.fst 1 O) ⟨v7,O,O⟩
     · skip
       refine g' 5 O ?_
       refine tAnd 2 2 (c:=decide (((x:Nat):Int)≤(1114111:Int))) O O O O O O (fun hb8 nx9=>?_) ?_
       · skip
         have hf10:=of_decide_eq_true hb8
         refine g' 2 O ?_
         exact nx9 _ O O (kx 2 O O)
       refine g' 3 O ?_
       refine tC O (fun hc11=>?_) (fun hc11=>?_)
       · simp only[bX,bJ] at hc11
         refine g' 4 O (tP O (zdR (a:=x) (n:=18) (m:=262144) O O (by decide) (by decide)) (tP O (zav O (c:=(((x / 262144) % 256:Nat):Int)) (zaA _)) (tP O (zcJ (a:=240) (b:=(x / 262144) % 256) O O (by decide) (by omega) (or240 _ (by omega))) (g' 1 O (tP O (zdR (a:=x) (n:=12) (m:=4096) O O (by decide) (by decide)) (tP O (zav O (c:=(((x / 4096) % 256:Nat):Int)) (zaA _)) (tP O (zcF (a:=(x / 4096) % 256) (b:=63) O O (by omega) (by decide) (zed _)) (tP O (zcJ (a:=128) (b:=((x / 4096) % 256) % 64) O O (by decide) (by omega) (zd3 _ (by omega))) (g' 1 O (tP O (zdR (a:=x) (n:=6) (m:=64) O O (by decide) (by decide)) (tP O (zav O (c:=(((x / 64) % 256:Nat):Int)) (zaA _)) (tP O (zcF (a:=(x / 64) % 256) (b:=63) O O (by omega) (by decide) (zed _)) (tP O (zcJ (a:=128) (b:=((x / 64) % 256) % 64) O O (by decide) (by omega) (zd3 _ (by omega))) (g' 1 O (tP O (zav O (c:=((x % 256:Nat):Int)) (zaA _)) (tP O (zcF (a:=x % 256) (b:=63) O O (by omega) (by decide) (zed _)) (tP O (zcJ (a:=128) (b:=(x % 256) % 64) O O (by decide) (by omega) (zd3 _ (by omega))) ?_)))))))))))))))))
         refine tE O (zE [.tmp 61,.tmp 66,.tmp 71,.tmp 75] O O (.cons (CellD.v O) (.cons (CellD.v O) (.cons (CellD.v O) (.cons (CellD.v O) .nil)))) O Tryz.runUnderlying103 Tryz.sizeOf5 Tryz.zeroValue5 O O O O) ?_
         rintro _ _ ⟨g12,rfl,rfl⟩
         refine T.subH (HSub.turn (h':=.sl (vS g12 4 4) 1 5 ([(UInt8.ofNat (240+((x / 262144) % 256))),(UInt8.ofNat (128+(((x / 4096) % 256) % 64))),(UInt8.ofNat (128+(((x / 64) % 256) % 64))),(UInt8.ofNat (128+((x % 256) % 64)))].map dU8)) O (Hp.cvs_sl (.cons (Cv.eq (zci O (by omega))) (.cons (Cv.eq (zci O (by omega))) (.cons (Cv.eq (zci O (by omega))) (.cons (Cv.eq (zci O (by omega))) .nil)))))) (tE O (zz (f:=dU8) (l:=bs) (l':=[(UInt8.ofNat (240+((x / 262144) % 256))),(UInt8.ofNat (128+(((x / 4096) % 256) % 64))),(UInt8.ofNat (128+(((x / 64) % 256) % 64))),(UInt8.ofNat (128+((x % 256) % 64)))]) (i:=1) O O O (SrcD.own (j:=0) O O) za6 zcf O O (by unfold maxLen;(try simp only[la,lc,ln,lm,lt',ld,ls,lr]);omega) (by (try simp only[la,lc,ln,lm,lt',ld,ls,lr]);omega)) ?_)
         rintro _ _ ⟨v13,rfl,rfl⟩
         refine g' 5 O (T.front 1 O (T.norm [.sl v13 1 5 ((bs++encR x).map dU8),.sl (vS g12 4 4) 1 5 ([(UInt8.ofNat (240+((x / 262144) % 256))),(UInt8.ofNat (128+(((x / 4096) % 256) % 64))),(UInt8.ofNat (128+(((x / 64) % 256) % 64))),(UInt8.ofNat (128+((x % 256) % 64)))].map dU8)] (by first | (exfalso;omega) | skip;unfold encR;first | rw[if_neg (by omega),if_pos (by omega)] | rw[if_neg (by omega),if_neg (by omega),if_pos (by omega)] | rw[if_neg (by omega),if_neg (by omega),if_neg (by omega),if_pos (by omega)] | rw[if_neg (by omega),if_neg (by omega),if_neg (by omega),if_neg (by omega)]) ?_))
         exact tR O (HSub.fst 1 O) ⟨v13,O,O⟩
       · simp only[bX,bJ] at hc11
         refine g' 3 O (tE O (zE [.const (.int .u8 239),.const (.int .u8 191),.const (.int .u8 189)] O O (.cons (CellD.v O) (.cons (CellD.v O) (.cons (CellD.v O) .nil))) O Tryz.runUnderlying103 Tryz.sizeOf5 Tryz.zeroValue5 O O O O) ?_)
         rintro _ _ ⟨g14,rfl,rfl⟩
         refine tE O (zz (f:=dU8) (l:=bs) (l':=[(239:UInt8),(191:UInt8),(189:UInt8)]) (i:=1) O O O (SrcD.own (j:=0) O O) za6 zcf O O (by unfold maxLen;(try simp only[la,lc,ln,lm,lt',ld,ls,lr]);omega) (by (try simp only[la,lc,ln,lm,lt',ld,ls,lr]);omega)) ?_
         rintro _ _ ⟨v15,rfl,rfl⟩
         refine g' 5 O (T.front 1 O (T.norm [.sl v15 1 5 ((bs++encR x).map dU8),.sl (vS g14 3 3) 1 5 ([.v (.int .u8 239),.v (.int .u8 191),.v (.int .u8 189)])] (by first | (exfalso;omega) | skip;unfold encR;first | rw[if_neg (by omega),if_pos (by omega)] | rw[if_neg (by omega),if_neg (by omega),if_pos (by omega)] | rw[if_neg (by omega),if_neg (by omega),if_neg (by omega),if_pos (by omega)] | rw[if_neg (by omega),if_neg (by omega),if_neg (by omega),if_neg (by omega)]) ?_))
         exact tR O (HSub.fst 1 O) ⟨v15,O,O⟩
   · skip
     refine g' 4 O ?_
     refine tAnd 2 2 (c:=decide (((x:Nat):Int)≤(65535:Int))) O O O O O O (fun hb16 nx17=>?_) ?_
     · skip
       have hf18:=of_decide_eq_true hb16
       refine g' 2 O ?_
       exact nx17 _ O O (kx 2 O O)
     refine g' 3 O ?_
     refine tC O (fun hc19=>?_) (fun hc19=>?_)
     · simp only[bX,bJ] at hc19
       refine g' 4 O (tP O (zdR (a:=x) (n:=12) (m:=4096) O O (by decide) (by decide)) (tP O (zav O (c:=(((x / 4096) % 256:Nat):Int)) (zaA _)) (tP O (zcJ (a:=224) (b:=(x / 4096) % 256) O O (by decide) (by omega) (or224 _ (by omega))) (g' 1 O (tP O (zdR (a:=x) (n:=6) (m:=64) O O (by decide) (by decide)) (tP O (zav O (c:=(((x / 64) % 256:Nat):Int)) (zaA _)) (tP O (zcF (a:=(x / 64) % 256) (b:=63) O O (by omega) (by decide) (zed _)) (tP O (zcJ (a:=128) (b:=((x / 64) % 256) % 64) O O (by decide) (by omega) (zd3 _ (by omega))) (g' 1 O (tP O (zav O (c:=((x % 256:Nat):Int)) (zaA _)) (tP O (zcF (a:=x % 256) (b:=63) O O (by omega) (by decide) (zed _)) (tP O (zcJ (a:=128) (b:=(x % 256) % 64) O O (by decide) (by omega) (zd3 _ (by omega))) (tE O (zE [.tmp 38,.tmp 43,.tmp 47] O O (.cons (CellD.v O) (.cons (CellD.v O) (.cons (CellD.v O) .nil))) O Tryz.runUnderlying103 Tryz.sizeOf5 Tryz.zeroValue5 O O O O) ?_)))))))))))))
       rintro _ _ ⟨g20,rfl,rfl⟩
       refine T.subH (HSub.turn (h':=.sl (vS g20 3 3) 1 5 ([(UInt8.ofNat (224+((x / 4096) % 256))),(UInt8.ofNat (128+(((x / 64) % 256) % 64))),(UInt8.ofNat (128+((x % 256) % 64)))].map dU8)) O (Hp.cvs_sl (.cons (Cv.eq (zci O (by omega))) (.cons (Cv.eq (zci O (by omega))) (.cons (Cv.eq (zci O (by omega))) .nil))))) (tE O (zz (f:=dU8) (l:=bs) (l':=[(UInt8.ofNat (224+((x / 4096) % 256))),(UInt8.ofNat (128+(((x / 64) % 256) % 64))),(UInt8.ofNat (128+((x % 256) % 64)))]) (i:=1) O O O (SrcD.own (j:=0) O O) za6 zcf O O (by unfold maxLen;(try simp only[la,lc,ln,lm,lt',ld,ls,lr]);omega) (by (try simp only[la,lc,ln,lm,lt',ld,ls,lr]);omega)) ?_)
       rintro _ _ ⟨v21,rfl,rfl⟩
       refine g' 5 O (T.front 1 O (T.norm [.sl v21 1 5 ((bs++encR x).map dU8),.sl (vS g20 3 3) 1 5 ([(UInt8.ofNat (224+((x / 4096) % 256))),(UInt8.ofNat (128+(((x / 64) % 256) % 64))),(UInt8.ofNat (128+((x % 256) % 64)))].map dU8)] (by first | (exfalso;omega) | skip;unfold encR;first | rw[if_neg (by omega),if_pos (by omega)] | rw[if_neg (by omega),if_neg (by omega),if_pos (by omega)] | rw[if_neg (by omega),if_neg (by omega),if_neg (by omega),if_pos (by omega)] | rw[if_neg (by omega),if_neg (by omega),if_neg (by omega),if_neg (by omega)]) ?_))
       exact tR O (HSub.fst 1 O) ⟨v21,O,O⟩
     · simp only[bX,bJ] at hc19
       refine g' 5 O ?_
       refine tAnd 2 2 (c:=decide (((x:Nat):Int)≤(1114111:Int))) O O O O O O (fun hb22 nx23=>?_) ?_
       · skip
         have hf24:=of_decide_eq_true hb22
         refine g' 2 O ?_
         exact nx23 _ O O (kx 2 O O)
       refine g' 3 O ?_
       refine tC O (fun hc25=>?_) (fun hc25=>?_)
       · simp only[bX,bJ] at hc25
         refine g' 4 O (tP O (zdR (a:=x) (n:=18) (m:=262144) O O (by decide) (by decide)) (tP O (zav O (c:=(((x / 262144) % 256:Nat):Int)) (zaA _)) (tP O (zcJ (a:=240) (b:=(x / 262144) % 256) O O (by decide) (by omega) (or240 _ (by omega))) (g' 1 O (tP O (zdR (a:=x) (n:=12) (m:=4096) O O (by decide) (by decide)) (tP O (zav O (c:=(((x / 4096) % 256:Nat):Int)) (zaA _)) (tP O (zcF (a:=(x / 4096) % 256) (b:=63) O O (by omega) (by decide) (zed _)) (tP O (zcJ (a:=128) (b:=((x / 4096) % 256) % 64) O O (by decide) (by omega) (zd3 _ (by omega))) (g' 1 O (tP O (zdR (a:=x) (n:=6) (m:=64) O O (by decide) (by decide)) (tP O (zav O (c:=(((x / 64) % 256:Nat):Int)) (zaA _)) (tP O (zcF (a:=(x / 64) % 256) (b:=63) O O (by omega) (by decide) (zed _)) (tP O (zcJ (a:=128) (b:=((x / 64) % 256) % 64) O O (by decide) (by omega) (zd3 _ (by omega))) (g' 1 O (tP O (zav O (c:=((x % 256:Nat):Int)) (zaA _)) (tP O (zcF (a:=x % 256) (b:=63) O O (by omega) (by decide) (zed _)) (tP O (zcJ (a:=128) (b:=(x % 256) % 64) O O (by decide) (by omega) (zd3 _ (by omega))) ?_)))))))))))))))))
         refine tE O (zE [.tmp 61,.tmp 66,.tmp 71,.tmp 75] O O (.cons (CellD.v O) (.cons (CellD.v O) (.cons (CellD.v O) (.cons (CellD.v O) .nil)))) O Tryz.runUnderlying103 Tryz.sizeOf5 Tryz.zeroValue5 O O O O) ?_
         rintro _ _ ⟨g26,rfl,rfl⟩
         refine T.subH (HSub.turn (h':=.sl (vS g26 4 4) 1 5 ([(UInt8.ofNat (240+((x / 262144) % 256))),(UInt8.ofNat (128+(((x / 4096) % 256) % 64))),(UInt8.ofNat (128+(((x / 64) % 256) % 64))),(UInt8.ofNat (128+((x % 256) % 64)))].map dU8)) O (Hp.cvs_sl (.cons (Cv.eq (zci O (by omega))) (.cons (Cv.eq (zci O (by omega))) (.cons (Cv.eq (zci O (by omega))) (.cons (Cv.eq (zci O (by omega))) .nil)))))) (tE O (zz (f:=dU8) (l:=bs) (l':=[(UInt8.ofNat (240+((x / 262144) % 256))),(UInt8.ofNat (128+(((x / 4096) % 256) % 64))),(UInt8.ofNat (128+(((x / 64) % 256) % 64))),(UInt8.ofNat (128+((x % 256) % 64)))]) (i:=1) O O O (SrcD.own (j:=0) O O) za6 zcf O O (by unfold maxLen;(try simp only[la,lc,ln,lm,lt',ld,ls,lr]);omega) (by (try simp only[la,lc,ln,lm,lt',ld,ls,lr]);omega)) ?_)
         rintro _ _ ⟨v27,rfl,rfl⟩
         refine g' 5 O (T.front 1 O (T.norm [.sl v27 1 5 ((bs++encR x).map dU8),.sl (vS g26 4 4) 1 5 ([(UInt8.ofNat (240+((x / 262144) % 256))),(UInt8.ofNat (128+(((x / 4096) % 256) % 64))),(UInt8.ofNat (128+(((x / 64) % 256) % 64))),(UInt8.ofNat (128+((x % 256) % 64)))].map dU8)] (by first | (exfalso;omega) | skip;unfold encR;first | rw[if_neg (by omega),if_pos (by omega)] | rw[if_neg (by omega),if_neg (by omega),if_pos (by omega)] | rw[if_neg (by omega),if_neg (by omega),if_neg (by omega),if_pos (by omega)] | rw[if_neg (by omega),if_neg (by omega),if_neg (by omega),if_neg (by omega)]) ?_))
         exact tR O (HSub.fst 1 O) ⟨v27,O,O⟩
       · simp only[bX,bJ] at hc25
         refine g' 3 O (tE O (zE [.const (.int .u8 239),.const (.int .u8 191),.const (.int .u8 189)] O O (.cons (CellD.v O) (.cons (CellD.v O) (.cons (CellD.v O) .nil))) O Tryz.runUnderlying103 Tryz.sizeOf5 Tryz.zeroValue5 O O O O) ?_)
         rintro _ _ ⟨g28,rfl,rfl⟩
         refine tE O (zz (f:=dU8) (l:=bs) (l':=[(239:UInt8),(191:UInt8),(189:UInt8)]) (i:=1) O O O (SrcD.own (j:=0) O O) za6 zcf O O (by unfold maxLen;(try simp only[la,lc,ln,lm,lt',ld,ls,lr]);omega) (by (try simp only[la,lc,ln,lm,lt',ld,ls,lr]);omega)) ?_
         rintro _ _ ⟨v29,rfl,rfl⟩
         refine g' 5 O (T.front 1 O (T.norm [.sl v29 1 5 ((bs++encR x).map dU8),.sl (vS g28 3 3) 1 5 ([.v (.int .u8 239),.v (.int .u8 191),.v (.int .u8 189)])] (by first | (exfalso;omega) | skip;unfold encR;first | rw[if_neg (by omega),if_pos (by omega)] | rw[if_neg (by omega),if_neg (by omega),if_pos (by omega)] | rw[if_neg (by omega),if_neg (by omega),if_neg (by omega),if_pos (by omega)] | rw[if_neg (by omega),if_neg (by omega),if_neg (by omega),if_neg (by omega)]) ?_))
         exact tR O (HSub.fst 1 O) ⟨v29,O,O⟩
theorem appR_c (v:Value) (bs:List UInt8) (x:Nat) (h2:x<2147483648) (hl:bs.length≤1000000000000):
 CD Tryz.prog 194 [.sl v 1 5 (bs.map dU8)] [.ov v,.v (.int .i32 ((x:Nat):Int))] (fun r H'=>∃ v',r=.ov v'∧H'=[.sl v' 1 5 ((bs++encR x).map dU8)]):=by
 refine tZ Tryz.func194 O O (fun C=>?_)
 refine g' 9 O (tP O (zav O (c:=((x:Nat):Int)) (cv_21_241 (by omega))) (g' 3 O ?_))
 refine tD O (fun hc1=>?_) (fun hc1=>?_)
 · skip
   refine g' 4 O (tP O (zav O (c:=((x % 256:Nat):Int)) (zaA _)) (tE O (zE [.tmp 10] O O (.cons (CellD.v O) .nil) O Tryz.runUnderlying103 Tryz.sizeOf5 Tryz.zeroValue5 O O O O) ?_))
   rintro _ _ ⟨g2,rfl,rfl⟩
   refine T.subH (HSub.turn (h':=.sl (vS g2 1 1) 1 5 ([(UInt8.ofNat (x % 256))].map dU8)) O (Hp.cvs_sl (.cons (Cv.eq (zci O (by omega))) .nil))) (tE O (zz (f:=dU8) (l:=bs) (l':=[(UInt8.ofNat (x % 256))]) (i:=1) O O O (SrcD.own (j:=0) O O) za6 zcf O O (by unfold maxLen;(try simp only[la,lc,ln,lm,lt',ld,ls,lr]);omega) (by (try simp only[la,lc,ln,lm,lt',ld,ls,lr]);omega)) ?_)
   rintro _ _ ⟨v3,rfl,rfl⟩
   refine g' 5 O (T.front 1 O (T.norm [.sl v3 1 5 ((bs++encR x).map dU8),.sl (vS g2 1 1) 1 5 ([(UInt8.ofNat (x % 256))].map dU8)] (by unfold encR;rw[if_pos (by omega)]) ?_))
   exact tR O (HSub.fst 1 O) ⟨v3,O,O⟩
 · skip
   refine g' 6 O (tX [0] O O acs (appNA_c v bs x (by omega) (by omega) (by (try simp only[la,lc,ln]);omega)) ?_)
   rintro _ _ ⟨rv4,rfl,rfl⟩
   refine g' 4 O ?_
   exact tR O (HSub.fst 1 O) ⟨rv4,O,O⟩
theorem WriteRune_c (g:Nat) (p v:Value) (bs:List UInt8) (x:Nat) (hp:p=.pointer none∨p=.pointer (some ⟨g,0,none⟩)) (hl:bs.length≤1000000000000) (hx:x<2147483648):
 CD Tryz.prog 170 [.bx g 213 (.agg [.v p,.ov v]),.sl v 1 5 (bs.map dU8)] [dP g 0,.v (.int .i32 ((x:Nat):Int))] (fun r H'=>∃ v' n,r=.tup [dI n,.v .nilIface]∧H'=[.bx g 213 (.agg [dP g 0,.ov v']),.sl v' 1 5 ((bs++encR x).map dU8)]):=by
 refine tZ Tryz.func170 O O (fun C=>?_)
 have hel:=zea x
 refine g' 9 O (tX [0] O O acs (copyCheck_c g p (.ov v) hp) ?_)
 rintro _ _ ⟨rfl,rfl⟩
 refine gQ 8 [0] O O (tP O (zV (n:=bs.length) (j:=1) O O Tryz.runUnderlying103 (List.length_map _)) (gQ 11 [0] O O (tX [1] O O acs (appR_c v bs x  (by omega) (by (try simp only[la,lc,ln]);omega)) ?_)))
 rintro _ _ ⟨rv1,rfl,rfl⟩
 refine gQ 11 [1,1] O O (tP O (zV (n:=(bs++encR x).length) (j:=0) O O Tryz.runUnderlying103 (List.length_map _)) (g' 1 O (tP O (zcI (c:=((((bs++encR x).length:Nat):Int)-((bs.length:Nat):Int))) O O (zn (by omega) (by (try simp only[la]);omega))) (g' 5 O (T.front 1 O ?_)))))
 exact tR O (HSub.fst 2 O) ⟨rv1,_,O,O⟩
theorem String_c (g:Nat) (p v:Value) (bs:List UInt8) (h0:bs≠[]):
 CD Tryz.prog 173 [.bx g 213 (.agg [.v p,.ov v]),.sl v 1 5 (bs.map dU8)] [dP g 0] (fun r H'=>r=.s ⟨bs.toArray⟩∧H'=[]):=by
 refine tZ Tryz.func173 O O (fun C=>?_)
 refine g' 6 O (T.keep [0,2] O (tDr 10 [(3,dP g 0,none),(4,dP g 0,none),(5,dP g 1,none),(6,.ov v,none),(7,.v (.pointer (some ⟨bl v,0,none⟩)),none),(8,dP g 0,none),(9,dP g 0,none),(10,dP g 1,none),(11,.ov v,none),(12,dN bs.length,none)] [.bx g 213 (.agg [.v p,.ov v]),.sl v 1 5 (bs.map dU8)] (Hn:=[.bx g 213 (.agg [.v p,.ov v]),.sl v 1 5 (bs.map dU8)]) mixed O O O O HSub.rfl' O ⟨sa_p O O O (zi O),sa_p O O O (zB O),sa_p O O O (zm O fa_213_1 O),sa_p O O O (zk O (i:=0) O Tryz.isAgg103 O),sa_p O O O (p_sliceData (i:=1) O O (by rw[List.length_map];exact List.length_pos_iff.2 h0)),sa_p O O O (zi O),sa_p O O O (zB O),sa_p O O O (zm O fa_213_1 O),sa_p O O O (zk O (i:=0) O Tryz.isAgg103 O),sa_p O O O (zV (n:=bs.length) (j:=1) O O Tryz.runUnderlying103 (List.length_map _)),trivial⟩ (tK O (tE O (ef_unsafeString (i:=1) (bs:=bs) O O O O h0 (by kernel_rfl) (by kernel_rfl)) ?_))))
 rintro _ _ ⟨rfl,rfl⟩
 refine g' 4 O ?_
 exact tR O HSub.none ⟨O,O⟩
theorem hasP_c (a:ByteArray) (b:ByteArray) :
 CD Tryz.prog 195 [] [.s a,.s b] (isR (dB (hasP a b))):=by
 refine tZ Tryz.func195 O O (fun C=>?_)
 refine T.bd 0 O (fun bd0=>?_)
 have sz0:a.size≤9223372036854775807:=bd0
 refine T.bd 1 O (fun bd1=>?_)
 have sz1:b.size≤9223372036854775807:=bd1
 refine g' 8 O (tP O (zu O Tryz.runUnderlying9) (g' 1 O (tP O (zu O Tryz.runUnderlying9) (g' 2 O ?_))))
 refine tAnd 5 6 (c:=decide ((a.extract 0 b.size)=b)) O O O O O O (fun hb1 nx2=>?_) ?_
 · skip
   have hf3:=of_decide_eq_true hb1
   refine g' 2 O (tG O (zu O Tryz.runUnderlying9) (tG O (zw (a:=0) (c:=b.size) O O O (by first | rfl | (show _=_;omega)) (by first | rfl | (show _=_;omega)) Tryz.runUnderlying9 (by omega) (by omega)) (g' 2 O ?_)))
   exact nx2 _ O O (kx 6 O O)
 refine g' 4 O ?_
 exact tRs O Tryz.results195 (.cons (zd (zc O) (cB ((by unfold hasP;simp[*])))) .nil) O HSub.none ⟨O,O⟩
theorem HasPrefix_c (a:ByteArray) (b:ByteArray) :
 CD Tryz.prog 172 [] [.s a,.s b] (isR (dB (hasP a b))):=by
 refine tZ Tryz.func172 O O (fun C=>?_)
 refine T.bd 0 O (fun bd0=>?_)
 have sz0:a.size≤9223372036854775807:=bd0
 refine T.bd 1 O (fun bd1=>?_)
 have sz1:b.size≤9223372036854775807:=bd1
 refine g' 9 O (tW O acs (hasP_c a b) (g' 4 O ?_))
 exact tR O HSub.none ⟨O,O⟩
theorem Quote_c (s:ByteArray) (hs:s.size≤1000000000):
 CD Tryz.prog 148 [] [.s s] (isR (D.s (zab s))):=by
 refine tZ Tryz.func148 O O (fun C=>?_)
 refine T.bd 0 O (fun bd0=>?_)
 have sz0:s.size≤9223372036854775807:=bd0
 refine g' 7 O (tE O (ef_alloc (zv:=(.agg #[(.pointer none),(.slice none 0 0)])) (X:=.agg [.v (.pointer none),.ov (.slice none 0 0)]) Tryz.zeroValue213 ⟨O,O,trivial⟩ ((Cv.vagg (by decide)).trans (Cv.agg (gc (.cons (Cv.ov O) .nil))))) ?_)
 rintro _ _ ⟨g1,rfl,rfl⟩
 refine T.subH (HSub.nil 1 5) (g' 4 O (tX [1,0] O O acs (zb4 g1 (.pointer none) (.slice none 0 0) [] (34:UInt8) (.inl O) (by (try simp only[la,lc,ln]);omega)) ?_))
 rintro _ _ ⟨bv2,rfl,rfl⟩
 refine g' 6 O (tE O (zbJ O Tryz.runUnderlying9) ?_)
 rintro _ _ ⟨g3,rfl,rfl⟩
 refine g' 3 O (tl3 (fun (a_:Nat) (b_:Value) (c_:List UInt8)=>[(0,.s s),(2,.v (.string ByteArray.empty)),(3,dP g1 0),(8,dP g3 0)]) (fun a_ b_ c_=>[.it g3 s a_,.bx g1 213 (.agg [dP g1 0,.ov b_]),.sl b_ 1 5 (c_.map dU8)]) (fun a_ b_ c_=>(a_≤s.size)∧(c_.length≤1+5*a_)∧([34]++zD s 0=c_++zD s a_)) (fun a_ b_ c_=>s.size-a_) 0 bv2 ([]++[(34:UInt8)]) O (sa O) HSub.rfl' ⟨Nat.zero_le _,by simp,O⟩ ?_)
 rintro p ov bs ⟨hp,hn,hq⟩
 rcases Nat.lt_or_ge p s.size with hlt | hge
 · skip
   have hrune:=zX hlt
   have hrl:=za9 s p
   have hdw:=zJ s p hlt
   have hdp:=zp s p
   refine g' 2 O (tE O (zaU (i:=0) O O hlt) ?_)
   rintro _ _ ⟨rfl,rfl⟩
   refine g' 22 O ?_
   refine tOr 2 2 (c:=decide (((decR s p:Nat):Int)=(92:Int))) O O O O O O (fun hb4 nx5=>?_) ?_
   · skip
     have hf6:=of_decide_eq_false hb4
     refine g' 2 O ?_
     exact nx5 _ O O (kx 2 O O)
   refine g' 3 O ?_
   refine tC O (fun hc7=>?_) (fun hc7=>?_)
   · simp only[bX,bJ] at hc7
     refine g' 2 O (tX [1,1] O O acs (zb4 g1 (.pointer (some ⟨g1,0,none⟩)) ov bs (92:UInt8) (.inr O) (by (try simp only[la,lc,ln]);omega)) ?_)
     rintro _ _ ⟨bv8,rfl,rfl⟩
     refine g' 4 O (tX [0,0] O O acs (WriteRune_c g1 (.pointer (some ⟨g1,0,none⟩)) bv8 (bs++[(92:UInt8)]) (decR s p) (.inr O) (by (try simp only[la,lc,ln]);omega) (by omega)) ?_)
     rintro _ _ ⟨bv9,nw10,rfl,rfl⟩
     refine g' 3 O (T.front 1 O (T.front 1 O (T.front 2 O ?_)))
     exact tp3 (p+decW s p) bv9 ((bs++[(92:UInt8)])++encR (decR s p)) (sa O) HSub.rfl' ⟨by have:=zJ s p hlt;omega,by (try simp only[la,lc,ln]);have:=zp s p;have:=zea (decR s p);omega,by rw[hq,zau hlt,piece_1 (by omega)];simp only[List.append_assoc,List.cons_append,List.nil_append]⟩ (by have:=zp s p;omega)
   · simp only[bX,bJ] at hc7
     refine g' 7 O ?_
     refine tD O (fun hc11=>?_) (fun hc11=>?_)
     · skip
       refine g' 1 O (tX [1,1] O O (ga (.cons (ArgC.cv cS) .nil)) (WriteString_c g1 (.pointer (some ⟨g1,0,none⟩)) ov bs (⟨#[92,110]⟩:ByteArray) (.inr O) (by (try simp only[la,lc,ln]);omega) (by first | decide | omega)) ?_)
       rintro _ _ ⟨bv12,rfl,rfl⟩
       refine g' 3 O (T.front 1 O (T.front 1 O (T.front 2 O ?_)))
       exact tp3 (p+decW s p) bv12 (bs++(⟨#[92,110]⟩:ByteArray).data.toList) (sa O) HSub.rfl' ⟨by have:=zJ s p hlt;omega,by (try simp only[la,lc,ln]);have:=zp s p;have:=zea (decR s p);omega,by rw[hq,zau hlt,piece_2 (by omega) (by omega)];simp only[List.append_assoc,List.cons_append,List.nil_append]⟩ (by have:=zp s p;omega)
     · skip
       refine g' 5 O ?_
       refine tAnd 2 5 (c:=!(hasP (s.extract p s.size) (⟨#[239,191,189]⟩:ByteArray))) O O O O O O (fun hb13 nx14=>?_) ?_
       · skip
         have hf15:=of_decide_eq_true hb13
         refine g' 2 O (tG O (zw (a:=p) (c:=s.size) O O O (by first | rfl | (show _=_;omega)) (by first | rfl | (show _=_;omega)) Tryz.runUnderlying9 (by omega) (by omega)) (tW O (ga (.cons (ArgC.cv cS) .nil)) (HasPrefix_c (s.extract p s.size) (⟨#[239,191,189]⟩:ByteArray)) (g' 1 O ?_)))
         exact nx14 _ O O (kx 5 O O)
       refine g' 3 O ?_
       refine tC O (fun hc16=>?_) (fun hc16=>?_)
       · simp only[bX,bJ] at hc16
         refine g' 2 O (tX [1,1] O O (ga (.cons (ArgC.cv cS) .nil)) (WriteString_c g1 (.pointer (some ⟨g1,0,none⟩)) ov bs (⟨#[92,120]⟩:ByteArray) (.inr O) (by (try simp only[la,lc,ln]);omega) (by first | decide | omega)) ?_)
         rintro _ _ ⟨bv17,rfl,rfl⟩
         refine g' 6 O ?_
         obtain ⟨u1,hu1⟩:=zai s p (by omega)
         have hlu1:=u1.toNat_lt
         refine tP O (zl (k:=p) O O Tryz.runUnderlying9 (by first | rfl | omega) hu1) (tP O (zdR (a:=u1.toNat) (n:=4) (m:=16) O O (by decide) (by decide)) ?_)
         obtain ⟨u2,hu2⟩:=zai (⟨#[48,49,50,51,52,53,54,55,56,57,97,98,99,100,101,102]⟩:ByteArray) (u1.toNat / 16) (by show _<16;omega)
         have hlu2:=u2.toNat_lt
         refine tP O (zl (k:=u1.toNat / 16) O O Tryz.runUnderlying9 (by first | rfl | omega) hu2) (tX [0,0] O O acs (zb4 g1 (.pointer (some ⟨g1,0,none⟩)) bv17 (bs++(⟨#[92,120]⟩:ByteArray).data.toList) u2 (.inr O) (by (try simp only[la,lc,ln]);omega)) ?_)
         rintro _ _ ⟨bv18,rfl,rfl⟩
         refine g' 5 O (tP O (zl (k:=p) O O Tryz.runUnderlying9 (by first | rfl | omega) hu1) (tP O (zcF (a:=u1.toNat) (b:=15) O O (by omega) (by decide) (and15 _)) ?_))
         obtain ⟨u3,hu3⟩:=zai (⟨#[48,49,50,51,52,53,54,55,56,57,97,98,99,100,101,102]⟩:ByteArray) (u1.toNat % 16) (by show _<16;omega)
         have hlu3:=u3.toNat_lt
         refine tP O (zl (k:=u1.toNat % 16) O O Tryz.runUnderlying9 (by first | rfl | omega) hu3) (tX [0,0] O O acs (zb4 g1 (.pointer (some ⟨g1,0,none⟩)) bv18 ((bs++(⟨#[92,120]⟩:ByteArray).data.toList)++[u2]) u3 (.inr O) (by (try simp only[la,lc,ln]);omega)) ?_)
         rintro _ _ ⟨bv19,rfl,rfl⟩
         refine g' 3 O (T.front 1 O (T.front 1 O (T.front 2 O ?_)))
         exact tp3 (p+decW s p) bv19 (((bs++(⟨#[92,120]⟩:ByteArray).data.toList)++[u2])++[u3]) (sa O) HSub.rfl' ⟨by have:=zJ s p hlt;omega,by (try simp only[la,lc,ln]);have:=zp s p;have:=zea (decR s p);omega,by rw[hq,zau hlt,piece_3 (by omega) (by omega) ⟨by have:=hc16.1;omega,hc16.2⟩];rw[←zx hu1];rw[←hexB_at hu2,←hexB_at hu3];simp only[List.append_assoc,List.cons_append,List.nil_append]⟩ (by have:=zp s p;omega)
       · simp only[bX,bJ] at hc16
         refine g' 2 O (tX [1,1] O O acs (WriteRune_c g1 (.pointer (some ⟨g1,0,none⟩)) ov bs (decR s p) (.inr O) (by (try simp only[la,lc,ln]);omega) (by omega)) ?_)
         rintro _ _ ⟨bv20,nw21,rfl,rfl⟩
         refine g' 3 O (T.front 1 O (T.front 1 O (T.front 2 O ?_)))
         exact tp3 (p+decW s p) bv20 (bs++encR (decR s p)) (sa rfl) HSub.rfl' ⟨by have:=zJ s p hlt;omega,by (try simp only[la,lc,ln]);have:=zp s p;have:=zea (decR s p);omega,by rw[hq,zau hlt,piece_4 (by omega) (by omega) (fun e=>by rcases hc16 with h | h<;>first | exact h (by have:=e.1;omega) | exact absurd (e.2.symm.trans h) (by decide))];simp only[List.append_assoc,List.cons_append,List.nil_append]⟩ (by have:=zp s p;omega)
 · skip
   have hrune:=zaf hge
   refine g' 2 O (tP O (zbA (i:=0) O O hge) (g' 12 O (tX [1,1] O O acs (zb4 g1 (.pointer (some ⟨g1,0,none⟩)) ov bs (34:UInt8) (.inr O) (by (try simp only[la,lc,ln]);omega)) ?_)))
   rintro _ _ ⟨bv22,rfl,rfl⟩
   refine g' 4 O (tX [0,0] O O acs (String_c g1 (.pointer (some ⟨g1,0,none⟩)) bv22 (bs++[(34:UInt8)]) (by simp)) ?_)
   rintro _ _ ⟨rfl,rfl⟩
   refine g' 4 O ?_
   exact tRs O Tryz.results148 (.cons (zd (zc O) (Cv.eq (congrArg D.s (by rw[za2 hge,List.append_nil] at hq;rw[←hq];rfl)))) .nil) O HSub.none ⟨O,O⟩
end Lp
set_option linter.unusedSimpArgs false
set_option linter.unusedVariables false
set_option maxHeartbeats 4000000
set_option maxRecDepth 100000
namespace Lp
open Go Go.RowKit Go.Proofs
theorem zU:BdP Tryz.prog #[⟨"Kind",3,0,false, "", "",0⟩,⟨"At",3,1,false, "", "",8⟩,⟨"Text",9,2,false, "", "",16⟩] [(0,1),(1,1),(2,1)]:=fun _=>by kernel_rfl
theorem indexI_c (ns:List Int) (n:Int) :
 CD Tryz.prog 175 [] [.sh 1 (ns.map dI),dI n] (isR (dI (idxI n 0 ns))):=by
 refine tZ Tryz.func175 O O (fun C=>?_)
 refine T.bd 0 O (fun bd0=>?_)
 have nl0:=zbK bd0
 refine g' 9 O (tP O (z8 (n:=ns.length) O Tryz.runUnderlying55 (by simp only[lm,lc,ln])) (g' 4 O (tl1 (fun (a_:Nat)=>[(0,.sh 1 (ns.map dI)),(1,dI n),(7,dN ns.length),(8,dN a_)]) (fun a_=>[]) (fun a_=>(idxI n 0 ns=idxI n a_ (ns.drop a_))) (fun a_=>ns.length-a_) 0 O (sa O) HSub.rfl' O ?_)))
 rintro k hf
 refine g' 6 O ?_
 refine tD O (fun hc1=>?_) (fun hc1=>?_)
 · skip
   refine g' 15 O ?_
   obtain ⟨x1,hx1⟩:=zN ns k (by omega)
   refine tP O (zr (k:=k) O O Tryz.runUnderlying55 Tryz.sizeOf3 (by first | rfl | omega) (zI hx1)) (g' 4 O ?_)
   refine tD O (fun hc2=>?_) (fun hc2=>?_)
   · skip
     refine g' 12 O ?_
     exact tRs O Tryz.results175 (.cons (zd (zc O) (Cv.eq (congrArg (fun n=>D.v (.int .i64 n)) (by exact idxI_at hx1 hf hc2)))) .nil) O HSub.none ⟨O,O⟩
   · skip
     refine g' 4 O (tP O (zy (c:=((k+1:Nat):Int)) O O (zn (by omega) (by omega))) (g' 2 O ?_))
     exact tp1 (k+1) (sa O) HSub.rfl' (idxI_next hx1 hf hc2) (by omega)
 · skip
   refine g' 11 O ?_
   exact tRs O Tryz.results175 (.cons (zd (zc O) (Cv.eq (congrArg (fun n=>D.v (.int .i64 n)) (by exact idxI_end (by omega) hf)))) .nil) O HSub.none ⟨O,O⟩
theorem containsI_c (ns:List Int) (n:Int) :
 CD Tryz.prog 150 [] [.sh 1 (ns.map dI),dI n] (isR (dB (hasI ns n))):=by
 refine tZ Tryz.func150 O O (fun C=>?_)
 refine T.bd 0 O (fun bd0=>?_)
 have nl0:=zbK bd0
 refine g' 9 O (tW O acs (indexI_c ns n) (g' 5 O ?_))
 exact tRs O Tryz.results150 (.cons (zd (zc O) (cB ((by exact idxI_has n ns 0)))) .nil) O HSub.none ⟨O,O⟩
theorem indexS_c (ns:List ByteArray) (n:ByteArray) :
 CD Tryz.prog 117 [] [.sh 1 (ns.map D.s),.s n] (isR (dI (idxN n 0 ns))):=by
 refine tZ Tryz.func117 O O (fun C=>?_)
 refine T.bd 0 O (fun bd0=>?_)
 have nl0:=zbK bd0
 refine T.bd 1 O (fun bd1=>?_)
 have sz1:n.size≤9223372036854775807:=bd1
 refine g' 9 O (tP O (z8 (n:=ns.length) O Tryz.runUnderlying23 (by simp only[lm,lc,ln])) (g' 4 O (tl1 (fun (a_:Nat)=>[(0,.sh 1 (ns.map D.s)),(1,.s n),(7,dN ns.length),(8,dN a_)]) (fun a_=>[]) (fun a_=>(idxN n 0 ns=idxN n a_ (ns.drop a_))) (fun a_=>ns.length-a_) 0 O (sa O) HSub.rfl' O ?_)))
 rintro k hf
 refine g' 6 O ?_
 refine tD O (fun hc1=>?_) (fun hc1=>?_)
 · skip
   refine g' 15 O ?_
   obtain ⟨x1,hx1⟩:=zN ns k (by omega)
   refine tP O (zr (k:=k) O O Tryz.runUnderlying23 Tryz.sizeOf9 (by first | rfl | omega) (zI hx1)) (g' 4 O ?_)
   refine tD O (fun hc2=>?_) (fun hc2=>?_)
   · skip
     refine g' 12 O ?_
     exact tRs O Tryz.results117 (.cons (zd (zc O) (Cv.eq (congrArg (fun n=>D.v (.int .i64 n)) (by exact idxN_at hx1 hf hc2)))) .nil) O HSub.none ⟨O,O⟩
   · skip
     refine g' 4 O (tP O (zy (c:=((k+1:Nat):Int)) O O (zn (by omega) (by omega))) (g' 2 O ?_))
     exact tp1 (k+1) (sa O) HSub.rfl' (idxN_next hx1 hf hc2) (by omega)
 · skip
   refine g' 11 O ?_
   exact tRs O Tryz.results117 (.cons (zd (zc O) (Cv.eq (congrArg (fun n=>D.v (.int .i64 n)) (by exact idxN_end (by omega) hf)))) .nil) O HSub.none ⟨O,O⟩
theorem containsS_c (ns:List ByteArray) (n:ByteArray) :
 CD Tryz.prog 46 [] [.sh 1 (ns.map D.s),.s n] (isR (dB (hasN ns n))):=by
 refine tZ Tryz.func46 O O (fun C=>?_)
 refine T.bd 0 O (fun bd0=>?_)
 have nl0:=zbK bd0
 refine T.bd 1 O (fun bd1=>?_)
 have sz1:n.size≤9223372036854775807:=bd1
 refine g' 9 O (tW O acs (indexS_c ns n) (g' 5 O ?_))
 exact tRs O Tryz.results46 (.cons (zd (zc O) (cB ((by exact idxN_has n ns 0)))) .nil) O HSub.none ⟨O,O⟩
theorem zfn (s:ByteArray) (ks:List Int) :
 CD Tryz.prog 108 [] [.s s,.sh 1 (ks.map dI)] (isR (dN (runL (inK ks) (bl8 s)))):=by
 refine tZ Tryz.func108 O O (fun C=>?_)
 refine T.bd 0 O (fun bd0=>?_)
 have sz0:s.size≤9223372036854775807:=bd0
 refine T.bd 1 O (fun bd1=>?_)
 have nl1:=zbK bd1
 refine g' 9 O (tE O (zbJ O Tryz.runUnderlying9) ?_)
 rintro _ _ ⟨g1,rfl,rfl⟩
 refine g' 3 O (tl1 (fun (a_:Nat)=>[(0,.s s),(1,.sh 1 (ks.map dI)),(8,dP g1 0)]) (fun a_=>[.it g1 s a_]) (fun a_=>(a_≤s.size)∧(runL (inK ks) (bl8 s)=a_+runL (inK ks) (bts s a_))) (fun a_=>s.size-a_) 0 O (sa O) HSub.rfl' ⟨Nat.zero_le _,run_start⟩ ?_)
 rintro p ⟨hp,hf⟩
 rcases Nat.lt_or_ge p s.size with hlt | hge
 · skip
   have hrune:=zX hlt
   have hrl:=za9 s p
   have hdw:=zJ s p hlt
   have hdp:=zp s p
   refine g' 2 O (tE O (zaU (i:=0) O O hlt) ?_)
   rintro _ _ ⟨rfl,rfl⟩
   refine g' 20 O (tW O acs (Kind_c ((decR s p:Nat):Int)) (tW O acs (containsI_c ks (zt ((decR s p:Nat):Int))) (g' 3 O ?_)))
   refine tC O (fun hc2=>?_) (fun hc2=>?_)
   · simp only[bX,bJ] at hc2
     refine g' 11 O ?_
     exact tRs O Tryz.results108 (.cons (zd (zc O) (Cv.eq (congrArg dN (by exact run_stop hf (by have h0:=hc2;rw[←hasI_inK];simpa using h0))))) .nil) O HSub.none ⟨O,O⟩
   · simp only[bX,bJ] at hc2
     refine g' 2 O ?_
     exact tp1 (p+decW s p) (sa O) HSub.rfl' ⟨by have:=zJ s p hlt;omega,run_next hf hlt (by have h0:=hc2;rw[←hasI_inK];simpa using h0)⟩ (by have:=zp s p;omega)
 · skip
   have hrune:=zaf hge
   refine g' 2 O (tP O (zbA (i:=0) O O hge) (g' 13 O (tP O (zu O Tryz.runUnderlying9) (g' 4 O ?_))))
   exact tRs O Tryz.results108 (.cons (zd (zc O) (Cv.eq (congrArg dN (by exact run_end hf hge hp)))) .nil) O HSub.none ⟨O,O⟩
theorem word_c (s:ByteArray) (hs:s.size≤1000000):
 CD Tryz.prog 153 [] [.s s] (isR (.tup [TokD.d ((zbM (bl8 s)).1),dN ((zbM (bl8 s)).2)])):=by
 refine tZ Tryz.func153 O O (fun C=>?_)
 refine T.bd 0 O (fun bd0=>?_)
 have sz0:s.size≤9223372036854775807:=bd0
 have hn:=zaX (inK [1,2]) s
 refine g' 2 O ?_
 refine tA O (fun g1=>?_)
 refine g' 6 O (tE O (Qu.ef (d:=.sh 1 ([1,2].map dI)) (ze [.const (.int .i64 1),.const (.int .i64 2)] O O (.cons (CellD.v O) (.cons (CellD.v O) .nil)) O Tryz.runUnderlying55 Tryz.sizeOf3 Tryz.zeroValue3 O O O O)) ?_)
 rintro _ _ ⟨rfl,rfl⟩
 refine tW O acs (zfn s [1,2]) (g' 8 O (tP O (zw (a:=0) (c:=runL (inK [1,2]) (bl8 s)) O O O (by first | rfl | (show _=_;omega)) (by first | rfl | (show _=_;omega)) Tryz.runUnderlying9 (by omega) (by omega)) (tW O acs (Name_c (s.extract 0 (runL (inK [1,2]) (bl8 s)))) (g' 3 O ?_))))
 refine tC O (fun hc2=>?_) (fun hc2=>?_)
 · simp only[bX,bJ] at hc2
   refine g' 2 O (tP O (zf [] [] (zv:=(.agg #[(.int .i64 0),(.int .i64 0),(.string ByteArray.empty)])) O O (.nil) (Tryz.runUnderlying135) Tryz.zeroValue135 zU ⟨O,O,O,trivial⟩ O) (gQ 6 [0] O O ?_))
   exact tRs O Tryz.results153 (.cons (zd (zh (X:=.agg [dI 0,dI 0,.v (.string ByteArray.empty)]) (d:=.agg [dI 0,dI 0,.v (.string ByteArray.empty)]) (i:=0) O O Tryz.isAgg135 Tryz.sizeOf135 O O) ((Cv.agg (gc (gc (.cons (cS) .nil)))).trans (Cv.eq (congrArg TokD.d (show (TokD.mk 0 0 ByteArray.empty)=(zbM (bl8 s)).1 from(by rw[wordT_f (by simpa using hc2)];try rfl)))))) (.cons (zd (zc O) (Cv.eq (congrArg dN (by rw[wordT_f (by simpa using hc2)];try rfl)))) .nil)) O HSub.none ⟨O,O⟩
 · simp only[bX,bJ] at hc2
   refine g' 6 O (tP O (zw (a:=0) (c:=runL (inK [1,2]) (bl8 s)) O O O (by first | rfl | (show _=_;omega)) (by first | rfl | (show _=_;omega)) Tryz.runUnderlying9 (by omega) (by omega)) (tP O (zf [0,2] [.const (.int .i64 1),.tmp 16] (zv:=(.agg #[(.int .i64 0),(.int .i64 0),(.string ByteArray.empty)])) O O (.cons (CellD.v O) (.cons CellD.s .nil)) (Tryz.runUnderlying135) Tryz.zeroValue135 zU ⟨O,O,O,trivial⟩ O) (gQ 6 [0] O O ?_)))
   exact tRs O Tryz.results153 (.cons (zd (zh (X:=.agg [dI 1,dI 0,.s (s.extract 0 (runL (inK [1,2]) (bl8 s)))]) (d:=.agg [dI 1,dI 0,.s (s.extract 0 (runL (inK [1,2]) (bl8 s)))]) (i:=0) O O Tryz.isAgg135 Tryz.sizeOf135 O O) (Cv.eq (congrArg TokD.d (show (TokD.mk 1 0 (s.extract 0 (runL (inK [1,2]) (bl8 s))))=(zbM (bl8 s)).1 from(by rw[wordT_t (by simpa using hc2)];try rfl))))) (.cons (zd (zc O) (Cv.eq (congrArg dN (by rw[wordT_t (by simpa using hc2)];try rfl)))) .nil)) O HSub.none ⟨O,O⟩
theorem seconds_c (s:ByteArray) :
 CD Tryz.prog 177 [] [.s s] (isR (dN (secB s))):=by
 refine tZ Tryz.func177 O O (fun C=>?_)
 refine T.bd 0 O (fun bd0=>?_)
 have sz0:s.size≤9223372036854775807:=bd0
 refine g' 18 O ?_
 refine tD O (fun hc1=>?_) (fun hc1=>?_)
 · skip
   refine g' 8 O ?_
   exact tRs O Tryz.results177 (.cons (zd (zc O) (Cv.eq (congrArg dN (by unfold secB;simp[*])))) .nil) O HSub.none ⟨O,O⟩
 · skip
   refine g' 6 O ?_
   refine tD O (fun hc2=>?_) (fun hc2=>?_)
   · skip
     refine g' 8 O ?_
     exact tRs O Tryz.results177 (.cons (zd (zc O) (Cv.eq (congrArg dN (by unfold secB;simp[*])))) .nil) O HSub.none ⟨O,O⟩
   · skip
     refine g' 6 O ?_
     refine tD O (fun hc3=>?_) (fun hc3=>?_)
     · skip
       refine g' 8 O ?_
       exact tRs O Tryz.results177 (.cons (zd (zc O) (Cv.eq (congrArg dN (by unfold secB;simp[*])))) .nil) O HSub.none ⟨O,O⟩
     · skip
       refine g' 9 O ?_
       exact tRs O Tryz.results177 (.cons (zd (zc O) (Cv.eq (congrArg dN (by unfold secB;simp[*])))) .nil) O HSub.none ⟨O,O⟩
theorem signs_c  :
 CD Tryz.prog 179 [] [] (isR ((D.ls 1 D.s) zaa)):=by
 refine tZ Tryz.func179 O O (fun C=>?_)
 refine g' 7 O ?_
 refine tE O (Qu.ef (d:=.sh 1 ([(⟨#[61,61]⟩:ByteArray),(⟨#[33,61]⟩:ByteArray),(⟨#[60,61]⟩:ByteArray),(⟨#[62,61]⟩:ByteArray),(⟨#[61,126]⟩:ByteArray),(⟨#[33,126]⟩:ByteArray),(⟨#[43]⟩:ByteArray),(⟨#[45]⟩:ByteArray),(⟨#[42]⟩:ByteArray),(⟨#[47]⟩:ByteArray),(⟨#[37]⟩:ByteArray),(⟨#[40]⟩:ByteArray),(⟨#[41]⟩:ByteArray),(⟨#[123]⟩:ByteArray),(⟨#[125]⟩:ByteArray),(⟨#[91]⟩:ByteArray),(⟨#[93]⟩:ByteArray),(⟨#[44]⟩:ByteArray),(⟨#[61]⟩:ByteArray),(⟨#[60]⟩:ByteArray),(⟨#[62]⟩:ByteArray)].map D.s)) ((ze [.const (.string (⟨#[61,61]⟩:ByteArray)),.const (.string (⟨#[33,61]⟩:ByteArray)),.const (.string (⟨#[60,61]⟩:ByteArray)),.const (.string (⟨#[62,61]⟩:ByteArray)),.const (.string (⟨#[61,126]⟩:ByteArray)),.const (.string (⟨#[33,126]⟩:ByteArray)),.const (.string (⟨#[43]⟩:ByteArray)),.const (.string (⟨#[45]⟩:ByteArray)),.const (.string (⟨#[42]⟩:ByteArray)),.const (.string (⟨#[47]⟩:ByteArray)),.const (.string (⟨#[37]⟩:ByteArray)),.const (.string (⟨#[40]⟩:ByteArray)),.const (.string (⟨#[41]⟩:ByteArray)),.const (.string (⟨#[123]⟩:ByteArray)),.const (.string (⟨#[125]⟩:ByteArray)),.const (.string (⟨#[91]⟩:ByteArray)),.const (.string (⟨#[93]⟩:ByteArray)),.const (.string (⟨#[44]⟩:ByteArray)),.const (.string (⟨#[61]⟩:ByteArray)),.const (.string (⟨#[60]⟩:ByteArray)),.const (.string (⟨#[62]⟩:ByteArray))] O O (.cons (CellD.v O) (.cons (CellD.v O) (.cons (CellD.v O) (.cons (CellD.v O) (.cons (CellD.v O) (.cons (CellD.v O) (.cons (CellD.v O) (.cons (CellD.v O) (.cons (CellD.v O) (.cons (CellD.v O) (.cons (CellD.v O) (.cons (CellD.v O) (.cons (CellD.v O) (.cons (CellD.v O) (.cons (CellD.v O) (.cons (CellD.v O) (.cons (CellD.v O) (.cons (CellD.v O) (.cons (CellD.v O) (.cons (CellD.v O) (.cons (CellD.v O) .nil))))))))))))))))))))) O Tryz.runUnderlying23 Tryz.sizeOf9 Tryz.zeroValue9 O O O O).cv (Cv.shs (.cons cS (.cons cS (.cons cS (.cons cS (.cons cS (.cons cS (.cons cS (.cons cS (.cons cS (.cons cS (.cons cS (.cons cS (.cons cS (.cons cS (.cons cS (.cons cS (.cons cS (.cons cS (.cons cS (.cons cS (.cons cS .nil)))))))))))))))))))))))) ?_
 rintro _ _ ⟨rfl,rfl⟩
 refine g' 4 O ?_
 exact tRs O Tryz.results179 (.cons (zd (zc O) (Cv.eq (congrArg (D.ls 1 D.s) (show [(⟨#[61,61]⟩:ByteArray),(⟨#[33,61]⟩:ByteArray),(⟨#[60,61]⟩:ByteArray),(⟨#[62,61]⟩:ByteArray),(⟨#[61,126]⟩:ByteArray),(⟨#[33,126]⟩:ByteArray),(⟨#[43]⟩:ByteArray),(⟨#[45]⟩:ByteArray),(⟨#[42]⟩:ByteArray),(⟨#[47]⟩:ByteArray),(⟨#[37]⟩:ByteArray),(⟨#[40]⟩:ByteArray),(⟨#[41]⟩:ByteArray),(⟨#[123]⟩:ByteArray),(⟨#[125]⟩:ByteArray),(⟨#[91]⟩:ByteArray),(⟨#[93]⟩:ByteArray),(⟨#[44]⟩:ByteArray),(⟨#[61]⟩:ByteArray),(⟨#[60]⟩:ByteArray),(⟨#[62]⟩:ByteArray)]=zaa from(by rfl))))) .nil) O HSub.none ⟨O,O⟩
theorem sign_c (s:ByteArray) (hs:s.size≤1000000):
 CD Tryz.prog 156 [] [.s s] (isR (.tup [TokD.d ((zbz (bl8 s)).1),dN ((zbz (bl8 s)).2)])):=by
 refine tZ Tryz.func156 O O (fun C=>?_)
 refine T.bd 0 O (fun bd0=>?_)
 have sz0:s.size≤9223372036854775807:=bd0
 have hsl:zaa.length=21:=rfl
 refine g' 2 O ?_
 refine tA O (fun g1=>?_)
 refine g' 6 O (tW O acs (signs_c) (tP O (z8 (n:=zaa.length) O Tryz.runUnderlying23 (by simp only[lm,lc,ln])) (g' 4 O (tl1 (fun (a_:Nat)=>[(0,.s s),(2,dP g1 0),(6,.sh 1 (zaa.map D.s)),(7,dN zaa.length),(8,dN a_)]) (fun a_=>[.bx g1 135 (.agg [dI 0,dI 0,.v (.string ByteArray.empty)])]) (fun a_=>(z7 zaa (bl8 s)=z7 (zaa.drop a_) (bl8 s))) (fun a_=>zaa.length-a_) 0 O (sa O) HSub.rfl' O ?_))))
 rintro k hf
 refine g' 6 O ?_
 refine tD O (fun hc2=>?_) (fun hc2=>?_)
 · skip
   refine g' 6 O ?_
   obtain ⟨x1,hx1⟩:=zN zaa k (by omega)
   refine tP O (zr (k:=k) O O Tryz.runUnderlying23 Tryz.sizeOf9 (by first | rfl | omega) (zI hx1)) (g' 8 O (tW O acs (HasPrefix_c s x1) (g' 2 O ?_)))
   refine tC O (fun hc3=>?_) (fun hc3=>?_)
   · skip
     refine g' 3 O (tP O (zf [0,2] [.const (.int .i64 5),.tmp 15] (zv:=(.agg #[(.int .i64 0),(.int .i64 0),(.string ByteArray.empty)])) O O (.cons (CellD.v O) (.cons CellD.s .nil)) (Tryz.runUnderlying135) Tryz.zeroValue135 zU ⟨O,O,O,trivial⟩ O) (g' 1 O (tP O (zu O Tryz.runUnderlying9) (gQ 10 [0] O O ?_))))
     exact tRs O Tryz.results156 (.cons (zd (zh (X:=.agg [dI 5,dI 0,.s x1]) (d:=.agg [dI 5,dI 0,.s x1]) (i:=0) O O Tryz.isAgg135 Tryz.sizeOf135 O O) (Cv.eq (congrArg TokD.d (show (TokD.mk 5 0 x1)=(zbz (bl8 s)).1 from(by unfold zbz;rw[signIn_at hx1 hf (by simpa using hc3)];try rfl))))) (.cons (zd (zc O) (Cv.eq (congrArg dN (by unfold zbz;rw[signIn_at hx1 hf (by simpa using hc3)];try rfl)))) .nil)) O HSub.none ⟨O,O⟩
   · skip
     refine g' 4 O (tP O (zy (c:=((k+1:Nat):Int)) O O (zn (by omega) (by omega))) (g' 2 O ?_))
     exact tp1 (k+1) (sa O) HSub.rfl' (signIn_next hx1 hf (by simpa using hc3)) (by omega)
 · skip
   refine g' 7 O (tP O (zf [] [] (zv:=(.agg #[(.int .i64 0),(.int .i64 0),(.string ByteArray.empty)])) O O (.nil) (Tryz.runUnderlying135) Tryz.zeroValue135 zU ⟨O,O,O,trivial⟩ O) (gQ 5 [0] O O ?_))
   exact tRs O Tryz.results156 (.cons (zd (zh (X:=.agg [dI 0,dI 0,.v (.string ByteArray.empty)]) (d:=.agg [dI 0,dI 0,.v (.string ByteArray.empty)]) (i:=0) O O Tryz.isAgg135 Tryz.sizeOf135 O O) ((Cv.agg (gc (gc (.cons (cS) .nil)))).trans (Cv.eq (congrArg TokD.d (show (TokD.mk 0 0 ByteArray.empty)=(zbz (bl8 s)).1 from(by unfold zbz;rw[signIn_end hf (by omega)];try rfl)))))) (.cons (zd (zc O) (Cv.eq (congrArg dN (by unfold zbz;rw[signIn_end hf (by omega)];try rfl)))) .nil)) O HSub.none ⟨O,O⟩
end Lp
set_option linter.unusedVariables false
namespace Lp
open Go Go.RowKit
variable {P:Program} {ty:TypeId} {K:Kd} {H:List Hp}
abbrev dB8 (n:Int):D:=.v (.int .u8 n)
theorem rep_bytes {w:World} {F:Nat→Prop}:∀ {xs:List Int} {us:List Value},RepE w F 1 (xs.map dB8) us→us=xs.map (Value.int .u8)
 | [],_,h=>h
 | x::r,_,⟨u,t,e,h1,_,_,h4⟩=>by
  have h1':u=.int .u8 x:=h1
  rw[e,rep_bytes h4,h1'];rfl
theorem p_bytes {t1 t2 e:TypeId} {x:Operand} {j:Nat} {v:Value} {T:TypeId} {xs:List Int} (hx:opO K x=some v) (hm:nth H j=some (.sl v 1 T (xs.map dB8))) (hn:xs≠[]) (hs:P.underlying t1=some (.slice e)) (he:P.underlying e=some (.int .u8)) (hd:P.underlying t2=some .string):
 Pu P (.convert t1 t2 x) ty K H (.v (.string (strOfNums xs))):=
 ⟨fun ρ w F hk _ hH=>by
  obtain ⟨us,hr,ho⟩:=hH _ (zae hm)
  have hu:=rep_bytes hr
  subst hu
  obtain ⟨A,c,hv,h2,h3,h4,h5⟩:=ho.sl
  obtain ⟨b,o,rfl,_,_,hat⟩:=h4 (by simpa using hn)
  have hev:ev ρ x=v:=hk.opO hx
  have hl:((xs.map (Value.int .u8)).map vcs).length=xs.length:=by simp
  rw[hl] at hv
  have hcv:=run_convert_bytes_arg (P:=P) w t1 e hs he b o xs.length c xs O (fun i hi=>by
   have:=hat i [Value.int .u8 (xs.getD i 0)] (by
    rw[List.getElem?_map,List.getElem?_map,List.getElem?_eq_getElem hi]
    simp[vcs,List.getD,List.getElem?_eq_getElem hi,Value.cells])
   have h0:=this.2 0 _ O
   simpa using h0) t2 hd
  exact EOp.of_run (v:=.string (strOfNums xs)) (w':=w) (by
   have h1:=zbg hcv
   simpa [execOp,zY,hev,hv] using h1) ⟨rfl,rfl⟩⟩
end Lp
