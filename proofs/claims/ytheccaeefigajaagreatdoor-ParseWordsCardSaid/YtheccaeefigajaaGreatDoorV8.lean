import Derived.Lib.MakeNoZero
import Derived.Test.YtheccaeefigajaaGreatDoorV5
set_option linter.unusedSimpArgs false
set_option linter.unusedVariables false
set_option maxHeartbeats 4000000
set_option maxRecDepth 100000
namespace Lp
open Go Go.RowKit Go.Proofs
theorem eqp_211_eql (x y:Operand) (a:Addr) (w:World):(do eqGuard .eql 211 x y (.pointer (some a)) (.pointer none);binOp .eql 211 (.pointer (some a)) (.pointer none):Sem Value).run Tryz.prog w=.ok (.bool false) w:=by kernel_rfl
theorem eqs_211_neq (d:Nat) (a:Addr) (w:World):(Op.equalIn (d+1) 211 (.pointer (some a)) (.pointer (some a))).run Tryz.prog w=.ok true w:=by
 rw[Op.equalIn]
 simp only[Sem.run_bind,run_underlying (show Tryz.prog.underlying 211=some (.pointer 213) by kernel_rfl),Result.andThen_ok,Tryz.sizeOf213]
 simp[sameAddr]
theorem eqt_211_neq (a:Addr) (w:World):(Op.equal 211 (.pointer (some a)) (.pointer (some a))).run Tryz.prog w=.ok true w:=eqs_211_neq 9999 a w
theorem eqq_211_neq (x y:Operand) (a:Addr) (w:World):(do eqGuard .neq 211 x y (.pointer (some a)) (.pointer (some a));binOp .neq 211 (.pointer (some a)) (.pointer (some a)):Sem Value).run Tryz.prog w=.ok (.bool false) w:=by simp[eqGuard,binOp,eqt_211_neq]
theorem zcf:IzP Tryz.prog 5 (.int .u8 0) 1 1:=zcs (by kernel_rfl)
theorem za6:Tryz.prog.underlying 103=some (.slice 5):=by kernel_rfl
theorem cv_up {w:World} {g:Nat} {c:Array Value} (h:w.heap[g]?=some (.cells c 213 (0,0))) (hc:c.size=2):(convert 211 245 (.pointer (some ⟨g,0,none⟩))).run Tryz.prog w=.ok (.pointer (some ⟨g,0,none⟩)) w:=by
 simp[convert,run_underlying (show Tryz.prog.underlying 211=some _ by kernel_rfl),run_underlying (show Tryz.prog.underlying 245=some _ by kernel_rfl),Conv.unsafePointer,Conv.seenAt,viewAt,cellsIn,run_shape,h,hc,World.shape?,Tryz.sizeOf213]
theorem cv_down {w:World} {g:Nat} {c:Array Value} (h:w.heap[g]?=some (.cells c 213 (0,0))) (hc:c.size=2):(convert 245 211 (.pointer (some ⟨g,0,none⟩))).run Tryz.prog w=.ok (.pointer (some ⟨g,0,none⟩)) w:=by
 have e:liesAt Tryz.prog Tryz.prog.depth 213 (2 / Tryz.prog.cellsOf 213) 0 213 1=true:=by kernel_rfl
 simp[convert,run_underlying (show Tryz.prog.underlying 211=some _ by kernel_rfl),run_underlying (show Tryz.prog.underlying 245=some _ by kernel_rfl),Conv.unsafePointer,Conv.seenAt,viewAt,cellsIn,run_shape,h,hc,World.shape?,Tryz.sizeOf213,variablesAt,e]
theorem p_upto {ty:TypeId} {K:Kd} {H:List Hp} {t1 t2:TypeId} {x:Operand} {g i:Nat} {X:D} (ht:(t1=211∧t2=245)∨(t1=245∧t2=211)) (hx:opD K x=some (dP g 0)) (hm:nth H i=some (.bx g 213 X)) (hX:Nat.beq X.cells.length 2=true):Pu Tryz.prog (.convert t1 t2 x) ty K H (dP g 0):=
 ⟨fun ρ w F hk _ hH=>by
  obtain ⟨u,h1,h2,h3⟩:=hH _ (zae hm)
  have hl:=zaL (D.rep_cells h1 h2)
  have hc:u.cells.size=2:=by have:=Nat.eq_of_beq_eq_true hX;rw[←hl] at this;simpa [vcs] using this
  have e:ev ρ x=_:=hk.op hx
  refine EOp.of_run (v:=.pointer (some ⟨g,0,none⟩)) (w':=w) ?_ ⟨O,O⟩
  rcases ht with ⟨rfl,rfl⟩ | ⟨rfl,rfl⟩
  · have:=zbg (cv_up h3 hc);simpa [execOp,zY,e] using this
  · have:=zbg (cv_down h3 hc);simpa [execOp,zY,e] using this⟩
theorem p_noEscape {ty:TypeId} {K:Kd} {H:List Hp} {x:Operand} {ats:Array TypeId} {v:Value} (hx:opD K x=some (.v v)):Pu Tryz.prog (.call { callee:=.value (.func 214),args:=#[x],argTypes:=ats }) ty K H (.v v):=
 ⟨fun ρ w F hk _ _=>e_ext (vs:=[v]) (zj ρ [x]) (by rw[show (#[x]:Array Operand).toList=[x] from rfl,zcb ρ [x] [x] (fun _ h=>h)];have e:ev ρ x=v:=hk.op hx;simp[e]) (fun w=>by
  rw[run_callFunc_extern Tryz.func214 (by kernel_rfl) (by kernel_rfl) (by kernel_rfl) (e:=Extern.AbiNoEscape.same) (by kernel_rfl)];rfl) ⟨rfl,rfl⟩⟩
theorem copyCheck_c (g:Nat) (p:Value) (x:D) (hp:p=.pointer none∨p=.pointer (some ⟨g,0,none⟩)):
 CD Tryz.prog 193 [.bx g 213 (.agg [.v p,x])] [dP g 0] (fun r H'=>r=.tup []∧H'=[.bx g 213 (.agg [dP g 0,x])]):=by
 refine tZ Tryz.func193 O O (fun C=>?_)
 rcases hp with rfl | rfl
 · skip
   refine gQ 6 [0] O O (tP O (zdU (r:=.bool true) O O (fun _=>by kernel_rfl)) (g' 6 O (tP O (p_upto (i:=0) (by first | exact .inl ⟨O,O⟩ | exact .inr ⟨O,O⟩) O O O) (tP O (p_noEscape O) (tP O (p_upto (i:=0) (by first | exact .inl ⟨O,O⟩ | exact .inr ⟨O,O⟩) O O O) (gQ 4 [0] O O ?_))))))
   exact tR O HSub.rfl' ⟨O,O⟩
 · skip
   refine gQ 6 [0] O O (tP O (zdU (r:=.bool false) O O (eqp_211_eql _ _ _)) (gQ 10 [0] O O (tP O (zdU (r:=.bool false) O O (eqq_211_neq _ _ _)) (g' 4 O ?_))))
   exact tR O HSub.rfl' ⟨O,O⟩
theorem zb4 (g:Nat) (p v:Value) (bs:List UInt8) (c:UInt8) (hp:p=.pointer none∨p=.pointer (some ⟨g,0,none⟩)) (hl:bs.length≤1000000000000):
 CD Tryz.prog 169 [.bx g 213 (.agg [.v p,.ov v]),.sl v 1 5 (bs.map dU8)] [dP g 0,.v (.int .u8 ((c.toNat:Nat):Int))] (fun r H'=>∃ v',r=.v .nilIface∧H'=[.bx g 213 (.agg [dP g 0,.ov v']),.sl v' 1 5 ((bs++[c]).map dU8)]):=by
 refine tZ Tryz.func169 O O (fun C=>?_)
 refine g' 8 O (tX [0] O O acs (copyCheck_c g p (.ov v) hp) ?_)
 rintro _ _ ⟨rfl,rfl⟩
 refine gQ 10 [0] O O (tE O (zE [.tmp 12] O O (.cons (CellD.v O) .nil) O Tryz.runUnderlying103 Tryz.sizeOf5 Tryz.zeroValue5 O O O O) ?_)
 rintro _ _ ⟨g1,rfl,rfl⟩
 refine tE O (zz (f:=dU8) (l:=bs) (l':=[c]) (i:=2) O O O (SrcD.own (j:=0) O O) za6 zcf O O (by unfold maxLen;(try simp only[la,lc,ln,lm,lt',ld,ls,lr]);omega) (by (try simp only[la,lc,ln,lm,lt',ld,ls,lr]);omega)) ?_
 rintro _ _ ⟨v2,rfl,rfl⟩
 refine gQ 11 [1] O O (T.front 2 O (T.front 2 O ?_))
 exact tR O (HSub.fst 2 O) ⟨v2,O,O⟩
theorem WriteString_c (g:Nat) (p v:Value) (bs:List UInt8) (s:ByteArray) (hp:p=.pointer none∨p=.pointer (some ⟨g,0,none⟩)) (hl:bs.length≤1000000000000) (hs:s.size≤1000000000000):
 CD Tryz.prog 171 [.bx g 213 (.agg [.v p,.ov v]),.sl v 1 5 (bs.map dU8)] [dP g 0,.s s] (fun r H'=>∃ v',r=.tup [dI (s.size:Int),.v .nilIface]∧H'=[.bx g 213 (.agg [dP g 0,.ov v']),.sl v' 1 5 ((bs++s.data.toList).map dU8)]):=by
 refine tZ Tryz.func171 O O (fun C=>?_)
 refine T.bd 1 O (fun bd1=>?_)
 have sz1:s.size≤9223372036854775807:=bd1
 refine g' 9 O (tX [0] O O acs (copyCheck_c g p (.ov v) hp) ?_)
 rintro _ _ ⟨rfl,rfl⟩
 refine gQ 10 [0] O O (tE O (ef_append_s (i:=1) (bs:=bs) (s:=s) O O O za6 (by kernel_rfl) zcf (by (try simp only[la,lc,ln]);omega)) ?_)
 rintro _ _ ⟨v1,rfl,rfl⟩
 refine gQ 8 [0] O O (tP O (zu O Tryz.runUnderlying9) (g' 5 O ?_))
 exact tR O (HSub.fst 2 O) ⟨v1,O,O⟩
end Lp
set_option linter.unusedVariables false
namespace Lp
open Go Go.RowKit
theorem fdiv_nat (a n:Nat):Int.fdiv (a:Int) (2 ^ n)=((a / 2 ^ n:Nat):Int):=by
 rw[show (2:Int) ^ n=((2 ^ n:Nat):Int) by push_cast;rfl]
 rw[Int.fdiv_eq_ediv_of_nonneg _ (Int.natCast_nonneg _)]
 exact(Int.natCast_ediv a (2 ^ n)).symm
section
variable {P:Program} {ty:TypeId} {K:Kd} {H:List Hp} {t t':TypeId} {x y:Operand}
theorem zdR {k k':IntKind} {a n m:Nat} (hx:opD K x=some (.v (.int k (a:Int)))) (hy:opD K y=some (.v (.int k' (n:Int)))) (hn:n≤k.bits) (hm:2 ^ n=m):Pu P (.binOp .shr t x y t') ty K H (.v (.int k ((a / m:Nat):Int))):=
 zdU hx hy (fun w=>by
  subst hm
  have h1:¬((n:Nat):Int)<0:=by omega
  have h2:min n k.bits=n:=by omega
  simp[eqGuard,binOp,Op.shift,h1,h2,fdiv_nat])
theorem bv8 (a b:Nat) (ha:a<256) (hb:b<256):(BitVec.ofInt IntKind.u8.bits (a:Int)&&& BitVec.ofInt IntKind.u8.bits (b:Int)).toNat=a&&& b:=by
 rw[BitVec.toNat_and,BitVec.toNat_ofInt,BitVec.toNat_ofInt]
 have e:(2:Nat) ^ IntKind.u8.bits=256:=rfl
 rw[e]
 congr 1<;>omega
theorem bv8o (a b:Nat) (ha:a<256) (hb:b<256):(BitVec.ofInt IntKind.u8.bits (a:Int)||| BitVec.ofInt IntKind.u8.bits (b:Int)).toNat=a||| b:=by
 rw[BitVec.toNat_or,BitVec.toNat_ofInt,BitVec.toNat_ofInt]
 have e:(2:Nat) ^ IntKind.u8.bits=256:=rfl
 rw[e]
 congr 1<;>omega
theorem zc8 {n:Nat} (h:n<256):IntKind.u8.wrap (n:Int)=(n:Int):=by simp[IntKind.wrap,IntKind.bits,IntKind.signed];omega
theorem zcF {a b c:Nat} (hx:opD K x=some (.v (.int .u8 (a:Int)))) (hy:opD K y=some (.v (.int .u8 (b:Int)))) (ha:a<256) (hb:b<256) (hc:a&&& b=c):Pu P (.binOp .and t x y t') ty K H (.v (.int .u8 (c:Int))):=
 zdU hx hy (fun w=>by
  subst hc
  have h:a&&& b<256:=Nat.lt_of_le_of_lt Nat.and_le_left ha
  simp only[eqGuard,binOp,Op.intBits,bv8 a b ha hb,zc8 h]
  rfl)
theorem zcJ {a b c:Nat} (hx:opD K x=some (.v (.int .u8 (a:Int)))) (hy:opD K y=some (.v (.int .u8 (b:Int)))) (ha:a<256) (hb:b<256) (hc:a||| b=c):Pu P (.binOp .or t x y t') ty K H (.v (.int .u8 (c:Int))):=
 zdU hx hy (fun w=>by
  subst hc
  have h:a||| b<256:=Nat.or_lt_two_pow (n:=8) ha hb
  simp only[eqGuard,binOp,Op.intBits,bv8o a b ha hb,zc8 h]
  rfl)
theorem zed (a:Nat):a&&& 63=a % 64:=Nat.and_two_pow_sub_one_eq_mod a 6
theorem and15 (a:Nat):a&&& 15=a % 16:=Nat.and_two_pow_sub_one_eq_mod a 4
theorem zd3:∀ a,a<64→128||| a=128+a:=by decide
theorem or192:∀ a,a<32→192||| a=192+a:=by decide
theorem or224:∀ a,a<16→224||| a=224+a:=by decide
theorem or240:∀ a,a<8→240||| a=240+a:=by decide
end
end Lp
set_option linter.unusedSimpArgs false
set_option linter.unusedVariables false
set_option maxHeartbeats 4000000
set_option maxRecDepth 100000
namespace Lp
open Go Go.RowKit Go.Proofs
theorem cv_21_241 {a:Int} (h:0≤a∧a≤4294967295):∀ w,(convert 21 241 (.int .i32 a)).run Tryz.prog w=.ok (.int .u32 a) w:=fun w=>by
 have e:IntKind.u32.wrap a=a:=by simp[IntKind.wrap,IntKind.bits,IntKind.signed];omega
 simp[convert,run_underlying (show Tryz.prog.underlying 21=some _ by kernel_rfl),run_underlying (show Tryz.prog.underlying 241=some _ by kernel_rfl),Conv.intToInt,e]
theorem fa_213_1:FaP Tryz.prog 213 1 1:=fun _ _ _=>by kernel_rfl
theorem zaA (a:Nat):∀ w,(convert 21 5 (.int .i32 (a:Int))).run Tryz.prog w=.ok (.int .u8 ((a % 256:Nat):Int)) w:=fun w=>by
 have e:IntKind.u8.wrap (a:Int)=((a % 256:Nat):Int):=by simp[IntKind.wrap,IntKind.bits,IntKind.signed]
 simp[convert,run_underlying (show Tryz.prog.underlying 21=some _ by kernel_rfl),run_underlying (show Tryz.prog.underlying 5=some _ by kernel_rfl),Conv.intToInt,e]
theorem appNA_c (v:Value) (bs:List UInt8) (x:Nat) (h1:127<x) (h2:x<2147483648) (hl:bs.length≤1000000000000):
 CD Tryz.prog 215 [.sl v 1 5 (bs.map dU8)] [.ov v,.v (.int .i32 ((x:Nat):Int))] (fun r H'=>∃ v',r=.ov v'∧H'=[.sl v' 1 5 ((bs++encR x).map dU8)]):=by
 refine tZ Tryz.func215 O O (fun C=>?_)
 refine g' 8 O (tP O (zav O (c:=((x:Nat):Int)) (cv_21_241 (by omega))) (g' 11 O ?_))
 refine tD O (fun hc1=>?_) (fun hc1=>?_)
 · skip
   refine g' 4 O (tP O (zdR (a:=x) (n:=6) (m:=64) O O (by decide) (by decide)) (tP O (zav O (c:=(((x / 64) % 256:Nat):Int)) (zaA _)) (tP O (zcJ (a:=192) (b:=(x / 64) % 256) O O (by decide) (by omega) (or192 _ (by omega))) (g' 1 O (tP O (zav O (c:=((x % 256:Nat):Int)) (zaA _)) (tP O (zcF (a:=x % 256) (b:=63) O O (by omega) (by decide) (zed _)) (tP O (zcJ (a:=128) (b:=(x % 256) % 64) O O (by decide) (by omega) (zd3 _ (by omega))) (tE O (zE [.tmp 18,.tmp 22] O O (.cons (CellD.v O) (.cons (CellD.v O) .nil)) O Tryz.runUnderlying103 Tryz.sizeOf5 Tryz.zeroValue5 O O O O) ?_))))))))
   rintro _ _ ⟨g2,rfl,rfl⟩
   refine T.subH (HSub.turn (h':=.sl (vS g2 2 2) 1 5 ([(UInt8.ofNat (192+((x / 64) % 256))),(UInt8.ofNat (128+((x % 256) % 64)))].map dU8)) O (Hp.cvs_sl (.cons (Cv.eq (zci O (by omega))) (.cons (Cv.eq (zci O (by omega))) .nil)))) (tE O (zz (f:=dU8) (l:=bs) (l':=[(UInt8.ofNat (192+((x / 64) % 256))),(UInt8.ofNat (128+((x % 256) % 64)))]) (i:=1) O O O (SrcD.own (j:=0) O O) za6 zcf O O (by unfold maxLen;(try simp only[la,lc,ln,lm,lt',ld,ls,lr]);omega) (by (try simp only[la,lc,ln,lm,lt',ld,ls,lr]);omega)) ?_)
   rintro _ _ ⟨v3,rfl,rfl⟩
   refine g' 5 O (T.front 1 O (T.norm [.sl v3 1 5 ((bs++encR x).map dU8),.sl (vS g2 2 2) 1 5 ([(UInt8.ofNat (192+((x / 64) % 256))),(UInt8.ofNat (128+((x % 256) % 64)))].map dU8)] (by first | (exfalso;omega) | skip;unfold encR;first | rw[if_neg (by omega),if_pos (by omega)] | rw[if_neg (by omega),if_neg (by omega),if_pos (by omega)] | rw[if_neg (by omega),if_neg (by omega),if_neg (by omega),if_pos (by omega)] | rw[if_neg (by omega),if_neg (by omega),if_neg (by omega),if_neg (by omega)]) ?_))
   exact tR O (HSub.fst 1 O) ⟨v3,O,O⟩
 · skip
   refine g' 8 O ?_
   refine tD O (fun hc4=>?_) (fun hc4=>?_)
   · skip
     refine g' 2 O ?_
     refine tD O (fun hc5=>?_) (fun hc5=>?_)
     · skip
       refine g' 4 O (tP O (zdR (a:=x) (n:=12) (m:=4096) O O (by decide) (by decide)) (tP O (zav O (c:=(((x / 4096) % 256:Nat):Int)) (zaA _)) (tP O (zcJ (a:=224) (b:=(x / 4096) % 256) O O (by decide) (by omega) (or224 _ (by omega))) (g' 1 O (tP O (zdR (a:=x) (n:=6) (m:=64) O O (by decide) (by decide)) (tP O (zav O (c:=(((x / 64) % 256:Nat):Int)) (zaA _)) (tP O (zcF (a:=(x / 64) % 256) (b:=63) O O (by omega) (by decide) (zed _)) (tP O (zcJ (a:=128) (b:=((x / 64) % 256) % 64) O O (by decide) (by omega) (zd3 _ (by omega))) (g' 1 O (tP O (zav O (c:=((x % 256:Nat):Int)) (zaA _)) (tP O (zcF (a:=x % 256) (b:=63) O O (by omega) (by decide) (zed _)) (tP O (zcJ (a:=128) (b:=(x % 256) % 64) O O (by decide) (by omega) (zd3 _ (by omega))) (tE O (zE [.tmp 38,.tmp 43,.tmp 47] O O (.cons (CellD.v O) (.cons (CellD.v O) (.cons (CellD.v O) .nil))) O Tryz.runUnderlying103 Tryz.sizeOf5 Tryz.zeroValue5 O O O O) ?_)))))))))))))
       rintro _ _ ⟨g6,rfl,rfl⟩
       refine T.subH (HSub.turn (h':=.sl (vS g6 3 3) 1 5 ([(UInt8.ofNat (224+((x / 4096) % 256))),(UInt8.ofNat (128+(((x / 64) % 256) % 64))),(UInt8.ofNat (128+((x % 256) % 64)))].map dU8)) O (Hp.cvs_sl (.cons (Cv.eq (zci O (by omega))) (.cons (Cv.eq (zci O (by omega))) (.cons (Cv.eq (zci O (by omega))) .nil))))) (tE O (zz (f:=dU8) (l:=bs) (l':=[(UInt8.ofNat (224+((x / 4096) % 256))),(UInt8.ofNat (128+(((x / 64) % 256) % 64))),(UInt8.ofNat (128+((x % 256) % 64)))]) (i:=1) O O O (SrcD.own (j:=0) O O) za6 zcf O O (by unfold maxLen;(try simp only[la,lc,ln,lm,lt',ld,ls,lr]);omega) (by (try simp only[la,lc,ln,lm,lt',ld,ls,lr]);omega)) ?_)
       rintro _ _ ⟨v7,rfl,rfl⟩
       refine g' 5 O (T.front 1 O (T.norm [.sl v7 1 5 ((bs++encR x).map dU8),.sl (vS g6 3 3) 1 5 ([(UInt8.ofNat (224+((x / 4096) % 256))),(UInt8.ofNat (128+(((x / 64) % 256) % 64))),(UInt8.ofNat (128+((x % 256) % 64)))].map dU8)] (by first | (exfalso;omega) | skip;unfold encR;first | rw[if_neg (by omega),if_pos (by omega)] | rw[if_neg (by omega),if_neg (by omega),if_pos (by omega)] | rw[if_neg (by omega),if_neg (by omega),if_neg (by omega),if_pos (by omega)] | rw[if_neg (by omega),if_neg (by omega),if_neg (by omega),if_neg (by omega)]) ?_))
       exact tR O (HSub.fst 1 O) ⟨v7,O,O⟩
     · skip
       refine g' 5 O ?_
       refine tAnd 2 2 (c:=decide (((x:Nat):Int)≤(1114111:Int))) O O O O O O (fun hb8 nx9=>?_) ?_
       · skip
         have hf10:=of_decide_eq_true hb8
         refine g' 2 O ?_
         exact nx9 _ O O (kx 2 O O)
       refine g' 3 O ?_
       refine tC O (fun hc11=>?_) (fun hc11=>?_)
       · simp only[bX,bJ] at hc11
         refine g' 4 O (tP O (zdR (a:=x) (n:=18) (m:=262144) O O (by decide) (by decide)) (tP O (zav O (c:=(((x / 262144) % 256:Nat):Int)) (zaA _)) (tP O (zcJ (a:=240) (b:=(x / 262144) % 256) O O (by decide) (by omega) (or240 _ (by omega))) (g' 1 O (tP O (zdR (a:=x) (n:=12) (m:=4096) O O (by decide) (by decide)) (tP O (zav O (c:=(((x / 4096) % 256:Nat):Int)) (zaA _)) (tP O (zcF (a:=(x / 4096) % 256) (b:=63) O O (by omega) (by decide) (zed _)) (tP O (zcJ (a:=128) (b:=((x / 4096) % 256) % 64) O O (by decide) (by omega) (zd3 _ (by omega))) (g' 1 O (tP O (zdR (a:=x) (n:=6) (m:=64) O O (by decide) (by decide)) (tP O (zav O (c:=(((x / 64) % 256:Nat):Int)) (zaA _)) (tP O (zcF (a:=(x / 64) % 256) (b:=63) O O (by omega) (by decide) (zed _)) (tP O (zcJ (a:=128) (b:=((x / 64) % 256) % 64) O O (by decide) (by omega) (zd3 _ (by omega))) (g' 1 O (tP O (zav O (c:=((x % 256:Nat):Int)) (zaA _)) (tP O (zcF (a:=x % 256) (b:=63) O O (by omega) (by decide) (zed _)) (tP O (zcJ (a:=128) (b:=(x % 256) % 64) O O (by decide) (by omega) (zd3 _ (by omega))) ?_)))))))))))))))))
         refine tE O (zE [.tmp 61,.tmp 66,.tmp 71,.tmp 75] O O (.cons (CellD.v O) (.cons (CellD.v O) (.cons (CellD.v O) (.cons (CellD.v O) .nil)))) O Tryz.runUnderlying103 Tryz.sizeOf5 Tryz.zeroValue5 O O O O) ?_
         rintro _ _ ⟨g12,rfl,rfl⟩
         refine T.subH (HSub.turn (h':=.sl (vS g12 4 4) 1 5 ([(UInt8.ofNat (240+((x / 262144) % 256))),(UInt8.ofNat (128+(((x / 4096) % 256) % 64))),(UInt8.ofNat (128+(((x / 64) % 256) % 64))),(UInt8.ofNat (128+((x % 256) % 64)))].map dU8)) O (Hp.cvs_sl (.cons (Cv.eq (zci O (by omega))) (.cons (Cv.eq (zci O (by omega))) (.cons (Cv.eq (zci O (by omega))) (.cons (Cv.eq (zci O (by omega))) .nil)))))) (tE O (zz (f:=dU8) (l:=bs) (l':=[(UInt8.ofNat (240+((x / 262144) % 256))),(UInt8.ofNat (128+(((x / 4096) % 256) % 64))),(UInt8.ofNat (128+(((x / 64) % 256) % 64))),(UInt8.ofNat (128+((x % 256) % 64)))]) (i:=1) O O O (SrcD.own (j:=0) O O) za6 zcf O O (by unfold maxLen;(try simp only[la,lc,ln,lm,lt',ld,ls,lr]);omega) (by (try simp only[la,lc,ln,lm,lt',ld,ls,lr]);omega)) ?_)
         rintro _ _ ⟨v13,rfl,rfl⟩
         refine g' 5 O (T.front 1 O (T.norm [.sl v13 1 5 ((bs++encR x).map dU8),.sl (vS g12 4 4) 1 5 ([(UInt8.ofNat (240+((x / 262144) % 256))),(UInt8.ofNat (128+(((x / 4096) % 256) % 64))),(UInt8.ofNat (128+(((x / 64) % 256) % 64))),(UInt8.ofNat (128+((x % 256) % 64)))].map dU8)] (by first | (exfalso;omega) | skip;unfold encR;first | rw[if_neg (by omega),if_pos (by omega)] | rw[if_neg (by omega),if_neg (by omega),if_pos (by omega)] | rw[if_neg (by omega),if_neg (by omega),if_neg (by omega),if_pos (by omega)] | rw[if_neg (by omega),if_neg (by omega),if_neg (by omega),if_neg (by omega)]) ?_))
         exact tR O (HSub.fst 1 O) ⟨v13,O,O⟩
       · simp only[bX,bJ] at hc11
         refine g' 3 O (tE O (zE [.const (.int .u8 239),.const (.int .u8 191),.const (.int .u8 189)] O O (.cons (CellD.v O) (.cons (CellD.v O) (.cons (CellD.v O) .nil))) O Tryz.runUnderlying103 Tryz.sizeOf5 Tryz.zeroValue5 O O O O) ?_)
         rintro _ _ ⟨g14,rfl,rfl⟩
         refine tE O (zz (f:=dU8) (l:=bs) (l':=[(239:UInt8),(191:UInt8),(189:UInt8)]) (i:=1) O O O (SrcD.own (j:=0) O O) za6 zcf O O (by unfold maxLen;(try simp only[la,lc,ln,lm,lt',ld,ls,lr]);omega) (by (try simp only[la,lc,ln,lm,lt',ld,ls,lr]);omega)) ?_
         rintro _ _ ⟨v15,rfl,rfl⟩
         refine g' 5 O (T.front 1 O (T.norm [.sl v15 1 5 ((bs++encR x).map dU8),.sl (vS g14 3 3) 1 5 ([.v (.int .u8 239),.v (.int .u8 191),.v (.int .u8 189)])] (by first | (exfalso;omega) | skip;unfold encR;first | rw[if_neg (by omega),if_pos (by omega)] | rw[if_neg (by omega),if_neg (by omega),if_pos (by omega)] | rw[if_neg (by omega),if_neg (by omega),if_neg (by omega),if_pos (by omega)] | rw[if_neg (by omega),if_neg (by omega),if_neg (by omega),if_neg (by omega)]) ?_))
         exact tR O (HSub.fst 1 O) ⟨v15,O,O⟩
   · skip
     refine g' 4 O ?_
     refine tAnd 2 2 (c:=decide (((x:Nat):Int)≤(65535:Int))) O O O O O O (fun hb16 nx17=>?_) ?_
     · skip
       have hf18:=of_decide_eq_true hb16
       refine g' 2 O ?_
       exact nx17 _ O O (kx 2 O O)
     refine g' 3 O ?_
     refine tC O (fun hc19=>?_) (fun hc19=>?_)
     · simp only[bX,bJ] at hc19
       refine g' 4 O (tP O (zdR (a:=x) (n:=12) (m:=4096) O O (by decide) (by decide)) (tP O (zav O (c:=(((x / 4096) % 256:Nat):Int)) (zaA _)) (tP O (zcJ (a:=224) (b:=(x / 4096) % 256) O O (by decide) (by omega) (or224 _ (by omega))) (g' 1 O (tP O (zdR (a:=x) (n:=6) (m:=64) O O (by decide) (by decide)) (tP O (zav O (c:=(((x / 64) % 256:Nat):Int)) (zaA _)) (tP O (zcF (a:=(x / 64) % 256) (b:=63) O O (by omega) (by decide) (zed _)) (tP O (zcJ (a:=128) (b:=((x / 64) % 256) % 64) O O (by decide) (by omega) (zd3 _ (by omega))) (g' 1 O (tP O (zav O (c:=((x % 256:Nat):Int)) (zaA _)) (tP O (zcF (a:=x % 256) (b:=63) O O (by omega) (by decide) (zed _)) (tP O (zcJ (a:=128) (b:=(x % 256) % 64) O O (by decide) (by omega) (zd3 _ (by omega))) (tE O (zE [.tmp 38,.tmp 43,.tmp 47] O O (.cons (CellD.v O) (.cons (CellD.v O) (.cons (CellD.v O) .nil))) O Tryz.runUnderlying103 Tryz.sizeOf5 Tryz.zeroValue5 O O O O) ?_)))))))))))))
       rintro _ _ ⟨g20,rfl,rfl⟩
       refine T.subH (HSub.turn (h':=.sl (vS g20 3 3) 1 5 ([(UInt8.ofNat (224+((x / 4096) % 256))),(UInt8.ofNat (128+(((x / 64) % 256) % 64))),(UInt8.ofNat (128+((x % 256) % 64)))].map dU8)) O (Hp.cvs_sl (.cons (Cv.eq (zci O (by omega))) (.cons (Cv.eq (zci O (by omega))) (.cons (Cv.eq (zci O (by omega))) .nil))))) (tE O (zz (f:=dU8) (l:=bs) (l':=[(UInt8.ofNat (224+((x / 4096) % 256))),(UInt8.ofNat (128+(((x / 64) % 256) % 64))),(UInt8.ofNat (128+((x % 256) % 64)))]) (i:=1) O O O (SrcD.own (j:=0) O O) za6 zcf O O (by unfold maxLen;(try simp only[la,lc,ln,lm,lt',ld,ls,lr]);omega) (by (try simp only[la,lc,ln,lm,lt',ld,ls,lr]);omega)) ?_)
       rintro _ _ ⟨v21,rfl,rfl⟩
       refine g' 5 O (T.front 1 O (T.norm [.sl v21 1 5 ((bs++encR x).map dU8),.sl (vS g20 3 3) 1 5 ([(UInt8.ofNat (224+((x / 4096) % 256))),(UInt8.ofNat (128+(((x / 64) % 256) % 64))),(UInt8.ofNat (128+((x % 256) % 64)))].map dU8)] (by first | (exfalso;omega) | skip;unfold encR;first | rw[if_neg (by omega),if_pos (by omega)] | rw[if_neg (by omega),if_neg (by omega),if_pos (by omega)] | rw[if_neg (by omega),if_neg (by omega),if_neg (by omega),if_pos (by omega)] | rw[if_neg (by omega),if_neg (by omega),if_neg (by omega),if_neg (by omega)]) ?_))
       exact tR O (HSub.fst 1 O) ⟨v21,O,O⟩
     · simp only[bX,bJ] at hc19
       refine g' 5 O ?_
       refine tAnd 2 2 (c:=decide (((x:Nat):Int)≤(1114111:Int))) O O O O O O (fun hb22 nx23=>?_) ?_
       · skip
         have hf24:=of_decide_eq_true hb22
         refine g' 2 O ?_
         exact nx23 _ O O (kx 2 O O)
       refine g' 3 O ?_
       refine tC O (fun hc25=>?_) (fun hc25=>?_)
       · simp only[bX,bJ] at hc25
         refine g' 4 O (tP O (zdR (a:=x) (n:=18) (m:=262144) O O (by decide) (by decide)) (tP O (zav O (c:=(((x / 262144) % 256:Nat):Int)) (zaA _)) (tP O (zcJ (a:=240) (b:=(x / 262144) % 256) O O (by decide) (by omega) (or240 _ (by omega))) (g' 1 O (tP O (zdR (a:=x) (n:=12) (m:=4096) O O (by decide) (by decide)) (tP O (zav O (c:=(((x / 4096) % 256:Nat):Int)) (zaA _)) (tP O (zcF (a:=(x / 4096) % 256) (b:=63) O O (by omega) (by decide) (zed _)) (tP O (zcJ (a:=128) (b:=((x / 4096) % 256) % 64) O O (by decide) (by omega) (zd3 _ (by omega))) (g' 1 O (tP O (zdR (a:=x) (n:=6) (m:=64) O O (by decide) (by decide)) (tP O (zav O (c:=(((x / 64) % 256:Nat):Int)) (zaA _)) (tP O (zcF (a:=(x / 64) % 256) (b:=63) O O (by omega) (by decide) (zed _)) (tP O (zcJ (a:=128) (b:=((x / 64) % 256) % 64) O O (by decide) (by omega) (zd3 _ (by omega))) (g' 1 O (tP O (zav O (c:=((x % 256:Nat):Int)) (zaA _)) (tP O (zcF (a:=x % 256) (b:=63) O O (by omega) (by decide) (zed _)) (tP O (zcJ (a:=128) (b:=(x % 256) % 64) O O (by decide) (by omega) (zd3 _ (by omega))) ?_)))))))))))))))))
         refine tE O (zE [.tmp 61,.tmp 66,.tmp 71,.tmp 75] O O (.cons (CellD.v O) (.cons (CellD.v O) (.cons (CellD.v O) (.cons (CellD.v O) .nil)))) O Tryz.runUnderlying103 Tryz.sizeOf5 Tryz.zeroValue5 O O O O) ?_
         rintro _ _ ⟨g26,rfl,rfl⟩
         refine T.subH (HSub.turn (h':=.sl (vS g26 4 4) 1 5 ([(UInt8.ofNat (240+((x / 262144) % 256))),(UInt8.ofNat (128+(((x / 4096) % 256) % 64))),(UInt8.ofNat (128+(((x / 64) % 256) % 64))),(UInt8.ofNat (128+((x % 256) % 64)))].map dU8)) O (Hp.cvs_sl (.cons (Cv.eq (zci O (by omega))) (.cons (Cv.eq (zci O (by omega))) (.cons (Cv.eq (zci O (by omega))) (.cons (Cv.eq (zci O (by omega))) .nil)))))) (tE O (zz (f:=dU8) (l:=bs) (l':=[(UInt8.ofNat (240+((x / 262144) % 256))),(UInt8.ofNat (128+(((x / 4096) % 256) % 64))),(UInt8.ofNat (128+(((x / 64) % 256) % 64))),(UInt8.ofNat (128+((x % 256) % 64)))]) (i:=1) O O O (SrcD.own (j:=0) O O) za6 zcf O O (by unfold maxLen;(try simp only[la,lc,ln,lm,lt',ld,ls,lr]);omega) (by (try simp only[la,lc,ln,lm,lt',ld,ls,lr]);omega)) ?_)
         rintro _ _ ⟨v27,rfl,rfl⟩
         refine g' 5 O (T.front 1 O (T.norm [.sl v27 1 5 ((bs++encR x).map dU8),.sl (vS g26 4 4) 1 5 ([(UInt8.ofNat (240+((x / 262144) % 256))),(UInt8.ofNat (128+(((x / 4096) % 256) % 64))),(UInt8.ofNat (128+(((x / 64) % 256) % 64))),(UInt8.ofNat (128+((x % 256) % 64)))].map dU8)] (by first | (exfalso;omega) | skip;unfold encR;first | rw[if_neg (by omega),if_pos (by omega)] | rw[if_neg (by omega),if_neg (by omega),if_pos (by omega)] | rw[if_neg (by omega),if_neg (by omega),if_neg (by omega),if_pos (by omega)] | rw[if_neg (by omega),if_neg (by omega),if_neg (by omega),if_neg (by omega)]) ?_))
         exact tR O (HSub.fst 1 O) ⟨v27,O,O⟩
       · simp only[bX,bJ] at hc25
         refine g' 3 O (tE O (zE [.const (.int .u8 239),.const (.int .u8 191),.const (.int .u8 189)] O O (.cons (CellD.v O) (.cons (CellD.v O) (.cons (CellD.v O) .nil))) O Tryz.runUnderlying103 Tryz.sizeOf5 Tryz.zeroValue5 O O O O) ?_)
         rintro _ _ ⟨g28,rfl,rfl⟩
         refine tE O (zz (f:=dU8) (l:=bs) (l':=[(239:UInt8),(191:UInt8),(189:UInt8)]) (i:=1) O O O (SrcD.own (j:=0) O O) za6 zcf O O (by unfold maxLen;(try simp only[la,lc,ln,lm,lt',ld,ls,lr]);omega) (by (try simp only[la,lc,ln,lm,lt',ld,ls,lr]);omega)) ?_
         rintro _ _ ⟨v29,rfl,rfl⟩
         refine g' 5 O (T.front 1 O (T.norm [.sl v29 1 5 ((bs++encR x).map dU8),.sl (vS g28 3 3) 1 5 ([.v (.int .u8 239),.v (.int .u8 191),.v (.int .u8 189)])] (by first | (exfalso;omega) | skip;unfold encR;first | rw[if_neg (by omega),if_pos (by omega)] | rw[if_neg (by omega),if_neg (by omega),if_pos (by omega)] | rw[if_neg (by omega),if_neg (by omega),if_neg (by omega),if_pos (by omega)] | rw[if_neg (by omega),if_neg (by omega),if_neg (by omega),if_neg (by omega)]) ?_))
         exact tR O (HSub.fst 1 O) ⟨v29,O,O⟩
theorem appR_c (v:Value) (bs:List UInt8) (x:Nat) (h2:x<2147483648) (hl:bs.length≤1000000000000):
 CD Tryz.prog 194 [.sl v 1 5 (bs.map dU8)] [.ov v,.v (.int .i32 ((x:Nat):Int))] (fun r H'=>∃ v',r=.ov v'∧H'=[.sl v' 1 5 ((bs++encR x).map dU8)]):=by
 refine tZ Tryz.func194 O O (fun C=>?_)
 refine g' 9 O (tP O (zav O (c:=((x:Nat):Int)) (cv_21_241 (by omega))) (g' 3 O ?_))
 refine tD O (fun hc1=>?_) (fun hc1=>?_)
 · skip
   refine g' 4 O (tP O (zav O (c:=((x % 256:Nat):Int)) (zaA _)) (tE O (zE [.tmp 10] O O (.cons (CellD.v O) .nil) O Tryz.runUnderlying103 Tryz.sizeOf5 Tryz.zeroValue5 O O O O) ?_))
   rintro _ _ ⟨g2,rfl,rfl⟩
   refine T.subH (HSub.turn (h':=.sl (vS g2 1 1) 1 5 ([(UInt8.ofNat (x % 256))].map dU8)) O (Hp.cvs_sl (.cons (Cv.eq (zci O (by omega))) .nil))) (tE O (zz (f:=dU8) (l:=bs) (l':=[(UInt8.ofNat (x % 256))]) (i:=1) O O O (SrcD.own (j:=0) O O) za6 zcf O O (by unfold maxLen;(try simp only[la,lc,ln,lm,lt',ld,ls,lr]);omega) (by (try simp only[la,lc,ln,lm,lt',ld,ls,lr]);omega)) ?_)
   rintro _ _ ⟨v3,rfl,rfl⟩
   refine g' 5 O (T.front 1 O (T.norm [.sl v3 1 5 ((bs++encR x).map dU8),.sl (vS g2 1 1) 1 5 ([(UInt8.ofNat (x % 256))].map dU8)] (by unfold encR;rw[if_pos (by omega)]) ?_))
   exact tR O (HSub.fst 1 O) ⟨v3,O,O⟩
 · skip
   refine g' 6 O (tX [0] O O acs (appNA_c v bs x (by omega) (by omega) (by (try simp only[la,lc,ln]);omega)) ?_)
   rintro _ _ ⟨rv4,rfl,rfl⟩
   refine g' 4 O ?_
   exact tR O (HSub.fst 1 O) ⟨rv4,O,O⟩
theorem WriteRune_c (g:Nat) (p v:Value) (bs:List UInt8) (x:Nat) (hp:p=.pointer none∨p=.pointer (some ⟨g,0,none⟩)) (hl:bs.length≤1000000000000) (hx:x<2147483648):
 CD Tryz.prog 170 [.bx g 213 (.agg [.v p,.ov v]),.sl v 1 5 (bs.map dU8)] [dP g 0,.v (.int .i32 ((x:Nat):Int))] (fun r H'=>∃ v' n,r=.tup [dI n,.v .nilIface]∧H'=[.bx g 213 (.agg [dP g 0,.ov v']),.sl v' 1 5 ((bs++encR x).map dU8)]):=by
 refine tZ Tryz.func170 O O (fun C=>?_)
 have hel:=zea x
 refine g' 9 O (tX [0] O O acs (copyCheck_c g p (.ov v) hp) ?_)
 rintro _ _ ⟨rfl,rfl⟩
 refine gQ 8 [0] O O (tP O (zV (n:=bs.length) (j:=1) O O Tryz.runUnderlying103 (List.length_map _)) (gQ 11 [0] O O (tX [1] O O acs (appR_c v bs x  (by omega) (by (try simp only[la,lc,ln]);omega)) ?_)))
 rintro _ _ ⟨rv1,rfl,rfl⟩
 refine gQ 11 [1,1] O O (tP O (zV (n:=(bs++encR x).length) (j:=0) O O Tryz.runUnderlying103 (List.length_map _)) (g' 1 O (tP O (zcI (c:=((((bs++encR x).length:Nat):Int)-((bs.length:Nat):Int))) O O (zn (by omega) (by (try simp only[la]);omega))) (g' 5 O (T.front 1 O ?_)))))
 exact tR O (HSub.fst 2 O) ⟨rv1,_,O,O⟩
theorem String_c (g:Nat) (p v:Value) (bs:List UInt8) (h0:bs≠[]):
 CD Tryz.prog 173 [.bx g 213 (.agg [.v p,.ov v]),.sl v 1 5 (bs.map dU8)] [dP g 0] (fun r H'=>r=.s ⟨bs.toArray⟩∧H'=[]):=by
 refine tZ Tryz.func173 O O (fun C=>?_)
 refine g' 6 O (T.keep [0,2] O (tDr 10 [(3,dP g 0,none),(4,dP g 0,none),(5,dP g 1,none),(6,.ov v,none),(7,.v (.pointer (some ⟨bl v,0,none⟩)),none),(8,dP g 0,none),(9,dP g 0,none),(10,dP g 1,none),(11,.ov v,none),(12,dN bs.length,none)] [.bx g 213 (.agg [.v p,.ov v]),.sl v 1 5 (bs.map dU8)] (Hn:=[.bx g 213 (.agg [.v p,.ov v]),.sl v 1 5 (bs.map dU8)]) mixed O O O O HSub.rfl' O ⟨sa_p O O O (zi O),sa_p O O O (zB O),sa_p O O O (zm O fa_213_1 O),sa_p O O O (zk O (i:=0) O Tryz.isAgg103 O),sa_p O O O (p_sliceData (i:=1) O O (by rw[List.length_map];exact List.length_pos_iff.2 h0)),sa_p O O O (zi O),sa_p O O O (zB O),sa_p O O O (zm O fa_213_1 O),sa_p O O O (zk O (i:=0) O Tryz.isAgg103 O),sa_p O O O (zV (n:=bs.length) (j:=1) O O Tryz.runUnderlying103 (List.length_map _)),trivial⟩ (tK O (tE O (ef_unsafeString (i:=1) (bs:=bs) O O O O h0 (by kernel_rfl) (by kernel_rfl)) ?_))))
 rintro _ _ ⟨rfl,rfl⟩
 refine g' 4 O ?_
 exact tR O HSub.none ⟨O,O⟩
theorem hasP_c (a:ByteArray) (b:ByteArray) :
 CD Tryz.prog 195 [] [.s a,.s b] (isR (dB (hasP a b))):=by
 refine tZ Tryz.func195 O O (fun C=>?_)
 refine T.bd 0 O (fun bd0=>?_)
 have sz0:a.size≤9223372036854775807:=bd0
 refine T.bd 1 O (fun bd1=>?_)
 have sz1:b.size≤9223372036854775807:=bd1
 refine g' 8 O (tP O (zu O Tryz.runUnderlying9) (g' 1 O (tP O (zu O Tryz.runUnderlying9) (g' 2 O ?_))))
 refine tAnd 5 6 (c:=decide ((a.extract 0 b.size)=b)) O O O O O O (fun hb1 nx2=>?_) ?_
 · skip
   have hf3:=of_decide_eq_true hb1
   refine g' 2 O (tG O (zu O Tryz.runUnderlying9) (tG O (zw (a:=0) (c:=b.size) O O O (by first | rfl | (show _=_;omega)) (by first | rfl | (show _=_;omega)) Tryz.runUnderlying9 (by omega) (by omega)) (g' 2 O ?_)))
   exact nx2 _ O O (kx 6 O O)
 refine g' 4 O ?_
 exact tRs O Tryz.results195 (.cons (zd (zc O) (cB ((by unfold hasP;simp[*])))) .nil) O HSub.none ⟨O,O⟩
theorem HasPrefix_c (a:ByteArray) (b:ByteArray) :
 CD Tryz.prog 172 [] [.s a,.s b] (isR (dB (hasP a b))):=by
 refine tZ Tryz.func172 O O (fun C=>?_)
 refine T.bd 0 O (fun bd0=>?_)
 have sz0:a.size≤9223372036854775807:=bd0
 refine T.bd 1 O (fun bd1=>?_)
 have sz1:b.size≤9223372036854775807:=bd1
 refine g' 9 O (tW O acs (hasP_c a b) (g' 4 O ?_))
 exact tR O HSub.none ⟨O,O⟩
theorem Quote_c (s:ByteArray) (hs:s.size≤1000000000):
 CD Tryz.prog 148 [] [.s s] (isR (D.s (zab s))):=by
 refine tZ Tryz.func148 O O (fun C=>?_)
 refine T.bd 0 O (fun bd0=>?_)
 have sz0:s.size≤9223372036854775807:=bd0
 refine g' 7 O (tE O (ef_alloc (zv:=(.agg #[(.pointer none),(.slice none 0 0)])) (X:=.agg [.v (.pointer none),.ov (.slice none 0 0)]) Tryz.zeroValue213 ⟨O,O,trivial⟩ ((Cv.vagg (by decide)).trans (Cv.agg (km (.cons (Cv.ov O) .nil))))) ?_)
 rintro _ _ ⟨g1,rfl,rfl⟩
 refine T.subH (HSub.nil 1 5) (g' 4 O (tX [1,0] O O acs (zb4 g1 (.pointer none) (.slice none 0 0) [] (34:UInt8) (.inl O) (by (try simp only[la,lc,ln]);omega)) ?_))
 rintro _ _ ⟨bv2,rfl,rfl⟩
 refine g' 6 O (tE O (zbJ O Tryz.runUnderlying9) ?_)
 rintro _ _ ⟨g3,rfl,rfl⟩
 refine g' 3 O (tl3 (fun (a_:Nat) (b_:Value) (c_:List UInt8)=>[(0,.s s),(2,.v (.string ByteArray.empty)),(3,dP g1 0),(8,dP g3 0)]) (fun a_ b_ c_=>[.it g3 s a_,.bx g1 213 (.agg [dP g1 0,.ov b_]),.sl b_ 1 5 (c_.map dU8)]) (fun a_ b_ c_=>(a_≤s.size)∧(c_.length≤1+5*a_)∧([34]++zD s 0=c_++zD s a_)) (fun a_ b_ c_=>s.size-a_) 0 bv2 ([]++[(34:UInt8)]) O (sa O) HSub.rfl' ⟨Nat.zero_le _,by simp,O⟩ ?_)
 rintro p ov bs ⟨hp,hn,hq⟩
 rcases Nat.lt_or_ge p s.size with hlt | hge
 · skip
   have hrune:=zX hlt
   have hrl:=za9 s p
   have hdw:=zJ s p hlt
   have hdp:=zp s p
   refine g' 2 O (tE O (zaU (i:=0) O O hlt) ?_)
   rintro _ _ ⟨rfl,rfl⟩
   refine g' 22 O ?_
   refine tOr 2 2 (c:=decide (((decR s p:Nat):Int)=(92:Int))) O O O O O O (fun hb4 nx5=>?_) ?_
   · skip
     have hf6:=of_decide_eq_false hb4
     refine g' 2 O ?_
     exact nx5 _ O O (kx 2 O O)
   refine g' 3 O ?_
   refine tC O (fun hc7=>?_) (fun hc7=>?_)
   · simp only[bX,bJ] at hc7
     refine g' 2 O (tX [1,1] O O acs (zb4 g1 (.pointer (some ⟨g1,0,none⟩)) ov bs (92:UInt8) (.inr O) (by (try simp only[la,lc,ln]);omega)) ?_)
     rintro _ _ ⟨bv8,rfl,rfl⟩
     refine g' 4 O (tX [0,0] O O acs (WriteRune_c g1 (.pointer (some ⟨g1,0,none⟩)) bv8 (bs++[(92:UInt8)]) (decR s p) (.inr O) (by (try simp only[la,lc,ln]);omega) (by omega)) ?_)
     rintro _ _ ⟨bv9,nw10,rfl,rfl⟩
     refine g' 3 O (T.front 1 O (T.front 1 O (T.front 2 O ?_)))
     exact tp3 (p+decW s p) bv9 ((bs++[(92:UInt8)])++encR (decR s p)) (sa O) HSub.rfl' ⟨by have:=zJ s p hlt;omega,by (try simp only[la,lc,ln]);have:=zp s p;have:=zea (decR s p);omega,by rw[hq,zau hlt,piece_1 (by omega)];simp only[List.append_assoc,List.cons_append,List.nil_append]⟩ (by have:=zp s p;omega)
   · simp only[bX,bJ] at hc7
     refine g' 7 O ?_
     refine tD O (fun hc11=>?_) (fun hc11=>?_)
     · skip
       refine g' 1 O (tX [1,1] O O (kl (.cons (ArgC.cv cS) .nil)) (WriteString_c g1 (.pointer (some ⟨g1,0,none⟩)) ov bs gY (.inr O) (by (try simp only[la,lc,ln]);omega) (by first | decide | omega)) ?_)
       rintro _ _ ⟨bv12,rfl,rfl⟩
       refine g' 3 O (T.front 1 O (T.front 1 O (T.front 2 O ?_)))
       exact tp3 (p+decW s p) bv12 (bs++gY.data.toList) (sa O) HSub.rfl' ⟨by have:=zJ s p hlt;omega,by (try simp only[la,lc,ln]);have:=zp s p;have:=zea (decR s p);omega,by rw[hq,zau hlt,piece_2 (by omega) (by omega)];simp only[List.append_assoc,List.cons_append,List.nil_append]⟩ (by have:=zp s p;omega)
     · skip
       refine g' 5 O ?_
       refine tAnd 2 5 (c:=!(hasP (s.extract p s.size) gF)) O O O O O O (fun hb13 nx14=>?_) ?_
       · skip
         have hf15:=of_decide_eq_true hb13
         refine g' 2 O (tG O (zw (a:=p) (c:=s.size) O O O (by first | rfl | (show _=_;omega)) (by first | rfl | (show _=_;omega)) Tryz.runUnderlying9 (by omega) (by omega)) (tW O (kl (.cons (ArgC.cv cS) .nil)) (HasPrefix_c (s.extract p s.size) gF) (g' 1 O ?_)))
         exact nx14 _ O O (kx 5 O O)
       refine g' 3 O ?_
       refine tC O (fun hc16=>?_) (fun hc16=>?_)
       · simp only[bX,bJ] at hc16
         refine g' 2 O (tX [1,1] O O (kl (.cons (ArgC.cv cS) .nil)) (WriteString_c g1 (.pointer (some ⟨g1,0,none⟩)) ov bs gE (.inr O) (by (try simp only[la,lc,ln]);omega) (by first | decide | omega)) ?_)
         rintro _ _ ⟨bv17,rfl,rfl⟩
         refine g' 6 O ?_
         obtain ⟨u1,hu1⟩:=zai s p (by omega)
         have hlu1:=u1.toNat_lt
         refine tP O (zl (k:=p) O O Tryz.runUnderlying9 (by first | rfl | omega) hu1) (tP O (zdR (a:=u1.toNat) (n:=4) (m:=16) O O (by decide) (by decide)) ?_)
         obtain ⟨u2,hu2⟩:=zai ga (u1.toNat / 16) (by show _<16;omega)
         have hlu2:=u2.toNat_lt
         refine tP O (zl (k:=u1.toNat / 16) O O Tryz.runUnderlying9 (by first | rfl | omega) hu2) (tX [0,0] O O acs (zb4 g1 (.pointer (some ⟨g1,0,none⟩)) bv17 (bs++gE.data.toList) u2 (.inr O) (by (try simp only[la,lc,ln]);omega)) ?_)
         rintro _ _ ⟨bv18,rfl,rfl⟩
         refine g' 5 O (tP O (zl (k:=p) O O Tryz.runUnderlying9 (by first | rfl | omega) hu1) (tP O (zcF (a:=u1.toNat) (b:=15) O O (by omega) (by decide) (and15 _)) ?_))
         obtain ⟨u3,hu3⟩:=zai ga (u1.toNat % 16) (by show _<16;omega)
         have hlu3:=u3.toNat_lt
         refine tP O (zl (k:=u1.toNat % 16) O O Tryz.runUnderlying9 (by first | rfl | omega) hu3) (tX [0,0] O O acs (zb4 g1 (.pointer (some ⟨g1,0,none⟩)) bv18 ((bs++gE.data.toList)++[u2]) u3 (.inr O) (by (try simp only[la,lc,ln]);omega)) ?_)
         rintro _ _ ⟨bv19,rfl,rfl⟩
         refine g' 3 O (T.front 1 O (T.front 1 O (T.front 2 O ?_)))
         exact tp3 (p+decW s p) bv19 (((bs++gE.data.toList)++[u2])++[u3]) (sa O) HSub.rfl' ⟨by have:=zJ s p hlt;omega,by (try simp only[la,lc,ln]);have:=zp s p;have:=zea (decR s p);omega,by rw[hq,zau hlt,piece_3 (by omega) (by omega) ⟨by have:=hc16.1;omega,hc16.2⟩];rw[←zx hu1];rw[←hexB_at hu2,←hexB_at hu3];simp only[List.append_assoc,List.cons_append,List.nil_append]⟩ (by have:=zp s p;omega)
       · simp only[bX,bJ] at hc16
         refine g' 2 O (tX [1,1] O O acs (WriteRune_c g1 (.pointer (some ⟨g1,0,none⟩)) ov bs (decR s p) (.inr O) (by (try simp only[la,lc,ln]);omega) (by omega)) ?_)
         rintro _ _ ⟨bv20,nw21,rfl,rfl⟩
         refine g' 3 O (T.front 1 O (T.front 1 O (T.front 2 O ?_)))
         exact tp3 (p+decW s p) bv20 (bs++encR (decR s p)) (sa rfl) HSub.rfl' ⟨by have:=zJ s p hlt;omega,by (try simp only[la,lc,ln]);have:=zp s p;have:=zea (decR s p);omega,by rw[hq,zau hlt,piece_4 (by omega) (by omega) (fun e=>by rcases hc16 with h | h<;>first | exact h (by have:=e.1;omega) | exact absurd (e.2.symm.trans h) (by decide))];simp only[List.append_assoc,List.cons_append,List.nil_append]⟩ (by have:=zp s p;omega)
 · skip
   have hrune:=zaf hge
   refine g' 2 O (tP O (zbA (i:=0) O O hge) (g' 12 O (tX [1,1] O O acs (zb4 g1 (.pointer (some ⟨g1,0,none⟩)) ov bs (34:UInt8) (.inr O) (by (try simp only[la,lc,ln]);omega)) ?_)))
   rintro _ _ ⟨bv22,rfl,rfl⟩
   refine g' 4 O (tX [0,0] O O acs (String_c g1 (.pointer (some ⟨g1,0,none⟩)) bv22 (bs++[(34:UInt8)]) (by simp)) ?_)
   rintro _ _ ⟨rfl,rfl⟩
   refine g' 4 O ?_
   exact tRs O Tryz.results148 (.cons (zd (zc O) (Cv.eq (congrArg D.s (by rw[za2 hge,List.append_nil] at hq;rw[←hq];rfl)))) .nil) O HSub.none ⟨O,O⟩
end Lp
