import Derived.Test.YtheccaeefigajaaGreatDoorDJ
set_option linter.unusedSimpArgs false
set_option linter.unusedVariables false
set_option maxHeartbeats 4000000
set_option maxRecDepth 100000
namespace Lp
open Go Go.RowKit Go.Proofs
namespace HdYtheccaeefigajaaGreatDoorV8
theorem cv_21_241 {a:Int} (h:0≤a∧a≤4294967295):∀ w,(convert 21 241 (.int .i32 a)).run Tryz.prog w=.ok (.int .u32 a) w:=fun w=>by
 have e:IntKind.u32.wrap a=a:=by simp[IntKind.wrap,IntKind.bits,IntKind.signed];omega
 simp[convert,run_underlying (show Tryz.prog.underlying 21=some _ by kernel_rfl),run_underlying (show Tryz.prog.underlying 241=some _ by kernel_rfl),Conv.intToInt,e]
theorem zbE (b o:Nat):∀ w,(Instr.fieldAt 213 (.pointer (some ⟨b,o,none⟩)) 1).run Tryz.prog w=.ok (.pointer (some ⟨b,o+1,none⟩)) w:=fun _=>by kernel_rfl
theorem zc0:∃ i,Tryz.prog.info? 5=some i∧i.zero=some (.int .u8 0)∧i.size=1∧i.bytes=1:=zbq (by kernel_rfl)
theorem zbo:Tryz.prog.underlying 103=some (.slice 5):=by kernel_rfl
end HdYtheccaeefigajaaGreatDoorV8
open HdYtheccaeefigajaaGreatDoorV8
theorem zaL (a:Nat):∀ w,(convert 21 5 (.int .i32 (a:Int))).run Tryz.prog w=.ok (.int .u8 ((a % 256:Nat):Int)) w:=fun w=>by
 have e:IntKind.u8.wrap (a:Int)=((a % 256:Nat):Int):=by simp[IntKind.wrap,IntKind.bits,IntKind.signed]
 simp[convert,run_underlying (show Tryz.prog.underlying 21=some _ by kernel_rfl),run_underlying (show Tryz.prog.underlying 5=some _ by kernel_rfl),Conv.intToInt,e]
theorem appNA_c (v:Value) (bs:List UInt8) (x:Nat) (h1:127<x) (h2:x<2147483648) (hl:bs.length≤1000000000000):
 CD Tryz.prog 215 [.sl v 1 5 (bs.map dU8)] [.ov v,.v (.int .i32 ((x:Nat):Int))] (fun r H'=>∃ v',r=.ov v'∧H'=[.sl v' 1 5 ((bs++encR x).map dU8)]):=by
 refine zp Tryz.func215 rfl (N:=78) rfl rfl (fun C=>?_)
 refine jk [0,1] rfl (jT rfl (oR 1 rfl (oZ rfl (jT rfl (oR 1 rfl (oP rfl (zaK rfl (c:=((x:Nat):Int)) (cv_21_241 (by omega))) (oR 1 rfl (oZ rfl (jB rfl (jT rfl (oR 1 rfl (oP rfl (zbj rfl rfl rfl) (oR 1 rfl (oZ rfl ?_))))))))))))))
 refine jD rfl (fun hc1=>?_) (fun hc1=>?_)
 · skip
   refine jT rfl (oR 2 rfl (oP rfl (zdw (a:=x) (n:=6) (m:=64) rfl rfl (by decide) (by decide)) (oP rfl (zaK rfl (c:=(((x / 64) % 256:Nat):Int)) (zaL _)) (oP rfl (zcJ (a:=192) (b:=(x / 64) % 256) rfl rfl (by decide) (by omega) (or192 _ (by omega))) (oR 1 rfl (oP rfl (zaK rfl (c:=((x % 256:Nat):Int)) (zaL _)) (oP rfl (zcH (a:=x % 256) (b:=63) rfl rfl (by omega) (by decide) (zdM _)) (oP rfl (zcJ (a:=128) (b:=(x % 256) % 64) rfl rfl (by decide) (by omega) (zdI _ (by omega))) (oE rfl (zL [.tmp 18,.tmp 22] rfl rfl (.cons (CellD.v rfl) (.cons (CellD.v rfl) .nil)) rfl Tryz.runUnderlying103 Tryz.sizeOf5 Tryz.zeroValue5 rfl rfl rfl rfl) ?_)))))))))
   rintro _ _ ⟨g2,rfl,rfl⟩
   refine OpsD.subH (HSub.turn (h':=.sl (vS g2 2 2) 1 5 ([(UInt8.ofNat (192+((x / 64) % 256))),(UInt8.ofNat (128+((x % 256) % 64)))].map dU8)) rfl (Hp.cvs_sl (.cons (Cv.eq (zcv rfl (by omega))) (.cons (Cv.eq (zcv rfl (by omega))) .nil)))) (oE rfl (zP (f:=dU8) (l:=bs) (l':=[(UInt8.ofNat (192+((x / 64) % 256))),(UInt8.ofNat (128+((x % 256) % 64)))]) (i:=1) rfl rfl rfl (SrcD.own (j:=0) rfl rfl) zbo zc0 rfl rfl (by unfold maxLen;(try simp only[la,lc,ln,lm,lt',ld,ls,lr]);omega) (by (try simp only[la,lc,ln,lm,lt',ld,ls,lr]);omega)) ?_)
   rintro _ _ ⟨v3,rfl,rfl⟩
   refine on rfl (oR 1 rfl (oZ rfl (jk [4] rfl (zn rfl (zo (PD.subH (HSub.perm (zc (i:=1) rfl)) (pn rfl (PD.norm [.sl v3 1 5 ((bs++encR x).map dU8),.sl (vS g2 2 2) 1 5 ([(UInt8.ofNat (192+((x / 64) % 256))),(UInt8.ofNat (128+((x % 256) % 64)))].map dU8)] (by first | (exfalso;omega) | skip;unfold encR;first | rw[if_neg (by omega),if_pos (by omega)] | rw[if_neg (by omega),if_neg (by omega),if_pos (by omega)] | rw[if_neg (by omega),if_neg (by omega),if_neg (by omega),if_pos (by omega)] | rw[if_neg (by omega),if_neg (by omega),if_neg (by omega),if_neg (by omega)]) ?_))))))))
   exact zh Tryz.results215 (.cons (zl rfl) .nil) rfl (HSub.fst 1 rfl) ⟨v3,rfl,rfl⟩
 · skip
   refine jS rfl (jT rfl (oR 1 rfl (oP rfl (zN rfl rfl rfl) (oR 1 rfl (oZ rfl ?_)))))
   refine jD rfl (fun hc4=>?_) (fun hc4=>?_)
   · skip
     refine zt rfl (zj ?_)
     refine jD rfl (fun hc5=>?_) (fun hc5=>?_)
     · skip
       refine jT rfl (oR 2 rfl (oP rfl (zdw (a:=x) (n:=12) (m:=4096) rfl rfl (by decide) (by decide)) (oP rfl (zaK rfl (c:=(((x / 4096) % 256:Nat):Int)) (zaL _)) (oP rfl (zcJ (a:=224) (b:=(x / 4096) % 256) rfl rfl (by decide) (by omega) (or224 _ (by omega))) (oR 1 rfl (oP rfl (zdw (a:=x) (n:=6) (m:=64) rfl rfl (by decide) (by decide)) (oP rfl (zaK rfl (c:=(((x / 64) % 256:Nat):Int)) (zaL _)) (oP rfl (zcH (a:=(x / 64) % 256) (b:=63) rfl rfl (by omega) (by decide) (zdM _)) (oP rfl (zcJ (a:=128) (b:=((x / 64) % 256) % 64) rfl rfl (by decide) (by omega) (zdI _ (by omega))) (oR 1 rfl (oP rfl (zaK rfl (c:=((x % 256:Nat):Int)) (zaL _)) (oP rfl (zcH (a:=x % 256) (b:=63) rfl rfl (by omega) (by decide) (zdM _)) (oP rfl (zcJ (a:=128) (b:=(x % 256) % 64) rfl rfl (by decide) (by omega) (zdI _ (by omega))) (oE rfl (zL [.tmp 38,.tmp 43,.tmp 47] rfl rfl (.cons (CellD.v rfl) (.cons (CellD.v rfl) (.cons (CellD.v rfl) .nil))) rfl Tryz.runUnderlying103 Tryz.sizeOf5 Tryz.zeroValue5 rfl rfl rfl rfl) ?_))))))))))))))
       rintro _ _ ⟨g6,rfl,rfl⟩
       refine OpsD.subH (HSub.turn (h':=.sl (vS g6 3 3) 1 5 ([(UInt8.ofNat (224+((x / 4096) % 256))),(UInt8.ofNat (128+(((x / 64) % 256) % 64))),(UInt8.ofNat (128+((x % 256) % 64)))].map dU8)) rfl (Hp.cvs_sl (.cons (Cv.eq (zcv rfl (by omega))) (.cons (Cv.eq (zcv rfl (by omega))) (.cons (Cv.eq (zcv rfl (by omega))) .nil))))) (oE rfl (zP (f:=dU8) (l:=bs) (l':=[(UInt8.ofNat (224+((x / 4096) % 256))),(UInt8.ofNat (128+(((x / 64) % 256) % 64))),(UInt8.ofNat (128+((x % 256) % 64)))]) (i:=1) rfl rfl rfl (SrcD.own (j:=0) rfl rfl) zbo zc0 rfl rfl (by unfold maxLen;(try simp only[la,lc,ln,lm,lt',ld,ls,lr]);omega) (by (try simp only[la,lc,ln,lm,lt',ld,ls,lr]);omega)) ?_)
       rintro _ _ ⟨v7,rfl,rfl⟩
       refine on rfl (oR 1 rfl (oZ rfl (jk [4] rfl (zn rfl (zo (PD.subH (HSub.perm (zc (i:=1) rfl)) (pn rfl (PD.norm [.sl v7 1 5 ((bs++encR x).map dU8),.sl (vS g6 3 3) 1 5 ([(UInt8.ofNat (224+((x / 4096) % 256))),(UInt8.ofNat (128+(((x / 64) % 256) % 64))),(UInt8.ofNat (128+((x % 256) % 64)))].map dU8)] (by first | (exfalso;omega) | skip;unfold encR;first | rw[if_neg (by omega),if_pos (by omega)] | rw[if_neg (by omega),if_neg (by omega),if_pos (by omega)] | rw[if_neg (by omega),if_neg (by omega),if_neg (by omega),if_pos (by omega)] | rw[if_neg (by omega),if_neg (by omega),if_neg (by omega),if_neg (by omega)]) ?_))))))))
       exact zh Tryz.results215 (.cons (zl rfl) .nil) rfl (HSub.fst 1 rfl) ⟨v7,rfl,rfl⟩
     · skip
       refine jS rfl (jk [0,1,4,5] rfl ?_)
       refine zR 50 ((decide ((65535:Int)<((x:Nat):Int))&&decide (((x:Nat):Int)≤(1114111:Int)))) [.sl v 1 5 (bs.map dU8)] (fun _ hQ8=>?_) ?_
       · skip
         by_cases hg9:(65535:Int)<((x:Nat):Int)
         · skip
           refine zf rfl (oR 1 rfl (oP rfl (zaF rfl rfl (decide_eq_true hg9)) (oR 2 rfl (oG rfl (zbj rfl rfl rfl) (oR 2 rfl (zq rfl ?_))))))
           exact PD.sub ((50,dB (decide ((65535:Int)<((x:Nat):Int))&&decide (((x:Nat):Int)≤(1114111:Int))))::[(0,.ov v),(1,.v (.int .i32 ((x:Nat):Int))),(4,dZ),(5,.v (.int .u32 ((x:Nat):Int)))]) ⟨sc rfl (Cv.eq (congrArg (fun b=>D.v (.bool b)) (by first | (simp[hc1,hc5,hg9];done) | (simp_all;done)))),sk rfl,sk rfl,sk rfl,sk rfl,trivial⟩ hQ8
         · skip
           refine zf rfl (oR 1 rfl (oP rfl (zaF rfl rfl (decide_eq_false hg9)) (oR 5 rfl (zq rfl ?_))))
           exact PD.sub ((50,dB (decide ((65535:Int)<((x:Nat):Int))&&decide (((x:Nat):Int)≤(1114111:Int))))::[(0,.ov v),(1,.v (.int .i32 ((x:Nat):Int))),(4,dZ),(5,.v (.int .u32 ((x:Nat):Int)))]) ⟨sc rfl (Cv.eq (congrArg (fun b=>D.v (.bool b)) (by first | (simp[hc1,hc5,hg9];done) | (simp_all;done)))),sk rfl,sk rfl,sk rfl,sk rfl,trivial⟩ hQ8
       · skip
         refine zj ?_
         refine jC rfl (fun hc10=>?_) (fun hc10=>?_)
         · simp only[bA,bB,bC,bD,bE,bF,bG,bH,bI,bJ] at hc10
           refine jT rfl (oR 2 rfl (oP rfl (zdw (a:=x) (n:=18) (m:=262144) rfl rfl (by decide) (by decide)) (oP rfl (zaK rfl (c:=(((x / 262144) % 256:Nat):Int)) (zaL _)) (oP rfl (zcJ (a:=240) (b:=(x / 262144) % 256) rfl rfl (by decide) (by omega) (or240 _ (by omega))) (oR 1 rfl (oP rfl (zdw (a:=x) (n:=12) (m:=4096) rfl rfl (by decide) (by decide)) (oP rfl (zaK rfl (c:=(((x / 4096) % 256:Nat):Int)) (zaL _)) (oP rfl (zcH (a:=(x / 4096) % 256) (b:=63) rfl rfl (by omega) (by decide) (zdM _)) (oP rfl (zcJ (a:=128) (b:=((x / 4096) % 256) % 64) rfl rfl (by decide) (by omega) (zdI _ (by omega))) (oR 1 rfl (oP rfl (zdw (a:=x) (n:=6) (m:=64) rfl rfl (by decide) (by decide)) (oP rfl (zaK rfl (c:=(((x / 64) % 256:Nat):Int)) (zaL _)) (oP rfl (zcH (a:=(x / 64) % 256) (b:=63) rfl rfl (by omega) (by decide) (zdM _)) (oP rfl (zcJ (a:=128) (b:=((x / 64) % 256) % 64) rfl rfl (by decide) (by omega) (zdI _ (by omega))) (oR 1 rfl (oP rfl (zaK rfl (c:=((x % 256:Nat):Int)) (zaL _)) (oP rfl (zcH (a:=x % 256) (b:=63) rfl rfl (by omega) (by decide) (zdM _)) (oP rfl (zcJ (a:=128) (b:=(x % 256) % 64) rfl rfl (by decide) (by omega) (zdI _ (by omega))) ?_))))))))))))))))))
           refine oE rfl (zL [.tmp 61,.tmp 66,.tmp 71,.tmp 75] rfl rfl (.cons (CellD.v rfl) (.cons (CellD.v rfl) (.cons (CellD.v rfl) (.cons (CellD.v rfl) .nil)))) rfl Tryz.runUnderlying103 Tryz.sizeOf5 Tryz.zeroValue5 rfl rfl rfl rfl) ?_
           rintro _ _ ⟨g11,rfl,rfl⟩
           refine OpsD.subH (HSub.turn (h':=.sl (vS g11 4 4) 1 5 ([(UInt8.ofNat (240+((x / 262144) % 256))),(UInt8.ofNat (128+(((x / 4096) % 256) % 64))),(UInt8.ofNat (128+(((x / 64) % 256) % 64))),(UInt8.ofNat (128+((x % 256) % 64)))].map dU8)) rfl (Hp.cvs_sl (.cons (Cv.eq (zcv rfl (by omega))) (.cons (Cv.eq (zcv rfl (by omega))) (.cons (Cv.eq (zcv rfl (by omega))) (.cons (Cv.eq (zcv rfl (by omega))) .nil)))))) (oE rfl (zP (f:=dU8) (l:=bs) (l':=[(UInt8.ofNat (240+((x / 262144) % 256))),(UInt8.ofNat (128+(((x / 4096) % 256) % 64))),(UInt8.ofNat (128+(((x / 64) % 256) % 64))),(UInt8.ofNat (128+((x % 256) % 64)))]) (i:=1) rfl rfl rfl (SrcD.own (j:=0) rfl rfl) zbo zc0 rfl rfl (by unfold maxLen;(try simp only[la,lc,ln,lm,lt',ld,ls,lr]);omega) (by (try simp only[la,lc,ln,lm,lt',ld,ls,lr]);omega)) ?_)
           rintro _ _ ⟨v12,rfl,rfl⟩
           refine on rfl (oR 1 rfl (oZ rfl (jk [4] rfl (zn rfl (zo (PD.subH (HSub.perm (zc (i:=1) rfl)) (pn rfl (PD.norm [.sl v12 1 5 ((bs++encR x).map dU8),.sl (vS g11 4 4) 1 5 ([(UInt8.ofNat (240+((x / 262144) % 256))),(UInt8.ofNat (128+(((x / 4096) % 256) % 64))),(UInt8.ofNat (128+(((x / 64) % 256) % 64))),(UInt8.ofNat (128+((x % 256) % 64)))].map dU8)] (by first | (exfalso;omega) | skip;unfold encR;first | rw[if_neg (by omega),if_pos (by omega)] | rw[if_neg (by omega),if_neg (by omega),if_pos (by omega)] | rw[if_neg (by omega),if_neg (by omega),if_neg (by omega),if_pos (by omega)] | rw[if_neg (by omega),if_neg (by omega),if_neg (by omega),if_neg (by omega)]) ?_))))))))
           exact zh Tryz.results215 (.cons (zl rfl) .nil) rfl (HSub.fst 1 rfl) ⟨v12,rfl,rfl⟩
         · simp only[bA,bB,bC,bD,bE,bF,bG,bH,bI,bJ] at hc10
           refine jT rfl (oR 1 rfl (oE rfl (zL [.const (.int .u8 239),.const (.int .u8 191),.const (.int .u8 189)] rfl rfl (.cons (CellD.v rfl) (.cons (CellD.v rfl) (.cons (CellD.v rfl) .nil))) rfl Tryz.runUnderlying103 Tryz.sizeOf5 Tryz.zeroValue5 rfl rfl rfl rfl) ?_))
           rintro _ _ ⟨g13,rfl,rfl⟩
           refine oE rfl (zP (f:=dU8) (l:=bs) (l':=[(239:UInt8),(191:UInt8),(189:UInt8)]) (i:=1) rfl rfl rfl (SrcD.own (j:=0) rfl rfl) zbo zc0 rfl rfl (by unfold maxLen;(try simp only[la,lc,ln,lm,lt',ld,ls,lr]);omega) (by (try simp only[la,lc,ln,lm,lt',ld,ls,lr]);omega)) ?_
           rintro _ _ ⟨v14,rfl,rfl⟩
           refine on rfl (oR 1 rfl (oZ rfl (zn rfl (zo (PD.subH (HSub.perm (zc (i:=1) rfl)) (pn rfl (PD.norm [.sl v14 1 5 ((bs++encR x).map dU8),.sl (vS g13 3 3) 1 5 ([.v (.int .u8 239),.v (.int .u8 191),.v (.int .u8 189)])] (by first | (exfalso;omega) | skip;unfold encR;first | rw[if_neg (by omega),if_pos (by omega)] | rw[if_neg (by omega),if_neg (by omega),if_pos (by omega)] | rw[if_neg (by omega),if_neg (by omega),if_neg (by omega),if_pos (by omega)] | rw[if_neg (by omega),if_neg (by omega),if_neg (by omega),if_neg (by omega)]) ?_)))))))
           exact zh Tryz.results215 (.cons (zl rfl) .nil) rfl (HSub.fst 1 rfl) ⟨v14,rfl,rfl⟩
   · skip
     refine jk [0,1,4,5] rfl ?_
     refine zR 25 ((decide ((57343:Int)<((x:Nat):Int))&&decide (((x:Nat):Int)≤(65535:Int)))) [.sl v 1 5 (bs.map dU8)] (fun _ hQ15=>?_) ?_
     · skip
       by_cases hg16:(57343:Int)<((x:Nat):Int)
       · skip
         refine zf rfl (oR 1 rfl (oP rfl (zN rfl rfl (decide_eq_true hg16)) (oR 2 rfl (oG rfl (zbj rfl rfl rfl) (oR 2 rfl (zq rfl ?_))))))
         exact PD.sub ((25,dB (decide ((57343:Int)<((x:Nat):Int))&&decide (((x:Nat):Int)≤(65535:Int))))::[(0,.ov v),(1,.v (.int .i32 ((x:Nat):Int))),(4,dZ),(5,.v (.int .u32 ((x:Nat):Int)))]) ⟨sc rfl (Cv.eq (congrArg (fun b=>D.v (.bool b)) (by first | (simp[hc1,hc4,hg16];done) | (simp_all;done)))),sk rfl,sk rfl,sk rfl,sk rfl,trivial⟩ hQ15
       · skip
         refine zf rfl (oR 1 rfl (oP rfl (zN rfl rfl (decide_eq_false hg16)) (oR 5 rfl (zq rfl ?_))))
         exact PD.sub ((25,dB (decide ((57343:Int)<((x:Nat):Int))&&decide (((x:Nat):Int)≤(65535:Int))))::[(0,.ov v),(1,.v (.int .i32 ((x:Nat):Int))),(4,dZ),(5,.v (.int .u32 ((x:Nat):Int)))]) ⟨sc rfl (Cv.eq (congrArg (fun b=>D.v (.bool b)) (by first | (simp[hc1,hc4,hg16];done) | (simp_all;done)))),sk rfl,sk rfl,sk rfl,sk rfl,trivial⟩ hQ15
     · skip
       refine zj ?_
       refine jC rfl (fun hc17=>?_) (fun hc17=>?_)
       · simp only[bA,bB,bC,bD,bE,bF,bG,bH,bI,bJ] at hc17
         refine jT rfl (oR 2 rfl (oP rfl (zdw (a:=x) (n:=12) (m:=4096) rfl rfl (by decide) (by decide)) (oP rfl (zaK rfl (c:=(((x / 4096) % 256:Nat):Int)) (zaL _)) (oP rfl (zcJ (a:=224) (b:=(x / 4096) % 256) rfl rfl (by decide) (by omega) (or224 _ (by omega))) (oR 1 rfl (oP rfl (zdw (a:=x) (n:=6) (m:=64) rfl rfl (by decide) (by decide)) (oP rfl (zaK rfl (c:=(((x / 64) % 256:Nat):Int)) (zaL _)) (oP rfl (zcH (a:=(x / 64) % 256) (b:=63) rfl rfl (by omega) (by decide) (zdM _)) (oP rfl (zcJ (a:=128) (b:=((x / 64) % 256) % 64) rfl rfl (by decide) (by omega) (zdI _ (by omega))) (oR 1 rfl (oP rfl (zaK rfl (c:=((x % 256:Nat):Int)) (zaL _)) (oP rfl (zcH (a:=x % 256) (b:=63) rfl rfl (by omega) (by decide) (zdM _)) (oP rfl (zcJ (a:=128) (b:=(x % 256) % 64) rfl rfl (by decide) (by omega) (zdI _ (by omega))) (oE rfl (zL [.tmp 38,.tmp 43,.tmp 47] rfl rfl (.cons (CellD.v rfl) (.cons (CellD.v rfl) (.cons (CellD.v rfl) .nil))) rfl Tryz.runUnderlying103 Tryz.sizeOf5 Tryz.zeroValue5 rfl rfl rfl rfl) ?_))))))))))))))
         rintro _ _ ⟨g18,rfl,rfl⟩
         refine OpsD.subH (HSub.turn (h':=.sl (vS g18 3 3) 1 5 ([(UInt8.ofNat (224+((x / 4096) % 256))),(UInt8.ofNat (128+(((x / 64) % 256) % 64))),(UInt8.ofNat (128+((x % 256) % 64)))].map dU8)) rfl (Hp.cvs_sl (.cons (Cv.eq (zcv rfl (by omega))) (.cons (Cv.eq (zcv rfl (by omega))) (.cons (Cv.eq (zcv rfl (by omega))) .nil))))) (oE rfl (zP (f:=dU8) (l:=bs) (l':=[(UInt8.ofNat (224+((x / 4096) % 256))),(UInt8.ofNat (128+(((x / 64) % 256) % 64))),(UInt8.ofNat (128+((x % 256) % 64)))]) (i:=1) rfl rfl rfl (SrcD.own (j:=0) rfl rfl) zbo zc0 rfl rfl (by unfold maxLen;(try simp only[la,lc,ln,lm,lt',ld,ls,lr]);omega) (by (try simp only[la,lc,ln,lm,lt',ld,ls,lr]);omega)) ?_)
         rintro _ _ ⟨v19,rfl,rfl⟩
         refine on rfl (oR 1 rfl (oZ rfl (jk [4] rfl (zn rfl (zo (PD.subH (HSub.perm (zc (i:=1) rfl)) (pn rfl (PD.norm [.sl v19 1 5 ((bs++encR x).map dU8),.sl (vS g18 3 3) 1 5 ([(UInt8.ofNat (224+((x / 4096) % 256))),(UInt8.ofNat (128+(((x / 64) % 256) % 64))),(UInt8.ofNat (128+((x % 256) % 64)))].map dU8)] (by first | (exfalso;omega) | skip;unfold encR;first | rw[if_neg (by omega),if_pos (by omega)] | rw[if_neg (by omega),if_neg (by omega),if_pos (by omega)] | rw[if_neg (by omega),if_neg (by omega),if_neg (by omega),if_pos (by omega)] | rw[if_neg (by omega),if_neg (by omega),if_neg (by omega),if_neg (by omega)]) ?_))))))))
         exact zh Tryz.results215 (.cons (zl rfl) .nil) rfl (HSub.fst 1 rfl) ⟨v19,rfl,rfl⟩
       · simp only[bA,bB,bC,bD,bE,bF,bG,bH,bI,bJ] at hc17
         refine jS rfl (jk [0,1,4,5] rfl ?_)
         refine zR 50 ((decide ((65535:Int)<((x:Nat):Int))&&decide (((x:Nat):Int)≤(1114111:Int)))) [.sl v 1 5 (bs.map dU8)] (fun _ hQ20=>?_) ?_
         · skip
           by_cases hg21:(65535:Int)<((x:Nat):Int)
           · skip
             refine zf rfl (oR 1 rfl (oP rfl (zaF rfl rfl (decide_eq_true hg21)) (oR 2 rfl (oG rfl (zbj rfl rfl rfl) (oR 2 rfl (zq rfl ?_))))))
             exact PD.sub ((50,dB (decide ((65535:Int)<((x:Nat):Int))&&decide (((x:Nat):Int)≤(1114111:Int))))::[(0,.ov v),(1,.v (.int .i32 ((x:Nat):Int))),(4,dZ),(5,.v (.int .u32 ((x:Nat):Int)))]) ⟨sc rfl (Cv.eq (congrArg (fun b=>D.v (.bool b)) (by first | (simp[hc1,hc4,hg21];done) | (simp_all;done)))),sk rfl,sk rfl,sk rfl,sk rfl,trivial⟩ hQ20
           · skip
             refine zf rfl (oR 1 rfl (oP rfl (zaF rfl rfl (decide_eq_false hg21)) (oR 5 rfl (zq rfl ?_))))
             exact PD.sub ((50,dB (decide ((65535:Int)<((x:Nat):Int))&&decide (((x:Nat):Int)≤(1114111:Int))))::[(0,.ov v),(1,.v (.int .i32 ((x:Nat):Int))),(4,dZ),(5,.v (.int .u32 ((x:Nat):Int)))]) ⟨sc rfl (Cv.eq (congrArg (fun b=>D.v (.bool b)) (by first | (simp[hc1,hc4,hg21];done) | (simp_all;done)))),sk rfl,sk rfl,sk rfl,sk rfl,trivial⟩ hQ20
         · skip
           refine zj ?_
           refine jC rfl (fun hc22=>?_) (fun hc22=>?_)
           · simp only[bA,bB,bC,bD,bE,bF,bG,bH,bI,bJ] at hc22
             refine jT rfl (oR 2 rfl (oP rfl (zdw (a:=x) (n:=18) (m:=262144) rfl rfl (by decide) (by decide)) (oP rfl (zaK rfl (c:=(((x / 262144) % 256:Nat):Int)) (zaL _)) (oP rfl (zcJ (a:=240) (b:=(x / 262144) % 256) rfl rfl (by decide) (by omega) (or240 _ (by omega))) (oR 1 rfl (oP rfl (zdw (a:=x) (n:=12) (m:=4096) rfl rfl (by decide) (by decide)) (oP rfl (zaK rfl (c:=(((x / 4096) % 256:Nat):Int)) (zaL _)) (oP rfl (zcH (a:=(x / 4096) % 256) (b:=63) rfl rfl (by omega) (by decide) (zdM _)) (oP rfl (zcJ (a:=128) (b:=((x / 4096) % 256) % 64) rfl rfl (by decide) (by omega) (zdI _ (by omega))) (oR 1 rfl (oP rfl (zdw (a:=x) (n:=6) (m:=64) rfl rfl (by decide) (by decide)) (oP rfl (zaK rfl (c:=(((x / 64) % 256:Nat):Int)) (zaL _)) (oP rfl (zcH (a:=(x / 64) % 256) (b:=63) rfl rfl (by omega) (by decide) (zdM _)) (oP rfl (zcJ (a:=128) (b:=((x / 64) % 256) % 64) rfl rfl (by decide) (by omega) (zdI _ (by omega))) (oR 1 rfl (oP rfl (zaK rfl (c:=((x % 256:Nat):Int)) (zaL _)) (oP rfl (zcH (a:=x % 256) (b:=63) rfl rfl (by omega) (by decide) (zdM _)) (oP rfl (zcJ (a:=128) (b:=(x % 256) % 64) rfl rfl (by decide) (by omega) (zdI _ (by omega))) ?_))))))))))))))))))
             refine oE rfl (zL [.tmp 61,.tmp 66,.tmp 71,.tmp 75] rfl rfl (.cons (CellD.v rfl) (.cons (CellD.v rfl) (.cons (CellD.v rfl) (.cons (CellD.v rfl) .nil)))) rfl Tryz.runUnderlying103 Tryz.sizeOf5 Tryz.zeroValue5 rfl rfl rfl rfl) ?_
             rintro _ _ ⟨g23,rfl,rfl⟩
             refine OpsD.subH (HSub.turn (h':=.sl (vS g23 4 4) 1 5 ([(UInt8.ofNat (240+((x / 262144) % 256))),(UInt8.ofNat (128+(((x / 4096) % 256) % 64))),(UInt8.ofNat (128+(((x / 64) % 256) % 64))),(UInt8.ofNat (128+((x % 256) % 64)))].map dU8)) rfl (Hp.cvs_sl (.cons (Cv.eq (zcv rfl (by omega))) (.cons (Cv.eq (zcv rfl (by omega))) (.cons (Cv.eq (zcv rfl (by omega))) (.cons (Cv.eq (zcv rfl (by omega))) .nil)))))) (oE rfl (zP (f:=dU8) (l:=bs) (l':=[(UInt8.ofNat (240+((x / 262144) % 256))),(UInt8.ofNat (128+(((x / 4096) % 256) % 64))),(UInt8.ofNat (128+(((x / 64) % 256) % 64))),(UInt8.ofNat (128+((x % 256) % 64)))]) (i:=1) rfl rfl rfl (SrcD.own (j:=0) rfl rfl) zbo zc0 rfl rfl (by unfold maxLen;(try simp only[la,lc,ln,lm,lt',ld,ls,lr]);omega) (by (try simp only[la,lc,ln,lm,lt',ld,ls,lr]);omega)) ?_)
             rintro _ _ ⟨v24,rfl,rfl⟩
             refine on rfl (oR 1 rfl (oZ rfl (jk [4] rfl (zn rfl (zo (PD.subH (HSub.perm (zc (i:=1) rfl)) (pn rfl (PD.norm [.sl v24 1 5 ((bs++encR x).map dU8),.sl (vS g23 4 4) 1 5 ([(UInt8.ofNat (240+((x / 262144) % 256))),(UInt8.ofNat (128+(((x / 4096) % 256) % 64))),(UInt8.ofNat (128+(((x / 64) % 256) % 64))),(UInt8.ofNat (128+((x % 256) % 64)))].map dU8)] (by first | (exfalso;omega) | skip;unfold encR;first | rw[if_neg (by omega),if_pos (by omega)] | rw[if_neg (by omega),if_neg (by omega),if_pos (by omega)] | rw[if_neg (by omega),if_neg (by omega),if_neg (by omega),if_pos (by omega)] | rw[if_neg (by omega),if_neg (by omega),if_neg (by omega),if_neg (by omega)]) ?_))))))))
             exact zh Tryz.results215 (.cons (zl rfl) .nil) rfl (HSub.fst 1 rfl) ⟨v24,rfl,rfl⟩
           · simp only[bA,bB,bC,bD,bE,bF,bG,bH,bI,bJ] at hc22
             refine jT rfl (oR 1 rfl (oE rfl (zL [.const (.int .u8 239),.const (.int .u8 191),.const (.int .u8 189)] rfl rfl (.cons (CellD.v rfl) (.cons (CellD.v rfl) (.cons (CellD.v rfl) .nil))) rfl Tryz.runUnderlying103 Tryz.sizeOf5 Tryz.zeroValue5 rfl rfl rfl rfl) ?_))
             rintro _ _ ⟨g25,rfl,rfl⟩
             refine oE rfl (zP (f:=dU8) (l:=bs) (l':=[(239:UInt8),(191:UInt8),(189:UInt8)]) (i:=1) rfl rfl rfl (SrcD.own (j:=0) rfl rfl) zbo zc0 rfl rfl (by unfold maxLen;(try simp only[la,lc,ln,lm,lt',ld,ls,lr]);omega) (by (try simp only[la,lc,ln,lm,lt',ld,ls,lr]);omega)) ?_
             rintro _ _ ⟨v26,rfl,rfl⟩
             refine on rfl (oR 1 rfl (oZ rfl (zn rfl (zo (PD.subH (HSub.perm (zc (i:=1) rfl)) (pn rfl (PD.norm [.sl v26 1 5 ((bs++encR x).map dU8),.sl (vS g25 3 3) 1 5 ([.v (.int .u8 239),.v (.int .u8 191),.v (.int .u8 189)])] (by first | (exfalso;omega) | skip;unfold encR;first | rw[if_neg (by omega),if_pos (by omega)] | rw[if_neg (by omega),if_neg (by omega),if_pos (by omega)] | rw[if_neg (by omega),if_neg (by omega),if_neg (by omega),if_pos (by omega)] | rw[if_neg (by omega),if_neg (by omega),if_neg (by omega),if_neg (by omega)]) ?_)))))))
             exact zh Tryz.results215 (.cons (zl rfl) .nil) rfl (HSub.fst 1 rfl) ⟨v26,rfl,rfl⟩
theorem appR_c (v:Value) (bs:List UInt8) (x:Nat) (h2:x<2147483648) (hl:bs.length≤1000000000000):
 CD Tryz.prog 194 [.sl v 1 5 (bs.map dU8)] [.ov v,.v (.int .i32 ((x:Nat):Int))] (fun r H'=>∃ v',r=.ov v'∧H'=[.sl v' 1 5 ((bs++encR x).map dU8)]):=by
 refine zp Tryz.func194 rfl (N:=16) rfl rfl (fun C=>?_)
 refine jk [0,1] rfl (jT rfl (oR 1 rfl (oZ rfl (jS rfl (jT rfl (oR 1 rfl (oP rfl (zaK rfl (c:=((x:Nat):Int)) (cv_21_241 (by omega))) (oP rfl (zbj rfl rfl rfl) (oZ rfl ?_)))))))))
 refine jD rfl (fun hc1=>?_) (fun hc1=>?_)
 · skip
   refine jT rfl (oR 2 rfl (oP rfl (zaK rfl (c:=((x % 256:Nat):Int)) (zaL _)) (oE rfl (zL [.tmp 10] rfl rfl (.cons (CellD.v rfl) .nil) rfl Tryz.runUnderlying103 Tryz.sizeOf5 Tryz.zeroValue5 rfl rfl rfl rfl) ?_)))
   rintro _ _ ⟨g2,rfl,rfl⟩
   refine OpsD.subH (HSub.turn (h':=.sl (vS g2 1 1) 1 5 ([(UInt8.ofNat (x % 256))].map dU8)) rfl (Hp.cvs_sl (.cons (Cv.eq (zcv rfl (by omega))) .nil))) (oE rfl (zP (f:=dU8) (l:=bs) (l':=[(UInt8.ofNat (x % 256))]) (i:=1) rfl rfl rfl (SrcD.own (j:=0) rfl rfl) zbo zc0 rfl rfl (by unfold maxLen;(try simp only[la,lc,ln,lm,lt',ld,ls,lr]);omega) (by (try simp only[la,lc,ln,lm,lt',ld,ls,lr]);omega)) ?_)
   rintro _ _ ⟨v3,rfl,rfl⟩
   refine on rfl (oR 1 rfl (oZ rfl (zn rfl (zk (PD.subH (HSub.perm (zc (i:=1) rfl)) (pn rfl (PD.norm [.sl v3 1 5 ((bs++encR x).map dU8),.sl (vS g2 1 1) 1 5 ([(UInt8.ofNat (x % 256))].map dU8)] (by unfold encR;rw[if_pos (by omega)]) ?_)))))))
   exact zh Tryz.results194 (.cons (zl rfl) .nil) rfl (HSub.fst 1 rfl) ⟨v3,rfl,rfl⟩
 · skip
   refine zt rfl (zj (jT rfl (oR 2 rfl (oE rfl (zm [.sl v 1 5 (bs.map dU8)] [] [] rfl rfl (.cons ArgC.id (.cons ArgC.id .nil)) zg Tryz.call215 (appNA_c v bs x (by omega) (by omega) (by (try simp only[la,lc,ln]);omega)) (.inl rfl)) ?_))))
   rintro _ _ ⟨_,⟨rv4,rfl,rfl⟩,rfl⟩
   refine on rfl (oR 1 rfl (oZ rfl (zn rfl ?_)))
   exact zh Tryz.results194 (.cons (zl rfl) .nil) rfl (HSub.fst 1 rfl) ⟨rv4,rfl,rfl⟩
theorem WriteRune_c (g:Nat) (p v:Value) (bs:List UInt8) (x:Nat) (hp:p=.pointer none∨p=.pointer (some ⟨g,0,none⟩)) (hl:bs.length≤1000000000000) (hx:x<2147483648):
 CD Tryz.prog 170 [.bx g 213 (.agg [.v p,.ov v]),.sl v 1 5 (bs.map dU8)] [dP g 0,.v (.int .i32 ((x:Nat):Int))] (fun r H'=>∃ v' n,r=.tup [dI n,.v .nilIface]∧H'=[.bx g 213 (.agg [dP g 0,.ov v']),.sl v' 1 5 ((bs++encR x).map dU8)]):=by
 refine zp Tryz.func170 rfl (N:=30) rfl rfl (fun C=>?_)
 refine jk [0,1] rfl ?_
 have hel:=zdK x
 refine jT rfl (oR 2 rfl (oZ rfl (jT rfl (oR 1 rfl (oE rfl (zm [.bx g 213 (.agg [.v p,.ov v])] [.sl v 1 5 (bs.map dU8)] [] rfl rfl (.cons ArgC.id .nil) zg Tryz.call193 (copyCheck_c g p (.ov v) hp) (.inl rfl)) ?_)))))
 rintro _ _ ⟨_,⟨rfl,rfl⟩,rfl⟩
 refine on rfl (oZ rfl (jT rfl (oR 2 rfl (oP rfl (zd rfl zbE rfl) (oP rfl (ze rfl (i:=0) rfl Tryz.isAgg103 rfl) (oP rfl (zay (n:=bs.length) (j:=1) rfl rfl Tryz.runUnderlying103 (List.length_map _)) (oR 1 rfl (oZ rfl (jT rfl (oR 3 rfl (oP rfl (zd rfl zbE rfl) (oP rfl (ze rfl (i:=0) rfl Tryz.isAgg103 rfl) (oR 1 rfl (OpsD.subH (HSub.perm (zc (i:=1) rfl)) (on rfl (oE rfl (zm [.sl v 1 5 (bs.map dU8)] [.bx g 213 (.agg [dP g 0,.ov v])] [] rfl rfl (.cons ArgC.id (.cons ArgC.id .nil)) zg Tryz.call194 (appR_c v bs x  (by omega) (by (try simp only[la,lc,ln]);omega)) (.inl rfl)) ?_))))))))))))))))
 rintro _ _ ⟨_,⟨rv1,rfl,rfl⟩,rfl⟩
 refine on rfl (oR 1 rfl (oP rfl (zd rfl zbE rfl) (oE rfl (zi (i:=1) (X':=.agg [dP g 0,.ov rv1]) rfl rfl rfl (CellD.o) Tryz.sizeOf103 rfl rfl rfl) ?_)))
 rintro _ _ ⟨rfl,rfl⟩
 refine on rfl (oZ rfl (jk [0,4,5,6] rfl (jT rfl (oR 2 rfl (oP rfl (zd rfl zbE rfl) (oP rfl (ze rfl (i:=1) rfl Tryz.isAgg103 rfl) (oP rfl (zay (n:=(bs++encR x).length) (j:=0) rfl rfl Tryz.runUnderlying103 (List.length_map _)) (oR 1 rfl (oP rfl (zeA (c:=((((bs++encR x).length:Nat):Int)-((bs.length:Nat):Int))) rfl rfl (zab (by omega) (by (try simp only[la]);omega))) (oR 2 rfl (oZ rfl (jk [4,5] rfl (zn rfl (PD.subH (HSub.perm (zc (i:=1) rfl)) (pn rfl ?_)))))))))))))))
 exact zh Tryz.results170 (.cons (zl rfl) (.cons (zl rfl) .nil)) rfl (HSub.fst 2 rfl) ⟨rv1,_,rfl,rfl⟩
theorem String_c (g:Nat) (p v:Value) (bs:List UInt8) (h0:bs≠[]):
 CD Tryz.prog 173 [.bx g 213 (.agg [.v p,.ov v]),.sl v 1 5 (bs.map dU8)] [dP g 0] (fun r H'=>r=.s ⟨bs.toArray⟩∧H'=[]):=by
 refine zp Tryz.func173 rfl (N:=14) rfl rfl (fun C=>?_)
 refine jk [0] rfl (jT rfl (oR 1 rfl (oZ rfl (jS rfl (jk [0,2] rfl (jn rfl (zaX 10 [(3,dP g 0,none),(4,dP g 0,none),(5,dP g 1,none),(6,.ov v,none),(7,.v (.pointer (some ⟨bl v,0,none⟩)),none),(8,dP g 0,none),(9,dP g 0,none),(10,dP g 1,none),(11,.ov v,none),(12,dN bs.length,none)] [.bx g 213 (.agg [.v p,.ov v]),.sl v 1 5 (bs.map dU8)] (Hn:=[.bx g 213 (.agg [.v p,.ov v]),.sl v 1 5 (bs.map dU8)]) mixed rfl rfl rfl rfl HSub.rfl' rfl ⟨sa_p rfl rfl rfl (zG rfl),sa_p rfl rfl rfl (zbD rfl),sa_p rfl rfl rfl (zd rfl zbE rfl),sa_p rfl rfl rfl (ze rfl (i:=0) rfl Tryz.isAgg103 rfl),sa_p rfl rfl rfl (p_sliceData (i:=1) rfl rfl (by rw[List.length_map];exact List.length_pos_iff.2 h0)),sa_p rfl rfl rfl (zG rfl),sa_p rfl rfl rfl (zbD rfl),sa_p rfl rfl rfl (zd rfl zbE rfl),sa_p rfl rfl rfl (ze rfl (i:=0) rfl Tryz.isAgg103 rfl),sa_p rfl rfl rfl (zay (n:=bs.length) (j:=1) rfl rfl Tryz.runUnderlying103 (List.length_map _)),trivial⟩ (ok [0,2,3,4,5,6,7,8,9,10,11,12] rfl (oE rfl (ef_unsafeString (i:=1) (bs:=bs) rfl rfl rfl rfl h0 (by kernel_rfl) (by kernel_rfl)) ?_)))))))))
 rintro _ _ ⟨rfl,rfl⟩
 refine on rfl (oR 1 rfl (oZ rfl (jk [2] rfl (zn rfl ?_))))
 exact zh Tryz.results173 (.cons (zl rfl) .nil) rfl HSub.none ⟨rfl,rfl⟩
theorem hasP_c (a:ByteArray) (b:ByteArray) :
 CD Tryz.prog 195 [] [.s a,.s b] (isR (dB (hasP a b))):=by
 refine zp Tryz.func195 rfl (N:=18) rfl rfl (fun C=>?_)
 refine jk [0,1] rfl ?_
 refine JD.bd 0 rfl (fun bd0=>?_)
 have sz0:a.size≤9223372036854775807:=bd0
 refine JD.bd 1 rfl (fun bd1=>?_)
 have sz1:b.size≤9223372036854775807:=bd1
 refine jT rfl (oR 1 rfl (oZ rfl (jS rfl (jk [0,1] rfl ?_))))
 refine zR 4 ((decide (((b.size:Nat):Int)≤((a.size:Nat):Int))&&decide ((a.extract 0 b.size)=b))) [] (fun _ hQ1=>?_) ?_
 · skip
   by_cases hg2:((b.size:Nat):Int)≤((a.size:Nat):Int)
   · skip
     refine zf rfl (oR 1 rfl (oP rfl (z7 rfl Tryz.runUnderlying9) (oR 1 rfl (oP rfl (z7 rfl Tryz.runUnderlying9) (oP rfl (zaw rfl rfl (decide_eq_true hg2)) (oR 3 rfl (oG rfl (z7 rfl Tryz.runUnderlying9) (oG rfl (zam (a:=0) (c:=b.size) rfl rfl rfl (by first | rfl | (show _=_;omega)) (by first | rfl | (show _=_;omega)) Tryz.runUnderlying9 (by omega) (by omega)) (oR 1 rfl (oG rfl (zQ rfl rfl rfl) (oR 2 rfl (zq rfl ?_))))))))))))
     exact PD.sub ((4,dB (decide (((b.size:Nat):Int)≤((a.size:Nat):Int))&&decide ((a.extract 0 b.size)=b)))::[(0,.s a),(1,.s b)]) ⟨sc rfl (Cv.eq (congrArg (fun b=>D.v (.bool b)) (by first | (simp[hg2];done) | (simp_all;done)))),sk rfl,sk rfl,trivial⟩ hQ1
   · skip
     refine zf rfl (oR 1 rfl (oP rfl (z7 rfl Tryz.runUnderlying9) (oR 1 rfl (oP rfl (z7 rfl Tryz.runUnderlying9) (oP rfl (zaw rfl rfl (decide_eq_false hg2)) (oR 9 rfl (zq rfl ?_)))))))
     exact PD.sub ((4,dB (decide (((b.size:Nat):Int)≤((a.size:Nat):Int))&&decide ((a.extract 0 b.size)=b)))::[(0,.s a),(1,.s b)]) ⟨sc rfl (Cv.eq (congrArg (fun b=>D.v (.bool b)) (by first | (simp[hg2];done) | (simp_all;done)))),sk rfl,sk rfl,trivial⟩ hQ1
 · skip
   refine zj (zn rfl ?_)
   exact zh Tryz.results195 (.cons (zx (zl rfl) (Cv.eq (congrArg (fun b=>D.v (.bool b)) (by unfold hasP;simp[*])))) .nil) rfl HSub.none ⟨rfl,rfl⟩
theorem HasPrefix_c (a:ByteArray) (b:ByteArray) :
 CD Tryz.prog 172 [] [.s a,.s b] (isR (dB (hasP a b))):=by
 refine zp Tryz.func172 rfl (N:=8) rfl rfl (fun C=>?_)
 refine jk [0,1] rfl ?_
 refine JD.bd 0 rfl (fun bd0=>?_)
 have sz0:a.size≤9223372036854775807:=bd0
 refine JD.bd 1 rfl (fun bd1=>?_)
 have sz1:b.size≤9223372036854775807:=bd1
 refine jT rfl (oR 1 rfl (oZ rfl (jT rfl (oR 2 rfl (oW rfl rfl acs Tryz.call195 (hasP_c a b) (oR 1 rfl (oZ rfl (zn rfl ?_))))))))
 exact zh Tryz.results172 (.cons (zl rfl) .nil) rfl HSub.none ⟨rfl,rfl⟩
theorem Quote_c (s:ByteArray) (hs:s.size≤1000000000):
 CD Tryz.prog 148 [] [.s s] (isR (D.s (zaQ s))):=by
 refine zp Tryz.func148 rfl (N:=54) rfl rfl (fun C=>?_)
 refine jk [0] rfl ?_
 refine JD.bd 0 rfl (fun bd0=>?_)
 have sz0:s.size≤9223372036854775807:=bd0
 refine jT rfl (oR 1 rfl (oZ rfl (jT rfl (oE rfl (zC (zv:=(.agg #[(.pointer none),(.slice none 0 0)])) (X:=.agg [.v (.pointer none),.ov (.slice none 0 0)]) Tryz.zeroValue213 ⟨rfl,rfl,trivial⟩ ((Cv.vagg (by decide)).trans (Cv.agg (.cons Cv.rfl' (.cons (Cv.ov rfl) .nil))))) ?_))))
 rintro _ _ ⟨g1,rfl,rfl⟩
 refine OpsD.subH (HSub.nil 1 5) (on rfl (oZ rfl (jT rfl (OpsD.subH (HSub.perm (zc (i:=1) rfl)) (on rfl (oE rfl (zm [.bx g1 213 (.agg [.v (.pointer none),.ov (.slice none 0 0)]),.sl (.slice none 0 0) 1 5 ([].map dU8)] [] [] rfl rfl (.cons ArgC.id (.cons ArgC.id .nil)) zg Tryz.call169 (zb5 g1 (.pointer none) (.slice none 0 0) [] (34:UInt8) (.inl rfl) (by (try simp only[la,lc,ln]);omega)) (.inl rfl)) ?_))))))
 rintro _ _ ⟨_,⟨bv2,rfl,rfl⟩,rfl⟩
 refine on rfl (oZ rfl (jS rfl (jT rfl (oR 1 rfl (oE rfl (zdo rfl Tryz.runUnderlying9) ?_)))))
 rintro _ _ ⟨g3,rfl,rfl⟩
 refine oZ rfl (jB rfl (jl3 (fun (a_:Nat) (b_:Value) (c_:List UInt8)=>[(0,.s s),(2,.v (.string ByteArray.empty)),(3,dP g1 0),(8,dP g3 0)]) (fun a_ b_ c_=>[.it g3 s a_,.bx g1 213 (.agg [dP g1 0,.ov b_]),.sl b_ 1 5 (c_.map dU8)]) (fun a_ b_ c_=>(a_≤s.size)∧(c_.length≤1+5*a_)∧([34]++zaf s 0=c_++zaf s a_)) (fun a_ b_ c_=>s.size-a_) 0 bv2 ([]++[(34:UInt8)]) rfl (sa rfl) HSub.rfl' ⟨Nat.zero_le _,by simp,rfl⟩ ?_))
 rintro p ov bs ⟨hp,hn,hq⟩
 refine ja rfl (jn rfl ?_)
 rcases Nat.lt_or_ge p s.size with hlt | hge
 · skip
   have hrune:=zaO hlt
   have hrl:=zcM s p
   have hdw:=zaN s p hlt
   have hdp:=zY s p
   refine jT rfl (oE rfl (zcR (i:=0) rfl rfl hlt) ?_)
   rintro _ _ ⟨rfl,rfl⟩
   refine on rfl (oR 1 rfl (oZ rfl (jS rfl (jCt rfl (zt rfl (zj (jB rfl (jT rfl (oR 4 rfl (oZ rfl (jB rfl (jS rfl (jk [0,2,3,4,5,8,9,10,11,12] rfl ?_)))))))))))))
   refine zR 15 ((decide (((decR s p:Nat):Int)=(34:Int))||decide (((decR s p:Nat):Int)=(92:Int)))) [.it g3 s (p+decW s p),.bx g1 213 (.agg [dP g1 0,.ov ov]),.sl ov 1 5 (bs.map dU8)] (fun _ hQ4=>?_) ?_
   · skip
     by_cases hg5:((decR s p:Nat):Int)=(34:Int)
     · skip
       refine zf rfl (oR 1 rfl (oP rfl (zD rfl rfl (decide_eq_true hg5)) (oR 5 rfl (zq rfl ?_))))
       exact PD.sub ((15,dB (decide (((decR s p:Nat):Int)=(34:Int))||decide (((decR s p:Nat):Int)=(92:Int))))::[(0,.s s),(2,.v (.string ByteArray.empty)),(3,dP g1 0),(4,dN p),(5,.v (.int .i32 ((decR s p:Nat):Int))),(8,dP g3 0),(9,.tup [dB true,dN p,.v (.int .i32 ((decR s p:Nat):Int))]),(10,dB true),(11,dN p),(12,.v (.int .i32 ((decR s p:Nat):Int)))]) ⟨sc rfl (Cv.eq (congrArg (fun b=>D.v (.bool b)) (by first | (simp[hg5];done) | (simp_all;done)))),sk rfl,sk rfl,sk rfl,sk rfl,sk rfl,sk rfl,sk rfl,sk rfl,sk rfl,sk rfl,trivial⟩ hQ4
     · skip
       refine zf rfl (oR 1 rfl (oP rfl (zD rfl rfl (decide_eq_false hg5)) (oR 2 rfl (oG rfl (zD rfl rfl rfl) (oR 2 rfl (zq rfl ?_))))))
       exact PD.sub ((15,dB (decide (((decR s p:Nat):Int)=(34:Int))||decide (((decR s p:Nat):Int)=(92:Int))))::[(0,.s s),(2,.v (.string ByteArray.empty)),(3,dP g1 0),(4,dN p),(5,.v (.int .i32 ((decR s p:Nat):Int))),(8,dP g3 0),(9,.tup [dB true,dN p,.v (.int .i32 ((decR s p:Nat):Int))]),(10,dB true),(11,dN p),(12,.v (.int .i32 ((decR s p:Nat):Int)))]) ⟨sc rfl (Cv.eq (congrArg (fun b=>D.v (.bool b)) (by first | (simp[hg5];done) | (simp_all;done)))),sk rfl,sk rfl,sk rfl,sk rfl,sk rfl,sk rfl,sk rfl,sk rfl,sk rfl,sk rfl,trivial⟩ hQ4
   · skip
     refine zj ?_
     refine jC rfl (fun hc6=>?_) (fun hc6=>?_)
     · simp only[bA,bB,bC,bD,bE,bF,bG,bH,bI,bJ] at hc6
       refine jT rfl (OpsD.subH (HSub.perm (zc (i:=2) rfl)) (on rfl (OpsD.subH (HSub.perm (zc (i:=2) rfl)) (on rfl (oE rfl (zm [.bx g1 213 (.agg [dP g1 0,.ov ov]),.sl ov 1 5 (bs.map dU8)] [.it g3 s (p+decW s p)] [] rfl rfl (.cons ArgC.id (.cons ArgC.id .nil)) zg Tryz.call169 (zb5 g1 (.pointer (some ⟨g1,0,none⟩)) ov bs (92:UInt8) (.inr rfl) (by (try simp only[la,lc,ln]);omega)) (.inl rfl)) ?_)))))
       rintro _ _ ⟨_,⟨bv7,rfl,rfl⟩,rfl⟩
       refine on rfl (oZ rfl (zf rfl (oR 1 rfl (oE rfl (zm [.bx g1 213 (.agg [dP g1 0,.ov bv7]),.sl bv7 1 5 ((bs++[(92:UInt8)]).map dU8)] [.it g3 s (p+decW s p)] [] rfl rfl (.cons ArgC.id (.cons ArgC.id .nil)) zg Tryz.call170 (WriteRune_c g1 (.pointer (some ⟨g1,0,none⟩)) bv7 (bs++[(92:UInt8)]) (decR s p) (.inr rfl) (by (try simp only[la,lc,ln]);omega) (by omega)) (.inl rfl)) ?_))))
       rintro _ _ ⟨_,⟨bv8,nw9,rfl,rfl⟩,rfl⟩
       refine on rfl (zq rfl (zB (zB (PD.subH (HSub.perm (zc (i:=1) rfl)) (pn rfl (PD.subH (HSub.perm (zc (i:=1) rfl)) (pn rfl (PD.subH (HSub.perm (zc (i:=2) rfl)) (pn rfl ?_)))))))))
       exact pl3 (p+decW s p) bv8 ((bs++[(92:UInt8)])++encR (decR s p)) (sa rfl) HSub.rfl' ⟨by have:=zaN s p hlt;omega,by (try simp only[la,lc,ln]);have:=zY s p;have:=zdK (decR s p);omega,by rw[hq,zaR hlt,piece_1 (by omega)];simp only[List.append_assoc,List.cons_append,List.nil_append]⟩ (by have:=zY s p;omega)
     · simp only[bA,bB,bC,bD,bE,bF,bG,bH,bI,bJ] at hc6
       refine jT rfl (oR 1 rfl (oP rfl (zD rfl rfl rfl) (oR 1 rfl (oZ rfl ?_))))
       refine jD rfl (fun hc10=>?_) (fun hc10=>?_)
       · skip
         refine zf rfl (OpsD.subH (HSub.perm (zc (i:=2) rfl)) (on rfl (OpsD.subH (HSub.perm (zc (i:=2) rfl)) (on rfl (oE rfl (zm [.bx g1 213 (.agg [dP g1 0,.ov ov]),.sl ov 1 5 (bs.map dU8)] [.it g3 s (p+decW s p)] [] rfl rfl (.cons ArgC.id (.cons (ArgC.cv (Cv.str (by first | decide | (unfold maxLen;omega)))) .nil)) zg Tryz.call171 (WriteString_c g1 (.pointer (some ⟨g1,0,none⟩)) ov bs (⟨#[92,110]⟩:ByteArray) (.inr rfl) (by (try simp only[la,lc,ln]);omega) (by first | decide | omega)) (.inl rfl)) ?_)))))
         rintro _ _ ⟨_,⟨bv11,rfl,rfl⟩,rfl⟩
         refine on rfl (zq rfl (zB (zB (PD.subH (HSub.perm (zc (i:=1) rfl)) (pn rfl (PD.subH (HSub.perm (zc (i:=1) rfl)) (pn rfl (PD.subH (HSub.perm (zc (i:=2) rfl)) (pn rfl ?_)))))))))
         exact pl3 (p+decW s p) bv11 (bs++(⟨#[92,110]⟩:ByteArray).data.toList) (sa rfl) HSub.rfl' ⟨by have:=zaN s p hlt;omega,by (try simp only[la,lc,ln]);have:=zY s p;have:=zdK (decR s p);omega,by rw[hq,zaR hlt,piece_2 (by omega) (by omega)];simp only[List.append_assoc,List.cons_append,List.nil_append]⟩ (by have:=zY s p;omega)
       · skip
         refine jS rfl (jk [0,2,3,4,5,8,9,10,11,12,15,25,26,27] rfl ?_)
         refine zR 29 ((decide (((decR s p:Nat):Int)=(65533:Int))&&!(hasP (s.extract p s.size) (⟨#[239,191,189]⟩:ByteArray)))) [.it g3 s (p+decW s p),.bx g1 213 (.agg [dP g1 0,.ov ov]),.sl ov 1 5 (bs.map dU8)] (fun _ hQ12=>?_) ?_
         · skip
           by_cases hg13:((decR s p:Nat):Int)=(65533:Int)
           · skip
             refine zf rfl (oR 1 rfl (oP rfl (zD rfl rfl (decide_eq_true hg13)) (oR 3 rfl (oG rfl (zam (a:=p) (c:=s.size) rfl rfl rfl (by first | rfl | (show _=_;omega)) (by first | rfl | (show _=_;omega)) Tryz.runUnderlying9 (by omega) (by omega)) (oV rfl rfl (.cons ArgC.id (.cons (ArgC.cv (Cv.str (by first | decide | (unfold maxLen;omega)))) .nil)) Tryz.call172 (HasPrefix_c (s.extract p s.size) (⟨#[239,191,189]⟩:ByteArray)) (oG rfl (zaZ rfl) (oR 2 rfl (zq rfl ?_))))))))
             exact PD.sub ((29,dB (decide (((decR s p:Nat):Int)=(65533:Int))&&!(hasP (s.extract p s.size) (⟨#[239,191,189]⟩:ByteArray))))::[(0,.s s),(2,.v (.string ByteArray.empty)),(3,dP g1 0),(4,dN p),(5,.v (.int .i32 ((decR s p:Nat):Int))),(8,dP g3 0),(9,.tup [dB true,dN p,.v (.int .i32 ((decR s p:Nat):Int))]),(10,dB true),(11,dN p),(12,.v (.int .i32 ((decR s p:Nat):Int))),(15,dB (decide (((decR s p:Nat):Int)=(34:Int))||decide (((decR s p:Nat):Int)=(92:Int)))),(25,dB (decide (((decR s p:Nat):Int)=(10:Int)))),(26,.v (.int .i32 ((decR s p:Nat):Int))),(27,dB (decide (((decR s p:Nat):Int)=(10:Int))))]) ⟨sc rfl (Cv.eq (congrArg (fun b=>D.v (.bool b)) (by first | (simp[hc10,hg13];done) | (simp_all;done)))),sk rfl,sk rfl,sk rfl,sk rfl,sk rfl,sk rfl,sk rfl,sk rfl,sk rfl,sk rfl,sk rfl,sk rfl,sk rfl,sk rfl,trivial⟩ hQ12
           · skip
             refine zf rfl (oR 1 rfl (oP rfl (zD rfl rfl (decide_eq_false hg13)) (oR 8 rfl (zq rfl ?_))))
             exact PD.sub ((29,dB (decide (((decR s p:Nat):Int)=(65533:Int))&&!(hasP (s.extract p s.size) (⟨#[239,191,189]⟩:ByteArray))))::[(0,.s s),(2,.v (.string ByteArray.empty)),(3,dP g1 0),(4,dN p),(5,.v (.int .i32 ((decR s p:Nat):Int))),(8,dP g3 0),(9,.tup [dB true,dN p,.v (.int .i32 ((decR s p:Nat):Int))]),(10,dB true),(11,dN p),(12,.v (.int .i32 ((decR s p:Nat):Int))),(15,dB (decide (((decR s p:Nat):Int)=(34:Int))||decide (((decR s p:Nat):Int)=(92:Int)))),(25,dB (decide (((decR s p:Nat):Int)=(10:Int)))),(26,.v (.int .i32 ((decR s p:Nat):Int))),(27,dB (decide (((decR s p:Nat):Int)=(10:Int))))]) ⟨sc rfl (Cv.eq (congrArg (fun b=>D.v (.bool b)) (by first | (simp[hc10,hg13];done) | (simp_all;done)))),sk rfl,sk rfl,sk rfl,sk rfl,sk rfl,sk rfl,sk rfl,sk rfl,sk rfl,sk rfl,sk rfl,sk rfl,sk rfl,sk rfl,trivial⟩ hQ12
         · skip
           refine zj ?_
           refine jC rfl (fun hc14=>?_) (fun hc14=>?_)
           · simp only[bA,bB,bC,bD,bE,bF,bG,bH,bI,bJ] at hc14
             refine jT rfl (OpsD.subH (HSub.perm (zc (i:=2) rfl)) (on rfl (OpsD.subH (HSub.perm (zc (i:=2) rfl)) (on rfl (oE rfl (zm [.bx g1 213 (.agg [dP g1 0,.ov ov]),.sl ov 1 5 (bs.map dU8)] [.it g3 s (p+decW s p)] [] rfl rfl (.cons ArgC.id (.cons (ArgC.cv (Cv.str (by first | decide | (unfold maxLen;omega)))) .nil)) zg Tryz.call171 (WriteString_c g1 (.pointer (some ⟨g1,0,none⟩)) ov bs (⟨#[92,120]⟩:ByteArray) (.inr rfl) (by (try simp only[la,lc,ln]);omega) (by first | decide | omega)) (.inl rfl)) ?_)))))
             rintro _ _ ⟨_,⟨bv15,rfl,rfl⟩,rfl⟩
             refine on rfl (oZ rfl (jT rfl (oR 2 rfl ?_)))
             obtain ⟨u1,hu1⟩:=zcc s p (by omega)
             have hlu1:=u1.toNat_lt
             refine oP rfl (zac (k:=p) rfl rfl Tryz.runUnderlying9 (by first | rfl | omega) hu1) (oP rfl (zdw (a:=u1.toNat) (n:=4) (m:=16) rfl rfl (by decide) (by decide)) ?_)
             obtain ⟨u2,hu2⟩:=zcc (⟨#[48,49,50,51,52,53,54,55,56,57,97,98,99,100,101,102]⟩:ByteArray) (u1.toNat / 16) (by show _<16;omega)
             have hlu2:=u2.toNat_lt
             refine oP rfl (zac (k:=u1.toNat / 16) rfl rfl Tryz.runUnderlying9 (by first | rfl | omega) hu2) (oE rfl (zm [.bx g1 213 (.agg [dP g1 0,.ov bv15]),.sl bv15 1 5 ((bs++(⟨#[92,120]⟩:ByteArray).data.toList).map dU8)] [.it g3 s (p+decW s p)] [] rfl rfl (.cons ArgC.id (.cons ArgC.id .nil)) zg Tryz.call169 (zb5 g1 (.pointer (some ⟨g1,0,none⟩)) bv15 (bs++(⟨#[92,120]⟩:ByteArray).data.toList) u2 (.inr rfl) (by (try simp only[la,lc,ln]);omega)) (.inl rfl)) ?_)
             rintro _ _ ⟨_,⟨bv16,rfl,rfl⟩,rfl⟩
             refine on rfl (oZ rfl (zf rfl (oR 2 rfl (oP rfl (zac (k:=p) rfl rfl Tryz.runUnderlying9 (by first | rfl | omega) hu1) (oP rfl (zcH (a:=u1.toNat) (b:=15) rfl rfl (by omega) (by decide) (and15 _)) ?_)))))
             obtain ⟨u3,hu3⟩:=zcc (⟨#[48,49,50,51,52,53,54,55,56,57,97,98,99,100,101,102]⟩:ByteArray) (u1.toNat % 16) (by show _<16;omega)
             have hlu3:=u3.toNat_lt
             refine oP rfl (zac (k:=u1.toNat % 16) rfl rfl Tryz.runUnderlying9 (by first | rfl | omega) hu3) (oE rfl (zm [.bx g1 213 (.agg [dP g1 0,.ov bv16]),.sl bv16 1 5 (((bs++(⟨#[92,120]⟩:ByteArray).data.toList)++[u2]).map dU8)] [.it g3 s (p+decW s p)] [] rfl rfl (.cons ArgC.id (.cons ArgC.id .nil)) zg Tryz.call169 (zb5 g1 (.pointer (some ⟨g1,0,none⟩)) bv16 ((bs++(⟨#[92,120]⟩:ByteArray).data.toList)++[u2]) u3 (.inr rfl) (by (try simp only[la,lc,ln]);omega)) (.inl rfl)) ?_)
             rintro _ _ ⟨_,⟨bv17,rfl,rfl⟩,rfl⟩
             refine on rfl (zq rfl (zB (zB (PD.subH (HSub.perm (zc (i:=1) rfl)) (pn rfl (PD.subH (HSub.perm (zc (i:=1) rfl)) (pn rfl (PD.subH (HSub.perm (zc (i:=2) rfl)) (pn rfl ?_)))))))))
             exact pl3 (p+decW s p) bv17 (((bs++(⟨#[92,120]⟩:ByteArray).data.toList)++[u2])++[u3]) (sa rfl) HSub.rfl' ⟨by have:=zaN s p hlt;omega,by (try simp only[la,lc,ln]);have:=zY s p;have:=zdK (decR s p);omega,by rw[hq,zaR hlt,piece_3 (by omega) (by omega) ⟨by have:=hc14.1;omega,hc14.2⟩];rw[←zS hu1];rw[←hexB_at hu2,←hexB_at hu3];simp only[List.append_assoc,List.cons_append,List.nil_append]⟩ (by have:=zY s p;omega)
           · simp only[bA,bB,bC,bD,bE,bF,bG,bH,bI,bJ] at hc14
             refine zf rfl (oR 1 rfl (OpsD.subH (HSub.perm (zc (i:=2) rfl)) (on rfl (OpsD.subH (HSub.perm (zc (i:=2) rfl)) (on rfl (oE rfl (zm [.bx g1 213 (.agg [dP g1 0,.ov ov]),.sl ov 1 5 (bs.map dU8)] [.it g3 s (p+decW s p)] [] rfl rfl (.cons ArgC.id (.cons ArgC.id .nil)) zg Tryz.call170 (WriteRune_c g1 (.pointer (some ⟨g1,0,none⟩)) ov bs (decR s p) (.inr rfl) (by (try simp only[la,lc,ln]);omega) (by omega)) (.inl rfl)) ?_))))))
             rintro _ _ ⟨_,⟨bv18,nw19,rfl,rfl⟩,rfl⟩
             refine on rfl (zq rfl (zB (zB (PD.subH (HSub.perm (zc (i:=1) rfl)) (pn rfl (PD.subH (HSub.perm (zc (i:=1) rfl)) (pn rfl (PD.subH (HSub.perm (zc (i:=2) rfl)) (pn rfl ?_)))))))))
             exact pl3 (p+decW s p) bv18 (bs++encR (decR s p)) (sa rfl) HSub.rfl' ⟨by have:=zaN s p hlt;omega,by (try simp only[la,lc,ln]);have:=zY s p;have:=zdK (decR s p);omega,by rw[hq,zaR hlt,piece_4 (by omega) (by omega) (fun e=>by rcases hc14 with h | h<;>first | exact h (by have:=e.1;omega) | exact absurd (e.2.symm.trans h) (by decide))];simp only[List.append_assoc,List.cons_append,List.nil_append]⟩ (by have:=zY s p;omega)
 · skip
   have hrune:=zbb hge
   refine jT rfl (oP rfl (zdj (i:=0) rfl rfl hge) (oR 1 rfl (oZ rfl (jS rfl (jCf rfl (zF rfl (zw (zu (zr (zj (jT rfl (OpsD.subH (HSub.perm (zc (i:=2) rfl)) (on rfl (OpsD.subH (HSub.perm (zc (i:=2) rfl)) (on rfl (oE rfl (zm [.bx g1 213 (.agg [dP g1 0,.ov ov]),.sl ov 1 5 (bs.map dU8)] [.it g3 s p] [] rfl rfl (.cons ArgC.id (.cons ArgC.id .nil)) zg Tryz.call169 (zb5 g1 (.pointer (some ⟨g1,0,none⟩)) ov bs (34:UInt8) (.inr rfl) (by (try simp only[la,lc,ln]);omega)) (.inl rfl)) ?_))))))))))))))))
   rintro _ _ ⟨_,⟨bv20,rfl,rfl⟩,rfl⟩
   refine on rfl (oZ rfl (jT rfl (oE rfl (zm [.bx g1 213 (.agg [dP g1 0,.ov bv20]),.sl bv20 1 5 ((bs++[(34:UInt8)]).map dU8)] [.it g3 s p] [] rfl rfl (.cons ArgC.id .nil) zg Tryz.call173 (String_c g1 (.pointer (some ⟨g1,0,none⟩)) bv20 (bs++[(34:UInt8)]) (by simp)) (.inl rfl)) ?_)))
   rintro _ _ ⟨_,⟨rfl,rfl⟩,rfl⟩
   refine on rfl (oR 1 rfl (oZ rfl (zn rfl ?_)))
   exact zh Tryz.results148 (.cons (zx (zl rfl) (Cv.eq (congrArg D.s (by rw[zbp hge,List.append_nil] at hq;rw[←hq];rfl)))) .nil) rfl HSub.none ⟨rfl,rfl⟩
end Lp
set_option linter.unusedVariables false
namespace Lp
open Go Go.RowKit
section
variable {P:Program} {N:Nat} {C:Ctx} {c:Code} {K:Kd} {H:List Hp} {Q:zaH}
theorem zct {G:Type} (L:G→Kd) (HI:G→List Hp) (I:G→Prop) (h:∀ Q':zaH,(∀ g,I g→PD C Q' .normal (L g) (HI g))→JD P N C c K H Q') (next:∀ g,I g→PD C Q .normal (L g) (HI g)):JD P N C c K H Q:=h Q next
theorem jd_joinr {G:Type} (L:G→Kd) (HI:G→List Hp) (I:G→Prop) (h:∀ Q':zaH,(∀ g,I g→PD C Q' .normal (L g) (HI g))→(∀ K H,PD C Q .ret K H→PD C Q' .ret K H)→JD P N C c K H Q') (next:∀ g,I g→PD C Q .normal (L g) (HI g)):JD P N C c K H Q:=h Q next (fun _ _ k=>k)
end
section
variable {P:Program} {ty:TypeId} {K:Kd} {H:List Hp}
theorem p_makeFunc {f:FuncId} {xs ys:Array Operand} {ds es:List D} (hx:opsD K xs.toList=some ds) (hy:opsD K ys.toList=some es):Pu P (.makeFunc (.func f) xs ys) ty K H (.fn f ds es):=
 ⟨fun ρ w F hk _ _=>by
  have h1:=zb8 hk hx
  have h2:=zb8 hk hy
  refine EOp.of_run (v:=.func (.func f) (xs.map (ev ρ)) (ys.map (ev ρ))) (w':=w) ?_ ⟨rfl,xs.toList.map (ev ρ),ys.toList.map (ev ρ),?_,h1,h2⟩
  · simp[execOp,Instr.makeFunc,Sem.run_pure,zas]
  · congr 1<;>(apply Array.ext';simp)⟩
end
end Lp
set_option linter.unusedVariables false
namespace Lp
open Go Go.RowKit
theorem Qu.ef {P:Program} {op:Op} {ty:TypeId} {K:Kd} {H:List Hp} {d:D} (h:Qu P op ty K H d):Ef P op ty K H (fun d' H'=>d'=d∧H'=H):=⟨fun C ρ w F hk g=>(h.out ρ w F hk g.flt g.h.ok).mono fun u w' ⟨E,hr⟩=>by
 obtain ⟨g',k⟩:=g.fn E
 exact⟨_,d,H,⟨rfl,rfl⟩,hr,g',k⟩⟩
section
variable {P:Program} {ty:TypeId} {K:Kd} {H:List Hp}
end
section
variable {P:Program} {ty:TypeId} {K:Kd} {H:List Hp} {α:Type} {f:α→D}
end
end Lp
set_option linter.unusedVariables false
namespace Lp
open Go Go.RowKit
variable {P:Program} {ty:TypeId} {K:Kd} {H:List Hp}
structure Kp (α:Type) where
 v:Value
 l:List α
structure K2 (α:Type) where
 v0:Value
 v:Value
 m:Nat
 l:List α
abbrev Kp.d {α:Type} (p:Kp α):D:=.ov p.v
abbrev Kp.h {α:Type} (z:Nat) (T:TypeId) (f:α→D) (p:Kp α):Hp:=.sl p.v z T (p.l.map f)
abbrev K2.d0 {α:Type} (p:K2 α):D:=.ov p.v0
abbrev K2.d1 {α:Type} (p:K2 α):D:=.ov p.v
abbrev K2.h {α:Type} (z:Nat) (T:TypeId) (f:α→D) (p:K2 α):Hp:=.sl2 p.v0 p.v z T p.m (p.l.map f)
theorem zeE {α β:Type} {A:List Hp} {h:α→Hp} {g:β→Hp} {P:List β} {K R:List α} {x:α} (e:K=x::R):HSub (A++(P.map g++K.map h)) (h x::A++(P.map g++R.map h)):=by
 subst e
 refine HSub.perm ?_
 rw[List.map_cons,←List.append_assoc,←List.append_assoc]
 exact List.perm_middle
theorem zeR {α β:Type} {A:List Hp} {h:α→Hp} {g:β→Hp} {P:List β} {R:List α} {y:β}:HSub (g y::A++(P.map g++R.map h)) (A++((P++[y]).map g++R.map h)):=by
 refine HSub.perm ?_
 rw[List.map_append,List.map_cons,List.map_nil,List.append_assoc,List.singleton_append,←List.append_assoc,←List.append_assoc]
 exact List.perm_middle.symm
theorem zeF {α β:Type} {h:α→Hp} {g:β→Hp} {P Q:List β} {R:List α} {A:List Hp} (e:R=[]) (e2:P=Q):A++(P.map g++R.map h)=A++Q.map g:=by subst e;subst e2;simp
theorem zbT {A B T:List Hp}:((A++B)++T).Perm ((A++T)++B):=by
 rw[List.append_assoc,List.append_assoc]
 exact List.perm_append_comm.append_left A
theorem put_next {α:Type} {m l:List α} {k:Nat} {y:α} (hm:m[k]?=some y) (hl:l.length=m.length):(m.take k++l.drop k).set k y=m.take (k+1)++l.drop (k+1):=by
 have hk:=zeG hm
 rw[List.set_append_right _ _ (by rw[List.length_take];omega),List.length_take,Nat.min_eq_left (by omega),Nat.sub_self,List.drop_eq_getElem_cons (by omega),List.set_cons_zero,zaI hm,List.append_assoc]
 rfl
theorem p_len_own2 {t e:TypeId} {x:Operand} {z n m j:Nat} {v0 v:Value} {T:TypeId} {xs:List D} (hx:opO K x=some v) (hm:nth H j=some (.sl2 v0 v z T m xs)) (ht:∀ w,(underlying t).run P w=.ok (.slice e) w) (hn:xs.length=n):Pu P (.call { callee:=.builtin .len,args:=#[x],argTypes:=#[t] }) ty K H (.v (.int .i64 (n:Int))):=
 ⟨fun ρ w F hk _ hH=>by
  obtain ⟨us,hr,ho,_⟩:=hH _ (zaj hm)
  exact zeS (n:=n) (zA ρ [x]) (opv1 ρ (hk.opO hx)) ht (by have:=ho.len;rw[hr.len,hn] at this;exact this) ⟨rfl,rfl⟩⟩
theorem p_len_own0 {t e:TypeId} {x:Operand} {z n m j:Nat} {v0 v:Value} {T:TypeId} {xs:List D} (hx:opO K x=some v0) (hm:nth H j=some (.sl2 v0 v z T m xs)) (ht:∀ w,(underlying t).run P w=.ok (.slice e) w) (hn:(xs.take m).length=n):Pu P (.call { callee:=.builtin .len,args:=#[x],argTypes:=#[t] }) ty K H (.v (.int .i64 (n:Int))):=
 ⟨fun ρ w F hk _ hH=>by
  obtain ⟨us,hr,_,ho,_⟩:=hH _ (zaj hm)
  exact zeS (n:=n) (zA ρ [x]) (opv1 ρ (hk.opO hx)) ht (by have:=ho.len;rw[List.length_take,hr.len,←List.length_take,hn] at this;exact this) ⟨rfl,rfl⟩⟩
end Lp
