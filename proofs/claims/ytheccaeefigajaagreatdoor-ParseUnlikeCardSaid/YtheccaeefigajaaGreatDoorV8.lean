import Derived.Test.YtheccaeefigajaaGreatDoorDJ
set_option linter.unusedSimpArgs false
set_option linter.unusedVariables false
set_option maxHeartbeats 4000000
set_option maxRecDepth 100000
namespace Lp
open Go Go.RowKit Go.Proofs
namespace HdYtheccaeefigajaaGreatDoorV8
theorem cv_21_241 {a:Int} (h:0≤a∧a≤4294967295):∀ w,(convert 21 241 (.int .i32 a)).run Tryz.prog w=.ok (.int .u32 a) w:=fun w=>by
 have e:IntKind.u32.wrap a=a:=by simp[IntKind.wrap,IntKind.bits,IntKind.signed];omega
 simp[convert,run_underlying (show Tryz.prog.underlying 21=some _ by kernel_rfl),run_underlying (show Tryz.prog.underlying 241=some _ by kernel_rfl),Conv.intToInt,e]
theorem zbh (b o:Nat):∀ w,(Instr.fieldAt 213 (.pointer (some ⟨b,o,none⟩)) 1).run Tryz.prog w=.ok (.pointer (some ⟨b,o+1,none⟩)) w:=fun _=>by kernel_rfl
theorem zdu:∃ i,Tryz.prog.info? 5=some i∧i.zero=some (.int .u8 0)∧i.size=1∧i.bytes=1:=zcA (by kernel_rfl)
theorem zcb:Tryz.prog.underlying 103=some (.slice 5):=by kernel_rfl
end HdYtheccaeefigajaaGreatDoorV8
open HdYtheccaeefigajaaGreatDoorV8
theorem zbi (a:Nat):∀ w,(convert 21 5 (.int .i32 (a:Int))).run Tryz.prog w=.ok (.int .u8 ((a % 256:Nat):Int)) w:=fun w=>by
 have e:IntKind.u8.wrap (a:Int)=((a % 256:Nat):Int):=by simp[IntKind.wrap,IntKind.bits,IntKind.signed]
 simp[convert,run_underlying (show Tryz.prog.underlying 21=some _ by kernel_rfl),run_underlying (show Tryz.prog.underlying 5=some _ by kernel_rfl),Conv.intToInt,e]
theorem appNA_c (v:Value) (bs:List UInt8) (x:Nat) (h1:127<x) (h2:x<2147483648) (hl:bs.length≤1000000000000):
 CD Tryz.prog 215 [.sl v 1 5 (bs.map dU8)] [.ov v,.v (.int .i32 ((x:Nat):Int))] (fun r H'=>∃ v',r=.ov v'∧H'=[.sl v' 1 5 ((bs++encR x).map dU8)]):=by
 refine zq Tryz.func215 J (N:=78) J J (fun C=>?_)
 refine jk [0,1] J (jT J (oR 1 J (oZ J (jT J (oR 1 J (oP J (zbC J (c:=((x:Nat):Int)) (cv_21_241 (by omega))) (oR 1 rfl (oZ rfl (jB rfl (jT rfl (oR 1 rfl (oP rfl (zbN rfl rfl rfl) (oR 1 rfl (oZ rfl ?_))))))))))))))
 refine jD J (fun hc1=>?_) (fun hc1=>?_)
 · skip
   refine jT J (oR 2 J (oP J (zd4 (a:=x) (n:=6) (m:=64) J J (by decide) (by decide)) (oP rfl (zbC rfl (c:=(((x / 64) % 256:Nat):Int)) (zbi _)) (oP rfl (zdb (a:=192) (b:=(x / 64) % 256) rfl rfl (by decide) (by omega) (or192 _ (by omega))) (oR 1 rfl (oP rfl (zbC rfl (c:=((x % 256:Nat):Int)) (zbi _)) (oP rfl (zda (a:=x % 256) (b:=63) rfl rfl (by omega) (by decide) (zep _)) (oP rfl (zdb (a:=128) (b:=(x % 256) % 64) rfl rfl (by decide) (by omega) (zeh _ (by omega))) (oE rfl (zV [.tmp 18,.tmp 22] rfl rfl (.cons (CellD.v rfl) (.cons (CellD.v rfl) .nil)) rfl Tryz.runUnderlying103 Tryz.sizeOf5 Tryz.zeroValue5 rfl rfl rfl rfl) ?_)))))))))
   rintro _ _ ⟨g2,rfl,rfl⟩
   refine OpsD.subH (HSub.turn (h':=.sl (vS g2 2 2) 1 5 ([(UInt8.ofNat (192+((x / 64) % 256))),(UInt8.ofNat (128+((x % 256) % 64)))].map dU8)) J (Hp.cvs_sl (.cons (Cv.eq (zcX J (by omega))) (.cons (Cv.eq (zcX rfl (by omega))) .nil)))) (oE rfl (zan (f:=dU8) (l:=bs) (l':=[(UInt8.ofNat (192+((x / 64) % 256))),(UInt8.ofNat (128+((x % 256) % 64)))]) (i:=1) rfl rfl rfl (SrcD.own (j:=0) rfl rfl) zcb zdu rfl rfl (by unfold maxLen;(try simp only[la,lc,ln,lm,lt',ld,ls,lr]);omega) (by (try simp only[la,lc,ln,lm,lt',ld,ls,lr]);omega)) ?_)
   rintro _ _ ⟨v3,rfl,rfl⟩
   refine on J (oR 1 J (oZ J (jk [4] J (zo J (zm (PD.subH (HSub.perm (zd (i:=1) J)) (pn J (PD.norm [.sl v3 1 5 ((bs++encR x).map dU8),.sl (vS g2 2 2) 1 5 ([(UInt8.ofNat (192+((x / 64) % 256))),(UInt8.ofNat (128+((x % 256) % 64)))].map dU8)] (by first | (exfalso;omega) | skip;unfold encR;first | rw[if_neg (by omega),if_pos (by omega)] | rw[if_neg (by omega),if_neg (by omega),if_pos (by omega)] | rw[if_neg (by omega),if_neg (by omega),if_neg (by omega),if_pos (by omega)] | rw[if_neg (by omega),if_neg (by omega),if_neg (by omega),if_neg (by omega)]) ?_))))))))
   exact zi Tryz.results215 (.cons (zl J) .nil) J (HSub.fst 1 J) ⟨v3,J,J⟩
 · skip
   refine jS J (jT J (oR 1 J (oP J (za2 J J J) (oR 1 J (oZ J ?_)))))
   refine jD J (fun hc4=>?_) (fun hc4=>?_)
   · skip
     refine zp J (zn ?_)
     refine jD J (fun hc5=>?_) (fun hc5=>?_)
     · skip
       refine jT J (oR 2 J (oP J (zd4 (a:=x) (n:=12) (m:=4096) J J (by decide) (by decide)) (oP rfl (zbC rfl (c:=(((x / 4096) % 256:Nat):Int)) (zbi _)) (oP rfl (zdb (a:=224) (b:=(x / 4096) % 256) rfl rfl (by decide) (by omega) (or224 _ (by omega))) (oR 1 rfl (oP rfl (zd4 (a:=x) (n:=6) (m:=64) rfl rfl (by decide) (by decide)) (oP rfl (zbC rfl (c:=(((x / 64) % 256:Nat):Int)) (zbi _)) (oP rfl (zda (a:=(x / 64) % 256) (b:=63) rfl rfl (by omega) (by decide) (zep _)) (oP rfl (zdb (a:=128) (b:=((x / 64) % 256) % 64) rfl rfl (by decide) (by omega) (zeh _ (by omega))) (oR 1 rfl (oP rfl (zbC rfl (c:=((x % 256:Nat):Int)) (zbi _)) (oP rfl (zda (a:=x % 256) (b:=63) rfl rfl (by omega) (by decide) (zep _)) (oP rfl (zdb (a:=128) (b:=(x % 256) % 64) rfl rfl (by decide) (by omega) (zeh _ (by omega))) (oE rfl (zV [.tmp 38,.tmp 43,.tmp 47] rfl rfl (.cons (CellD.v rfl) (.cons (CellD.v rfl) (.cons (CellD.v rfl) .nil))) rfl Tryz.runUnderlying103 Tryz.sizeOf5 Tryz.zeroValue5 rfl rfl rfl rfl) ?_))))))))))))))
       rintro _ _ ⟨g6,rfl,rfl⟩
       refine OpsD.subH (HSub.turn (h':=.sl (vS g6 3 3) 1 5 ([(UInt8.ofNat (224+((x / 4096) % 256))),(UInt8.ofNat (128+(((x / 64) % 256) % 64))),(UInt8.ofNat (128+((x % 256) % 64)))].map dU8)) J (Hp.cvs_sl (.cons (Cv.eq (zcX J (by omega))) (.cons (Cv.eq (zcX rfl (by omega))) (.cons (Cv.eq (zcX rfl (by omega))) .nil))))) (oE rfl (zan (f:=dU8) (l:=bs) (l':=[(UInt8.ofNat (224+((x / 4096) % 256))),(UInt8.ofNat (128+(((x / 64) % 256) % 64))),(UInt8.ofNat (128+((x % 256) % 64)))]) (i:=1) rfl rfl rfl (SrcD.own (j:=0) rfl rfl) zcb zdu rfl rfl (by unfold maxLen;(try simp only[la,lc,ln,lm,lt',ld,ls,lr]);omega) (by (try simp only[la,lc,ln,lm,lt',ld,ls,lr]);omega)) ?_)
       rintro _ _ ⟨v7,rfl,rfl⟩
       refine on J (oR 1 J (oZ J (jk [4] J (zo J (zm (PD.subH (HSub.perm (zd (i:=1) J)) (pn J (PD.norm [.sl v7 1 5 ((bs++encR x).map dU8),.sl (vS g6 3 3) 1 5 ([(UInt8.ofNat (224+((x / 4096) % 256))),(UInt8.ofNat (128+(((x / 64) % 256) % 64))),(UInt8.ofNat (128+((x % 256) % 64)))].map dU8)] (by first | (exfalso;omega) | skip;unfold encR;first | rw[if_neg (by omega),if_pos (by omega)] | rw[if_neg (by omega),if_neg (by omega),if_pos (by omega)] | rw[if_neg (by omega),if_neg (by omega),if_neg (by omega),if_pos (by omega)] | rw[if_neg (by omega),if_neg (by omega),if_neg (by omega),if_neg (by omega)]) ?_))))))))
       exact zi Tryz.results215 (.cons (zl J) .nil) J (HSub.fst 1 J) ⟨v7,J,J⟩
     · skip
       refine jS J (jk [0,1,4,5] J ?_)
       refine zac 50 ((decide ((65535:Int)<((x:Nat):Int))&&decide (((x:Nat):Int)≤(1114111:Int)))) [.sl v 1 5 (bs.map dU8)] (fun _ hQ8=>?_) ?_
       · skip
         by_cases hg9:(65535:Int)<((x:Nat):Int)
         · skip
           refine zf J (oR 1 J (oP J (zbg J J (decide_eq_true hg9)) (oR 2 J (oG J (zbN J J J) (oR 2 J (zr J ?_))))))
           exact PD.sub ((50,dB (decide ((65535:Int)<((x:Nat):Int))&&decide (((x:Nat):Int)≤(1114111:Int))))::[(0,.ov v),(1,.v (.int .i32 ((x:Nat):Int))),(4,dZ),(5,.v (.int .u32 ((x:Nat):Int)))]) ⟨sc J (Cv.eq (congrArg (fun b=>D.v (.bool b)) (by first | (simp[hc1,hc5,hg9];done) | (simp_all;done)))),sk rfl,sk rfl,sk rfl,sk rfl,trivial⟩ hQ8
         · skip
           refine zf J (oR 1 J (oP J (zbg J J (decide_eq_false hg9)) (oR 5 J (zr J ?_))))
           exact PD.sub ((50,dB (decide ((65535:Int)<((x:Nat):Int))&&decide (((x:Nat):Int)≤(1114111:Int))))::[(0,.ov v),(1,.v (.int .i32 ((x:Nat):Int))),(4,dZ),(5,.v (.int .u32 ((x:Nat):Int)))]) ⟨sc J (Cv.eq (congrArg (fun b=>D.v (.bool b)) (by first | (simp[hc1,hc5,hg9];done) | (simp_all;done)))),sk rfl,sk rfl,sk rfl,sk rfl,trivial⟩ hQ8
       · skip
         refine zn ?_
         refine jC J (fun hc10=>?_) (fun hc10=>?_)
         · simp only[bA,bB,bC,bD,bE,bF,bG,bH,bI,bJ] at hc10
           refine jT J (oR 2 J (oP J (zd4 (a:=x) (n:=18) (m:=262144) J J (by decide) (by decide)) (oP rfl (zbC rfl (c:=(((x / 262144) % 256:Nat):Int)) (zbi _)) (oP rfl (zdb (a:=240) (b:=(x / 262144) % 256) rfl rfl (by decide) (by omega) (or240 _ (by omega))) (oR 1 rfl (oP rfl (zd4 (a:=x) (n:=12) (m:=4096) rfl rfl (by decide) (by decide)) (oP rfl (zbC rfl (c:=(((x / 4096) % 256:Nat):Int)) (zbi _)) (oP rfl (zda (a:=(x / 4096) % 256) (b:=63) rfl rfl (by omega) (by decide) (zep _)) (oP rfl (zdb (a:=128) (b:=((x / 4096) % 256) % 64) rfl rfl (by decide) (by omega) (zeh _ (by omega))) (oR 1 rfl (oP rfl (zd4 (a:=x) (n:=6) (m:=64) rfl rfl (by decide) (by decide)) (oP rfl (zbC rfl (c:=(((x / 64) % 256:Nat):Int)) (zbi _)) (oP rfl (zda (a:=(x / 64) % 256) (b:=63) rfl rfl (by omega) (by decide) (zep _)) (oP rfl (zdb (a:=128) (b:=((x / 64) % 256) % 64) rfl rfl (by decide) (by omega) (zeh _ (by omega))) (oR 1 rfl (oP rfl (zbC rfl (c:=((x % 256:Nat):Int)) (zbi _)) (oP rfl (zda (a:=x % 256) (b:=63) rfl rfl (by omega) (by decide) (zep _)) (oP rfl (zdb (a:=128) (b:=(x % 256) % 64) rfl rfl (by decide) (by omega) (zeh _ (by omega))) ?_))))))))))))))))))
           refine oE J (zV [.tmp 61,.tmp 66,.tmp 71,.tmp 75] J J (.cons (CellD.v J) (.cons (CellD.v J) (.cons (CellD.v J) (.cons (CellD.v J) .nil)))) J Tryz.runUnderlying103 Tryz.sizeOf5 Tryz.zeroValue5 J J J J) ?_
           rintro _ _ ⟨g11,rfl,rfl⟩
           refine OpsD.subH (HSub.turn (h':=.sl (vS g11 4 4) 1 5 ([(UInt8.ofNat (240+((x / 262144) % 256))),(UInt8.ofNat (128+(((x / 4096) % 256) % 64))),(UInt8.ofNat (128+(((x / 64) % 256) % 64))),(UInt8.ofNat (128+((x % 256) % 64)))].map dU8)) J (Hp.cvs_sl (.cons (Cv.eq (zcX J (by omega))) (.cons (Cv.eq (zcX rfl (by omega))) (.cons (Cv.eq (zcX rfl (by omega))) (.cons (Cv.eq (zcX rfl (by omega))) .nil)))))) (oE rfl (zan (f:=dU8) (l:=bs) (l':=[(UInt8.ofNat (240+((x / 262144) % 256))),(UInt8.ofNat (128+(((x / 4096) % 256) % 64))),(UInt8.ofNat (128+(((x / 64) % 256) % 64))),(UInt8.ofNat (128+((x % 256) % 64)))]) (i:=1) rfl rfl rfl (SrcD.own (j:=0) rfl rfl) zcb zdu rfl rfl (by unfold maxLen;(try simp only[la,lc,ln,lm,lt',ld,ls,lr]);omega) (by (try simp only[la,lc,ln,lm,lt',ld,ls,lr]);omega)) ?_)
           rintro _ _ ⟨v12,rfl,rfl⟩
           refine on J (oR 1 J (oZ J (jk [4] J (zo J (zm (PD.subH (HSub.perm (zd (i:=1) J)) (pn J (PD.norm [.sl v12 1 5 ((bs++encR x).map dU8),.sl (vS g11 4 4) 1 5 ([(UInt8.ofNat (240+((x / 262144) % 256))),(UInt8.ofNat (128+(((x / 4096) % 256) % 64))),(UInt8.ofNat (128+(((x / 64) % 256) % 64))),(UInt8.ofNat (128+((x % 256) % 64)))].map dU8)] (by first | (exfalso;omega) | skip;unfold encR;first | rw[if_neg (by omega),if_pos (by omega)] | rw[if_neg (by omega),if_neg (by omega),if_pos (by omega)] | rw[if_neg (by omega),if_neg (by omega),if_neg (by omega),if_pos (by omega)] | rw[if_neg (by omega),if_neg (by omega),if_neg (by omega),if_neg (by omega)]) ?_))))))))
           exact zi Tryz.results215 (.cons (zl J) .nil) J (HSub.fst 1 J) ⟨v12,J,J⟩
         · simp only[bA,bB,bC,bD,bE,bF,bG,bH,bI,bJ] at hc10
           refine jT J (oR 1 J (oE J (zV [.const (.int .u8 239),.const (.int .u8 191),.const (.int .u8 189)] J J (.cons (CellD.v J) (.cons (CellD.v J) (.cons (CellD.v J) .nil))) J Tryz.runUnderlying103 Tryz.sizeOf5 Tryz.zeroValue5 J J J J) ?_))
           rintro _ _ ⟨g13,rfl,rfl⟩
           refine oE J (zan (f:=dU8) (l:=bs) (l':=[(239:UInt8),(191:UInt8),(189:UInt8)]) (i:=1) J J J (SrcD.own (j:=0) J J) zcb zdu J J (by unfold maxLen;(try simp only[la,lc,ln,lm,lt',ld,ls,lr]);omega) (by (try simp only[la,lc,ln,lm,lt',ld,ls,lr]);omega)) ?_
           rintro _ _ ⟨v14,rfl,rfl⟩
           refine on J (oR 1 J (oZ J (zo J (zm (PD.subH (HSub.perm (zd (i:=1) J)) (pn J (PD.norm [.sl v14 1 5 ((bs++encR x).map dU8),.sl (vS g13 3 3) 1 5 ([.v (.int .u8 239),.v (.int .u8 191),.v (.int .u8 189)])] (by first | (exfalso;omega) | skip;unfold encR;first | rw[if_neg (by omega),if_pos (by omega)] | rw[if_neg (by omega),if_neg (by omega),if_pos (by omega)] | rw[if_neg (by omega),if_neg (by omega),if_neg (by omega),if_pos (by omega)] | rw[if_neg (by omega),if_neg (by omega),if_neg (by omega),if_neg (by omega)]) ?_)))))))
           exact zi Tryz.results215 (.cons (zl J) .nil) J (HSub.fst 1 J) ⟨v14,J,J⟩
   · skip
     refine jk [0,1,4,5] J ?_
     refine zac 25 ((decide ((57343:Int)<((x:Nat):Int))&&decide (((x:Nat):Int)≤(65535:Int)))) [.sl v 1 5 (bs.map dU8)] (fun _ hQ15=>?_) ?_
     · skip
       by_cases hg16:(57343:Int)<((x:Nat):Int)
       · skip
         refine zf J (oR 1 J (oP J (za2 J J (decide_eq_true hg16)) (oR 2 J (oG J (zbN J J J) (oR 2 J (zr J ?_))))))
         exact PD.sub ((25,dB (decide ((57343:Int)<((x:Nat):Int))&&decide (((x:Nat):Int)≤(65535:Int))))::[(0,.ov v),(1,.v (.int .i32 ((x:Nat):Int))),(4,dZ),(5,.v (.int .u32 ((x:Nat):Int)))]) ⟨sc J (Cv.eq (congrArg (fun b=>D.v (.bool b)) (by first | (simp[hc1,hc4,hg16];done) | (simp_all;done)))),sk rfl,sk rfl,sk rfl,sk rfl,trivial⟩ hQ15
       · skip
         refine zf J (oR 1 J (oP J (za2 J J (decide_eq_false hg16)) (oR 5 J (zr J ?_))))
         exact PD.sub ((25,dB (decide ((57343:Int)<((x:Nat):Int))&&decide (((x:Nat):Int)≤(65535:Int))))::[(0,.ov v),(1,.v (.int .i32 ((x:Nat):Int))),(4,dZ),(5,.v (.int .u32 ((x:Nat):Int)))]) ⟨sc J (Cv.eq (congrArg (fun b=>D.v (.bool b)) (by first | (simp[hc1,hc4,hg16];done) | (simp_all;done)))),sk rfl,sk rfl,sk rfl,sk rfl,trivial⟩ hQ15
     · skip
       refine zn ?_
       refine jC J (fun hc17=>?_) (fun hc17=>?_)
       · simp only[bA,bB,bC,bD,bE,bF,bG,bH,bI,bJ] at hc17
         refine jT J (oR 2 J (oP J (zd4 (a:=x) (n:=12) (m:=4096) J J (by decide) (by decide)) (oP rfl (zbC rfl (c:=(((x / 4096) % 256:Nat):Int)) (zbi _)) (oP rfl (zdb (a:=224) (b:=(x / 4096) % 256) rfl rfl (by decide) (by omega) (or224 _ (by omega))) (oR 1 rfl (oP rfl (zd4 (a:=x) (n:=6) (m:=64) rfl rfl (by decide) (by decide)) (oP rfl (zbC rfl (c:=(((x / 64) % 256:Nat):Int)) (zbi _)) (oP rfl (zda (a:=(x / 64) % 256) (b:=63) rfl rfl (by omega) (by decide) (zep _)) (oP rfl (zdb (a:=128) (b:=((x / 64) % 256) % 64) rfl rfl (by decide) (by omega) (zeh _ (by omega))) (oR 1 rfl (oP rfl (zbC rfl (c:=((x % 256:Nat):Int)) (zbi _)) (oP rfl (zda (a:=x % 256) (b:=63) rfl rfl (by omega) (by decide) (zep _)) (oP rfl (zdb (a:=128) (b:=(x % 256) % 64) rfl rfl (by decide) (by omega) (zeh _ (by omega))) (oE rfl (zV [.tmp 38,.tmp 43,.tmp 47] rfl rfl (.cons (CellD.v rfl) (.cons (CellD.v rfl) (.cons (CellD.v rfl) .nil))) rfl Tryz.runUnderlying103 Tryz.sizeOf5 Tryz.zeroValue5 rfl rfl rfl rfl) ?_))))))))))))))
         rintro _ _ ⟨g18,rfl,rfl⟩
         refine OpsD.subH (HSub.turn (h':=.sl (vS g18 3 3) 1 5 ([(UInt8.ofNat (224+((x / 4096) % 256))),(UInt8.ofNat (128+(((x / 64) % 256) % 64))),(UInt8.ofNat (128+((x % 256) % 64)))].map dU8)) J (Hp.cvs_sl (.cons (Cv.eq (zcX J (by omega))) (.cons (Cv.eq (zcX rfl (by omega))) (.cons (Cv.eq (zcX rfl (by omega))) .nil))))) (oE rfl (zan (f:=dU8) (l:=bs) (l':=[(UInt8.ofNat (224+((x / 4096) % 256))),(UInt8.ofNat (128+(((x / 64) % 256) % 64))),(UInt8.ofNat (128+((x % 256) % 64)))]) (i:=1) rfl rfl rfl (SrcD.own (j:=0) rfl rfl) zcb zdu rfl rfl (by unfold maxLen;(try simp only[la,lc,ln,lm,lt',ld,ls,lr]);omega) (by (try simp only[la,lc,ln,lm,lt',ld,ls,lr]);omega)) ?_)
         rintro _ _ ⟨v19,rfl,rfl⟩
         refine on J (oR 1 J (oZ J (jk [4] J (zo J (zm (PD.subH (HSub.perm (zd (i:=1) J)) (pn J (PD.norm [.sl v19 1 5 ((bs++encR x).map dU8),.sl (vS g18 3 3) 1 5 ([(UInt8.ofNat (224+((x / 4096) % 256))),(UInt8.ofNat (128+(((x / 64) % 256) % 64))),(UInt8.ofNat (128+((x % 256) % 64)))].map dU8)] (by first | (exfalso;omega) | skip;unfold encR;first | rw[if_neg (by omega),if_pos (by omega)] | rw[if_neg (by omega),if_neg (by omega),if_pos (by omega)] | rw[if_neg (by omega),if_neg (by omega),if_neg (by omega),if_pos (by omega)] | rw[if_neg (by omega),if_neg (by omega),if_neg (by omega),if_neg (by omega)]) ?_))))))))
         exact zi Tryz.results215 (.cons (zl J) .nil) J (HSub.fst 1 J) ⟨v19,J,J⟩
       · simp only[bA,bB,bC,bD,bE,bF,bG,bH,bI,bJ] at hc17
         refine jS J (jk [0,1,4,5] J ?_)
         refine zac 50 ((decide ((65535:Int)<((x:Nat):Int))&&decide (((x:Nat):Int)≤(1114111:Int)))) [.sl v 1 5 (bs.map dU8)] (fun _ hQ20=>?_) ?_
         · skip
           by_cases hg21:(65535:Int)<((x:Nat):Int)
           · skip
             refine zf J (oR 1 J (oP J (zbg J J (decide_eq_true hg21)) (oR 2 J (oG J (zbN J J J) (oR 2 J (zr J ?_))))))
             exact PD.sub ((50,dB (decide ((65535:Int)<((x:Nat):Int))&&decide (((x:Nat):Int)≤(1114111:Int))))::[(0,.ov v),(1,.v (.int .i32 ((x:Nat):Int))),(4,dZ),(5,.v (.int .u32 ((x:Nat):Int)))]) ⟨sc J (Cv.eq (congrArg (fun b=>D.v (.bool b)) (by first | (simp[hc1,hc4,hg21];done) | (simp_all;done)))),sk rfl,sk rfl,sk rfl,sk rfl,trivial⟩ hQ20
           · skip
             refine zf J (oR 1 J (oP J (zbg J J (decide_eq_false hg21)) (oR 5 J (zr J ?_))))
             exact PD.sub ((50,dB (decide ((65535:Int)<((x:Nat):Int))&&decide (((x:Nat):Int)≤(1114111:Int))))::[(0,.ov v),(1,.v (.int .i32 ((x:Nat):Int))),(4,dZ),(5,.v (.int .u32 ((x:Nat):Int)))]) ⟨sc J (Cv.eq (congrArg (fun b=>D.v (.bool b)) (by first | (simp[hc1,hc4,hg21];done) | (simp_all;done)))),sk rfl,sk rfl,sk rfl,sk rfl,trivial⟩ hQ20
         · skip
           refine zn ?_
           refine jC J (fun hc22=>?_) (fun hc22=>?_)
           · simp only[bA,bB,bC,bD,bE,bF,bG,bH,bI,bJ] at hc22
             refine jT J (oR 2 J (oP J (zd4 (a:=x) (n:=18) (m:=262144) J J (by decide) (by decide)) (oP rfl (zbC rfl (c:=(((x / 262144) % 256:Nat):Int)) (zbi _)) (oP rfl (zdb (a:=240) (b:=(x / 262144) % 256) rfl rfl (by decide) (by omega) (or240 _ (by omega))) (oR 1 rfl (oP rfl (zd4 (a:=x) (n:=12) (m:=4096) rfl rfl (by decide) (by decide)) (oP rfl (zbC rfl (c:=(((x / 4096) % 256:Nat):Int)) (zbi _)) (oP rfl (zda (a:=(x / 4096) % 256) (b:=63) rfl rfl (by omega) (by decide) (zep _)) (oP rfl (zdb (a:=128) (b:=((x / 4096) % 256) % 64) rfl rfl (by decide) (by omega) (zeh _ (by omega))) (oR 1 rfl (oP rfl (zd4 (a:=x) (n:=6) (m:=64) rfl rfl (by decide) (by decide)) (oP rfl (zbC rfl (c:=(((x / 64) % 256:Nat):Int)) (zbi _)) (oP rfl (zda (a:=(x / 64) % 256) (b:=63) rfl rfl (by omega) (by decide) (zep _)) (oP rfl (zdb (a:=128) (b:=((x / 64) % 256) % 64) rfl rfl (by decide) (by omega) (zeh _ (by omega))) (oR 1 rfl (oP rfl (zbC rfl (c:=((x % 256:Nat):Int)) (zbi _)) (oP rfl (zda (a:=x % 256) (b:=63) rfl rfl (by omega) (by decide) (zep _)) (oP rfl (zdb (a:=128) (b:=(x % 256) % 64) rfl rfl (by decide) (by omega) (zeh _ (by omega))) ?_))))))))))))))))))
             refine oE J (zV [.tmp 61,.tmp 66,.tmp 71,.tmp 75] J J (.cons (CellD.v J) (.cons (CellD.v J) (.cons (CellD.v J) (.cons (CellD.v J) .nil)))) J Tryz.runUnderlying103 Tryz.sizeOf5 Tryz.zeroValue5 J J J J) ?_
             rintro _ _ ⟨g23,rfl,rfl⟩
             refine OpsD.subH (HSub.turn (h':=.sl (vS g23 4 4) 1 5 ([(UInt8.ofNat (240+((x / 262144) % 256))),(UInt8.ofNat (128+(((x / 4096) % 256) % 64))),(UInt8.ofNat (128+(((x / 64) % 256) % 64))),(UInt8.ofNat (128+((x % 256) % 64)))].map dU8)) J (Hp.cvs_sl (.cons (Cv.eq (zcX J (by omega))) (.cons (Cv.eq (zcX rfl (by omega))) (.cons (Cv.eq (zcX rfl (by omega))) (.cons (Cv.eq (zcX rfl (by omega))) .nil)))))) (oE rfl (zan (f:=dU8) (l:=bs) (l':=[(UInt8.ofNat (240+((x / 262144) % 256))),(UInt8.ofNat (128+(((x / 4096) % 256) % 64))),(UInt8.ofNat (128+(((x / 64) % 256) % 64))),(UInt8.ofNat (128+((x % 256) % 64)))]) (i:=1) rfl rfl rfl (SrcD.own (j:=0) rfl rfl) zcb zdu rfl rfl (by unfold maxLen;(try simp only[la,lc,ln,lm,lt',ld,ls,lr]);omega) (by (try simp only[la,lc,ln,lm,lt',ld,ls,lr]);omega)) ?_)
             rintro _ _ ⟨v24,rfl,rfl⟩
             refine on J (oR 1 J (oZ J (jk [4] J (zo J (zm (PD.subH (HSub.perm (zd (i:=1) J)) (pn J (PD.norm [.sl v24 1 5 ((bs++encR x).map dU8),.sl (vS g23 4 4) 1 5 ([(UInt8.ofNat (240+((x / 262144) % 256))),(UInt8.ofNat (128+(((x / 4096) % 256) % 64))),(UInt8.ofNat (128+(((x / 64) % 256) % 64))),(UInt8.ofNat (128+((x % 256) % 64)))].map dU8)] (by first | (exfalso;omega) | skip;unfold encR;first | rw[if_neg (by omega),if_pos (by omega)] | rw[if_neg (by omega),if_neg (by omega),if_pos (by omega)] | rw[if_neg (by omega),if_neg (by omega),if_neg (by omega),if_pos (by omega)] | rw[if_neg (by omega),if_neg (by omega),if_neg (by omega),if_neg (by omega)]) ?_))))))))
             exact zi Tryz.results215 (.cons (zl J) .nil) J (HSub.fst 1 J) ⟨v24,J,J⟩
           · simp only[bA,bB,bC,bD,bE,bF,bG,bH,bI,bJ] at hc22
             refine jT J (oR 1 J (oE J (zV [.const (.int .u8 239),.const (.int .u8 191),.const (.int .u8 189)] J J (.cons (CellD.v J) (.cons (CellD.v J) (.cons (CellD.v J) .nil))) J Tryz.runUnderlying103 Tryz.sizeOf5 Tryz.zeroValue5 J J J J) ?_))
             rintro _ _ ⟨g25,rfl,rfl⟩
             refine oE J (zan (f:=dU8) (l:=bs) (l':=[(239:UInt8),(191:UInt8),(189:UInt8)]) (i:=1) J J J (SrcD.own (j:=0) J J) zcb zdu J J (by unfold maxLen;(try simp only[la,lc,ln,lm,lt',ld,ls,lr]);omega) (by (try simp only[la,lc,ln,lm,lt',ld,ls,lr]);omega)) ?_
             rintro _ _ ⟨v26,rfl,rfl⟩
             refine on J (oR 1 J (oZ J (zo J (zm (PD.subH (HSub.perm (zd (i:=1) J)) (pn J (PD.norm [.sl v26 1 5 ((bs++encR x).map dU8),.sl (vS g25 3 3) 1 5 ([.v (.int .u8 239),.v (.int .u8 191),.v (.int .u8 189)])] (by first | (exfalso;omega) | skip;unfold encR;first | rw[if_neg (by omega),if_pos (by omega)] | rw[if_neg (by omega),if_neg (by omega),if_pos (by omega)] | rw[if_neg (by omega),if_neg (by omega),if_neg (by omega),if_pos (by omega)] | rw[if_neg (by omega),if_neg (by omega),if_neg (by omega),if_neg (by omega)]) ?_)))))))
             exact zi Tryz.results215 (.cons (zl J) .nil) J (HSub.fst 1 J) ⟨v26,J,J⟩
theorem appR_c (v:Value) (bs:List UInt8) (x:Nat) (h2:x<2147483648) (hl:bs.length≤1000000000000):
 CD Tryz.prog 194 [.sl v 1 5 (bs.map dU8)] [.ov v,.v (.int .i32 ((x:Nat):Int))] (fun r H'=>∃ v',r=.ov v'∧H'=[.sl v' 1 5 ((bs++encR x).map dU8)]):=by
 refine zq Tryz.func194 J (N:=16) J J (fun C=>?_)
 refine jk [0,1] J (jT J (oR 1 J (oZ J (jS J (jT J (oR 1 J (oP J (zbC J (c:=((x:Nat):Int)) (cv_21_241 (by omega))) (oP rfl (zbN rfl rfl rfl) (oZ rfl ?_)))))))))
 refine jD J (fun hc1=>?_) (fun hc1=>?_)
 · skip
   refine jT J (oR 2 J (oP J (zbC J (c:=((x % 256:Nat):Int)) (zbi _)) (oE J (zV [.tmp 10] J J (.cons (CellD.v J) .nil) J Tryz.runUnderlying103 Tryz.sizeOf5 Tryz.zeroValue5 J J J J) ?_)))
   rintro _ _ ⟨g2,rfl,rfl⟩
   refine OpsD.subH (HSub.turn (h':=.sl (vS g2 1 1) 1 5 ([(UInt8.ofNat (x % 256))].map dU8)) J (Hp.cvs_sl (.cons (Cv.eq (zcX J (by omega))) .nil))) (oE rfl (zan (f:=dU8) (l:=bs) (l':=[(UInt8.ofNat (x % 256))]) (i:=1) rfl rfl rfl (SrcD.own (j:=0) rfl rfl) zcb zdu rfl rfl (by unfold maxLen;(try simp only[la,lc,ln,lm,lt',ld,ls,lr]);omega) (by (try simp only[la,lc,ln,lm,lt',ld,ls,lr]);omega)) ?_)
   rintro _ _ ⟨v3,rfl,rfl⟩
   refine on J (oR 1 J (oZ J (zo J (zj (PD.subH (HSub.perm (zd (i:=1) J)) (pn J (PD.norm [.sl v3 1 5 ((bs++encR x).map dU8),.sl (vS g2 1 1) 1 5 ([(UInt8.ofNat (x % 256))].map dU8)] (by unfold encR;rw[if_pos (by omega)]) ?_)))))))
   exact zi Tryz.results194 (.cons (zl J) .nil) J (HSub.fst 1 J) ⟨v3,J,J⟩
 · skip
   refine zp J (zn (jT J (oR 2 J (oE J (zk [.sl v 1 5 (bs.map dU8)] [] [] J J (.cons ArgC.id (.cons ArgC.id .nil)) zh Tryz.call215 (appNA_c v bs x (by omega) (by omega) (by (try simp only[la,lc,ln]);omega)) (.inl rfl)) ?_))))
   rintro _ _ ⟨_,⟨rv4,rfl,rfl⟩,rfl⟩
   refine on J (oR 1 J (oZ J (zo J ?_)))
   exact zi Tryz.results194 (.cons (zl J) .nil) J (HSub.fst 1 J) ⟨rv4,J,J⟩
theorem WriteRune_c (g:Nat) (p v:Value) (bs:List UInt8) (x:Nat) (hp:p=.pointer none∨p=.pointer (some ⟨g,0,none⟩)) (hl:bs.length≤1000000000000) (hx:x<2147483648):
 CD Tryz.prog 170 [.bx g 213 (.agg [.v p,.ov v]),.sl v 1 5 (bs.map dU8)] [dP g 0,.v (.int .i32 ((x:Nat):Int))] (fun r H'=>∃ v' n,r=.tup [dI n,.v .nilIface]∧H'=[.bx g 213 (.agg [dP g 0,.ov v']),.sl v' 1 5 ((bs++encR x).map dU8)]):=by
 refine zq Tryz.func170 J (N:=30) J J (fun C=>?_)
 refine jk [0,1] J ?_
 have hel:=zem x
 refine jT J (oR 2 J (oZ J (jT J (oR 1 J (oE J (zk [.bx g 213 (.agg [.v p,.ov v])] [.sl v 1 5 (bs.map dU8)] [] J J (.cons ArgC.id .nil) zh Tryz.call193 (copyCheck_c g p (.ov v) hp) (.inl J)) ?_)))))
 rintro _ _ ⟨_,⟨rfl,rfl⟩,rfl⟩
 refine on J (oZ J (jT J (oR 2 J (oP J (zc J zbh J) (oP J (ze J (i:=0) J Tryz.isAgg103 J) (oP J (zcc (n:=bs.length) (j:=1) J J Tryz.runUnderlying103 (List.length_map _)) (oR 1 J (oZ J (jT J (oR 3 J (oP J (zc J zbh J) (oP J (ze J (i:=0) J Tryz.isAgg103 J) (oR 1 J (OpsD.subH (HSub.perm (zd (i:=1) J)) (on J (oE J (zk [.sl v 1 5 (bs.map dU8)] [.bx g 213 (.agg [dP g 0,.ov v])] [] J J (.cons ArgC.id (.cons ArgC.id .nil)) zh Tryz.call194 (appR_c v bs x  (by omega) (by (try simp only[la,lc,ln]);omega)) (.inl rfl)) ?_))))))))))))))))
 rintro _ _ ⟨_,⟨rv1,rfl,rfl⟩,rfl⟩
 refine on J (oR 1 J (oP J (zc J zbh J) (oE J (zg (i:=1) (X':=.agg [dP g 0,.ov rv1]) J J J (CellD.o) Tryz.sizeOf103 J J J) ?_)))
 rintro _ _ ⟨rfl,rfl⟩
 refine on J (oZ J (jk [0,4,5,6] J (jT J (oR 2 J (oP J (zc J zbh J) (oP J (ze J (i:=1) J Tryz.isAgg103 J) (oP J (zcc (n:=(bs++encR x).length) (j:=0) J J Tryz.runUnderlying103 (List.length_map _)) (oR 1 J (oP J (zdp (c:=((((bs++encR x).length:Nat):Int)-((bs.length:Nat):Int))) J J (zaL (by omega) (by (try simp only[la]);omega))) (oR 2 rfl (oZ rfl (jk [4,5] rfl (zo rfl (PD.subH (HSub.perm (zd (i:=1) rfl)) (pn rfl ?_)))))))))))))))
 exact zi Tryz.results170 (.cons (zl J) (.cons (zl J) .nil)) J (HSub.fst 2 J) ⟨rv1,_,J,J⟩
theorem String_c (g:Nat) (p v:Value) (bs:List UInt8) (h0:bs≠[]):
 CD Tryz.prog 173 [.bx g 213 (.agg [.v p,.ov v]),.sl v 1 5 (bs.map dU8)] [dP g 0] (fun r H'=>r=.s ⟨bs.toArray⟩∧H'=[]):=by
 refine zq Tryz.func173 J (N:=14) J J (fun C=>?_)
 refine jk [0] J (jT J (oR 1 J (oZ J (jS J (jk [0,2] J (jn J (za4 10 [(3,dP g 0,none),(4,dP g 0,none),(5,dP g 1,none),(6,.ov v,none),(7,.v (.pointer (some ⟨bl v,0,none⟩)),none),(8,dP g 0,none),(9,dP g 0,none),(10,dP g 1,none),(11,.ov v,none),(12,dN bs.length,none)] [.bx g 213 (.agg [.v p,.ov v]),.sl v 1 5 (bs.map dU8)] (Hn:=[.bx g 213 (.agg [.v p,.ov v]),.sl v 1 5 (bs.map dU8)]) mixed J J J J HSub.rfl' J ⟨sa_p J J J (z7 J),sa_p J J J (zb8 J),sa_p J J J (zc J zbh J),sa_p J J J (ze J (i:=0) J Tryz.isAgg103 J),sa_p J J J (p_sliceData (i:=1) J J (by rw[List.length_map];exact List.length_pos_iff.2 h0)),sa_p rfl rfl rfl (z7 rfl),sa_p rfl rfl rfl (zb8 rfl),sa_p rfl rfl rfl (zc rfl zbh rfl),sa_p rfl rfl rfl (ze rfl (i:=0) rfl Tryz.isAgg103 rfl),sa_p rfl rfl rfl (zcc (n:=bs.length) (j:=1) rfl rfl Tryz.runUnderlying103 (List.length_map _)),trivial⟩ (ok [0,2,3,4,5,6,7,8,9,10,11,12] rfl (oE rfl (ef_unsafeString (i:=1) (bs:=bs) rfl rfl rfl rfl h0 (by kernel_rfl) (by kernel_rfl)) ?_)))))))))
 rintro _ _ ⟨rfl,rfl⟩
 refine on J (oR 1 J (oZ J (jk [2] J (zo J ?_))))
 exact zi Tryz.results173 (.cons (zl J) .nil) J HSub.none ⟨rfl,J⟩
theorem hasP_c (a:ByteArray) (b:ByteArray) :
 CD Tryz.prog 195 [] [.s a,.s b] (isR (dB (hasP a b))):=by
 refine zq Tryz.func195 J (N:=18) J J (fun C=>?_)
 refine jk [0,1] J ?_
 refine JD.bd 0 J (fun bd0=>?_)
 have sz0:a.size≤9223372036854775807:=bd0
 refine JD.bd 1 J (fun bd1=>?_)
 have sz1:b.size≤9223372036854775807:=bd1
 refine jT J (oR 1 J (oZ J (jS J (jk [0,1] J ?_))))
 refine zac 4 ((decide (((b.size:Nat):Int)≤((a.size:Nat):Int))&&decide ((a.extract 0 b.size)=b))) [] (fun _ hQ1=>?_) ?_
 · skip
   by_cases hg2:((b.size:Nat):Int)≤((a.size:Nat):Int)
   · skip
     refine zf J (oR 1 J (oP J (zX J Tryz.runUnderlying9) (oR 1 J (oP J (zX J Tryz.runUnderlying9) (oP J (zaR J J (decide_eq_true hg2)) (oR 3 J (oG J (zX J Tryz.runUnderlying9) (oG J (zaF (a:=0) (c:=b.size) J J J (by first | rfl | (show _=_;omega)) (by first | rfl | (show _=_;omega)) Tryz.runUnderlying9 (by omega) (by omega)) (oR 1 rfl (oG rfl (zal rfl rfl rfl) (oR 2 rfl (zr rfl ?_))))))))))))
     exact PD.sub ((4,dB (decide (((b.size:Nat):Int)≤((a.size:Nat):Int))&&decide ((a.extract 0 b.size)=b)))::[(0,.s a),(1,.s b)]) ⟨sc J (Cv.eq (congrArg (fun b=>D.v (.bool b)) (by first | (simp[hg2];done) | (simp_all;done)))),sk rfl,sk rfl,trivial⟩ hQ1
   · skip
     refine zf J (oR 1 J (oP J (zX J Tryz.runUnderlying9) (oR 1 J (oP J (zX J Tryz.runUnderlying9) (oP J (zaR J J (decide_eq_false hg2)) (oR 9 J (zr J ?_)))))))
     exact PD.sub ((4,dB (decide (((b.size:Nat):Int)≤((a.size:Nat):Int))&&decide ((a.extract 0 b.size)=b)))::[(0,.s a),(1,.s b)]) ⟨sc J (Cv.eq (congrArg (fun b=>D.v (.bool b)) (by first | (simp[hg2];done) | (simp_all;done)))),sk rfl,sk rfl,trivial⟩ hQ1
 · skip
   refine zn (zo J ?_)
   exact zi Tryz.results195 (.cons (zt (zl J) (Cv.eq (congrArg (fun b=>D.v (.bool b)) (by unfold hasP;simp[*])))) .nil) rfl HSub.none ⟨rfl,rfl⟩
theorem HasPrefix_c (a:ByteArray) (b:ByteArray) :
 CD Tryz.prog 172 [] [.s a,.s b] (isR (dB (hasP a b))):=by
 refine zq Tryz.func172 J (N:=8) J J (fun C=>?_)
 refine jk [0,1] J ?_
 refine JD.bd 0 J (fun bd0=>?_)
 have sz0:a.size≤9223372036854775807:=bd0
 refine JD.bd 1 J (fun bd1=>?_)
 have sz1:b.size≤9223372036854775807:=bd1
 refine jT J (oR 1 J (oZ J (jT J (oR 2 J (oW J J acs Tryz.call195 (hasP_c a b) (oR 1 J (oZ J (zo J ?_))))))))
 exact zi Tryz.results172 (.cons (zl J) .nil) J HSub.none ⟨rfl,J⟩
theorem Quote_c (s:ByteArray) (hs:s.size≤1000000000):
 CD Tryz.prog 148 [] [.s s] (isR (D.s (zaO s))):=by
 refine zq Tryz.func148 J (N:=54) J J (fun C=>?_)
 refine jk [0] J ?_
 refine JD.bd 0 J (fun bd0=>?_)
 have sz0:s.size≤9223372036854775807:=bd0
 refine jT J (oR 1 J (oZ J (jT J (oE J (zw (zv:=(.agg #[(.pointer none),(.slice none 0 0)])) (X:=.agg [.v (.pointer none),.ov (.slice none 0 0)]) Tryz.zeroValue213 ⟨J,J,trivial⟩ ((Cv.vagg (by decide)).trans (Cv.agg (.cons Cv.rfl' (.cons (Cv.ov rfl) .nil))))) ?_))))
 rintro _ _ ⟨g1,rfl,rfl⟩
 refine OpsD.subH (HSub.nil 1 5) (on J (oZ J (jT J (OpsD.subH (HSub.perm (zd (i:=1) J)) (on J (oE J (zk [.bx g1 213 (.agg [.v (.pointer none),.ov (.slice none 0 0)]),.sl (.slice none 0 0) 1 5 ([].map dU8)] [] [] J J (.cons ArgC.id (.cons ArgC.id .nil)) zh Tryz.call169 (zcr g1 (.pointer none) (.slice none 0 0) [] (34:UInt8) (.inl J) (by (try simp only[la,lc,ln]);omega)) (.inl rfl)) ?_))))))
 rintro _ _ ⟨_,⟨bv2,rfl,rfl⟩,rfl⟩
 refine on J (oZ J (jS J (jT J (oR 1 J (oE J (zdX J Tryz.runUnderlying9) ?_)))))
 rintro _ _ ⟨g3,rfl,rfl⟩
 refine oZ J (jB J (jl3 (fun (a_:Nat) (b_:Value) (c_:List UInt8)=>[(0,.s s),(2,.v (.string ByteArray.empty)),(3,dP g1 0),(8,dP g3 0)]) (fun a_ b_ c_=>[.it g3 s a_,.bx g1 213 (.agg [dP g1 0,.ov b_]),.sl b_ 1 5 (c_.map dU8)]) (fun a_ b_ c_=>(a_≤s.size)∧(c_.length≤1+5*a_)∧([34]++zaA s 0=c_++zaA s a_)) (fun a_ b_ c_=>s.size-a_) 0 bv2 ([]++[(34:UInt8)]) J (sa J) HSub.rfl' ⟨Nat.zero_le _,by simp,rfl⟩ ?_))
 rintro p ov bs ⟨hp,hn,hq⟩
 refine ja J (jn J ?_)
 rcases Nat.lt_or_ge p s.size with hlt | hge
 · skip
   have hrune:=zbl hlt
   have hrl:=zdf s p
   have hdw:=zbj s p hlt
   have hdp:=zag s p
   refine jT J (oE J (zdl (i:=0) J J hlt) ?_)
   rintro _ _ ⟨rfl,rfl⟩
   refine on J (oR 1 J (oZ J (jS J (jCt J (zp J (zn (jB J (jT J (oR 4 J (oZ J (jB J (jS J (jk [0,2,3,4,5,8,9,10,11,12] J ?_)))))))))))))
   refine zac 15 ((decide (((decR s p:Nat):Int)=(34:Int))||decide (((decR s p:Nat):Int)=(92:Int)))) [.it g3 s (p+decW s p),.bx g1 213 (.agg [dP g1 0,.ov ov]),.sl ov 1 5 (bs.map dU8)] (fun _ hQ4=>?_) ?_
   · skip
     by_cases hg5:((decR s p:Nat):Int)=(34:Int)
     · skip
       refine zf J (oR 1 J (oP J (zK J J (decide_eq_true hg5)) (oR 5 J (zr J ?_))))
       exact PD.sub ((15,dB (decide (((decR s p:Nat):Int)=(34:Int))||decide (((decR s p:Nat):Int)=(92:Int))))::[(0,.s s),(2,.v (.string ByteArray.empty)),(3,dP g1 0),(4,dN p),(5,.v (.int .i32 ((decR s p:Nat):Int))),(8,dP g3 0),(9,.tup [dB true,dN p,.v (.int .i32 ((decR s p:Nat):Int))]),(10,dB true),(11,dN p),(12,.v (.int .i32 ((decR s p:Nat):Int)))]) ⟨sc J (Cv.eq (congrArg (fun b=>D.v (.bool b)) (by first | (simp[hg5];done) | (simp_all;done)))),sk rfl,sk rfl,sk rfl,sk rfl,sk rfl,sk rfl,sk rfl,sk rfl,sk rfl,sk rfl,trivial⟩ hQ4
     · skip
       refine zf J (oR 1 J (oP J (zK J J (decide_eq_false hg5)) (oR 2 J (oG J (zK J J J) (oR 2 J (zr J ?_))))))
       exact PD.sub ((15,dB (decide (((decR s p:Nat):Int)=(34:Int))||decide (((decR s p:Nat):Int)=(92:Int))))::[(0,.s s),(2,.v (.string ByteArray.empty)),(3,dP g1 0),(4,dN p),(5,.v (.int .i32 ((decR s p:Nat):Int))),(8,dP g3 0),(9,.tup [dB true,dN p,.v (.int .i32 ((decR s p:Nat):Int))]),(10,dB true),(11,dN p),(12,.v (.int .i32 ((decR s p:Nat):Int)))]) ⟨sc J (Cv.eq (congrArg (fun b=>D.v (.bool b)) (by first | (simp[hg5];done) | (simp_all;done)))),sk rfl,sk rfl,sk rfl,sk rfl,sk rfl,sk rfl,sk rfl,sk rfl,sk rfl,sk rfl,trivial⟩ hQ4
   · skip
     refine zn ?_
     refine jC J (fun hc6=>?_) (fun hc6=>?_)
     · simp only[bA,bB,bC,bD,bE,bF,bG,bH,bI,bJ] at hc6
       refine jT J (OpsD.subH (HSub.perm (zd (i:=2) J)) (on J (OpsD.subH (HSub.perm (zd (i:=2) J)) (on J (oE J (zk [.bx g1 213 (.agg [dP g1 0,.ov ov]),.sl ov 1 5 (bs.map dU8)] [.it g3 s (p+decW s p)] [] J J (.cons ArgC.id (.cons ArgC.id .nil)) zh Tryz.call169 (zcr g1 (.pointer (some ⟨g1,0,none⟩)) ov bs (92:UInt8) (.inr J) (by (try simp only[la,lc,ln]);omega)) (.inl rfl)) ?_)))))
       rintro _ _ ⟨_,⟨bv7,rfl,rfl⟩,rfl⟩
       refine on J (oZ J (zf J (oR 1 J (oE J (zk [.bx g1 213 (.agg [dP g1 0,.ov bv7]),.sl bv7 1 5 ((bs++[(92:UInt8)]).map dU8)] [.it g3 s (p+decW s p)] [] J J (.cons ArgC.id (.cons ArgC.id .nil)) zh Tryz.call170 (WriteRune_c g1 (.pointer (some ⟨g1,0,none⟩)) bv7 (bs++[(92:UInt8)]) (decR s p) (.inr J) (by (try simp only[la,lc,ln]);omega) (by omega)) (.inl rfl)) ?_))))
       rintro _ _ ⟨_,⟨bv8,nw9,rfl,rfl⟩,rfl⟩
       refine on J (zr J (zE (zE (PD.subH (HSub.perm (zd (i:=1) J)) (pn J (PD.subH (HSub.perm (zd (i:=1) J)) (pn J (PD.subH (HSub.perm (zd (i:=2) J)) (pn J ?_)))))))))
       exact pl3 (p+decW s p) bv8 ((bs++[(92:UInt8)])++encR (decR s p)) (sa J) HSub.rfl' ⟨by have:=zbj s p hlt;omega,by (try simp only[la,lc,ln]);have:=zag s p;have:=zem (decR s p);omega,by rw[hq,zbm hlt,piece_1 (by omega)];simp only[List.append_assoc,List.cons_append,List.nil_append]⟩ (by have:=zag s p;omega)
     · simp only[bA,bB,bC,bD,bE,bF,bG,bH,bI,bJ] at hc6
       refine jT J (oR 1 J (oP J (zK J J J) (oR 1 J (oZ J ?_))))
       refine jD J (fun hc10=>?_) (fun hc10=>?_)
       · skip
         refine zf J (OpsD.subH (HSub.perm (zd (i:=2) J)) (on J (OpsD.subH (HSub.perm (zd (i:=2) J)) (on J (oE J (zk [.bx g1 213 (.agg [dP g1 0,.ov ov]),.sl ov 1 5 (bs.map dU8)] [.it g3 s (p+decW s p)] [] J J (.cons ArgC.id (.cons (ArgC.cv (Cv.str (by first | decide | (unfold maxLen;omega)))) .nil)) zh Tryz.call171 (zbW g1 (.pointer (some ⟨g1,0,none⟩)) ov bs (⟨#[92,110]⟩:ByteArray) (.inr rfl) (by (try simp only[la,lc,ln]);omega) (by first | decide | omega)) (.inl rfl)) ?_)))))
         rintro _ _ ⟨_,⟨bv11,rfl,rfl⟩,rfl⟩
         refine on J (zr J (zE (zE (PD.subH (HSub.perm (zd (i:=1) J)) (pn J (PD.subH (HSub.perm (zd (i:=1) J)) (pn J (PD.subH (HSub.perm (zd (i:=2) J)) (pn J ?_)))))))))
         exact pl3 (p+decW s p) bv11 (bs++(⟨#[92,110]⟩:ByteArray).data.toList) (sa J) HSub.rfl' ⟨by have:=zbj s p hlt;omega,by (try simp only[la,lc,ln]);have:=zag s p;have:=zem (decR s p);omega,by rw[hq,zbm hlt,piece_2 (by omega) (by omega)];simp only[List.append_assoc,List.cons_append,List.nil_append]⟩ (by have:=zag s p;omega)
       · skip
         refine jS J (jk [0,2,3,4,5,8,9,10,11,12,15,25,26,27] J ?_)
         refine zac 29 ((decide (((decR s p:Nat):Int)=(65533:Int))&&!(hasP (s.extract p s.size) (⟨#[239,191,189]⟩:ByteArray)))) [.it g3 s (p+decW s p),.bx g1 213 (.agg [dP g1 0,.ov ov]),.sl ov 1 5 (bs.map dU8)] (fun _ hQ12=>?_) ?_
         · skip
           by_cases hg13:((decR s p:Nat):Int)=(65533:Int)
           · skip
             refine zf J (oR 1 J (oP J (zK J J (decide_eq_true hg13)) (oR 3 J (oG J (zaF (a:=p) (c:=s.size) J J J (by first | rfl | (show _=_;omega)) (by first | rfl | (show _=_;omega)) Tryz.runUnderlying9 (by omega) (by omega)) (oV rfl rfl (.cons ArgC.id (.cons (ArgC.cv (Cv.str (by first | decide | (unfold maxLen;omega)))) .nil)) Tryz.call172 (HasPrefix_c (s.extract p s.size) (⟨#[239,191,189]⟩:ByteArray)) (oG rfl (zbE rfl) (oR 2 rfl (zr rfl ?_))))))))
             exact PD.sub ((29,dB (decide (((decR s p:Nat):Int)=(65533:Int))&&!(hasP (s.extract p s.size) (⟨#[239,191,189]⟩:ByteArray))))::[(0,.s s),(2,.v (.string ByteArray.empty)),(3,dP g1 0),(4,dN p),(5,.v (.int .i32 ((decR s p:Nat):Int))),(8,dP g3 0),(9,.tup [dB true,dN p,.v (.int .i32 ((decR s p:Nat):Int))]),(10,dB true),(11,dN p),(12,.v (.int .i32 ((decR s p:Nat):Int))),(15,dB (decide (((decR s p:Nat):Int)=(34:Int))||decide (((decR s p:Nat):Int)=(92:Int)))),(25,dB (decide (((decR s p:Nat):Int)=(10:Int)))),(26,.v (.int .i32 ((decR s p:Nat):Int))),(27,dB (decide (((decR s p:Nat):Int)=(10:Int))))]) ⟨sc J (Cv.eq (congrArg (fun b=>D.v (.bool b)) (by first | (simp[hc10,hg13];done) | (simp_all;done)))),sk rfl,sk rfl,sk rfl,sk rfl,sk rfl,sk rfl,sk rfl,sk rfl,sk rfl,sk rfl,sk rfl,sk rfl,sk rfl,sk rfl,trivial⟩ hQ12
           · skip
             refine zf J (oR 1 J (oP J (zK J J (decide_eq_false hg13)) (oR 8 J (zr J ?_))))
             exact PD.sub ((29,dB (decide (((decR s p:Nat):Int)=(65533:Int))&&!(hasP (s.extract p s.size) (⟨#[239,191,189]⟩:ByteArray))))::[(0,.s s),(2,.v (.string ByteArray.empty)),(3,dP g1 0),(4,dN p),(5,.v (.int .i32 ((decR s p:Nat):Int))),(8,dP g3 0),(9,.tup [dB true,dN p,.v (.int .i32 ((decR s p:Nat):Int))]),(10,dB true),(11,dN p),(12,.v (.int .i32 ((decR s p:Nat):Int))),(15,dB (decide (((decR s p:Nat):Int)=(34:Int))||decide (((decR s p:Nat):Int)=(92:Int)))),(25,dB (decide (((decR s p:Nat):Int)=(10:Int)))),(26,.v (.int .i32 ((decR s p:Nat):Int))),(27,dB (decide (((decR s p:Nat):Int)=(10:Int))))]) ⟨sc J (Cv.eq (congrArg (fun b=>D.v (.bool b)) (by first | (simp[hc10,hg13];done) | (simp_all;done)))),sk rfl,sk rfl,sk rfl,sk rfl,sk rfl,sk rfl,sk rfl,sk rfl,sk rfl,sk rfl,sk rfl,sk rfl,sk rfl,sk rfl,trivial⟩ hQ12
         · skip
           refine zn ?_
           refine jC J (fun hc14=>?_) (fun hc14=>?_)
           · simp only[bA,bB,bC,bD,bE,bF,bG,bH,bI,bJ] at hc14
             refine jT J (OpsD.subH (HSub.perm (zd (i:=2) J)) (on J (OpsD.subH (HSub.perm (zd (i:=2) J)) (on J (oE J (zk [.bx g1 213 (.agg [dP g1 0,.ov ov]),.sl ov 1 5 (bs.map dU8)] [.it g3 s (p+decW s p)] [] J J (.cons ArgC.id (.cons (ArgC.cv (Cv.str (by first | decide | (unfold maxLen;omega)))) .nil)) zh Tryz.call171 (zbW g1 (.pointer (some ⟨g1,0,none⟩)) ov bs (⟨#[92,120]⟩:ByteArray) (.inr rfl) (by (try simp only[la,lc,ln]);omega) (by first | decide | omega)) (.inl rfl)) ?_)))))
             rintro _ _ ⟨_,⟨bv15,rfl,rfl⟩,rfl⟩
             refine on J (oZ J (jT J (oR 2 J ?_)))
             obtain ⟨u1,hu1⟩:=zcB s p (by omega)
             have hlu1:=u1.toNat_lt
             refine oP J (zaw (k:=p) J J Tryz.runUnderlying9 (by first | rfl | omega) hu1) (oP rfl (zd4 (a:=u1.toNat) (n:=4) (m:=16) rfl rfl (by decide) (by decide)) ?_)
             obtain ⟨u2,hu2⟩:=zcB (⟨#[48,49,50,51,52,53,54,55,56,57,97,98,99,100,101,102]⟩:ByteArray) (u1.toNat / 16) (by show _<16;omega)
             have hlu2:=u2.toNat_lt
             refine oP J (zaw (k:=u1.toNat / 16) J J Tryz.runUnderlying9 (by first | rfl | omega) hu2) (oE rfl (zk [.bx g1 213 (.agg [dP g1 0,.ov bv15]),.sl bv15 1 5 ((bs++(⟨#[92,120]⟩:ByteArray).data.toList).map dU8)] [.it g3 s (p+decW s p)] [] rfl rfl (.cons ArgC.id (.cons ArgC.id .nil)) zh Tryz.call169 (zcr g1 (.pointer (some ⟨g1,0,none⟩)) bv15 (bs++(⟨#[92,120]⟩:ByteArray).data.toList) u2 (.inr rfl) (by (try simp only[la,lc,ln]);omega)) (.inl rfl)) ?_)
             rintro _ _ ⟨_,⟨bv16,rfl,rfl⟩,rfl⟩
             refine on J (oZ J (zf J (oR 2 J (oP J (zaw (k:=p) J J Tryz.runUnderlying9 (by first | rfl | omega) hu1) (oP rfl (zda (a:=u1.toNat) (b:=15) rfl rfl (by omega) (by decide) (and15 _)) ?_)))))
             obtain ⟨u3,hu3⟩:=zcB (⟨#[48,49,50,51,52,53,54,55,56,57,97,98,99,100,101,102]⟩:ByteArray) (u1.toNat % 16) (by show _<16;omega)
             have hlu3:=u3.toNat_lt
             refine oP J (zaw (k:=u1.toNat % 16) J J Tryz.runUnderlying9 (by first | rfl | omega) hu3) (oE rfl (zk [.bx g1 213 (.agg [dP g1 0,.ov bv16]),.sl bv16 1 5 (((bs++(⟨#[92,120]⟩:ByteArray).data.toList)++[u2]).map dU8)] [.it g3 s (p+decW s p)] [] rfl rfl (.cons ArgC.id (.cons ArgC.id .nil)) zh Tryz.call169 (zcr g1 (.pointer (some ⟨g1,0,none⟩)) bv16 ((bs++(⟨#[92,120]⟩:ByteArray).data.toList)++[u2]) u3 (.inr rfl) (by (try simp only[la,lc,ln]);omega)) (.inl rfl)) ?_)
             rintro _ _ ⟨_,⟨bv17,rfl,rfl⟩,rfl⟩
             refine on J (zr J (zE (zE (PD.subH (HSub.perm (zd (i:=1) J)) (pn J (PD.subH (HSub.perm (zd (i:=1) J)) (pn J (PD.subH (HSub.perm (zd (i:=2) J)) (pn J ?_)))))))))
             exact pl3 (p+decW s p) bv17 (((bs++(⟨#[92,120]⟩:ByteArray).data.toList)++[u2])++[u3]) (sa J) HSub.rfl' ⟨by have:=zbj s p hlt;omega,by (try simp only[la,lc,ln]);have:=zag s p;have:=zem (decR s p);omega,by rw[hq,zbm hlt,piece_3 (by omega) (by omega) ⟨by have:=hc14.1;omega,hc14.2⟩];rw[←zY hu1];rw[←hexB_at hu2,←hexB_at hu3];simp only[List.append_assoc,List.cons_append,List.nil_append]⟩ (by have:=zag s p;omega)
           · simp only[bA,bB,bC,bD,bE,bF,bG,bH,bI,bJ] at hc14
             refine zf J (oR 1 J (OpsD.subH (HSub.perm (zd (i:=2) J)) (on J (OpsD.subH (HSub.perm (zd (i:=2) J)) (on J (oE J (zk [.bx g1 213 (.agg [dP g1 0,.ov ov]),.sl ov 1 5 (bs.map dU8)] [.it g3 s (p+decW s p)] [] J J (.cons ArgC.id (.cons ArgC.id .nil)) zh Tryz.call170 (WriteRune_c g1 (.pointer (some ⟨g1,0,none⟩)) ov bs (decR s p) (.inr J) (by (try simp only[la,lc,ln]);omega) (by omega)) (.inl rfl)) ?_))))))
             rintro _ _ ⟨_,⟨bv18,nw19,rfl,rfl⟩,rfl⟩
             refine on J (zr J (zE (zE (PD.subH (HSub.perm (zd (i:=1) J)) (pn J (PD.subH (HSub.perm (zd (i:=1) J)) (pn J (PD.subH (HSub.perm (zd (i:=2) J)) (pn J ?_)))))))))
             exact pl3 (p+decW s p) bv18 (bs++encR (decR s p)) (sa rfl) HSub.rfl' ⟨by have:=zbj s p hlt;omega,by (try simp only[la,lc,ln]);have:=zag s p;have:=zem (decR s p);omega,by rw[hq,zbm hlt,piece_4 (by omega) (by omega) (fun e=>by rcases hc14 with h | h<;>first | exact h (by have:=e.1;omega) | exact absurd (e.2.symm.trans h) (by decide))];simp only[List.append_assoc,List.cons_append,List.nil_append]⟩ (by have:=zag s p;omega)
 · skip
   have hrune:=zbz hge
   refine jT J (oP J (zdO (i:=0) J J hge) (oR 1 J (oZ J (jS J (jCf J (zat J (zL (zH (zD (zn (jT J (OpsD.subH (HSub.perm (zd (i:=2) J)) (on J (OpsD.subH (HSub.perm (zd (i:=2) J)) (on J (oE J (zk [.bx g1 213 (.agg [dP g1 0,.ov ov]),.sl ov 1 5 (bs.map dU8)] [.it g3 s p] [] J J (.cons ArgC.id (.cons ArgC.id .nil)) zh Tryz.call169 (zcr g1 (.pointer (some ⟨g1,0,none⟩)) ov bs (34:UInt8) (.inr J) (by (try simp only[la,lc,ln]);omega)) (.inl rfl)) ?_))))))))))))))))
   rintro _ _ ⟨_,⟨bv20,rfl,rfl⟩,rfl⟩
   refine on J (oZ J (jT J (oE J (zk [.bx g1 213 (.agg [dP g1 0,.ov bv20]),.sl bv20 1 5 ((bs++[(34:UInt8)]).map dU8)] [.it g3 s p] [] J J (.cons ArgC.id .nil) zh Tryz.call173 (String_c g1 (.pointer (some ⟨g1,0,none⟩)) bv20 (bs++[(34:UInt8)]) (by simp)) (.inl rfl)) ?_)))
   rintro _ _ ⟨_,⟨rfl,rfl⟩,rfl⟩
   refine on J (oR 1 J (oZ J (zo J ?_)))
   exact zi Tryz.results148 (.cons (zt (zl J) (Cv.eq (congrArg D.s (by rw[zbL hge,List.append_nil] at hq;rw[←hq];rfl)))) .nil) rfl HSub.none ⟨rfl,rfl⟩
theorem ext_mnz (args:Array Value) (w:World):(callFunc 216 args).run Tryz.prog w=((Extern.BytealgMakeNoZero.makeNoZero #[3] #[103] args).run Tryz.prog w).andThen fun v w'=>.ok (.value v) w':=
 run_callFunc_extern Tryz.func216 (by kernel_rfl) (by kernel_rfl) (by kernel_rfl) (e:=Extern.BytealgMakeNoZero.makeNoZero #[3] #[103]) (by kernel_rfl) args w
theorem grow0_c (g n:Nat) (hn:n≤1000000000000):
 CD Tryz.prog 196 [.bx g 213 (.agg [dP g 0,.ov (.slice none 0 0)]),.sl (.slice none 0 0) 1 5 ([].map dU8)] [dP g 0,dN n] (fun r H'=>∃ v',r=.tup []∧H'=[.bx g 213 (.agg [dP g 0,.ov v']),.sl v' 1 5 ([].map dU8)]):=by
 refine zq Tryz.func196 J (N:=30) J J (fun C=>?_)
 refine jk [0,1] J (jS J (jk [0,1] J (jn J ?_)))
 refine jd_drawo 14 [(5,.q (dP g 0)),(6,.q (dP g 0)),(7,.q (dP g 1)),(8,.q (.ov (.slice none 0 0))),(9,.q (dI 0)),(10,.q (dI 0)),(11,.q (dN n)),(12,.q (dN (0+n))),(13,.o (fun γ=>[.sl (γ 8) 1 5 (List.replicate (0+n) .any),.bx g 213 (.agg [dP g 0,.ov (.slice none 0 0)]),.sl (.slice none 0 0) 1 5 ([].map dU8)])),(14,.q (dP g 0)),(15,.q (dP g 0)),(16,.q (dP g 1)),(17,.q (.ov (.slice none 0 0))),(18,.q (dI 0))] [.bx g 213 (.agg [dP g 0,.ov (.slice none 0 0)]),.sl (.slice none 0 0) 1 5 ([].map dU8)] (Hn:=fun γ=>[.sl (γ 8) 1 5 (List.replicate (0+n) .any),.bx g 213 (.agg [dP g 0,.ov (.slice none 0 0)]),.sl (.slice none 0 0) 1 5 ([].map dU8)]) mixed rfl rfl (by kernel_rfl) (by kernel_rfl) (by kernel_rfl) HSub.rfl' (fun _=>rfl) (fun γ=>⟨so_p rfl rfl rfl (z7 rfl),so_p rfl rfl rfl (zb8 rfl),so_p rfl rfl rfl (zc rfl zbh rfl),so_p rfl rfl rfl (ze rfl (i:=0) rfl Tryz.isAgg103 rfl),so_p rfl rfl rfl (p_cap_nil rfl Tryz.runUnderlying103),so_p rfl rfl rfl (p_mul (c:=(0:Int)) rfl rfl (zaL (by omega) (by omega))),so_p rfl rfl rfl (z7 rfl),so_p rfl rfl rfl (zbI (c:=((0+n:Nat):Int)) rfl rfl (zaL (by omega) (by omega))),so_o rfl rfl rfl rfl ((ef_makeNoZero (n:=0+n) ext_mnz rfl (by kernel_rfl) (by omega)).mono (by rintro _ _ ⟨v,rfl,rfl⟩;exact⟨v,rfl,rfl⟩)) (fun _=>HSub.lst 1 rfl),so_p rfl rfl rfl (z7 rfl),so_p rfl rfl rfl (zb8 rfl),so_p rfl rfl rfl (zc rfl zbh rfl),so_p rfl rfl rfl (ze rfl (i:=0) rfl Tryz.isAgg103 rfl),so_p rfl rfl rfl (zcc (n:=0) (j:=1) rfl rfl Tryz.runUnderlying103 rfl),trivial⟩) (fun γ=>?_)
 refine ok [0,1,5,6,7,8,9,10,11,12,13,14,15,16,17,18] J (oP J (p_slice_ownov (a:=0) (b:=0) (j:=0) J J J J J J Tryz.runUnderlying103 Tryz.sizeOf5 (Nat.zero_le _) (Nat.zero_le _)) (oR 1 J (oZ J (jk [0,4] J (jS J (JD.subH (HSub.turn (h':=.sl (cut 1 (γ 8) 0 0) 1 5 []) (Hp.front_blk _) (Hp.front (m:=0) (Nat.zero_le _))) (jn J (JD.sub [(0,dP g 0),(4,.ov (cut 1 (γ 8) 0 0))] (sa J) (zf J (oR 3 J (oP J (zc J zbh J) (oP J (ze J (i:=1) J Tryz.isAgg103 J) (oP J (p_copy0 (i:=0) J J J Tryz.runUnderlying103 Tryz.sizeOf5) (oZ J (zf J (oR 3 J (oP J (zc J zbh J) (oE J (zg (i:=1) (X':=.agg [dP g 0,.ov (cut 1 (γ 8) 0 0)]) J J J (CellD.o) Tryz.sizeOf103 J J J) ?_))))))))))))))))))
 rintro _ _ ⟨rfl,rfl⟩
 refine on J (zr J (PD.subH (HSub.perm (zd (i:=1) J)) (pn J ?_)))
 exact pd_endH Tryz.results196 .nil J (HSub.fst 2 J) ⟨(cut 1 (γ 8) 0 0),J,J⟩
theorem Grow0_c (g n:Nat) (p:Value) (hp:p=.pointer none∨p=.pointer (some ⟨g,0,none⟩)) (hn:n≤1000000000000):
 CD Tryz.prog 174 [.bx g 213 (.agg [.v p,.ov (.slice none 0 0)]),.sl (.slice none 0 0) 1 5 ([].map dU8)] [dP g 0,dN n] (fun r H'=>∃ v',r=.tup []∧H'=[.bx g 213 (.agg [dP g 0,.ov v']),.sl v' 1 5 ([].map dU8)]):=by
 refine zq Tryz.func174 J (N:=25) J J (fun C=>?_)
 refine jk [0,1] J (jT J (oR 1 J (oE J (zk [.bx g 213 (.agg [.v p,.ov (.slice none 0 0)])] [.sl (.slice none 0 0) 1 5 ([].map dU8)] [] J J (.cons ArgC.id .nil) zh Tryz.call193 (copyCheck_c g p (.ov (.slice none 0 0)) hp) (.inl J)) ?_)))
 rintro _ _ ⟨_,⟨rfl,rfl⟩,rfl⟩
 refine on J (oZ J (jS J (jT J (oR 1 J (oP J (za2 J J J) (oZ J ?_))))))
 refine jD J (fun hc1=>?_) (fun hc1=>?_)
 · skip
   exfalso;omega
 · skip
   refine zp J (zn (jS J (jk [0,1,4,5,6,7] J (jn J ?_))))
   refine za4 12 [(9,dP g 0,none),(10,dP g 0,none),(11,dP g 1,none),(12,.ov (.slice none 0 0),none),(13,dI 0,none),(14,dP g 0,none),(15,dP g 0,none),(16,dP g 1,none),(17,.ov (.slice none 0 0),none),(18,dI 0,none),(19,dI 0,none),(20,dN n,none)] [.bx g 213 (.agg [dP g 0,.ov (.slice none 0 0)]),.sl (.slice none 0 0) 1 5 ([].map dU8)] (Hn:=[.bx g 213 (.agg [dP g 0,.ov (.slice none 0 0)]),.sl (.slice none 0 0) 1 5 ([].map dU8)]) mixed J J J J HSub.rfl' J ⟨sa_p J J J (z7 J),sa_p J J J (zb8 J),sa_p J J J (zc J zbh J),sa_p J J J (ze J (i:=0) J Tryz.isAgg103 J),sa_p J J J (p_cap_nil J Tryz.runUnderlying103),sa_p J J J (z7 J),sa_p J J J (zb8 J),sa_p J J J (zc J zbh J),sa_p J J J (ze J (i:=0) J Tryz.isAgg103 J),sa_p J J J (zcc (n:=0) (j:=1) J J Tryz.runUnderlying103 J),sa_p J J J (zdp (c:=(0:Int)) J J (zaL (by omega) (by omega))),sa_p rfl rfl rfl (z7 rfl),trivial⟩ ?_
   refine ok [0,1,4,5,6,7,9,10,11,12,13,14,15,16,17,18,19,20] J (oP J (za2 J J J) (oZ J (jk [0,1,21] J ?_)))
   refine jD J (fun hc2=>?_) (fun hc2=>?_)
   · skip
     refine zf J (oR 2 J (oE J (zk [.bx g 213 (.agg [dP g 0,.ov (.slice none 0 0)]),.sl (.slice none 0 0) 1 5 ([].map dU8)] [] [] J J (.cons ArgC.id (.cons ArgC.id .nil)) zh Tryz.call196 (grow0_c g n (by omega)) (.inl rfl)) ?_))
     rintro _ _ ⟨_,⟨bv3,rfl,rfl⟩,rfl⟩
     refine on J (zr J ?_)
     exact pd_endH Tryz.results174 .nil J (HSub.fst 2 J) ⟨bv3,J,J⟩
   · skip
     refine zp J ?_
     exact pd_endH Tryz.results174 .nil J (HSub.fst 2 J) ⟨(.slice none 0 0),J,J⟩
theorem Join_c (l:List ByteArray) (sep:ByteArray) (hl:l.length≤1000000) (hs:zae l≤1000000000) (h0:0<sep.size) (h1:sep.size≤1000):
 CD Tryz.prog 149 [] [.sh 1 (l.map D.s),.s sep] (isR (D.s (zce sep l))):=by
 refine zq Tryz.func149 J (N:=75) J J (fun C=>?_)
 refine jk [0,1] J ?_
 refine JD.bd 0 J (fun bd0=>?_)
 have nl0:=zbZ bd0
 refine JD.bd 1 J (fun bd1=>?_)
 have sz1:sep.size≤9223372036854775807:=bd1
 refine jT J (oR 1 J (oZ J (jS J (jT J (oR 1 J (oP J (zaB (n:=l.length) J Tryz.runUnderlying23 (by simp only[lm,lc,ln])) (oZ rfl (jB rfl (jT rfl (oP rfl (zK rfl rfl rfl) (oR 1 rfl (oZ rfl ?_))))))))))))
 refine jD J (fun hc1=>?_) (fun hc1=>?_)
 · skip
   refine jT J (oR 1 J (oZ J (zo J (zm (zj ?_)))))
   exact zi Tryz.results149 (.cons (zt (zl J) (((Cv.str (by first | decide | (unfold maxLen;omega)))).trans (Cv.eq (congrArg D.s (by exact joinB_none (by omega)))))) .nil) rfl HSub.none ⟨rfl,rfl⟩
 · skip
   refine jT J (oP J (zK J J J) (oR 1 J (oZ J ?_)))
   refine jD J (fun hc2=>?_) (fun hc2=>?_)
   · skip
     refine jT J (oR 1 J ?_)
     obtain ⟨x1,hx1⟩:=zak l 0 (by (try simp only[ld]);omega)
     have hsk0:=zdK l 1
     have hsx0:zae (l.take 1)=zae (l.take 0)+x1.size:=zcM hx1
     refine oP J (zA (k:=0) J J Tryz.runUnderlying23 Tryz.sizeOf9 (by first | rfl | omega) (zap hx1)) (oP rfl (zaG rfl Tryz.isAgg9 rfl) (oR 1 rfl (oZ rfl (jk [0,1,4] rfl (zo rfl (zm (zj ?_)))))))
     exact zi Tryz.results149 (.cons (zt (zl J) (Cv.eq (congrArg D.s (by exact joinB_one hx1 (by omega))))) .nil) rfl HSub.none ⟨rfl,rfl⟩
   · skip
     refine zp J (zE (zn (jT J (oR 1 J (oZ J (jS J (jT J (oR 1 J (oP J (zX J Tryz.runUnderlying9) (oP J (zbg J J J) (oZ J ?_)))))))))))
     refine jD J (fun hc3=>?_) (fun hc3=>?_)
     · skip
       refine jS J (jT J (oR 1 J (oP J (zX J Tryz.runUnderlying9) (oR 1 J (oP J (zaB (n:=l.length) J Tryz.runUnderlying23 (by simp only[lm,lc,ln])) (oP rfl (zdp (c:=((l.length-1:Nat):Int)) rfl rfl (zaL (by omega) (by omega))) ?_))))))
       obtain ⟨q,hq,hq1,hq2⟩:∃ q:Nat,9223372036854775807 / (l.length-1)=q∧1001≤q∧q≤9223372036854775807:=⟨_,rfl,(Nat.le_div_iff_mul_le (by omega)).2 (by omega),Nat.div_le_self _ _⟩
       refine oP J (p_quo (c:=((q:Nat):Int)) J J (by omega) (zaL (by rw[Int.tdiv_eq_ediv_of_nonneg (by omega),←hq];first | exact Int.natCast_ediv _ _ | exact(Int.natCast_ediv _ _).symm) (by omega))) (oP rfl (zaR rfl rfl rfl) (oZ rfl (jk [0,1,4,5,29] rfl ?_)))
       refine jD J (fun hc4=>?_) (fun hc4=>?_)
       · skip
         exfalso;omega
       · skip
         refine zp J (zn (zf J (oR 2 J (oP J (zX J Tryz.runUnderlying9) (oR 1 J (oP J (zaB (n:=l.length) J Tryz.runUnderlying23 (by simp only[lm,lc,ln])) (oP rfl (zdp (c:=((l.length-1:Nat):Int)) rfl rfl (zaL (by omega) (by omega))) ?_)))))))
         obtain ⟨m,hm,hm1⟩:∃ m:Nat,sep.size*(l.length-1)=m∧m≤1000000000:=⟨_,rfl,Nat.le_trans (Nat.mul_le_mul h1 (show (l.length-1)≤1000000 by omega)) (by decide)⟩
         refine oP J (p_mul (c:=((m:Nat):Int)) J J (zaL (by rw[←hm];first | exact Int.natCast_mul _ _ | exact(Int.natCast_mul _ _).symm) (by omega))) (oP rfl (zbI (c:=((0+m:Nat):Int)) rfl rfl (zaL (by omega) (by omega))) (oR 1 rfl (oZ rfl (jk [0,1,4,5] rfl (jS rfl (jT rfl (oR 1 rfl (oP rfl (zaB (n:=l.length) rfl Tryz.runUnderlying23 (by simp only[lm,lc,ln])) (oR 1 rfl (oZ rfl (jB rfl (jl2 (fun (a_:Nat) (b_:Nat)=>[(0,.sh 1 (l.map D.s)),(1,.s sep),(4,.v (.string ByteArray.empty)),(39,.sh 1 (l.map D.s)),(40,dN l.length),(41,dN a_),(5,dN b_)]) (fun a_ b_=>[]) (fun a_ b_=>(b_≤1000000000+zae (l.take a_))) (fun a_ b_=>l.length-a_) 0 (0+m) rfl (sa rfl) HSub.rfl' (by show _≤_+zae (l.take 0);omega) ?_))))))))))))
         rintro k n hn
         refine ja J (jn J ?_)
         have hskk:=zdK l k
         refine jT J (oP J (za2 J J J) (oZ J (jS J ?_)))
         refine jD J (fun hc5=>?_) (fun hc5=>?_)
         · skip
           refine zp J (zn (jS J (jB J (jT J ?_))))
           obtain ⟨x2,hx2⟩:=zak l k (by (try simp only[ld]);omega)
           have hsk:=zdK l (k+1)
           have hsx:=zcM hx2
           refine oP J (zA (k:=k) J J Tryz.runUnderlying23 Tryz.sizeOf9 (by first | rfl | omega) (zap hx2)) (oP rfl (zaG rfl Tryz.isAgg9 rfl) (oR 1 rfl (oZ rfl (jS rfl (jT rfl (oR 1 rfl (oP rfl (zX rfl Tryz.runUnderlying9) (oR 1 rfl (oP rfl (zdp (c:=((9223372036854775807-n:Nat):Int)) rfl rfl (zaL (by omega) (by omega))) (oP rfl (zbg rfl rfl rfl) (oZ rfl ?_)))))))))))
           refine jD J (fun hc6=>?_) (fun hc6=>?_)
           · skip
             exfalso;omega
           · skip
             refine zp J (zn (zf J (oR 2 J (oP J (zX J Tryz.runUnderlying9) (oP J (zbI (c:=((n+x2.size:Nat):Int)) J J (zaL (by omega) (by omega))) (oR 1 rfl (zr rfl (zE (zn (zf rfl (oP rfl (zbI (c:=((k+1:Nat):Int)) rfl rfl (zaL (by omega) (by omega))) (oR 1 rfl (zr rfl ?_)))))))))))))
             exact pl2 (k+1) (n+x2.size) (sa J) HSub.rfl' (by have:=zcM hx2;show _≤1000000000+zae (l.take (k+1));omega) (by omega)
         · skip
           refine zat J (zL (zH (zD (zn (jT J (oE J (zw (zv:=(.agg #[(.pointer none),(.slice none 0 0)])) (X:=.agg [.v (.pointer none),.ov (.slice none 0 0)]) Tryz.zeroValue213 ⟨J,J,trivial⟩ ((Cv.vagg (by decide)).trans (Cv.agg (.cons Cv.rfl' (.cons (Cv.ov rfl) .nil))))) ?_))))))
           rintro _ _ ⟨g7,rfl,rfl⟩
           refine OpsD.subH (HSub.nil 1 5) (on J (oZ J (jT J (oR 1 J (OpsD.subH (HSub.perm (zd (i:=1) J)) (on J (oE J (zk [.bx g7 213 (.agg [.v (.pointer none),.ov (.slice none 0 0)]),.sl (.slice none 0 0) 1 5 ([].map dU8)] [] [] J J (.cons ArgC.id (.cons ArgC.id .nil)) zh Tryz.call174 (Grow0_c g7 n (.pointer none) (.inl J) (by omega)) (.inl rfl)) ?_)))))))
           rintro _ _ ⟨_,⟨bv8,rfl,rfl⟩,rfl⟩
           refine on J (oZ J (jT J (oR 1 J ?_)))
           obtain ⟨x1,hx1⟩:=zak l 0 (by (try simp only[ld]);omega)
           have hsk0:=zdK l 1
           have hsx0:zae (l.take 1)=zae (l.take 0)+x1.size:=zcM hx1
           refine oP J (zA (k:=0) J J Tryz.runUnderlying23 Tryz.sizeOf9 (by first | rfl | omega) (zap hx1)) (oP rfl (zaG rfl Tryz.isAgg9 rfl) (oE rfl (zk [.bx g7 213 (.agg [dP g7 0,.ov bv8]),.sl bv8 1 5 ([].map dU8)] [] [] rfl rfl (.cons ArgC.id (.cons ArgC.id .nil)) zh Tryz.call171 (zbW g7 (.pointer (some ⟨g7,0,none⟩)) bv8 [] x1 (.inr rfl) (by (try simp only[la,lc,ln,zbr]);omega) (by first | decide | omega)) (.inl rfl)) ?_))
           rintro _ _ ⟨_,⟨bv9,rfl,rfl⟩,rfl⟩
           refine on J (oZ J (jk [0,1,4,8] J (jS J (jT J (oR 1 J (oP J ((zev (a:=1) (b:=l.length) J J J (by first | rfl | (show _=_;omega)) (by first | rfl | exact List.length_map _) Tryz.runUnderlying23 Tryz.sizeOf9 (by omega) (by simp only[lm];omega)).cv (Cv.eq (by rw[←List.map_take,←List.map_drop,List.take_length]))) (oP rfl (zaB (n:=(l.drop 1).length) rfl Tryz.runUnderlying23 (by simp only[lm,lc,ln])) (oR 1 rfl (oZ rfl (jB rfl (jl3 (fun (a_:Nat) (b_:Value) (c_:List UInt8)=>[(1,.s sep),(4,.v (.string ByteArray.empty)),(8,dP g7 0),(63,.sh 1 ((l.drop 1).map D.s)),(64,dN ((l.drop 1).length)),(65,dN a_)]) (fun a_ b_ c_=>[.bx g7 213 (.agg [dP g7 0,.ov b_]),.sl b_ 1 5 (c_.map dU8)]) (fun a_ b_ c_=>(c_=zcz sep (l.take (a_+1)))∧(c_.length≤(a_+1)*1000+zae (l.take (a_+1)))∧(a_=0∨c_≠[])) (fun a_ b_ c_=>l.length-a_) 0 bv9 ([]++x1.data.toList) rfl (sa rfl) HSub.rfl' ⟨by rw[joinL_one hx1];rfl,by have:zae (l.take 1)=zae (l.take 0)+_:=zcM hx1;show _≤(0+1)*1000+zae (l.take 1);(try simp only[la,ln,zbr]);omega,.inl rfl⟩ ?_)))))))))))
           rintro j ov bs ⟨hbs,hlb,hne⟩
           refine ja J (jn J ?_)
           have hld:(l.drop 1).length=l.length-1:=List.length_drop
           refine jT J (oP J (za2 J J J) (oZ J (jS J ?_)))
           refine jD J (fun hc10=>?_) (fun hc10=>?_)
           · skip
             refine zp J (zn (jS J (jB J (jT J ?_))))
             obtain ⟨x3,hx3⟩:=zak (l.drop 1) j (by (try simp only[ld]);omega)
             have hsj:=zdK l (j+2)
             have hsx:zae (l.take (j+2))=zae (l.take (j+1))+x3.size:=zcM (show l[j+1]?=some x3 by have hx:=hx3;rw[List.getElem?_drop,Nat.add_comm 1 j] at hx;exact hx)
             refine oP J (zA (k:=j) J J Tryz.runUnderlying23 Tryz.sizeOf9 (by first | rfl | omega) (zap hx3)) (oP rfl (zaG rfl Tryz.isAgg9 rfl) (oR 1 rfl (oZ rfl (jT rfl (oR 1 rfl (oE rfl (zk [.bx g7 213 (.agg [dP g7 0,.ov ov]),.sl ov 1 5 (bs.map dU8)] [] [] rfl rfl (.cons ArgC.id (.cons ArgC.id .nil)) zh Tryz.call171 (zbW g7 (.pointer (some ⟨g7,0,none⟩)) ov bs sep (.inr rfl) (by (try simp only[la,lc,ln,zbr]);omega) (by first | decide | omega)) (.inl rfl)) ?_))))))
             rintro _ _ ⟨_,⟨bv11,rfl,rfl⟩,rfl⟩
             refine on J (oZ J (zf J (oR 1 J (oE J (zk [.bx g7 213 (.agg [dP g7 0,.ov bv11]),.sl bv11 1 5 ((bs++sep.data.toList).map dU8)] [] [] J J (.cons ArgC.id (.cons ArgC.id .nil)) zh Tryz.call171 (zbW g7 (.pointer (some ⟨g7,0,none⟩)) bv11 (bs++sep.data.toList) x3 (.inr J) (by (try simp only[la,lc,ln,zbr]);omega) (by first | decide | omega)) (.inl rfl)) ?_))))
             rintro _ _ ⟨_,⟨bv12,rfl,rfl⟩,rfl⟩
             refine on J (zr J (zE (zn (zf J (oP J (zbI (c:=((j+1:Nat):Int)) J J (zaL (by omega) (by omega))) (oR 1 rfl (zr rfl ?_)))))))
             exact pl3 (j+1) bv12 ((bs++sep.data.toList)++x3.data.toList) (sa J) HSub.rfl' ⟨by have hx:=hx3;rw[List.getElem?_drop,Nat.add_comm 1 j] at hx;rw[joinL_take hx,hbs],by have hx:=hx3;rw[List.getElem?_drop,Nat.add_comm 1 j] at hx;show _≤(j+1+1)*1000+zae (l.take (j+2));(try simp only[la,zbr]);omega,.inr (by intro e;have:=congrArg List.length e;simp only[la,zbr,ln] at this;omega)⟩ (by omega)
           · skip
             refine zat J (zL (zH (zD (zn (jT J (oE J (zk [.bx g7 213 (.agg [dP g7 0,.ov ov]),.sl ov 1 5 (bs.map dU8)] [] [] J J (.cons ArgC.id .nil) zh Tryz.call173 (String_c g7 (.pointer (some ⟨g7,0,none⟩)) ov bs (hne.resolve_left (by omega))) (.inl rfl)) ?_))))))
             rintro _ _ ⟨_,⟨rfl,rfl⟩,rfl⟩
             refine on J (oR 1 J (oZ J (zo J ?_)))
             exact zi Tryz.results149 (.cons (zt (zl J) (Cv.eq (congrArg D.s (by exact joinB_all hbs (by omega))))) .nil) rfl HSub.none ⟨rfl,rfl⟩
     · skip
       exfalso;omega
end Lp
