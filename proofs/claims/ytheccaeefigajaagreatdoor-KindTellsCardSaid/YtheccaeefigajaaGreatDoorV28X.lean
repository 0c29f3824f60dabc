import Derived.Test.YtheccaeefigajaaGreatDoorV31
set_option linter.unusedSimpArgs false
set_option linter.unusedVariables false
set_option maxHeartbeats 4000000
set_option maxRecDepth 100000
namespace Lp
open Go Go.RowKit Go.Proofs
abbrev zE (a0 a1:Value):D:=.agg [.ov a0,.ov a1,dZ,dZ,dZ,dZ,dZ,dZ,dZ,dZ,dZ,dZ,dZ,dZ,dZ,dZ,dZ,dZ,dZ,dZ]
namespace HdYtheccaeefigajaaGreatDoorV28X
theorem zbV (b o:Nat):∀ w,(Instr.fieldAt 48 (.pointer (some ⟨b,o,none⟩)) 0).run Tryz.prog w=.ok (.pointer (some ⟨b,o+0,none⟩)) w:=fun _=>by kernel_rfl
theorem fa_48_10 (b o:Nat):∀ w,(Instr.fieldAt 48 (.pointer (some ⟨b,o,none⟩)) 10).run Tryz.prog w=.ok (.pointer (some ⟨b,o+10,none⟩)) w:=fun _=>by kernel_rfl
theorem fa_48_12 (b o:Nat):∀ w,(Instr.fieldAt 48 (.pointer (some ⟨b,o,none⟩)) 12).run Tryz.prog w=.ok (.pointer (some ⟨b,o+12,none⟩)) w:=fun _=>by kernel_rfl
theorem fa_48_14 (b o:Nat):∀ w,(Instr.fieldAt 48 (.pointer (some ⟨b,o,none⟩)) 14).run Tryz.prog w=.ok (.pointer (some ⟨b,o+14,none⟩)) w:=fun _=>by kernel_rfl
theorem fa_48_16 (b o:Nat):∀ w,(Instr.fieldAt 48 (.pointer (some ⟨b,o,none⟩)) 16).run Tryz.prog w=.ok (.pointer (some ⟨b,o+16,none⟩)) w:=fun _=>by kernel_rfl
theorem fa_48_18 (b o:Nat):∀ w,(Instr.fieldAt 48 (.pointer (some ⟨b,o,none⟩)) 18).run Tryz.prog w=.ok (.pointer (some ⟨b,o+18,none⟩)) w:=fun _=>by kernel_rfl
theorem fa_48_2 (b o:Nat):∀ w,(Instr.fieldAt 48 (.pointer (some ⟨b,o,none⟩)) 2).run Tryz.prog w=.ok (.pointer (some ⟨b,o+2,none⟩)) w:=fun _=>by kernel_rfl
theorem fa_48_4 (b o:Nat):∀ w,(Instr.fieldAt 48 (.pointer (some ⟨b,o,none⟩)) 4).run Tryz.prog w=.ok (.pointer (some ⟨b,o+4,none⟩)) w:=fun _=>by kernel_rfl
theorem fa_48_6 (b o:Nat):∀ w,(Instr.fieldAt 48 (.pointer (some ⟨b,o,none⟩)) 6).run Tryz.prog w=.ok (.pointer (some ⟨b,o+6,none⟩)) w:=fun _=>by kernel_rfl
theorem fa_48_8 (b o:Nat):∀ w,(Instr.fieldAt 48 (.pointer (some ⟨b,o,none⟩)) 8).run Tryz.prog w=.ok (.pointer (some ⟨b,o+8,none⟩)) w:=fun _=>by kernel_rfl
end HdYtheccaeefigajaaGreatDoorV28X
open HdYtheccaeefigajaaGreatDoorV28X
theorem stillInts_0 (gb:Nat) (c0 c1 c3 c4 c5 c6 c7 c8 c9 c10 c11 c12 c13 c14 c15 c16 c17 c18 c19:D) :
 CD Tryz.prog 49 [.bx gb 48 (.agg [c0,c1,dZ,c3,c4,c5,c6,c7,c8,c9,c10,c11,c12,c13,c14,c15,c16,c17,c18,c19])] [dP gb 0] (fun r H'=>r=dB true∧H'=[.bx gb 48 (.agg [c0,c1,dZ,c3,c4,c5,c6,c7,c8,c9,c10,c11,c12,c13,c14,c15,c16,c17,c18,c19])]):=by
 refine zp Tryz.func49 J (N:=29) J J (fun C=>?_)
 refine jk [0] J (jT J (oR 1 J (oZ J (jS J (jT J (oR 1 J (oZ J (jB J (jl1 (fun (_:Unit)=>[(0,dP gb 0),(3,dI 0)]) (fun _=>[.bx gb 48 (.agg [c0,c1,dZ,c3,c4,c5,c6,c7,c8,c9,c10,c11,c12,c13,c14,c15,c16,c17,c18,c19])]) (fun _=>True) (fun _=>0) () J (sa J) HSub.rfl' trivial ?_)))))))))
 rintro _ _
 refine ja J (jn J (jS J (jT J (oR 3 J (oP J (zd J fa_48_2 J) (oP J (ze J (i:=0) J Tryz.isAgg38 J) (oP J (z1 (n:=0) J ⟨_,_,J⟩ Tryz.runUnderlying38) (oP J (zN J J J) (oZ J ?_)))))))))
 refine jD J (fun hc1=>?_) (fun hc1=>?_)
 · skip
   exfalso;omega
 · skip
   refine zF J (zw (zu (zr (zj (jk [] J (jT J (oR 1 J (oZ J (zn J ?_)))))))))
   exact zh Tryz.results49 (.cons (zl J) .nil) J HSub.rfl' ⟨rfl,J⟩
theorem putInts_0 (gb:Nat) (c0 c1 c3 c4 c5 c6 c7 c8 c9 c10 c11 c12 c13 c14 c15 c16 c17 c18 c19:D) :
 CD Tryz.prog 61 [.bx gb 48 (.agg [c0,c1,dZ,c3,c4,c5,c6,c7,c8,c9,c10,c11,c12,c13,c14,c15,c16,c17,c18,c19])] [dP gb 0] (fun r H'=>r=.tup []∧H'=[.bx gb 48 (.agg [c0,c1,dZ,c3,c4,c5,c6,c7,c8,c9,c10,c11,c12,c13,c14,c15,c16,c17,c18,c19])]):=by
 refine zp Tryz.func61 J (N:=43) J J (fun C=>?_)
 refine jk [0] J (jT J (oR 1 J (oZ J (jB J (jl1 (fun (_:Unit)=>[(0,dP gb 0),(2,dI 0)]) (fun _=>[.bx gb 48 (.agg [c0,c1,dZ,c3,c4,c5,c6,c7,c8,c9,c10,c11,c12,c13,c14,c15,c16,c17,c18,c19])]) (fun _=>True) (fun _=>0) () J (sa J) HSub.rfl' trivial ?_)))))
 rintro _ _
 refine ja J (jn J (jS J (jT J (oR 3 J (oP J (zd J fa_48_2 J) (oP J (ze J (i:=0) J Tryz.isAgg38 J) (oP J (z1 (n:=0) J ⟨_,_,J⟩ Tryz.runUnderlying38) (oP J (zN J J J) (oZ J ?_)))))))))
 refine jD J (fun hc1=>?_) (fun hc1=>?_)
 · skip
   exfalso;omega
 · skip
   refine zF J (zw (zu (zr ?_)))
   exact zbU Tryz.results61 .nil J HSub.rfl' ⟨rfl,J⟩
theorem growInts_0 (gb:Nat) (c0 c1 c3 c4 c5 c6 c7 c8 c9 c10 c11 c12 c13 c14 c15 c16 c17 c18 c19:D) :
 CD Tryz.prog 69 [.bx gb 48 (.agg [c0,c1,dZ,c3,c4,c5,c6,c7,c8,c9,c10,c11,c12,c13,c14,c15,c16,c17,c18,c19])] [dP gb 0] (fun r H'=>r=dZ∧H'=[.bx gb 48 (.agg [c0,c1,dZ,c3,c4,c5,c6,c7,c8,c9,c10,c11,c12,c13,c14,c15,c16,c17,c18,c19])]):=by
 refine zp Tryz.func69 J (N:=43) J J (fun C=>?_)
 refine jk [0] J (jT J (oR 1 J (oZ J (jT J (oR 1 J (oZ J (jS J (jT J (oR 1 J (oZ J (jB J (jl1 (fun (_:Unit)=>[(0,dP gb 0),(2,dZ),(4,dI 0),(3,dZ)]) (fun _=>[.bx gb 48 (.agg [c0,c1,dZ,c3,c4,c5,c6,c7,c8,c9,c10,c11,c12,c13,c14,c15,c16,c17,c18,c19])]) (fun _=>True) (fun _=>0) () J (sa J) HSub.rfl' trivial ?_))))))))))))
 rintro _ _
 refine ja J (jn J (jS J (jT J (oR 3 J (oP J (zd J fa_48_2 J) (oP J (ze J (i:=0) J Tryz.isAgg38 J) (oP J (z1 (n:=0) J ⟨_,_,J⟩ Tryz.runUnderlying38) (oP J (zN J J J) (oZ J ?_)))))))))
 refine jD J (fun hc1=>?_) (fun hc1=>?_)
 · skip
   exfalso;omega
 · skip
   refine zF J (zw (zu (zr (zj (jk [2,3] J (jT J (oR 2 J (oZ J (zn J ?_)))))))))
   exact zh Tryz.results69 (.cons (zl J) .nil) J HSub.rfl' ⟨rfl,J⟩
theorem markedInts_0  :
 CD Tryz.prog 79 [] [dZ] (isR (dB true)):=by
 refine zp Tryz.func79 J (N:=23) J J (fun C=>?_)
 refine jk [0] J (jT J (oR 1 J (oZ J (jS J (jT J (oR 1 J (oZ J (jB J (jl1 (fun (_:Unit)=>[(0,dZ),(3,dI 0)]) (fun _=>[]) (fun _=>True) (fun _=>0) () J (sa J) HSub.rfl' trivial ?_)))))))))
 rintro _ _
 refine ja J (jn J (jS J (jT J (oR 2 J (oP J (z1 (n:=0) J ⟨_,_,J⟩ Tryz.runUnderlying38) (oP J (zN J J J) (oZ J ?_)))))))
 refine jD J (fun hc1=>?_) (fun hc1=>?_)
 · skip
   exfalso;omega
 · skip
   refine zF J (zw (zu (zr (zj (jT J (oR 1 J (oZ J (zn J ?_))))))))
   exact zh Tryz.results79 (.cons (zl J) .nil) J HSub.rfl' ⟨rfl,J⟩
theorem stillRunes_0 (gb:Nat) (c0 c1 c2 c3 c5 c6 c7 c8 c9 c10 c11 c12 c13 c14 c15 c16 c17 c18 c19:D) :
 CD Tryz.prog 50 [.bx gb 48 (.agg [c0,c1,c2,c3,dZ,c5,c6,c7,c8,c9,c10,c11,c12,c13,c14,c15,c16,c17,c18,c19])] [dP gb 0] (fun r H'=>r=dB true∧H'=[.bx gb 48 (.agg [c0,c1,c2,c3,dZ,c5,c6,c7,c8,c9,c10,c11,c12,c13,c14,c15,c16,c17,c18,c19])]):=by
 refine zp Tryz.func50 J (N:=29) J J (fun C=>?_)
 refine jk [0] J (jT J (oR 1 J (oZ J (jS J (jT J (oR 1 J (oZ J (jB J (jl1 (fun (_:Unit)=>[(0,dP gb 0),(3,dI 0)]) (fun _=>[.bx gb 48 (.agg [c0,c1,c2,c3,dZ,c5,c6,c7,c8,c9,c10,c11,c12,c13,c14,c15,c16,c17,c18,c19])]) (fun _=>True) (fun _=>0) () J (sa J) HSub.rfl' trivial ?_)))))))))
 rintro _ _
 refine ja J (jn J (jS J (jT J (oR 3 J (oP J (zd J fa_48_4 J) (oP J (ze J (i:=0) J Tryz.isAgg39 J) (oP J (z1 (n:=0) J ⟨_,_,J⟩ Tryz.runUnderlying39) (oP J (zN J J J) (oZ J ?_)))))))))
 refine jD J (fun hc1=>?_) (fun hc1=>?_)
 · skip
   exfalso;omega
 · skip
   refine zF J (zw (zu (zr (zj (jk [] J (jT J (oR 1 J (oZ J (zn J ?_)))))))))
   exact zh Tryz.results50 (.cons (zl J) .nil) J HSub.rfl' ⟨rfl,J⟩
theorem putRunes_0 (gb:Nat) (c0 c1 c2 c3 c5 c6 c7 c8 c9 c10 c11 c12 c13 c14 c15 c16 c17 c18 c19:D) :
 CD Tryz.prog 62 [.bx gb 48 (.agg [c0,c1,c2,c3,dZ,c5,c6,c7,c8,c9,c10,c11,c12,c13,c14,c15,c16,c17,c18,c19])] [dP gb 0] (fun r H'=>r=.tup []∧H'=[.bx gb 48 (.agg [c0,c1,c2,c3,dZ,c5,c6,c7,c8,c9,c10,c11,c12,c13,c14,c15,c16,c17,c18,c19])]):=by
 refine zp Tryz.func62 J (N:=43) J J (fun C=>?_)
 refine jk [0] J (jT J (oR 1 J (oZ J (jB J (jl1 (fun (_:Unit)=>[(0,dP gb 0),(2,dI 0)]) (fun _=>[.bx gb 48 (.agg [c0,c1,c2,c3,dZ,c5,c6,c7,c8,c9,c10,c11,c12,c13,c14,c15,c16,c17,c18,c19])]) (fun _=>True) (fun _=>0) () J (sa J) HSub.rfl' trivial ?_)))))
 rintro _ _
 refine ja J (jn J (jS J (jT J (oR 3 J (oP J (zd J fa_48_4 J) (oP J (ze J (i:=0) J Tryz.isAgg39 J) (oP J (z1 (n:=0) J ⟨_,_,J⟩ Tryz.runUnderlying39) (oP J (zN J J J) (oZ J ?_)))))))))
 refine jD J (fun hc1=>?_) (fun hc1=>?_)
 · skip
   exfalso;omega
 · skip
   refine zF J (zw (zu (zr ?_)))
   exact zbU Tryz.results62 .nil J HSub.rfl' ⟨rfl,J⟩
theorem growRunes_0 (gb:Nat) (c0 c1 c2 c3 c5 c6 c7 c8 c9 c10 c11 c12 c13 c14 c15 c16 c17 c18 c19:D) :
 CD Tryz.prog 70 [.bx gb 48 (.agg [c0,c1,c2,c3,dZ,c5,c6,c7,c8,c9,c10,c11,c12,c13,c14,c15,c16,c17,c18,c19])] [dP gb 0] (fun r H'=>r=dZ∧H'=[.bx gb 48 (.agg [c0,c1,c2,c3,dZ,c5,c6,c7,c8,c9,c10,c11,c12,c13,c14,c15,c16,c17,c18,c19])]):=by
 refine zp Tryz.func70 J (N:=43) J J (fun C=>?_)
 refine jk [0] J (jT J (oR 1 J (oZ J (jT J (oR 1 J (oZ J (jS J (jT J (oR 1 J (oZ J (jB J (jl1 (fun (_:Unit)=>[(0,dP gb 0),(2,dZ),(4,dI 0),(3,dZ)]) (fun _=>[.bx gb 48 (.agg [c0,c1,c2,c3,dZ,c5,c6,c7,c8,c9,c10,c11,c12,c13,c14,c15,c16,c17,c18,c19])]) (fun _=>True) (fun _=>0) () J (sa J) HSub.rfl' trivial ?_))))))))))))
 rintro _ _
 refine ja J (jn J (jS J (jT J (oR 3 J (oP J (zd J fa_48_4 J) (oP J (ze J (i:=0) J Tryz.isAgg39 J) (oP J (z1 (n:=0) J ⟨_,_,J⟩ Tryz.runUnderlying39) (oP J (zN J J J) (oZ J ?_)))))))))
 refine jD J (fun hc1=>?_) (fun hc1=>?_)
 · skip
   exfalso;omega
 · skip
   refine zF J (zw (zu (zr (zj (jk [2,3] J (jT J (oR 2 J (oZ J (zn J ?_)))))))))
   exact zh Tryz.results70 (.cons (zl J) .nil) J HSub.rfl' ⟨rfl,J⟩
theorem markedRunes_0  :
 CD Tryz.prog 80 [] [dZ] (isR (dB true)):=by
 refine zp Tryz.func80 J (N:=23) J J (fun C=>?_)
 refine jk [0] J (jT J (oR 1 J (oZ J (jS J (jT J (oR 1 J (oZ J (jB J (jl1 (fun (_:Unit)=>[(0,dZ),(3,dI 0)]) (fun _=>[]) (fun _=>True) (fun _=>0) () J (sa J) HSub.rfl' trivial ?_)))))))))
 rintro _ _
 refine ja J (jn J (jS J (jT J (oR 2 J (oP J (z1 (n:=0) J ⟨_,_,J⟩ Tryz.runUnderlying39) (oP J (zN J J J) (oZ J ?_)))))))
 refine jD J (fun hc1=>?_) (fun hc1=>?_)
 · skip
   exfalso;omega
 · skip
   refine zF J (zw (zu (zr (zj (jT J (oR 1 J (oZ J (zn J ?_))))))))
   exact zh Tryz.results80 (.cons (zl J) .nil) J HSub.rfl' ⟨rfl,J⟩
theorem stillLabels_0 (gb:Nat) (c0 c1 c2 c3 c4 c5 c7 c8 c9 c10 c11 c12 c13 c14 c15 c16 c17 c18 c19:D) :
 CD Tryz.prog 51 [.bx gb 48 (.agg [c0,c1,c2,c3,c4,c5,dZ,c7,c8,c9,c10,c11,c12,c13,c14,c15,c16,c17,c18,c19])] [dP gb 0] (fun r H'=>r=dB true∧H'=[.bx gb 48 (.agg [c0,c1,c2,c3,c4,c5,dZ,c7,c8,c9,c10,c11,c12,c13,c14,c15,c16,c17,c18,c19])]):=by
 refine zp Tryz.func51 J (N:=29) J J (fun C=>?_)
 refine jk [0] J (jT J (oR 1 J (oZ J (jS J (jT J (oR 1 J (oZ J (jB J (jl1 (fun (_:Unit)=>[(0,dP gb 0),(3,dI 0)]) (fun _=>[.bx gb 48 (.agg [c0,c1,c2,c3,c4,c5,dZ,c7,c8,c9,c10,c11,c12,c13,c14,c15,c16,c17,c18,c19])]) (fun _=>True) (fun _=>0) () J (sa J) HSub.rfl' trivial ?_)))))))))
 rintro _ _
 refine ja J (jn J (jS J (jT J (oR 3 J (oP J (zd J fa_48_6 J) (oP J (ze J (i:=0) J Tryz.isAgg40 J) (oP J (z1 (n:=0) J ⟨_,_,J⟩ Tryz.runUnderlying40) (oP J (zN J J J) (oZ J ?_)))))))))
 refine jD J (fun hc1=>?_) (fun hc1=>?_)
 · skip
   exfalso;omega
 · skip
   refine zF J (zw (zu (zr (zj (jk [] J (jT J (oR 1 J (oZ J (zn J ?_)))))))))
   exact zh Tryz.results51 (.cons (zl J) .nil) J HSub.rfl' ⟨rfl,J⟩
theorem putLabels_0 (gb:Nat) (c0 c1 c2 c3 c4 c5 c7 c8 c9 c10 c11 c12 c13 c14 c15 c16 c17 c18 c19:D) :
 CD Tryz.prog 63 [.bx gb 48 (.agg [c0,c1,c2,c3,c4,c5,dZ,c7,c8,c9,c10,c11,c12,c13,c14,c15,c16,c17,c18,c19])] [dP gb 0] (fun r H'=>r=.tup []∧H'=[.bx gb 48 (.agg [c0,c1,c2,c3,c4,c5,dZ,c7,c8,c9,c10,c11,c12,c13,c14,c15,c16,c17,c18,c19])]):=by
 refine zp Tryz.func63 J (N:=43) J J (fun C=>?_)
 refine jk [0] J (jT J (oR 1 J (oZ J (jB J (jl1 (fun (_:Unit)=>[(0,dP gb 0),(2,dI 0)]) (fun _=>[.bx gb 48 (.agg [c0,c1,c2,c3,c4,c5,dZ,c7,c8,c9,c10,c11,c12,c13,c14,c15,c16,c17,c18,c19])]) (fun _=>True) (fun _=>0) () J (sa J) HSub.rfl' trivial ?_)))))
 rintro _ _
 refine ja J (jn J (jS J (jT J (oR 3 J (oP J (zd J fa_48_6 J) (oP J (ze J (i:=0) J Tryz.isAgg40 J) (oP J (z1 (n:=0) J ⟨_,_,J⟩ Tryz.runUnderlying40) (oP J (zN J J J) (oZ J ?_)))))))))
 refine jD J (fun hc1=>?_) (fun hc1=>?_)
 · skip
   exfalso;omega
 · skip
   refine zF J (zw (zu (zr ?_)))
   exact zbU Tryz.results63 .nil J HSub.rfl' ⟨rfl,J⟩
theorem growLabels_0 (gb:Nat) (c0 c1 c2 c3 c4 c5 c7 c8 c9 c10 c11 c12 c13 c14 c15 c16 c17 c18 c19:D) :
 CD Tryz.prog 71 [.bx gb 48 (.agg [c0,c1,c2,c3,c4,c5,dZ,c7,c8,c9,c10,c11,c12,c13,c14,c15,c16,c17,c18,c19])] [dP gb 0] (fun r H'=>r=dZ∧H'=[.bx gb 48 (.agg [c0,c1,c2,c3,c4,c5,dZ,c7,c8,c9,c10,c11,c12,c13,c14,c15,c16,c17,c18,c19])]):=by
 refine zp Tryz.func71 J (N:=43) J J (fun C=>?_)
 refine jk [0] J (jT J (oR 1 J (oZ J (jT J (oR 1 J (oZ J (jS J (jT J (oR 1 J (oZ J (jB J (jl1 (fun (_:Unit)=>[(0,dP gb 0),(2,dZ),(4,dI 0),(3,dZ)]) (fun _=>[.bx gb 48 (.agg [c0,c1,c2,c3,c4,c5,dZ,c7,c8,c9,c10,c11,c12,c13,c14,c15,c16,c17,c18,c19])]) (fun _=>True) (fun _=>0) () J (sa J) HSub.rfl' trivial ?_))))))))))))
 rintro _ _
 refine ja J (jn J (jS J (jT J (oR 3 J (oP J (zd J fa_48_6 J) (oP J (ze J (i:=0) J Tryz.isAgg40 J) (oP J (z1 (n:=0) J ⟨_,_,J⟩ Tryz.runUnderlying40) (oP J (zN J J J) (oZ J ?_)))))))))
 refine jD J (fun hc1=>?_) (fun hc1=>?_)
 · skip
   exfalso;omega
 · skip
   refine zF J (zw (zu (zr (zj (jk [2,3] J (jT J (oR 2 J (oZ J (zn J ?_)))))))))
   exact zh Tryz.results71 (.cons (zl J) .nil) J HSub.rfl' ⟨rfl,J⟩
theorem markedLabels_0  :
 CD Tryz.prog 81 [] [dZ] (isR (dB true)):=by
 refine zp Tryz.func81 J (N:=23) J J (fun C=>?_)
 refine jk [0] J (jT J (oR 1 J (oZ J (jS J (jT J (oR 1 J (oZ J (jB J (jl1 (fun (_:Unit)=>[(0,dZ),(3,dI 0)]) (fun _=>[]) (fun _=>True) (fun _=>0) () J (sa J) HSub.rfl' trivial ?_)))))))))
 rintro _ _
 refine ja J (jn J (jS J (jT J (oR 2 J (oP J (z1 (n:=0) J ⟨_,_,J⟩ Tryz.runUnderlying40) (oP J (zN J J J) (oZ J ?_)))))))
 refine jD J (fun hc1=>?_) (fun hc1=>?_)
 · skip
   exfalso;omega
 · skip
   refine zF J (zw (zu (zr (zj (jT J (oR 1 J (oZ J (zn J ?_))))))))
   exact zh Tryz.results81 (.cons (zl J) .nil) J HSub.rfl' ⟨rfl,J⟩
theorem stillPoints_0 (gb:Nat) (c0 c1 c2 c3 c4 c5 c6 c7 c9 c10 c11 c12 c13 c14 c15 c16 c17 c18 c19:D) :
 CD Tryz.prog 52 [.bx gb 48 (.agg [c0,c1,c2,c3,c4,c5,c6,c7,dZ,c9,c10,c11,c12,c13,c14,c15,c16,c17,c18,c19])] [dP gb 0] (fun r H'=>r=dB true∧H'=[.bx gb 48 (.agg [c0,c1,c2,c3,c4,c5,c6,c7,dZ,c9,c10,c11,c12,c13,c14,c15,c16,c17,c18,c19])]):=by
 refine zp Tryz.func52 J (N:=29) J J (fun C=>?_)
 refine jk [0] J (jT J (oR 1 J (oZ J (jS J (jT J (oR 1 J (oZ J (jB J (jl1 (fun (_:Unit)=>[(0,dP gb 0),(3,dI 0)]) (fun _=>[.bx gb 48 (.agg [c0,c1,c2,c3,c4,c5,c6,c7,dZ,c9,c10,c11,c12,c13,c14,c15,c16,c17,c18,c19])]) (fun _=>True) (fun _=>0) () J (sa J) HSub.rfl' trivial ?_)))))))))
 rintro _ _
 refine ja J (jn J (jS J (jT J (oR 3 J (oP J (zd J fa_48_8 J) (oP J (ze J (i:=0) J Tryz.isAgg41 J) (oP J (z1 (n:=0) J ⟨_,_,J⟩ Tryz.runUnderlying41) (oP J (zN J J J) (oZ J ?_)))))))))
 refine jD J (fun hc1=>?_) (fun hc1=>?_)
 · skip
   exfalso;omega
 · skip
   refine zF J (zw (zu (zr (zj (jk [] J (jT J (oR 1 J (oZ J (zn J ?_)))))))))
   exact zh Tryz.results52 (.cons (zl J) .nil) J HSub.rfl' ⟨rfl,J⟩
theorem putPoints_0 (gb:Nat) (c0 c1 c2 c3 c4 c5 c6 c7 c9 c10 c11 c12 c13 c14 c15 c16 c17 c18 c19:D) :
 CD Tryz.prog 64 [.bx gb 48 (.agg [c0,c1,c2,c3,c4,c5,c6,c7,dZ,c9,c10,c11,c12,c13,c14,c15,c16,c17,c18,c19])] [dP gb 0] (fun r H'=>r=.tup []∧H'=[.bx gb 48 (.agg [c0,c1,c2,c3,c4,c5,c6,c7,dZ,c9,c10,c11,c12,c13,c14,c15,c16,c17,c18,c19])]):=by
 refine zp Tryz.func64 J (N:=43) J J (fun C=>?_)
 refine jk [0] J (jT J (oR 1 J (oZ J (jB J (jl1 (fun (_:Unit)=>[(0,dP gb 0),(2,dI 0)]) (fun _=>[.bx gb 48 (.agg [c0,c1,c2,c3,c4,c5,c6,c7,dZ,c9,c10,c11,c12,c13,c14,c15,c16,c17,c18,c19])]) (fun _=>True) (fun _=>0) () J (sa J) HSub.rfl' trivial ?_)))))
 rintro _ _
 refine ja J (jn J (jS J (jT J (oR 3 J (oP J (zd J fa_48_8 J) (oP J (ze J (i:=0) J Tryz.isAgg41 J) (oP J (z1 (n:=0) J ⟨_,_,J⟩ Tryz.runUnderlying41) (oP J (zN J J J) (oZ J ?_)))))))))
 refine jD J (fun hc1=>?_) (fun hc1=>?_)
 · skip
   exfalso;omega
 · skip
   refine zF J (zw (zu (zr ?_)))
   exact zbU Tryz.results64 .nil J HSub.rfl' ⟨rfl,J⟩
theorem growPoints_0 (gb:Nat) (c0 c1 c2 c3 c4 c5 c6 c7 c9 c10 c11 c12 c13 c14 c15 c16 c17 c18 c19:D) :
 CD Tryz.prog 72 [.bx gb 48 (.agg [c0,c1,c2,c3,c4,c5,c6,c7,dZ,c9,c10,c11,c12,c13,c14,c15,c16,c17,c18,c19])] [dP gb 0] (fun r H'=>r=dZ∧H'=[.bx gb 48 (.agg [c0,c1,c2,c3,c4,c5,c6,c7,dZ,c9,c10,c11,c12,c13,c14,c15,c16,c17,c18,c19])]):=by
 refine zp Tryz.func72 J (N:=43) J J (fun C=>?_)
 refine jk [0] J (jT J (oR 1 J (oZ J (jT J (oR 1 J (oZ J (jS J (jT J (oR 1 J (oZ J (jB J (jl1 (fun (_:Unit)=>[(0,dP gb 0),(2,dZ),(4,dI 0),(3,dZ)]) (fun _=>[.bx gb 48 (.agg [c0,c1,c2,c3,c4,c5,c6,c7,dZ,c9,c10,c11,c12,c13,c14,c15,c16,c17,c18,c19])]) (fun _=>True) (fun _=>0) () J (sa J) HSub.rfl' trivial ?_))))))))))))
 rintro _ _
 refine ja J (jn J (jS J (jT J (oR 3 J (oP J (zd J fa_48_8 J) (oP J (ze J (i:=0) J Tryz.isAgg41 J) (oP J (z1 (n:=0) J ⟨_,_,J⟩ Tryz.runUnderlying41) (oP J (zN J J J) (oZ J ?_)))))))))
 refine jD J (fun hc1=>?_) (fun hc1=>?_)
 · skip
   exfalso;omega
 · skip
   refine zF J (zw (zu (zr (zj (jk [2,3] J (jT J (oR 2 J (oZ J (zn J ?_)))))))))
   exact zh Tryz.results72 (.cons (zl J) .nil) J HSub.rfl' ⟨rfl,J⟩
theorem markedPoints_0  :
 CD Tryz.prog 82 [] [dZ] (isR (dB true)):=by
 refine zp Tryz.func82 J (N:=23) J J (fun C=>?_)
 refine jk [0] J (jT J (oR 1 J (oZ J (jS J (jT J (oR 1 J (oZ J (jB J (jl1 (fun (_:Unit)=>[(0,dZ),(3,dI 0)]) (fun _=>[]) (fun _=>True) (fun _=>0) () J (sa J) HSub.rfl' trivial ?_)))))))))
 rintro _ _
 refine ja J (jn J (jS J (jT J (oR 2 J (oP J (z1 (n:=0) J ⟨_,_,J⟩ Tryz.runUnderlying41) (oP J (zN J J J) (oZ J ?_)))))))
 refine jD J (fun hc1=>?_) (fun hc1=>?_)
 · skip
   exfalso;omega
 · skip
   refine zF J (zw (zu (zr (zj (jT J (oR 1 J (oZ J (zn J ?_))))))))
   exact zh Tryz.results82 (.cons (zl J) .nil) J HSub.rfl' ⟨rfl,J⟩
theorem stillTokens_0 (gb:Nat) (c0 c1 c2 c3 c4 c5 c6 c7 c8 c9 c11 c12 c13 c14 c15 c16 c17 c18 c19:D) :
 CD Tryz.prog 53 [.bx gb 48 (.agg [c0,c1,c2,c3,c4,c5,c6,c7,c8,c9,dZ,c11,c12,c13,c14,c15,c16,c17,c18,c19])] [dP gb 0] (fun r H'=>r=dB true∧H'=[.bx gb 48 (.agg [c0,c1,c2,c3,c4,c5,c6,c7,c8,c9,dZ,c11,c12,c13,c14,c15,c16,c17,c18,c19])]):=by
 refine zp Tryz.func53 J (N:=29) J J (fun C=>?_)
 refine jk [0] J (jT J (oR 1 J (oZ J (jS J (jT J (oR 1 J (oZ J (jB J (jl1 (fun (_:Unit)=>[(0,dP gb 0),(3,dI 0)]) (fun _=>[.bx gb 48 (.agg [c0,c1,c2,c3,c4,c5,c6,c7,c8,c9,dZ,c11,c12,c13,c14,c15,c16,c17,c18,c19])]) (fun _=>True) (fun _=>0) () J (sa J) HSub.rfl' trivial ?_)))))))))
 rintro _ _
 refine ja J (jn J (jS J (jT J (oR 3 J (oP J (zd J fa_48_10 J) (oP J (ze J (i:=0) J Tryz.isAgg42 J) (oP J (z1 (n:=0) J ⟨_,_,J⟩ Tryz.runUnderlying42) (oP J (zN J J J) (oZ J ?_)))))))))
 refine jD J (fun hc1=>?_) (fun hc1=>?_)
 · skip
   exfalso;omega
 · skip
   refine zF J (zw (zu (zr (zj (jk [] J (jT J (oR 1 J (oZ J (zn J ?_)))))))))
   exact zh Tryz.results53 (.cons (zl J) .nil) J HSub.rfl' ⟨rfl,J⟩
theorem putTokens_0 (gb:Nat) (c0 c1 c2 c3 c4 c5 c6 c7 c8 c9 c11 c12 c13 c14 c15 c16 c17 c18 c19:D) :
 CD Tryz.prog 65 [.bx gb 48 (.agg [c0,c1,c2,c3,c4,c5,c6,c7,c8,c9,dZ,c11,c12,c13,c14,c15,c16,c17,c18,c19])] [dP gb 0] (fun r H'=>r=.tup []∧H'=[.bx gb 48 (.agg [c0,c1,c2,c3,c4,c5,c6,c7,c8,c9,dZ,c11,c12,c13,c14,c15,c16,c17,c18,c19])]):=by
 refine zp Tryz.func65 J (N:=43) J J (fun C=>?_)
 refine jk [0] J (jT J (oR 1 J (oZ J (jB J (jl1 (fun (_:Unit)=>[(0,dP gb 0),(2,dI 0)]) (fun _=>[.bx gb 48 (.agg [c0,c1,c2,c3,c4,c5,c6,c7,c8,c9,dZ,c11,c12,c13,c14,c15,c16,c17,c18,c19])]) (fun _=>True) (fun _=>0) () J (sa J) HSub.rfl' trivial ?_)))))
 rintro _ _
 refine ja J (jn J (jS J (jT J (oR 3 J (oP J (zd J fa_48_10 J) (oP J (ze J (i:=0) J Tryz.isAgg42 J) (oP J (z1 (n:=0) J ⟨_,_,J⟩ Tryz.runUnderlying42) (oP J (zN J J J) (oZ J ?_)))))))))
 refine jD J (fun hc1=>?_) (fun hc1=>?_)
 · skip
   exfalso;omega
 · skip
   refine zF J (zw (zu (zr ?_)))
   exact zbU Tryz.results65 .nil J HSub.rfl' ⟨rfl,J⟩
theorem growTokens_0 (gb:Nat) (c0 c1 c2 c3 c4 c5 c6 c7 c8 c9 c11 c12 c13 c14 c15 c16 c17 c18 c19:D) :
 CD Tryz.prog 73 [.bx gb 48 (.agg [c0,c1,c2,c3,c4,c5,c6,c7,c8,c9,dZ,c11,c12,c13,c14,c15,c16,c17,c18,c19])] [dP gb 0] (fun r H'=>r=dZ∧H'=[.bx gb 48 (.agg [c0,c1,c2,c3,c4,c5,c6,c7,c8,c9,dZ,c11,c12,c13,c14,c15,c16,c17,c18,c19])]):=by
 refine zp Tryz.func73 J (N:=43) J J (fun C=>?_)
 refine jk [0] J (jT J (oR 1 J (oZ J (jT J (oR 1 J (oZ J (jS J (jT J (oR 1 J (oZ J (jB J (jl1 (fun (_:Unit)=>[(0,dP gb 0),(2,dZ),(4,dI 0),(3,dZ)]) (fun _=>[.bx gb 48 (.agg [c0,c1,c2,c3,c4,c5,c6,c7,c8,c9,dZ,c11,c12,c13,c14,c15,c16,c17,c18,c19])]) (fun _=>True) (fun _=>0) () J (sa J) HSub.rfl' trivial ?_))))))))))))
 rintro _ _
 refine ja J (jn J (jS J (jT J (oR 3 J (oP J (zd J fa_48_10 J) (oP J (ze J (i:=0) J Tryz.isAgg42 J) (oP J (z1 (n:=0) J ⟨_,_,J⟩ Tryz.runUnderlying42) (oP J (zN J J J) (oZ J ?_)))))))))
 refine jD J (fun hc1=>?_) (fun hc1=>?_)
 · skip
   exfalso;omega
 · skip
   refine zF J (zw (zu (zr (zj (jk [2,3] J (jT J (oR 2 J (oZ J (zn J ?_)))))))))
   exact zh Tryz.results73 (.cons (zl J) .nil) J HSub.rfl' ⟨rfl,J⟩
theorem markedTokens_0  :
 CD Tryz.prog 83 [] [dZ] (isR (dB true)):=by
 refine zp Tryz.func83 J (N:=23) J J (fun C=>?_)
 refine jk [0] J (jT J (oR 1 J (oZ J (jS J (jT J (oR 1 J (oZ J (jB J (jl1 (fun (_:Unit)=>[(0,dZ),(3,dI 0)]) (fun _=>[]) (fun _=>True) (fun _=>0) () J (sa J) HSub.rfl' trivial ?_)))))))))
 rintro _ _
 refine ja J (jn J (jS J (jT J (oR 2 J (oP J (z1 (n:=0) J ⟨_,_,J⟩ Tryz.runUnderlying42) (oP J (zN J J J) (oZ J ?_)))))))
 refine jD J (fun hc1=>?_) (fun hc1=>?_)
 · skip
   exfalso;omega
 · skip
   refine zF J (zw (zu (zr (zj (jT J (oR 1 J (oZ J (zn J ?_))))))))
   exact zh Tryz.results83 (.cons (zl J) .nil) J HSub.rfl' ⟨rfl,J⟩
theorem stillCursors_0 (gb:Nat) (c0 c1 c2 c3 c4 c5 c6 c7 c8 c9 c10 c11 c13 c14 c15 c16 c17 c18 c19:D) :
 CD Tryz.prog 54 [.bx gb 48 (.agg [c0,c1,c2,c3,c4,c5,c6,c7,c8,c9,c10,c11,dZ,c13,c14,c15,c16,c17,c18,c19])] [dP gb 0] (fun r H'=>r=dB true∧H'=[.bx gb 48 (.agg [c0,c1,c2,c3,c4,c5,c6,c7,c8,c9,c10,c11,dZ,c13,c14,c15,c16,c17,c18,c19])]):=by
 refine zp Tryz.func54 J (N:=29) J J (fun C=>?_)
 refine jk [0] J (jT J (oR 1 J (oZ J (jS J (jT J (oR 1 J (oZ J (jB J (jl1 (fun (_:Unit)=>[(0,dP gb 0),(3,dI 0)]) (fun _=>[.bx gb 48 (.agg [c0,c1,c2,c3,c4,c5,c6,c7,c8,c9,c10,c11,dZ,c13,c14,c15,c16,c17,c18,c19])]) (fun _=>True) (fun _=>0) () J (sa J) HSub.rfl' trivial ?_)))))))))
 rintro _ _
 refine ja J (jn J (jS J (jT J (oR 3 J (oP J (zd J fa_48_12 J) (oP J (ze J (i:=0) J Tryz.isAgg43 J) (oP J (z1 (n:=0) J ⟨_,_,J⟩ Tryz.runUnderlying43) (oP J (zN J J J) (oZ J ?_)))))))))
 refine jD J (fun hc1=>?_) (fun hc1=>?_)
 · skip
   exfalso;omega
 · skip
   refine zF J (zw (zu (zr (zj (jk [] J (jT J (oR 1 J (oZ J (zn J ?_)))))))))
   exact zh Tryz.results54 (.cons (zl J) .nil) J HSub.rfl' ⟨rfl,J⟩
theorem putCursors_0 (gb:Nat) (c0 c1 c2 c3 c4 c5 c6 c7 c8 c9 c10 c11 c13 c14 c15 c16 c17 c18 c19:D) :
 CD Tryz.prog 66 [.bx gb 48 (.agg [c0,c1,c2,c3,c4,c5,c6,c7,c8,c9,c10,c11,dZ,c13,c14,c15,c16,c17,c18,c19])] [dP gb 0] (fun r H'=>r=.tup []∧H'=[.bx gb 48 (.agg [c0,c1,c2,c3,c4,c5,c6,c7,c8,c9,c10,c11,dZ,c13,c14,c15,c16,c17,c18,c19])]):=by
 refine zp Tryz.func66 J (N:=43) J J (fun C=>?_)
 refine jk [0] J (jT J (oR 1 J (oZ J (jB J (jl1 (fun (_:Unit)=>[(0,dP gb 0),(2,dI 0)]) (fun _=>[.bx gb 48 (.agg [c0,c1,c2,c3,c4,c5,c6,c7,c8,c9,c10,c11,dZ,c13,c14,c15,c16,c17,c18,c19])]) (fun _=>True) (fun _=>0) () J (sa J) HSub.rfl' trivial ?_)))))
 rintro _ _
 refine ja J (jn J (jS J (jT J (oR 3 J (oP J (zd J fa_48_12 J) (oP J (ze J (i:=0) J Tryz.isAgg43 J) (oP J (z1 (n:=0) J ⟨_,_,J⟩ Tryz.runUnderlying43) (oP J (zN J J J) (oZ J ?_)))))))))
 refine jD J (fun hc1=>?_) (fun hc1=>?_)
 · skip
   exfalso;omega
 · skip
   refine zF J (zw (zu (zr ?_)))
   exact zbU Tryz.results66 .nil J HSub.rfl' ⟨rfl,J⟩
theorem growCursors_0 (gb:Nat) (c0 c1 c2 c3 c4 c5 c6 c7 c8 c9 c10 c11 c13 c14 c15 c16 c17 c18 c19:D) :
 CD Tryz.prog 74 [.bx gb 48 (.agg [c0,c1,c2,c3,c4,c5,c6,c7,c8,c9,c10,c11,dZ,c13,c14,c15,c16,c17,c18,c19])] [dP gb 0] (fun r H'=>r=dZ∧H'=[.bx gb 48 (.agg [c0,c1,c2,c3,c4,c5,c6,c7,c8,c9,c10,c11,dZ,c13,c14,c15,c16,c17,c18,c19])]):=by
 refine zp Tryz.func74 J (N:=43) J J (fun C=>?_)
 refine jk [0] J (jT J (oR 1 J (oZ J (jT J (oR 1 J (oZ J (jS J (jT J (oR 1 J (oZ J (jB J (jl1 (fun (_:Unit)=>[(0,dP gb 0),(2,dZ),(4,dI 0),(3,dZ)]) (fun _=>[.bx gb 48 (.agg [c0,c1,c2,c3,c4,c5,c6,c7,c8,c9,c10,c11,dZ,c13,c14,c15,c16,c17,c18,c19])]) (fun _=>True) (fun _=>0) () J (sa J) HSub.rfl' trivial ?_))))))))))))
 rintro _ _
 refine ja J (jn J (jS J (jT J (oR 3 J (oP J (zd J fa_48_12 J) (oP J (ze J (i:=0) J Tryz.isAgg43 J) (oP J (z1 (n:=0) J ⟨_,_,J⟩ Tryz.runUnderlying43) (oP J (zN J J J) (oZ J ?_)))))))))
 refine jD J (fun hc1=>?_) (fun hc1=>?_)
 · skip
   exfalso;omega
 · skip
   refine zF J (zw (zu (zr (zj (jk [2,3] J (jT J (oR 2 J (oZ J (zn J ?_)))))))))
   exact zh Tryz.results74 (.cons (zl J) .nil) J HSub.rfl' ⟨rfl,J⟩
theorem markedCursors_0  :
 CD Tryz.prog 84 [] [dZ] (isR (dB true)):=by
 refine zp Tryz.func84 J (N:=23) J J (fun C=>?_)
 refine jk [0] J (jT J (oR 1 J (oZ J (jS J (jT J (oR 1 J (oZ J (jB J (jl1 (fun (_:Unit)=>[(0,dZ),(3,dI 0)]) (fun _=>[]) (fun _=>True) (fun _=>0) () J (sa J) HSub.rfl' trivial ?_)))))))))
 rintro _ _
 refine ja J (jn J (jS J (jT J (oR 2 J (oP J (z1 (n:=0) J ⟨_,_,J⟩ Tryz.runUnderlying43) (oP J (zN J J J) (oZ J ?_)))))))
 refine jD J (fun hc1=>?_) (fun hc1=>?_)
 · skip
   exfalso;omega
 · skip
   refine zF J (zw (zu (zr (zj (jT J (oR 1 J (oZ J (zn J ?_))))))))
   exact zh Tryz.results84 (.cons (zl J) .nil) J HSub.rfl' ⟨rfl,J⟩
theorem stillNotes_0 (gb:Nat) (c0 c1 c2 c3 c4 c5 c6 c7 c8 c9 c10 c11 c12 c13 c15 c16 c17 c18 c19:D) :
 CD Tryz.prog 55 [.bx gb 48 (.agg [c0,c1,c2,c3,c4,c5,c6,c7,c8,c9,c10,c11,c12,c13,dZ,c15,c16,c17,c18,c19])] [dP gb 0] (fun r H'=>r=dB true∧H'=[.bx gb 48 (.agg [c0,c1,c2,c3,c4,c5,c6,c7,c8,c9,c10,c11,c12,c13,dZ,c15,c16,c17,c18,c19])]):=by
 refine zp Tryz.func55 J (N:=29) J J (fun C=>?_)
 refine jk [0] J (jT J (oR 1 J (oZ J (jS J (jT J (oR 1 J (oZ J (jB J (jl1 (fun (_:Unit)=>[(0,dP gb 0),(3,dI 0)]) (fun _=>[.bx gb 48 (.agg [c0,c1,c2,c3,c4,c5,c6,c7,c8,c9,c10,c11,c12,c13,dZ,c15,c16,c17,c18,c19])]) (fun _=>True) (fun _=>0) () J (sa J) HSub.rfl' trivial ?_)))))))))
 rintro _ _
 refine ja J (jn J (jS J (jT J (oR 3 J (oP J (zd J fa_48_14 J) (oP J (ze J (i:=0) J Tryz.isAgg44 J) (oP J (z1 (n:=0) J ⟨_,_,J⟩ Tryz.runUnderlying44) (oP J (zN J J J) (oZ J ?_)))))))))
 refine jD J (fun hc1=>?_) (fun hc1=>?_)
 · skip
   exfalso;omega
 · skip
   refine zF J (zw (zu (zr (zj (jk [] J (jT J (oR 1 J (oZ J (zn J ?_)))))))))
   exact zh Tryz.results55 (.cons (zl J) .nil) J HSub.rfl' ⟨rfl,J⟩
theorem putNotes_0 (gb:Nat) (c0 c1 c2 c3 c4 c5 c6 c7 c8 c9 c10 c11 c12 c13 c15 c16 c17 c18 c19:D) :
 CD Tryz.prog 67 [.bx gb 48 (.agg [c0,c1,c2,c3,c4,c5,c6,c7,c8,c9,c10,c11,c12,c13,dZ,c15,c16,c17,c18,c19])] [dP gb 0] (fun r H'=>r=.tup []∧H'=[.bx gb 48 (.agg [c0,c1,c2,c3,c4,c5,c6,c7,c8,c9,c10,c11,c12,c13,dZ,c15,c16,c17,c18,c19])]):=by
 refine zp Tryz.func67 J (N:=43) J J (fun C=>?_)
 refine jk [0] J (jT J (oR 1 J (oZ J (jB J (jl1 (fun (_:Unit)=>[(0,dP gb 0),(2,dI 0)]) (fun _=>[.bx gb 48 (.agg [c0,c1,c2,c3,c4,c5,c6,c7,c8,c9,c10,c11,c12,c13,dZ,c15,c16,c17,c18,c19])]) (fun _=>True) (fun _=>0) () J (sa J) HSub.rfl' trivial ?_)))))
 rintro _ _
 refine ja J (jn J (jS J (jT J (oR 3 J (oP J (zd J fa_48_14 J) (oP J (ze J (i:=0) J Tryz.isAgg44 J) (oP J (z1 (n:=0) J ⟨_,_,J⟩ Tryz.runUnderlying44) (oP J (zN J J J) (oZ J ?_)))))))))
 refine jD J (fun hc1=>?_) (fun hc1=>?_)
 · skip
   exfalso;omega
 · skip
   refine zF J (zw (zu (zr ?_)))
   exact zbU Tryz.results67 .nil J HSub.rfl' ⟨rfl,J⟩
theorem growNotes_0 (gb:Nat) (c0 c1 c2 c3 c4 c5 c6 c7 c8 c9 c10 c11 c12 c13 c15 c16 c17 c18 c19:D) :
 CD Tryz.prog 75 [.bx gb 48 (.agg [c0,c1,c2,c3,c4,c5,c6,c7,c8,c9,c10,c11,c12,c13,dZ,c15,c16,c17,c18,c19])] [dP gb 0] (fun r H'=>r=dZ∧H'=[.bx gb 48 (.agg [c0,c1,c2,c3,c4,c5,c6,c7,c8,c9,c10,c11,c12,c13,dZ,c15,c16,c17,c18,c19])]):=by
 refine zp Tryz.func75 J (N:=43) J J (fun C=>?_)
 refine jk [0] J (jT J (oR 1 J (oZ J (jT J (oR 1 J (oZ J (jS J (jT J (oR 1 J (oZ J (jB J (jl1 (fun (_:Unit)=>[(0,dP gb 0),(2,dZ),(4,dI 0),(3,dZ)]) (fun _=>[.bx gb 48 (.agg [c0,c1,c2,c3,c4,c5,c6,c7,c8,c9,c10,c11,c12,c13,dZ,c15,c16,c17,c18,c19])]) (fun _=>True) (fun _=>0) () J (sa J) HSub.rfl' trivial ?_))))))))))))
 rintro _ _
 refine ja J (jn J (jS J (jT J (oR 3 J (oP J (zd J fa_48_14 J) (oP J (ze J (i:=0) J Tryz.isAgg44 J) (oP J (z1 (n:=0) J ⟨_,_,J⟩ Tryz.runUnderlying44) (oP J (zN J J J) (oZ J ?_)))))))))
 refine jD J (fun hc1=>?_) (fun hc1=>?_)
 · skip
   exfalso;omega
 · skip
   refine zF J (zw (zu (zr (zj (jk [2,3] J (jT J (oR 2 J (oZ J (zn J ?_)))))))))
   exact zh Tryz.results75 (.cons (zl J) .nil) J HSub.rfl' ⟨rfl,J⟩
theorem markedNotes_0  :
 CD Tryz.prog 85 [] [dZ] (isR (dB true)):=by
 refine zp Tryz.func85 J (N:=23) J J (fun C=>?_)
 refine jk [0] J (jT J (oR 1 J (oZ J (jS J (jT J (oR 1 J (oZ J (jB J (jl1 (fun (_:Unit)=>[(0,dZ),(3,dI 0)]) (fun _=>[]) (fun _=>True) (fun _=>0) () J (sa J) HSub.rfl' trivial ?_)))))))))
 rintro _ _
 refine ja J (jn J (jS J (jT J (oR 2 J (oP J (z1 (n:=0) J ⟨_,_,J⟩ Tryz.runUnderlying44) (oP J (zN J J J) (oZ J ?_)))))))
 refine jD J (fun hc1=>?_) (fun hc1=>?_)
 · skip
   exfalso;omega
 · skip
   refine zF J (zw (zu (zr (zj (jT J (oR 1 J (oZ J (zn J ?_))))))))
   exact zh Tryz.results85 (.cons (zl J) .nil) J HSub.rfl' ⟨rfl,J⟩
theorem stillRows_0 (gb:Nat) (c0 c1 c2 c3 c4 c5 c6 c7 c8 c9 c10 c11 c12 c13 c14 c15 c17 c18 c19:D) :
 CD Tryz.prog 56 [.bx gb 48 (.agg [c0,c1,c2,c3,c4,c5,c6,c7,c8,c9,c10,c11,c12,c13,c14,c15,dZ,c17,c18,c19])] [dP gb 0] (fun r H'=>r=dB true∧H'=[.bx gb 48 (.agg [c0,c1,c2,c3,c4,c5,c6,c7,c8,c9,c10,c11,c12,c13,c14,c15,dZ,c17,c18,c19])]):=by
 refine zp Tryz.func56 J (N:=29) J J (fun C=>?_)
 refine jk [0] J (jT J (oR 1 J (oZ J (jS J (jT J (oR 1 J (oZ J (jB J (jl1 (fun (_:Unit)=>[(0,dP gb 0),(3,dI 0)]) (fun _=>[.bx gb 48 (.agg [c0,c1,c2,c3,c4,c5,c6,c7,c8,c9,c10,c11,c12,c13,c14,c15,dZ,c17,c18,c19])]) (fun _=>True) (fun _=>0) () J (sa J) HSub.rfl' trivial ?_)))))))))
 rintro _ _
 refine ja J (jn J (jS J (jT J (oR 3 J (oP J (zd J fa_48_16 J) (oP J (ze J (i:=0) J Tryz.isAgg45 J) (oP J (z1 (n:=0) J ⟨_,_,J⟩ Tryz.runUnderlying45) (oP J (zN J J J) (oZ J ?_)))))))))
 refine jD J (fun hc1=>?_) (fun hc1=>?_)
 · skip
   exfalso;omega
 · skip
   refine zF J (zw (zu (zr (zj (jk [] J (jT J (oR 1 J (oZ J (zn J ?_)))))))))
   exact zh Tryz.results56 (.cons (zl J) .nil) J HSub.rfl' ⟨rfl,J⟩
theorem putRows_0 (gb:Nat) (c0 c1 c2 c3 c4 c5 c6 c7 c8 c9 c10 c11 c12 c13 c14 c15 c17 c18 c19:D) :
 CD Tryz.prog 58 [.bx gb 48 (.agg [c0,c1,c2,c3,c4,c5,c6,c7,c8,c9,c10,c11,c12,c13,c14,c15,dZ,c17,c18,c19])] [dP gb 0] (fun r H'=>r=.tup []∧H'=[.bx gb 48 (.agg [c0,c1,c2,c3,c4,c5,c6,c7,c8,c9,c10,c11,c12,c13,c14,c15,dZ,c17,c18,c19])]):=by
 refine zp Tryz.func58 J (N:=43) J J (fun C=>?_)
 refine jk [0] J (jT J (oR 1 J (oZ J (jB J (jl1 (fun (_:Unit)=>[(0,dP gb 0),(2,dI 0)]) (fun _=>[.bx gb 48 (.agg [c0,c1,c2,c3,c4,c5,c6,c7,c8,c9,c10,c11,c12,c13,c14,c15,dZ,c17,c18,c19])]) (fun _=>True) (fun _=>0) () J (sa J) HSub.rfl' trivial ?_)))))
 rintro _ _
 refine ja J (jn J (jS J (jT J (oR 3 J (oP J (zd J fa_48_16 J) (oP J (ze J (i:=0) J Tryz.isAgg45 J) (oP J (z1 (n:=0) J ⟨_,_,J⟩ Tryz.runUnderlying45) (oP J (zN J J J) (oZ J ?_)))))))))
 refine jD J (fun hc1=>?_) (fun hc1=>?_)
 · skip
   exfalso;omega
 · skip
   refine zF J (zw (zu (zr ?_)))
   exact zbU Tryz.results58 .nil J HSub.rfl' ⟨rfl,J⟩
theorem growRows_0 (gb:Nat) (c0 c1 c2 c3 c4 c5 c6 c7 c8 c9 c10 c11 c12 c13 c14 c15 c17 c18 c19:D) :
 CD Tryz.prog 76 [.bx gb 48 (.agg [c0,c1,c2,c3,c4,c5,c6,c7,c8,c9,c10,c11,c12,c13,c14,c15,dZ,c17,c18,c19])] [dP gb 0] (fun r H'=>r=dZ∧H'=[.bx gb 48 (.agg [c0,c1,c2,c3,c4,c5,c6,c7,c8,c9,c10,c11,c12,c13,c14,c15,dZ,c17,c18,c19])]):=by
 refine zp Tryz.func76 J (N:=43) J J (fun C=>?_)
 refine jk [0] J (jT J (oR 1 J (oZ J (jT J (oR 1 J (oZ J (jS J (jT J (oR 1 J (oZ J (jB J (jl1 (fun (_:Unit)=>[(0,dP gb 0),(2,dZ),(4,dI 0),(3,dZ)]) (fun _=>[.bx gb 48 (.agg [c0,c1,c2,c3,c4,c5,c6,c7,c8,c9,c10,c11,c12,c13,c14,c15,dZ,c17,c18,c19])]) (fun _=>True) (fun _=>0) () J (sa J) HSub.rfl' trivial ?_))))))))))))
 rintro _ _
 refine ja J (jn J (jS J (jT J (oR 3 J (oP J (zd J fa_48_16 J) (oP J (ze J (i:=0) J Tryz.isAgg45 J) (oP J (z1 (n:=0) J ⟨_,_,J⟩ Tryz.runUnderlying45) (oP J (zN J J J) (oZ J ?_)))))))))
 refine jD J (fun hc1=>?_) (fun hc1=>?_)
 · skip
   exfalso;omega
 · skip
   refine zF J (zw (zu (zr (zj (jk [2,3] J (jT J (oR 2 J (oZ J (zn J ?_)))))))))
   exact zh Tryz.results76 (.cons (zl J) .nil) J HSub.rfl' ⟨rfl,J⟩
theorem markedRows_0  :
 CD Tryz.prog 86 [] [dZ] (isR (dB true)):=by
 refine zp Tryz.func86 J (N:=23) J J (fun C=>?_)
 refine jk [0] J (jT J (oR 1 J (oZ J (jS J (jT J (oR 1 J (oZ J (jB J (jl1 (fun (_:Unit)=>[(0,dZ),(3,dI 0)]) (fun _=>[]) (fun _=>True) (fun _=>0) () J (sa J) HSub.rfl' trivial ?_)))))))))
 rintro _ _
 refine ja J (jn J (jS J (jT J (oR 2 J (oP J (z1 (n:=0) J ⟨_,_,J⟩ Tryz.runUnderlying45) (oP J (zN J J J) (oZ J ?_)))))))
 refine jD J (fun hc1=>?_) (fun hc1=>?_)
 · skip
   exfalso;omega
 · skip
   refine zF J (zw (zu (zr (zj (jT J (oR 1 J (oZ J (zn J ?_))))))))
   exact zh Tryz.results86 (.cons (zl J) .nil) J HSub.rfl' ⟨rfl,J⟩
theorem stillSeries_0 (gb:Nat) (c0 c1 c2 c3 c4 c5 c6 c7 c8 c9 c10 c11 c12 c13 c14 c15 c16 c17 c19:D) :
 CD Tryz.prog 57 [.bx gb 48 (.agg [c0,c1,c2,c3,c4,c5,c6,c7,c8,c9,c10,c11,c12,c13,c14,c15,c16,c17,dZ,c19])] [dP gb 0] (fun r H'=>r=dB true∧H'=[.bx gb 48 (.agg [c0,c1,c2,c3,c4,c5,c6,c7,c8,c9,c10,c11,c12,c13,c14,c15,c16,c17,dZ,c19])]):=by
 refine zp Tryz.func57 J (N:=29) J J (fun C=>?_)
 refine jk [0] J (jT J (oR 1 J (oZ J (jS J (jT J (oR 1 J (oZ J (jB J (jl1 (fun (_:Unit)=>[(0,dP gb 0),(3,dI 0)]) (fun _=>[.bx gb 48 (.agg [c0,c1,c2,c3,c4,c5,c6,c7,c8,c9,c10,c11,c12,c13,c14,c15,c16,c17,dZ,c19])]) (fun _=>True) (fun _=>0) () J (sa J) HSub.rfl' trivial ?_)))))))))
 rintro _ _
 refine ja J (jn J (jS J (jT J (oR 3 J (oP J (zd J fa_48_18 J) (oP J (ze J (i:=0) J Tryz.isAgg46 J) (oP J (z1 (n:=0) J ⟨_,_,J⟩ Tryz.runUnderlying46) (oP J (zN J J J) (oZ J ?_)))))))))
 refine jD J (fun hc1=>?_) (fun hc1=>?_)
 · skip
   exfalso;omega
 · skip
   refine zF J (zw (zu (zr (zj (jk [] J (jT J (oR 1 J (oZ J (zn J ?_)))))))))
   exact zh Tryz.results57 (.cons (zl J) .nil) J HSub.rfl' ⟨rfl,J⟩
theorem putSeries_0 (gb:Nat) (c0 c1 c2 c3 c4 c5 c6 c7 c8 c9 c10 c11 c12 c13 c14 c15 c16 c17 c19:D) :
 CD Tryz.prog 59 [.bx gb 48 (.agg [c0,c1,c2,c3,c4,c5,c6,c7,c8,c9,c10,c11,c12,c13,c14,c15,c16,c17,dZ,c19])] [dP gb 0] (fun r H'=>r=.tup []∧H'=[.bx gb 48 (.agg [c0,c1,c2,c3,c4,c5,c6,c7,c8,c9,c10,c11,c12,c13,c14,c15,c16,c17,dZ,c19])]):=by
 refine zp Tryz.func59 J (N:=43) J J (fun C=>?_)
 refine jk [0] J (jT J (oR 1 J (oZ J (jB J (jl1 (fun (_:Unit)=>[(0,dP gb 0),(2,dI 0)]) (fun _=>[.bx gb 48 (.agg [c0,c1,c2,c3,c4,c5,c6,c7,c8,c9,c10,c11,c12,c13,c14,c15,c16,c17,dZ,c19])]) (fun _=>True) (fun _=>0) () J (sa J) HSub.rfl' trivial ?_)))))
 rintro _ _
 refine ja J (jn J (jS J (jT J (oR 3 J (oP J (zd J fa_48_18 J) (oP J (ze J (i:=0) J Tryz.isAgg46 J) (oP J (z1 (n:=0) J ⟨_,_,J⟩ Tryz.runUnderlying46) (oP J (zN J J J) (oZ J ?_)))))))))
 refine jD J (fun hc1=>?_) (fun hc1=>?_)
 · skip
   exfalso;omega
 · skip
   refine zF J (zw (zu (zr ?_)))
   exact zbU Tryz.results59 .nil J HSub.rfl' ⟨rfl,J⟩
theorem growSeries_0 (gb:Nat) (c0 c1 c2 c3 c4 c5 c6 c7 c8 c9 c10 c11 c12 c13 c14 c15 c16 c17 c19:D) :
 CD Tryz.prog 77 [.bx gb 48 (.agg [c0,c1,c2,c3,c4,c5,c6,c7,c8,c9,c10,c11,c12,c13,c14,c15,c16,c17,dZ,c19])] [dP gb 0] (fun r H'=>r=dZ∧H'=[.bx gb 48 (.agg [c0,c1,c2,c3,c4,c5,c6,c7,c8,c9,c10,c11,c12,c13,c14,c15,c16,c17,dZ,c19])]):=by
 refine zp Tryz.func77 J (N:=43) J J (fun C=>?_)
 refine jk [0] J (jT J (oR 1 J (oZ J (jT J (oR 1 J (oZ J (jS J (jT J (oR 1 J (oZ J (jB J (jl1 (fun (_:Unit)=>[(0,dP gb 0),(2,dZ),(4,dI 0),(3,dZ)]) (fun _=>[.bx gb 48 (.agg [c0,c1,c2,c3,c4,c5,c6,c7,c8,c9,c10,c11,c12,c13,c14,c15,c16,c17,dZ,c19])]) (fun _=>True) (fun _=>0) () J (sa J) HSub.rfl' trivial ?_))))))))))))
 rintro _ _
 refine ja J (jn J (jS J (jT J (oR 3 J (oP J (zd J fa_48_18 J) (oP J (ze J (i:=0) J Tryz.isAgg46 J) (oP J (z1 (n:=0) J ⟨_,_,J⟩ Tryz.runUnderlying46) (oP J (zN J J J) (oZ J ?_)))))))))
 refine jD J (fun hc1=>?_) (fun hc1=>?_)
 · skip
   exfalso;omega
 · skip
   refine zF J (zw (zu (zr (zj (jk [2,3] J (jT J (oR 2 J (oZ J (zn J ?_)))))))))
   exact zh Tryz.results77 (.cons (zl J) .nil) J HSub.rfl' ⟨rfl,J⟩
theorem markedSeries_0  :
 CD Tryz.prog 87 [] [dZ] (isR (dB true)):=by
 refine zp Tryz.func87 J (N:=23) J J (fun C=>?_)
 refine jk [0] J (jT J (oR 1 J (oZ J (jS J (jT J (oR 1 J (oZ J (jB J (jl1 (fun (_:Unit)=>[(0,dZ),(3,dI 0)]) (fun _=>[]) (fun _=>True) (fun _=>0) () J (sa J) HSub.rfl' trivial ?_)))))))))
 rintro _ _
 refine ja J (jn J (jS J (jT J (oR 2 J (oP J (z1 (n:=0) J ⟨_,_,J⟩ Tryz.runUnderlying46) (oP J (zN J J J) (oZ J ?_)))))))
 refine jD J (fun hc1=>?_) (fun hc1=>?_)
 · skip
   exfalso;omega
 · skip
   refine zF J (zw (zu (zr (zj (jT J (oR 1 J (oZ J (zn J ?_))))))))
   exact zh Tryz.results87 (.cons (zl J) .nil) J HSub.rfl' ⟨rfl,J⟩
theorem Apart_c (gb:Nat) (vXb vXw:Value) (KX:List (Kp ByteArray)) (WX:List (List ByteArray)) (hKX:KX.length≤250) (hBX:∀ x∈KX,x.l.length≤1000000) (hWX:WX=KX.map (·.l)):
 CD Tryz.prog 24 ([.bx gb 48 (zE vXb vXw),.sl vXb 1 23 (KX.map Kp.d),.sl vXw 1 23 (WX.map (D.ls 1 D.s))]++(KX.map (Kp.h 1 9 D.s))) [dP gb 0] (isR (dB true)):=by
 refine zp Tryz.func24 J (N:=191) J J (fun C=>?_)
 refine jk [0] J (jT J (oR 1 J (oZ J (jS J (jT J (oR 1 J (OpsD.subH (HSub.perm (zbT (A:=[.bx gb 48 (zE vXb vXw),.sl vXb 1 23 (KX.map Kp.d),.sl vXw 1 23 (WX.map (D.ls 1 D.s))]) (B:=[]) (T:=KX.map (Kp.h 1 9 D.s)))) ?_)))))))
 refine oE J (zm ([.bx gb 48 (zE vXb vXw),.sl vXb 1 23 (KX.map Kp.d),.sl vXw 1 23 (WX.map (D.ls 1 D.s))]++(KX.map (Kp.h 1 9 D.s))) [] [] J J (.cons ArgC.id .nil) zg Tryz.call48 (stillTexts_c gb vXb vXw (dZ) (dZ) (dZ) (dZ) (dZ) (dZ) (dZ) (dZ) (dZ) (dZ) (dZ) (dZ) (dZ) (dZ) (dZ) (dZ) (dZ) (dZ) KX WX (by omega) hWX) (.inl rfl)) ?_
 rintro _ _ ⟨_,⟨rfl,rfl⟩,rfl⟩
 refine OpsD.subH (HSub.perm (zbT (A:=[.bx gb 48 (zE vXb vXw),.sl vXb 1 23 (KX.map Kp.d),.sl vXw 1 23 (WX.map (D.ls 1 D.s))]) (B:=[]) (T:=KX.map (Kp.h 1 9 D.s))).symm) ?_
 refine OpsD.norm ([.bx gb 48 (zE vXb vXw),.sl vXb 1 23 (KX.map Kp.d),.sl vXw 1 23 (WX.map (D.ls 1 D.s))]++(KX.map (Kp.h 1 9 D.s))) J ?_
 refine oR 1 J (oZ J (jCf J (zt J (zj (jS J (jT J (oR 1 J (oE J (zm [.bx gb 48 (zE vXb vXw)] ([.sl vXb 1 23 (KX.map Kp.d),.sl vXw 1 23 (WX.map (D.ls 1 D.s))]++(KX.map (Kp.h 1 9 D.s))) [] J J (.cons ArgC.id .nil) zg Tryz.call49 (stillInts_0 gb (.ov vXb) (.ov vXw) (dZ) (dZ) (dZ) (dZ) (dZ) (dZ) (dZ) (dZ) (dZ) (dZ) (dZ) (dZ) (dZ) (dZ) (dZ) (dZ) (dZ)) (.inl J)) ?_))))))))
 rintro _ _ ⟨_,⟨rfl,rfl⟩,rfl⟩
 refine OpsD.norm ([.bx gb 48 (zE vXb vXw),.sl vXb 1 23 (KX.map Kp.d),.sl vXw 1 23 (WX.map (D.ls 1 D.s))]++(KX.map (Kp.h 1 9 D.s))) J ?_
 refine oR 1 J (oZ J (jCf J (zt J (zj (jS J (jT J (oR 1 J (oE J (zm [.bx gb 48 (zE vXb vXw)] ([.sl vXb 1 23 (KX.map Kp.d),.sl vXw 1 23 (WX.map (D.ls 1 D.s))]++(KX.map (Kp.h 1 9 D.s))) [] J J (.cons ArgC.id .nil) zg Tryz.call50 (stillRunes_0 gb (.ov vXb) (.ov vXw) (dZ) (dZ) (dZ) (dZ) (dZ) (dZ) (dZ) (dZ) (dZ) (dZ) (dZ) (dZ) (dZ) (dZ) (dZ) (dZ) (dZ)) (.inl J)) ?_))))))))
 rintro _ _ ⟨_,⟨rfl,rfl⟩,rfl⟩
 refine OpsD.norm ([.bx gb 48 (zE vXb vXw),.sl vXb 1 23 (KX.map Kp.d),.sl vXw 1 23 (WX.map (D.ls 1 D.s))]++(KX.map (Kp.h 1 9 D.s))) J ?_
 refine oR 1 J (oZ J (jCf J (zt J (zj (jk [0,2] J (jS J (jT J (oR 1 J (oE J (zm [.bx gb 48 (zE vXb vXw)] ([.sl vXb 1 23 (KX.map Kp.d),.sl vXw 1 23 (WX.map (D.ls 1 D.s))]++(KX.map (Kp.h 1 9 D.s))) [] J J (.cons ArgC.id .nil) zg Tryz.call51 (stillLabels_0 gb (.ov vXb) (.ov vXw) (dZ) (dZ) (dZ) (dZ) (dZ) (dZ) (dZ) (dZ) (dZ) (dZ) (dZ) (dZ) (dZ) (dZ) (dZ) (dZ) (dZ)) (.inl J)) ?_)))))))))
 rintro _ _ ⟨_,⟨rfl,rfl⟩,rfl⟩
 refine OpsD.norm ([.bx gb 48 (zE vXb vXw),.sl vXb 1 23 (KX.map Kp.d),.sl vXw 1 23 (WX.map (D.ls 1 D.s))]++(KX.map (Kp.h 1 9 D.s))) J ?_
 refine oR 1 J (oZ J (jCf J (zt J (zj (jS J (jT J (oR 1 J (oE J (zm [.bx gb 48 (zE vXb vXw)] ([.sl vXb 1 23 (KX.map Kp.d),.sl vXw 1 23 (WX.map (D.ls 1 D.s))]++(KX.map (Kp.h 1 9 D.s))) [] J J (.cons ArgC.id .nil) zg Tryz.call52 (stillPoints_0 gb (.ov vXb) (.ov vXw) (dZ) (dZ) (dZ) (dZ) (dZ) (dZ) (dZ) (dZ) (dZ) (dZ) (dZ) (dZ) (dZ) (dZ) (dZ) (dZ) (dZ)) (.inl J)) ?_))))))))
 rintro _ _ ⟨_,⟨rfl,rfl⟩,rfl⟩
 refine OpsD.norm ([.bx gb 48 (zE vXb vXw),.sl vXb 1 23 (KX.map Kp.d),.sl vXw 1 23 (WX.map (D.ls 1 D.s))]++(KX.map (Kp.h 1 9 D.s))) J ?_
 refine oR 1 J (oZ J (jCf J (zt J (zj (jS J (jT J (oR 1 J (oE J (zm [.bx gb 48 (zE vXb vXw)] ([.sl vXb 1 23 (KX.map Kp.d),.sl vXw 1 23 (WX.map (D.ls 1 D.s))]++(KX.map (Kp.h 1 9 D.s))) [] J J (.cons ArgC.id .nil) zg Tryz.call53 (stillTokens_0 gb (.ov vXb) (.ov vXw) (dZ) (dZ) (dZ) (dZ) (dZ) (dZ) (dZ) (dZ) (dZ) (dZ) (dZ) (dZ) (dZ) (dZ) (dZ) (dZ) (dZ)) (.inl J)) ?_))))))))
 rintro _ _ ⟨_,⟨rfl,rfl⟩,rfl⟩
 refine OpsD.norm ([.bx gb 48 (zE vXb vXw),.sl vXb 1 23 (KX.map Kp.d),.sl vXw 1 23 (WX.map (D.ls 1 D.s))]++(KX.map (Kp.h 1 9 D.s))) J ?_
 refine oR 1 J (oZ J (jCf J (zt J (zj (jk [0,2] J (jS J (jT J (oR 1 J (oE J (zm [.bx gb 48 (zE vXb vXw)] ([.sl vXb 1 23 (KX.map Kp.d),.sl vXw 1 23 (WX.map (D.ls 1 D.s))]++(KX.map (Kp.h 1 9 D.s))) [] J J (.cons ArgC.id .nil) zg Tryz.call54 (stillCursors_0 gb (.ov vXb) (.ov vXw) (dZ) (dZ) (dZ) (dZ) (dZ) (dZ) (dZ) (dZ) (dZ) (dZ) (dZ) (dZ) (dZ) (dZ) (dZ) (dZ) (dZ)) (.inl J)) ?_)))))))))
 rintro _ _ ⟨_,⟨rfl,rfl⟩,rfl⟩
 refine OpsD.norm ([.bx gb 48 (zE vXb vXw),.sl vXb 1 23 (KX.map Kp.d),.sl vXw 1 23 (WX.map (D.ls 1 D.s))]++(KX.map (Kp.h 1 9 D.s))) J ?_
 refine oR 1 J (oZ J (jCf J (zt J (zj (jS J (jT J (oR 1 J (oE J (zm [.bx gb 48 (zE vXb vXw)] ([.sl vXb 1 23 (KX.map Kp.d),.sl vXw 1 23 (WX.map (D.ls 1 D.s))]++(KX.map (Kp.h 1 9 D.s))) [] J J (.cons ArgC.id .nil) zg Tryz.call55 (stillNotes_0 gb (.ov vXb) (.ov vXw) (dZ) (dZ) (dZ) (dZ) (dZ) (dZ) (dZ) (dZ) (dZ) (dZ) (dZ) (dZ) (dZ) (dZ) (dZ) (dZ) (dZ)) (.inl J)) ?_))))))))
 rintro _ _ ⟨_,⟨rfl,rfl⟩,rfl⟩
 refine OpsD.norm ([.bx gb 48 (zE vXb vXw),.sl vXb 1 23 (KX.map Kp.d),.sl vXw 1 23 (WX.map (D.ls 1 D.s))]++(KX.map (Kp.h 1 9 D.s))) J ?_
 refine oR 1 J (oZ J (jCf J (zt J (zj (jS J (jT J (oR 1 J (oE J (zm [.bx gb 48 (zE vXb vXw)] ([.sl vXb 1 23 (KX.map Kp.d),.sl vXw 1 23 (WX.map (D.ls 1 D.s))]++(KX.map (Kp.h 1 9 D.s))) [] J J (.cons ArgC.id .nil) zg Tryz.call56 (stillRows_0 gb (.ov vXb) (.ov vXw) (dZ) (dZ) (dZ) (dZ) (dZ) (dZ) (dZ) (dZ) (dZ) (dZ) (dZ) (dZ) (dZ) (dZ) (dZ) (dZ) (dZ)) (.inl J)) ?_))))))))
 rintro _ _ ⟨_,⟨rfl,rfl⟩,rfl⟩
 refine OpsD.norm ([.bx gb 48 (zE vXb vXw),.sl vXb 1 23 (KX.map Kp.d),.sl vXw 1 23 (WX.map (D.ls 1 D.s))]++(KX.map (Kp.h 1 9 D.s))) J ?_
 refine oR 1 J (oZ J (jCf J (zt J (zj (jk [0,2] J (jS J (jT J (oR 1 J (oE J (zm [.bx gb 48 (zE vXb vXw)] ([.sl vXb 1 23 (KX.map Kp.d),.sl vXw 1 23 (WX.map (D.ls 1 D.s))]++(KX.map (Kp.h 1 9 D.s))) [] J J (.cons ArgC.id .nil) zg Tryz.call57 (stillSeries_0 gb (.ov vXb) (.ov vXw) (dZ) (dZ) (dZ) (dZ) (dZ) (dZ) (dZ) (dZ) (dZ) (dZ) (dZ) (dZ) (dZ) (dZ) (dZ) (dZ) (dZ)) (.inl J)) ?_)))))))))
 rintro _ _ ⟨_,⟨rfl,rfl⟩,rfl⟩
 refine OpsD.norm ([.bx gb 48 (zE vXb vXw),.sl vXb 1 23 (KX.map Kp.d),.sl vXw 1 23 (WX.map (D.ls 1 D.s))]++(KX.map (Kp.h 1 9 D.s))) J ?_
 refine oR 1 J (oZ J (jCf J (zt J (zj (jT J (oR 1 J (oE J (zm [.bx gb 48 (zE vXb vXw)] ([.sl vXb 1 23 (KX.map Kp.d),.sl vXw 1 23 (WX.map (D.ls 1 D.s))]++(KX.map (Kp.h 1 9 D.s))) [] J J (.cons ArgC.id .nil) zg Tryz.call58 (putRows_0 gb (.ov vXb) (.ov vXw) (dZ) (dZ) (dZ) (dZ) (dZ) (dZ) (dZ) (dZ) (dZ) (dZ) (dZ) (dZ) (dZ) (dZ) (dZ) (dZ) (dZ)) (.inl J)) ?_)))))))
 rintro _ _ ⟨_,⟨rfl,rfl⟩,rfl⟩
 refine OpsD.norm ([.bx gb 48 (zE vXb vXw),.sl vXb 1 23 (KX.map Kp.d),.sl vXw 1 23 (WX.map (D.ls 1 D.s))]++(KX.map (Kp.h 1 9 D.s))) J ?_
 refine oZ J (jT J (oR 1 J (oE J (zm [.bx gb 48 (zE vXb vXw)] ([.sl vXb 1 23 (KX.map Kp.d),.sl vXw 1 23 (WX.map (D.ls 1 D.s))]++(KX.map (Kp.h 1 9 D.s))) [] J J (.cons ArgC.id .nil) zg Tryz.call59 (putSeries_0 gb (.ov vXb) (.ov vXw) (dZ) (dZ) (dZ) (dZ) (dZ) (dZ) (dZ) (dZ) (dZ) (dZ) (dZ) (dZ) (dZ) (dZ) (dZ) (dZ) (dZ)) (.inl J)) ?_)))
 rintro _ _ ⟨_,⟨rfl,rfl⟩,rfl⟩
 refine OpsD.norm ([.bx gb 48 (zE vXb vXw),.sl vXb 1 23 (KX.map Kp.d),.sl vXw 1 23 (WX.map (D.ls 1 D.s))]++(KX.map (Kp.h 1 9 D.s))) J ?_
 refine oZ J (jT J (oR 1 J (OpsD.subH (HSub.perm (zbT (A:=[.bx gb 48 (zE vXb vXw),.sl vXb 1 23 (KX.map Kp.d)]) (B:=[.sl vXw 1 23 (WX.map (D.ls 1 D.s))]) (T:=KX.map (Kp.h 1 9 D.s)))) ?_)))
 refine oE J (zm ([.bx gb 48 (zE vXb vXw),.sl vXb 1 23 (KX.map Kp.d)]++(KX.map (Kp.h 1 9 D.s))) [.sl vXw 1 23 (WX.map (D.ls 1 D.s))] [] J J (.cons ArgC.id .nil) zg Tryz.call60 (putTexts_c gb vXb vXw (dZ) (dZ) (dZ) (dZ) (dZ) (dZ) (dZ) (dZ) (dZ) (dZ) (dZ) (dZ) (dZ) (dZ) (dZ) (dZ) (dZ) (dZ) KX (by omega) hBX) (.inl rfl)) ?_
 rintro _ _ ⟨_,⟨rfl,rfl⟩,rfl⟩
 refine OpsD.subH (HSub.perm (zbT (A:=[.bx gb 48 (zE vXb vXw),.sl vXb 1 23 (KX.map Kp.d)]) (B:=[.sl vXw 1 23 (WX.map (D.ls 1 D.s))]) (T:=(putK gX KX).map (Kp.h 1 9 D.s))).symm) ?_
 refine OpsD.norm ([.bx gb 48 (zE vXb vXw),.sl vXb 1 23 (KX.map Kp.d),.sl vXw 1 23 (WX.map (D.ls 1 D.s))]++((putK gX KX).map (Kp.h 1 9 D.s))) J ?_
 refine oZ J (jk [0,2] J (jT J (oR 1 J (oE J (zm [.bx gb 48 (zE vXb vXw)] ([.sl vXb 1 23 (KX.map Kp.d),.sl vXw 1 23 (WX.map (D.ls 1 D.s))]++((putK gX KX).map (Kp.h 1 9 D.s))) [] J J (.cons ArgC.id .nil) zg Tryz.call61 (putInts_0 gb (.ov vXb) (.ov vXw) (dZ) (dZ) (dZ) (dZ) (dZ) (dZ) (dZ) (dZ) (dZ) (dZ) (dZ) (dZ) (dZ) (dZ) (dZ) (dZ) (dZ)) (.inl J)) ?_))))
 rintro _ _ ⟨_,⟨rfl,rfl⟩,rfl⟩
 refine OpsD.norm ([.bx gb 48 (zE vXb vXw),.sl vXb 1 23 (KX.map Kp.d),.sl vXw 1 23 (WX.map (D.ls 1 D.s))]++((putK gX KX).map (Kp.h 1 9 D.s))) J ?_
 refine oZ J (jT J (oR 1 J (oE J (zm [.bx gb 48 (zE vXb vXw)] ([.sl vXb 1 23 (KX.map Kp.d),.sl vXw 1 23 (WX.map (D.ls 1 D.s))]++((putK gX KX).map (Kp.h 1 9 D.s))) [] J J (.cons ArgC.id .nil) zg Tryz.call62 (putRunes_0 gb (.ov vXb) (.ov vXw) (dZ) (dZ) (dZ) (dZ) (dZ) (dZ) (dZ) (dZ) (dZ) (dZ) (dZ) (dZ) (dZ) (dZ) (dZ) (dZ) (dZ)) (.inl J)) ?_)))
 rintro _ _ ⟨_,⟨rfl,rfl⟩,rfl⟩
 refine OpsD.norm ([.bx gb 48 (zE vXb vXw),.sl vXb 1 23 (KX.map Kp.d),.sl vXw 1 23 (WX.map (D.ls 1 D.s))]++((putK gX KX).map (Kp.h 1 9 D.s))) J ?_
 refine oZ J (jT J (oR 1 J (oE J (zm [.bx gb 48 (zE vXb vXw)] ([.sl vXb 1 23 (KX.map Kp.d),.sl vXw 1 23 (WX.map (D.ls 1 D.s))]++((putK gX KX).map (Kp.h 1 9 D.s))) [] J J (.cons ArgC.id .nil) zg Tryz.call63 (putLabels_0 gb (.ov vXb) (.ov vXw) (dZ) (dZ) (dZ) (dZ) (dZ) (dZ) (dZ) (dZ) (dZ) (dZ) (dZ) (dZ) (dZ) (dZ) (dZ) (dZ) (dZ)) (.inl J)) ?_)))
 rintro _ _ ⟨_,⟨rfl,rfl⟩,rfl⟩
 refine OpsD.norm ([.bx gb 48 (zE vXb vXw),.sl vXb 1 23 (KX.map Kp.d),.sl vXw 1 23 (WX.map (D.ls 1 D.s))]++((putK gX KX).map (Kp.h 1 9 D.s))) J ?_
 refine oZ J (jT J (oR 1 J (oE J (zm [.bx gb 48 (zE vXb vXw)] ([.sl vXb 1 23 (KX.map Kp.d),.sl vXw 1 23 (WX.map (D.ls 1 D.s))]++((putK gX KX).map (Kp.h 1 9 D.s))) [] J J (.cons ArgC.id .nil) zg Tryz.call64 (putPoints_0 gb (.ov vXb) (.ov vXw) (dZ) (dZ) (dZ) (dZ) (dZ) (dZ) (dZ) (dZ) (dZ) (dZ) (dZ) (dZ) (dZ) (dZ) (dZ) (dZ) (dZ)) (.inl J)) ?_)))
 rintro _ _ ⟨_,⟨rfl,rfl⟩,rfl⟩
 refine OpsD.norm ([.bx gb 48 (zE vXb vXw),.sl vXb 1 23 (KX.map Kp.d),.sl vXw 1 23 (WX.map (D.ls 1 D.s))]++((putK gX KX).map (Kp.h 1 9 D.s))) J ?_
 refine oZ J (jT J (oR 1 J (oE J (zm [.bx gb 48 (zE vXb vXw)] ([.sl vXb 1 23 (KX.map Kp.d),.sl vXw 1 23 (WX.map (D.ls 1 D.s))]++((putK gX KX).map (Kp.h 1 9 D.s))) [] J J (.cons ArgC.id .nil) zg Tryz.call65 (putTokens_0 gb (.ov vXb) (.ov vXw) (dZ) (dZ) (dZ) (dZ) (dZ) (dZ) (dZ) (dZ) (dZ) (dZ) (dZ) (dZ) (dZ) (dZ) (dZ) (dZ) (dZ)) (.inl J)) ?_)))
 rintro _ _ ⟨_,⟨rfl,rfl⟩,rfl⟩
 refine OpsD.norm ([.bx gb 48 (zE vXb vXw),.sl vXb 1 23 (KX.map Kp.d),.sl vXw 1 23 (WX.map (D.ls 1 D.s))]++((putK gX KX).map (Kp.h 1 9 D.s))) J ?_
 refine oZ J (jk [0,2] J (jT J (oR 1 J (oE J (zm [.bx gb 48 (zE vXb vXw)] ([.sl vXb 1 23 (KX.map Kp.d),.sl vXw 1 23 (WX.map (D.ls 1 D.s))]++((putK gX KX).map (Kp.h 1 9 D.s))) [] J J (.cons ArgC.id .nil) zg Tryz.call66 (putCursors_0 gb (.ov vXb) (.ov vXw) (dZ) (dZ) (dZ) (dZ) (dZ) (dZ) (dZ) (dZ) (dZ) (dZ) (dZ) (dZ) (dZ) (dZ) (dZ) (dZ) (dZ)) (.inl J)) ?_))))
 rintro _ _ ⟨_,⟨rfl,rfl⟩,rfl⟩
 refine OpsD.norm ([.bx gb 48 (zE vXb vXw),.sl vXb 1 23 (KX.map Kp.d),.sl vXw 1 23 (WX.map (D.ls 1 D.s))]++((putK gX KX).map (Kp.h 1 9 D.s))) J ?_
 refine oZ J (jT J (oR 1 J (oE J (zm [.bx gb 48 (zE vXb vXw)] ([.sl vXb 1 23 (KX.map Kp.d),.sl vXw 1 23 (WX.map (D.ls 1 D.s))]++((putK gX KX).map (Kp.h 1 9 D.s))) [] J J (.cons ArgC.id .nil) zg Tryz.call67 (putNotes_0 gb (.ov vXb) (.ov vXw) (dZ) (dZ) (dZ) (dZ) (dZ) (dZ) (dZ) (dZ) (dZ) (dZ) (dZ) (dZ) (dZ) (dZ) (dZ) (dZ) (dZ)) (.inl J)) ?_)))
 rintro _ _ ⟨_,⟨rfl,rfl⟩,rfl⟩
 refine OpsD.norm ([.bx gb 48 (zE vXb vXw),.sl vXb 1 23 (KX.map Kp.d),.sl vXw 1 23 (WX.map (D.ls 1 D.s))]++((putK gX KX).map (Kp.h 1 9 D.s))) J ?_
 refine oZ J (jT J (oR 1 J ?_))
 refine OpsD.norm ([.bx gb 48 (zE vXb vXw),.sl vXb 1 23 ((putK gX KX).map Kp.d),.sl vXw 1 23 (WX.map (D.ls 1 D.s))]++((putK gX KX).map (Kp.h 1 9 D.s))) (by rw[putK_d]) ?_
 refine OpsD.subH (HSub.perm (zbT (A:=[.bx gb 48 (zE vXb vXw),.sl vXb 1 23 ((putK gX KX).map Kp.d)]) (B:=[.sl vXw 1 23 (WX.map (D.ls 1 D.s))]) (T:=(putK gX KX).map (Kp.h 1 9 D.s)))) ?_
 refine oE J (zm ([.bx gb 48 (zE vXb vXw),.sl vXb 1 23 ((putK gX KX).map Kp.d)]++((putK gX KX).map (Kp.h 1 9 D.s))) [.sl vXw 1 23 (WX.map (D.ls 1 D.s))] [] J J (.cons ArgC.id .nil) zg Tryz.call68 (growTexts_c gb vXb vXw (dZ) (dZ) (dZ) (dZ) (dZ) (dZ) (dZ) (dZ) (dZ) (dZ) (dZ) (dZ) (dZ) (dZ) (dZ) (dZ) (dZ) (dZ) (putK gX KX) (by rw[putK_len];omega) (putK_light hBX) putK_marked) (.inl rfl)) ?_
 rintro _ _ ⟨_,⟨goX,GX,rfl,rfl,hGX⟩,rfl⟩
 refine OpsD.subH (HSub.perm (zbT (A:=[.bx gb 48 (zE vXb vXw),.sl vXb 1 23 (GX.map K2.d0),.sl goX 1 23 (GX.map K2.d1)]) (B:=[.sl vXw 1 23 (WX.map (D.ls 1 D.s))]) (T:=GX.map (K2.h 1 9 D.s))).symm) ?_
 refine OpsD.norm ([.bx gb 48 (zE vXb vXw),.sl vXb 1 23 (GX.map K2.d0),.sl goX 1 23 (GX.map K2.d1),.sl vXw 1 23 (WX.map (D.ls 1 D.s))]++(GX.map (K2.h 1 9 D.s))) J ?_
 refine oR 1 J (oZ J (jT J (oR 1 J (oE J (zm [.bx gb 48 (zE vXb vXw)] ([.sl vXb 1 23 (GX.map K2.d0),.sl goX 1 23 (GX.map K2.d1),.sl vXw 1 23 (WX.map (D.ls 1 D.s))]++(GX.map (K2.h 1 9 D.s))) [] J J (.cons ArgC.id .nil) zg Tryz.call69 (growInts_0 gb (.ov vXb) (.ov vXw) (dZ) (dZ) (dZ) (dZ) (dZ) (dZ) (dZ) (dZ) (dZ) (dZ) (dZ) (dZ) (dZ) (dZ) (dZ) (dZ) (dZ)) (.inl J)) ?_))))
 rintro _ _ ⟨_,⟨rfl,rfl⟩,rfl⟩
 refine OpsD.norm ([.bx gb 48 (zE vXb vXw),.sl vXb 1 23 (GX.map K2.d0),.sl goX 1 23 (GX.map K2.d1),.sl vXw 1 23 (WX.map (D.ls 1 D.s))]++(GX.map (K2.h 1 9 D.s))) J ?_
 refine oR 1 J (oZ J (jT J (oR 1 J (oE J (zm [.bx gb 48 (zE vXb vXw)] ([.sl vXb 1 23 (GX.map K2.d0),.sl goX 1 23 (GX.map K2.d1),.sl vXw 1 23 (WX.map (D.ls 1 D.s))]++(GX.map (K2.h 1 9 D.s))) [] J J (.cons ArgC.id .nil) zg Tryz.call70 (growRunes_0 gb (.ov vXb) (.ov vXw) (dZ) (dZ) (dZ) (dZ) (dZ) (dZ) (dZ) (dZ) (dZ) (dZ) (dZ) (dZ) (dZ) (dZ) (dZ) (dZ) (dZ)) (.inl J)) ?_))))
 rintro _ _ ⟨_,⟨rfl,rfl⟩,rfl⟩
 refine OpsD.norm ([.bx gb 48 (zE vXb vXw),.sl vXb 1 23 (GX.map K2.d0),.sl goX 1 23 (GX.map K2.d1),.sl vXw 1 23 (WX.map (D.ls 1 D.s))]++(GX.map (K2.h 1 9 D.s))) J ?_
 refine oR 1 J (oZ J (jk [0,2,3,4,5] J (jT J (oR 1 J (oE J (zm [.bx gb 48 (zE vXb vXw)] ([.sl vXb 1 23 (GX.map K2.d0),.sl goX 1 23 (GX.map K2.d1),.sl vXw 1 23 (WX.map (D.ls 1 D.s))]++(GX.map (K2.h 1 9 D.s))) [] J J (.cons ArgC.id .nil) zg Tryz.call71 (growLabels_0 gb (.ov vXb) (.ov vXw) (dZ) (dZ) (dZ) (dZ) (dZ) (dZ) (dZ) (dZ) (dZ) (dZ) (dZ) (dZ) (dZ) (dZ) (dZ) (dZ) (dZ)) (.inl J)) ?_)))))
 rintro _ _ ⟨_,⟨rfl,rfl⟩,rfl⟩
 refine OpsD.norm ([.bx gb 48 (zE vXb vXw),.sl vXb 1 23 (GX.map K2.d0),.sl goX 1 23 (GX.map K2.d1),.sl vXw 1 23 (WX.map (D.ls 1 D.s))]++(GX.map (K2.h 1 9 D.s))) J ?_
 refine oR 1 J (oZ J (jT J (oR 1 J (oE J (zm [.bx gb 48 (zE vXb vXw)] ([.sl vXb 1 23 (GX.map K2.d0),.sl goX 1 23 (GX.map K2.d1),.sl vXw 1 23 (WX.map (D.ls 1 D.s))]++(GX.map (K2.h 1 9 D.s))) [] J J (.cons ArgC.id .nil) zg Tryz.call72 (growPoints_0 gb (.ov vXb) (.ov vXw) (dZ) (dZ) (dZ) (dZ) (dZ) (dZ) (dZ) (dZ) (dZ) (dZ) (dZ) (dZ) (dZ) (dZ) (dZ) (dZ) (dZ)) (.inl J)) ?_))))
 rintro _ _ ⟨_,⟨rfl,rfl⟩,rfl⟩
 refine OpsD.norm ([.bx gb 48 (zE vXb vXw),.sl vXb 1 23 (GX.map K2.d0),.sl goX 1 23 (GX.map K2.d1),.sl vXw 1 23 (WX.map (D.ls 1 D.s))]++(GX.map (K2.h 1 9 D.s))) J ?_
 refine oR 1 J (oZ J (jT J (oR 1 J (oE J (zm [.bx gb 48 (zE vXb vXw)] ([.sl vXb 1 23 (GX.map K2.d0),.sl goX 1 23 (GX.map K2.d1),.sl vXw 1 23 (WX.map (D.ls 1 D.s))]++(GX.map (K2.h 1 9 D.s))) [] J J (.cons ArgC.id .nil) zg Tryz.call73 (growTokens_0 gb (.ov vXb) (.ov vXw) (dZ) (dZ) (dZ) (dZ) (dZ) (dZ) (dZ) (dZ) (dZ) (dZ) (dZ) (dZ) (dZ) (dZ) (dZ) (dZ) (dZ)) (.inl J)) ?_))))
 rintro _ _ ⟨_,⟨rfl,rfl⟩,rfl⟩
 refine OpsD.norm ([.bx gb 48 (zE vXb vXw),.sl vXb 1 23 (GX.map K2.d0),.sl goX 1 23 (GX.map K2.d1),.sl vXw 1 23 (WX.map (D.ls 1 D.s))]++(GX.map (K2.h 1 9 D.s))) J ?_
 refine oR 1 J (oZ J (jT J (oR 1 J (oE J (zm [.bx gb 48 (zE vXb vXw)] ([.sl vXb 1 23 (GX.map K2.d0),.sl goX 1 23 (GX.map K2.d1),.sl vXw 1 23 (WX.map (D.ls 1 D.s))]++(GX.map (K2.h 1 9 D.s))) [] J J (.cons ArgC.id .nil) zg Tryz.call74 (growCursors_0 gb (.ov vXb) (.ov vXw) (dZ) (dZ) (dZ) (dZ) (dZ) (dZ) (dZ) (dZ) (dZ) (dZ) (dZ) (dZ) (dZ) (dZ) (dZ) (dZ) (dZ)) (.inl J)) ?_))))
 rintro _ _ ⟨_,⟨rfl,rfl⟩,rfl⟩
 refine OpsD.norm ([.bx gb 48 (zE vXb vXw),.sl vXb 1 23 (GX.map K2.d0),.sl goX 1 23 (GX.map K2.d1),.sl vXw 1 23 (WX.map (D.ls 1 D.s))]++(GX.map (K2.h 1 9 D.s))) J ?_
 refine oR 1 J (oZ J (jT J (oR 1 J (oE J (zm [.bx gb 48 (zE vXb vXw)] ([.sl vXb 1 23 (GX.map K2.d0),.sl goX 1 23 (GX.map K2.d1),.sl vXw 1 23 (WX.map (D.ls 1 D.s))]++(GX.map (K2.h 1 9 D.s))) [] J J (.cons ArgC.id .nil) zg Tryz.call75 (growNotes_0 gb (.ov vXb) (.ov vXw) (dZ) (dZ) (dZ) (dZ) (dZ) (dZ) (dZ) (dZ) (dZ) (dZ) (dZ) (dZ) (dZ) (dZ) (dZ) (dZ) (dZ)) (.inl J)) ?_))))
 rintro _ _ ⟨_,⟨rfl,rfl⟩,rfl⟩
 refine OpsD.norm ([.bx gb 48 (zE vXb vXw),.sl vXb 1 23 (GX.map K2.d0),.sl goX 1 23 (GX.map K2.d1),.sl vXw 1 23 (WX.map (D.ls 1 D.s))]++(GX.map (K2.h 1 9 D.s))) J ?_
 refine oR 1 J (oZ J (jk [0,2,3,4,5,6,7,8,9,10] J (jT J (oR 1 J (oE J (zm [.bx gb 48 (zE vXb vXw)] ([.sl vXb 1 23 (GX.map K2.d0),.sl goX 1 23 (GX.map K2.d1),.sl vXw 1 23 (WX.map (D.ls 1 D.s))]++(GX.map (K2.h 1 9 D.s))) [] J J (.cons ArgC.id .nil) zg Tryz.call76 (growRows_0 gb (.ov vXb) (.ov vXw) (dZ) (dZ) (dZ) (dZ) (dZ) (dZ) (dZ) (dZ) (dZ) (dZ) (dZ) (dZ) (dZ) (dZ) (dZ) (dZ) (dZ)) (.inl J)) ?_)))))
 rintro _ _ ⟨_,⟨rfl,rfl⟩,rfl⟩
 refine OpsD.norm ([.bx gb 48 (zE vXb vXw),.sl vXb 1 23 (GX.map K2.d0),.sl goX 1 23 (GX.map K2.d1),.sl vXw 1 23 (WX.map (D.ls 1 D.s))]++(GX.map (K2.h 1 9 D.s))) J ?_
 refine oR 1 J (oZ J (jT J (oR 1 J (oE J (zm [.bx gb 48 (zE vXb vXw)] ([.sl vXb 1 23 (GX.map K2.d0),.sl goX 1 23 (GX.map K2.d1),.sl vXw 1 23 (WX.map (D.ls 1 D.s))]++(GX.map (K2.h 1 9 D.s))) [] J J (.cons ArgC.id .nil) zg Tryz.call77 (growSeries_0 gb (.ov vXb) (.ov vXw) (dZ) (dZ) (dZ) (dZ) (dZ) (dZ) (dZ) (dZ) (dZ) (dZ) (dZ) (dZ) (dZ) (dZ) (dZ) (dZ) (dZ)) (.inl J)) ?_))))
 rintro _ _ ⟨_,⟨rfl,rfl⟩,rfl⟩
 refine OpsD.norm ([.bx gb 48 (zE vXb vXw),.sl vXb 1 23 (GX.map K2.d0),.sl goX 1 23 (GX.map K2.d1),.sl vXw 1 23 (WX.map (D.ls 1 D.s))]++(GX.map (K2.h 1 9 D.s))) J ?_
 refine oR 1 J (oZ J (jT J (oR 1 J (OpsD.subH (HSub.perm (zc (i:=2) J)) ?_))))
 refine OpsD.norm ([.sl goX 1 23 (GX.map K2.d1),.bx gb 48 (zE vXb vXw),.sl vXb 1 23 (GX.map K2.d0),.sl vXw 1 23 (WX.map (D.ls 1 D.s))]++(GX.map (K2.h 1 9 D.s))) J ?_
 refine OpsD.subH (HSub.perm (zbT (A:=[.sl goX 1 23 (GX.map K2.d1)]) (B:=[.bx gb 48 (zE vXb vXw),.sl vXb 1 23 (GX.map K2.d0),.sl vXw 1 23 (WX.map (D.ls 1 D.s))]) (T:=GX.map (K2.h 1 9 D.s)))) (oE J (zm ([.sl goX 1 23 (GX.map K2.d1)]++(GX.map (K2.h 1 9 D.s))) [.bx gb 48 (zE vXb vXw),.sl vXb 1 23 (GX.map K2.d0),.sl vXw 1 23 (WX.map (D.ls 1 D.s))] [] J J (.cons ArgC.id .nil) zg Tryz.call78 (markedTextsN_c goX GX (by have e:=hGX.len;rw[putK_len] at e;omega) hGX.at_) (.inl rfl)) ?_)
 rintro _ _ ⟨_,⟨rfl,rfl⟩,rfl⟩
 refine OpsD.subH (HSub.perm (zbT (A:=[.sl goX 1 23 (GX.map K2.d1)]) (B:=[.bx gb 48 (zE vXb vXw),.sl vXb 1 23 (GX.map K2.d0),.sl vXw 1 23 (WX.map (D.ls 1 D.s))]) (T:=GX.map (K2.h 1 9 D.s))).symm) ?_
 refine OpsD.norm ([.sl goX 1 23 (GX.map K2.d1),.bx gb 48 (zE vXb vXw),.sl vXb 1 23 (GX.map K2.d0),.sl vXw 1 23 (WX.map (D.ls 1 D.s))]++(GX.map (K2.h 1 9 D.s))) J ?_
 refine oR 3 J (oG J (zd J zbV J) (oG J (ze J (i:=1) J Tryz.isAgg37 J) (OpsD.subH (HSub.perm (zc (i:=2) J)) ?_)))
 refine OpsD.norm ([.sl vXb 1 23 (GX.map K2.d0),.sl goX 1 23 (GX.map K2.d1),.bx gb 48 (zE vXb vXw),.sl vXw 1 23 (WX.map (D.ls 1 D.s))]++(GX.map (K2.h 1 9 D.s))) J ?_
 refine OpsD.subH (HSub.perm (zbT (A:=[.sl vXb 1 23 (GX.map K2.d0)]) (B:=[.sl goX 1 23 (GX.map K2.d1),.bx gb 48 (zE vXb vXw),.sl vXw 1 23 (WX.map (D.ls 1 D.s))]) (T:=GX.map (K2.h 1 9 D.s)))) (oF J (zm ([.sl vXb 1 23 (GX.map K2.d0)]++(GX.map (K2.h 1 9 D.s))) [.sl goX 1 23 (GX.map K2.d1),.bx gb 48 (zE vXb vXw),.sl vXw 1 23 (WX.map (D.ls 1 D.s))] [] J J (.cons ArgC.id .nil) zg Tryz.call78 (markedTextsW_c vXb GX (by have e:=hGX.len;rw[putK_len] at e;omega) hGX.at_) (.inl rfl)) ?_)
 rintro _ _ ⟨_,⟨rfl,rfl⟩,rfl⟩
 refine OpsD.subH (HSub.perm (zbT (A:=[.sl vXb 1 23 (GX.map K2.d0)]) (B:=[.sl goX 1 23 (GX.map K2.d1),.bx gb 48 (zE vXb vXw),.sl vXw 1 23 (WX.map (D.ls 1 D.s))]) (T:=GX.map (K2.h 1 9 D.s))).symm) ?_
 refine OpsD.norm ([.sl vXb 1 23 (GX.map K2.d0),.sl goX 1 23 (GX.map K2.d1),.bx gb 48 (zE vXb vXw),.sl vXw 1 23 (WX.map (D.ls 1 D.s))]++(GX.map (K2.h 1 9 D.s))) J ?_
 refine oR 3 J (oF J (zm [] ([.sl vXb 1 23 (GX.map K2.d0),.sl goX 1 23 (GX.map K2.d1),.bx gb 48 (zE vXb vXw),.sl vXw 1 23 (WX.map (D.ls 1 D.s))]++(GX.map (K2.h 1 9 D.s))) [] J J (.cons ArgC.id .nil) zg Tryz.call79 (markedInts_0) (.inl J)) ?_)
 rintro _ _ ⟨_,⟨rfl,rfl⟩,rfl⟩
 refine OpsD.norm ([.sl vXb 1 23 (GX.map K2.d0),.sl goX 1 23 (GX.map K2.d1),.bx gb 48 (zE vXb vXw),.sl vXw 1 23 (WX.map (D.ls 1 D.s))]++(GX.map (K2.h 1 9 D.s))) J ?_
 refine oR 4 J (oG J (zd J fa_48_2 J) (oG J (ze J (i:=2) J Tryz.isAgg38 J) (oF J (zm [] ([.sl vXb 1 23 (GX.map K2.d0),.sl goX 1 23 (GX.map K2.d1),.bx gb 48 (zE vXb vXw),.sl vXw 1 23 (WX.map (D.ls 1 D.s))]++(GX.map (K2.h 1 9 D.s))) [] J J (.cons ArgC.id .nil) zg Tryz.call79 (markedInts_0) (.inl J)) ?_)))
 rintro _ _ ⟨_,⟨rfl,rfl⟩,rfl⟩
 refine OpsD.norm ([.sl vXb 1 23 (GX.map K2.d0),.sl goX 1 23 (GX.map K2.d1),.bx gb 48 (zE vXb vXw),.sl vXw 1 23 (WX.map (D.ls 1 D.s))]++(GX.map (K2.h 1 9 D.s))) J ?_
 refine oR 3 J (oF J (zm [] ([.sl vXb 1 23 (GX.map K2.d0),.sl goX 1 23 (GX.map K2.d1),.bx gb 48 (zE vXb vXw),.sl vXw 1 23 (WX.map (D.ls 1 D.s))]++(GX.map (K2.h 1 9 D.s))) [] J J (.cons ArgC.id .nil) zg Tryz.call80 (markedRunes_0) (.inl J)) ?_)
 rintro _ _ ⟨_,⟨rfl,rfl⟩,rfl⟩
 refine OpsD.norm ([.sl vXb 1 23 (GX.map K2.d0),.sl goX 1 23 (GX.map K2.d1),.bx gb 48 (zE vXb vXw),.sl vXw 1 23 (WX.map (D.ls 1 D.s))]++(GX.map (K2.h 1 9 D.s))) J ?_
 refine oR 4 J (oG J (zd J fa_48_4 J) (oG J (ze J (i:=2) J Tryz.isAgg39 J) (oF J (zm [] ([.sl vXb 1 23 (GX.map K2.d0),.sl goX 1 23 (GX.map K2.d1),.bx gb 48 (zE vXb vXw),.sl vXw 1 23 (WX.map (D.ls 1 D.s))]++(GX.map (K2.h 1 9 D.s))) [] J J (.cons ArgC.id .nil) zg Tryz.call80 (markedRunes_0) (.inl J)) ?_)))
 rintro _ _ ⟨_,⟨rfl,rfl⟩,rfl⟩
 refine OpsD.norm ([.sl vXb 1 23 (GX.map K2.d0),.sl goX 1 23 (GX.map K2.d1),.bx gb 48 (zE vXb vXw),.sl vXw 1 23 (WX.map (D.ls 1 D.s))]++(GX.map (K2.h 1 9 D.s))) J ?_
 refine oR 3 J (oF J (zm [] ([.sl vXb 1 23 (GX.map K2.d0),.sl goX 1 23 (GX.map K2.d1),.bx gb 48 (zE vXb vXw),.sl vXw 1 23 (WX.map (D.ls 1 D.s))]++(GX.map (K2.h 1 9 D.s))) [] J J (.cons ArgC.id .nil) zg Tryz.call81 (markedLabels_0) (.inl J)) ?_)
 rintro _ _ ⟨_,⟨rfl,rfl⟩,rfl⟩
 refine OpsD.norm ([.sl vXb 1 23 (GX.map K2.d0),.sl goX 1 23 (GX.map K2.d1),.bx gb 48 (zE vXb vXw),.sl vXw 1 23 (WX.map (D.ls 1 D.s))]++(GX.map (K2.h 1 9 D.s))) J ?_
 refine oR 4 J (oG J (zd J fa_48_6 J) (oG J (ze J (i:=2) J Tryz.isAgg40 J) (oF J (zm [] ([.sl vXb 1 23 (GX.map K2.d0),.sl goX 1 23 (GX.map K2.d1),.bx gb 48 (zE vXb vXw),.sl vXw 1 23 (WX.map (D.ls 1 D.s))]++(GX.map (K2.h 1 9 D.s))) [] J J (.cons ArgC.id .nil) zg Tryz.call81 (markedLabels_0) (.inl J)) ?_)))
 rintro _ _ ⟨_,⟨rfl,rfl⟩,rfl⟩
 refine OpsD.norm ([.sl vXb 1 23 (GX.map K2.d0),.sl goX 1 23 (GX.map K2.d1),.bx gb 48 (zE vXb vXw),.sl vXw 1 23 (WX.map (D.ls 1 D.s))]++(GX.map (K2.h 1 9 D.s))) J ?_
 refine oR 3 J (oF J (zm [] ([.sl vXb 1 23 (GX.map K2.d0),.sl goX 1 23 (GX.map K2.d1),.bx gb 48 (zE vXb vXw),.sl vXw 1 23 (WX.map (D.ls 1 D.s))]++(GX.map (K2.h 1 9 D.s))) [] J J (.cons ArgC.id .nil) zg Tryz.call82 (markedPoints_0) (.inl J)) ?_)
 rintro _ _ ⟨_,⟨rfl,rfl⟩,rfl⟩
 refine OpsD.norm ([.sl vXb 1 23 (GX.map K2.d0),.sl goX 1 23 (GX.map K2.d1),.bx gb 48 (zE vXb vXw),.sl vXw 1 23 (WX.map (D.ls 1 D.s))]++(GX.map (K2.h 1 9 D.s))) J ?_
 refine oR 4 J (oG J (zd J fa_48_8 J) (oG J (ze J (i:=2) J Tryz.isAgg41 J) (oF J (zm [] ([.sl vXb 1 23 (GX.map K2.d0),.sl goX 1 23 (GX.map K2.d1),.bx gb 48 (zE vXb vXw),.sl vXw 1 23 (WX.map (D.ls 1 D.s))]++(GX.map (K2.h 1 9 D.s))) [] J J (.cons ArgC.id .nil) zg Tryz.call82 (markedPoints_0) (.inl J)) ?_)))
 rintro _ _ ⟨_,⟨rfl,rfl⟩,rfl⟩
 refine OpsD.norm ([.sl vXb 1 23 (GX.map K2.d0),.sl goX 1 23 (GX.map K2.d1),.bx gb 48 (zE vXb vXw),.sl vXw 1 23 (WX.map (D.ls 1 D.s))]++(GX.map (K2.h 1 9 D.s))) J ?_
 refine oR 3 J (oF J (zm [] ([.sl vXb 1 23 (GX.map K2.d0),.sl goX 1 23 (GX.map K2.d1),.bx gb 48 (zE vXb vXw),.sl vXw 1 23 (WX.map (D.ls 1 D.s))]++(GX.map (K2.h 1 9 D.s))) [] J J (.cons ArgC.id .nil) zg Tryz.call83 (markedTokens_0) (.inl J)) ?_)
 rintro _ _ ⟨_,⟨rfl,rfl⟩,rfl⟩
 refine OpsD.norm ([.sl vXb 1 23 (GX.map K2.d0),.sl goX 1 23 (GX.map K2.d1),.bx gb 48 (zE vXb vXw),.sl vXw 1 23 (WX.map (D.ls 1 D.s))]++(GX.map (K2.h 1 9 D.s))) J ?_
 refine oR 4 J (oG J (zd J fa_48_10 J) (oG J (ze J (i:=2) J Tryz.isAgg42 J) (oF J (zm [] ([.sl vXb 1 23 (GX.map K2.d0),.sl goX 1 23 (GX.map K2.d1),.bx gb 48 (zE vXb vXw),.sl vXw 1 23 (WX.map (D.ls 1 D.s))]++(GX.map (K2.h 1 9 D.s))) [] J J (.cons ArgC.id .nil) zg Tryz.call83 (markedTokens_0) (.inl J)) ?_)))
 rintro _ _ ⟨_,⟨rfl,rfl⟩,rfl⟩
 refine OpsD.norm ([.sl vXb 1 23 (GX.map K2.d0),.sl goX 1 23 (GX.map K2.d1),.bx gb 48 (zE vXb vXw),.sl vXw 1 23 (WX.map (D.ls 1 D.s))]++(GX.map (K2.h 1 9 D.s))) J ?_
 refine oR 3 J (oF J (zm [] ([.sl vXb 1 23 (GX.map K2.d0),.sl goX 1 23 (GX.map K2.d1),.bx gb 48 (zE vXb vXw),.sl vXw 1 23 (WX.map (D.ls 1 D.s))]++(GX.map (K2.h 1 9 D.s))) [] J J (.cons ArgC.id .nil) zg Tryz.call84 (markedCursors_0) (.inl J)) ?_)
 rintro _ _ ⟨_,⟨rfl,rfl⟩,rfl⟩
 refine OpsD.norm ([.sl vXb 1 23 (GX.map K2.d0),.sl goX 1 23 (GX.map K2.d1),.bx gb 48 (zE vXb vXw),.sl vXw 1 23 (WX.map (D.ls 1 D.s))]++(GX.map (K2.h 1 9 D.s))) J ?_
 refine oR 4 J (oG J (zd J fa_48_12 J) (oG J (ze J (i:=2) J Tryz.isAgg43 J) (oF J (zm [] ([.sl vXb 1 23 (GX.map K2.d0),.sl goX 1 23 (GX.map K2.d1),.bx gb 48 (zE vXb vXw),.sl vXw 1 23 (WX.map (D.ls 1 D.s))]++(GX.map (K2.h 1 9 D.s))) [] J J (.cons ArgC.id .nil) zg Tryz.call84 (markedCursors_0) (.inl J)) ?_)))
 rintro _ _ ⟨_,⟨rfl,rfl⟩,rfl⟩
 refine OpsD.norm ([.sl vXb 1 23 (GX.map K2.d0),.sl goX 1 23 (GX.map K2.d1),.bx gb 48 (zE vXb vXw),.sl vXw 1 23 (WX.map (D.ls 1 D.s))]++(GX.map (K2.h 1 9 D.s))) J ?_
 refine oR 3 J (oF J (zm [] ([.sl vXb 1 23 (GX.map K2.d0),.sl goX 1 23 (GX.map K2.d1),.bx gb 48 (zE vXb vXw),.sl vXw 1 23 (WX.map (D.ls 1 D.s))]++(GX.map (K2.h 1 9 D.s))) [] J J (.cons ArgC.id .nil) zg Tryz.call85 (markedNotes_0) (.inl J)) ?_)
 rintro _ _ ⟨_,⟨rfl,rfl⟩,rfl⟩
 refine OpsD.norm ([.sl vXb 1 23 (GX.map K2.d0),.sl goX 1 23 (GX.map K2.d1),.bx gb 48 (zE vXb vXw),.sl vXw 1 23 (WX.map (D.ls 1 D.s))]++(GX.map (K2.h 1 9 D.s))) J ?_
 refine oR 4 J (oG J (zd J fa_48_14 J) (oG J (ze J (i:=2) J Tryz.isAgg44 J) (oF J (zm [] ([.sl vXb 1 23 (GX.map K2.d0),.sl goX 1 23 (GX.map K2.d1),.bx gb 48 (zE vXb vXw),.sl vXw 1 23 (WX.map (D.ls 1 D.s))]++(GX.map (K2.h 1 9 D.s))) [] J J (.cons ArgC.id .nil) zg Tryz.call85 (markedNotes_0) (.inl J)) ?_)))
 rintro _ _ ⟨_,⟨rfl,rfl⟩,rfl⟩
 refine OpsD.norm ([.sl vXb 1 23 (GX.map K2.d0),.sl goX 1 23 (GX.map K2.d1),.bx gb 48 (zE vXb vXw),.sl vXw 1 23 (WX.map (D.ls 1 D.s))]++(GX.map (K2.h 1 9 D.s))) J ?_
 refine oR 3 J (oF J (zm [] ([.sl vXb 1 23 (GX.map K2.d0),.sl goX 1 23 (GX.map K2.d1),.bx gb 48 (zE vXb vXw),.sl vXw 1 23 (WX.map (D.ls 1 D.s))]++(GX.map (K2.h 1 9 D.s))) [] J J (.cons ArgC.id .nil) zg Tryz.call86 (markedRows_0) (.inl J)) ?_)
 rintro _ _ ⟨_,⟨rfl,rfl⟩,rfl⟩
 refine OpsD.norm ([.sl vXb 1 23 (GX.map K2.d0),.sl goX 1 23 (GX.map K2.d1),.bx gb 48 (zE vXb vXw),.sl vXw 1 23 (WX.map (D.ls 1 D.s))]++(GX.map (K2.h 1 9 D.s))) J ?_
 refine oR 4 J (oG J (zd J fa_48_16 J) (oG J (ze J (i:=2) J Tryz.isAgg45 J) (oF J (zm [] ([.sl vXb 1 23 (GX.map K2.d0),.sl goX 1 23 (GX.map K2.d1),.bx gb 48 (zE vXb vXw),.sl vXw 1 23 (WX.map (D.ls 1 D.s))]++(GX.map (K2.h 1 9 D.s))) [] J J (.cons ArgC.id .nil) zg Tryz.call86 (markedRows_0) (.inl J)) ?_)))
 rintro _ _ ⟨_,⟨rfl,rfl⟩,rfl⟩
 refine OpsD.norm ([.sl vXb 1 23 (GX.map K2.d0),.sl goX 1 23 (GX.map K2.d1),.bx gb 48 (zE vXb vXw),.sl vXw 1 23 (WX.map (D.ls 1 D.s))]++(GX.map (K2.h 1 9 D.s))) J ?_
 refine oR 3 J (oF J (zm [] ([.sl vXb 1 23 (GX.map K2.d0),.sl goX 1 23 (GX.map K2.d1),.bx gb 48 (zE vXb vXw),.sl vXw 1 23 (WX.map (D.ls 1 D.s))]++(GX.map (K2.h 1 9 D.s))) [] J J (.cons ArgC.id .nil) zg Tryz.call87 (markedSeries_0) (.inl J)) ?_)
 rintro _ _ ⟨_,⟨rfl,rfl⟩,rfl⟩
 refine OpsD.norm ([.sl vXb 1 23 (GX.map K2.d0),.sl goX 1 23 (GX.map K2.d1),.bx gb 48 (zE vXb vXw),.sl vXw 1 23 (WX.map (D.ls 1 D.s))]++(GX.map (K2.h 1 9 D.s))) J ?_
 refine oR 4 J (oG J (zd J fa_48_18 J) (oG J (ze J (i:=2) J Tryz.isAgg46 J) (oF J (zm [] ([.sl vXb 1 23 (GX.map K2.d0),.sl goX 1 23 (GX.map K2.d1),.bx gb 48 (zE vXb vXw),.sl vXw 1 23 (WX.map (D.ls 1 D.s))]++(GX.map (K2.h 1 9 D.s))) [] J J (.cons ArgC.id .nil) zg Tryz.call87 (markedSeries_0) (.inl J)) ?_)))
 rintro _ _ ⟨_,⟨rfl,rfl⟩,rfl⟩
 refine OpsD.norm ([.sl vXb 1 23 (GX.map K2.d0),.sl goX 1 23 (GX.map K2.d1),.bx gb 48 (zE vXb vXw),.sl vXw 1 23 (WX.map (D.ls 1 D.s))]++(GX.map (K2.h 1 9 D.s))) J ?_
 refine oR 2 J (oZ J (jk [2] J (zn J ?_)))
 exact zh Tryz.results24 (.cons (zl J) .nil) J HSub.none ⟨rfl,J⟩
end Lp
