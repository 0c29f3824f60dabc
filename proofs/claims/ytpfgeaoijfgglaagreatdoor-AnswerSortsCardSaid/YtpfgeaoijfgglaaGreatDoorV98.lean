import Derived.Test.YtpfgeaoijfgglaaGreatDoorV95
set_option linter.unusedSimpArgs false
set_option linter.unusedVariables false
set_option maxHeartbeats 4000000
set_option maxRecDepth 100000
namespace Lp
open Go Go.RowKit Go.Proofs Tryz
variable {t:ByteArray} {s:ByteArray} {name:ByteArray}
theorem bd_288:BdP prog #[⟨"m",178,0,false, "", "leporello/store",0⟩,⟨"p",286,3,false, "", "leporello/store",40⟩] [(0,3),(3,1)]:=λ_=>by kernel_rfl
theorem bd_359:BdP prog #[⟨"text",9,0,false, "", "leporello/pattern",0⟩,⟨"steps",357,1,false, "", "leporello/pattern",16⟩,⟨"first",3,2,false, "", "leporello/pattern",40⟩] [(0,1),(1,1),(2,1)]:=λ_=>by kernel_rfl
theorem bd_367:BdP prog #[⟨"l",157,0,false, "", "leporello/pattern",0⟩,⟨"bad",4,1,false, "", "leporello/pattern",24⟩] [(0,1),(1,1)]:=λ_=>by kernel_rfl
noncomputable def patE (s:ByteArray):Int:=if 40<(z1 s).length then 1 else if patR (z1 s)=true then 0 else 2
theorem pat_e {x:Pt} {s1:PR} (e:(x,s1)=altF ((z1 s).length+1) ⟨z1 s,false⟩):patR (z1 s)=(decide ((z1 s).length<=40)&&!s1.b&&decide (s1.l=[])):=by unfold patR;rw[<-e]
theorem pat_long (h:40<(z1 s).length):1=patE s:=by unfold patE;rw[if_pos h]
theorem pat_bad {x:Pt} {s1:PR} (e:(x,s1)=altF ((z1 s).length+1) ⟨z1 s,false⟩) (h:¬40<(z1 s).length) (hb:s1.b=true\/0<s1.l.length):2=patE s:=by
 unfold patE;rw[if_neg h,if_neg];rw[pat_e e];rcases hb with hb | hb
 · rw[hb];simp
 rw[decide_eq_false (List.ne_nil_of_length_pos hb)];simp
theorem pat_good {x:Pt} {s1:PR} (e:(x,s1)=altF ((z1 s).length+1) ⟨z1 s,false⟩) (h:¬40<(z1 s).length) (hb:s1.b=false/\s1.l.length=0):0=patE s:=by
 unfold patE;rw[if_neg h,if_pos];rw[pat_e e,hb.1,decide_eq_true (jN.1 hb.2),decide_eq_true (by omega)];rfl
theorem pt_facts {f:Nat} {s s':PR} {x:Pt} (e:(x,s')=altF f s):x.sz+3*s'.l.length<=3*s.l.length+2/\x.ok:=by
 have h:=altF_sz f s;rw[<-e] at h;exact h
theorem Cv.any {u:Value} (h:u.oneCell'=true):Cv (.v u) .any:=⟨λ_ _ _ e=>by rw[show _=u from e];exact h⟩
theorem Cv.oany {u:Value}:Cv (.ov u) .any:=⟨λ_ _ _ e=>by rw[e.1];exact e.2⟩
theorem runes_ok (s:ByteArray):ROk (z1 s):=by
 have key:∀ (n p:Nat),s.size-p=n->ROk (zas s p):=by
  intro n
  induction n using Nat.strongRecOn with
  | _ n ih=>
   intro p hn;by_cases hp:p<s.size
   · have hw:=zF s p;rw[zao hp];intro c hc;rcases dF.1 hc with rfl | hc
     · have:=zcj s p;omega
     exact ih (s.size-(p+decW s p)) (by omega) _ O c hc
   rw[zaE (by omega)];intro c hc;cases hc
 exact key _ 0 O
theorem patE_0 (s:ByteArray):decide (patE s=0)=patR (z1 s):=by
 unfold patE;split
 · rename_i h;unfold patR;rw[decide_eq_false (by omega:¬(z1 s).length<=40)];simp
 split
 · rename_i h;rw[h];rfl
 rename_i h;simp[h]
theorem pcompile_c (s:ByteArray) (hs:s.size<=1000000):
 CD prog 329 [] [.s s] (λr H'=>r=.tup [.any,dI (patE s)]/\H'=[]):=by
 refine tZ func329 O O (λC=>?_);refine T.bd 0 O (λbd0=>?_);have sz0:s.size<=9223372036854775807:=bd0;have hrl:=runesAt_len s _ 0 O;have hrl2:(z1 s).length<=s.size:=by have e:(z1 s).length=(zas s 0).length:=rfl;omega
 refine g' 9 O (tX [] O O acs (Spell_c s (by omega)) ?_);rintro _ _ ⟨v1,rfl,rfl⟩;refine g' 7 O (tP O (zQ (n:=(z1 s).length) (j:=0) O O runUnderlying157 (cP _)) (g' 3 O ?_));refine tD O (λhc2=>?_) (λhc2=>?_)
 · have hlg:=pat_long (s:=s) (by have h:=hc2;omega);refine g' 8 O ?_;exact tRs O results329 (.cons (zf (zd O) (Cv.any O)) (.cons (zf (zd O) (wO (congrArg dI hlg))) .nil)) O HSub.none ⟨O,O⟩
 have hsh:¬40<(z1 s).length:=by have h:=hc2;omega
 refine g' 3 O (mO (Mv.freeze (K':=[(0,.s s),(2,.v (.pointer none)),(3,dI 0),(4,.sh 1 ((z1 s).map dR)),(9,.s s),(10,.sh 1 ((z1 s).map dR)),(11,.sh 1 ((z1 s).map dR)),(12,dN ((z1 s).length)),(13,dB (decide ((40:Int)<(((z1 s).length:Nat):Int))))]) [.sl v1 1 21 ((z1 s).map dR)] (H1:=[]) (H1':=[]) ⟨⟨_,O,w6⟩,⟨_,O,w6⟩,⟨_,O,w6⟩,⟨_,O,w7 (j:=0) O O⟩,⟨_,O,w6⟩,⟨_,O,w7 (j:=0) O O⟩,⟨_,O,w7 (j:=0) O O⟩,⟨_,O,w6⟩,⟨_,O,w6⟩,trivial⟩ .nil) (g' 2 O (tP O (zr [0] [.tmp 14] (zv:=(.agg #[(.slice none 0 0),(.bool false)])) O O (.cons CellD.sh .nil) (runUnderlying367) zeroValue367 bd_367 ⟨O,O,trivial⟩ O) ?_)));refine tA O (λg3=>?_);refine g' 4 O ?_;obtain ⟨z,ez⟩:∃ x:PR,x=⟨z1 s,false⟩:=⟨_,rfl⟩;have hzl:z.l=z1 s:=by rw[ez]
 have hzT:ROk z.l:=by rw[hzl];exact runes_ok s
 have hzn:z.l.length=(z1 s).length:=by rw[hzl]
 refine mQ [.bx g3 367 (.agg [.sh 1 (z.l.map dR),dB z.b])] (by rw[ez]<;>rfl) (g' 2 O (tX [0] O O acs (altOk ((z1 s).length+1) g3 z (by omega) (by omega) hzT) ?_));rintro _ _ ⟨x4,s4,e4,rfl,rfl⟩;obtain ⟨hsz4,hok4⟩:=pt_facts e4;rw[ez] at e4;have kd4:s4.l.length<=1000000:=by omega
 refine gQ 11 [0] O O ?_;refine tOr 4 6 (c:=decide ((0:Int)<((s4.l.length:Nat):Int))) O O O O O O (λhb5 nx6=>?_) ?_
 · refine gQ 4 [0] O O (tG O (zJ (n:=s4.l.length) O runUnderlying157 (by simp only[lm,lc,ln])) (g' 1 O ?_));exact nx6 _ O O (kx 6 O O)
 refine g' 2 O ?_;refine tC O (λhc7=>?_) (λhc7=>?_)
 · simp only[bX,bJ] at hc7;have hbd:=pat_bad e4 hsh (by have h:=hc7;rcases h with h | h;exact .inl h;exact .inr (by omega));refine g' 8 O ?_;exact tRs O results329 (.cons (zf (zd O) (Cv.any O)) (.cons (zf (zd O) (wO (congrArg dI hbd))) .nil)) O HSub.none ⟨O,O⟩
 simp only[bX,bJ] at hc7;have hgd:=pat_good e4 hsh (by have h:=hc7;exact⟨h.1,by omega⟩);refine g' 5 O (tP O (zr [0] [.tmp 31] (zv:=(.agg #[(.string ByteArray.empty),(.slice none 0 0),(.int .i64 0)])) O O (.cons CellD.s .nil) (runUnderlying359) zeroValue359 bd_359 ⟨O,O,O,trivial⟩ O) ?_);refine tA O (λg8=>?_);refine g' 4 O (mP (HSub.nil 6 374) (mR 1 O (mP (wT (h':=.bx g8 359 (.agg [.s s,.ov (.slice none 0 0),dI 0])) O (wU (Cv.agg (gc (.cons (Cv.ov O) (gc .nil)))))) (g' 2 O (tP O (zr [2,3] [.const (.int .i64 (-1)),.const (.int .i64 (-1))] (zv:=cD) O O (.cons (CellD.v O) (.cons (CellD.v O) .nil)) (runUnderlying374) zeroValue374 zfa ⟨O,O,O,O,O,O,trivial⟩ O) (tX [0,0] O O (ga (.cons (ArgC.cv (Cv.agg (gc (gc (.cons Cv.nil (gc (gc (gc .nil)))))))) .nil)) (ze3 g8 (.s s) (.slice none 0 0) 0 ([]:List StepD) false false [] false (-1) (-1) (by (try simp only[la,cR,ln]);omega)) ?_))))));rintro _ _ ⟨mv9,rfl,rfl⟩;have halmv9:(([]:List StepD)++[StepD.mk false false [] false (-1) (-1)]).length=([]:List StepD).length+1:=by simp only[la,cR,ln]
 refine g' 9 O (tX [0,0] O O acs ((buildOk x4.sz) g8 (.s s) mv9 0 (([]:List StepD)++[StepD.mk false false [] false (-1) (-1)]) x4 ((([]:List StepD).length:Nat):Int) hok4 (cX _) (by (try simp only[la,cR,ln]);omega)) ?_);rintro _ _ ⟨mv10,ys10,bi10,hba10,hbb10,rfl,rfl⟩;refine gQ 13 [0] O O ?_;exact tRs O results329 (.cons (zf (zd O) (Cv.any O)) (.cons (zf (zd O) (wO (congrArg dI hgd))) .nil)) O HSub.none ⟨O,O⟩
def tstD (m:MatD):D:=.agg [.s m.n,dI m.op,.s m.v,.any]
def noMat:MatD:=⟨ByteArray.empty,0,ByteArray.empty⟩
theorem ready_c (m:MatD) (hn:m.n.size<=1000000) (hv:m.v.size<=1000000):
 CD prog 297 [] [MatD.d m] (λr H'=>∃ m',r=.tup [tstD m',dB (zcu m)]/\(zcu m=true->m'=m)/\H'=[]):=by
 refine tZ func297 O O (λC=>?_);refine T.bd 0 O (λbd0=>?_);refine g' 2 O ?_;refine tA O (λg1=>?_);refine tA O (λg2=>?_);refine gQ 8 [1] O O (tW O acs (zep m.n) (g' 2 O ?_));refine tOr 4 3 (c:=decide (m.op<(1:Int))) O O O O O O (λhb3 nx4=>?_) ?_
 · have hf5:=notF hb3;refine gQ 3 [1] O O ?_;exact nx4 _ O O (kx 3 O O)
 refine g' 1 O ?_;refine tOr 9 3 (c:=decide ((4:Int)<m.op)) O O O O O O (λhb6 nx7=>?_) ?_
 · obtain ⟨hf8,hf9⟩:=orF hb6;have hf10:=notF hf8;have hf11:=of_decide_eq_false hf9;refine gQ 3 [1] O O ?_;exact nx7 _ O O (kx 3 O O)
 refine g' 2 O ?_;refine tC O (λhc12=>?_) (λhc12=>?_)
 · simp only[bX,bJ] at hc12;have hrd:zcu m=false:=(by unfold zcu;have h:=hc12;rcases h with (h | h) | h;(rw[h];rfl);(rw[decide_eq_false (by omega:¬(1<=m.op/\m.op<=4))];simp);(rw[decide_eq_false (by omega:¬(1<=m.op/\m.op<=4))];simp));refine g' 2 O (tP O (zr [] [] (zv:=cF) O O (.nil) (runUnderlying288) zeroValue288 bd_288 ⟨O,O,O,O,trivial⟩ O) (gQ 6 [0] O O ?_));exact tRs O results297 (.cons (zf (zI (X:=.agg [cA,dI 0,cA,.v (.pointer none)]) (d:=.agg [cA,dI 0,cA,.v (.pointer none)]) (i:=0) O O isAgg288 sizeOf288 O O) (Cv.agg (.cons cS (gc (.cons cS (.cons (Cv.any O) .nil)))))) (.cons (zf (zd O) (wO (congrArg dB hrd.symm))) .nil)) O HSub.none ⟨noMat,O,(λh=>by rw[hrd] at h;cases h),O⟩
 simp only[bX,bJ] at hc12;have hgd:zcr m.n=true/\(1<=m.op/\m.op<=4):=by have h:=hc12;exact⟨h.1.1,by omega⟩
 refine gQ 10 [1] O O ?_;refine tD O (λhc13=>?_) (λhc13=>?_)
 · have hrd:zcu m=true:=(by unfold zcu;rw[hgd.1,decide_eq_true hgd.2,decide_eq_true (by have h:=hc13;omega:m.op<3)];rfl);refine gQ 3 [1] O O (tP O (zr [0] [.tmp 24] (zv:=cF) O O (.cons CellD.agg .nil) (runUnderlying288) zeroValue288 bd_288 ⟨O,O,O,O,trivial⟩ O) (gQ 6 [0] O O ?_));exact tRs O results297 (.cons (zf (zI (X:=.agg [.s m.n,dI m.op,.s m.v,.v (.pointer none)]) (d:=.agg [.s m.n,dI m.op,.s m.v,.v (.pointer none)]) (i:=0) O O isAgg288 sizeOf288 O O) (Cv.agg (gc (gc (gc (.cons (Cv.any O) .nil)))))) (.cons (zf (zd O) (wO (congrArg dB (hrd.symm)))) .nil)) O HSub.none ⟨m,O,(λ_=>rfl),O⟩
 have hrd:zcu m=patR (z1 m.v):=by unfold zcu;rw[hgd.1,decide_eq_true hgd.2,decide_eq_false (by have h:=hc13;omega:¬m.op<3)];simp
 refine gQ 6 [1] O O (tW O acs (pcompile_c m.v (by omega)) (gQ 11 [1] O O (tP O (zr [0,1] [.tmp 32,.tmp 33] (zv:=cF) O O (.cons CellD.agg (.cons CellD.any .nil)) (runUnderlying288) zeroValue288 bd_288 ⟨O,O,O,O,trivial⟩ O) (gQ 7 [0] O O ?_))));exact tRs O results297 (.cons (zf (zI (X:=.agg [.s m.n,dI m.op,.s m.v,.any]) (d:=.agg [.s m.n,dI m.op,.s m.v,.any]) (i:=0) O O isAgg288 sizeOf288 O O) (Cv.agg (gc (gc (gc (gc .nil)))))) (.cons (zf (zd O) (wO (congrArg dB ((patE_0 m.v).trans hrd.symm)))) .nil)) O HSub.none ⟨m,O,(λ_=>rfl),O⟩
theorem bd_235:BdP prog #[⟨"of",233,0,false, "", "leporello/window",0⟩] [(0,1)]:=λ_=>by kernel_rfl
theorem bd_239:BdP prog #[⟨"of",109,0,false, "", "leporello/window",0⟩] [(0,1)]:=λ_=>by kernel_rfl
theorem bd_242:BdP prog #[⟨"each",4,0,false, "", "leporello/window",0⟩] [(0,1)]:=λ_=>by kernel_rfl
theorem infz_288:IzP prog 288 cF 4 48:=za3 (by kernel_rfl)
theorem und_282:Tryz.prog.underlying 282=some (.slice 288):=by kernel_rfl
theorem rm_bad {m:List MatD} {k:Nat} {x:MatD} (hx:m[k]?=some x) (h:zcu x=false):false=rmD m:=by
 unfold rmD;rw[vJ.2 ⟨x,dW hx,by rw[h];simp⟩];rfl
theorem rm_end {m:List MatD} {k:Nat} (h:(m.take k).all zcu=true) (hk:m.length<=k):decide (((m.length:Nat):Int)<=10)=rmD m:=by
 rw[dA hk] at h;unfold rmD;rw[h,uK];exact decide_eq_decide.2 (by omega)
theorem all_c (m:List MatD) (hl:m.length<=2000000) (hm:∀ x∈m,x.n.size<=1000/\x.v.size<=1000):
 CD prog 253 [] [.sh 3 (m.map MatD.d)] (λr H'=>r=.tup [.any,dB (rmD m)]/\H'=[]):=by
 refine tZ func253 O O (λC=>?_);refine T.bd 0 O (λbd0=>?_);have nl0:=zz bd0;refine g' 15 O (tP O (zJ (n:=m.length) O runUnderlying61 (by simp only[lm,lc,ln])) (g' 4 O (tl3 (λ(a_:Nat) (b_:Value) (c_:List MatD)=>[(0,.sh 3 (m.map MatD.d)),(9,.sh 3 (m.map MatD.d)),(10,dN m.length),(11,dN a_),(4,.ov b_)]) (λa_ b_ c_=>[.sl b_ 4 288 (c_.map tstD)]) (λa_ b_ c_=>(a_<=m.length)/\((m.take a_).all zcu=true)/\(c_.length<=a_)) (λa_ b_ c_=>m.length-a_) 0 (.slice none 0 0) [] O ⟨sk O,sk O,sk O,sk O,sc O (Cv.ov O),trivial⟩ (HSub.nil 4 288) ⟨cU _,O,cX _⟩ ?_)));rintro k ov o ⟨hk,ho,hol⟩;refine g' 6 O ?_;refine tD O (λhc1=>?_) (λhc1=>?_)
 · refine g' 6 O ?_;obtain ⟨x1,hx1⟩:=zj m k (by omega);have hmx:=hm x1 (dW hx1);refine tP O (zi (k:=k) O O runUnderlying61 sizeOf178 (by first | rfl | omega) (ze hx1)) (g' 1 O ?_);refine tA O (λg2=>?_);refine gQ 6 [0,0] O O (tX [] O O acs (ready_c x1 (by omega) (by omega)) ?_);rintro _ _ ⟨tm3,rfl,hqtm3,rfl⟩;refine g' 3 O ?_;refine tA O (λg4=>?_);refine gQ 11 [0] O O ?_;refine tC O (λhc5=>?_) (λhc5=>?_)
   · simp only[bX,bJ] at hc5;refine g' 13 O ?_;exact tRs O results253 (.cons (zf (zd O) (Cv.any O)) (.cons (zf (zd O) (wO (congrArg dB (rm_bad hx1 (by simpa using hc5))))) .nil)) O HSub.none ⟨O,O⟩
   simp only[bX,bJ] at hc5;refine gQ 5 [0] O O (tE O (zt [.tmp 23] O O (.cons CellD.agg .nil) O runUnderlying282 sizeOf288 zeroValue288 O O O O) ?_);rintro _ _ ⟨g6,rfl,rfl⟩;refine tE O (zx (f:=tstD) (l:=o) (l':=[tm3]) (i:=3) O O O (wX (j:=0) O O) und_282 infz_288 O O (by unfold maxLen;(try simp only[la,lc,ln,lm,lt',ld,ls,lr]);omega) (by (try simp only[la,lc,ln,lm,lt',ld,ls,lr]);omega)) ?_;rintro _ _ ⟨v7,rfl,rfl⟩;refine g' 5 O (tP O (zw (c:=((k+1:Nat):Int)) O O (zk (by omega) (by omega))) (g' 2 O (mR 3 O (mP (mB 1 O) ?_))));exact tp3 (k+1) v7 (o++[tm3]) (sa O) wQ ⟨by show k+1<=m.length;omega,by rw[zT hx1,List.all_append,ho];simpa using hc5,by simp only[la,cR];omega⟩ (by omega)
 refine g' 9 O (tP O (zJ (n:=m.length) O runUnderlying61 (by simp only[lm,lc,ln])) (g' 6 O ?_));exact tRs O results253 (.cons (zf (zd O) (Cv.oany)) (.cons (zf (zd O) (wO (congrArg dB (rm_end ho (by omega))))) .nil)) O HSub.none ⟨O,O⟩
theorem rightM_c (m:List MatD) (hl:m.length<=2000000) (hm:∀ x∈m,x.n.size<=1000/\x.v.size<=1000):
 CD prog 328 [] [.sh 3 (m.map MatD.d)] (isR (dB (rmD m))):=by
 refine tZ func328 O O (λC=>?_);refine T.bd 0 O (λbd0=>?_);have nl0:=zz bd0;refine g' 8 O (tW O acs (all_c m (by omega) hm) (g' 14 O ?_));exact tR O HSub.none ⟨O,O⟩
theorem aggs_c  :
 CD prog 269 [] [] (zbn 1 9 (aggN.map D.s)):=by
 refine tZ func269 O O (λC=>?_);refine g' 7 O (tE O (zt [.const (.string ⟨#[115,117,109]⟩),.const (.string ⟨#[109,105,110]⟩),.const (.string ⟨#[109,97,120]⟩),.const (.string ⟨#[99,111,117,110,116]⟩),.const (.string ⟨#[97,118,103]⟩),.const (.string ⟨#[116,111,112,107]⟩),.const (.string ⟨#[113,117,97,110,116,105,108,101]⟩)] O O (.cons (CellD.v O) (.cons (CellD.v O) (.cons (CellD.v O) (.cons (CellD.v O) (.cons (CellD.v O) (.cons (CellD.v O) (.cons (CellD.v O) .nil))))))) O runUnderlying56 sizeOf9 zeroValue9 O O O O) ?_);rintro _ _ ⟨g1,rfl,rfl⟩;refine g' 4 O (mP (wT (h':=.sl (vS g1 7 7) 1 9 ([(⟨#[115,117,109]⟩:ByteArray),(⟨#[109,105,110]⟩:ByteArray),(⟨#[109,97,120]⟩:ByteArray),(⟨#[99,111,117,110,116]⟩:ByteArray),(⟨#[97,118,103]⟩:ByteArray),(⟨#[116,111,112,107]⟩:ByteArray),(⟨#[113,117,97,110,116,105,108,101]⟩:ByteArray)].map D.s)) O (w9 (.cons cS (.cons cS (.cons cS (.cons cS (.cons cS (.cons cS (.cons cS .nil))))))))) (mP (wR (zai (i:=0) O)) (mP (wT (h':=.sl (vS g1 7 7) 1 9 (aggN.map D.s)) O (wV (show List.map D.s [(⟨#[115,117,109]⟩:ByteArray),(⟨#[109,105,110]⟩:ByteArray),(⟨#[109,97,120]⟩:ByteArray),(⟨#[99,111,117,110,116]⟩:ByteArray),(⟨#[97,118,103]⟩:ByteArray),(⟨#[116,111,112,107]⟩:ByteArray),(⟨#[113,117,97,110,116,105,108,101]⟩:ByteArray)]=List.map D.s aggN from congrArg _ (by rfl)))) ?_)));exact tR O wQ ⟨_,O,O⟩
theorem Agg_c (name:ByteArray) :
 CD prog 220 [] [.s name] (isR (dB (hasN aggN name))):=by
 refine tZ func220 O O (λC=>?_);refine T.bd 0 O (λbd0=>?_);have sz0:name.size<=9223372036854775807:=bd0;refine g' 7 O (tX [] O O acs (aggs_c) ?_);rintro _ _ ⟨v1,rfl,rfl⟩;refine g' 1 O (tV [0] O O (.cons (w7 (j:=0) O O) (ga .nil)) (zcs aggN name) O (g' 4 O ?_));exact tR O HSub.none ⟨O,O⟩
theorem fnN_no (h0:¬t=⟨#[115,117,109,95,111,118,101,114]⟩) (h1:¬t=⟨#[97,118,103,95,111,118,101,114]⟩) (h2:¬t=⟨#[109,105,110,95,111,118,101,114]⟩) (h3:¬t=⟨#[109,97,120,95,111,118,101,114]⟩) (h4:¬t=⟨#[99,111,117,110,116,95,111,118,101,114]⟩) (h5:¬t=⟨#[108,97,115,116,95,111,118,101,114]⟩) (h6:¬t=⟨#[105,110,99,114,101,97,115,101]⟩) (h7:¬t=⟨#[114,97,116,101]⟩):hasN fnN t=false:=by
 unfold hasN fnN;simp only[List.any_cons,List.any_nil,uP,uE,decide_eq_false_iff_not];exact⟨Ne.symm h0,Ne.symm h1,Ne.symm h2,Ne.symm h3,Ne.symm h4,Ne.symm h5,Ne.symm h6,Ne.symm h7⟩
theorem winfn_c (name:ByteArray) :
 CD prog 204 [] [.s name] (λr H'=>((∃ t x,r=.ifc t x/\hasN fnN name=true)\/(r=.v .nilIface/\hasN fnN name=false))/\H'=[]):=by
 refine tZ func204 O O (λC=>?_);refine T.bd 0 O (λbd0=>?_);have sz0:name.size<=9223372036854775807:=bd0;refine g' 18 O ?_;refine tD O (λhc1=>?_) (λhc1=>?_)
 · refine g' 2 O (tP O (zr [0] [.func 256] (zv:=cM) O O (.cons CellD.fn .nil) (runUnderlying235) zeroValue235 bd_235 ⟨O,trivial⟩ O) (g' 7 O ?_));exact tR O HSub.none ⟨.inl ⟨235,_,O,by rw[hc1];decide⟩,O⟩
 refine g' 6 O ?_;refine tD O (λhc2=>?_) (λhc2=>?_)
 · refine g' 2 O (tP O (zr [0] [.func 257] (zv:=cM) O O (.cons CellD.fn .nil) (runUnderlying235) zeroValue235 bd_235 ⟨O,trivial⟩ O) (g' 7 O ?_));exact tR O HSub.none ⟨.inl ⟨235,_,O,by rw[hc2];decide⟩,O⟩
 refine g' 6 O ?_;refine tD O (λhc3=>?_) (λhc3=>?_)
 · refine g' 2 O (tP O (zr [0] [.func 258] (zv:=cM) O O (.cons CellD.fn .nil) (runUnderlying239) zeroValue239 bd_239 ⟨O,trivial⟩ O) (g' 7 O ?_));exact tR O HSub.none ⟨.inl ⟨239,_,O,by rw[hc3];decide⟩,O⟩
 refine g' 6 O ?_;refine tD O (λhc4=>?_) (λhc4=>?_)
 · refine g' 2 O (tP O (zr [0] [.func 259] (zv:=cM) O O (.cons CellD.fn .nil) (runUnderlying239) zeroValue239 bd_239 ⟨O,trivial⟩ O) (g' 7 O ?_));exact tR O HSub.none ⟨.inl ⟨239,_,O,by rw[hc4];decide⟩,O⟩
 refine g' 6 O ?_;refine tD O (λhc5=>?_) (λhc5=>?_)
 · refine g' 2 O (tP O (zr [0] [.func 260] (zv:=cM) O O (.cons CellD.fn .nil) (runUnderlying239) zeroValue239 bd_239 ⟨O,trivial⟩ O) (g' 7 O ?_));exact tR O HSub.none ⟨.inl ⟨239,_,O,by rw[hc5];decide⟩,O⟩
 refine g' 6 O ?_;refine tD O (λhc6=>?_) (λhc6=>?_)
 · refine g' 2 O (tP O (zr [0] [.func 261] (zv:=cM) O O (.cons CellD.fn .nil) (runUnderlying239) zeroValue239 bd_239 ⟨O,trivial⟩ O) (g' 7 O ?_));exact tR O HSub.none ⟨.inl ⟨239,_,O,by rw[hc6];decide⟩,O⟩
 refine g' 6 O ?_;refine tD O (λhc7=>?_) (λhc7=>?_)
 · refine g' 2 O (tP O (zr [] [] (zv:=(.agg #[(.bool false)])) O O (.nil) (runUnderlying242) zeroValue242 bd_242 ⟨O,trivial⟩ O) (g' 7 O ?_));exact tR O HSub.none ⟨.inl ⟨242,_,O,by rw[hc7];decide⟩,O⟩
 refine g' 6 O ?_;refine tD O (λhc8=>?_) (λhc8=>?_)
 · refine g' 2 O (tP O (zr [0] [.const (.bool true)] (zv:=(.agg #[(.bool false)])) O O (.cons (CellD.v O) .nil) (runUnderlying242) zeroValue242 bd_242 ⟨O,trivial⟩ O) (g' 7 O ?_));exact tR O HSub.none ⟨.inl ⟨242,_,O,by rw[hc8];decide⟩,O⟩
 refine g' 9 O ?_;exact tR O HSub.none ⟨.inr ⟨O,fnN_no hc1 hc2 hc3 hc4 hc5 hc6 hc7 hc8⟩,O⟩
theorem CD.to {P:Program} {f:FuncId} {H:List Hp} {ds:List D} {R R':D->List Hp->Prop} (h:CD P f H ds R) (k:∀ r H',R r H'->R' r H'):CD P f H ds R':=
 ⟨λw F vs h1 h2 h3=>(h.out w F vs h1 h2 h3).mono (by rintro e w' ⟨u,he,F',d,H',hR,hr,hg⟩;exact⟨u,he,F',d,H',k _ _ hR,hr,hg⟩)⟩
theorem winfn_t (h:hasN fnN name=true):CD prog 204 [] [.s name] (λr H'=>∃ t x,r=.ifc t x/\H'=[]):=(winfn_c name).to (by
 rintro r H' ⟨⟨t,x,e,_⟩ | ⟨_,e⟩,e2⟩
 · exact⟨t,x,e,e2⟩
 rw[h] at e;cases e)
theorem winfn_f (h:hasN fnN name=false):CD prog 204 [] [.s name] (λr H'=>r=.v .nilIface/\H'=[]):=(winfn_c name).to (by
 rintro r H' ⟨⟨t,x,_,e⟩ | ⟨e,_⟩,e2⟩
 · rw[h] at e;cases e
 exact⟨e,e2⟩)
theorem p_ifc_ne {ty t t':TypeId} {K:Kd} {H:List Hp} {x y:Operand} {T:TypeId} {d:D} (hx:opD K x=some (.ifc T d)) (hy:y=.const .nilIface) (ht:t=20):Pu prog (.binOp .neq t x y t') ty K H (dB true):=
 ⟨λρ F0 F hk _ _=>by
  subst hy;subst ht;obtain ⟨u,e,_⟩:=hk.op hx;exact zbw (zm ρ [x,.const .nilIface]) (zaQ ρ e) (zaP ρ O) (λw=>by kernel_rfl) ⟨O,O⟩⟩
theorem Fn_c (name:ByteArray) :
 CD prog 248 [] [.s name] (isR (dB (hasN fnN name))):=by
 refine tZ func248 O O (λC=>?_);refine T.bd 0 O (λbd0=>?_);have sz0:name.size<=9223372036854775807:=bd0;rcases jL (hasN fnN name) with hw | hw
 · refine g' 8 O (tX [] O O acs (winfn_t hw) ?_);rintro _ _ ⟨tw,xw,rfl,rfl⟩;refine tP O (p_ifc_ne O O O) (g' 4 O ?_);exact tRs O results248 (.cons (zf (zd O) (cB ((by rw[hw])))) .nil) O HSub.none ⟨O,O⟩
 refine g' 8 O (tW O acs (winfn_f hw) (tP O (zcY (r:=.bool false) O O (λ_=>by kernel_rfl)) (g' 4 O ?_)));exact tRs O results248 (.cons (zf (zd O) (cB ((by rw[hw])))) .nil) O HSub.none ⟨O,O⟩
theorem kept_c (s:ByteArray) :
 CD prog 293 [] [.s s] (isR (dB (ze5 s))):=by
 refine tZ func293 O O (λC=>?_);refine T.bd 0 O (λbd0=>?_);have sz0:s.size<=9223372036854775807:=bd0;refine g' 8 O (tW O acs (Agg_c s) (g' 1 O ?_));refine tOr 2 2 (c:=hasN fnN s) O O O O O O (λhb1 nx2=>?_) ?_
 · refine g' 1 O (tW O acs (Fn_c s) ?_);exact nx2 _ O O (kx 2 O O)
 refine g' 1 O ?_;refine tOr 6 3 (c:=hasN [(⟨#[111,114,100,101,114]⟩:ByteArray),(⟨#[108,105,109,105,116]⟩:ByteArray),(⟨#[111,102,102,115,101,116]⟩:ByteArray),(⟨#[97,115,99]⟩:ByteArray),(⟨#[100,101,115,99]⟩:ByteArray),(⟨#[111,110]⟩:ByteArray),(⟨#[105,103,110,111,114,105,110,103]⟩:ByteArray),(⟨#[98,121]⟩:ByteArray),(⟨#[119,105,116,104,111,117,116]⟩:ByteArray)] s) O O O O O O (λhb3 nx4=>?_) ?_
 · obtain ⟨hf5,hf6⟩:=orF hb3;refine tF O (Qu.ef (d:=.sh 1 ([(⟨#[111,114,100,101,114]⟩:ByteArray),(⟨#[108,105,109,105,116]⟩:ByteArray),(⟨#[111,102,102,115,101,116]⟩:ByteArray),(⟨#[97,115,99]⟩:ByteArray),(⟨#[100,101,115,99]⟩:ByteArray),(⟨#[111,110]⟩:ByteArray),(⟨#[105,103,110,111,114,105,110,103]⟩:ByteArray),(⟨#[98,121]⟩:ByteArray),(⟨#[119,105,116,104,111,117,116]⟩:ByteArray)].map D.s)) ((zn [.const (.string ⟨#[111,114,100,101,114]⟩),.const (.string ⟨#[108,105,109,105,116]⟩),.const (.string ⟨#[111,102,102,115,101,116]⟩),.const (.string ⟨#[97,115,99]⟩),.const (.string ⟨#[100,101,115,99]⟩),.const (.string ⟨#[111,110]⟩),.const (.string ⟨#[105,103,110,111,114,105,110,103]⟩),.const (.string ⟨#[98,121]⟩),.const (.string ⟨#[119,105,116,104,111,117,116]⟩)] O O (.cons (CellD.v O) (.cons (CellD.v O) (.cons (CellD.v O) (.cons (CellD.v O) (.cons (CellD.v O) (.cons (CellD.v O) (.cons (CellD.v O) (.cons (CellD.v O) (.cons (CellD.v O) .nil))))))))) O runUnderlying56 sizeOf9 zeroValue9 O O O O).cv (mA (.cons cS (.cons cS (.cons cS (.cons cS (.cons cS (.cons cS (.cons cS (.cons cS (.cons cS .nil)))))))))))) ?_;rintro _ _ ⟨rfl,rfl⟩;refine g' 1 O (tW O acs (zcs [(⟨#[111,114,100,101,114]⟩:ByteArray),(⟨#[108,105,109,105,116]⟩:ByteArray),(⟨#[111,102,102,115,101,116]⟩:ByteArray),(⟨#[97,115,99]⟩:ByteArray),(⟨#[100,101,115,99]⟩:ByteArray),(⟨#[111,110]⟩:ByteArray),(⟨#[105,103,110,111,114,105,110,103]⟩:ByteArray),(⟨#[98,121]⟩:ByteArray),(⟨#[119,105,116,104,111,117,116]⟩:ByteArray)] s) ?_);exact nx4 _ O O (kx 3 O O)
 refine g' 4 O ?_;exact tRs O results293 (.cons (zf (zd O) (cB ((by rfl)))) .nil) O HSub.none ⟨O,O⟩
theorem numbered_c (name:ByteArray) :
 CD prog 292 [] [.s name] (isR (dB (zbV name))):=by
 refine tZ func292 O O (λC=>?_);refine T.bd 0 O (λbd0=>?_);have sz0:name.size<=9223372036854775807:=bd0;refine g' 10 O ?_;refine tOr 2 2 (c:=decide (name=(⟨#[113,117,97,110,116,105,108,101]⟩:ByteArray))) O O O O O O (λhb1 nx2=>?_) ?_
 · have hf3:=of_decide_eq_false hb1;refine g' 2 O ?_;exact nx2 _ O O (kx 2 O O)
 refine g' 4 O ?_;exact tRs O results292 (.cons (zf (zd O) (cB ((by rfl)))) .nil) O HSub.none ⟨O,O⟩
theorem op_idx (t:ByteArray):(idxN t 0 [tEq,tNe,zdL,zbN]+1:Int)=opM t:=by
 unfold opM;by_cases h1:t=tEq
 · rw[if_pos h1,h1];decide
 by_cases h2:t=tNe
 · rw[if_neg h1,if_pos h2,h2];decide
 by_cases h3:t=zdL
 · rw[if_neg h1,if_neg h2,if_pos h3,h3];decide
 by_cases h4:t=zbN
 · rw[if_neg h1,if_neg h2,if_neg h3,if_pos h4,h4];decide
 rw[if_neg h1,if_neg h2,if_neg h3,if_neg h4];simp only[idxN,if_neg h1,if_neg h2,if_neg h3,if_neg h4];rfl
theorem op_bd (t:ByteArray): -1<=idxN t 0 [tEq,tNe,zdL,zbN]/\idxN t 0 [tEq,tNe,zdL,zbN]<=3:=by
 have h:=op_idx t;have h2:0<=opM t/\opM t<=4:=by
  unfold opM;repeat' split
  all_goals omega
 omega
theorem opM_c (s:ByteArray) :
 CD prog 327 [] [.s s] (isR (dI (opM s))):=by
 refine tZ func327 O O (λC=>?_);refine T.bd 0 O (λbd0=>?_);have sz0:s.size<=9223372036854775807:=bd0;have hob: -1<=idxN s 0 [(⟨#[61]⟩:ByteArray),(⟨#[33,61]⟩:ByteArray),(⟨#[61,126]⟩:ByteArray),(⟨#[33,126]⟩:ByteArray)]/\idxN s 0 [(⟨#[61]⟩:ByteArray),(⟨#[33,61]⟩:ByteArray),(⟨#[61,126]⟩:ByteArray),(⟨#[33,126]⟩:ByteArray)]<=3:=op_bd s;refine g' 7 O (tE O (Qu.ef (d:=.sh 1 ([(⟨#[61]⟩:ByteArray),(⟨#[33,61]⟩:ByteArray),(⟨#[61,126]⟩:ByteArray),(⟨#[33,126]⟩:ByteArray)].map D.s)) ((zn [.const (.string ⟨#[61]⟩),.const (.string ⟨#[33,61]⟩),.const (.string ⟨#[61,126]⟩),.const (.string ⟨#[33,126]⟩)] O O (.cons (CellD.v O) (.cons (CellD.v O) (.cons (CellD.v O) (.cons (CellD.v O) .nil)))) O runUnderlying56 sizeOf9 zeroValue9 O O O O).cv (mA (.cons cS (.cons cS (.cons cS (.cons cS .nil))))))) ?_);rintro _ _ ⟨rfl,rfl⟩;refine g' 1 O (tW O acs (indexS_c [(⟨#[61]⟩:ByteArray),(⟨#[33,61]⟩:ByteArray),(⟨#[61,126]⟩:ByteArray),(⟨#[33,126]⟩:ByteArray)] s) (tP O (zw (c:=(idxN s 0 [(⟨#[61]⟩:ByteArray),(⟨#[33,61]⟩:ByteArray),(⟨#[61,126]⟩:ByteArray),(⟨#[33,126]⟩:ByteArray)]+1)) O O (zk (by omega) (by omega))) (g' 4 O ?_)));exact tRs O results327 (.cons (zf (zd O) (wO (congrArg (λn=>D.v (.int .i64 n)) (by exact op_idx s)))) .nil) O HSub.none ⟨O,O⟩
theorem bd_178:BdP prog #[⟨"Name",9,0,false, "", "",0⟩,⟨"Op",3,1,false, "", "",16⟩,⟨"Value",9,2,false, "", "",24⟩] [(0,1),(1,1),(2,1)]:=λ_=>by kernel_rfl
theorem ze8:BdP prog #[⟨"Op",9,0,false, "", "",0⟩,⟨"Text",9,1,false, "", "",16⟩,⟨"N",3,2,false, "", "",32⟩,⟨"Mode",3,3,false, "", "",40⟩,⟨"Names",56,4,false, "", "",48⟩,⟨"Matchers",61,5,false, "", "",72⟩,⟨"Kids",62,6,false, "", "",96⟩] [(0,1),(1,1),(2,1),(3,1),(4,1),(5,1),(6,1)]:=λ_=>by kernel_rfl
theorem infz_178:IzP prog 178 cJ 3 40:=za3 (by kernel_rfl)
theorem und_61:Tryz.prog.underlying 61=some (.slice 178):=by kernel_rfl
theorem snoc_all {α:Type} {p:α->Prop} {l:List α} {x:α} (h:∀ y∈l,p y) (hx:p x):∀ y∈l++[x],p y:=λy hy=>by
 rcases d7.1 hy with k | k
 · exact h y k
 rw[dO.1 k];exact hx
theorem braces_c (g:Nat) (s:Rd) (hw:s.n+2*(s.l.length:Int)<=3000000) (hn:0<=s.n) (hT:TOk s.l):
 CD prog 294 [RB g s] [dP g 0] (λr H'=>∃ l s',(l,s')=s.braces rmD/\r=.sh 3 (l.map MatD.d)/\H'=[RB g s']):=by
 refine tZ func294 O O (λC=>?_);refine g' 13 O (tX [0] O O (ga (.cons (ArgC.cv cS) .nil)) (zbr g s (⟨#[123]⟩:ByteArray) (by omega) (by omega) hT) ?_);rintro _ _ ⟨s1,e1,rfl,rfl⟩;obtain ⟨ka1,kb1,kc1,hT1⟩:=(zbq e1).out hT;refine g' 6 O (tE O (Qu.ef (d:=.sh 1 ([(⟨#[125]⟩:ByteArray)].map D.s)) ((zn [.const (.string ⟨#[125]⟩)] O O (.cons (CellD.v O) .nil) O runUnderlying56 sizeOf9 zeroValue9 O O O O).cv (mA (.cons cS .nil)))) ?_);rintro _ _ ⟨rfl,rfl⟩;refine tX [0] O O acs (is_c g s1 5 [(⟨#[125]⟩:ByteArray)] (by omega) (by omega) hT1) ?_;rintro _ _ ⟨rfl,rfl⟩;refine g' 2 O ?_;refine tC O (λhc3=>?_) (λhc3=>?_)
 · refine g' 3 O (tX [0] O O (ga (.cons (ArgC.cv cS) .nil)) (zbr g s1 (⟨#[125]⟩:ByteArray) (by omega) (by omega) hT1) ?_);rintro _ _ ⟨s4,e4,rfl,rfl⟩;obtain ⟨ka4,kb4,kc4,hT4⟩:=(zbq e4).out hT1;refine g' 9 O ?_;exact tRs O results294 (.cons (zf (zd O) (Cv.nil)) .nil) O (mB 1 O) ⟨[],⟨s4.l,s4.n,s4.b⟩,braces_0 rmD e1 hc3 e4,O,O⟩
 refine g' 4 O (tl4 (λ(a_:Nat) (b_:Rd) (c_:Value) (d_:List MatD)=>[(0,dP g 0),(2,dZ),(3,.ov c_)]) (λa_ b_ c_ d_=>[.sl c_ 3 178 (d_.map MatD.d),RB g b_]) (λa_ b_ c_ d_=>(b_.l.length<a_)/\(zba a_ d_ b_=zba (s1.l.length+1) [] s1)/\(b_.n+2*(b_.l.length:Int)<=3000000)/\(0<=b_.n)/\(TOk b_.l)/\(d_.length+b_.l.length<=1500000)/\(∀ x∈d_,x.n.size<=1000/\x.v.size<=1000)) (λa_ b_ c_ d_=>a_) (s1.l.length+1) s1 (.slice none 0 0) [] O ⟨sk O,sk O,sc O (Cv.ov O),trivial⟩ (HSub.nil 3 178) ⟨Nat.lt_succ_self _,O,(by omega),(by omega),hT1,(by show 0+s1.l.length<=_;omega),(λx hx=>by cases hx)⟩ ?_);rintro f z ov o ⟨hlf,hf,hzw,hzn,hz,hol,hmo⟩;obtain ⟨f,rfl⟩:∃ k,f=k+1:=⟨f-1,by omega⟩;refine gQ 10 [1] O O ?_;refine tC O (λhc5=>?_) (λhc5=>?_)
 · simp only[bX,bJ] at hc5;have hbf:z.b=false:=(by simpa using hc5);refine g' 6 O (tX [1] O O acs (zeV g z 1 (by omega) (by omega) hz (by decide)) ?_);rintro _ _ ⟨t6,s6,e6,rfl,rfl⟩;obtain ⟨ka6,kb6,kc6,hT6⟩:=(zeU e6).out hz;have kz6:=zeT e6 hz;refine tP O (zr [0] [.tmp 22] (zv:=cJ) O O (.cons CellD.s .nil) (runUnderlying178) zeroValue178 bd_178 ⟨O,O,O,trivial⟩ O) ?_;refine tA O (λg7=>?_);refine gQ 6 [0] O O (tE O (Qu.ef (d:=.sh 1 ([(⟨#[61]⟩:ByteArray),(⟨#[33,61]⟩:ByteArray),(⟨#[61,126]⟩:ByteArray),(⟨#[33,126]⟩:ByteArray)].map D.s)) ((zn [.const (.string ⟨#[61]⟩),.const (.string ⟨#[33,61]⟩),.const (.string ⟨#[61,126]⟩),.const (.string ⟨#[33,126]⟩)] O O (.cons (CellD.v O) (.cons (CellD.v O) (.cons (CellD.v O) (.cons (CellD.v O) .nil)))) O runUnderlying56 sizeOf9 zeroValue9 O O O O).cv (mA (.cons cS (.cons cS (.cons cS (.cons cS .nil))))))) ?_);rintro _ _ ⟨rfl,rfl⟩;refine tX [1] O O acs (zcR g s6 5 [(⟨#[61]⟩:ByteArray),(⟨#[33,61]⟩:ByteArray),(⟨#[61,126]⟩:ByteArray),(⟨#[33,126]⟩:ByteArray)] (by omega) (by omega) hT6 (by decide)) ?_;rintro _ _ ⟨t8,q8,s8,e8,rfl,rfl⟩;obtain ⟨ka8,kb8,kc8,hT8⟩:=(zcQ e8).out hT6;have kz8:=zcP e8 hT6;refine gQ 15 [0] O O ?_;refine tOr 5 2 (c:=!q8) O O O O O O (λhb9 nx10=>?_) ?_
   · refine g' 2 O ?_;exact nx10 _ O O (kx 2 O O)
   refine gQ 6 [0] O O ?_;obtain ⟨s11,e11⟩:∃ x:Rd,x=⟨s8.l,s8.n,(s8.b||!q8)⟩:=⟨_,rfl⟩;have hl11:s11.l=s8.l:=(by rw[e11]);have hn11:s11.n=s8.n:=(by rw[e11]);have hT11:TOk s11.l:=(by rw[hl11];exact hT8);have hk11:s11.l.length=s8.l.length:=(by rw[hl11]);refine mQ [RB g s11,.bx g7 178 (.agg [.s t6,dI 0,cA]),.sl ov 3 178 (o.map MatD.d)] (by rw[e11]<;>rfl) (g' 2 O (tW O acs (opM_c t8) (g' 1 O (tX [0] O O acs (zeV g s11 3 (by omega) (by omega) hT11 (by decide)) ?_))));rintro _ _ ⟨t12,s12,e12,rfl,rfl⟩;obtain ⟨ka12,kb12,kc12,hT12⟩:=(zeU e12).out hT11;have kz12:=zeT e12 hT11;refine gQ 10 [1,1,1] O O (tE O (Qu.ef (d:=.sh 3 ([(MatD.mk t6 (opM t8) t12)].map MatD.d)) (zn [.tmp 48] O O (.cons CellD.agg .nil) O runUnderlying61 sizeOf178 zeroValue178 O O O O)) ?_);rintro _ _ ⟨rfl,rfl⟩;refine tE O (zx (f:=MatD.d) (l:=o) (l':=[(MatD.mk t6 (opM t8) t12)]) (i:=2) O O O (SrcD.sh) und_61 infz_178 O O (by unfold maxLen;(try simp only[la,lc,ln,lm,lt',ld,ls,lr]);omega) (by (try simp only[la,lc,ln,lm,lt',ld,ls,lr]);omega)) ?_;rintro _ _ ⟨v13,rfl,rfl⟩;refine g' 6 O (tE O (Qu.ef (d:=.sh 1 ([(⟨#[44]⟩:ByteArray)].map D.s)) ((zn [.const (.string ⟨#[44]⟩)] O O (.cons (CellD.v O) .nil) O runUnderlying56 sizeOf9 zeroValue9 O O O O).cv (mA (.cons cS .nil)))) ?_);rintro _ _ ⟨rfl,rfl⟩;refine tX [0] O O acs (zcR g s12 5 [(⟨#[44]⟩:ByteArray)] (by omega) (by omega) hT12 (by decide)) ?_;rintro _ _ ⟨t14,q14,s14,e14,rfl,rfl⟩;obtain ⟨ka14,kb14,kc14,hT14⟩:=(zcQ e14).out hT12;have kz14:=zcP e14 hT12;refine g' 13 O ?_;refine tC O (λhc15=>?_) (λhc15=>?_)
   · simp only[bX,bJ] at hc15;have hff:=hf.symm.trans (braces_end hbf e6 e8 e11 e12 e14 (by simpa using hc15));have hmq:∀ x∈(o++[(MatD.mk t6 (opM t8) t12)]),x.n.size<=1000/\x.v.size<=1000:=snoc_all hmo ⟨by omega,by omega⟩;have hlq:(o++[(MatD.mk t6 (opM t8) t12)]).length<=2000000:=(by simp only[la,cR];omega);refine g' 8 O (tX [0] O O (ga (.cons (ArgC.cv cS) .nil)) (zbr g s14 (⟨#[125]⟩:ByteArray) (by omega) (by omega) hT14) ?_);rintro _ _ ⟨s16,e16,rfl,rfl⟩;obtain ⟨ka16,kb16,kc16,hT16⟩:=(zbq e16).out hT14;refine gQ 10 [0] O O ?_;refine tOr 5 3 (c:=!(rmD (o++[(MatD.mk t6 (opM t8) t12)]))) O O O O O O (λhb17 nx18=>?_) ?_
     · refine g' 1 O (tV [2] O O (.cons (w7 (j:=0) O O) .nil) (rightM_c (o++[(MatD.mk t6 (opM t8) t12)]) (by omega) hmq) O (g' 1 O ?_));exact nx18 _ O O (kx 3 O O)
     refine gQ 12 [0] O O (mR 2 O ?_);refine mO (Mv.freeze (K':=[(0,dP g 0),(2,.sh 3 ((o++[(MatD.mk t6 (opM t8) t12)]).map MatD.d)),(3,.sh 3 ((o++[(MatD.mk t6 (opM t8) t12)]).map MatD.d)),(4,dP g7 0),(5,.s t8),(6,dB q8),(7,.s t14),(8,dB q14),(16,dP g 0),(17,dP g 0),(18,dP g 2),(19,dB z.b),(20,dB (!z.b)),(21,dP g 0),(22,.s t6),(23,.agg [.s t6,dI 0,cA]),(24,.tup [.s t8,dB q8]),(25,dP g 0),(26,.sh 1 ([(⟨#[61]⟩:ByteArray),(⟨#[33,61]⟩:ByteArray),(⟨#[61,126]⟩:ByteArray),(⟨#[33,126]⟩:ByteArray)].map D.s)),(27,.tup [.s t8,dB q8]),(28,.s t8),(29,dB q8),(30,dP g 0),(31,dP g 0),(32,dP g 0),(33,dP g 2),(34,dB s8.b),(35,dB s8.b),(38,dB (s8.b||!q8)),(39,dP g 0),(40,dP g 2),(41,.s t8),(42,dI (opM t8)),(43,dP g 0),(44,.s t12),(45,dP g7 1),(46,dP g7 2),(47,.ov ov),(48,.agg [.s t6,dI (opM t8),.s t12]),(49,.sh 3 ([(MatD.mk t6 (opM t8) t12)].map MatD.d)),(50,.sh 3 ((o++[(MatD.mk t6 (opM t8) t12)]).map MatD.d)),(51,.tup [.s t14,dB q14]),(52,dP g 0),(53,.sh 1 ([(⟨#[44]⟩:ByteArray)].map D.s)),(54,.tup [.s t14,dB q14]),(55,.s t14),(56,dB q14),(57,dB q14),(58,dB (!q14)),(59,dP g 0),(60,.tup []),(61,dP g 0),(62,dP g 0),(63,dP g 0),(64,dP g 2),(65,dB s16.b),(66,dB s16.b),(70,dB (s16.b||!(rmD (o++[(MatD.mk t6 (opM t8) t12)])))),(71,dP g 0),(72,dP g 2),(73,.sh 3 ((o++[(MatD.mk t6 (opM t8) t12)]).map MatD.d))]) [.sl v13 3 178 ((o++[(MatD.mk t6 (opM t8) t12)]).map MatD.d)] (H1:=[.bx g 94 (.agg [.sh 3 (s16.l.map TokD.d),dI s16.n,dB (s16.b||!(rmD (o++[(MatD.mk t6 (opM t8) t12)])))]),.bx g7 178 (.agg [.s t6,dI (opM t8),.s t12])]) (H1':=[.bx g 94 (.agg [.sh 3 (s16.l.map TokD.d),dI s16.n,dB (s16.b||!(rmD (o++[(MatD.mk t6 (opM t8) t12)])))]),.bx g7 178 (.agg [.s t6,dI (opM t8),.s t12])]) ⟨⟨_,O,w6⟩,⟨_,O,w7 (j:=0) O O⟩,⟨_,O,w7 (j:=0) O O⟩,⟨_,O,w6⟩,⟨_,O,w6⟩,⟨_,O,w6⟩,⟨_,O,w6⟩,⟨_,O,w6⟩,⟨_,O,w6⟩,⟨_,O,w6⟩,⟨_,O,w6⟩,⟨_,O,w6⟩,⟨_,O,w6⟩,⟨_,O,w6⟩,⟨_,O,w6⟩,⟨_,O,w6⟩,⟨_,O,w6⟩,⟨_,O,w6⟩,⟨_,O,w6⟩,⟨_,O,w6⟩,⟨_,O,w6⟩,⟨_,O,w6⟩,⟨_,O,w6⟩,⟨_,O,w6⟩,⟨_,O,w6⟩,⟨_,O,w6⟩,⟨_,O,w6⟩,⟨_,O,w6⟩,⟨_,O,w6⟩,⟨_,O,w6⟩,⟨_,O,w6⟩,⟨_,O,w6⟩,⟨_,O,w6⟩,⟨_,O,w6⟩,⟨_,O,w6⟩,⟨_,O,w6⟩,⟨_,O,w6⟩,⟨_,O,w6⟩,⟨_,O,w6⟩,⟨_,O,w6⟩,⟨_,O,w7 (j:=0) O O⟩,⟨_,O,w6⟩,⟨_,O,w6⟩,⟨_,O,w6⟩,⟨_,O,w6⟩,⟨_,O,w6⟩,⟨_,O,w6⟩,⟨_,O,w6⟩,⟨_,O,w6⟩,⟨_,O,w6⟩,⟨_,O,w6⟩,⟨_,O,w6⟩,⟨_,O,w6⟩,⟨_,O,w6⟩,⟨_,O,w6⟩,⟨_,O,w6⟩,⟨_,O,w6⟩,⟨_,O,w6⟩,⟨_,O,w6⟩,⟨_,O,w6⟩,⟨_,O,w7 (j:=0) O O⟩,trivial⟩ (.same (.same .nil))) ?_;exact tR O (mB 1 O) ⟨(o++[(MatD.mk t6 (opM t8) t12)]),⟨s16.l,s16.n,(s16.b||!(rmD (o++[(MatD.mk t6 (opM t8) t12)])))⟩,braces_1 rmD e1 (by simpa using hc3) hff e16,O,O⟩
   simp only[bX,bJ] at hc15;obtain ⟨ky,_⟩:=take_y e14 (by decide) (by simpa using hc15);refine g' 2 O (mR 2 O (mP (mB 2 O) ?_));exact tp4 f s14 v13 (o++[(MatD.mk t6 (opM t8) t12)]) (sa O) wQ ⟨by omega,(braces_go hbf e6 e8 e11 e12 e14 (by simpa using hc15)).symm.trans hf,by omega,by omega,hT14,by simp only[la,cR];omega,snoc_all hmo ⟨by omega,by omega⟩⟩ (by omega)
 simp only[bX,bJ] at hc5;have hff:=hf.symm.trans (braces_bad (by simpa using hc5));have hmq:=hmo;have hlq:o.length<=2000000:=by omega
 refine g' 8 O (tX [1] O O (ga (.cons (ArgC.cv cS) .nil)) (zbr g z (⟨#[125]⟩:ByteArray) (by omega) (by omega) hz) ?_);rintro _ _ ⟨s19,e19,rfl,rfl⟩;obtain ⟨ka19,kb19,kc19,hT19⟩:=(zbq e19).out hz;refine gQ 10 [0] O O ?_;refine tOr 5 3 (c:=!(rmD o)) O O O O O O (λhb20 nx21=>?_) ?_
 · refine g' 1 O (tV [1] O O (.cons (w7 (j:=0) O O) .nil) (rightM_c o (by omega) hmq) O (g' 1 O ?_));exact nx21 _ O O (kx 3 O O)
 refine gQ 12 [0] O O (mR 1 O ?_);refine mO (Mv.freeze (K':=[(0,dP g 0),(2,.sh 3 (o.map MatD.d)),(3,.sh 3 (o.map MatD.d)),(16,dP g 0),(17,dP g 0),(18,dP g 2),(19,dB z.b),(20,dB (!z.b)),(59,dP g 0),(60,.tup []),(61,dP g 0),(62,dP g 0),(63,dP g 0),(64,dP g 2),(65,dB s19.b),(66,dB s19.b),(70,dB (s19.b||!(rmD o))),(71,dP g 0),(72,dP g 2),(73,.sh 3 (o.map MatD.d))]) [.sl ov 3 178 (o.map MatD.d)] (H1:=[.bx g 94 (.agg [.sh 3 (s19.l.map TokD.d),dI s19.n,dB (s19.b||!(rmD o))])]) (H1':=[.bx g 94 (.agg [.sh 3 (s19.l.map TokD.d),dI s19.n,dB (s19.b||!(rmD o))])]) ⟨⟨_,O,w6⟩,⟨_,O,w7 (j:=0) O O⟩,⟨_,O,w7 (j:=0) O O⟩,⟨_,O,w6⟩,⟨_,O,w6⟩,⟨_,O,w6⟩,⟨_,O,w6⟩,⟨_,O,w6⟩,⟨_,O,w6⟩,⟨_,O,w6⟩,⟨_,O,w6⟩,⟨_,O,w6⟩,⟨_,O,w6⟩,⟨_,O,w6⟩,⟨_,O,w6⟩,⟨_,O,w6⟩,⟨_,O,w6⟩,⟨_,O,w6⟩,⟨_,O,w6⟩,⟨_,O,w7 (j:=0) O O⟩,trivial⟩ (.same .nil)) ?_;exact tR O (mB 1 O) ⟨o,⟨s19.l,s19.n,(s19.b||!(rmD o))⟩,braces_1 rmD e1 (by simpa using hc3) hff e19,O,O⟩
theorem selName_e {s s':Rd} (e:(t,s')=s.selName):Stp 0 s s':=by
 have h:s'=s.selName.2:=congrArg Prod.snd e;rw[h];unfold Rd.selName;split;exact zdh s 1;exact mF s
theorem selMs_e {s s':Rd} {ms:List MatD} (e:(ms,s')=s.selMs rmD t):Stp 0 s s':=by
 have h:s'=(s.selMs rmD t).2:=congrArg Prod.snd e;rw[h];unfold Rd.selMs;split;exact braces_stp rmD s;exact(mF s).bad _
theorem selWin_e {s s':Rd} {w:Int} (e:(w,s')=s.selWin):Stp 0 s s':=by
 have h:s'=s.selWin.2:=congrArg Prod.snd e;rw[h];unfold Rd.selWin;split
 · exact(((zag s 5 [tSq]).trans (zbC _ 4)).trans (zal _ _)).le (by omega)
 exact zag s 5 _
theorem selMs_bad {s:Rd} (h:¬s.is 5 [zcS]=true) (ht:t=ByteArray.empty):([],(⟨s.l,s.n,true⟩:Rd))=s.selMs rmD t:=by rw[<-selMs_0 rmD h,decide_eq_true ht,Bool.or_true]
theorem selMs_no {s:Rd} (h:¬s.is 5 [zcS]=true) (ht:¬t=ByteArray.empty):([],(⟨s.l,s.n,s.b⟩:Rd))=s.selMs rmD t:=by rw[<-selMs_0 rmD h,decide_eq_false ht,uP]
theorem selector_c (g:Nat) (s:Rd) (ev es:Value) (hev:EvOk ev) (hes:EvOk es) (hw:s.n+2*(s.l.length:Int)<=3000000) (hn:0<=s.n) (hT:TOk s.l):
 CD prog 249 [RB g s,HPow,HErr ev,HSyn es] [dP g 0] (NdR g ev es (s.selector rmD)):=by
 refine tZ func249 O O (λC=>?_);refine g' 2 O ?_;refine tA O (λg1=>?_);refine g' 4 O (tP O (zr [0] [.const (.string ⟨#[115,101,108]⟩)] (zv:=n5) O O (.cons (CellD.v O) .nil) (runUnderlying64) zeroValue64 ze8 ⟨O,O,O,O,O,O,O,trivial⟩ O) ?_);refine tA O (λg2=>?_);refine gQ 4 [0] O O (mP (wT (h':=.bx g2 64 (n3 nSel ByteArray.empty 0 0 ([]:List ByteArray) ([]:List MatD) ([]:List Nd))) O (wU (Cv.agg (.cons cS (.cons cS (gc (gc (.cons Cv.nil (.cons Cv.nil (.cons Cv.nil .nil)))))))))) (g' 2 O (tX [2] O O acs (peek_c g s (by omega) (by omega) hT) ?_)));rintro _ _ ⟨rfl,rfl⟩;refine tA O (λg4=>?_);refine gQ 10 [0,0] O O ?_;refine tAnd 3 4 (c:=!(ze5 s.pk.t)) O O O O O O (λhb5 nx6=>?_) ?_
 · have hf7:=of_decide_eq_true hb5;refine gQ 2 [0] O O (tW O acs (kept_c s.pk.t) (g' 1 O ?_));exact nx6 _ O O (kx 4 O O)
 refine g' 2 O ?_;refine tJ (λ(jg:ByteArray×Rd)=>[(0,dP g 0),(2,dP g1 0),(3,dP g2 0)]) (λ(jg:ByteArray×Rd)=>[.bx g1 64 n4,.bx g2 64 (n3 nSel jg.1 0 0 ([]:List ByteArray) ([]:List MatD) ([]:List Nd)),.bx g 94 (.agg [.sh 3 (jg.2.l.map TokD.d),dI jg.2.n,dB jg.2.b]),HPow,HErr ev,HSyn es]) (λ(jg:ByteArray×Rd)=>((jg.1,jg.2)=s.selName)) (λ_ hQ8=>?_) ?_
 · refine tC O (λhc9=>?_) (λhc9=>?_)
   · simp only[bX,bJ] at hc9;have hkk:s.pk.k=1/\ze5 s.pk.t=false:=(by simpa using hc9);refine g' 2 O (tX [1] O O acs (zeV g s 1 (by omega) (by omega) hT (by decide)) ?_);rintro _ _ ⟨t10,s10,e10,rfl,rfl⟩;obtain ⟨ka10,kb10,kc10,hT10⟩:=(zeU e10).out hT;have kz10:=zeT e10 hT;refine gQ 3 [2] O O (mR 6 O (mR 6 O (mR 6 O (mR 3 O (mR 5 O (mR 6 O (mP (mB 6 O) ?_)))))));exact tqe (hQ8 (t10,s10) (selName_1 hkk e10)) O
   simp only[bX,bJ] at hc9;have hkk:¬(s.pk.k=1/\ze5 s.pk.t=false):=(by rintro ⟨a,b⟩;have h:=hc9;rcases h with h | h;exact h a;(rw[b] at h;cases h));refine g' 1 O (mR 6 O (mR 6 O (mR 6 O (mR 4 O (mR 5 O (mR 6 O (mP (mB 6 O) ?_)))))));exact tqe (hQ8 (ByteArray.empty,s) (selName_0 hkk)) O
 rintro ⟨t,z⟩ hsel
 replace hsel:(t,z)=s.selName:=hsel
 refine T.kk [(0,dP g 0),(2,dP g1 0),(3,dP g2 0)] O (mQ [.bx g1 64 n4,.bx g2 64 (n3 nSel t 0 0 ([]:List ByteArray) ([]:List MatD) ([]:List Nd)),RB g z,HPow,HErr ev,HSyn es] (by rfl) (g' 3 O ?_));obtain ⟨kx1,ky1,kz1,hTj1⟩:=(selName_e hsel).out hT;refine g' 2 O (tE O (Qu.ef (d:=.sh 1 ([(⟨#[123]⟩:ByteArray)].map D.s)) ((zn [.const (.string ⟨#[123]⟩)] O O (.cons (CellD.v O) .nil) O runUnderlying56 sizeOf9 zeroValue9 O O O O).cv (mA (.cons cS .nil)))) ?_);rintro _ _ ⟨rfl,rfl⟩;refine tX [2] O O acs (is_c g z 5 [(⟨#[123]⟩:ByteArray)] (by omega) (by omega) hTj1) ?_;rintro _ _ ⟨rfl,rfl⟩;refine g' 2 O ?_;refine tJ (λ(jg:List MatD×Rd)=>[(0,dP g 0),(2,dP g1 0),(3,dP g2 0)]) (λ(jg:List MatD×Rd)=>[.bx g1 64 n4,.bx g2 64 (n3 nSel t 0 0 ([]:List ByteArray) jg.1 ([]:List Nd)),.bx g 94 (.agg [.sh 3 (jg.2.l.map TokD.d),dI jg.2.n,dB jg.2.b]),HPow,HErr ev,HSyn es]) (λ(jg:List MatD×Rd)=>((jg.1,jg.2)=z.selMs rmD t)) (λ_ hQ12=>?_) ?_
 · refine tC O (λhc13=>?_) (λhc13=>?_)
   · refine g' 2 O (tX [0] O O acs (braces_c g z (by omega) (by omega) hTj1) ?_);rintro _ _ ⟨l14,s14,e14,rfl,rfl⟩;obtain ⟨ka14,kb14,kc14,hT14⟩:=(braces_e rmD e14).out hTj1;refine gQ 3 [2] O O (mR 5 O (mR 5 O (mR 5 O (mR 3 O (mR 5 O (mR 5 O ?_))))));exact tqe (hQ12 (l14,s14) (selMs_1 rmD hc13 e14)) O
   refine gQ 7 [2] O O ?_;refine tD O (λhc15=>?_) (λhc15=>?_)
   · refine gQ 6 [0] O O (mR 5 O (mR 5 O (mR 5 O (mR 3 O (mR 5 O (mR 5 O ?_))))));exact tqe (hQ12 (([]:List MatD),(⟨z.l,z.n,true⟩:Rd)) (selMs_bad (by simpa using hc13) hc15)) O
   refine g' 1 O (mR 5 O (mR 5 O (mR 5 O (mR 3 O (mR 5 O (mR 5 O ?_))))));exact tqe (hQ12 (([]:List MatD),(⟨z.l,z.n,z.b⟩:Rd)) (selMs_no (by simpa using hc13) hc15)) O
 rintro ⟨ms,y⟩ hms
 replace hms:(ms,y)=z.selMs rmD t:=hms
 refine T.kk [(0,dP g 0),(2,dP g1 0),(3,dP g2 0)] O (mQ [.bx g1 64 n4,.bx g2 64 (n3 nSel t 0 0 ([]:List ByteArray) ms ([]:List Nd)),RB g y,HPow,HErr ev,HSyn es] (by rfl) (g' 3 O ?_));obtain ⟨kx2,ky2,kz2,hTj2⟩:=(selMs_e hms).out hTj1;refine g' 2 O (tE O (Qu.ef (d:=.sh 1 ([(⟨#[91]⟩:ByteArray)].map D.s)) ((zn [.const (.string ⟨#[91]⟩)] O O (.cons (CellD.v O) .nil) O runUnderlying56 sizeOf9 zeroValue9 O O O O).cv (mA (.cons cS .nil)))) ?_);rintro _ _ ⟨rfl,rfl⟩;refine tX [2] O O acs (zcR g y 5 [(⟨#[91]⟩:ByteArray)] (by omega) (by omega) hTj2 (by decide)) ?_;rintro _ _ ⟨t16,q16,s16,e16,rfl,rfl⟩;obtain ⟨ka16,kb16,kc16,hT16⟩:=(zcQ e16).out hTj2;have kz16:=zcP e16 hTj2;refine g' 12 O ?_;refine tJ (λ(jg:Int×Rd)=>[(0,dP g 0),(2,dP g1 0),(3,dP g2 0)]) (λ(jg:Int×Rd)=>[.bx g1 64 n4,.bx g2 64 (n3 nSel t jg.1 0 ([]:List ByteArray) ms ([]:List Nd)),.bx g 94 (.agg [.sh 3 (jg.2.l.map TokD.d),dI jg.2.n,dB jg.2.b]),HPow,HErr ev,HSyn es]) (λ(jg:Int×Rd)=>((jg.1,jg.2)=y.selWin)) (λ_ hQ17=>?_) ?_
 · refine tC O (λhc18=>?_) (λhc18=>?_)
   · refine g' 3 O (tX [0,2,2,2] O O acs (rdnum_c g s16 4 ev es hev hes (by omega) (by omega) hT16 (by omega)) ?_);rintro _ _ ⟨v19,s19,e19,rfl,rfl⟩;obtain ⟨ka19,kb19,kc19,hT19⟩:=(number_e e19).out hT16;have kv19:=number_bd e19 (by omega) hT16;refine gQ 6 [5] O O (tX [0] O O (ga (.cons (ArgC.cv cS) .nil)) (zbr g s19 (⟨#[93]⟩:ByteArray) (by omega) (by omega) hT19) ?_);rintro _ _ ⟨s20,e20,rfl,rfl⟩;obtain ⟨ka20,kb20,kc20,hT20⟩:=(zbq e20).out hT19;refine g' 1 O (mR 3 O (mR 3 O (mR 3 O (mR 3 O (mR 5 O (mR 5 O ?_))))));exact tqe (hQ17 (v19,s20) (selWin_1 e16 hc18 e19 e20)) O
   refine g' 1 O (mR 5 O (mR 5 O (mR 5 O (mR 3 O (mR 5 O (mR 5 O ?_))))));exact tqe (hQ17 (0,s16) (selWin_0 e16 (by simpa using hc18))) O
 rintro ⟨w,v⟩ hwi
 replace hwi:(w,v)=y.selWin:=hwi
 refine T.kk [(0,dP g 0),(2,dP g1 0),(3,dP g2 0)] O (mQ [.bx g1 64 n4,.bx g2 64 (n3 nSel t w 0 ([]:List ByteArray) ms ([]:List Nd)),RB g v,HPow,HErr ev,HSyn es] (by rfl) (g' 2 O ?_));obtain ⟨kx3,ky3,kz3,hTj3⟩:=(selWin_e hwi).out hTj2;refine gQ 3 [1] O O (tX [2] O O acs (zeK g v (.s nSel) (.s t) (dI w) (dI 0) (.sh 1 (([]:List ByteArray).map D.s)) (.sh 3 (ms.map MatD.d)) (.sh 7 (Nd.ds ([]:List Nd))) (by omega) (by omega) hTj3) ?_);rintro _ _ ⟨s21,e21,rfl,rfl⟩;obtain ⟨ka21,kb21,kc21,hT21⟩:=(zeJ e21).out hTj3;refine gQ 4 [1] O O (mR 5 O (mR 5 O (mR 5 O (mR 3 O ?_))));exact tRs O results249 (.cons (zI (i:=4) O O isAgg64 sizeOf64 O O) .nil) O (mB 4 O) ⟨nSel,t,w,0,([]:List ByteArray),ms,([]:List Nd),⟨s21.l,s21.n,s21.b⟩,selector_of rmD hsel hms hwi e21,O,O⟩
end Lp
