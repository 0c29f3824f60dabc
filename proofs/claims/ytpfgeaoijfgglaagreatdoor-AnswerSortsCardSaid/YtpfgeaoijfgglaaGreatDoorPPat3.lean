import Derived.Test.YtpfgeaoijfgglaaGreatDoorPPat2
set_option linter.unusedSimpArgs false
set_option linter.unusedVariables false
set_option maxHeartbeats 4000000
set_option maxRecDepth 100000
namespace Lp
open Go Go.RowKit Go.Proofs
theorem bd_397:BdP Tryz.prog #[⟨"x",20,0,false, "", "leporello/pattern",0⟩,⟨"none",4,1,false, "", "leporello/pattern",16⟩,⟨"again",4,2,false, "", "leporello/pattern",17⟩] [(0,1),(1,1),(2,1)]:=λ_=>by kernel_rfl
def RngD.d (r:RngD):D:=.agg [.v (.int .i32 r.lo),.v (.int .i32 r.hi)]
def Pt.t:Pt->Nat
 | .one _=>392
 | .row _=>394
 | .alt _=>390
 | .rep _ _ _=>397
mutual
def Pt.y:Pt->D
 | .one s=>.agg [dB s.all,dB s.nt,.sh 2 (s.items.map RngD.d)]
 | .row l=>.agg [.sh 1 (Pt.ds l)]
 | .alt l=>.agg [.sh 1 (Pt.ds l)]
 | .rep x a b=>.agg [.ifc x.t (Pt.y x),dB a,dB b]
def Pt.ds:List Pt->List D
 | []=>[]
 | x::r=>.ifc x.t (Pt.y x)::Pt.ds r
end
def Pt.d (x:Pt):D:=.ifc x.t x.y
theorem Pt.ds_eq:∀ l:List Pt,Pt.ds l=l.map Pt.d
 | []=>rfl
 | x::r=>congrArg (Pt.d x::·) (Pt.ds_eq r)
theorem zea {H:List Hp} (x:Pt):CellD H (Pt.d x):=CellD.ifc
abbrev PB (g:Nat) (s:PR):Hp:=.bx g 367 (.agg [.sh 1 (s.l.map dR),dB s.b])
theorem ia0 (b:Nat):∀ w,(Instr.indexAt 400 (.pointer (some ⟨b,0,none⟩)) (.int .i64 0)).run Tryz.prog w=.ok (.pointer (some ⟨b,0,none⟩)) w:=λ_=>by kernel_rfl
theorem ia1 (b:Nat):∀ w,(Instr.indexAt 400 (.pointer (some ⟨b,0,none⟩)) (.int .i64 1)).run Tryz.prog w=.ok (.pointer (some ⟨b,1,none⟩)) w:=λ_=>by kernel_rfl
section
variable {ty:TypeId} {K:Kd} {H:List Hp} {x y:Operand} {a b:Int} {g:Nat}
theorem p_arr1 (hx:opD K x=some (.v (.int .i32 a))):Pu Tryz.prog (.build 400 #[(0,x)]) ty K H (.agg [.v (.int .i32 a),.v (.int .i32 0)]):=
 ⟨λρ w F hk _ _=>e_build (qs:=#[(0,.int .i32 a)]) (by have e:ev ρ x=_:=hk.op hx;simp[e]) (v:=.agg #[.int .i32 a,.int .i32 0]) (λw=>by kernel_rfl) ⟨rfl,[.int .i32 a,.int .i32 0],rfl,_,_,rfl,rfl,rfl,_,_,rfl,rfl,rfl,rfl⟩⟩
theorem p_arr2 (hx:opD K x=some (.v (.int .i32 a))) (hy:opD K y=some (.v (.int .i32 b))):Pu Tryz.prog (.build 400 #[(0,x),(1,y)]) ty K H (.agg [.v (.int .i32 a),.v (.int .i32 b)]):=
 ⟨λρ w F hk _ _=>e_build (qs:=#[(0,.int .i32 a),(1,.int .i32 b)]) (by have e:ev ρ x=_:=hk.op hx;have e':ev ρ y=_:=hk.op hy;simp[e,e']) (v:=.agg #[.int .i32 a,.int .i32 b]) (λw=>by kernel_rfl) ⟨rfl,[.int .i32 a,.int .i32 b],rfl,_,_,rfl,rfl,rfl,_,_,rfl,rfl,rfl,rfl⟩⟩
theorem p_arrA0 (hx:opD K x=some (dP g 0)):Pu Tryz.prog (.indexAddr 400 x (.const (.int .i64 0))) ty K H (dP g 0):=
 ⟨λρ w F hk _ _=>by
  have e:ev ρ x=_:=hk.op hx;refine wD (v:=.pointer (some ⟨g,0,none⟩)) (w':=w) ?_ ⟨O,O⟩;have:=za6 (ia0 g w);simpa [execOp,zX,e,show ev ρ (.const (.int .i64 0))=.int .i64 0 from rfl] using this⟩
theorem p_arrA1 (hx:opD K x=some (dP g 0)):Pu Tryz.prog (.indexAddr 400 x (.const (.int .i64 1))) ty K H (dP g 1):=
 ⟨λρ w F hk _ _=>by
  have e:ev ρ x=_:=hk.op hx;refine wD (v:=.pointer (some ⟨g,1,none⟩)) (w':=w) ?_ ⟨O,O⟩;have:=za6 (ia1 g w);simpa [execOp,zX,e,show ev ρ (.const (.int .i64 1))=.int .i64 1 from rfl] using this⟩
end
def ROk (l:List Int):Prop:=∀ c∈l,0<=c/\c<1114112
theorem ROk.suf {l m:List Int} (h:ROk l) (k:m <:+l):ROk m:=λx hx=>h x (k.subset hx)
section
variable {s s' s1 s2 s3 s4:PR} {c c' a:Int} {q:Bool}
theorem ptail_td (l:List Int):(l.take l.length).drop 1=l.tail:=by rw[jK,List.drop_one]
theorem pnext_0 (h:s.l.length=0):(0:Int)=s.any.1/\decide (0<s.l.length)=false:=by
 have e:=jN.1 h;unfold PR.any;rw[e];exact⟨O,O⟩
theorem pnext_x {x:Int} (h:s.l[0]?=some x):x=s.any.1/\decide (0<s.l.length)=true:=by
 unfold PR.any;cases e:s.l with
 | nil=>rw[e] at h;cases h
 | cons y l=>rw[e] at h;injection h with h;exact⟨h.symm,by simp⟩
theorem pany_bd (h:ROk s.l):0<=s.any.1/\s.any.1<1114112:=by
 unfold PR.any;cases e:s.l with
 | nil=>exact⟨by show (0:Int)<=0;omega,by show (0:Int)<_;omega⟩
 | cons y l=>exact h y (by rw[e];exact cQ)
theorem zdW:s.has c=true↔0<s.l.length/\s.any.1=c:=by
 unfold PR.has PR.any;cases e:s.l with
 | nil=>simp
 | cons y l=>simp
theorem ptake_no (h:s.l.length=0\/s.any.1≠c):(false,s)=s.take c:=by
 unfold PR.take;rw[if_neg];rw[zdW];omega
theorem ptake_ok (h0:0<s.l.length) (h:s.any.1=c):(true,(⟨(s.l.take s.l.length).drop 1,s.b⟩:PR))=s.take c:=by
 unfold PR.take;rw[if_pos (zdW.2 ⟨h0,h⟩),ptail_td]
theorem zaH (e:(q,s')=s.take c):s'.l <:+s.l/\s'.b=s.b/\(q=true->s'.l.length+1=s.l.length)/\q=s.has c:=by
 have h1:q=(s.take c).1:=congrArg Prod.fst e;have h2:s'=(s.take c).2:=congrArg Prod.snd e;rw[h1,h2];by_cases h:s.has c=true
 · have h3:=mH h;unfold PR.take at h3 ⊢;rw[if_pos h] at h3 ⊢;exact⟨uO _,rfl,λ_=>h3,h.symm⟩
 unfold PR.take;rw[if_neg h];exact⟨d9 _,rfl,(λh=>by cases h),by simpa using h⟩
theorem pany_no (h:s.l.length=0):(0,(⟨s.l,true⟩:PR))=s.any:=by
 have e:=jN.1 h;unfold PR.any;rw[e]
theorem pany_ok (h:0<s.l.length):(s.any.1,(⟨(s.l.take s.l.length).drop 1,s.b⟩:PR))=s.any:=by
 rw[ptail_td];unfold PR.any;cases e:s.l with
 | nil=>rw[e] at h;simp at h
 | cons y l=>rfl
theorem zdX:s.any.2.l <:+s.l:=by
 unfold PR.any;cases e:s.l with
 | nil=>exact d9 _
 | cons y l=>exact List.suffix_cons y l
theorem ze1 (e:(a,s')=s.any) (h:ROk s.l):s'.l <:+s.l/\(0<=a/\a<1114112)/\(0<s.l.length->s'.l.length+1=s.l.length):=by
 have h1:a=s.any.1:=congrArg Prod.fst e;have h2:s'=s.any.2:=congrArg Prod.snd e;rw[h1,h2];exact⟨zdX,pany_bd h,λh0=>mJ (dV.1 h0)⟩
theorem pmember_1 (e:(a,s1)=s.any) (ha:a=92) (e2:(c,s2)=s1.any):(c,s2)=s.member:=by unfold PR.member;rw[<-e,if_pos ha,e2]
theorem pmember_0 (e:(a,s1)=s.any) (ha:¬a=92):(a,s1)=s.member:=by unfold PR.member;rw[<-e,if_neg ha]
theorem pmember_e (e:(a,s')=s.member) (h:ROk s.l):s'.l <:+s.l/\(0<=a/\a<1114112)/\(0<s.l.length->s'.l.length+1<=s.l.length):=by
 have h1:a=s.member.1:=congrArg Prod.fst e;have h2:s'=s.member.2:=congrArg Prod.snd e;rw[h1,h2];refine⟨?_,?_,λh0=>mK (dV.1 h0)⟩
 · unfold PR.member;split
   · exact zdX.trans zdX
   exact zdX
 unfold PR.member;split
 · exact pany_bd (h.suf zdX)
 exact pany_bd h
end
theorem containsR_c (u:Int) (h0:0<=u) (h1:u<1114112):
 CD Tryz.prog 374 [] [.v (.string ⟨#[42,43,63,124,41,93]⟩),.v (.int .i32 u)] (isR (dB (sgnN.any (λx=>decide (x=u))))):=by
 refine tZ Tryz.func374 O O (λC=>?_);refine g' 9 O (tX [] O O acs (indexRune_c u h0 h1) ?_);rintro _ _ ⟨⟨i1,rfl,hi1⟩,rfl⟩;refine g' 5 O ?_;exact tRs O Tryz.results374 (.cons (zf (zd O) (cB ((by exact hi1)))) .nil) O HSub.none ⟨O,O⟩
theorem pnext_c (g:Nat) (s:PR) (hl:s.l.length<=1000000) (hT:ROk s.l):
 CD Tryz.prog 367 [.bx g 367 (.agg [.sh 1 (s.l.map dR),dB s.b])] [dP g 0] (λr H'=>r=.tup [.v (.int .i32 s.any.1),dB (decide (0<s.l.length))]/\H'=[PB g s]):=by
 refine tZ Tryz.func367 O O (λC=>?_);refine gQ 13 [0] O O (tP O (zJ (n:=s.l.length) O Tryz.runUnderlying157 (by simp only[lm,lc,ln])) (g' 3 O ?_));refine tD O (λhc1=>?_) (λhc1=>?_)
 · refine g' 8 O ?_;exact tRs O Tryz.results367 (.cons (zf (zd O) (wO (congrArg dR (pnext_0 (by omega)).1))) (.cons (zf (zd O) (wO (congrArg dB (pnext_0 (by omega)).2.symm))) .nil)) O (mB 1 O) ⟨O,O⟩
 refine gQ 8 [0] O O ?_;obtain ⟨x1,hx1⟩:=zj s.l 0 (by omega);refine tP O (zi (k:=0) O O Tryz.runUnderlying157 Tryz.sizeOf21 (by first | rfl | omega) (ze hx1)) (g' 6 O ?_);exact tRs O Tryz.results367 (.cons (zf (zd O) (wO (congrArg dR (pnext_x hx1).1))) (.cons (zf (zd O) (wO (congrArg dB (pnext_x hx1).2.symm))) .nil)) O (mB 1 O) ⟨O,O⟩
theorem zdC (g:Nat) (s:PR) (want:Int) (hl:s.l.length<=1000000) (hT:ROk s.l):
 CD Tryz.prog 361 [.bx g 367 (.agg [.sh 1 (s.l.map dR),dB s.b])] [dP g 0,.v (.int .i32 want)] (λr H'=>∃ q s',(q,s')=s.take want/\r=dB q/\H'=[PB g s']):=by
 refine tZ Tryz.func361 O O (λC=>?_);refine g' 9 O (tX [0] O O acs (pnext_c g s (by omega) hT) ?_);rintro _ _ ⟨rfl,rfl⟩;refine g' 12 O ?_;refine tOr 2 3 (c:=decide (s.any.1≠want)) O O O O O O (λhb2 nx3=>?_) ?_
 · have hf4:=of_decide_eq_true (notF hb2);refine g' 3 O ?_;exact nx3 _ O O (kx 3 O O)
 refine g' 2 O ?_;refine tC O (λhc5=>?_) (λhc5=>?_)
 · simp only[bX,bJ] at hc5;have hno:s.l.length=0\/s.any.1≠want:=(by have h:=hc5;omega);refine g' 7 O ?_;exact tR O (mB 1 O) ⟨_,⟨s.l,s.b⟩,ptake_no hno,O,O⟩
 simp only[bX,bJ] at hc5;have hyes:0<s.l.length/\s.any.1=want:=by have h:=hc5;omega
 refine gQ 9 [0] O O (tP O ((zdd (a:=1) (b:=s.l.length) O O O (by first | rfl | (show _=_;(try simp only[lm]);omega) | exact cP _) (by first | rfl | (show _=_;(try simp only[lm]);omega) | exact cP _) Tryz.runUnderlying157 Tryz.sizeOf21 (by omega) (by simp only[lm];omega)).cv (wO (by rw[<-jF,<-jJ]))) (gQ 11 [0] O O ?_));exact tR O (mB 1 O) ⟨_,⟨((s.l.take s.l.length).drop 1),s.b⟩,ptake_ok hyes.1 hyes.2,O,O⟩
theorem ze2 (g:Nat) (s:PR) (hl:s.l.length<=1000000) (hT:ROk s.l):
 CD Tryz.prog 372 [.bx g 367 (.agg [.sh 1 (s.l.map dR),dB s.b])] [dP g 0] (λr H'=>∃ c s',(c,s')=s.any/\r=.v (.int .i32 c)/\H'=[PB g s']):=by
 refine tZ Tryz.func372 O O (λC=>?_);refine g' 8 O (tX [0] O O acs (pnext_c g s (by omega) hT) ?_);rintro _ _ ⟨rfl,rfl⟩;refine g' 14 O ?_;refine tC O (λhc2=>?_) (λhc2=>?_)
 · replace hc2:=of_decide_eq_false (p:=0<s.l.length) (by simpa using hc2)
   have hz:s.l.length=0:=(by have h:=hc2;first | omega | (simp at h;omega));refine gQ 15 [0] O O ?_;exact tR O (mB 1 O) ⟨_,⟨s.l,true⟩,pany_no hz,O,O⟩
 · replace hc2:=of_decide_eq_true (p:=0<s.l.length) (by simpa using hc2)
   have hz:0<s.l.length:=(by have h:=hc2;first | omega | (simp at h;omega));refine gQ 9 [0] O O (tP O ((zdd (a:=1) (b:=s.l.length) O O O (by first | rfl | (show _=_;(try simp only[lm]);omega) | exact cP _) (by first | rfl | (show _=_;(try simp only[lm]);omega) | exact cP _) Tryz.runUnderlying157 Tryz.sizeOf21 (by omega) (by simp only[lm];omega)).cv (wO (by rw[<-jF,<-jJ]))) (gQ 12 [0] O O ?_));exact tR O (mB 1 O) ⟨_,⟨((s.l.take s.l.length).drop 1),s.b⟩,pany_ok hz,O,O⟩
theorem pmember_c (g:Nat) (s:PR) (hl:s.l.length<=1000000) (hT:ROk s.l):
 CD Tryz.prog 375 [.bx g 367 (.agg [.sh 1 (s.l.map dR),dB s.b])] [dP g 0] (λr H'=>∃ c s',(c,s')=s.member/\r=.v (.int .i32 c)/\H'=[PB g s']):=by
 refine tZ Tryz.func375 O O (λC=>?_);refine g' 8 O (tX [0] O O acs (ze2 g s (by omega) hT) ?_);rintro _ _ ⟨c1,s1,e1,rfl,rfl⟩;obtain ⟨kl1,kb1,kc1⟩:=ze1 e1 hT;have hT1:=hT.suf kl1;have kd1:=kl1.length_le;refine g' 10 O ?_;refine tD O (λhc2=>?_) (λhc2=>?_)
 · refine g' 3 O (tX [0] O O acs (ze2 g s1 (by omega) hT1) ?_);rintro _ _ ⟨c3,s3,e3,rfl,rfl⟩;obtain ⟨kl3,kb3,kc3⟩:=ze1 e3 hT1;have hT3:=hT1.suf kl3;have kd3:=kl3.length_le;refine g' 5 O ?_;exact tR O (mB 1 O) ⟨_,⟨s3.l,s3.b⟩,pmember_1 e1 hc2 e3,O,O⟩
 refine g' 9 O ?_;exact tR O (mB 1 O) ⟨_,⟨s1.l,s1.b⟩,pmember_0 e1 hc2,O,O⟩
theorem ptimes_1 {s s1:PR} {x:Pt} {q:Bool} (e:(q,s1)=s.take 42) (h:q=true):(Pt.rep x true true,s1)=s.times x:=by
 have hh:=(zaH e).2.2.2.symm.trans h;unfold PR.times;rw[if_pos hh,<-e]
theorem ptimes_2 {s s1 s2:PR} {x:Pt} {q q':Bool} (e:(q,s1)=s.take 42) (h:¬q=true) (e2:(q',s2)=s1.take 43) (h2:q'=true):(Pt.rep x false true,s2)=s.times x:=by
 have hh:¬s.has 42=true:=λk=>h ((zaH e).2.2.2.trans k)
 have es:s1=s:=by have h2:s1=(s.take 42).2:=congrArg Prod.snd e;rw[h2];unfold PR.take;rw[if_neg hh]
 subst es;have hh2:=(zaH e2).2.2.2.symm.trans h2;unfold PR.times;rw[if_neg hh,if_pos hh2,<-e2]
theorem ptimes_3 {s s1 s2 s3:PR} {x:Pt} {q q' q'':Bool} (e:(q,s1)=s.take 42) (h:¬q=true) (e2:(q',s2)=s1.take 43) (h2:¬q'=true) (e3:(q'',s3)=s2.take 63):((if q''=true then Pt.rep x true false else x),s3)=s.times x:=by
 have hh:¬s.has 42=true:=λk=>h ((zaH e).2.2.2.trans k)
 have es:s1=s:=by have h2:s1=(s.take 42).2:=congrArg Prod.snd e;rw[h2];unfold PR.take;rw[if_neg hh]
 subst es;have hh2:¬s1.has 43=true:=λk=>h2 ((zaH e2).2.2.2.trans k)
 have es:s2=s1:=by have h2:s2=(s1.take 43).2:=congrArg Prod.snd e2;rw[h2];unfold PR.take;rw[if_neg hh2]
 subst es;have hq:=(zaH e3).2.2.2;unfold PR.times;rw[if_neg hh,if_neg hh2,<-e3];by_cases h3:q''=true
 · rw[if_pos h3,if_pos (hq.symm.trans h3)]
 rw[if_neg h3,if_neg (λk=>h3 (hq.trans k))];have h2:s3=(s2.take 63).2:=congrArg Prod.snd e3;rw[h2];unfold PR.take;rw[if_neg (λk=>h3 (hq.trans k))]
theorem ptimes_c (g:Nat) (s:PR) (x:Pt) (hl:s.l.length<=1000000) (hT:ROk s.l):
 CD Tryz.prog 368 [.bx g 367 (.agg [.sh 1 (s.l.map dR),dB s.b])] [dP g 0,Pt.d x] (λr H'=>∃ y s',(y,s')=s.times x/\r=Pt.d y/\H'=[PB g s']):=by
 refine tZ Tryz.func368 O O (λC=>?_);refine g' 10 O (tX [0] O O acs (zdC g s (42:Int) (by omega) hT) ?_);rintro _ _ ⟨q1,s1,e1,rfl,rfl⟩;obtain ⟨kl1,kb1,kc1,ke1⟩:=zaH e1;have hT1:=hT.suf kl1;have kd1:=kl1.length_le;refine g' 3 O ?_;refine tC O (λhc2=>?_) (λhc2=>?_)
 · refine g' 3 O (tP O (zr [0,1,2] [.tmp 8,.const (.bool true),.const (.bool true)] (zv:=(.agg #[.nilIface,(.bool false),(.bool false)])) O O (.cons (zea _) (.cons (CellD.v O) (.cons (CellD.v O) .nil))) (Tryz.runUnderlying397) Tryz.zeroValue397 bd_397 ⟨O,O,O,trivial⟩ O) (g' 7 O ?_));exact tR O (mB 1 O) ⟨_,⟨s1.l,s1.b⟩,ptimes_1 e1 hc2,O,O⟩
 refine g' 3 O (tX [0] O O acs (zdC g s1 (43:Int) (by omega) hT1) ?_);rintro _ _ ⟨q3,s3,e3,rfl,rfl⟩;obtain ⟨kl3,kb3,kc3,ke3⟩:=zaH e3;have hT3:=hT1.suf kl3;have kd3:=kl3.length_le;refine g' 3 O ?_;refine tC O (λhc4=>?_) (λhc4=>?_)
 · refine g' 3 O (tP O (zr [0,1,2] [.tmp 14,.const (.bool false),.const (.bool true)] (zv:=(.agg #[.nilIface,(.bool false),(.bool false)])) O O (.cons (zea _) (.cons (CellD.v O) (.cons (CellD.v O) .nil))) (Tryz.runUnderlying397) Tryz.zeroValue397 bd_397 ⟨O,O,O,trivial⟩ O) (g' 7 O ?_));exact tR O (mB 1 O) ⟨_,⟨s3.l,s3.b⟩,ptimes_2 e1 (by simpa using hc2) e3 hc4,O,O⟩
 refine g' 3 O (tX [0] O O acs (zdC g s3 (63:Int) (by omega) hT3) ?_);rintro _ _ ⟨q5,s5,e5,rfl,rfl⟩;obtain ⟨kl5,kb5,kc5,ke5⟩:=zaH e5;have hT5:=hT3.suf kl5;have kd5:=kl5.length_le;refine g' 3 O ?_;refine tC O (λhc6=>?_) (λhc6=>?_)
 · refine g' 3 O (tP O (zr [0,1,2] [.tmp 20,.const (.bool true),.const (.bool false)] (zv:=(.agg #[.nilIface,(.bool false),(.bool false)])) O O (.cons (zea _) (.cons (CellD.v O) (.cons (CellD.v O) .nil))) (Tryz.runUnderlying397) Tryz.zeroValue397 bd_397 ⟨O,O,O,trivial⟩ O) (g' 7 O ?_));exact tR O (mB 1 O) ⟨_,⟨s5.l,s5.b⟩,(by have h:=ptimes_3 (x:=x) e1 (by simpa using hc2) e3 (by simpa using hc4) e5;rw[if_pos hc6] at h;exact h),O,O⟩
 refine g' 10 O ?_;exact tR O (mB 1 O) ⟨_,⟨s5.l,s5.b⟩,(by have h:=ptimes_3 (x:=x) e1 (by simpa using hc2) e3 (by simpa using hc4) e5;rw[if_neg (by simpa using hc6)] at h;exact h),O,O⟩
end Lp
namespace Lp
open Go Go.RowKit Go.Proofs
theorem zfb:BdP Tryz.prog #[⟨"all",4,0,false, "", "leporello/pattern",0⟩,⟨"not",4,1,false, "", "leporello/pattern",1⟩,⟨"items",370,2,false, "", "leporello/pattern",8⟩] [(0,1),(1,1),(2,1)]:=λ_=>by kernel_rfl
theorem infz_400:IzP Tryz.prog 400 (.agg #[(.int .i32 0),(.int .i32 0)]) 2 8:=za3 (by kernel_rfl)
theorem und_370:Tryz.prog.underlying 370=some (.slice 400):=by kernel_rfl
section
variable {s s' s1 s2 s3 s4 z:PR} {a b c:Int} {q nt:Bool} {o:List RngD} {f:Nat} {x:RngD}
theorem ptake_f (e:(q,s')=s.take c) (h:¬q=true):s=s':=by
 have h2:s'=(s.take c).2:=congrArg Prod.snd e;have h3:¬s.has c=true:=λk=>h ((zaH e).2.2.2.trans k)
 rw[h2];unfold PR.take;rw[if_neg h3]
theorem pitem_1 (e:(a,s1)=s.member) {x0 x1:Int} (h0:s1.l[0]?=some x0) (h1:s1.l[1]?=some x1) (h:x0=45/\x1≠93) (e2:(c,s2)=s1.any) (e3:(b,s3)=s2.member):(⟨a,b⟩,s3)=s.item:=by
 unfold PR.item;rw[<-e];have hc:1<s1.l.length/\s1.l.headD 0=45/\s1.l.tail.headD 0≠93:=by
  cases el:s1.l with
  | nil=>rw[el] at h0;cases h0
  | cons y r=>
   rw[el] at h0 h1;cases r with
   | nil=>cases h1
   | cons y' r=>simp at h0 h1;subst h0;subst h1;exact⟨by simp,h.1,h.2⟩
 simp only[if_pos hc];rw[<-e2];simp only;rw[<-e3]
theorem pitem_0 (e:(a,s1)=s.member) {x0 x1:Int} (h0:s1.l[0]?=some x0) (h1:s1.l[1]?=some x1) (h:¬(x0=45/\x1≠93)):(⟨a,a⟩,s1)=s.item:=by
 unfold PR.item;rw[<-e];have hc:¬(1<s1.l.length/\s1.l.headD 0=45/\s1.l.tail.headD 0≠93):=by
  cases el:s1.l with
  | nil=>rw[el] at h0;cases h0
  | cons y r=>
   rw[el] at h0 h1;cases r with
   | nil=>cases h1
   | cons y' r=>simp at h0 h1;subst h0;subst h1;exact λk=>h ⟨k.2.1,k.2.2⟩
 simp only[if_neg hc]
theorem pitem_s (e:(a,s1)=s.member) (h:¬1<s1.l.length):(⟨a,a⟩,s1)=s.item:=by
 unfold PR.item;rw[<-e];simp only[if_neg (λk:1<s1.l.length/\_=>h k.1)]
theorem class_bad (h:z.b=true):za9 nt (f+1) o z=(⟨false,nt,o⟩,z):=by unfold za9;rw[if_pos h]
theorem class_end (h:z.b=false) (ho:0<o.length) (e:(q,s1)=z.take 93) (hq:q=true):za9 nt (f+1) o z=(⟨false,nt,o⟩,s1):=by
 unfold za9;rw[if_neg (by rw[h];simp),if_pos ⟨ho,(zaH e).2.2.2.symm.trans hq⟩,<-e]
theorem class_no (h:z.b=false) (h93:¬(0<o.length/\z.has 93=true)) (hn:z.l.length=0\/z.any.1=93):za9 nt (f+1) o z=(⟨false,nt,o⟩,⟨z.l,true⟩):=by
 unfold za9;rw[if_neg (by rw[h];simp),if_neg h93,if_pos];rcases hn with k | k
 · exact .inl (jN.1 k)
 by_cases h0:0<z.l.length
 · exact .inr (zdW.2 ⟨h0,k⟩)
 exact .inl (jN.1 (by omega))
theorem class_go (h:z.b=false) (h93:¬(0<o.length/\z.has 93=true)) (hn:0<z.l.length/\z.any.1≠93) (e:(x,s1)=z.item):za9 nt (f+1) o z=za9 nt f (o++[x]) ⟨s1.l,s1.b||decide (x.hi<x.lo)⟩:=by
 conv=>lhs;unfold za9
 rw[if_neg (by rw[h];simp),if_neg h93,if_neg]
 · simp only;rw[<-e]
 rintro (k | k)
 · rw[k] at hn;exact absurd hn.1 (by simp)
 exact hn.2 (zdW.1 k).2
theorem class_of (e:(q,s1)=s.take 94) {st:SetD} (hf:za9 q (s1.l.length+2) [] s1=(st,s')):(st,s')=s.cls:=by unfold PR.cls;rw[<-e,hf]
end
theorem pclass_c (g:Nat) (s:PR) (hl:s.l.length<=1000000) (hT:ROk s.l):
 CD Tryz.prog 373 [.bx g 367 (.agg [.sh 1 (s.l.map dR),dB s.b])] [dP g 0] (λr H'=>∃ st s',(st,s')=s.cls/\r=.agg [dB st.all,dB st.nt,.sh 2 (st.items.map RngD.d)]/\H'=[PB g s']):=by
 refine tZ Tryz.func373 O O (λC=>?_);refine g' 2 O ?_;refine tA O (λg1=>?_);refine g' 5 O (tX [1] O O acs (zdC g s (94:Int) (by omega) hT) ?_);rintro _ _ ⟨q2,s2,e2,rfl,rfl⟩;obtain ⟨kl2,kb2,kc2,ke2⟩:=zaH e2;have hT2:=hT.suf kl2;have kd2:=kl2.length_le;refine tP O (zr [1] [.tmp 8] (zv:=(.agg #[(.bool false),(.bool false),(.slice none 0 0)])) O O (.cons (CellD.v O) .nil) (Tryz.runUnderlying372) Tryz.zeroValue372 zfb ⟨O,O,O,trivial⟩ O) ?_;refine tA O (λg3=>?_);refine gQ 5 [0] O O (mP (HSub.nil 2 400) (mR 1 O (mP (wT (h':=.bx g3 372 (.agg [dB false,dB q2,.ov (.slice none 0 0)])) O (wU (Cv.agg (gc (gc (.cons (Cv.ov O) .nil)))))) (mR 2 O (mR 2 O (mR 2 O (mR 3 O (tl4 (λ(a_:Nat) (b_:PR) (c_:Value) (d_:List RngD)=>[(0,dP g 0),(2,dP g1 0),(3,dP g3 0)]) (λa_ b_ c_ d_=>[.bx g1 372 (.agg [dB false,dB false,dZ]),.bx g3 372 (.agg [dB false,dB q2,.ov c_]),.sl c_ 2 400 (d_.map RngD.d),.bx g 367 (.agg [.sh 1 (b_.l.map dR),dB b_.b])]) (λa_ b_ c_ d_=>(b_.l.length<a_)/\(za9 q2 a_ d_ b_=za9 q2 (s2.l.length+2) [] s2)/\(ROk b_.l)/\(d_.length+b_.l.length<=1000000)) (λa_ b_ c_ d_=>a_) (s2.l.length+2) s2 (.slice none 0 0) [] O (sa O) wQ ⟨(by omega),O,hT2,(by show 0+s2.l.length<=_;omega)⟩ ?_))))))));rintro f z ov o ⟨hlf,hf,hz,hol⟩;obtain ⟨f,rfl⟩:∃ k,f=k+1:=⟨f-1,by omega⟩;refine gQ 10 [3] O O ?_;refine tC O (λhc4=>?_) (λhc4=>?_)
 · simp only[bX,bJ] at hc4;have hzb:z.b=false:=(by simpa using hc4);refine g' 4 O ?_;refine tJr (λ(jg:Unit)=>[(0,dP g 0),(2,dP g1 0),(3,dP g3 0),(10,dP g 0),(11,dP g 0),(12,dP g 1),(13,dB z.b),(14,dB (!z.b))]) (λ(jg:Unit)=>[.bx g1 372 (.agg [dB false,dB false,dZ]),.bx g3 372 (.agg [dB false,dB q2,.ov ov]),.sl ov 2 400 (o.map RngD.d),.bx g 367 (.agg [.sh 1 (z.l.map dR),dB z.b])]) (λ(jg:Unit)=>(¬(0<o.length/\z.has 93=true))) (λ_ hQ5 hQ5r=>?_) ?_
   · refine g' 1 O ?_;by_cases hg6:(0:Int)<((o.length:Nat):Int)
     · refine gQ 3 [1] O O (tP O (zQ (n:=o.length) (j:=2) O O Tryz.runUnderlying370 (cP _)) (tP O (zaO O O (decide_eq_true hg6)) (g' 2 O (tX [3] O O acs (zdC g z (93:Int) (by omega) hz) ?_))));rintro _ _ ⟨q7,s7,e7,rfl,rfl⟩;obtain ⟨kl7,kb7,kc7,ke7⟩:=zaH e7;have hT7:=hz.suf kl7;have kd7:=kl7.length_le;refine g' 3 O ?_;refine tC O (λhc8=>?_) (λhc8=>?_)
       · have hff:=hf.symm.trans (class_end hzb (by omega) e7 hc8);refine gQ 7 [2,1] O O (hQ5r _ _ (g' 5 O (mR 3 O ?_)));refine mO (Mv.freeze (K':=[(0,dP g 0),(2,dP g1 0),(3,dP g3 0),(10,dP g 0),(11,dP g 0),(12,dP g 1),(13,dB z.b),(14,dB (!z.b)),(15,dP g3 2),(16,.sh 2 (o.map RngD.d)),(17,dN o.length),(18,dB true),(19,dB true),(20,dP g 0),(21,dB q7),(22,dB q7),(23,.agg [dB false,dB q2,.sh 2 (o.map RngD.d)])]) [.sl ov 2 400 (o.map RngD.d)] (H1:=[.bx g 367 (.agg [.sh 1 (s7.l.map dR),dB s7.b]),.bx g1 372 (.agg [dB false,dB q2,.ov ov]),.bx g3 372 (.agg [dB false,dB q2,.ov ov])]) (H1':=[.bx g 367 (.agg [.sh 1 (s7.l.map dR),dB s7.b]),.bx g1 372 (.agg [dB false,dB q2,.sh 2 (o.map RngD.d)]),.bx g3 372 (.agg [dB false,dB q2,.sh 2 (o.map RngD.d)])]) ⟨⟨_,O,w6⟩,⟨_,O,w6⟩,⟨_,O,w6⟩,⟨_,O,w6⟩,⟨_,O,w6⟩,⟨_,O,w6⟩,⟨_,O,w6⟩,⟨_,O,w6⟩,⟨_,O,w6⟩,⟨_,O,w7 (j:=0) O O⟩,⟨_,O,w6⟩,⟨_,O,w6⟩,⟨_,O,w6⟩,⟨_,O,w6⟩,⟨_,O,w6⟩,⟨_,O,w6⟩,⟨_,O,ArgC.agg (ga (ga (.cons (w7 (j:=0) O O) .nil)))⟩,trivial⟩ (.same (.bx (ArgC.agg (ga (ga (.cons (w7 (j:=0) O O) .nil)))) (.bx (ArgC.agg (ga (ga (.cons (w7 (j:=0) O O) .nil)))) .nil)))) ?_;exact tRs O Tryz.results373 (.cons (zI (i:=1) O O Tryz.isAgg372 Tryz.sizeOf372 O O) .nil) O (mB 1 O) ⟨⟨false,q2,o⟩,⟨s7.l,s7.b⟩,class_of e2 hff,O,O⟩
       have h93:¬(0<o.length/\z.has 93=true):=λk=>(by simpa using hc8:¬q7=true) ((zaH e7).2.2.2.trans k.2)
       have hzs:z=s7:=ptake_f e7 (by simpa using hc8);subst hzs;refine g' 1 O (mR 3 O (mR 3 O (mR 3 O ?_)));exact tqe (hQ5 () h93) O
     refine gQ 3 [1] O O (tP O (zQ (n:=o.length) (j:=2) O O Tryz.runUnderlying370 (cP _)) (tP O (zaO O O (decide_eq_false hg6)) (g' 6 O ?_)));have h93:¬(0<o.length/\z.has 93=true):=λk=>by omega
     refine g' 2 O ?_;exact tqe (hQ5 () h93) O
   rintro _ h93;refine g' 5 O (tX [3] O O acs (pnext_c g z (by omega) hz) ?_);rintro _ _ ⟨rfl,rfl⟩;refine g' 12 O ?_;refine tOr 2 2 (c:=decide (z.any.1=(93:Int))) O O O O O O (λhb10 nx11=>?_) ?_
   · have hf12:=of_decide_eq_true (notF hb10);refine g' 2 O ?_;exact nx11 _ O O (kx 2 O O)
   refine g' 2 O ?_;refine tC O (λhc13=>?_) (λhc13=>?_)
   · simp only[bX,bJ] at hc13;have hff:=hf.symm.trans (class_no hzb h93 (by have h:=hc13;omega));refine gQ 20 [0,2,1] O O (mR 3 O ?_);refine mO (Mv.freeze (K':=[(0,dP g 0),(2,dP g1 0),(3,dP g3 0),(4,.v (.int .i32 z.any.1)),(5,dB (decide (0<z.l.length))),(10,dP g 0),(11,dP g 0),(12,dP g 1),(13,dB z.b),(14,dB (!z.b)),(24,.tup [.v (.int .i32 z.any.1),dB (decide (0<z.l.length))]),(25,dP g 0),(26,.tup [.v (.int .i32 z.any.1),dB (decide (0<z.l.length))]),(27,.v (.int .i32 z.any.1)),(28,dB (decide (0<z.l.length))),(29,dB (decide (0<z.l.length))),(30,dB (!decide (0<z.l.length))),(31,dB (!decide (0<z.l.length))),(34,dB (!decide (0<z.l.length)||decide (z.any.1=(93:Int)))),(35,dP g 0),(36,dP g 0),(37,dP g 1),(38,.agg [dB false,dB q2,.sh 2 (o.map RngD.d)])]) [.sl ov 2 400 (o.map RngD.d)] (H1:=[.bx g 367 (.agg [.sh 1 (z.l.map dR),dB true]),.bx g1 372 (.agg [dB false,dB q2,.ov ov]),.bx g3 372 (.agg [dB false,dB q2,.ov ov])]) (H1':=[.bx g 367 (.agg [.sh 1 (z.l.map dR),dB true]),.bx g1 372 (.agg [dB false,dB q2,.sh 2 (o.map RngD.d)]),.bx g3 372 (.agg [dB false,dB q2,.sh 2 (o.map RngD.d)])]) ⟨⟨_,O,w6⟩,⟨_,O,w6⟩,⟨_,O,w6⟩,⟨_,O,w6⟩,⟨_,O,w6⟩,⟨_,O,w6⟩,⟨_,O,w6⟩,⟨_,O,w6⟩,⟨_,O,w6⟩,⟨_,O,w6⟩,⟨_,O,w6⟩,⟨_,O,w6⟩,⟨_,O,w6⟩,⟨_,O,w6⟩,⟨_,O,w6⟩,⟨_,O,w6⟩,⟨_,O,w6⟩,⟨_,O,w6⟩,⟨_,O,w6⟩,⟨_,O,w6⟩,⟨_,O,w6⟩,⟨_,O,w6⟩,⟨_,O,ArgC.agg (ga (ga (.cons (w7 (j:=0) O O) .nil)))⟩,trivial⟩ (.same (.bx (ArgC.agg (ga (ga (.cons (w7 (j:=0) O O) .nil)))) (.bx (ArgC.agg (ga (ga (.cons (w7 (j:=0) O O) .nil)))) .nil)))) ?_;exact tRs O Tryz.results373 (.cons (zI (i:=1) O O Tryz.isAgg372 Tryz.sizeOf372 O O) .nil) O (mB 1 O) ⟨⟨false,q2,o⟩,⟨z.l,true⟩,class_of e2 hff,O,O⟩
   simp only[bX,bJ] at hc13;have hnx:0<z.l.length/\z.any.1≠93:=(by have h:=hc13;omega);refine g' 5 O (tX [0] O O acs (pmember_c g z (by omega) hz) ?_);rintro _ _ ⟨c14,s14,e14,rfl,rfl⟩;obtain ⟨kl14,kb14,kc14⟩:=pmember_e e14 hz;have hT14:=hz.suf kl14;have kd14:=kl14.length_le;refine tP O (p_arr1 O) ?_;refine tA O (λg15=>?_);refine gQ 5 [0] O O (tP O (p_arrA0 O) (gQ 1 [0] O O (tP O (p_arrA1 O) (gQ 4 [0] O O ?_))));refine tJ (λ(jg:Int×Int×PR)=>[(0,dP g 0),(2,dP g1 0),(3,dP g3 0),(4,.v (.int .i32 z.any.1)),(5,dB (decide (0<z.l.length))),(6,dP g15 0),(10,dP g 0),(11,dP g 0),(12,dP g 1),(13,dB z.b),(14,dB (!z.b)),(24,.tup [.v (.int .i32 z.any.1),dB (decide (0<z.l.length))]),(25,dP g 0),(26,.tup [.v (.int .i32 z.any.1),dB (decide (0<z.l.length))]),(27,.v (.int .i32 z.any.1)),(28,dB (decide (0<z.l.length))),(29,dB (decide (0<z.l.length))),(30,dB (!decide (0<z.l.length))),(31,dB (!decide (0<z.l.length))),(34,dB (!decide (0<z.l.length)||decide (z.any.1=(93:Int)))),(39,dP g 0),(40,.v (.int .i32 c14)),(41,.agg [.v (.int .i32 c14),.v (.int .i32 0)]),(42,dP g15 0),(43,.v (.int .i32 c14)),(44,dP g15 1)]) (λ(jg:Int×Int×PR)=>[.bx g15 400 (.agg [.v (.int .i32 jg.1),.v (.int .i32 jg.2.1)]),.bx g 367 (.agg [.sh 1 (jg.2.2.l.map dR),dB jg.2.2.b]),.bx g1 372 (.agg [dB false,dB false,dZ]),.bx g3 372 (.agg [dB false,dB q2,.ov ov]),.sl ov 2 400 (o.map RngD.d)]) (λ(jg:Int×Int×PR)=>(((⟨jg.1,jg.2.1⟩:RngD),jg.2.2)=z.item)/\(ROk jg.2.2.l)/\(jg.2.2.l.length<z.l.length)) (λ_ hQ16=>?_) ?_
   · refine g' 1 O ?_;by_cases h1l:(1:Int)<((s14.l.length:Nat):Int)
     · obtain ⟨x1,hx1⟩:=zj s14.l 0 (by omega);obtain ⟨x2,hx2⟩:=zj s14.l 1 (by omega);refine gQ 5 [1] O O (tP O (zJ (n:=s14.l.length) O Tryz.runUnderlying157 (by simp only[lm,lc,ln])) (tP O (zaO O O (decide_eq_true h1l)) (gQ 5 [1] O O (tG O (zi (k:=0) O O Tryz.runUnderlying157 Tryz.sizeOf21 (by first | rfl | omega) (ze hx1)) (g' 4 O ?_)))));refine tAnd 15 7 (c:=decide (x2≠(93:Int))) O O O O O O (λhb17 nx18=>?_) ?_
       · have hf19:=of_decide_eq_true hb17;refine gQ 4 [1] O O (tG O (zi (k:=1) O O Tryz.runUnderlying157 Tryz.sizeOf21 (by first | rfl | omega) (ze hx2)) (g' 2 O ?_));exact nx18 _ O O (kx 7 O O)
       refine g' 2 O ?_;refine tC O (λhc20=>?_) (λhc20=>?_)
       · simp only[bX,bJ] at hc20;have hxq:x1=45/\x2≠93:=(by have h:=hc20;omega);refine g' 3 O (tX [1] O O acs (ze2 g s14 (by omega) hT14) ?_);rintro _ _ ⟨c21,s21,e21,rfl,rfl⟩;obtain ⟨kl21,kb21,kc21⟩:=ze1 e21 hT14;have hT21:=hT14.suf kl21;have kd21:=kl21.length_le;refine g' 4 O (tX [0] O O acs (pmember_c g s21 (by omega) hT21) ?_);rintro _ _ ⟨c22,s22,e22,rfl,rfl⟩;obtain ⟨kl22,kb22,kc22⟩:=pmember_e e22 hT21;have hT22:=hT21.suf kl22;have kd22:=kl22.length_le;refine tP O (p_arrA1 O) (gQ 2 [1] O O (mR 4 O (mR 4 O (mR 4 O (mR 3 O (mR 4 O ?_))))));exact tqe (hQ16 (c14,c22,(⟨s22.l,s22.b⟩:PR)) ⟨pitem_1 e14 hx1 hx2 hxq e21 e22,hT22,(by show s22.l.length<_;omega)⟩) O
       simp only[bX,bJ] at hc20;have hxq:¬(x1=45/\x2≠93):=(by have h:=hc20;omega);refine g' 1 O ?_;exact tqe (hQ16 (c14,c14,(⟨s14.l,s14.b⟩:PR)) ⟨pitem_0 e14 hx1 hx2 hxq,hT14,(by show s14.l.length<_;omega)⟩) O
     refine gQ 5 [1] O O (tP O (zJ (n:=s14.l.length) O Tryz.runUnderlying157 (by simp only[lm,lc,ln])) (tP O (zaO O O (decide_eq_false h1l)) (g' 22 O ?_)));exact tqe (hQ16 (c14,c14,(⟨s14.l,s14.b⟩:PR)) ⟨pitem_s e14 (by show ¬1<s14.l.length;omega),hT14,(by show s14.l.length<_;omega)⟩) O
   rintro ⟨ia,ib,w⟩ ⟨hit,hTw,hlw⟩
   replace hit:((⟨ia,ib⟩:RngD),w)=z.item:=hit
   replace hTw:ROk w.l:=hTw
   replace hlw:w.l.length<z.l.length:=hlw
   refine T.kk [(0,dP g 0),(2,dP g1 0),(3,dP g3 0),(4,.v (.int .i32 z.any.1)),(5,dB (decide (0<z.l.length))),(6,dP g15 0),(10,dP g 0),(11,dP g 0),(12,dP g 1),(13,dB z.b),(14,dB (!z.b)),(24,.tup [.v (.int .i32 z.any.1),dB (decide (0<z.l.length))]),(25,dP g 0),(26,.tup [.v (.int .i32 z.any.1),dB (decide (0<z.l.length))]),(27,.v (.int .i32 z.any.1)),(28,dB (decide (0<z.l.length))),(29,dB (decide (0<z.l.length))),(30,dB (!decide (0<z.l.length))),(31,dB (!decide (0<z.l.length))),(34,dB (!decide (0<z.l.length)||decide (z.any.1=(93:Int)))),(39,dP g 0),(40,.v (.int .i32 c14)),(41,.agg [.v (.int .i32 c14),.v (.int .i32 0)]),(42,dP g15 0),(43,.v (.int .i32 c14)),(44,dP g15 1)] O ?_;refine mQ [.bx g15 400 (.agg [.v (.int .i32 ia),.v (.int .i32 ib)]),.bx g 367 (.agg [.sh 1 (w.l.map dR),dB w.b]),.bx g1 372 (.agg [dB false,dB false,dZ]),.bx g3 372 (.agg [dB false,dB q2,.ov ov]),.sl ov 2 400 (o.map RngD.d)] (by rfl) (gQ 9 [1] O O ?_);refine tOr 5 5 (c:=decide (ib<ia)) O O O O O O (λhb23 nx24=>?_) ?_
   · refine tG O (p_arrA0 O) (gQ 1 [0] O O (tG O (p_arrA1 O) (gQ 2 [0] O O ?_)));exact nx24 _ O O (kx 5 O O)
   refine gQ 9 [1,3,0] O O (tE O (zt [.tmp 90] O O (.cons CellD.agg .nil) O Tryz.runUnderlying370 Tryz.sizeOf400 Tryz.zeroValue400 O O O O) ?_);rintro _ _ ⟨g25,rfl,rfl⟩;refine tE O (zx (f:=RngD.d) (l:=o) (l':=[(RngD.mk ia ib)]) (i:=5) O O O (wX (j:=0) O O) und_370 infz_400 O O (by unfold maxLen;(try simp only[la,lc,ln,lm,lt',ld,ls,lr]);omega) (by (try simp only[la,lc,ln,lm,lt',ld,ls,lr]);omega)) ?_;rintro _ _ ⟨v26,rfl,rfl⟩;refine gQ 4 [4] O O (mR 2 O (mR 5 O (mR 5 O (mR 5 O (mP (mB 4 O) ?_)))));exact tp4 f (⟨w.l,(w.b||decide (ib<ia))⟩:PR) v26 (o++[(RngD.mk ia ib)]) (sa O) wQ ⟨by show w.l.length<_;omega,(class_go hzb h93 hnx (hit)).symm.trans hf,hTw,by simp only[la,cR];omega⟩ (by omega)
 simp only[bX,bJ] at hc4;have hff:=hf.symm.trans (class_bad (by simpa using hc4));refine gQ 12 [1,0] O O (mR 2 O (mO (Mv.freeze (K':=[(0,dP g 0),(2,dP g1 0),(3,dP g3 0),(10,dP g 0),(11,dP g 0),(12,dP g 1),(13,dB z.b),(14,dB (!z.b)),(94,.agg [dB false,dB q2,.sh 2 (o.map RngD.d)])]) [.sl ov 2 400 (o.map RngD.d)] (H1:=[.bx g1 372 (.agg [dB false,dB q2,.ov ov]),.bx g3 372 (.agg [dB false,dB q2,.ov ov]),.bx g 367 (.agg [.sh 1 (z.l.map dR),dB z.b])]) (H1':=[.bx g1 372 (.agg [dB false,dB q2,.sh 2 (o.map RngD.d)]),.bx g3 372 (.agg [dB false,dB q2,.sh 2 (o.map RngD.d)]),.bx g 367 (.agg [.sh 1 (z.l.map dR),dB z.b])]) ⟨⟨_,O,w6⟩,⟨_,O,w6⟩,⟨_,O,w6⟩,⟨_,O,w6⟩,⟨_,O,w6⟩,⟨_,O,w6⟩,⟨_,O,w6⟩,⟨_,O,w6⟩,⟨_,O,ArgC.agg (ga (ga (.cons (w7 (j:=0) O O) .nil)))⟩,trivial⟩ (.bx (ArgC.agg (ga (ga (.cons (w7 (j:=0) O O) .nil)))) (.bx (ArgC.agg (ga (ga (.cons (w7 (j:=0) O O) .nil)))) (.same .nil)))) (mR 2 O ?_)));exact tRs O Tryz.results373 (.cons (zI (i:=1) O O Tryz.isAgg372 Tryz.sizeOf372 O O) .nil) O (mB 1 O) ⟨⟨false,q2,o⟩,⟨z.l,z.b⟩,class_of e2 hff,O,O⟩
end Lp
namespace Lp
open Go
def Suf (p:PR->Pt×PR):Prop:=∀ s,(p s).2.l <:+s.l
theorem mS (s:PR) (c:Int):(s.take c).2.l <:+s.l:=by
 unfold PR.take;split
 · exact uO _
 exact d9 _
theorem mT (s:PR):s.any.2.l <:+s.l:=by
 unfold PR.any;cases e:s.l with
 | nil=>exact d9 _
 | cons y l=>exact List.suffix_cons y l
theorem mU (s:PR):s.member.2.l <:+s.l:=by
 unfold PR.member;split
 · exact(mT _).trans (mT _)
 exact mT _
theorem PR.item_suf (s:PR):s.item.2.l <:+s.l:=by
 unfold PR.item;simp only;split
 · exact((mU _).trans (mT _)).trans (mU _)
 exact mU _
theorem classF_suf (nt:Bool):∀ (f:Nat) (o:List RngD) (s:PR),(za9 nt f o s).2.l <:+s.l
 | 0,o,s=>d9 _
 | f+1,o,s=>by
  unfold za9;split
  · exact d9 _
  split
  · exact mS _ _
  split
  · exact d9 _
  exact(classF_suf nt f (o++[s.item.1]) ⟨s.item.2.l,s.item.2.b||decide (s.item.1.hi<s.item.1.lo)⟩).trans (PR.item_suf s)
theorem PR.cls_suf (s:PR):s.cls.2.l <:+s.l:=(classF_suf _ _ _ _).trans (mS _ _)
theorem mV (s:PR) (x:Pt):(s.times x).2.l <:+s.l:=by
 unfold PR.times;repeat' split
 all_goals first | exact mS _ _ | exact d9 _
theorem mW {alt:PR->Pt×PR} (ha:Suf alt) (s:PR):(s.atom alt).2.l <:+s.l:=by
 unfold PR.atom;simp only;split
 · split
   · exact(ha _).trans (mT _)
   exact((mS _ _).trans (ha _)).trans (mT _)
 split
 · exact(PR.cls_suf _).trans (mT _)
 split
 · exact mT _
 split
 · exact(mT _).trans (mT _)
 exact mT _
theorem partsF_suf {alt:PR->Pt×PR} (ha:Suf alt):∀ (f:Nat) (o:List Pt) (s:PR),(zaN alt f o s).2.l <:+s.l
 | 0,o,s=>d9 _
 | f+1,o,s=>by
  unfold zaN;split
  · exact d9 _
  exact((partsF_suf ha f _ _).trans (mV _ _)).trans (mW ha s)
theorem mX {alt:PR->Pt×PR} (ha:Suf alt) (s:PR):(s.parts alt).2.l <:+s.l:=partsF_suf ha _ _ _
theorem altsF_suf {alt:PR->Pt×PR} (ha:Suf alt):∀ (f:Nat) (o:List Pt) (s:PR),(zb3 alt f o s).2.l <:+s.l
 | 0,o,s=>d9 _
 | f+1,o,s=>by
  unfold zb3;split
  · exact((altsF_suf ha f _ _).trans (mX ha _)).trans (mS _ _)
  exact d9 _
theorem zdA:∀ f:Nat,Suf (altF f)
 | 0=>λs=>d9 _
 | f+1=>λs=>by
  unfold altF;simp only;exact(altsF_suf (zdA f) _ _ _).trans (mX (zdA f) s)
end Lp
