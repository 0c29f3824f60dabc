import Derived.Test.YtheccaeefigajaaGreatDoorV91
set_option linter.unusedVariables false
namespace Lp
open Go
mutual
def Pt.sz:Pt→Nat
 | .one _=>1
 | .row l=>Pt.szL l+1
 | .alt l=>Pt.szL l+1
 | .rep x _ _=>Pt.sz x+1
def Pt.szL:List Pt→Nat
 | []=>0
 | x::r=>Pt.sz x+Pt.szL r
end
mutual
def Pt.ok:Pt→Prop
 | .one _=>True
 | .row l=>Pt.okL l
 | .alt l=>l≠[]∧Pt.okL l
 | .rep x _ _=>Pt.ok x
def Pt.okL:List Pt→Prop
 | []=>True
 | x::r=>Pt.ok x∧Pt.okL r
end
theorem szL_app:∀ a b:List Pt,Pt.szL (a++b)=Pt.szL a+Pt.szL b
 | [],b=>by simp[Pt.szL]
 | x::a,b=>by simp only[List.cons_append,Pt.szL,szL_app a b];omega
theorem okL_app:∀ a b:List Pt,Pt.okL (a++b)↔Pt.okL a∧Pt.okL b
 | [],b=>by simp[Pt.okL]
 | x::a,b=>by simp only[List.cons_append,Pt.okL,okL_app a b];exact and_assoc.symm
theorem szL_one (x:Pt):Pt.szL [x]=x.sz:=by simp[Pt.szL]
theorem okL_one (x:Pt):Pt.okL [x]↔x.ok:=by simp[Pt.okL]
theorem sz_pos (x:Pt):1≤x.sz:=by cases x<;>simp[Pt.sz]
theorem szL_len:∀ l:List Pt,l.length≤Pt.szL l
 | []=>Nat.le_refl _
 | x::l=>by have:=szL_len l;have:=sz_pos x;simp only[Pt.szL,List.length_cons];omega
theorem szL_get:∀ {l:List Pt} {k:Nat} {x:Pt},l[k]?=some x→x.sz+Pt.szL (l.eraseIdx k)=Pt.szL l
 | [],k,x,h=>by simp at h
 | y::l,0,x,h=>by simp at h;subst h;simp[Pt.szL]
 | y::l,k+1,x,h=>by
  have:=szL_get (l:=l) (k:=k) (x:=x) (by simpa using h)
  simp only[List.eraseIdx_cons_succ,Pt.szL];omega
theorem szL_mem {l:List Pt} {k:Nat} {x:Pt} (h:l[k]?=some x):x.sz≤Pt.szL l:=by have:=szL_get h;omega
theorem okL_get:∀ {l:List Pt} {k:Nat} {x:Pt},Pt.okL l→l[k]?=some x→x.ok
 | [],k,x,_,h=>by simp at h
 | y::l,0,x,hk,h=>by simp at h;subst h;exact hk.1
 | y::l,k+1,x,hk,h=>okL_get (l:=l) (k:=k) hk.2 (by simpa using h)
theorem szL_take:∀ (l:List Pt) (k:Nat) {x:Pt},l[k]?=some x→Pt.szL (l.take (k+1))=Pt.szL (l.take k)+x.sz
 | [],k,x,h=>by simp at h
 | y::l,0,x,h=>by simp at h;subst h;simp[Pt.szL]
 | y::l,k+1,x,h=>by
  have:=szL_take l k (x:=x) (by simpa using h)
  simp only[List.take_succ_cons,Pt.szL,this];omega
theorem szL_drop:∀ (l:List Pt) (k:Nat) {x:Pt},l[k]?=some x→Pt.szL (l.drop k)=x.sz+Pt.szL (l.drop (k+1))
 | [],k,x,h=>by simp at h
 | y::l,0,x,h=>by simp at h;subst h;simp[Pt.szL]
 | y::l,k+1,x,h=>by
  have:=szL_drop l k (x:=x) (by simpa using h)
  simpa using this
def PSz (p:PR→Pt×PR):Prop:=∀ s,(p s).1.sz+3*(p s).2.l.length≤3*s.l.length+2∧(p s).1.ok
theorem atom_sz {s:PR} {alt:PR→Pt×PR} (ha:PSz alt) (h:s.l≠[]):(s.atom alt).1.sz+3*(s.atom alt).2.l.length+1≤3*s.l.length∧(s.atom alt).1.ok:=by
 have h1:=PR.any_lt h
 unfold PR.atom;simp only
 split
 · obtain ⟨h2,h2'⟩:=ha s.any.2
   have h3:=PR.take_le (alt s.any.2).2 41
   split
   · simp only;exact⟨by omega,h2'⟩
   · simp only;exact⟨by omega,h2'⟩
 · split
   · have:=PR.cls_le s.any.2;simp only[Pt.sz,Pt.ok];exact⟨by omega,trivial⟩
   · split
     · simp only[Pt.sz,Pt.ok];exact⟨by omega,trivial⟩
     · split
       · have:=PR.any_le s.any.2;simp only[Pt.sz,Pt.ok];exact⟨by omega,trivial⟩
       · simp only[Pt.sz,Pt.ok];exact⟨by omega,trivial⟩
theorem times_sz {s:PR} {x:Pt} (hx:x.ok):(s.times x).1.sz+3*(s.times x).2.l.length≤x.sz+3*s.l.length∧(s.times x).1.ok:=by
 unfold PR.times
 repeat' split
 all_goals first
  | (rename_i h;have:=PR.take_lt h;simp only[Pt.sz,Pt.ok];exact⟨by omega,hx⟩)
  | exact⟨Nat.le_refl _,hx⟩
theorem partsF_sz {alt:PR→Pt×PR} (ha:PSz alt):∀ (f:Nat) (o:List Pt) (s:PR),Pt.okL o→Pt.szL (zbd alt f o s).1+3*(zbd alt f o s).2.l.length≤Pt.szL o+3*s.l.length∧Pt.okL (zbd alt f o s).1
 | 0,o,s,ho=>⟨Nat.le_refl _,ho⟩
 | f+1,o,s,ho=>by
  unfold zbd
  split
  · exact⟨Nat.le_refl _,ho⟩
  · rename_i h
    have hne:s.l≠[]:=fun e=>h (Or.inr (by unfold PR.stop;rw[decide_eq_true e];rfl))
    obtain ⟨h1,h1'⟩:=atom_sz ha hne
    obtain ⟨h2,h2'⟩:=times_sz (s:=(s.atom alt).2) h1'
    obtain ⟨h3,h3'⟩:=partsF_sz ha f (o++[((s.atom alt).2.times (s.atom alt).1).1]) ((s.atom alt).2.times (s.atom alt).1).2 ((okL_app _ _).2 ⟨ho,(okL_one _).2 h2'⟩)
    rw[szL_app,szL_one] at h3
    exact⟨by simp only;omega,h3'⟩
theorem parts_sz {alt:PR→Pt×PR} (ha:PSz alt) (s:PR):(s.parts alt).1.sz+3*(s.parts alt).2.l.length≤3*s.l.length+1∧(s.parts alt).1.ok:=by
 obtain ⟨h,h'⟩:=partsF_sz ha (s.l.length+1) [] s trivial
 unfold PR.parts
 simp only[Pt.sz,Pt.ok]
 exact⟨by simp only[Pt.szL] at h;omega,h'⟩
theorem altsF_sz {alt:PR→Pt×PR} (ha:PSz alt):∀ (f:Nat) (o:List Pt) (s:PR),Pt.okL o→Pt.szL (zcg alt f o s).1+3*(zcg alt f o s).2.l.length≤Pt.szL o+3*s.l.length∧Pt.okL (zcg alt f o s).1∧(o≠[]→(zcg alt f o s).1≠[])
 | 0,o,s,ho=>⟨Nat.le_refl _,ho,fun h=>h⟩
 | f+1,o,s,ho=>by
  unfold zcg
  split
  · rename_i h
    have h1:=PR.take_lt h
    obtain ⟨h2,h2'⟩:=parts_sz ha (s.take 124).2
    obtain ⟨h3,h3',h3''⟩:=altsF_sz ha f (o++[((s.take 124).2.parts alt).1]) ((s.take 124).2.parts alt).2 ((okL_app _ _).2 ⟨ho,(okL_one _).2 h2'⟩)
    rw[szL_app,szL_one] at h3
    exact⟨by simp only;omega,h3',fun _=>h3'' (by simp)⟩
  · exact⟨Nat.le_refl _,ho,fun h=>h⟩
theorem altF_sz:∀ f:Nat,PSz (altF f)
 | 0=>fun s=>by unfold altF;simp only[Pt.sz,Pt.szL,Pt.ok];exact⟨by omega,trivial⟩
 | f+1=>fun s=>by
  unfold altF;simp only
  obtain ⟨h1,h1'⟩:=parts_sz (altF_sz f) s
  obtain ⟨h2,h2',h2''⟩:=altsF_sz (altF_sz f) ((s.parts (altF f)).2.l.length+1) [(s.parts (altF f)).1] (s.parts (altF f)).2 ((okL_one _).2 h1')
  rw[szL_one] at h2
  simp only[Pt.sz,Pt.ok]
  exact⟨by omega,h2'' (by simp),h2'⟩
end Lp
set_option linter.unusedSimpArgs false
set_option linter.unusedVariables false
set_option maxHeartbeats 4000000
set_option maxRecDepth 100000
namespace Lp
open Go Go.RowKit Go.Proofs
namespace HdYtheccaeefigajaaGreatDoorV92
theorem bd_320:∀ w,((#[⟨"x",20,0,false, "", "leporello/pattern",0⟩,⟨"none",4,1,false, "", "leporello/pattern",16⟩,⟨"again",4,2,false, "", "leporello/pattern",17⟩]:Array Field).mapM fun f=>do pure (f.offset,←Go.sizeOf f.type):Sem (Array (Nat×Nat))).run Tryz.prog w=.ok ([(0,1),(1,1),(2,1)]:List (Nat×Nat)).toArray w:=fun _=>by kernel_rfl
theorem za4 (b o:Nat):∀ w,(Instr.fieldAt 298 (.pointer (some ⟨b,o,none⟩)) 0).run Tryz.prog w=.ok (.pointer (some ⟨b,o+0,none⟩)) w:=fun _=>by kernel_rfl
theorem zaG (b o:Nat):∀ w,(Instr.fieldAt 298 (.pointer (some ⟨b,o,none⟩)) 1).run Tryz.prog w=.ok (.pointer (some ⟨b,o+1,none⟩)) w:=fun _=>by kernel_rfl
end HdYtheccaeefigajaaGreatDoorV92
open HdYtheccaeefigajaaGreatDoorV92
def RngD.d (r:RngD):D:=.agg [.v (.int .i32 r.lo),.v (.int .i32 r.hi)]
def Pt.t:Pt→Nat
 | .one _=>315
 | .row _=>317
 | .alt _=>312
 | .rep _ _ _=>320
mutual
def Pt.y:Pt→D
 | .one s=>.agg [dB s.all,dB s.nt,.sh 2 (s.items.map RngD.d)]
 | .row l=>.agg [.sh 1 (Pt.ds l)]
 | .alt l=>.agg [.sh 1 (Pt.ds l)]
 | .rep x a b=>.agg [.ifc x.t (Pt.y x),dB a,dB b]
def Pt.ds:List Pt→List D
 | []=>[]
 | x::r=>.ifc x.t (Pt.y x)::Pt.ds r
end
def Pt.d (x:Pt):D:=.ifc x.t x.y
theorem Pt.ds_eq:∀ l:List Pt,Pt.ds l=l.map Pt.d
 | []=>rfl
 | x::r=>congrArg (Pt.d x::·) (Pt.ds_eq r)
theorem zdR {H:List Hp} (x:Pt):CellD H (Pt.d x):=CellD.ifc
abbrev PB (g:Nat) (s:PR):Hp:=.bx g 298 (.agg [.sh 1 (s.l.map (fun n=>D.v (.int .i32 n))),dB s.b])
theorem ia0 (b:Nat):∀ w,(Instr.indexAt 328 (.pointer (some ⟨b,0,none⟩)) (.int .i64 0)).run Tryz.prog w=.ok (.pointer (some ⟨b,0,none⟩)) w:=fun _=>by kernel_rfl
theorem ia1 (b:Nat):∀ w,(Instr.indexAt 328 (.pointer (some ⟨b,0,none⟩)) (.int .i64 1)).run Tryz.prog w=.ok (.pointer (some ⟨b,1,none⟩)) w:=fun _=>by kernel_rfl
section
variable {ty:TypeId} {K:Kd} {H:List Hp} {x y:Operand} {a b:Int} {g:Nat}
theorem p_arr1 (hx:opD K x=some (.v (.int .i32 a))):Pu Tryz.prog (.build 328 #[(0,x)]) ty K H (.agg [.v (.int .i32 a),.v (.int .i32 0)]):=
 ⟨fun ρ w F hk _ _=>e_build (qs:=#[(0,.int .i32 a)]) (by have e:ev ρ x=_:=hk.op hx;simp[e]) (v:=.agg #[.int .i32 a,.int .i32 0]) (fun w=>by kernel_rfl) ⟨rfl,[.int .i32 a,.int .i32 0],rfl,_,_,rfl,rfl,rfl,_,_,rfl,rfl,rfl,rfl⟩⟩
theorem p_arr2 (hx:opD K x=some (.v (.int .i32 a))) (hy:opD K y=some (.v (.int .i32 b))):Pu Tryz.prog (.build 328 #[(0,x),(1,y)]) ty K H (.agg [.v (.int .i32 a),.v (.int .i32 b)]):=
 ⟨fun ρ w F hk _ _=>e_build (qs:=#[(0,.int .i32 a),(1,.int .i32 b)]) (by have e:ev ρ x=_:=hk.op hx;have e':ev ρ y=_:=hk.op hy;simp[e,e']) (v:=.agg #[.int .i32 a,.int .i32 b]) (fun w=>by kernel_rfl) ⟨rfl,[.int .i32 a,.int .i32 b],rfl,_,_,rfl,rfl,rfl,_,_,rfl,rfl,rfl,rfl⟩⟩
theorem p_arrA0 (hx:opD K x=some (dP g 0)):Pu Tryz.prog (.indexAddr 328 x (.const (.int .i64 0))) ty K H (dP g 0):=
 ⟨fun ρ w F hk _ _=>by
  have e:ev ρ x=_:=hk.op hx
  refine EOp.of_run (v:=.pointer (some ⟨g,0,none⟩)) (w':=w) ?_ ⟨rfl,J⟩
  have:=zbw (ia0 g w)
  simpa [execOp,zas,e,show ev ρ (.const (.int .i64 0))=.int .i64 0 from rfl] using this⟩
theorem p_arrA1 (hx:opD K x=some (dP g 0)):Pu Tryz.prog (.indexAddr 328 x (.const (.int .i64 1))) ty K H (dP g 1):=
 ⟨fun ρ w F hk _ _=>by
  have e:ev ρ x=_:=hk.op hx
  refine EOp.of_run (v:=.pointer (some ⟨g,1,none⟩)) (w':=w) ?_ ⟨rfl,J⟩
  have:=zbw (ia1 g w)
  simpa [execOp,zas,e,show ev ρ (.const (.int .i64 1))=.int .i64 1 from rfl] using this⟩
end
def ROk (l:List Int):Prop:=∀ c∈l,0≤c∧c<1114112
theorem ROk.suf {l m:List Int} (h:ROk l) (k:m <:+l):ROk m:=fun x hx=>h x (k.subset hx)
section
variable {s s' s1 s2 s3 s4:PR} {c c' a:Int} {q:Bool}
theorem ptail_td (l:List Int):(l.take l.length).drop 1=l.tail:=by rw[List.take_length,List.drop_one]
theorem pnext_0 (h:s.l.length=0):(0:Int)=s.any.1∧decide (0<s.l.length)=false:=by
 have e:=List.length_eq_zero_iff.1 h;unfold PR.any;rw[e];exact⟨rfl,J⟩
theorem pnext_x {x:Int} (h:s.l[0]?=some x):x=s.any.1∧decide (0<s.l.length)=true:=by
 unfold PR.any
 cases e:s.l with
 | nil=>rw[e] at h;cases h
 | cons y l=>rw[e] at h;injection h with h;exact⟨h.symm,by simp⟩
theorem pany_bd (h:ROk s.l):0≤s.any.1∧s.any.1<1114112:=by
 unfold PR.any
 cases e:s.l with
 | nil=>exact⟨by show (0:Int)≤0;omega,by show (0:Int)<_;omega⟩
 | cons y l=>exact h y (by rw[e];exact List.mem_cons_self)
theorem zdG:s.has c=true↔0<s.l.length∧s.any.1=c:=by
 unfold PR.has PR.any
 cases e:s.l with
 | nil=>simp
 | cons y l=>simp
theorem ptake_no (h:s.l.length=0∨s.any.1≠c):(false,s)=s.take c:=by
 unfold PR.take;rw[if_neg];rw[zdG];omega
theorem ptake_ok (h0:0<s.l.length) (h:s.any.1=c):(true,(⟨(s.l.take s.l.length).drop 1,s.b⟩:PR))=s.take c:=by
 unfold PR.take;rw[if_pos (zdG.2 ⟨h0,h⟩),ptail_td]
theorem za5 (e:(q,s')=s.take c):s'.l <:+s.l∧s'.b=s.b∧(q=true→s'.l.length+1=s.l.length)∧q=s.has c:=by
 have h1:q=(s.take c).1:=congrArg Prod.fst e
 have h2:s'=(s.take c).2:=congrArg Prod.snd e
 rw[h1,h2]
 by_cases h:s.has c=true
 · have h3:=PR.take_lt h
   unfold PR.take at h3 ⊢;rw[if_pos h] at h3 ⊢;exact⟨List.tail_suffix _,rfl,fun _=>h3,h.symm⟩
 · unfold PR.take;rw[if_neg h];exact⟨List.suffix_refl _,rfl,(fun h=>by cases h),by simpa using h⟩
theorem pany_no (h:s.l.length=0):(0,(⟨s.l,true⟩:PR))=s.any:=by
 have e:=List.length_eq_zero_iff.1 h;unfold PR.any;rw[e]
theorem pany_ok (h:0<s.l.length):(s.any.1,(⟨(s.l.take s.l.length).drop 1,s.b⟩:PR))=s.any:=by
 rw[ptail_td];unfold PR.any
 cases e:s.l with
 | nil=>rw[e] at h;simp at h
 | cons y l=>rfl
theorem zdH:s.any.2.l <:+s.l:=by
 unfold PR.any
 cases e:s.l with
 | nil=>exact List.suffix_refl _
 | cons y l=>exact List.suffix_cons y l
theorem zex (e:(a,s')=s.any) (h:ROk s.l):s'.l <:+s.l∧(0≤a∧a<1114112)∧(0<s.l.length→s'.l.length+1=s.l.length):=by
 have h1:a=s.any.1:=congrArg Prod.fst e
 have h2:s'=s.any.2:=congrArg Prod.snd e
 rw[h1,h2]
 exact⟨zdH,pany_bd h,fun h0=>PR.any_lt (List.length_pos_iff.1 h0)⟩
theorem pmember_1 (e:(a,s1)=s.any) (ha:a=92) (e2:(c,s2)=s1.any):(c,s2)=s.member:=by unfold PR.member;rw[←e,if_pos ha,e2]
theorem pmember_0 (e:(a,s1)=s.any) (ha:¬a=92):(a,s1)=s.member:=by unfold PR.member;rw[←e,if_neg ha]
theorem pmember_e (e:(a,s')=s.member) (h:ROk s.l):s'.l <:+s.l∧(0≤a∧a<1114112)∧(0<s.l.length→s'.l.length+1≤s.l.length):=by
 have h1:a=s.member.1:=congrArg Prod.fst e
 have h2:s'=s.member.2:=congrArg Prod.snd e
 rw[h1,h2]
 refine⟨?_,?_,fun h0=>PR.member_lt (List.length_pos_iff.1 h0)⟩
 · unfold PR.member;split
   · exact zdH.trans zdH
   · exact zdH
 · unfold PR.member;split
   · exact pany_bd (h.suf zdH)
   · exact pany_bd h
end
theorem containsR_c (u:Int) (h0:0≤u) (h1:u<1114112):
 CD Tryz.prog 274 [] [.v (.string (⟨#[42,43,63,124,41,93]⟩:ByteArray)),.v (.int .i32 u)] (isR (dB (sgnN.any (fun x=>decide (x=u))))):=by
 refine zp Tryz.func274 J (N:=9) J J (fun C=>?_)
 refine jk [0,1] J (jT J (oR 1 J (oZ J (jT J (oR 2 J (oE J (zm [] [] [] J J (.cons ArgC.id (.cons ArgC.id .nil)) zg Tryz.call276 (indexRune_c u h0 h1) (.inl J)) ?_))))))
 rintro _ _ ⟨_,⟨⟨i1,rfl,hi1⟩,rfl⟩,rfl⟩
 refine on J (oP J (zaw J J J) (oR 1 J (oZ J (zn J ?_))))
 exact zh Tryz.results274 (.cons (zx (zl J) (Cv.eq (congrArg (fun b=>D.v (.bool b)) (by exact hi1)))) .nil) rfl HSub.none ⟨rfl,rfl⟩
theorem pnext_c (g:Nat) (s:PR) (hl:s.l.length≤1000000) (hT:ROk s.l):
 CD Tryz.prog 269 [.bx g 298 (.agg [.sh 1 (s.l.map (fun n=>D.v (.int .i32 n))),dB s.b])] [dP g 0] (fun r H'=>r=.tup [.v (.int .i32 s.any.1),dB (decide (0<s.l.length))]∧H'=[PB g s]):=by
 refine zp Tryz.func269 J (N:=16) J J (fun C=>?_)
 refine jk [0] J (jT J (oR 2 J (oZ J (jS J (jT J (oR 2 J (oP J (zd J za4 J) (oP J (ze J (i:=0) J Tryz.isAgg130 J) (oP J (zbf (n:=s.l.length) J Tryz.runUnderlying130 (by simp only[lm,lc,ln])) (oP rfl (zD rfl rfl rfl) (oZ rfl ?_)))))))))))
 refine jD J (fun hc1=>?_) (fun hc1=>?_)
 · skip
   refine jT J (oR 2 J (oZ J (zn J (zk (pn J ?_)))))
   exact zh Tryz.results269 (.cons (zx (zl J) (Cv.eq (congrArg (fun n=>D.v (.int .i32 n)) (pnext_0 (by omega)).1))) (.cons (zx (zl rfl) (Cv.eq (congrArg dB (pnext_0 (by omega)).2.symm))) .nil)) rfl (HSub.fst 1 rfl) ⟨rfl,rfl⟩
 · skip
   refine zt J (zj (jT J (oR 2 J (oP J (zd J za4 J) (oP J (ze J (i:=0) J Tryz.isAgg130 J) ?_)))))
   obtain ⟨x1,hx1⟩:=zW s.l 0 (by omega)
   refine oP J (zI (k:=0) J J Tryz.runUnderlying130 Tryz.sizeOf21 (by first | rfl | omega) (zK hx1)) (oP rfl (zar rfl Tryz.isAgg21 rfl) (oR 2 rfl (oZ rfl (jk [2,3] rfl (zn rfl (pn rfl ?_))))))
   exact zh Tryz.results269 (.cons (zx (zl J) (Cv.eq (congrArg (fun n=>D.v (.int .i32 n)) (pnext_x hx1).1))) (.cons (zx (zl J) (Cv.eq (congrArg dB (pnext_x hx1).2.symm))) .nil)) J (HSub.fst 1 J) ⟨rfl,J⟩
theorem zdt (g:Nat) (s:PR) (want:Int) (hl:s.l.length≤1000000) (hT:ROk s.l):
 CD Tryz.prog 266 [.bx g 298 (.agg [.sh 1 (s.l.map (fun n=>D.v (.int .i32 n))),dB s.b])] [dP g 0,.v (.int .i32 want)] (fun r H'=>∃ q s',(q,s')=s.take want∧r=dB q∧H'=[PB g s']):=by
 refine zp Tryz.func266 J (N:=27) J J (fun C=>?_)
 refine jk [0,1] J (jT J (oR 1 J (oZ J (jS J (jT J (oR 1 J (oE J (zm [.bx g 298 (.agg [.sh 1 (s.l.map (fun n=>D.v (.int .i32 n))),dB s.b])] [] [] J J (.cons ArgC.id .nil) zg Tryz.call269 (pnext_c g s (by omega) hT) (.inl rfl)) ?_)))))))
 rintro _ _ ⟨_,⟨rfl,rfl⟩,rfl⟩
 refine on J (oR 5 J (oZ J (jS J (jk [0,1,4,5,6] J ?_))))
 refine zR 18 ((!decide (0<s.l.length)||decide (s.any.1≠want))) [.bx g 298 (.agg [.sh 1 (s.l.map (fun n=>D.v (.int .i32 n))),dB s.b])] (fun _ hQ2=>?_) ?_
 · skip
   by_cases hg3:0<s.l.length
   · skip
     refine JD.sub [(0,dP g 0),(1,.v (.int .i32 want)),(4,dB false),(5,.v (.int .i32 s.any.1)),(6,dB true)] ⟨sk J,sk J,sk J,sk J,se J (congrArg (fun b=>D.v (.bool b)) (by simp[hg3])),trivial⟩ (zf rfl (oR 5 rfl (oG rfl (za2 rfl rfl rfl) (oR 1 rfl (zq rfl ?_)))))
     exact PD.sub ((18,dB (!decide (0<s.l.length)||decide (s.any.1≠want)))::[(0,dP g 0),(1,.v (.int .i32 want)),(4,dB false),(5,.v (.int .i32 s.any.1)),(6,dB (decide (0<s.l.length)))]) ⟨sc J (Cv.eq (congrArg (fun b=>D.v (.bool b)) (by first | (simp[hg3];done) | (simp_all;done)))),sk rfl,sk rfl,sk rfl,sk rfl,sc rfl (Cv.eq (congrArg (fun b=>D.v (.bool b)) (by simp[hg3]))),trivial⟩ hQ2
   · skip
     refine JD.sub [(0,dP g 0),(1,.v (.int .i32 want)),(4,dB false),(5,.v (.int .i32 s.any.1)),(6,dB false)] ⟨sk J,sk J,sk J,sk J,se J (congrArg (fun b=>D.v (.bool b)) (by simp[hg3])),trivial⟩ (zf rfl (oR 7 rfl (zq rfl ?_)))
     exact PD.sub ((18,dB (!decide (0<s.l.length)||decide (s.any.1≠want)))::[(0,dP g 0),(1,.v (.int .i32 want)),(4,dB false),(5,.v (.int .i32 s.any.1)),(6,dB (decide (0<s.l.length)))]) ⟨sc J (Cv.eq (congrArg (fun b=>D.v (.bool b)) (by first | (simp[hg3];done) | (simp_all;done)))),sk rfl,sk rfl,sk rfl,sk rfl,sc rfl (Cv.eq (congrArg (fun b=>D.v (.bool b)) (by simp[hg3]))),trivial⟩ hQ2
 · skip
   refine zj ?_
   refine jC J (fun hc4=>?_) (fun hc4=>?_)
   · simp only[bA,bB,bC,bD,bE,bF,bG,bH,bI,bJ] at hc4
     have hno:s.l.length=0∨s.any.1≠want:=by have h:=hc4;omega
     refine jT J (oR 1 J (oZ J (zn J (zk (pn J ?_)))))
     exact zh Tryz.results266 (.cons (zl J) .nil) J (HSub.fst 1 J) ⟨_,⟨s.l,s.b⟩,ptake_no hno,J,J⟩
   · simp only[bA,bB,bC,bD,bE,bF,bG,bH,bI,bJ] at hc4
     have hyes:0<s.l.length∧s.any.1=want:=by have h:=hc4;omega
     refine zt J (zj (jT J (oR 3 J (oP J (zd J za4 J) (oP J (ze J (i:=0) J Tryz.isAgg130 J) (oP J ((zd7 (a:=1) (b:=s.l.length) J J J (by first | rfl | (show _=_;(try simp only[lm]);omega) | exact List.length_map _) (by first | rfl | (show _=_;(try simp only[lm]);omega) | exact List.length_map _) Tryz.runUnderlying130 Tryz.sizeOf21 (by omega) (by simp only[lm];omega)).cv (Cv.eq (by rw[←List.map_take,←List.map_drop]))) (oR 1 rfl (oP rfl (zd rfl za4 rfl) (oE rfl (zi (i:=0) (X':=.agg [.sh 1 (((s.l.take s.l.length).drop 1).map (fun n=>D.v (.int .i32 n))),dB s.b]) rfl rfl rfl (CellD.sh) Tryz.sizeOf130 rfl rfl rfl) ?_)))))))))
     rintro _ _ ⟨rfl,rfl⟩
     refine on J (oZ J (jk [4] J (jT J (oR 1 J (oZ J (zn J (pn J ?_)))))))
     exact zh Tryz.results266 (.cons (zl J) .nil) J (HSub.fst 1 J) ⟨_,⟨((s.l.take s.l.length).drop 1),s.b⟩,ptake_ok hyes.1 hyes.2,J,J⟩
theorem zey (g:Nat) (s:PR) (hl:s.l.length≤1000000) (hT:ROk s.l):
 CD Tryz.prog 272 [.bx g 298 (.agg [.sh 1 (s.l.map (fun n=>D.v (.int .i32 n))),dB s.b])] [dP g 0] (fun r H'=>∃ c s',(c,s')=s.any∧r=.v (.int .i32 c)∧H'=[PB g s']):=by
 refine zp Tryz.func272 J (N:=24) J J (fun C=>?_)
 refine jk [0] J (jT J (oR 1 J (oZ J (jT J (oR 1 J (oE J (zm [.bx g 298 (.agg [.sh 1 (s.l.map (fun n=>D.v (.int .i32 n))),dB s.b])] [] [] J J (.cons ArgC.id .nil) zg Tryz.call269 (pnext_c g s (by omega) hT) (.inl rfl)) ?_))))))
 rintro _ _ ⟨_,⟨rfl,rfl⟩,rfl⟩
 refine on J (oR 5 J (oZ J (jS J (jT J (oR 1 J (oP J (zaZ J) (oZ J ?_)))))))
 refine jC J (fun hc2=>?_) (fun hc2=>?_)
 · replace hc2:=of_decide_eq_false (p:=0<s.l.length) (by simpa using hc2)
   have hz:s.l.length=0:=by have h:=hc2;first | omega | (simp at h;omega)
   refine jT J (oR 2 J (oP J (zd J zaG J) (oE J (zi (i:=0) (X':=.agg [.sh 1 (s.l.map (fun n=>D.v (.int .i32 n))),dB true]) J J J (CellD.v J) Tryz.sizeOf4 J J J) ?_)))
   rintro _ _ ⟨rfl,rfl⟩
   refine on J (oZ J (jk [0,2,3] J (jT J (oR 1 J (oZ J (zn J (zk (pn J ?_))))))))
   exact zh Tryz.results272 (.cons (zl J) .nil) J (HSub.fst 1 J) ⟨_,⟨s.l,true⟩,pany_no hz,J,J⟩
 · replace hc2:=of_decide_eq_true (p:=0<s.l.length) (by simpa using hc2)
   have hz:0<s.l.length:=by have h:=hc2;first | omega | (simp at h;omega)
   refine zt J (zj (jT J (oR 3 J (oP J (zd J za4 J) (oP J (ze J (i:=0) J Tryz.isAgg130 J) (oP J ((zd7 (a:=1) (b:=s.l.length) J J J (by first | rfl | (show _=_;(try simp only[lm]);omega) | exact List.length_map _) (by first | rfl | (show _=_;(try simp only[lm]);omega) | exact List.length_map _) Tryz.runUnderlying130 Tryz.sizeOf21 (by omega) (by simp only[lm];omega)).cv (Cv.eq (by rw[←List.map_take,←List.map_drop]))) (oR 1 rfl (oP rfl (zd rfl za4 rfl) (oE rfl (zi (i:=0) (X':=.agg [.sh 1 (((s.l.take s.l.length).drop 1).map (fun n=>D.v (.int .i32 n))),dB s.b]) rfl rfl rfl (CellD.sh) Tryz.sizeOf130 rfl rfl rfl) ?_)))))))))
   rintro _ _ ⟨rfl,rfl⟩
   refine on J (oZ J (jk [2,3] J (jT J (oR 2 J (oZ J (zn J (pn J ?_)))))))
   exact zh Tryz.results272 (.cons (zl J) .nil) J (HSub.fst 1 J) ⟨_,⟨((s.l.take s.l.length).drop 1),s.b⟩,pany_ok hz,J,J⟩
theorem pmember_c (g:Nat) (s:PR) (hl:s.l.length≤1000000) (hT:ROk s.l):
 CD Tryz.prog 275 [.bx g 298 (.agg [.sh 1 (s.l.map (fun n=>D.v (.int .i32 n))),dB s.b])] [dP g 0] (fun r H'=>∃ c s',(c,s')=s.member∧r=.v (.int .i32 c)∧H'=[PB g s']):=by
 refine zp Tryz.func275 J (N:=11) J J (fun C=>?_)
 refine jk [0] J (jT J (oR 1 J (oZ J (jT J (oR 1 J (oE J (zm [.bx g 298 (.agg [.sh 1 (s.l.map (fun n=>D.v (.int .i32 n))),dB s.b])] [] [] J J (.cons ArgC.id .nil) zg Tryz.call272 (zey g s (by omega) hT) (.inl rfl)) ?_))))))
 rintro _ _ ⟨_,⟨c1,s1,e1,rfl,rfl⟩,rfl⟩
 obtain ⟨kl1,kb1,kc1⟩:=zex e1 hT
 have hT1:=hT.suf kl1
 have kd1:=kl1.length_le
 refine on J (oR 1 J (oZ J (jS J (jT J (oR 1 J (oP J (zD J J J) (oZ J ?_)))))))
 refine jD J (fun hc2=>?_) (fun hc2=>?_)
 · skip
   refine jT J (oR 1 J (oE J (zm [.bx g 298 (.agg [.sh 1 (s1.l.map (fun n=>D.v (.int .i32 n))),dB s1.b])] [] [] J J (.cons ArgC.id .nil) zg Tryz.call272 (zey g s1 (by omega) hT1) (.inl rfl)) ?_))
   rintro _ _ ⟨_,⟨c3,s3,e3,rfl,rfl⟩,rfl⟩
   obtain ⟨kl3,kb3,kc3⟩:=zex e3 hT1
   have hT3:=hT1.suf kl3
   have kd3:=kl3.length_le
   refine on J (oR 1 J (oZ J (zn J (zk (pn J ?_)))))
   exact zh Tryz.results275 (.cons (zl J) .nil) J (HSub.fst 1 J) ⟨_,⟨s3.l,s3.b⟩,pmember_1 e1 hc2 e3,J,J⟩
 · skip
   refine zt J (zj (jT J (oR 2 J (oZ J (zn J (pn J ?_))))))
   exact zh Tryz.results275 (.cons (zl J) .nil) J (HSub.fst 1 J) ⟨_,⟨s1.l,s1.b⟩,pmember_0 e1 hc2,J,J⟩
theorem ptimes_1 {s s1:PR} {x:Pt} {q:Bool} (e:(q,s1)=s.take 42) (h:q=true):(Pt.rep x true true,s1)=s.times x:=by
 have hh:=(za5 e).2.2.2.symm.trans h
 unfold PR.times;rw[if_pos hh,←e]
theorem ptimes_2 {s s1 s2:PR} {x:Pt} {q q':Bool} (e:(q,s1)=s.take 42) (h:¬q=true) (e2:(q',s2)=s1.take 43) (h2:q'=true):(Pt.rep x false true,s2)=s.times x:=by
 have hh:¬s.has 42=true:=fun k=>h ((za5 e).2.2.2.trans k)
 have es:s1=s:=by have h2:s1=(s.take 42).2:=congrArg Prod.snd e;rw[h2];unfold PR.take;rw[if_neg hh]
 subst es
 have hh2:=(za5 e2).2.2.2.symm.trans h2
 unfold PR.times;rw[if_neg hh,if_pos hh2,←e2]
theorem ptimes_3 {s s1 s2 s3:PR} {x:Pt} {q q' q'':Bool} (e:(q,s1)=s.take 42) (h:¬q=true) (e2:(q',s2)=s1.take 43) (h2:¬q'=true) (e3:(q'',s3)=s2.take 63):((if q''=true then Pt.rep x true false else x),s3)=s.times x:=by
 have hh:¬s.has 42=true:=fun k=>h ((za5 e).2.2.2.trans k)
 have es:s1=s:=by have h2:s1=(s.take 42).2:=congrArg Prod.snd e;rw[h2];unfold PR.take;rw[if_neg hh]
 subst es
 have hh2:¬s1.has 43=true:=fun k=>h2 ((za5 e2).2.2.2.trans k)
 have es:s2=s1:=by have h2:s2=(s1.take 43).2:=congrArg Prod.snd e2;rw[h2];unfold PR.take;rw[if_neg hh2]
 subst es
 have hq:=(za5 e3).2.2.2
 unfold PR.times;rw[if_neg hh,if_neg hh2,←e3]
 by_cases h3:q''=true
 · rw[if_pos h3,if_pos (hq.symm.trans h3)]
 · rw[if_neg h3,if_neg (fun k=>h3 (hq.trans k))]
   have h2:s3=(s2.take 63).2:=congrArg Prod.snd e3
   rw[h2];unfold PR.take;rw[if_neg (fun k=>h3 (hq.trans k))]
theorem ptimes_c (g:Nat) (s:PR) (x:Pt) (hl:s.l.length≤1000000) (hT:ROk s.l):
 CD Tryz.prog 270 [.bx g 298 (.agg [.sh 1 (s.l.map (fun n=>D.v (.int .i32 n))),dB s.b])] [dP g 0,Pt.d x] (fun r H'=>∃ y s',(y,s')=s.times x∧r=Pt.d y∧H'=[PB g s']):=by
 refine zp Tryz.func270 J (N:=24) J J (fun C=>?_)
 refine jk [0,1] J (jT J (oR 1 J (oZ J (jS J (jB J (jT J (oR 1 J (oE J (zm [.bx g 298 (.agg [.sh 1 (s.l.map (fun n=>D.v (.int .i32 n))),dB s.b])] [] [] J J (.cons ArgC.id (.cons ArgC.id .nil)) zg Tryz.call266 (zdt g s (42:Int) (by omega) hT) (.inl rfl)) ?_))))))))
 rintro _ _ ⟨_,⟨q1,s1,e1,rfl,rfl⟩,rfl⟩
 obtain ⟨kl1,kb1,kc1,ke1⟩:=za5 e1
 have hT1:=hT.suf kl1
 have kd1:=kl1.length_le
 refine on J (oR 1 J (oZ J ?_))
 refine jC J (fun hc2=>?_) (fun hc2=>?_)
 · skip
   refine jT J (oR 1 J (oP J (zJ [0,1,2] [.tmp 8,.const (.bool true),.const (.bool true)] (zv:=(.agg #[.nilIface,(.bool false),(.bool false)])) J J (.cons (zdR _) (.cons (CellD.v J) (.cons (CellD.v J) .nil))) (Tryz.runUnderlying320) Tryz.zeroValue320 bd_320 ⟨J,J,J,trivial⟩ J) (oP J (zZ J (fun _ _=>by kernel_rfl)) (oR 1 rfl (oZ rfl (zn rfl (zo (zk (pn rfl ?_)))))))))
   exact zh Tryz.results270 (.cons (zl J) .nil) J (HSub.fst 1 J) ⟨_,⟨s1.l,s1.b⟩,ptimes_1 e1 hc2,J,J⟩
 · skip
   refine jT J (oR 1 J (oE J (zm [.bx g 298 (.agg [.sh 1 (s1.l.map (fun n=>D.v (.int .i32 n))),dB s1.b])] [] [] J J (.cons ArgC.id (.cons ArgC.id .nil)) zg Tryz.call266 (zdt g s1 (43:Int) (by omega) hT1) (.inl rfl)) ?_))
   rintro _ _ ⟨_,⟨q3,s3,e3,rfl,rfl⟩,rfl⟩
   obtain ⟨kl3,kb3,kc3,ke3⟩:=za5 e3
   have hT3:=hT1.suf kl3
   have kd3:=kl3.length_le
   refine on J (oR 1 J (oZ J ?_))
   refine jC J (fun hc4=>?_) (fun hc4=>?_)
   · skip
     refine jT J (oR 1 J (oP J (zJ [0,1,2] [.tmp 14,.const (.bool false),.const (.bool true)] (zv:=(.agg #[.nilIface,(.bool false),(.bool false)])) J J (.cons (zdR _) (.cons (CellD.v J) (.cons (CellD.v J) .nil))) (Tryz.runUnderlying320) Tryz.zeroValue320 bd_320 ⟨J,J,J,trivial⟩ J) (oP J (zZ J (fun _ _=>by kernel_rfl)) (oR 1 rfl (oZ rfl (jk [1,4] rfl (zn rfl (zo (zk (pn rfl ?_))))))))))
     exact zh Tryz.results270 (.cons (zl J) .nil) J (HSub.fst 1 J) ⟨_,⟨s3.l,s3.b⟩,ptimes_2 e1 (by simpa using hc2) e3 hc4,rfl,rfl⟩
   · skip
     refine jT J (oR 1 J (oE J (zm [.bx g 298 (.agg [.sh 1 (s3.l.map (fun n=>D.v (.int .i32 n))),dB s3.b])] [] [] J J (.cons ArgC.id (.cons ArgC.id .nil)) zg Tryz.call266 (zdt g s3 (63:Int) (by omega) hT3) (.inl rfl)) ?_))
     rintro _ _ ⟨_,⟨q5,s5,e5,rfl,rfl⟩,rfl⟩
     obtain ⟨kl5,kb5,kc5,ke5⟩:=za5 e5
     have hT5:=hT3.suf kl5
     have kd5:=kl5.length_le
     refine on J (oR 1 J (oZ J (jk [1,4,17] J ?_)))
     refine jC J (fun hc6=>?_) (fun hc6=>?_)
     · skip
       refine jT J (oR 1 J (oP J (zJ [0,1,2] [.tmp 20,.const (.bool true),.const (.bool false)] (zv:=(.agg #[.nilIface,(.bool false),(.bool false)])) J J (.cons (zdR _) (.cons (CellD.v J) (.cons (CellD.v J) .nil))) (Tryz.runUnderlying320) Tryz.zeroValue320 bd_320 ⟨J,J,J,trivial⟩ J) (oP J (zZ J (fun _ _=>by kernel_rfl)) (oR 1 rfl (oZ rfl (zn rfl (zo (zk (pn rfl ?_)))))))))
       exact zh Tryz.results270 (.cons (zl J) .nil) J (HSub.fst 1 J) ⟨_,⟨s5.l,s5.b⟩,(by have h:=ptimes_3 (x:=x) e1 (by simpa using hc2) e3 (by simpa using hc4) e5;rw[if_pos hc6] at h;exact h),rfl,rfl⟩
     · skip
       refine zt J (zB (zj (jT J (oR 2 J (oZ J (zn J (pn J ?_)))))))
       exact zh Tryz.results270 (.cons (zl J) .nil) J (HSub.fst 1 J) ⟨_,⟨s5.l,s5.b⟩,(by have h:=ptimes_3 (x:=x) e1 (by simpa using hc2) e3 (by simpa using hc4) e5;rw[if_neg (by simpa using hc6)] at h;exact h),rfl,rfl⟩
end Lp
