import Derived.Test.YtheccaeefigajaaGreatDoorPLoc2
set_option linter.unusedVariables false
namespace Lp
open Go
def Rd.is7 (s:Rd) (k:Int) (t:ByteArray):Bool:=!s.b&&s.is k [t]
def Rd.tl (s:Rd):Rd:=⟨s.l.tail,s.n,s.b⟩
def Rd.bd (s:Rd) (b:Bool):Rd:=⟨s.l,s.n,s.b||b⟩
def Rd.node7 (s:Rd):Rd:=⟨s.l,s.n+1,s.b⟩
def zal:Nat→List ByteArray→Rd→List ByteArray×Rd
 | 0,o,s=>(o,s)
 | f+1,o,s=>
  if s.b=true∨s.is7 5 zH=true then(o,s)
  else
   let t:=if 0<o.length then s.must zK else s
   zal f (o++[(t.any 1).1]) (t.any 1).2
def Rd.names7 (s:Rd):List ByteArray×Rd:=
 let r:=zal ((s.must zC).l.length+1) [] (s.must zC)
 (r.1,r.2.must zH)
def Rd.mode7 (s:Rd) (a b:ByteArray):Int×List ByteArray×Rd:=
 if s.is7 1 a=true∨s.is7 1 b=true then(if s.is7 1 b=true then 2 else 1,s.tl.names7) else(0,[],s)
def zbw (part:Rd→Nd×Rd) (signs:List ByteArray):Nat→Nd→Rd→Nd×Rd
 | 0,o,s=>(o,s)
 | f+1,o,s=>
  if s.b=true∨s.is 5 signs=false then(o,s)
  else
   let m:=s.tl.mode7 tOn zO
   let q:=part m.2.2
   zbw part signs f (.mk tBin s.pk.t 0 m.1 m.2.1 [] [o,q.1]) q.2.node7
def Rd.level7 (s:Rd) (part:Rd→Nd×Rd) (signs:List ByteArray):Nd×Rd:=zbw part signs ((part s).2.l.length+1) (part s).1 (part s).2
def z6:Nat→List MatD→Rd→List MatD×Rd
 | 0,o,s=>(o,s)
 | f+1,o,s=>
  if s.b=true∨s.is7 5 zak=true then(o,s)
  else
   let t:=if 0<o.length then s.must zK else s
   let a:=t.any 1
   let c:=a.2.any 5
   let v:=(c.2.bd (decide (opM c.1=0))).any 3
   z6 f (o++[⟨a.1,opM c.1,v.1⟩]) v.2
section
variable (rm:List MatD→Bool)
def Rd.selName7 (s:Rd):ByteArray×Rd:=if 0<s.l.length∧s.pk.k=1∧zdc s.pk.t=false then s.any 1 else(ByteArray.empty,s)
def Rd.selMs7 (s:Rd) (text:ByteArray):List MatD×Rd:=
 if s.is7 5 zbb=true then
  let r:=z6 ((s.must zbb).l.length+1) [] (s.must zbb)
  (r.1,r.2.must zak)
 else([],s.bd (decide (text=ByteArray.empty)))
def Rd.selWin7 (s:Rd):Int×Rd:=if s.is7 5 tSq=true then(((s.must tSq).number 4).1,((s.must tSq).number 4).2.must tSqE) else(0,s)
def Rd.sel7 (s:Rd):Nd×Rd:=
 let a:=s.selName7
 let m:=a.2.selMs7 a.1
 let w:=m.2.selWin7
 (.mk nSel a.1 w.1 0 [] m.1 [],(w.2.bd (!rm m.1)).node7)
def Rd.aggr7 (s:Rd) (ex:Rd→Nd×Rd):Nd×Rd:=
 let a:=s.any 1
 let m:=a.2.mode7 tBy zL
 let p:=m.2.2.must zC
 let k:=if zar a.1=true then(p.number 2) else(0,p)
 let p2:=if zar a.1=true then k.2.must zK else k.2
 let q:=ex p2
 (.mk tAgg a.1 k.1 m.1 m.2.1 [] [q.1],(q.2.must zH).node7)
def Rd.prim7 (s:Rd) (ex:Rd→Nd×Rd):Nd×Rd:=
 if s.b=true∨s.l.length=0 then(noNd,s.bd true)
 else if s.pk.k=2 then(.mk tNum ByteArray.empty (numV s.pk.t) 0 [] [] [],s.tl.node7)
 else if s.is7 5 zC=true then((ex (s.must zC)).1,(ex (s.must zC)).2.must zH)
 else if s.pk.k=1∧hasN aggN s.pk.t=true then s.aggr7 ex
 else if s.pk.k=1∧hasN fnN s.pk.t=true then
  let q:=ex (s.tl.must zC)
  (.mk tFn s.pk.t 0 0 [] [] [q.1],(q.2.must zH).node7)
 else s.sel7 rm
def zaV (ex:Rd→Nd×Rd):Nat→Rd→Nd×Rd
 | 0,s=>(noNd,s)
 | f+1,s=>
  if s.is7 5 zaE=true then
   let q:=zaV ex f s.tl
   (.mk tNeg ByteArray.empty 0 0 [] [] [q.1],q.2.node7)
  else s.prim7 rm ex
def prod7 (ex:Rd→Nd×Rd) (s:Rd):Nd×Rd:=s.level7 (fun s=>zaV rm ex (s.l.length+1) s) [zbO,zex,tMod]
def sum7 (ex:Rd→Nd×Rd) (s:Rd):Nd×Rd:=s.level7 (prod7 rm ex) [zda,zaE]
def zd9:Nat→Rd→Nd×Rd
 | 0,s=>(noNd,s)
 | f+1,s=>s.level7 (sum7 rm (zd9 f)) [tEqq,tNe,tLt,tLe,tGt,tGe]
end
def Rd.order7 (s:Rd):Int×Rd:=
 if s.is7 1 zbV=true then
  let a:=s.tl.any 1
  if a.1=tAsc then(1,a.2) else if a.1=zdo then(2,a.2) else(0,a.2.bd true)
 else(0,s)
def Rd.bound7 (s:Rd) (w:ByteArray):Int×Rd:=if s.is7 1 w=true then s.tl.number 2 else(-1,s)
def parse7 (rm:List MatD→Bool) (l:List TokD):Option QryD:=
 let e:=zd9 rm (l.length+1) ⟨l,0,false⟩
 let o:=e.2.order7
 let a:=o.2.bound7 zcX
 let b:=a.2.bound7 zcr
 if b.2.b=true∨0<b.2.l.length∨200<b.2.n∨2000<a.1∨2000<b.1 then none else some ⟨e.1,o.1,a.1,b.1⟩
structure Sk (c:Int) (s t:Rd):Prop where
 p:Stp c s t
 b:s.b=true→t.b=true
section
variable {s t u:Rd} {c d:Int} {k:Int} {x y:ByteArray} {ts:List ByteArray}
theorem Sk.rfl' (s:Rd):Sk 0 s s:=⟨Stp.rfl' s,id⟩
theorem Sk.trans (h:Sk c s t) (k:Sk d t u):Sk (c+d) s u:=⟨h.p.trans k.p,fun e=>k.b (h.b e)⟩
theorem Sk.le (h:Sk c s t) (e:c≤d):Sk d s t:=⟨h.p.le e,h.b⟩
theorem zap:Sk 0 s (s.must x):=⟨zP s x,zaM⟩
theorem zcH:Sk 0 s (s.any k).2:=⟨zcu s k,zcD⟩
theorem zer {b:Bool}:Sk 0 s (s.bd b):=⟨(Stp.rfl' s).bad _,fun e=>by show (s.b||b)=true;rw[e];rfl⟩
theorem zaD:Sk 1 s s.node7:=⟨⟨List.suffix_refl _,by unfold Rd.w Rd.node7;simp only;omega,by unfold Rd.node7;simp only;omega⟩,id⟩
theorem zfe:Sk 0 s s.tl:=⟨⟨List.tail_suffix _,by unfold Rd.w Rd.tl;simp only[List.length_tail];omega,Int.le_refl _⟩,id⟩
theorem zdg (h:s.l≠[]):Sk (-2) s s.tl∧s.tl.l.length+1=s.l.length:=by
 have hl:=tail_len h
 exact⟨⟨⟨List.tail_suffix _,by unfold Rd.w Rd.tl;simp only;omega,Int.le_refl _⟩,id⟩,hl⟩
theorem is7_ne (hk:k≠0) (h:s.is7 k x=true):s.l≠[]∧s.b=false:=by
 unfold Rd.is7 at h
 simp only[Bool.and_eq_true,Bool.not_eq_true'] at h
 exact⟨zeR hk h.2,h.1⟩
theorem namesF7_sk:∀ (f:Nat) (o:List ByteArray) (s:Rd),Sk 0 s (zal f o s).2
 | 0,o,s=>Sk.rfl' s
 | f+1,o,s=>by
  unfold zal
  split
  · exact Sk.rfl' s
  · simp only
    have h1:Sk 0 s (if 0<o.length then s.must zK else s):=by split;exact zap;exact Sk.rfl' s
    exact((h1.trans zcH).trans (namesF7_sk f _ _)).le (by omega)
theorem names7_sk:Sk 0 s s.names7.2:=by
 unfold Rd.names7;exact((zap.trans (namesF7_sk _ _ _)).trans zap).le (by omega)
theorem mode7_sk:Sk 0 s (s.mode7 x y).2.2:=by
 unfold Rd.mode7;split
 · exact(zfe.trans names7_sk).le (by omega)
 · exact Sk.rfl' s
theorem zco {part:Rd→Nd×Rd} {signs:List ByteArray} (hp:∀ s,Sk 1 s (part s).2):∀ (f:Nat) (o:Nd) (s:Rd),Sk 0 s (zbw part signs f o s).2
 | 0,o,s=>Sk.rfl' s
 | f+1,o,s=>by
  unfold zbw
  split
  · exact Sk.rfl' s
  · rename_i h
    have hi:s.is 5 signs=true:=by
     cases e:s.is 5 signs with
     | true=>rfl
     | false=>exact absurd (.inr e) h
    have h1:=(zdg (zeR (by decide) hi)).1
    exact((((h1.trans mode7_sk).trans (hp _)).trans zaD).trans (zco hp f _ _)).le (by omega)
theorem level7_sk {part:Rd→Nd×Rd} (hp:∀ s,Sk 1 s (part s).2) (signs:List ByteArray) (s:Rd):Sk 1 s (s.level7 part signs).2:=((hp s).trans (zco hp _ _ _)).le (by omega)
theorem bracesF7_sk:∀ (f:Nat) (o:List MatD) (s:Rd),Sk 0 s (z6 f o s).2
 | 0,o,s=>Sk.rfl' s
 | f+1,o,s=>by
  unfold z6
  split
  · exact Sk.rfl' s
  · simp only
    have h1:Sk 0 s (if 0<o.length then s.must zK else s):=by split;exact zap;exact Sk.rfl' s
    exact(((((h1.trans zcH).trans zcH).trans zer).trans zcH).trans (bracesF7_sk f _ _)).le (by omega)
theorem selName7_sk:Sk 0 s s.selName7.2:=by unfold Rd.selName7;split;exact zcH;exact Sk.rfl' s
theorem selMs7_sk:Sk 0 s (s.selMs7 x).2:=by
 unfold Rd.selMs7;split
 · exact((zap.trans (bracesF7_sk _ _ _)).trans zap).le (by omega)
 · exact zer
theorem selWin7_sk:Sk 0 s s.selWin7.2:=by
 unfold Rd.selWin7;split
 · exact((zap.trans (t:=s.must tSq) zcH).trans zap).le (by omega)
 · exact Sk.rfl' s
variable {rm:List MatD→Bool}
theorem sel7_sk (s:Rd):Sk 1 s (s.sel7 rm).2:=((((selName7_sk.trans selMs7_sk).trans selWin7_sk).trans zer).trans zaD).le (by omega)
theorem aggr7_sk {ex:Rd→Nd×Rd} (hp:∀ s,Sk 1 s (ex s).2) (h:s.is7 5 zC=false) (hb:s.b=false) (hk:s.pk.k=1):Sk 1 s (s.aggr7 ex).2:=by
 have h0:Sk (-2) s (s.any 1).2:=⟨(zeF (by decide) hb hk).2.1,zcD⟩
 have h2:=(h0.trans (mode7_sk (x:=tBy) (y:=zL))).trans (zap (x:=zC))
 unfold Rd.aggr7
 simp only
 split
 · exact(((((h2.trans (zcH (k:=2))).trans (zap (x:=zK))).trans (hp _)).trans zap).trans zaD).le (by omega)
 · exact(((h2.trans (hp _)).trans zap).trans zaD).le (by omega)
theorem prim7_sk {ex:Rd→Nd×Rd} (hp:∀ s,Sk 1 s (ex s).2) (s:Rd):Sk 1 s (s.prim7 rm ex).2:=by
 unfold Rd.prim7
 split
 · exact zer.le (by omega)
 · rename_i hc
   have hb:s.b=false:=by
    cases e:s.b with
    | false=>rfl
    | true=>exact absurd (.inl e) hc
   split
   · exact(zfe.trans zaD).le (by omega)
   · split
     · exact((zap.trans (hp _)).trans zap).le (by omega)
     · rename_i ho
       split
       · rename_i h;exact aggr7_sk hp (by simpa using ho) hb h.1
       · split
         · rename_i h
           have h1:=(zdg (zfo (by decide) h.1)).1
           exact((((h1.trans zap).trans (hp _)).trans zap).trans zaD).le (by omega)
         · exact sel7_sk s
theorem zck {ex:Rd→Nd×Rd} (hp:∀ s,Sk 1 s (ex s).2):∀ (f:Nat) (s:Rd),Sk 1 s (zaV rm ex f s).2
 | 0,s=>(Sk.rfl' s).le (by omega)
 | f+1,s=>by
  unfold zaV
  split
  · rename_i h
    exact(((zdg (is7_ne (by decide) h).1).1.trans (zck hp f _)).trans zaD).le (by omega)
  · exact prim7_sk hp s
theorem prod7_sk {ex:Rd→Nd×Rd} (hp:∀ s,Sk 1 s (ex s).2) (s:Rd):Sk 1 s (prod7 rm ex s).2:=level7_sk (fun s=>zck hp _ s) _ s
theorem sum7_sk {ex:Rd→Nd×Rd} (hp:∀ s,Sk 1 s (ex s).2) (s:Rd):Sk 1 s (sum7 rm ex s).2:=level7_sk (fun s=>prod7_sk hp s) _ s
theorem zcp:∀ (f:Nat) (s:Rd),Sk 1 s (zd9 rm f s).2
 | 0,s=>(Sk.rfl' s).le (by omega)
 | f+1,s=>level7_sk (fun s=>sum7_sk (zcp f) s) _ s
end
end Lp
set_option linter.unusedVariables false
namespace Lp
open Go
section
variable {rm:List MatD→Bool}
theorem must_bad {t:Rd} {x:ByteArray} (h:t.is 5 [x]=false):(t.must x).b=true:=by
 unfold Rd.must;rw[za7 (.inr h)];simp
end
section
variable (rm:List MatD→Bool)
theorem zeD {s:Rd} {w:ByteArray} (h:s.b=true):(s.bound w).2.b=true:=by
 unfold Rd.bound;rw[zb5 h];simpa using h
theorem order_b {s:Rd} (h:s.b=true):s.order.2.b=true:=by
 unfold Rd.order;rw[zb5 h];simpa using h
end
end Lp
set_option linter.unusedVariables false
namespace Lp
open Go
abbrev tSp:ByteArray:=⟨#[32]⟩
theorem catz:(⟨#[32]⟩:ByteArray).size=1∧(⟨#[40]⟩:ByteArray).size=1∧(⟨#[41]⟩:ByteArray).size=1∧(⟨#[44]⟩:ByteArray).size=1∧(⟨#[123]⟩:ByteArray).size=1∧(⟨#[125]⟩:ByteArray).size=1∧(⟨#[91]⟩:ByteArray).size=1∧(⟨#[115,93]⟩:ByteArray).size=2∧(⟨#[45]⟩:ByteArray).size=1∧(⟨#[32,111,114,100,101,114,32,97,115,99]⟩:ByteArray).size=10∧(⟨#[32,111,114,100,101,114,32,100,101,115,99]⟩:ByteArray).size=11∧(⟨#[32,108,105,109,105,116,32]⟩:ByteArray).size=7∧(⟨#[32,111,102,102,115,101,116,32]⟩:ByteArray).size=8:=⟨rfl,rfl,rfl,rfl,rfl,rfl,rfl,rfl,rfl,rfl,rfl,rfl,rfl⟩
def namP (l:List ByteArray):ByteArray:=zC++joinB zK l++zH
def wordP (mode:Int) (a b:ByteArray):ByteArray:=if mode=1 then a else b
def binP (text:ByteArray) (mode:Int) (names:List ByteArray) (a b:ByteArray):ByteArray:=
 if mode=0 then a++tSp++text++tSp++b else a++tSp++text++tSp++(wordP mode tOn zO++namP names++tSp)++b
section
variable {text:ByteArray} {n:Nat} {mode:Int} {names:List ByteArray} {ms:List MatD} {x y:Nd}
end
theorem digB_le {n:Nat} (h:n≤1000000000000):(digB n).size≤20:=(by unfold digB;rw[zM];have:=digL_13 h;omega)
end Lp
set_option linter.unusedVariables false
namespace Lp
open Go
def Bd (s:Rd):Prop:=s.b=true∨200<s.n
theorem Sk.bd {c:Int} {s t:Rd} (h:Sk c s t) (k:Bd s):Bd t:=k.imp h.b (fun e=>by have:=h.p.n;omega)
structure Sm {α:Type} (p r:α×Rd):Prop where
 g:p.2.b=false→r=p
 d:p.2.b=true→Bd r.2
theorem Sm.rfl' {α:Type} (p:α×Rd):Sm p p:=⟨fun _=>rfl,.inl⟩
theorem Sm.no {α:Type} {p r:α×Rd} (h:p.2.b=true) (k:Bd r.2):Sm p r:=⟨fun e=>(by rw[h] at e;cases e),fun _=>k⟩
section
variable {s t:Rd} {k:Int} {x y:ByteArray} {ts:List ByteArray}
theorem bf (h:¬s.b=true):s.b=false:=by simpa using h
theorem zbl (hb:s.b=false):s.is7 k x=s.is k [x]:=by unfold Rd.is7;rw[hb];rfl
theorem zby (hb:s.b=false) (hi:s.is k ts=true):s.take k ts=(s.pk.t,true,s.tl):=by unfold Rd.take;rw[if_neg (by rw[hb,hi];simp)];rfl
theorem zdx (hb:s.b=false) (hi:s.is 5 [x]=true):s.must x=s.tl:=by
 unfold Rd.must;rw[zby hb hi];simp only[Bool.not_true,Bool.or_false]
theorem zde (hb:s.b=false) (hk:s.pk.k=k):s.any k=(s.pk.t,s.tl):=by unfold Rd.any;rw[if_neg (by rw[hb,hk];simp)];rfl
theorem zfr (h:s.is k [x]=true):s.pk.t=x:=by
 unfold Rd.is hasN at h;simp at h;exact h.2.symm
theorem is_or {a b:ByteArray}:s.is k [a,b]=(s.is k [a]||s.is k [b]):=by
 unfold Rd.is hasN;simp only[List.any_cons,List.any_nil,Bool.or_false]
 cases decide (s.pk.k=k)<;>simp
theorem namesF7_b {F:Nat} {o:List ByteArray} (h:s.b=true):(zal F o s).2.b=true:=(namesF7_sk F o s).b h
theorem sm_namesF:∀ (F F':Nat) (o:List ByteArray) (s:Rd),s.b=false→s.l.length<F→s.l.length≤F'→Sm ((zaT F o s).1,(zaT F o s).2.must zH) ((zal F' (o++[(s.any 1).1]) (s.any 1).2).1,(zal F' (o++[(s.any 1).1]) (s.any 1).2).2.must zH)
 | 0,_,_,_,_,h,_=>absurd h (Nat.not_lt_zero _)
 | F+1,F',o,s,hb,hF,hF'=>by
  unfold zaT
  rw[if_neg (by rw[hb];decide)]
  by_cases ha:(s.any 1).2.b=true
  · rw[zb5 ha]
    exact Sm.no (zaM ha) (.inl (zaM (namesF7_b ha)))
  · have ha:=bf ha
    have hl:=any_len (s:=s) (by decide) ha
    obtain ⟨F',rfl⟩:∃ j,F'=j+1:=⟨F'-1,by omega⟩
    have hlo:0<(o++[(s.any 1).1]).length:=by simp
    by_cases hc:(s.any 1).2.is 5 [zH]=true
    · have hm:(s.any 1).2.is 5 [zK]=false:=by
       have:=zfr hc
       unfold Rd.is;rw[this];rw[show hasN [zK] zH=false by decide,Bool.and_false]
      rw[za7 (.inr hm),if_neg (by simp)]
      unfold zal
      rw[if_pos (.inr (by rw[zbl ha];exact hc))]
      exact Sm.rfl' _
    · have e7:zal (F'+1) (o++[(s.any 1).1]) (s.any 1).2=zal F' ((o++[(s.any 1).1])++[(((s.any 1).2.must zK).any 1).1]) (((s.any 1).2.must zK).any 1).2:=by
       conv=>lhs;unfold zal
       rw[if_neg (by rw[zbl ha,ha];simp only[Bool.false_eq_true,false_or];exact hc)]
       simp only[if_pos hlo]
      rw[e7]
      by_cases hm:(s.any 1).2.is 5 [zK]=true
      · rw[zby ha hm,if_pos rfl,zdx ha hm]
        have hl2:=(zdg (zeR (by decide) hm)).2
        exact sm_namesF F F' _ (s.any 1).2.tl ha (by omega) (by omega)
      · have hm:(s.any 1).2.is 5 [zK]=false:=by simpa using hm
        rw[za7 (.inr hm),if_neg (by simp)]
        refine Sm.no (must_bad (by simpa using hc)) (.inl (zaM (namesF7_b (zcD ?_))))
        exact must_bad hm
theorem sm_names (s:Rd) (hb:s.b=false):Sm s.names s.names7:=by
 unfold Rd.names Rd.names7
 simp only
 by_cases h1:(s.must zC).b=true
 · have hr:((zal ((s.must zC).l.length+1) [] (s.must zC)).2.must zH).b=true:=zaM (namesF7_b h1)
   split
   · exact Sm.no (zaM h1) (.inl hr)
   · exact Sm.no (zaM (namesF_b h1)) (.inl hr)
 · have h1:=bf h1
   by_cases hc:(s.must zC).is 5 [zH]=true
   · rw[if_pos hc]
     unfold zal
     rw[if_pos (.inr (by rw[zbl h1];exact hc))]
     exact Sm.rfl' _
   · rw[if_neg hc]
     have e:zal ((s.must zC).l.length+1) [] (s.must zC)=zal (s.must zC).l.length ([]++[((s.must zC).any 1).1]) ((s.must zC).any 1).2:=by
      conv=>lhs;unfold zal
      rw[if_neg (by rw[zbl h1,h1];simp only[Bool.false_eq_true,false_or];exact hc)]
      rfl
     rw[e]
     exact sm_namesF _ _ [] _ h1 (Nat.lt_succ_self _) (Nat.le_refl _)
theorem sm_mode (s:Rd) (hb:s.b=false) (hxy:x≠y):((s.mode x y).2.2.b=false→s.mode7 x y=s.mode x y)∧((s.mode x y).2.2.b=true→Bd (s.mode7 x y).2.2):=by
 unfold Rd.mode Rd.mode7
 rw[zbl hb,zbl hb]
 by_cases hi:s.is 1 [x,y]=true
 · have hor:s.is 1 [x]=true∨s.is 1 [y]=true:=by rw[is_or,Bool.or_eq_true] at hi;exact hi
   rw[zby hb hi,if_neg (by simp),if_pos hor]
   have hn:=sm_names s.tl hb
   by_cases ht:s.pk.t=x
   · have hy:¬s.is 1 [y]=true:=fun h=>hxy (ht.symm.trans (zfr h))
     rw[if_neg hy,if_pos (show (s.pk.t,true,s.tl).1=x from ht)]
     exact⟨fun e=>(by rw[hn.g e]),hn.d⟩
   · have hy:s.is 1 [y]=true:=by
      rw[is_or,Bool.or_eq_true] at hi
      rcases hi with h | h
      · exact absurd (zfr h) ht
      · exact h
     rw[if_pos hy,if_neg (show ¬(s.pk.t,true,s.tl).1=x from ht)]
     exact⟨fun e=>(by rw[hn.g e]),hn.d⟩
 · have hi:s.is 1 [x,y]=false:=by simpa using hi
   rw[za7 (.inr hi),if_pos rfl,if_neg (by rw[is_or,Bool.or_eq_false_iff] at hi;rw[hi.1,hi.2];simp)]
   exact⟨fun _=>rfl,.inl⟩
theorem node_go (hb:s.b=false) (hn:¬200<s.n+1):s.node=s.node7:=by
 unfold Rd.node Rd.node7;rw[hb,decide_eq_false hn];rfl
theorem node_bd (hn:200<s.n+1):s.node.b=true:=by unfold Rd.node;rw[decide_eq_true hn];simp
theorem sm_node {α β:Type} (z:β) {p r:α×Rd} (h:Sm p r):Sm (z,p.2.node) (z,r.2.node7):=by
 by_cases hb:p.2.b=true
 · exact Sm.no (zcn hb) (zaD.bd (h.d hb))
 · have hb:=bf hb
   rw[h.g hb]
   by_cases hn:200<p.2.n+1
   · exact Sm.no (node_bd hn) (.inr hn)
   · rw[node_go hb hn];exact Sm.rfl' _
end
def Al (m:Nat) (p r:Rd→Nd×Rd):Prop:=∀ s:Rd,s.b=false→s.l.length≤m→Sm (p s) (r s)
theorem sm_levelF {part part7:Rd→Nd×Rd} {ts:List ByteArray} {m:Nat} (hb:Bad part) (hs:∀ s,Stp 1 s (part s).2) (h7:∀ s,Sk 1 s (part7 s).2) (hp:Al m part part7):∀ (F F':Nat) (o:Nd) (s:Rd),s.b=false→s.l.length<F→s.l.length<F'→s.l.length≤m→Sm (za4 part ts F o s) (zbw part7 ts F' o s)
 | 0,_,_,_,_,h,_,_=>absurd h (Nat.not_lt_zero _)
 | _,0,_,_,_,_,h,_=>absurd h (Nat.not_lt_zero _)
 | F+1,F'+1,o,s,hsb,hF,hF',hm=>by
  unfold za4 zbw
  by_cases hi:s.is 5 ts=true
  · have hl2:=(zdg (zeR (by decide) hi)).2
    rw[zby hsb hi,if_neg (by simp),if_neg (by rw[hsb,hi];simp)]
    simp only
    obtain ⟨m1,m2⟩:=sm_mode (x:=tOn) (y:=zO) s.tl hsb (by decide)
    have k2:=(zc2 s.tl tOn zO).len
    by_cases hmb:(s.tl.mode tOn zO).2.2.b=true
    · exact Sm.no (zc3 (zcn (hb _ hmb))) ((zco h7 _ _ _).bd (zaD.bd ((h7 _).bd (m2 hmb))))
    · have hmb:=bf hmb
      rw[m1 hmb]
      have hq:=hp (s.tl.mode tOn zO).2.2 hmb (by omega)
      by_cases hqb:(part (s.tl.mode tOn zO).2.2).2.b=true
      · exact Sm.no (zc3 (zcn hqb)) ((zco h7 _ _ _).bd (zaD.bd (hq.d hqb)))
      · have hqb:=bf hqb
        rw[hq.g hqb]
        by_cases hn:200<(part (s.tl.mode tOn zO).2.2).2.n+1
        · exact Sm.no (zc3 (node_bd hn)) ((zco h7 _ _ _).bd (.inr hn))
        · rw[node_go hqb hn]
          have k3:=(hs (s.tl.mode tOn zO).2.2).len
          exact sm_levelF hb hs h7 hp F F' _ _ hqb (by show (part _).2.l.length<F;omega) (by show (part _).2.l.length<F';omega) (by show (part _).2.l.length≤m;omega)
  · have hi:s.is 5 ts=false:=by simpa using hi
    rw[za7 (.inr hi),if_pos rfl,if_pos (.inr hi)]
    exact Sm.rfl' _
theorem sm_level {part part7:Rd→Nd×Rd} {ts:List ByteArray} {m:Nat} (hb:Bad part) (hs:∀ s,Stp 1 s (part s).2) (h7:∀ s,Sk 1 s (part7 s).2) (hp:Al m part part7):Al m (fun s=>s.level part ts) (fun s=>s.level7 part7 ts):=fun s hsb hm=>by
 have h:=hp s hsb hm
 have k3:=(hs s).len
 simp only[Rd.level,Rd.level7]
 by_cases hpb:(part s).2.b=true
 · exact Sm.no (zc3 hpb) ((zco h7 _ _ _).bd (h.d hpb))
 · have hpb:=bf hpb
   rw[h.g hpb]
   exact sm_levelF hb hs h7 hp _ _ _ _ hpb (Nat.lt_succ_self _) (Nat.lt_succ_self _) (by omega)
def Rd.mat (s:Rd):MatD×Rd:=
 let a:=s.any 1
 let c:=a.2.take 5 [tEq,tNe,zcw,zaW]
 let v:=Rd.any ⟨c.2.2.l,c.2.2.n,c.2.2.b||!c.2.1⟩ 3
 (⟨a.1,opM c.1,v.1⟩,v.2)
def Rd.mat7 (s:Rd):MatD×Rd:=
 let a:=s.any 1
 let c:=a.2.any 5
 let v:=(c.2.bd (decide (opM c.1=0))).any 3
 (⟨a.1,opM c.1,v.1⟩,v.2)
theorem opM_0 {t:ByteArray}:opM t=0↔hasN [tEq,tNe,zcw,zaW] t=false:=by
 unfold opM hasN
 simp only[List.any_cons,List.any_nil,Bool.or_false,Bool.or_eq_false_iff,decide_eq_false_iff_not]
 by_cases a1:t=tEq
 · rw[if_pos a1];exact⟨fun h=>(by cases h),fun h=>absurd a1.symm h.1⟩
 · by_cases a2:t=tNe
   · rw[if_neg a1,if_pos a2];exact⟨fun h=>(by cases h),fun h=>absurd a2.symm h.2.1⟩
   · by_cases a3:t=zcw
     · rw[if_neg a1,if_neg a2,if_pos a3];exact⟨fun h=>(by cases h),fun h=>absurd a3.symm h.2.2.1⟩
     · by_cases a4:t=zaW
       · rw[if_neg a1,if_neg a2,if_neg a3,if_pos a4];exact⟨fun h=>(by cases h),fun h=>absurd a4.symm h.2.2.2⟩
       · rw[if_neg a1,if_neg a2,if_neg a3,if_neg a4]
         exact⟨fun _=>⟨fun e=>a1 e.symm,fun e=>a2 e.symm,fun e=>a3 e.symm,fun e=>a4 e.symm⟩,fun _=>rfl⟩
theorem mat_sm (s:Rd) (hb:s.b=false):(s.mat.2.b=false→s.mat7=s.mat)∧(s.mat.2.b=true→s.mat7.2.b=true):=by
 unfold Rd.mat Rd.mat7
 simp only
 by_cases ha:(s.any 1).2.b=true
 · rw[zb5 ha]
   have e1:(Rd.any ⟨(s.any 1).2.l,(s.any 1).2.n,(s.any 1).2.b||!false⟩ 3).2.b=true:=zcD (s:=⟨_,_,_⟩) (by simp)
   have e2:((((s.any 1).2.any 5).2.bd (decide (opM ((s.any 1).2.any 5).1=0))).any 3).2.b=true:=zcD (zer.b (zcD ha))
   exact⟨fun e=>(by rw[e1] at e;cases e),fun _=>e2⟩
 · have ha:=bf ha
   by_cases hi:(s.any 1).2.is 5 [tEq,tNe,zcw,zaW]=true
   · rw[zby ha hi,zde ha (is_k hi)]
     have h4:¬opM (s.any 1).2.pk.t=0:=fun e=>by
      have:=opM_0.1 e;unfold Rd.is at hi;rw[this,Bool.and_false] at hi;cases hi
     have e:(s.any 1).2.tl.bd (decide (opM (s.any 1).2.pk.t=0))=⟨(s.any 1).2.tl.l,(s.any 1).2.tl.n,(s.any 1).2.tl.b||!true⟩:=by unfold Rd.bd;rw[decide_eq_false h4];rfl
     rw[e]
     exact⟨fun _=>rfl,id⟩
   · have hi:(s.any 1).2.is 5 [tEq,tNe,zcw,zaW]=false:=by simpa using hi
     rw[za7 (.inr hi)]
     have e1:(Rd.any ⟨(s.any 1).2.l,(s.any 1).2.n,(s.any 1).2.b||!false⟩ 3).2.b=true:=zcD (s:=⟨_,_,_⟩) (by simp)
     refine⟨fun e=>(by rw[e1] at e;cases e),fun _=>zcD ?_⟩
     by_cases hk:(s.any 1).2.pk.k=5
     · rw[zde ha hk]
       have h4:opM (s.any 1).2.pk.t=0:=opM_0.2 (by
        unfold Rd.is at hi;rw[hk] at hi;simpa using hi)
       unfold Rd.bd;rw[decide_eq_true h4];simp
     · exact zer.b (by rw[zec (.inr hk)])
theorem bracesF7_b {F:Nat} {o:List MatD} {s:Rd} (h:s.b=true):(z6 F o s).2.b=true:=(bracesF7_sk F o s).b h
theorem mat_len {s:Rd} (e:s.mat.2.b=false):s.mat.2.l.length+1≤s.l.length:=by
 unfold Rd.mat at e ⊢
 simp only at e ⊢
 have hc:=zc0 (fun q=>zcD (s:=⟨_,_,_⟩) q) e
 have ha:(s.any 1).2.b=false:=by have:=(Bool.or_eq_false_iff.1 hc).1;rw[take_b] at this;exact this
 have l1:=any_len (s:=s) (by decide) ha
 have l2:=(zZ (s.any 1).2 5 [tEq,tNe,zcw,zaW]).len
 have l3:=any_len (by decide) e
 simp only at l3
 omega
theorem sm_bracesF:∀ (F F':Nat) (o:List MatD) (s:Rd),s.b=false→s.l.length<F→s.l.length≤F'→Sm ((zaq F o s).1,(zaq F o s).2.must zak) ((z6 F' (o++[s.mat7.1]) s.mat7.2).1,(z6 F' (o++[s.mat7.1]) s.mat7.2).2.must zak)
 | 0,_,_,_,_,h,_=>absurd h (Nat.not_lt_zero _)
 | F+1,F',o,s,hb,hF,hF'=>by
  have e0:zaq (F+1) o s=if (s.mat.2.take 5 [zK]).2.1=true then zaq F (o++[s.mat.1]) (s.mat.2.take 5 [zK]).2.2 else(o++[s.mat.1],(s.mat.2.take 5 [zK]).2.2):=by
   conv=>lhs;unfold zaq
   rw[if_neg (by rw[hb];decide)];rfl
  rw[e0]
  obtain ⟨m1,m2⟩:=mat_sm s hb
  by_cases ha:s.mat.2.b=true
  · rw[zb5 ha]
    exact Sm.no (zaM ha) (.inl (zaM (bracesF7_b (m2 ha))))
  · have ha:=bf ha
    rw[m1 ha]
    have hl:=mat_len ha
    obtain ⟨F',rfl⟩:∃ j,F'=j+1:=⟨F'-1,by omega⟩
    have hlo:0<(o++[s.mat.1]).length:=by simp
    by_cases hc:s.mat.2.is 5 [zak]=true
    · have hm:s.mat.2.is 5 [zK]=false:=by
       have:=zfr hc
       unfold Rd.is;rw[this];rw[show hasN [zK] zak=false by decide,Bool.and_false]
      rw[za7 (.inr hm),if_neg (by simp)]
      unfold z6
      rw[if_pos (.inr (by rw[zbl ha];exact hc))]
      exact Sm.rfl' _
    · have e7:z6 (F'+1) (o++[s.mat.1]) s.mat.2=z6 F' ((o++[s.mat.1])++[(s.mat.2.must zK).mat7.1]) (s.mat.2.must zK).mat7.2:=by
       conv=>lhs;unfold z6
       rw[if_neg (by rw[zbl ha,ha];simp only[Bool.false_eq_true,false_or];exact hc)]
       simp only[if_pos hlo];rfl
      rw[e7]
      by_cases hm:s.mat.2.is 5 [zK]=true
      · rw[zby ha hm,if_pos rfl,zdx ha hm]
        have hl2:=(zdg (zeR (by decide) hm)).2
        exact sm_bracesF F F' _ s.mat.2.tl ha (by omega) (by omega)
      · have hm:s.mat.2.is 5 [zK]=false:=by simpa using hm
        rw[za7 (.inr hm),if_neg (by simp)]
        refine Sm.no (must_bad (by simpa using hc)) (.inl (zaM (bracesF7_b ?_)))
        unfold Rd.mat7;simp only
        exact zcD (zer.b (zcD (zcD (must_bad hm))))
end Lp
set_option linter.unusedVariables false
namespace Lp
open Go
section
variable {s:Rd} {k:Int} {ts:List ByteArray} {x:ByteArray}
theorem za1:(s.take k ts).2.2.n=s.n:=by unfold Rd.take;split<;>rfl
theorem zbu:(s.must x).n=s.n:=za1
theorem zdf:(s.any k).2.n=s.n:=by unfold Rd.any;split<;>rfl
theorem zdw (h:s.node.b=false):s.node.n≤200:=by
 have h:(s.b||decide (200<s.n+1))=false:=h
 have:=of_decide_eq_false (Bool.or_eq_false_iff.1 h).2
 show s.n+1≤200;omega
theorem namesF_n:∀ (F:Nat) (o:List ByteArray) (s:Rd),(zaT F o s).2.n=s.n
 | 0,o,s=>rfl
 | F+1,o,s=>by
  unfold zaT
  split
  · rfl
  · split
    · rw[namesF_n F];exact za1.trans zdf
    · exact za1.trans zdf
theorem names_n:s.names.2.n=s.n:=by
 unfold Rd.names;split
 · exact zbu.trans zbu
 · exact zbu.trans ((namesF_n _ _ _).trans zbu)
theorem mode_n {y:ByteArray}:(s.mode x y).2.2.n=s.n:=by
 unfold Rd.mode;split
 · exact za1
 · split
   · exact names_n.trans za1
   · exact names_n.trans za1
theorem bracesF_n:∀ (F:Nat) (o:List MatD) (s:Rd),(zaq F o s).2.n=s.n
 | 0,o,s=>rfl
 | F+1,o,s=>by
  unfold zaq
  split
  · rfl
  · simp only
    split
    · rw[bracesF_n F];exact za1.trans (zdf.trans (za1.trans zdf))
    · exact za1.trans (zdf.trans (za1.trans zdf))
end
def CnP (m:Nat) (p:Rd→Nd×Rd):Prop:=∀ s:Rd,s.l.length≤m→(p s).2.b=false→(p s).2.n=s.n+((p s).1.cnt:Int)∧(p s).2.n≤200
theorem cn_levelF {part:Rd→Nd×Rd} {ts:List ByteArray} (hb:Bad part) (hs:∀ s,Stp 1 s (part s).2) {m:Nat} (hp:CnP m part):∀ (F:Nat) (o:Nd) (s:Rd),s.l.length≤m→s.n≤200→(za4 part ts F o s).2.b=false→(za4 part ts F o s).2.n+(o.cnt:Int)=s.n+((za4 part ts F o s).1.cnt:Int)∧(za4 part ts F o s).2.n≤200
 | 0,o,s,_,h,_=>⟨rfl,h⟩
 | F+1,o,s,hm,h,e=>by
  have k1:=(zZ s 5 ts).len
  have n1:=za1 (s:=s) (k:=5) (ts:=ts)
  unfold za4 at e ⊢
  split
  · exact⟨by rw[n1],by rw[n1];exact h⟩
  · rename_i hc
    rw[if_neg hc] at e
    simp only at e ⊢
    have eq:=zc0 (fun q=>zc3 q) e
    have ep:(part ((s.take 5 ts).2.2.mode tOn zO).2.2).2.b=false:=zc0 zcn eq
    have k2:=(zc2 (s.take 5 ts).2.2 tOn zO).len
    have k3:=(hs ((s.take 5 ts).2.2.mode tOn zO).2.2).len
    have n2:=mode_n (s:=(s.take 5 ts).2.2) (x:=tOn) (y:=zO)
    have w:=hp _ (by omega) ep
    have n3:=zdw eq
    have n4:(part ((s.take 5 ts).2.2.mode tOn zO).2.2).2.node.n=(part ((s.take 5 ts).2.2.mode tOn zO).2.2).2.n+1:=rfl
    have h:=cn_levelF hb hs hp F _ _ (by show (part _).2.l.length≤m;omega) n3 e
    refine⟨?_,h.2⟩
    have h1:=h.1
    simp only[Nd.cnt,Nd.cntL] at h1
    omega
theorem cn_level {part:Rd→Nd×Rd} {ts:List ByteArray} (hb:Bad part) (hs:∀ s,Stp 1 s (part s).2) {m:Nat} (hp:CnP m part):CnP m (fun s=>s.level part ts):=fun s hm e=>by
 have ep:(part s).2.b=false:=zc0 (fun q=>zc3 q) e
 have k3:=(hs s).len
 have w:=hp s hm ep
 have h:=cn_levelF hb hs hp _ _ _ (by omega) w.2 e
 simp only[Rd.level] at e ⊢
 exact⟨by omega,h.2⟩
section
variable (rm:List MatD→Bool)
theorem cn_sel {m:Nat}:CnP m (fun s=>s.selector rm):=fun s _ e=>by
 have e:(s.selector rm).2.b=false:=e
 show (s.selector rm).2.n=s.n+((s.selector rm).1.cnt:Int)∧(s.selector rm).2.n≤200
 unfold Rd.selector at e ⊢
 simp only at e ⊢
 have n1:s.selName.2.n=s.n:=by unfold Rd.selName;split;exact zdf;rfl
 have n2:(s.selName.2.selMs rm s.selName.1).2.n=s.n:=by
  refine Eq.trans ?_ n1
  unfold Rd.selMs;split
  · unfold Rd.braces;split
    · exact zbu.trans zbu
    · exact zbu.trans ((bracesF_n _ _ _).trans zbu)
  · rfl
 have n3:(s.selName.2.selMs rm s.selName.1).2.selWin.2.n=s.n:=by
  refine Eq.trans ?_ n2
  unfold Rd.selWin;split
  · exact zbu.trans (zdf.trans za1)
  · exact za1
 refine⟨?_,zdw e⟩
 show _+1=_
 rw[n3];simp only[Nd.cnt,Nd.cntL];omega
theorem cn_prim {ex:Rd→Nd×Rd} (hb:Bad ex) {m:Nat} (hx:∀ a,a<m→CnP a ex):CnP m (fun s=>s.prim rm ex):=fun s hl e=>by
 have h0:s.b=false:=(prim_b rm ex).no e
 have hn:¬s.b=true:=by rw[h0];decide
 simp only[Rd.prim] at e ⊢
 rw[if_neg hn] at e ⊢
 split
 · rename_i hc
   rw[if_pos hc] at e
   refine⟨?_,zdw e⟩
   show (s.any 2).2.n+1=_
   rw[zdf];simp only[Nd.cnt,Nd.cntL];omega
 · rename_i hc
   rw[if_neg hc] at e
   split
   · rename_i hd
     rw[if_pos hd] at e
     have e1:=zc0 zaM e
     have l1:=must_len (hb.no e1)
     have w:=hx _ (by omega) _ (Nat.le_refl _) e1
     have n1:=zbu (s:=s) (x:=zC)
     have n2:=zbu (s:=(ex (s.must zC)).2) (x:=zH)
     simp only;omega
   · rename_i hd
     rw[if_neg hd] at e
     split
     · rename_i hf
       rw[if_pos hf] at e
       unfold Rd.aggr at e ⊢
       simp only at e ⊢
       have e7:=zc0 zcn e
       have e6:=zc0 zaM e7
       have e5:=hb.no e6
       have e3:((s.any 1).2.mode tBy zL |>.2.2.must zC).b=false:=by
        by_cases hn:zar (s.any 1).1=true
        · rw[if_pos hn,if_pos hn] at e5;exact zc0 zcD (zc0 zaM e5)
        · rw[if_neg hn,if_neg hn] at e5;exact e5
       have e1:(s.any 1).2.b=false:=zc0 mode_b (zc0 zaM e3)
       have l1:=any_len (s:=s) (by decide) e1
       have l2:=(zc2 (s.any 1).2 tBy zL).len
       have l3:=(zP ((s.any 1).2.mode tBy zL).2.2 zC).len
       have l4:=(zbj (((s.any 1).2.mode tBy zL).2.2.must zC) 2).len
       have l5:=(zP ((((s.any 1).2.mode tBy zL).2.2.must zC).number 2).2 zK).len
       have n1:(((s.any 1).2.mode tBy zL).2.2.must zC).n=s.n:=zbu.trans (mode_n.trans zdf)
       have n5:((((s.any 1).2.mode tBy zL).2.2.must zC).number 2).2.n=s.n:=zdf.trans n1
       have n6:(((((s.any 1).2.mode tBy zL).2.2.must zC).number 2).2.must zK).n=s.n:=zbu.trans n5
       refine⟨?_,zdw e⟩
       by_cases hn:zar (s.any 1).1=true
       · simp only[if_pos hn] at e6 ⊢
         have w:=hx _ (by omega) _ (Nat.le_refl _) e6
         show (Rd.must _ zH).n+1=_
         rw[zbu];simp only[Nd.cnt,Nd.cntL];omega
       · simp only[if_neg hn] at e6 ⊢
         have w:=hx _ (by omega) _ (Nat.le_refl _) e6
         show (Rd.must _ zH).n+1=_
         rw[zbu];simp only[Nd.cnt,Nd.cntL];omega
     · rename_i hf
       rw[if_neg hf] at e
       split
       · rename_i hg
         rw[if_pos hg] at e
         simp only at e ⊢
         have e0:=zc0 zaM e
         have e1:=zc0 zcn e0
         have l1:=must_len (hb.no e1)
         have l2:=(zcu s 1).len
         have w:=hx _ (by omega) _ (Nat.le_refl _) e1
         have n1:((s.any 1).2.must zC).n=s.n:=zbu.trans zdf
         have n2:=zdw e0
         have n3:(ex ((s.any 1).2.must zC)).2.node.n=(ex ((s.any 1).2.must zC)).2.n+1:=rfl
         rw[zbu];simp only[Nd.cnt,Nd.cntL];omega
       · rename_i hg
         rw[if_neg hg] at e
         exact cn_sel (m:=s.l.length) rm s (Nat.le_refl _) e
theorem cn_unaryF {ex:Rd→Nd×Rd} {m:Nat} (hp:CnP m (fun s=>s.prim rm ex)):∀ (F:Nat) (s:Rd),s.l.length<F→s.l.length≤m→(zaK rm ex F s).2.b=false→(zaK rm ex F s).2.n=s.n+((zaK rm ex F s).1.cnt:Int)∧(zaK rm ex F s).2.n≤200
 | 0,s,h,_,_=>absurd h (Nat.not_lt_zero _)
 | F+1,s,hF,hm,e=>by
  unfold zaK at e ⊢
  have k1:=(zZ s 5 [zaE]).len
  have n1:=za1 (s:=s) (k:=5) (ts:=[zaE])
  split
  · rename_i hc
    rw[if_pos hc] at e
    simp only at e ⊢
    have hg:=zdn (by decide) hc
    have w:=cn_unaryF hp F _ (by omega) (by omega) (zc0 zcn e)
    refine⟨?_,zdw e⟩
    show _+1=_
    simp only[Nd.cnt,Nd.cntL];omega
  · rename_i hc
    rw[if_neg hc] at e
    have w:=hp _ (by omega) e
    simp only at w
    exact⟨by rw[w.1,n1],w.2⟩
theorem cn_prod {ex:Rd→Nd×Rd} (hb:Bad ex) (hs:∀ s,Stp 1 s (ex s).2) {m:Nat} (hx:∀ a,a<m→CnP a ex):CnP m (zeV rm ex):=
 cn_level (fun s h=>unaryF_b rm ex _ s h) (fun s=>zcj rm hs _ s) (fun s hm e=>cn_unaryF rm (cn_prim rm hb hx) _ s (Nat.lt_succ_self _) hm e)
theorem cn_sum {ex:Rd→Nd×Rd} (hb:Bad ex) (hs:∀ s,Stp 1 s (ex s).2) {m:Nat} (hx:∀ a,a<m→CnP a ex):CnP m (sumP rm ex):=
 cn_level (prod_b rm ex) (fun s=>prodP_stp rm hs s) (cn_prod rm hb hs hx)
theorem cn_expr:∀ f:Nat,CnP f (zdW rm (f+1))
 | 0=>cn_level (zfm rm _) (fun s=>zdp rm (zbd rm _) s) (cn_sum rm (expr_b rm _) (zbd rm _) (fun a ha=>absurd ha (Nat.not_lt_zero _)))
 | f+1=>cn_level (zfm rm _) (fun s=>zdp rm (zbd rm _) s) (cn_sum rm (expr_b rm _) (zbd rm _) (fun a ha s hl e=>cn_expr f s (by omega) e))
end
end Lp
set_option linter.unusedVariables false
namespace Lp
open Go
section
variable {rm:List MatD→Bool} {s:Rd} {k:Int} {x y:ByteArray}
structure Sb (rm:List MatD→Bool) (p r:List MatD×Rd):Prop where
 g:p.2.b=false→r=p∧rm p.1=true
 d:p.2.b=true→Bd r.2∨rm r.1=false
theorem sm_selMs (hrm:rm []=true) (hb:s.b=false):Sb rm (s.selMs rm x) (s.selMs7 x):=by
 unfold Rd.selMs Rd.selMs7
 rw[zbl hb]
 by_cases hi:s.is 5 [zbb]=true
 · rw[if_pos hi,if_pos hi]
   unfold Rd.braces
   rw[zdx hb hi]
   have htb:s.tl.b=false:=hb
   by_cases hc:s.tl.is 5 [zak]=true
   · rw[if_pos hc]
     unfold z6
     rw[if_pos (.inr (by rw[zbl htb];exact hc))]
     exact⟨fun _=>⟨O,hrm⟩,fun e=>.inl (.inl e)⟩
   · rw[if_neg hc]
     have e7:z6 (s.tl.l.length+1) [] s.tl=z6 s.tl.l.length ([]++[s.tl.mat7.1]) s.tl.mat7.2:=by
      conv=>lhs;unfold z6
      rw[if_neg (by rw[zbl htb,htb];simp only[Bool.false_eq_true,false_or];exact hc)]
      rfl
     rw[e7]
     have h:=sm_bracesF (s.tl.l.length+1) s.tl.l.length [] s.tl htb (Nat.lt_succ_self _) (Nat.le_refl _)
     generalize z6 s.tl.l.length ([]++[s.tl.mat7.1]) s.tl.mat7.2=r at h ⊢
     generalize zaq (s.tl.l.length+1) [] s.tl=p at h ⊢
     simp only
     obtain ⟨hg,hd⟩:=h
     simp only at hg hd
     by_cases hpb:(p.2.must zak).b=true
     · refine⟨fun e=>?_,fun _=>?_⟩
       · have e:((p.2.must zak).b||!rm p.1)=false:=e
         rw[hpb] at e;cases e
       · exact .inl (hd hpb)
     · have hpb:=bf hpb
       have e:=hg hpb
       injection e with e1 e2
       rw[e1,e2]
       refine⟨fun e=>?_,fun e=>?_⟩
       · have e:((p.2.must zak).b||!rm p.1)=false:=e
         rw[hpb] at e
         have hr:rm p.1=true:=by simpa using e
         refine⟨?_,hr⟩
         rw[hr];simp
       · have e:((p.2.must zak).b||!rm p.1)=true:=e
         rw[hpb] at e
         exact .inr (by simpa using e)
 · have hi:s.is 5 [zbb]=false:=by simpa using hi
   rw[if_neg (by rw[hi];decide),if_neg (by rw[hi];decide)]
   exact⟨fun _=>⟨O,hrm⟩,fun e=>.inl (.inl e)⟩
theorem sm_selWin (hb:s.b=false):s.selWin7=s.selWin:=by
 unfold Rd.selWin7 Rd.selWin
 rw[zbl hb]
 by_cases hi:s.is 5 [tSq]=true
 · rw[if_pos hi,zby hb hi,zdx hb hi];rfl
 · have hi:s.is 5 [tSq]=false:=by simpa using hi
   rw[if_neg (by rw[hi];decide),za7 (.inr hi)];rfl
theorem bd_f:s.bd false=s:=by unfold Rd.bd;rw[Bool.or_false]
theorem sm_sel (hrm:rm []=true) (hb:s.b=false):Sm (s.selector rm) (s.sel7 rm):=by
 have hk:∀ (t:Rd) (b:Bool),Bd t→Bd (t.selWin7.2.bd b).node7:=fun t b h=>((selWin7_sk.trans (zer (b:=b))).trans zaD).bd h
 by_cases hl:s.l=[]
 · refine Sm.no (sel_nil rm hl) ?_
   have e:s.selName7=(ByteArray.empty,s):=by unfold Rd.selName7;rw[if_neg (by rw[hl];simp)]
   unfold Rd.sel7;simp only;rw[e]
   refine hk _ _ ?_
   unfold Rd.selMs7
   rw[if_neg (by rw[zbl hb,is_nil hl (by decide)];decide)]
   exact .inl (by show (s.b||decide (ByteArray.empty=ByteArray.empty))=true;simp)
 · have hp:=List.length_pos_iff.2 hl
   have e:s.selName7=s.selName:=by
    unfold Rd.selName7 Rd.selName
    by_cases hc:s.pk.k=1∧zdc s.pk.t=false
    · rw[if_pos ⟨hp,hc⟩,if_pos hc]
    · rw[if_neg (fun h=>hc h.2),if_neg hc]
   have hnb:s.selName.2.b=false:=by
    unfold Rd.selName;split
    · rename_i hc;rw[zde hb hc.1];exact hb
    · exact hb
   unfold Rd.sel7 Rd.selector
   simp only
   rw[e]
   have h:=sm_selMs (rm:=rm) (x:=s.selName.1) hrm hnb
   by_cases hmb:(s.selName.2.selMs rm s.selName.1).2.b=true
   · refine Sm.no (zcn (selWin_b hmb)) ?_
     rcases h.d hmb with k | k
     · exact hk _ _ k
     · rw[k];exact zaD.bd (.inl (by show (_||true)=true;simp))
   · have hmb:=bf hmb
     obtain ⟨h1,h2⟩:=h.g hmb
     rw[h1,h2,sm_selWin hmb]
     simp only[Bool.not_true,bd_f]
     exact sm_node _ (Sm.rfl' (s.selName.2.selMs rm s.selName.1).2.selWin)
theorem Sm.map {α β:Type} {p r:α×Rd} (h:Sm p r) (f:α→β):Sm (f p.1,p.2) (f r.1,r.2):=⟨fun e=>(by rw[h.g e]),h.d⟩
theorem Sm.must {α:Type} {p r:α×Rd} (h:Sm p r) (x:ByteArray):Sm (p.1,p.2.must x) (r.1,r.2.must x):=by
 by_cases hb:p.2.b=true
 · exact Sm.no (zaM hb) (zap.bd (h.d hb))
 · rw[h.g (bf hb)];exact Sm.rfl' _
theorem Sm.node {α:Type} {p r:α×Rd} (h:Sm p r):Sm (p.1,p.2.node) (r.1,r.2.node7):=by
 by_cases hb:p.2.b=true
 · exact Sm.no (zcn hb) (zaD.bd (h.d hb))
 · rw[h.g (bf hb)];exact sm_node _ (Sm.rfl' p)
theorem Al.any {m:Nat} {p r:Rd→Nd×Rd} (h:Al m p r) (hb:Bad p) (h7:∀ s,Sk 1 s (r s).2) {u:Rd} (hl:u.l.length≤m):Sm (p u) (r u):=by
 by_cases e:u.b=true
 · exact Sm.no (hb u e) ((h7 u).bd (.inl e))
 · exact h u (bf e) hl
theorem sm_aggr {ex ex7:Rd→Nd×Rd} (hbx:Bad ex) (h7:∀ s,Sk 1 s (ex7 s).2) {m:Nat} (hx:∀ a,a<m→Al a ex ex7) (hb:s.b=false) (hk:s.pk.k=1) (hm:s.l.length≤m):Sm (s.aggr ex) (s.aggr7 ex7):=by
 have hl:=(zdg (zfo (by decide) hk)).2
 obtain ⟨m1,m2⟩:=sm_mode (x:=tBy) (y:=zL) s.tl hb (by decide)
 unfold Rd.aggr Rd.aggr7
 simp only
 rw[zde hb hk]
 simp only
 have hP:∀ u:Rd,u.b=true→(ex u).2.b=true:=fun u h=>hbx u h
 have hR:∀ u:Rd,Bd u→Bd ((ex7 u).2.must zH).node7:=fun u h=>(((h7 u).trans zap).trans zaD).bd h
 by_cases hmb:(s.tl.mode tBy zL).2.2.b=true
 · by_cases hn:zar s.pk.t=true
   · simp only[if_pos hn]
     exact Sm.no (zcn (zaM (hP _ (zaM (zcD (zaM hmb)))))) (hR _ (((zap (x:=zC)).trans (zcH (k:=2))).trans (zap (x:=zK)) |>.bd (m2 hmb)))
   · simp only[if_neg hn]
     exact Sm.no (zcn (zaM (hP _ (zaM hmb)))) (hR _ ((zap (x:=zC)).bd (m2 hmb)))
 · have hmb:=bf hmb
   rw[m1 hmb]
   have k1:=(zc2 s.tl tBy zL).len
   have k2:=(zP (s.tl.mode tBy zL).2.2 zC).len
   by_cases hn:zar s.pk.t=true
   · simp only[if_pos hn]
     have k3:=(zbj ((s.tl.mode tBy zL).2.2.must zC) 2).len
     have k4:=(zP (((s.tl.mode tBy zL).2.2.must zC).number 2).2 zK).len
     exact((((hx (m-1) (by omega)).any hbx h7 (u:=(((s.tl.mode tBy zL).2.2.must zC).number 2).2.must zK) (by omega)).map (fun q=>Nd.mk tAgg s.pk.t (((s.tl.mode tBy zL).2.2.must zC).number 2).1 (s.tl.mode tBy zL).1 (s.tl.mode tBy zL).2.1 [] [q])).must zH).node
   · simp only[if_neg hn]
     exact((((hx (m-1) (by omega)).any hbx h7 (u:=(s.tl.mode tBy zL).2.2.must zC) (by omega)).map (fun q=>Nd.mk tAgg s.pk.t 0 (s.tl.mode tBy zL).1 (s.tl.mode tBy zL).2.1 [] [q])).must zH).node
theorem must_if (v:Rd):v.must x=if v.b=true∨v.is 5 [x]=false then⟨v.l,v.n,true⟩ else v.tl:=by
 unfold Rd.must Rd.take Rd.tl;split<;>simp
theorem node7_must (u:Rd):u.node7.must x=(u.must x).node7:=by
 rw[must_if,must_if]
 show (if u.b=true∨u.is 5 [x]=false then(⟨u.l,u.n+1,true⟩:Rd) else⟨u.l.tail,u.n+1,u.b⟩)=_
 split<;>rfl
theorem sm_prim (hrm:rm []=true) {ex ex7:Rd→Nd×Rd} (hbx:Bad ex) (h7:∀ s,Sk 1 s (ex7 s).2) {m:Nat} (hx:∀ a,a<m→Al a ex ex7):Al m (fun s=>s.prim rm ex) (fun s=>s.prim7 rm ex7):=fun s hb hm=>by
 simp only[Rd.prim,Rd.prim7]
 rw[if_neg (by rw[hb];decide)]
 by_cases hl:s.l=[]
 · have hp:s.pk=zaS:=pk_0 (by rw[hl];rfl)
   rw[if_pos (show s.b=true∨s.l.length=0 from .inr (by rw[hl];rfl)),if_neg (show ¬s.pk.k=2 by rw[hp];decide),if_neg (by rw[is_nil hl (by decide)];decide),if_neg (by rw[hp];rintro ⟨a,_⟩;exact absurd a (by decide)),if_neg (by rw[hp];rintro ⟨a,_⟩;exact absurd a (by decide))]
   exact Sm.no (sel_nil rm hl) (.inl (by show (s.b||true)=true;simp))
 · have hp:=List.length_pos_iff.2 hl
   rw[if_neg (show ¬(s.b=true∨s.l.length=0) from fun e=>by rcases e with e | e;(rw[hb] at e;cases e);omega),zbl hb]
   have ht:=(zdg hl).2
   by_cases h2:s.pk.k=2
   · rw[if_pos h2,if_pos h2]
     unfold Rd.number
     rw[zde hb h2]
     exact sm_node _ (Sm.rfl' ((),s.tl))
   · rw[if_neg h2,if_neg h2]
     by_cases ho:s.is 5 [zC]=true
     · rw[if_pos ho,if_pos ho,zdx hb ho]
       exact((hx (m-1) (by omega)).any hbx h7 (u:=s.tl) (by omega)).must zH
     · rw[if_neg ho,if_neg ho]
       by_cases ha:s.pk.k=1∧hasN aggN s.pk.t=true
       · rw[if_pos ha,if_pos ha]
         exact sm_aggr hbx h7 hx hb ha.1 hm
       · rw[if_neg ha,if_neg ha]
         by_cases hf:s.pk.k=1∧hasN fnN s.pk.t=true
         · rw[if_pos hf,if_pos hf,zde hb hf.1]
           have k2:=(zP s.tl zC).len
           have h:=((hx (m-1) (by omega)).any hbx h7 (u:=s.tl.must zC) (by omega)).map (fun q=>Nd.mk tFn s.pk.t 0 0 [] [] [q])
           by_cases e:(ex (s.tl.must zC)).2.b=true
           · exact Sm.no (zaM (zcn e)) (zaD.bd (zap.bd (h.d e)))
           · have e:=bf e
             have h1:=h.g e
             injection h1 with h1 h2
             simp only
             rw[h1,h2]
             by_cases hn:200<(ex (s.tl.must zC)).2.n+1
             · exact Sm.no (zaM (node_bd hn)) (.inr (by show 200<((ex (s.tl.must zC)).2.must zH).n+1;rw[zbu];exact hn))
             · rw[node_go e hn]
               rw[node7_must];exact Sm.rfl' _
         · rw[if_neg hf,if_neg hf]
           exact sm_sel hrm hb
theorem sm_unaryF {ex ex7:Rd→Nd×Rd} {m:Nat} (hp:Al m (fun s=>s.prim rm ex) (fun s=>s.prim7 rm ex7)):∀ (F:Nat) (s:Rd),s.b=false→s.l.length<F→s.l.length≤m→Sm (zaK rm ex F s) (zaV rm ex7 F s)
 | 0,s,_,h,_=>absurd h (Nat.not_lt_zero _)
 | F+1,s,hb,hF,hm=>by
  unfold zaK zaV
  rw[zbl hb]
  by_cases hi:s.is 5 [zaE]=true
  · have ht:=(zdg (zeR (by decide) hi)).2
    rw[zby hb hi,if_pos rfl,if_pos hi]
    have h:=sm_unaryF hp F s.tl hb (by omega) (by omega)
    exact(h.map (fun q=>Nd.mk tNeg ByteArray.empty 0 0 [] [] [q])).node
  · have hi:s.is 5 [zaE]=false:=by simpa using hi
    rw[za7 (.inr hi),if_neg (by simp),if_neg (by rw[hi];decide)]
    exact hp s hb hm
theorem sm_prod (hrm:rm []=true) {ex ex7:Rd→Nd×Rd} (hbx:Bad ex) (hs:∀ s,Stp 1 s (ex s).2) (h7:∀ s,Sk 1 s (ex7 s).2) {m:Nat} (hx:∀ a,a<m→Al a ex ex7):Al m (zeV rm ex) (prod7 rm ex7):=
 sm_level (fun s h=>unaryF_b rm ex _ s h) (fun s=>zcj rm hs _ s) (fun s=>zck h7 _ s) (fun s hb hm=>sm_unaryF (sm_prim hrm hbx h7 hx) _ s hb (Nat.lt_succ_self _) hm)
theorem sm_sum (hrm:rm []=true) {ex ex7:Rd→Nd×Rd} (hbx:Bad ex) (hs:∀ s,Stp 1 s (ex s).2) (h7:∀ s,Sk 1 s (ex7 s).2) {m:Nat} (hx:∀ a,a<m→Al a ex ex7):Al m (sumP rm ex) (sum7 rm ex7):=
 sm_level (prod_b rm ex) (fun s=>prodP_stp rm hs s) (fun s=>prod7_sk h7 s) (sm_prod hrm hbx hs h7 hx)
theorem Al.le {a b:Nat} {p r:Rd→Nd×Rd} (h:Al b p r) (e:a≤b):Al a p r:=fun s hb hm=>h s hb (by omega)
theorem sm_expr (hrm:rm []=true):∀ f:Nat,Al f (zdW rm (f+1)) (zd9 rm (f+1))
 | 0=>sm_level (zfm rm _) (fun s=>zdp rm (zbd rm _) s) (fun s=>sum7_sk (zcp _) s) (sm_sum hrm (expr_b rm _) (zbd rm _) (zcp _) (fun a ha=>absurd ha (Nat.not_lt_zero _)))
 | f+1=>sm_level (zfm rm _) (fun s=>zdp rm (zbd rm _) s) (fun s=>sum7_sk (zcp _) s) (sm_sum hrm (expr_b rm _) (zbd rm _) (zcp _) (fun a ha=>(sm_expr hrm f).le (by omega)))
theorem order7_sk:Sk 0 s s.order7.2:=by
 unfold Rd.order7;split
 · simp only;split
   · exact(zfe.trans zcH).le (by omega)
   · split
     · exact(zfe.trans zcH).le (by omega)
     · exact((zfe.trans zcH).trans zer).le (by omega)
 · exact Sk.rfl' s
theorem zcS {w:ByteArray}:Sk 0 s (s.bound7 w).2:=by
 unfold Rd.bound7;split
 · exact(zfe.trans (zcH (k:=2))).le (by omega)
 · exact Sk.rfl' s
theorem sm_order (hb:s.b=false):Sm s.order s.order7:=by
 unfold Rd.order Rd.order7
 rw[zbl hb]
 by_cases hi:s.is 1 [zbV]=true
 · simp only
   rw[zby hb hi,if_pos hi,if_neg (by simp)]
   have htb:s.tl.b=false:=hb
   simp only
   by_cases hk:s.tl.pk.k=1
   · rw[zde htb hk]
     by_cases hd:s.tl.is 1 [zdo]=true
     · have ht:=zfr hd
       rw[zby htb hd,if_pos rfl]
       simp only
       rw[ht,if_neg (by decide),if_pos rfl]
       exact Sm.rfl' _
     · have hd:s.tl.is 1 [zdo]=false:=by simpa using hd
       rw[za7 (.inr hd),if_neg (by simp)]
       simp only
       rw[zde htb hk]
       simp only
       by_cases ha:s.tl.pk.t=tAsc
       · rw[if_pos ha]
         have e:(⟨s.tl.tl.l,s.tl.tl.n,s.tl.tl.b||decide (s.tl.pk.t≠tAsc)⟩:Rd)=s.tl.tl:=by rw[decide_eq_false (by simpa using ha),Bool.or_false]
         rw[e];exact Sm.rfl' _
       · have hne:¬s.tl.pk.t=zdo:=fun e=>by
          unfold Rd.is at hd;rw[hk,e] at hd;revert hd;decide
         rw[if_neg ha,if_neg hne]
         refine Sm.no ?_ (.inl ?_)
         · show (s.tl.tl.b||decide (s.tl.pk.t≠tAsc))=true;rw[decide_eq_true ha];simp
         · show (s.tl.tl.b||true)=true;simp
   · have hd:s.tl.is 1 [zdo]=false:=by unfold Rd.is;rw[decide_eq_false hk];rfl
     rw[za7 (.inr hd),if_neg (by simp),zec (.inr hk)]
     refine Sm.no ?_ ?_
     · simp
     · simp only
       rw[if_neg (by decide),if_neg (by decide)]
       exact .inl O
 · have hi:s.is 1 [zbV]=false:=by simpa using hi
   simp only
   rw[za7 (.inr hi),if_pos rfl,if_neg (by rw[hi];decide)]
   exact Sm.rfl' _
theorem sm_bound {w:ByteArray} (hb:s.b=false):((s.bound w).2.b=false→s.bound7 w=s.bound w∧¬2000<(s.bound w).1)∧((s.bound w).2.b=true→Bd (s.bound7 w).2∨2000<(s.bound7 w).1):=by
 unfold Rd.bound Rd.bound7
 rw[zbl hb]
 by_cases hi:s.is 1 [w]=true
 · rw[zby hb hi,if_neg (by simp),if_pos hi]
   simp only
   by_cases hn:2000<(s.tl.number 2).1
   · rw[decide_eq_true hn]
     exact⟨fun e=>(by rw[Bool.or_true] at e;cases e),fun _=>.inr hn⟩
   · rw[decide_eq_false hn,Bool.or_false]
     exact⟨fun _=>⟨O,hn⟩,fun e=>.inl (.inl e)⟩
 · have hi:s.is 1 [w]=false:=by simpa using hi
   rw[za7 (.inr hi),if_pos rfl,if_neg (by rw[hi];decide)]
   exact⟨fun _=>⟨O,show ¬(2000:Int) < -1 by decide⟩,fun e=>.inl (.inl e)⟩
theorem parse7_eq (hrm:rm []=true) (l:List TokD):parse7 rm l=zcZ rm l:=by
 have he:=sm_expr hrm l.length ⟨l,0,false⟩ O (Nat.le_refl _)
 have hcn:=cn_expr rm l.length ⟨l,0,false⟩ (Nat.le_refl _)
 unfold parse7 zcZ
 simp only
 generalize zdW rm (l.length+1) ⟨l,0,false⟩=p at he hcn ⊢
 generalize zd9 rm (l.length+1) ⟨l,0,false⟩=r at he ⊢
 have out:∀ (x:Int) (u:Rd),Bd u∨2000<x→∀ y:Int,(u.b=true∨0<u.l.length∨200<u.n∨2000<x∨2000<y):=fun x u h y=>by
  rcases h with (h | h) | h
  · exact .inl h
  · exact .inr (.inr (.inl h))
  · exact .inr (.inr (.inr (.inl h)))
 by_cases hpb:p.2.b=true
 · rw[if_pos (out _ _ (.inl (zcS.bd (zcS.bd (order7_sk.bd (he.d hpb))))) _),if_pos (.inl (zeD (zeD (order_b hpb))))]
 · have hpb:=bf hpb
   rw[he.g hpb]
   have h1:=sm_order hpb
   by_cases hob:p.2.order.2.b=true
   · rw[if_pos (out _ _ (.inl (zcS.bd (zcS.bd (h1.d hob)))) _),if_pos (.inl (zeD (zeD hob)))]
   · have hob:=bf hob
     rw[h1.g hob]
     obtain ⟨a1,a2⟩:=sm_bound (w:=zcX) hob
     by_cases hab:(p.2.order.2.bound zcX).2.b=true
     · rw[if_pos,if_pos (.inl (zeD hab))]
       rcases a2 hab with k | k
       · exact out _ _ (.inl (zcS.bd k)) _
       · exact .inr (.inr (.inr (.inl k)))
     · have hab:=bf hab
       obtain ⟨a3,a4⟩:=a1 hab
       rw[a3]
       obtain ⟨b1,b2⟩:=sm_bound (w:=zcr) hab
       by_cases hbb:((p.2.order.2.bound zcX).2.bound zcr).2.b=true
       · rw[if_pos,if_pos (.inl hbb)]
         rcases b2 hbb with k | k
         · exact out 0 _ (.inl k) _ |>.imp id (fun k=>k.imp id (fun k=>k.imp id (fun k=>by rcases k with k | k;exact absurd k (by decide);exact .inr k)))
         · exact .inr (.inr (.inr (.inr k)))
       · have hbb:=bf hbb
         obtain ⟨b3,b4⟩:=b1 hbb
         rw[b3]
         have hn:((p.2.order.2.bound zcX).2.bound zcr).2.n≤200:=by
          have e1:∀ (u:Rd) (w:ByteArray),(u.bound w).2.n=u.n:=fun u w=>by
           unfold Rd.bound;split
           · exact za1
           · exact zdf.trans za1
          have e2:p.2.order.2.n=p.2.n:=by
           unfold Rd.order;simp only;split
           · exact za1
           · split
             · exact za1.trans za1
             · exact zdf.trans (za1.trans za1)
          rw[e1,e1,e2];exact(hcn hpb).2
         by_cases hl:0<((p.2.order.2.bound zcX).2.bound zcr).2.l.length
         · rw[if_pos (.inr (.inl hl)),if_pos (.inr hl)]
         · rw[if_neg,if_neg (by rintro (k | k);(rw[hbb] at k;cases k);exact hl k)]
           rintro (k | k | k | k | k)
           · rw[hbb] at k;cases k
           · exact hl k
           · omega
           · exact a4 k
           · exact b4 k
end
end Lp
