import Derived.Test.YtheccaeefigajaaGreatDoorV120
set_option linter.unusedSimpArgs false
set_option linter.unusedVariables false
namespace Lp
open Go
section
variable {s:Rd} {k:Int} {ts:List ByteArray} {x:ByteArray}
theorem zfH:(s.take k ts).2.2.b=s.b:=by unfold Rd.take;split<;>rfl
theorem zag (h:s.b=true):(s.must x).b=true:=by unfold Rd.must;simp only[zfH,h,uN]
theorem zcH (h:s.b=true):(s.any k).2.b=true:=by unfold Rd.any;rw[if_pos (.inl h)]
theorem zbd (h:s.b=true):s.node.b=true:=by unfold Rd.node;simp only[h,uN]
theorem zcU (h:s.b=true):s.take k ts=(ByteArray.empty,false,s):=zbr (.inl h)
theorem namesF_b {F:Nat} {o:List ByteArray} (h:s.b=true):(zaQ F o s).2.b=true:=by
 cases F with
 | zero=>exact h
 | succ F=>unfold zaQ;rw[if_pos h];exact h
theorem mode_b {y:ByteArray} (h:s.b=true):(s.mode x y).2.2.b=true:=by
 unfold Rd.mode;rw[zcU h];simpa using h
theorem zcm {part:Rd->Nd×Rd} {F:Nat} {o:Nd} (h:s.b=true):(zaH part ts F o s).2.b=true:=by
 cases F with
 | zero=>exact h
 | succ F=>unfold zaH;rw[zcU h];simpa using h
theorem bracesF_b {F:Nat} {o:List MatD} (h:s.b=true):(zY F o s).2.b=true:=by
 cases F with
 | zero=>exact h
 | succ F=>unfold zY;rw[if_pos h];exact h
end
def Bad (p:Rd->Nd×Rd):Prop:=∀ s,s.b=true->(p s).2.b=true
theorem Bad.no {p:Rd->Nd×Rd} (h:Bad p) {s:Rd} (e:(p s).2.b=false):s.b=false:=by
 cases hs:s.b with
 | false=>rfl
 | true=>rw[h s hs] at e;cases e
theorem zaa {a b:Bool} (h:a=true->b=true) (e:b=false):a=false:=by
 cases a with
 | false=>rfl
 | true=>rw[h rfl] at e;cases e
theorem level_b {part:Rd->Nd×Rd} (h:Bad part) (ts:List ByteArray):Bad (λs=>s.level part ts):=λs hs=>zcm (h s hs)
section
variable (rm:List MatD->Bool)
theorem prim_b (ex:Rd->Nd×Rd):Bad (λs=>s.prim rm ex):=λs h=>by simp only[Rd.prim];rw[if_pos h];exact h
theorem zeN (ex:Rd->Nd×Rd):∀ F,Bad (zai rm ex F)
 | 0,s,h=>h
 | F+1,s,h=>by unfold zai;rw[zcU h];simpa using prim_b rm ex s h
theorem zf2 (ex:Rd->Nd×Rd):Bad (zeE rm ex):=level_b (λs h=>zeN rm ex _ s h) _
theorem zft (ex:Rd->Nd×Rd):Bad (sumP rm ex):=level_b (zf2 rm ex) _
theorem zeZ:∀ F,Bad (zaA rm F)
 | 0,s,h=>h
 | F+1,s,h=>level_b (zft rm (zaA rm F)) _ s h
theorem braces_b {s:Rd} (h:s.b=true):(s.braces rm).2.b=true:=by
 unfold Rd.braces;split
 · exact zag (zag h)
 show (((zY _ [] (s.must zE)).2.must zt).b||_)=true;rw[zag (bracesF_b (zag h))];rfl
theorem selMs_b {s:Rd} {x:ByteArray} (h:s.b=true):(s.selMs rm x).2.b=true:=by
 unfold Rd.selMs;split
 · exact braces_b rm h
 show (s.b||_)=true;rw[h];rfl
end
theorem selWin_b {s:Rd} (h:s.b=true):s.selWin.2.b=true:=by unfold Rd.selWin;rw[zcU h];simpa using h
def er (t:TokD):TokD:=⟨t.k,0,t.t⟩
theorem er_kt {x y:TokD} (h:er x=er y):x.k=y.k/\x.t=y.t:=by
 have a:(er x).k=(er y).k:=congrArg TokD.k h;have b:(er x).t=(er y).t:=congrArg TokD.t h;exact⟨a,b⟩
structure R (r:List TokD) (s t:Rd):Prop where
 l:t.l.map er=(s.l++r).map er
 n:t.n=s.n
 b:t.b=s.b
def Hq (r:List TokD):Prop:=∀ h,r.head?=some h->h.k=5/\h.t=zD\/h.k=1/\(h.t=zbP\/h.t=za6\/h.t=zaJ)
section
variable {r:List TokD} {s t:Rd} {k:Int} {ts:List ByteArray} {x:ByteArray}
theorem zgq {s:Rd}:er s.pk=(s.l.map er).headD zbh:=by
 unfold Rd.pk;cases s.l with
 | nil=>rfl
 | cons y l=>rfl
theorem R.pk (h:R r s t) (hl:s.l≠[]):t.pk.k=s.pk.k/\t.pk.t=s.pk.t:=by
 have e1:=zgq (s:=t);have e2:=zgq (s:=s);rw[h.l] at e1;obtain ⟨y,l,hy⟩:=uP hl;rw[hy] at e1 e2;have e3:er t.pk=er s.pk:=by rw[e1,e2];rfl
 exact er_kt e3
theorem R.is (h:R r s t) (hl:s.l≠[]):t.is k ts=s.is k ts:=by
 have e:=h.pk hl;unfold Rd.is;rw[e.1,e.2]
theorem zey (hl:s.l=[]) (hk:k≠0):s.is k ts=false:=by
 unfold Rd.is;rw[pk_0 (by rw[hl];rfl),decide_eq_false (show ¬zbh.k=k from λe=>hk e.symm)];rfl
structure Qt (k:Int) (ts:List ByteArray):Prop where
 kn:k≠0
 a:k=5->hasN ts zD=false
 b:k=1->hasN ts zbP=false/\hasN ts za6=false/\hasN ts zaJ=false
theorem R.isq (h:R r s t) (hr:Hq r) (q:Qt k ts):t.is k ts=s.is k ts:=by
 by_cases hl:s.l=[]
 · rw[zey hl q.kn];have e1:=zgq (s:=t);rw[h.l,hl,jI] at e1;cases r with
   | nil=>exact zey (List.map_eq_nil_iff.1 (by rw[h.l,hl];rfl)) q.kn
   | cons y r=>
    have e3:er t.pk=er y:=e1;obtain ⟨e4,e5⟩:=er_kt e3;unfold Rd.is;rw[e4,e5];rcases hr y rfl with ⟨a,b⟩ | ⟨a,b⟩
    · rw[a,b];by_cases hk:k=5
      · rw[q.a hk,jE]
      rw[decide_eq_false (λe=>hk e.symm)];rfl
    rw[a];by_cases hk:k=1
    · obtain ⟨q1,q2,q3⟩:=q.b hk;rcases b with b | b | b<;>rw[b]
      · rw[q1,jE]
      · rw[q2,jE]
      rw[q3,jE]
    rw[decide_eq_false (λe=>hk e.symm)];rfl
 exact h.is hl
theorem zfl (hk:k≠0) (h:s.is k ts=true):s.l≠[]:=λe=>by rw[zey e hk] at h;cases h
theorem qt_5 {ts:List ByteArray} (h:hasN ts zD=false):Qt 5 ts:=⟨by decide,λ_=>h,λe=>by cases e⟩
end
end Lp
namespace Lp
open Go
section
variable {r:List TokD} {s t:Rd} {k:Int} {ts:List ByteArray} {x:ByteArray}
theorem zdI (e:(s.must x).b=false):(s.must x).l.length+1=s.l.length:=by
 have hq:(s.take 5 [x]).2.1=true:=by
  unfold Rd.must at e;simp only[dT,Bool.not_eq_false'] at e;exact e.2
 exact(zbx (by decide) hq).1
theorem zcJ (hk:k≠0) (e:(s.any k).2.b=false):(s.any k).2.l.length+1=s.l.length:=by
 have hb:s.b=false:=zaa zcH e;have hp:s.pk.k=k:=Decidable.byContradiction λhn=>by rw[ze3 (.inr hn)] at e;cases e
 exact(zfC hk hb hp).1
variable (rm:List MatD->Bool)
theorem sel_nil {s:Rd} (hl:s.l=[]):(s.selector rm).2.b=true:=by
 have hp:s.pk=zbh:=pk_0 (by rw[hl];rfl);have e1:s.selName=(ByteArray.empty,s):=by unfold Rd.selName;rw[if_neg (by rw[hp];rintro ⟨a,_⟩;exact absurd a (by decide))]
 unfold Rd.selector;simp only[e1];refine zbd (selWin_b ?_);unfold Rd.selMs;rw[if_neg (by rw[zey hl (by decide)];decide)];show (s.b||decide (ByteArray.empty=ByteArray.empty))=true;rw[decide_eq_true rfl,jS]
end
end Lp
namespace Lp
open Go
def Rd.is7 (s:Rd) (k:Int) (t:ByteArray):Bool:=!s.b&&s.is k [t]
def Rd.tl (s:Rd):Rd:=⟨s.l.tail,s.n,s.b⟩
def Rd.bd (s:Rd) (b:Bool):Rd:=⟨s.l,s.n,s.b||b⟩
def Rd.node7 (s:Rd):Rd:=⟨s.l,s.n+1,s.b⟩
def zaG:Nat->List ByteArray->Rd->List ByteArray×Rd
 | 0,o,s=>(o,s)
 | f+1,o,s=>
  if s.b=true\/s.is7 5 zD=true then(o,s)
  else
   let t:=if 0<o.length then s.must zA else s
   zaG f (o++[(t.any 1).1]) (t.any 1).2
def Rd.names7 (s:Rd):List ByteArray×Rd:=
 let r:=zaG ((s.must zn).l.length+1) [] (s.must zn)
 (r.1,r.2.must zD)
def Rd.mode7 (s:Rd) (a b:ByteArray):Int×List ByteArray×Rd:=
 if s.is7 1 a=true\/s.is7 1 b=true then(if s.is7 1 b=true then 2 else 1,s.tl.names7) else(0,[],s)
def zcd (part:Rd->Nd×Rd) (signs:List ByteArray):Nat->Nd->Rd->Nd×Rd
 | 0,o,s=>(o,s)
 | f+1,o,s=>
  if s.b=true\/s.is 5 signs=false then(o,s)
  else
   let m:=s.tl.mode7 tOn zS;let q:=part m.2.2
   zcd part signs f (.mk tBin s.pk.t 0 m.1 m.2.1 [] [o,q.1]) q.2.node7
def Rd.level7 (s:Rd) (part:Rd->Nd×Rd) (signs:List ByteArray):Nd×Rd:=zcd part signs ((part s).2.l.length+1) (part s).1 (part s).2
def zar:Nat->List MatD->Rd->List MatD×Rd
 | 0,o,s=>(o,s)
 | f+1,o,s=>
  if s.b=true\/s.is7 5 zt=true then(o,s)
  else
   let t:=if 0<o.length then s.must zA else s
   let a:=t.any 1;let c:=a.2.any 5;let v:=(c.2.bd (decide (opM c.1=0))).any 3
   zar f (o++[⟨a.1,opM c.1,v.1⟩]) v.2
section
variable (rm:List MatD->Bool)
def Rd.selName7 (s:Rd):ByteArray×Rd:=if 0<s.l.length/\s.pk.k=1/\zcE s.pk.t=false then s.any 1 else(ByteArray.empty,s)
def Rd.selMs7 (s:Rd) (text:ByteArray):List MatD×Rd:=
 if s.is7 5 zE=true then
  let r:=zar ((s.must zE).l.length+1) [] (s.must zE)
  (r.1,r.2.must zt)
 else([],s.bd (decide (text=ByteArray.empty)))
def Rd.selWin7 (s:Rd):Int×Rd:=if s.is7 5 tSq=true then(((s.must tSq).number 4).1,((s.must tSq).number 4).2.must tSqE) else(0,s)
def Rd.sel7 (s:Rd):Nd×Rd:=
 let a:=s.selName7;let m:=a.2.selMs7 a.1;let w:=m.2.selWin7
 (.mk nSel a.1 w.1 0 [] m.1 [],(w.2.bd (!rm m.1)).node7)
def Rd.aggr7 (s:Rd) (ex:Rd->Nd×Rd):Nd×Rd:=
 let a:=s.any 1;let m:=a.2.mode7 tBy zr;let p:=m.2.2.must zn;let k:=if zaf a.1=true then(p.number 2) else(0,p)
 let p2:=if zaf a.1=true then k.2.must zA else k.2
 let q:=ex p2
 (.mk tAgg a.1 k.1 m.1 m.2.1 [] [q.1],(q.2.must zD).node7)
def Rd.prim7 (s:Rd) (ex:Rd->Nd×Rd):Nd×Rd:=
 if s.b=true\/s.l.length=0 then(noNd,s.bd true)
 else if s.pk.k=2 then(.mk tNum ByteArray.empty (numV s.pk.t) 0 [] [] [],s.tl.node7)
 else if s.is7 5 zn=true then((ex (s.must zn)).1,(ex (s.must zn)).2.must zD)
 else if s.pk.k=1/\hasN aggN s.pk.t=true then s.aggr7 ex
 else if s.pk.k=1/\hasN fnN s.pk.t=true then
  let q:=ex (s.tl.must zn)
  (.mk tFn s.pk.t 0 0 [] [] [q.1],(q.2.must zD).node7)
 else s.sel7 rm
def zbw (ex:Rd->Nd×Rd):Nat->Rd->Nd×Rd
 | 0,s=>(noNd,s)
 | f+1,s=>
  if s.is7 5 zal=true then
   let q:=zbw ex f s.tl
   (.mk tNeg ByteArray.empty 0 0 [] [] [q.1],q.2.node7)
  else s.prim7 rm ex
def prod7 (ex:Rd->Nd×Rd) (s:Rd):Nd×Rd:=s.level7 (λs=>zbw rm ex (s.l.length+1) s) [zcu,zfs,tMod]
def sum7 (ex:Rd->Nd×Rd) (s:Rd):Nd×Rd:=s.level7 (prod7 rm ex) [zdU,zal]
def ze0:Nat->Rd->Nd×Rd
 | 0,s=>(noNd,s)
 | f+1,s=>s.level7 (sum7 rm (ze0 f)) [tEqq,tNe,tLt,tLe,tGt,tGe]
end
def Rd.order7 (s:Rd):Int×Rd:=
 if s.is7 1 zbP=true then
  let a:=s.tl.any 1
  if a.1=tAsc then(1,a.2) else if a.1=zd8 then(2,a.2) else(0,a.2.bd true)
 else(0,s)
def Rd.bound7 (s:Rd) (w:ByteArray):Int×Rd:=if s.is7 1 w=true then s.tl.number 2 else(-1,s)
def parse7 (rm:List MatD->Bool) (l:List TokD):Option QryD:=
 let e:=ze0 rm (l.length+1) ⟨l,0,false⟩;let o:=e.2.order7;let a:=o.2.bound7 za6;let b:=a.2.bound7 zaJ
 if b.2.b=true\/0<b.2.l.length\/200<b.2.n\/2000<a.1\/2000<b.1 then none else some ⟨e.1,o.1,a.1,b.1⟩
structure Sk (c:Int) (s t:Rd):Prop where
 p:Stp c s t
 b:s.b=true->t.b=true
section
variable {s t u:Rd} {c d:Int} {k:Int} {x y:ByteArray} {ts:List ByteArray}
theorem kI (s:Rd):Sk 0 s s:=⟨mQ s,id⟩
theorem Sk.trans (h:Sk c s t) (k:Sk d t u):Sk (c+d) s u:=⟨h.p.trans k.p,λe=>k.b (h.b e)⟩
theorem Sk.le (h:Sk c s t) (e:c<=d):Sk d s t:=⟨h.p.le e,h.b⟩
theorem zaR:Sk 0 s (s.must x):=⟨zx s x,zag⟩
theorem zdq:Sk 0 s (s.any k).2:=⟨za4 s k,zcH⟩
theorem zfh {b:Bool}:Sk 0 s (s.bd b):=⟨(mQ s).bad _,λe=>by show (s.b||b)=true;rw[e];rfl⟩
theorem za9:Sk 1 s s.node7:=⟨⟨jB _,by unfold Rd.w Rd.node7;simp only;omega,by unfold Rd.node7;simp only;omega⟩,id⟩
theorem zgg:Sk 0 s s.tl:=⟨⟨uR _,by unfold Rd.w Rd.tl;simp only[List.length_tail];omega,vZ _⟩,id⟩
theorem zd2 (h:s.l≠[]):Sk (-2) s s.tl/\s.tl.l.length+1=s.l.length:=by
 have hl:=tail_len h;exact⟨⟨⟨uR _,by unfold Rd.w Rd.tl;simp only;omega,vZ _⟩,id⟩,hl⟩
theorem is7_ne (hk:k≠0) (h:s.is7 k x=true):s.l≠[]/\s.b=false:=by
 unfold Rd.is7 at h;simp only[cY,vH] at h;exact⟨zfl hk h.2,h.1⟩
theorem namesF7_sk:∀ (f:Nat) (o:List ByteArray) (s:Rd),Sk 0 s (zaG f o s).2
 | 0,o,s=>kI s
 | f+1,o,s=>by
  unfold zaG;split
  · exact kI s
  simp only;have h1:Sk 0 s (if 0<o.length then s.must zA else s):=by split;exact zaR;exact kI s
  exact((h1.trans zdq).trans (namesF7_sk f _ _)).le (by omega)
theorem names7_sk:Sk 0 s s.names7.2:=by
 unfold Rd.names7;exact((zaR.trans (namesF7_sk _ _ _)).trans zaR).le (by omega)
theorem mode7_sk:Sk 0 s (s.mode7 x y).2.2:=by
 unfold Rd.mode7;split
 · exact(zgg.trans names7_sk).le (by omega)
 exact kI s
theorem zc9 {part:Rd->Nd×Rd} {signs:List ByteArray} (hp:∀ s,Sk 1 s (part s).2):∀ (f:Nat) (o:Nd) (s:Rd),Sk 0 s (zcd part signs f o s).2
 | 0,o,s=>kI s
 | f+1,o,s=>by
  unfold zcd;split
  · exact kI s
  rename_i h;have hi:s.is 5 signs=true:=by
   cases e:s.is 5 signs with
   | true=>rfl
   | false=>exact absurd (.inr e) h
  have h1:=(zd2 (zfl (by decide) hi)).1;exact((((h1.trans mode7_sk).trans (hp _)).trans za9).trans (zc9 hp f _ _)).le (by omega)
theorem level7_sk {part:Rd->Nd×Rd} (hp:∀ s,Sk 1 s (part s).2) (signs:List ByteArray) (s:Rd):Sk 1 s (s.level7 part signs).2:=((hp s).trans (zc9 hp _ _ _)).le (by omega)
theorem bracesF7_sk:∀ (f:Nat) (o:List MatD) (s:Rd),Sk 0 s (zar f o s).2
 | 0,o,s=>kI s
 | f+1,o,s=>by
  unfold zar;split
  · exact kI s
  simp only;have h1:Sk 0 s (if 0<o.length then s.must zA else s):=by split;exact zaR;exact kI s
  exact(((((h1.trans zdq).trans zdq).trans zfh).trans zdq).trans (bracesF7_sk f _ _)).le (by omega)
theorem selName7_sk:Sk 0 s s.selName7.2:=by unfold Rd.selName7;split;exact zdq;exact kI s
theorem selMs7_sk:Sk 0 s (s.selMs7 x).2:=by
 unfold Rd.selMs7;split
 · exact((zaR.trans (bracesF7_sk _ _ _)).trans zaR).le (by omega)
 exact zfh
theorem selWin7_sk:Sk 0 s s.selWin7.2:=by
 unfold Rd.selWin7;split
 · exact((zaR.trans (t:=s.must tSq) zdq).trans zaR).le (by omega)
 exact kI s
variable {rm:List MatD->Bool}
theorem sel7_sk (s:Rd):Sk 1 s (s.sel7 rm).2:=((((selName7_sk.trans selMs7_sk).trans selWin7_sk).trans zfh).trans za9).le (by omega)
theorem aggr7_sk {ex:Rd->Nd×Rd} (hp:∀ s,Sk 1 s (ex s).2) (h:s.is7 5 zn=false) (hb:s.b=false) (hk:s.pk.k=1):Sk 1 s (s.aggr7 ex).2:=by
 have h0:Sk (-2) s (s.any 1).2:=⟨(zfC (by decide) hb hk).2.1,zcH⟩;have h2:=(h0.trans (mode7_sk (x:=tBy) (y:=zr))).trans (zaR (x:=zn));unfold Rd.aggr7;simp only;split
 · exact(((((h2.trans (zdq (k:=2))).trans (zaR (x:=zA))).trans (hp _)).trans zaR).trans za9).le (by omega)
 exact(((h2.trans (hp _)).trans zaR).trans za9).le (by omega)
theorem prim7_sk {ex:Rd->Nd×Rd} (hp:∀ s,Sk 1 s (ex s).2) (s:Rd):Sk 1 s (s.prim7 rm ex).2:=by
 unfold Rd.prim7;split
 · exact zfh.le (by omega)
 rename_i hc;have hb:s.b=false:=by
  cases e:s.b with
  | false=>rfl
  | true=>exact absurd (.inl e) hc
 split
 · exact(zgg.trans za9).le (by omega)
 split
 · exact((zaR.trans (hp _)).trans zaR).le (by omega)
 rename_i ho;split
 · rename_i h;exact aggr7_sk hp (by simpa using ho) hb h.1
 split
 · rename_i h;have h1:=(zd2 (zgp (by decide) h.1)).1;exact((((h1.trans zaR).trans (hp _)).trans zaR).trans za9).le (by omega)
 exact sel7_sk s
theorem zc4 {ex:Rd->Nd×Rd} (hp:∀ s,Sk 1 s (ex s).2):∀ (f:Nat) (s:Rd),Sk 1 s (zbw rm ex f s).2
 | 0,s=>(kI s).le (by omega)
 | f+1,s=>by
  unfold zbw;split
  · rename_i h;exact(((zd2 (is7_ne (by decide) h).1).1.trans (zc4 hp f _)).trans za9).le (by omega)
  exact prim7_sk hp s
theorem prod7_sk {ex:Rd->Nd×Rd} (hp:∀ s,Sk 1 s (ex s).2) (s:Rd):Sk 1 s (prod7 rm ex s).2:=level7_sk (λs=>zc4 hp _ s) _ s
theorem sum7_sk {ex:Rd->Nd×Rd} (hp:∀ s,Sk 1 s (ex s).2) (s:Rd):Sk 1 s (sum7 rm ex s).2:=level7_sk (λs=>prod7_sk hp s) _ s
theorem zda:∀ (f:Nat) (s:Rd),Sk 1 s (ze0 rm f s).2
 | 0,s=>(kI s).le (by omega)
 | f+1,s=>level7_sk (λs=>sum7_sk (zda f) s) _ s
end
end Lp
namespace Lp
open Go
theorem words_er {l:List UInt8} {a:Nat} {ts:List TokD} (h:zM l 0=some ts):∃ us,zM l a=some us/\us.map er=ts.map er:=by
 have e:=wordsL_by a _ l 0 O;rw[h,dX] at e;exact⟨_,e,by simp only[vC];exact List.map_congr_left λx _=>rfl⟩
theorem words_cat {l r:List UInt8} {ts us:List TokD} (hr:Stop r) (h:zM l 0=some ts) (h2:zM r 0=some us):∃ vs,zM (l++r) 0=some vs/\vs.map er=(ts++us).map er:=by
 obtain ⟨u2,e1,e2⟩:=words_er (a:=0+l.length) h2;refine⟨ts++u2,?_,?_⟩
 · rw[wordsL_app hr _ l 0 ts rfl h,e1];rfl
 rw[uF,uF,e2]
theorem words_step {l r:List UInt8} {x:TokD} {us:List TokD} (hne:l≠[]) (hb:runL isB (l++r)=0) (hf:zg (l++r)=(x,l.length)) (h2:zM r 0=some us):∃ vs,zM (l++r) 0=some vs/\vs.map er=(x::us).map er:=by
 obtain ⟨u2,e1,e2⟩:=words_er (a:=0+l.length) h2;have hp:=dD.2 hne;refine⟨x.put 0::u2,?_,by rw[jQ,jQ,e2];rfl⟩;rw[zct (n:=(l++r).length) (cU _),hb,j7,zaN (by simp[hne]) (by rw[hf];simp only;omega) (cU _),hf];simp only[vL,jY,e1];rfl
def tkO:TokD:=⟨5,0,zn⟩
def tkC:TokD:=⟨5,0,zD⟩
section
variable {rm:List MatD->Bool}
theorem lev_stop {part:Rd->Nd×Rd} {t u:Rd} {n:Nd} {ts:List ByteArray} {r:List TokD} (hr:Hq r) (q:Qt 5 ts) (e:part t=(n,u)) (hu:u.l.map er=r.map er):t.level part ts=(n,u):=by
 have hR:R r ⟨[],u.n,u.b⟩ u:=⟨hu,rfl,rfl⟩;have hi:u.is 5 ts=false:=by rw[hR.isq hr q];exact zey rfl (by decide)
 have ht:u.take 5 ts=(ByteArray.empty,false,u):=zbr (.inr hi);unfold Rd.level;rw[e];unfold zaH;simp only[ht,if_true]
theorem must_er {t:Rd} {x:ByteArray} {r:List TokD} (hb:t.b=false) (h:t.l.map er=((⟨5,0,x⟩:TokD)::r).map er):(t.must x).l.map er=r.map er/\(t.must x).n=t.n/\(t.must x).b=false:=by
 have e1:=zgq (s:=t);rw[h] at e1;obtain ⟨e2,e3⟩:=er_kt (show er t.pk=er (⟨5,0,x⟩:TokD) from e1);have hi:t.is 5 [x]=true:=by unfold Rd.is;rw[e2,e3];simp[hasN]
 have ht:t.take 5 [x]=(t.pk.t,true,⟨t.l.tail,t.n,t.b⟩):=by unfold Rd.take;rw[if_neg (by rw[hb,hi];simp)]
 unfold Rd.must;rw[ht];refine⟨?_,O,by show (t.b||!true)=false;rw[hb];rfl⟩;show t.l.tail.map er=_;rw[List.map_tail,h];rfl
theorem must_bad {t:Rd} {x:ByteArray} (h:t.is 5 [x]=false):(t.must x).b=true:=by
 unfold Rd.must;rw[zbr (.inr h)];simp
end
section
variable (rm:List MatD->Bool)
theorem zdY {s:Rd} {w:ByteArray} (h:s.b=true):(s.bound w).2.b=true:=by
 unfold Rd.bound;rw[zcU h];simpa using h
theorem order_b {s:Rd} (h:s.b=true):s.order.2.b=true:=by
 unfold Rd.order;rw[zcU h];simpa using h
theorem parse_parts {l:List TokD} {q:QryD} (h:zbJ rm l=some q):(zaA rm (l.length+1) ⟨l,0,false⟩).1=q.root/\(zaA rm (l.length+1) ⟨l,0,false⟩).2.b=false/\
 ((q.order=0/\q.limit= -1/\q.offset= -1/\(zaA rm (l.length+1) ⟨l,0,false⟩).2.l=[])\/((q.order≠0\/0<=q.limit\/0<=q.offset)/\∃ y m,(zaA rm (l.length+1) ⟨l,0,false⟩).2.l=y::m/\y.k=1)):=by
 unfold zbJ at h;simp only at h;split at h
 · cases h
 rename_i hc;injection h with h;have hb:(((zaA rm (l.length+1) ⟨l,0,false⟩).2.order.2.bound za6).2.bound zaJ).2.b=false:=by
  cases e:(((zaA rm (l.length+1) ⟨l,0,false⟩).2.order.2.bound za6).2.bound zaJ).2.b with
  | false=>rfl
  | true=>exact absurd (.inl e) hc
 have hl:(((zaA rm (l.length+1) ⟨l,0,false⟩).2.order.2.bound za6).2.bound zaJ).2.l=[]:=by
  rcases jN (((zaA rm (l.length+1) ⟨l,0,false⟩).2.order.2.bound za6).2.bound zaJ).2.l.length with e | e
  · exact j5.1 e
  exact absurd (.inr e) hc
 have b1:=zaa (λq=>zdY q) hb;have b2:=zaa (λq=>zdY q) b1;have b3:=zaa (λq=>order_b q) b2;subst h;refine⟨O,b3,?_⟩;generalize (zaA rm (l.length+1) ⟨l,0,false⟩).2=u at*;have pos:∀ (x:ByteArray),(0:Int)<=numV x:=λx=>by unfold numV;omega
 have word:∀ (s:Rd) (ts:List ByteArray),(s.take 1 ts).2.1=true->∃ y m,s.l=y::m/\y.k=1:=λs ts hq=>by
  have hg:=zbx (by decide) hq;have hl:s.l≠[]:=zfl (k:=1) (by decide) hg.2.2.2.2;obtain ⟨y,m,e⟩:=uP hl;refine⟨y,m,e,?_⟩;have:=is_k hg.2.2.2.2;unfold Rd.pk at this;rw[e] at this;exact this
 by_cases ho:(u.take 1 [zbP]).2.1=true
 · refine .inr ⟨.inl ?_,word u _ ho⟩;show u.order.1≠0;unfold Rd.order;simp only;rw[if_neg (by rw[ho];decide)];split
   · show (2:Int)≠0;decide
   show (1:Int)≠0;decide
 have ho':(u.take 1 [zbP]).2.1=false:=by simpa using ho
 have hu2:(u.take 1 [zbP]).2.2=u:=by
  unfold Rd.take at ho' ⊢;split
  · rfl
  rename_i hc2;rw[if_neg hc2] at ho';cases ho'
 have eo:u.order=(0,u):=by unfold Rd.order;simp only;rw[if_pos ho',hu2]
 rw[eo] at hl b1 b2 ⊢;simp only at hl b1 b2 ⊢;have bd:∀ (s:Rd) (w:ByteArray),(s.take 1 [w]).2.1=false->s.bound w=(-1,s):=λs w hw=>by
  have:(s.take 1 [w]).2.2=s:=by
   unfold Rd.take at hw ⊢;split
   · rfl
   rename_i hc2;rw[if_neg hc2] at hw;cases hw
  unfold Rd.bound;rw[if_pos hw,this]
 have bp:∀ (s:Rd) (w:ByteArray),¬(s.take 1 [w]).2.1=false->0<=(s.bound w).1:=λs w hw=>by
  unfold Rd.bound;rw[if_neg hw];exact pos _
 by_cases h1:(u.take 1 [za6]).2.1=false
 · rw[bd u za6 h1] at hl b1 ⊢;simp only at hl b1 ⊢;by_cases h2:(u.take 1 [zaJ]).2.1=false
   · rw[bd u zaJ h2] at hl ⊢;exact .inl ⟨by first | rfl | trivial,by first | rfl | trivial,by first | rfl | trivial,hl⟩
   exact .inr ⟨.inr (.inr (bp u zaJ h2)),word u _ (by simpa using h2)⟩
 exact .inr ⟨.inr (.inl (bp u za6 h1)),word u _ (by simpa using h1)⟩
end
theorem readE_w {s:ByteArray} (h:zcb s=0):∃ ts,zM (bl8 s) 0=some ts/\zbJ rmD ts=some (zaW s)/\s.size<=600:=by
 obtain ⟨h1,h2⟩:=readE_0 h;obtain ⟨h3,h4⟩:=zfk h1;exact⟨_,h4,h2,by omega⟩
end Lp
namespace Lp
open Go
abbrev tSp:ByteArray:=⟨#[32]⟩
abbrev tSec:ByteArray:=⟨#[115,93]⟩
abbrev tOAsc:ByteArray:=⟨#[32,111,114,100,101,114,32,97,115,99]⟩
abbrev tODesc:ByteArray:=⟨#[32,111,114,100,101,114,32,100,101,115,99]⟩
abbrev zbc:ByteArray:=⟨#[32,108,105,109,105,116,32]⟩
abbrev zci:ByteArray:=⟨#[32,111,102,102,115,101,116,32]⟩
theorem catz:(⟨#[32]⟩:ByteArray).size=1/\(⟨#[40]⟩:ByteArray).size=1/\(⟨#[41]⟩:ByteArray).size=1/\(⟨#[44]⟩:ByteArray).size=1/\(⟨#[123]⟩:ByteArray).size=1/\(⟨#[125]⟩:ByteArray).size=1/\(⟨#[91]⟩:ByteArray).size=1/\(⟨#[115,93]⟩:ByteArray).size=2/\(⟨#[45]⟩:ByteArray).size=1/\(⟨#[32,111,114,100,101,114,32,97,115,99]⟩:ByteArray).size=10/\(⟨#[32,111,114,100,101,114,32,100,101,115,99]⟩:ByteArray).size=11/\(⟨#[32,108,105,109,105,116,32]⟩:ByteArray).size=7/\(⟨#[32,111,102,102,115,101,116,32]⟩:ByteArray).size=8:=⟨rfl,rfl,rfl,rfl,rfl,rfl,rfl,rfl,rfl,rfl,rfl,rfl,rfl⟩
def namP (l:List ByteArray):ByteArray:=zn++za2 zA l++zD
def zcL (mode:Int) (a b:ByteArray):ByteArray:=if mode=1 then a else b
def zcT (two:Bool) (t:ByteArray):ByteArray:=if two=true then zn++t++zD else t
def zb1 (op:Int):ByteArray:=if op=1 then tEq else if op=2 then tNe else if op=3 then zao else if op=4 then zO else ByteArray.empty
def matP (m:MatD):ByteArray:=m.n++zb1 m.op++zad m.v
def binP (text:ByteArray) (mode:Int) (names:List ByteArray) (a b:ByteArray):ByteArray:=
 if mode=0 then a++tSp++text++tSp++b else a++tSp++text++tSp++(zcL mode tOn zS++namP names++tSp)++b
def aggA (text:ByteArray) (mode:Int) (names:List ByteArray):ByteArray:=
 if mode=0 then text else text++(tSp++zcL mode tBy zr++tSp++namP names++tSp)
def aggP (text:ByteArray) (n:Nat) (mode:Int) (names:List ByteArray) (a:ByteArray):ByteArray:=
 (if zaf text=true then aggA text mode names++zn++(digB n++zA) else aggA text mode names++zn)++a++zD
def selA (text:ByteArray) (ms:List MatD):ByteArray:=
 if text=ByteArray.empty\/0<ms.length then text++(zE++za2 zA (ms.map matP)++zt) else text
def selP (text:ByteArray) (n:Nat) (ms:List MatD):ByteArray:=
 if 0<n then selA text ms++(tSq++digB n++tSec) else selA text ms
def fnP (text a:ByteArray):ByteArray:=text++zn++a++zD
def Nd.two:Nd->Bool
 | .mk op _ _ _ _ _ _=>decide (op=tNeg)||decide (op=tBin)
def prOf (op text:ByteArray) (n:Nat) (mode:Int) (names:List ByteArray) (ms:List MatD) (ps:List ByteArray) (tw:List Bool):ByteArray:=
 if op=tNum then digB n
 else if op=tNeg then zal++zcT (tw.headD false) (ps.headD ByteArray.empty)
 else if op=tBin then binP text mode names (zcT (tw.headD false) (ps.headD ByteArray.empty)) (zcT (tw.tail.headD false) (ps.tail.headD ByteArray.empty))
 else if op=tAgg then aggP text n mode names (ps.headD ByteArray.empty)
 else if op=tFn then fnP text (ps.headD ByteArray.empty)
 else selP text n ms
mutual
def Nd.pr:Nd->ByteArray
 | .mk op text n mode names ms kids=>prOf op text n.toNat mode names ms (Nd.prs kids) (kids.map Nd.two)
def Nd.prs:List Nd->List ByteArray
 | []=>[]
 | x::r=>Nd.pr x::Nd.prs r
end
inductive Wf:Nd->Prop
 | num {n:Nat} (h:n<=1000000000000):Wf (.mk tNum ByteArray.empty (n:Int) 0 [] [] [])
 | neg {x:Nd}:Wf x->Wf (.mk tNeg ByteArray.empty 0 0 [] [] [x])
 | bin {text:ByteArray} {mode:Int} {names:List ByteArray} {x y:Nd} (h:mode=0/\names=[]\/mode=1\/mode=2):Wf x->Wf y->Wf (.mk tBin text 0 mode names [] [x,y])
 | agg {text:ByteArray} {n:Nat} {mode:Int} {names:List ByteArray} {x:Nd} (h:n<=1000000000000) (hn:zaf text=false->n=0) (hm:mode=0/\names=[]\/mode=1\/mode=2):Wf x->Wf (.mk tAgg text (n:Int) mode names [] [x])
 | fn {text:ByteArray} {x:Nd}:Wf x->Wf (.mk tFn text 0 0 [] [] [x])
 | sel {text:ByteArray} {n:Nat} {ms:List MatD} (h:n<=1000000000000) (hm:∀ m∈ms,1<=m.op/\m.op<=4):Wf (.mk nSel text (n:Int) 0 [] ms [])
section
variable {text:ByteArray} {n:Nat} {mode:Int} {names:List ByteArray} {ms:List MatD} {x y:Nd}
theorem pr_num:(Nd.mk tNum text (n:Int) mode names ms []).pr=digB n:=by
 simp only[Nd.pr];unfold prOf;rw[if_pos rfl,vT]
theorem pr_neg:(Nd.mk tNeg text (n:Int) mode names ms [x]).pr=zal++zcT x.two x.pr:=by
 simp only[Nd.pr,Nd.prs];unfold prOf;rw[if_neg (by decide),if_pos rfl];rfl
theorem pr_bin:(Nd.mk tBin text (n:Int) mode names ms [x,y]).pr=binP text mode names (zcT x.two x.pr) (zcT y.two y.pr):=by
 simp only[Nd.pr,Nd.prs];unfold prOf;rw[if_neg (by decide),if_neg (by decide),if_pos rfl];rfl
theorem pr_agg:(Nd.mk tAgg text (n:Int) mode names ms [x]).pr=aggP text n mode names x.pr:=by
 simp only[Nd.pr,Nd.prs];unfold prOf;rw[if_neg (by decide),if_neg (by decide),if_neg (by decide),if_pos rfl,vT];rfl
theorem pr_fn:(Nd.mk tFn text (n:Int) mode names ms [x]).pr=fnP text x.pr:=by
 simp only[Nd.pr,Nd.prs];unfold prOf;rw[if_neg (by decide),if_neg (by decide),if_neg (by decide),if_neg (by decide),if_pos rfl];rfl
theorem pr_sel:(Nd.mk nSel text (n:Int) mode names ms []).pr=selP text n ms:=by
 simp only[Nd.pr,Nd.prs];unfold prOf;rw[if_neg (by decide),if_neg (by decide),if_neg (by decide),if_neg (by decide),if_neg (by decide),vT]
end
def wtOf (text:ByteArray) (names:List ByteArray) (ms:List MatD):Nat:=100+text.size+(zX names+20*names.length)+(zX (ms.map matP)+20*ms.length)
mutual
def Nd.wt:Nd->Nat
 | .mk _ text _ _ names ms kids=>wtOf text names ms+Nd.wtL kids
def Nd.wtL:List Nd->Nat
 | []=>0
 | x::r=>Nd.wt x+Nd.wtL r
end
theorem zah {n:Nat} (h:n<=1000000000000):(digB n).size<=20:=(by unfold digB;rw[z8];have:=digL_13 h;omega)
theorem zcS (b:Bool) (t:ByteArray):(zcT b t).size<=t.size+2/\t.size<=(zcT b t).size:=by
 unfold zcT;split
 · have h1:zn.size=1:=rfl;have h2:zD.size=1:=rfl;simp only[cQ];omega
 omega
theorem zfa (l:List ByteArray):(namP l).size<=zX l+l.length+2:=by
 have h:=zat (sep:=zA) O l;have h1:zn.size=1:=rfl;have h2:zD.size=1:=rfl;unfold namP;simp only[cQ];omega
theorem zcy (m:Int) {a b:ByteArray} {k:Nat} (ha:a.size<=k) (hb:b.size<=k):(zcL m a b).size<=k:=by unfold zcL;split<;>assumption
theorem binP_sz (text:ByteArray) (mode:Int) (names:List ByteArray) (a b:ByteArray):(binP text mode names a b).size<=text.size+(zX names+names.length)+a.size+b.size+20:=by
 have h1:=zfa names;have h2:=zcy mode (show tOn.size<=8 by decide) (show zS.size<=8 by decide);have h3:tSp.size=1:=rfl;unfold binP;split<;>(simp only[cQ];omega)
theorem zfE (text:ByteArray) (mode:Int) (names:List ByteArray):(aggA text mode names).size<=text.size+(zX names+names.length)+20:=by
 have h1:=zfa names;have h2:=zcy mode (show tBy.size<=8 by decide) (show zr.size<=8 by decide);have h3:tSp.size=1:=rfl;unfold aggA;split<;>(try simp only[cQ])<;>omega
theorem aggP_sz (text:ByteArray) {n:Nat} (hn:n<=1000000000000) (mode:Int) (names:List ByteArray) (a:ByteArray):(aggP text n mode names a).size<=text.size+(zX names+names.length)+a.size+60:=by
 have h1:=zfE text mode names;have h2:=zah hn;have h3:zn.size=1:=rfl;have h4:zD.size=1:=rfl;have h5:zA.size=1:=rfl;unfold aggP;split<;>(simp only[cQ];omega)
theorem selA_sz (text:ByteArray) (ms:List MatD):(selA text ms).size<=text.size+(zX (ms.map matP)+ms.length)+2:=by
 have h:=zat (sep:=zA) O (ms.map matP);rw[cV] at h;have h3:zE.size=1:=rfl;have h4:zt.size=1:=rfl;unfold selA;split<;>(try simp only[cQ])<;>omega
theorem selP_sz (text:ByteArray) {n:Nat} (hn:n<=1000000000000) (ms:List MatD):(selP text n ms).size<=text.size+(zX (ms.map matP)+ms.length)+30:=by
 have h1:=selA_sz text ms;have h2:=zah hn;have h3:tSq.size=1:=rfl;have h4:tSec.size=2:=rfl;unfold selP;split<;>(try simp only[cQ])<;>omega
theorem zeF {q:Nd} (h:Wf q):q.pr.size+10<=q.wt:=by
 induction h with
 | num h=>rw[pr_num];have:=zah h;simp only[Nd.wt,wtOf,Nd.wtL];omega
 | @neg x _ ih=>
  rw[show (Nd.mk tNeg ByteArray.empty 0 0 [] [] [x]).pr=_ from pr_neg (n:=0)];have h1:=(zcS x.two x.pr).1;have h2:zal.size=1:=rfl;simp only[Nd.wt,wtOf,Nd.wtL,cQ];omega
 | @bin text mode names x y h _ _ ih1 ih2=>
  rw[show (Nd.mk tBin text 0 mode names [] [x,y]).pr=_ from pr_bin (n:=0)];have h1:=(zcS x.two x.pr).1;have h2:=(zcS y.two y.pr).1;have h3:=binP_sz text mode names (zcT x.two x.pr) (zcT y.two y.pr);simp only[Nd.wt,wtOf,Nd.wtL];omega
 | @agg text n mode names x h hn hm _ ih=>
  rw[pr_agg];have h3:=aggP_sz text h mode names x.pr;simp only[Nd.wt,wtOf,Nd.wtL];omega
 | @fn text x _ ih=>
  rw[show (Nd.mk tFn text 0 0 [] [] [x]).pr=_ from pr_fn (n:=0)];have h3:zn.size=1:=rfl;have h4:zD.size=1:=rfl;simp only[Nd.wt,wtOf,Nd.wtL,fnP,cQ];omega
 | @sel text n ms h hm=>
  rw[pr_sel];have h3:=selP_sz text h ms;simp only[Nd.wt,wtOf,Nd.wtL];omega
theorem matP_mem {l:List MatD} {m:MatD} (h:m∈l):(matP m).size<=zX (l.map matP):=by
 induction l with
 | nil=>cases h
 | cons y l ih=>
  have e:zX ((y::l).map matP)=(matP y).size+zX (l.map matP):=by simp[zX]
  rcases dW.1 h with h | h
  · rw[e,h];omega
  have:=ih h;omega
theorem matP_take (l:List MatD) (k:Nat):zX ((l.take k).map matP)<=zX (l.map matP):=by
 have:=zdg (l.map matP) k
 rwa [<-jG] at this
theorem matP_eq (m:MatD):(matP m).size=m.n.size+(zb1 m.op).size+(zad m.v).size:=by unfold matP;simp only[cQ]
def ordP (o:Int) (t:ByteArray):ByteArray:=if o=1 then t++tOAsc else if o=2 then t++tODesc else t
def limP (k:ByteArray) (n:Int) (t:ByteArray):ByteArray:=if 0<=n then t++(k++digB n.toNat) else t
def QryD.pr (q:QryD):ByteArray:=limP zci q.offset (limP zbc q.limit (ordP q.order q.root.pr))
end Lp
namespace Lp
open Go
def zeL (m:Nat) (p:Rd->Nd×Rd):Prop:=∀ s:Rd,s.l.length<=m->TOk s.l->(p s).2.b=false->Wf (p s).1
theorem mode_names (s:Rd) (a b:ByteArray):(s.mode a b).1=0/\(s.mode a b).2.1=[]\/(s.mode a b).1=1\/(s.mode a b).1=2:=by
 unfold Rd.mode;split
 · exact .inl ⟨O,O⟩
 split
 · exact .inr (.inl O)
 exact .inr (.inr O)
theorem num_nat {s:Rd} {k:Int} (hk:k=2\/k=4) (hT:TOk s.l):∃ n:Nat,(s.number k).1=(n:Int)/\n<=1000000000000:=by
 have h:=zee (s:=s) (s':=(s.number k).2) (k:=k) (v:=(s.number k).1) O hk hT;exact⟨(s.number k).1.toNat,by omega,by omega⟩
theorem good_levelF {part:Rd->Nd×Rd} {ts:List ByteArray} (hb:Bad part) (hs:∀ s,Stp 1 s (part s).2) {m:Nat} (hp:zeL m part):∀ (F:Nat) (o:Nd) (s:Rd),s.l.length<=m->TOk s.l->Wf o->(zaH part ts F o s).2.b=false->Wf (zaH part ts F o s).1
 | 0,o,s,_,_,h,_=>h
 | F+1,o,s,hm,hT,h,e=>by
  unfold zaH at e ⊢;split
  · exact h
  rename_i hc;rw[if_neg hc] at e;simp only at e ⊢;have t1:TOk (s.take 5 ts).2.2.l:=hT.suf (zP s 5 ts).l;have t2:TOk ((s.take 5 ts).2.2.mode tOn zS).2.2.l:=t1.suf (zbm _ _ _).l;have ep:(part ((s.take 5 ts).2.2.mode tOn zS).2.2).2.b=false:=zaa zbd (zaa (λq=>zcm q) e);have k1:=(zP s 5 ts).len;have k2:=(zbm (s.take 5 ts).2.2 tOn zS).len;have k3:=(hs ((s.take 5 ts).2.2.mode tOn zS).2.2).len;have w:=hp _ (by omega) t2 ep;refine good_levelF hb hs hp F _ _ (by show (part _).2.l.length<=m;omega) ?_ (.bin (mode_names _ _ _ |>.imp (λx=>x) (λx=>x)) h w) e;exact t2.suf (hs _).l
theorem good_level {part:Rd->Nd×Rd} {ts:List ByteArray} (hb:Bad part) (hs:∀ s,Stp 1 s (part s).2) {m:Nat} (hp:zeL m part):zeL m (λs=>s.level part ts):=λs hm hT e=>by
 have ep:(part s).2.b=false:=zaa (λq=>zcm q) e;have k3:=(hs s).len;exact good_levelF hb hs hp _ _ _ (by omega) (hT.suf (hs s).l) (hp s hm hT ep) e
section
variable (rm:List MatD->Bool)
theorem opM_4 {s:Rd} (h:(s.take 5 [tEq,tNe,zao,zO]).2.1=true):1<=opM (s.take 5 [tEq,tNe,zao,zO]).1/\opM (s.take 5 [tEq,tNe,zao,zO]).1<=4:=by
 have hg:=zbx (by decide) h;have hi:=hg.2.2.2.2;have e1:(s.take 5 [tEq,tNe,zao,zO]).1=s.pk.t:=by unfold Rd.take;rw[if_neg (by rw[hg.2.2.1,hi];simp)]
 rw[e1];have hh:hasN [tEq,tNe,zao,zO] s.pk.t=true:=by unfold Rd.is at hi;exact(cY _ _ ▸ hi).2
 unfold opM;by_cases a1:s.pk.t=tEq
 · rw[if_pos a1];decide
 by_cases a2:s.pk.t=tNe
 · rw[if_neg a1,if_pos a2];decide
 by_cases a3:s.pk.t=zao
 · rw[if_neg a1,if_neg a2,if_pos a3];decide
 by_cases a4:s.pk.t=zO
 · rw[if_neg a1,if_neg a2,if_neg a3,if_pos a4];decide
 exfalso;unfold hasN at hh;simp only[jR,uA,d6,decide_eq_true_eq,dO] at hh;rcases hh with hh | hh | hh | hh
 · exact a1 hh.symm
 · exact a2 hh.symm
 · exact a3 hh.symm
 exact a4 hh.symm
theorem good_bracesF:∀ (F:Nat) (o:List MatD) (s:Rd),(∀ m∈o,1<=m.op/\m.op<=4)->(zY F o s).2.b=false->∀ m∈(zY F o s).1,1<=m.op/\m.op<=4
 | 0,o,s,h,_=>h
 | F+1,o,s,h,e=>by
  unfold zY at e ⊢;split
  · exact h
  rename_i hb;rw[if_neg hb] at e;simp only at e ⊢;have hv:(Rd.any ⟨((s.any 1).2.take 5 [tEq,tNe,zao,zO]).2.2.l,((s.any 1).2.take 5 [tEq,tNe,zao,zO]).2.2.n,((s.any 1).2.take 5 [tEq,tNe,zao,zO]).2.2.b||!((s.any 1).2.take 5 [tEq,tNe,zao,zO]).2.1⟩ 3).2.b=false:=by
   split at e
   · rename_i hq;exact(zbx (by decide) hq).2.2.1
   rw[zfH] at e;exact e
  have hc:(((s.any 1).2.take 5 [tEq,tNe,zao,zO]).2.2.b||!((s.any 1).2.take 5 [tEq,tNe,zao,zO]).2.1)=false:=zaa (λq=>zcH (s:=⟨_,_,_⟩) q) hv;have hop:=opM_4 (by have:=(dT.1 hc).2;simpa using this);have hn:∀ m∈o++[(⟨(s.any 1).1,opM ((s.any 1).2.take 5 [tEq,tNe,zao,zO]).1,(Rd.any ⟨((s.any 1).2.take 5 [tEq,tNe,zao,zO]).2.2.l,((s.any 1).2.take 5 [tEq,tNe,zao,zO]).2.2.n,((s.any 1).2.take 5 [tEq,tNe,zao,zO]).2.2.b||!((s.any 1).2.take 5 [tEq,tNe,zao,zO]).2.1⟩ 3).1⟩:MatD)],1<=m.op/\m.op<=4:=λm hm=>by
   rcases jX.1 hm with hm | hm
   · exact h m hm
   rw[jF.1 hm];exact hop
  split
  · rename_i hq;rw[if_pos hq] at e;exact good_bracesF F _ _ hn e
  exact hn
theorem good_sel:∀ s:Rd,TOk s.l->(s.selector rm).2.b=false->Wf (s.selector rm).1:=λs hT e=>by
 unfold Rd.selector at e ⊢;simp only at e ⊢;have e3:=zaa zbd e;have e2:=zaa selWin_b e3;have t1:TOk s.selName.2.l:=by
  unfold Rd.selName;split
  · exact hT.suf (za4 s 1).l
  exact hT
 have t2:TOk (s.selName.2.selMs rm s.selName.1).2.l:=by
  unfold Rd.selMs;split
  · exact t1.suf (braces_stp rm _).l
  exact t1
 have hw:∃ n:Nat,(s.selName.2.selMs rm s.selName.1).2.selWin.1=(n:Int)/\n<=1000000000000:=by
  unfold Rd.selWin;split
  · exact num_nat (.inr O) (t2.suf (zP _ 5 _).l)
  exact⟨0,O,by decide⟩
 obtain ⟨n,h1,h2⟩:=hw;have hm:∀ m∈(s.selName.2.selMs rm s.selName.1).1,1<=m.op/\m.op<=4:=by
  unfold Rd.selMs at e2 ⊢;split
  · rename_i hc;rw[if_pos hc] at e2;unfold Rd.braces at e2 ⊢;split
    · exact λm hm=>by cases hm
    rename_i hd;rw[if_neg hd] at e2;have e2:(((zY _ [] (s.selName.2.must zE)).2.must zt).b||_)=false:=e2;exact good_bracesF _ _ _ (λm hm=>by cases hm) (zaa zag (dT.1 e2).1)
  exact λm hm=>by cases hm
 rw[h1];exact .sel h2 hm
theorem good_aggr {ex:Rd->Nd×Rd} (hb:Bad ex) {m:Nat} (hx:∀ a,a<m->zeL a ex):∀ s:Rd,s.l.length<=m->TOk s.l->(s.aggr ex).2.b=false->Wf (s.aggr ex).1:=λs hl hT e=>by
 unfold Rd.aggr at e ⊢;simp only at e ⊢;have e6:=zaa zag (zaa zbd e);have e5:=hb.no e6;have e3:((s.any 1).2.mode tBy zr |>.2.2.must zn).b=false:=by
  by_cases hn:zaf (s.any 1).1=true
  · rw[if_pos hn,if_pos hn] at e5;exact zaa zcH (zaa zag e5)
  rw[if_neg hn,if_neg hn] at e5;exact e5
 have e1:(s.any 1).2.b=false:=zaa mode_b (zaa zag e3);have l1:=zcJ (s:=s) (by decide) e1;have l2:=(zbm (s.any 1).2 tBy zr).len;have l3:=(zx ((s.any 1).2.mode tBy zr).2.2 zn).len;have l4:=(zaL (((s.any 1).2.mode tBy zr).2.2.must zn) 2).len;have l5:=(zx ((((s.any 1).2.mode tBy zr).2.2.must zn).number 2).2 zA).len;have t1:TOk (s.any 1).2.l:=hT.suf (za4 s 1).l;have t2:TOk ((s.any 1).2.mode tBy zr).2.2.l:=t1.suf (zbm _ _ _).l;have t3:TOk (((s.any 1).2.mode tBy zr).2.2.must zn).l:=t2.suf (zx _ _).l;have hm:=mode_names (s.any 1).2 tBy zr;by_cases hn:zaf (s.any 1).1=true
 · simp only[if_pos hn] at e6 ⊢;obtain ⟨n,h1,h2⟩:=num_nat (k:=2) (.inl rfl) t3;have t4:TOk ((((s.any 1).2.mode tBy zr).2.2.must zn).number 2).2.l:=t3.suf (zaL _ 2).l;have w:=hx _ (by omega) _ (cU _) (t4.suf (zx _ zA).l) e6;rw[h1];exact .agg h2 (λk=>by rw[hn] at k;cases k) hm w
 simp only[if_neg hn] at e6 ⊢;have w:=hx _ (by omega) _ (cU _) t3 e6;exact Wf.agg (n:=0) (by decide) (λ_=>rfl) hm w
theorem good_prim {ex:Rd->Nd×Rd} (hb:Bad ex) {m:Nat} (hx:∀ a,a<m->zeL a ex):zeL m (λs=>s.prim rm ex):=λs hl hT e=>by
 have h0:s.b=false:=(prim_b rm ex).no e;have hn:¬s.b=true:=by rw[h0];decide
 simp only[Rd.prim] at e ⊢;rw[if_neg hn] at e ⊢;split
 · obtain ⟨n,h1,h2⟩:=num_nat (s:=s) (k:=2) (.inl rfl) hT;rw[h1];exact .num h2
 rename_i hc;rw[if_neg hc] at e;split
 · rename_i hd;rw[if_pos hd] at e;have e1:=zaa zag e;have l1:=zdI (hb.no e1);exact hx _ (by omega) _ (cU _) (hT.suf (zx s zn).l) e1
 rename_i hd;rw[if_neg hd] at e;split
 · rename_i hf;rw[if_pos hf] at e;exact good_aggr hb hx s hl hT e
 rename_i hf;rw[if_neg hf] at e;split
 · rename_i hg;rw[if_pos hg] at e;simp only at e ⊢;have e1:=zaa zbd (zaa zag e);have l1:=zdI (hb.no e1);have l2:=(za4 s 1).len;exact .fn (hx _ (by omega) _ (cU _) ((hT.suf (za4 s 1).l).suf (zx _ zn).l) e1)
 rename_i hg;rw[if_neg hg] at e;exact good_sel rm s hT e
theorem good_unaryF {ex:Rd->Nd×Rd} {m:Nat} (hp:zeL m (λs=>s.prim rm ex)):∀ (F:Nat) (s:Rd),s.l.length<F->s.l.length<=m->TOk s.l->(zai rm ex F s).2.b=false->Wf (zai rm ex F s).1
 | 0,s,h,_,_,_=>absurd h (jU _)
 | F+1,s,hF,hm,hT,e=>by
  unfold zai at e ⊢;have k1:=(zP s 5 [zal]).len;have t1:TOk (s.take 5 [zal]).2.2.l:=hT.suf (zP s 5 [zal]).l;split
  · rename_i hc;rw[if_pos hc] at e;simp only at e ⊢;have hg:=zbx (by decide) hc;exact .neg (good_unaryF hp F _ (by omega) (by omega) t1 (zaa zbd e))
  rename_i hc;rw[if_neg hc] at e;exact hp _ (by omega) t1 e
theorem good_prod {ex:Rd->Nd×Rd} (hb:Bad ex) (hs:∀ s,Stp 1 s (ex s).2) {m:Nat} (hx:∀ a,a<m->zeL a ex):zeL m (zeE rm ex):=
 good_level (λs h=>zeN rm ex _ s h) (λs=>zcg rm hs _ s) (λs hm hT e=>good_unaryF rm (good_prim rm hb hx) _ s (jK _) hm hT e)
theorem good_sum {ex:Rd->Nd×Rd} (hb:Bad ex) (hs:∀ s,Stp 1 s (ex s).2) {m:Nat} (hx:∀ a,a<m->zeL a ex):zeL m (sumP rm ex):=
 good_level (zf2 rm ex) (λs=>zdz rm hs s) (good_prod rm hb hs hx)
theorem good_expr:∀ f:Nat,zeL f (zaA rm (f+1))
 | 0=>good_level (zft rm _) (λs=>zcz rm (zax rm _) s) (good_sum rm (zeZ rm _) (zax rm _) (λa ha=>absurd ha (jU _)))
 | f+1=>good_level (zft rm _) (λs=>zcz rm (zax rm _) s) (good_sum rm (zeZ rm _) (zax rm _) (λa ha s hl hT e=>good_expr f s (by omega) hT e))
theorem parse_wf {l:List TokD} {q:QryD} (hT:TOk l) (h:zbJ rm l=some q):Wf q.root:=by
 obtain ⟨h1,h2,_⟩:=parse_parts rm h;rw[<-h1];exact good_expr rm l.length ⟨l,0,false⟩ (cU _) hT h2
end
theorem read_wf {s:ByteArray} (h:zcb s=0):Wf (zaW s).root:=by
 obtain ⟨h1,h2⟩:=readE_0 h;exact parse_wf rmD (lexL_tok s) h2
end Lp
