import Derived.Test.YtheccaeefigajaaGreatDoorPLoc
set_option linter.unusedSimpArgs false
set_option linter.unusedVariables false
namespace Lp
open Go
section
variable {r:List TokD} {s t:Rd} {k:Int} {ts:List ByteArray} {x:ByteArray}
theorem zc3 (e:(s.must x).b=false):(s.must x).l.length+1=s.l.length:=by
 have hq:(s.take 5 [x]).2.1=true:=by
  unfold Rd.must at e;simp only[dK,Bool.not_eq_false'] at e;exact e.2
 exact(zaY (by decide) hq).1
theorem zcz (hk:k≠0) (e:(s.any k).2.b=false):(s.any k).2.l.length+1=s.l.length:=by
 have hb:s.b=false:=zS zbZ e;have hp:s.pk.k=k:=Decidable.byContradiction λhn=>by rw[zeh (.inr hn)] at e;cases e
 exact(zfS hk hb hp).1
variable (rm:List MatD->Bool)
theorem xW {s:Rd} (hl:s.l=[]):(s.selector rm).2.b=true:=by
 have hp:s.pk=zbm:=pk_0 (by rw[hl];rfl);have e1:s.selName=(ByteArray.empty,s):=by unfold Rd.selName;rw[aA (by rw[hp];rintro ⟨a,_⟩;exact aH a (by decide))]
 unfold Rd.selector;simp only[e1];refine zaR (zeX ?_);unfold Rd.selMs;rw[aA (by rw[zee hl (by decide)];decide)];show (s.b||decide (ByteArray.empty=ByteArray.empty))=true;rw[aE rfl,jY]
end
end Lp
namespace Lp
open Go
def Rd.is7 (s:Rd) (k:Int) (t:ByteArray):Bool:=!s.b&&s.is k [t]
def Rd.tl (s:Rd):Rd:=⟨s.l.tail,s.n,s.b⟩
def Rd.bd (s:Rd) (b:Bool):Rd:=⟨s.l,s.n,s.b||b⟩
def Rd.node7 (s:Rd):Rd:=⟨s.l,s.n+1,s.b⟩
def zaO:Nat->List ByteArray->Rd->List ByteArray×Rd
 | 0,o,s=>(o,s)
 | f+1,o,s=>
  if s.b=true\/s.is7 5 zx=true then(o,s)
  else
   let t:=if 0<o.length then s.must zu else s
   zaO f (o++[(t.any 1).1]) (t.any 1).2
def Rd.names7 (s:Rd):List ByteArray×Rd:=
 let r:=zaO ((s.must zl).l.length+1) [] (s.must zl)
 (r.1,r.2.must zx)
def Rd.mode7 (s:Rd) (a b:ByteArray):Int×List ByteArray×Rd:=
 if s.is7 1 a=true\/s.is7 1 b=true then(if s.is7 1 b=true then 2 else 1,s.tl.names7) else(0,[],s)
def zcj (part:Rd->Nd×Rd) (signs:List ByteArray):Nat->Nd->Rd->Nd×Rd
 | 0,o,s=>(o,s)
 | f+1,o,s=>
  if s.b=true\/s.is 5 signs=false then(o,s)
  else
   let m:=s.tl.mode7 tOn zy;let q:=part m.2.2
   zcj part signs f (.mk tBin s.pk.t 0 m.1 m.2.1 [] [o,q.1]) q.2.node7
def Rd.level7 (s:Rd) (part:Rd->Nd×Rd) (signs:List ByteArray):Nd×Rd:=zcj part signs ((part s).2.l.length+1) (part s).1 (part s).2
def zay:Nat->List MatD->Rd->List MatD×Rd
 | 0,o,s=>(o,s)
 | f+1,o,s=>
  if s.b=true\/s.is7 5 zA=true then(o,s)
  else
   let t:=if 0<o.length then s.must zu else s
   let a:=t.any 1;let c:=a.2.any 5;let v:=(c.2.bd (decide (opM c.1=0))).any 3
   zay f (o++[⟨a.1,opM c.1,v.1⟩]) v.2
section
variable (rm:List MatD->Bool)
def Rd.selName7 (s:Rd):ByteArray×Rd:=if 0<s.l.length/\s.pk.k=1/\zcP s.pk.t=false then s.any 1 else(ByteArray.empty,s)
def Rd.selMs7 (s:Rd) (text:ByteArray):List MatD×Rd:=
 if s.is7 5 zH=true then
  let r:=zay ((s.must zH).l.length+1) [] (s.must zH)
  (r.1,r.2.must zA)
 else([],s.bd (decide (text=ByteArray.empty)))
def Rd.selWin7 (s:Rd):Int×Rd:=if s.is7 5 tSq=true then(((s.must tSq).number 4).1,((s.must tSq).number 4).2.must tSqE) else(0,s)
def Rd.sel7 (s:Rd):Nd×Rd:=
 let a:=s.selName7;let m:=a.2.selMs7 a.1;let w:=m.2.selWin7
 (.mk nSel a.1 w.1 0 [] m.1 [],(w.2.bd (!rm m.1)).node7)
def Rd.aggr7 (s:Rd) (ex:Rd->Nd×Rd):Nd×Rd:=
 let a:=s.any 1;let m:=a.2.mode7 tBy zm;let p:=m.2.2.must zl;let k:=if zU a.1=true then(p.number 2) else(0,p)
 let p2:=if zU a.1=true then k.2.must zu else k.2
 let q:=ex p2
 (.mk tAgg a.1 k.1 m.1 m.2.1 [] [q.1],(q.2.must zx).node7)
def Rd.prim7 (s:Rd) (ex:Rd->Nd×Rd):Nd×Rd:=
 if s.b=true\/s.l.length=0 then(noNd,s.bd true)
 else if s.pk.k=2 then(.mk tNum ByteArray.empty (numV s.pk.t) 0 [] [] [],s.tl.node7)
 else if s.is7 5 zl=true then((ex (s.must zl)).1,(ex (s.must zl)).2.must zx)
 else if s.pk.k=1/\hasN aggN s.pk.t=true then s.aggr7 ex
 else if s.pk.k=1/\hasN fnN s.pk.t=true then
  let q:=ex (s.tl.must zl)
  (.mk tFn s.pk.t 0 0 [] [] [q.1],(q.2.must zx).node7)
 else s.sel7 rm
def zbC (ex:Rd->Nd×Rd):Nat->Rd->Nd×Rd
 | 0,s=>(noNd,s)
 | f+1,s=>
  if s.is7 5 z6=true then
   let q:=zbC ex f s.tl
   (.mk tNeg ByteArray.empty 0 0 [] [] [q.1],q.2.node7)
  else s.prim7 rm ex
def aNb (ex:Rd->Nd×Rd) (s:Rd):Nd×Rd:=s.level7 (λs=>zbC rm ex (s.l.length+1) s) [zcb,zeV,tMod]
def sum7 (ex:Rd->Nd×Rd) (s:Rd):Nd×Rd:=s.level7 (aNb rm ex) [zdB,z6]
def zfc:Nat->Rd->Nd×Rd
 | 0,s=>(noNd,s)
 | f+1,s=>s.level7 (sum7 rm (zfc f)) [tEqq,tNe,tLt,tLe,tGt,tGe]
end
def Rd.order7 (s:Rd):Int×Rd:=
 if s.is7 1 zaJ=true then
  let a:=s.tl.any 1
  if a.1=tAsc then(1,a.2) else if a.1=zcW then(2,a.2) else(0,a.2.bd true)
 else(0,s)
def Rd.bound7 (s:Rd) (w:ByteArray):Int×Rd:=if s.is7 1 w=true then s.tl.number 2 else(-1,s)
def aJf (rm:List MatD->Bool) (l:List TokD):Option QryD:=
 let e:=zfc rm (l.length+1) ⟨l,0,false⟩;let o:=e.2.order7;let a:=o.2.bound7 zar;let b:=a.2.bound7 z8
 if b.2.b=true\/0<b.2.l.length\/200<b.2.n\/2000<a.1\/2000<b.1 then none else some ⟨e.1,o.1,a.1,b.1⟩
structure Sk (c:Int) (s t:Rd):Prop where
 p:Stp c s t
 b:s.b=true->t.b=true
section
variable {s t u:Rd} {c d:Int} {k:Int} {x y:ByteArray} {ts:List ByteArray}
theorem kJ (s:Rd):Sk 0 s s:=⟨mS s,id⟩
theorem Sk.trans (h:Sk c s t) (k:Sk d t u):Sk (c+d) s u:=⟨h.p.trans k.p,λe=>k.b (h.b e)⟩
theorem Sk.le (h:Sk c s t) (e:c<=d):Sk d s t:=⟨h.p.le e,h.b⟩
theorem zaX:Sk 0 s (s.must x):=⟨zr s x,z7⟩
theorem zdA:Sk 0 s (s.any k).2:=⟨zav s k,zbZ⟩
theorem zfx {b:Bool}:Sk 0 s (s.bd b):=⟨(mS s).bad _,λe=>by show (s.b||b)=true;rw[e];rfl⟩
theorem zbg:Sk 1 s s.node7:=⟨⟨jF _,by unfold Rd.w Rd.node7;simp only;omega,by unfold Rd.node7;simp only;omega⟩,id⟩
theorem zgy:Sk 0 s s.tl:=⟨⟨uT _,by unfold Rd.w Rd.tl;simp only[wL];omega,wB _⟩,id⟩
theorem zeb (h:s.l≠[]):Sk (-2) s s.tl/\s.tl.l.length+1=s.l.length:=by
 have hl:=pT h;exact⟨⟨⟨uT _,by unfold Rd.w Rd.tl;simp only;omega,wB _⟩,id⟩,hl⟩
theorem aLi (hk:k≠0) (h:s.is7 k x=true):s.l≠[]/\s.b=false:=by
 unfold Rd.is7 at h;simp only[cY,vH] at h;exact⟨zfA hk h.2,h.1⟩
theorem fX:∀ (f:Nat) (o:List ByteArray) (s:Rd),Sk 0 s (zaO f o s).2
 | 0,o,s=>kJ s
 | f+1,o,s=>by
  unfold zaO;split
  · exact kJ s
  simp only;have h1:Sk 0 s (if 0<o.length then s.must zu else s):=by split;exact zaX;exact kJ s
  exact((h1.trans zdA).trans (fX f _ _)).le (by omega)
theorem rC:Sk 0 s s.names7.2:=by
 unfold Rd.names7;exact((zaX.trans (fX _ _ _)).trans zaX).le (by omega)
theorem qR:Sk 0 s (s.mode7 x y).2.2:=by
 unfold Rd.mode7;split
 · exact(zgy.trans rC).le (by omega)
 exact kJ s
theorem zdg {part:Rd->Nd×Rd} {signs:List ByteArray} (hp:∀ s,Sk 1 s (part s).2):∀ (f:Nat) (o:Nd) (s:Rd),Sk 0 s (zcj part signs f o s).2
 | 0,o,s=>kJ s
 | f+1,o,s=>by
  unfold zcj;split
  · exact kJ s
  rename_i h;have hi:s.is 5 signs=true:=by
   cases e:s.is 5 signs with
   | true=>rfl
   | false=>exact aH (.inr e) h
  have h1:=(zeb (zfA (by decide) hi)).1;exact((((h1.trans qR).trans (hp _)).trans zbg).trans (zdg hp f _ _)).le (by omega)
theorem iV {part:Rd->Nd×Rd} (hp:∀ s,Sk 1 s (part s).2) (signs:List ByteArray) (s:Rd):Sk 1 s (s.level7 part signs).2:=((hp s).trans (zdg hp _ _ _)).le (by omega)
theorem fC:∀ (f:Nat) (o:List MatD) (s:Rd),Sk 0 s (zay f o s).2
 | 0,o,s=>kJ s
 | f+1,o,s=>by
  unfold zay;split
  · exact kJ s
  simp only;have h1:Sk 0 s (if 0<o.length then s.must zu else s):=by split;exact zaX;exact kJ s
  exact(((((h1.trans zdA).trans zdA).trans zfx).trans zdA).trans (fC f _ _)).le (by omega)
theorem selName7_sk:Sk 0 s s.selName7.2:=by unfold Rd.selName7;split;exact zdA;exact kJ s
theorem sY:Sk 0 s (s.selMs7 x).2:=by
 unfold Rd.selMs7;split
 · exact((zaX.trans (fC _ _ _)).trans zaX).le (by omega)
 exact zfx
theorem selWin7_sk:Sk 0 s s.selWin7.2:=by
 unfold Rd.selWin7;split
 · exact((zaX.trans (t:=s.must tSq) zdA).trans zaX).le (by omega)
 exact kJ s
variable {rm:List MatD->Bool}
theorem aGy (s:Rd):Sk 1 s (s.sel7 rm).2:=((((selName7_sk.trans sY).trans selWin7_sk).trans zfx).trans zbg).le (by omega)
theorem aCf {ex:Rd->Nd×Rd} (hp:∀ s,Sk 1 s (ex s).2) (h:s.is7 5 zl=false) (hb:s.b=false) (hk:s.pk.k=1):Sk 1 s (s.aggr7 ex).2:=by
 have h0:Sk (-2) s (s.any 1).2:=⟨(zfS (by decide) hb hk).2.1,zbZ⟩;have h2:=(h0.trans (qR (x:=tBy) (y:=zm))).trans (zaX (x:=zl));unfold Rd.aggr7;simp only;split
 · exact(((((h2.trans (zdA (k:=2))).trans (zaX (x:=zu))).trans (hp _)).trans zaX).trans zbg).le (by omega)
 exact(((h2.trans (hp _)).trans zaX).trans zbg).le (by omega)
theorem aCz {ex:Rd->Nd×Rd} (hp:∀ s,Sk 1 s (ex s).2) (s:Rd):Sk 1 s (s.prim7 rm ex).2:=by
 unfold Rd.prim7;split
 · exact zfx.le (by omega)
 rename_i hc;have hb:s.b=false:=by
  cases e:s.b with
  | false=>rfl
  | true=>exact aH (.inl e) hc
 split
 · exact(zgy.trans zbg).le (by omega)
 split
 · exact((zaX.trans (hp _)).trans zaX).le (by omega)
 rename_i ho;split
 · rename_i h;exact aCf hp (by simpa using ho) hb h.1
 split
 · rename_i h;have h1:=(zeb (zgC (by decide) h.1)).1;exact((((h1.trans zaX).trans (hp _)).trans zaX).trans zbg).le (by omega)
 exact aGy s
theorem zda {ex:Rd->Nd×Rd} (hp:∀ s,Sk 1 s (ex s).2):∀ (f:Nat) (s:Rd),Sk 1 s (zbC rm ex f s).2
 | 0,s=>(kJ s).le (by omega)
 | f+1,s=>by
  unfold zbC;split
  · rename_i h;exact(((zeb (aLi (by decide) h).1).1.trans (zda hp f _)).trans zbg).le (by omega)
  exact aCz hp s
theorem oK {ex:Rd->Nd×Rd} (hp:∀ s,Sk 1 s (ex s).2) (s:Rd):Sk 1 s (aNb rm ex s).2:=iV (λs=>zda hp _ s) _ s
theorem qQ {ex:Rd->Nd×Rd} (hp:∀ s,Sk 1 s (ex s).2) (s:Rd):Sk 1 s (sum7 rm ex s).2:=iV (λs=>oK hp s) _ s
theorem zdh:∀ (f:Nat) (s:Rd),Sk 1 s (zfc rm f s).2
 | 0,s=>(kJ s).le (by omega)
 | f+1,s=>iV (λs=>qQ (zdh f) s) _ s
end
end Lp
namespace Lp
open Go
theorem pK {l:List UInt8} {a:Nat} {ts:List TokD} (h:zQ l 0=some ts):∃ us,zQ l a=some us/\us.map er=ts.map er:=by
 have e:=rM a _ l 0 O;rw[h,dW] at e;exact⟨_,e,by simp only[uN];exact List.map_congr_left λx _=>rfl⟩
theorem aKa {l r:List UInt8} {ts us:List TokD} (hr:Stop r) (h:zQ l 0=some ts) (h2:zQ r 0=some us):∃ vs,zQ (l++r) 0=some vs/\vs.map er=(ts++us).map er:=by
 obtain ⟨u2,e1,e2⟩:=pK (a:=0+l.length) h2;refine⟨ts++u2,?_,?_⟩
 · rw[aEl hr _ l 0 ts rfl h,e1];rfl
 rw[uH,uH,e2]
theorem aFl {l r:List UInt8} {x:TokD} {us:List TokD} (hne:l≠[]) (hb:runL isB (l++r)=0) (hf:zg (l++r)=(x,l.length)) (h2:zQ r 0=some us):∃ vs,zQ (l++r) 0=some vs/\vs.map er=(x::us).map er:=by
 obtain ⟨u2,e1,e2⟩:=pK (a:=0+l.length) h2;have hp:=dE.2 hne;refine⟨x.put 0::u2,?_,by rw[jS,jS,e2];rfl⟩;rw[zcy (n:=(l++r).length) (cU _),hb,j7,zaT (by simp[hne]) (by rw[hf];simp only;omega) (cU _),hf];simp only[vL,uB,e1];rfl
def tkO:TokD:=⟨5,0,zl⟩
def tkC:TokD:=⟨5,0,zx⟩
section
variable {rm:List MatD->Bool}
theorem zc4 {part:Rd->Nd×Rd} {t u:Rd} {n:Nd} {ts:List ByteArray} {r:List TokD} (hr:Hq r) (q:Qt 5 ts) (e:part t=(n,u)) (hu:u.l.map er=r.map er):t.level part ts=(n,u):=by
 have hR:R r ⟨[],u.n,u.b⟩ u:=⟨hu,rfl,rfl⟩;have hi:u.is 5 ts=false:=by rw[hR.isq hr q];exact zee rfl (by decide)
 have ht:u.take 5 ts=(ByteArray.empty,false,u):=zba (.inr hi);unfold Rd.level;rw[e];unfold zaz;simp only[ht,if_true]
theorem aUs {t:Rd} {r:List TokD} (h:t.l.map er=(tkO::r).map er):t.pk.k=5/\t.pk.t=zl:=by
 have e1:=zgD (s:=t);rw[h] at e1;exact zgQ (show er t.pk=er tkO from e1)
theorem aIf {t:Rd} {x:ByteArray} {r:List TokD} (hb:t.b=false) (h:t.l.map er=((⟨5,0,x⟩:TokD)::r).map er):(t.must x).l.map er=r.map er/\(t.must x).n=t.n/\(t.must x).b=false:=by
 have e1:=zgD (s:=t);rw[h] at e1;obtain ⟨e2,e3⟩:=zgQ (show er t.pk=er (⟨5,0,x⟩:TokD) from e1);have hi:t.is 5 [x]=true:=by unfold Rd.is;rw[e2,e3];simp[hasN]
 have ht:t.take 5 [x]=(t.pk.t,true,⟨t.l.tail,t.n,t.b⟩):=by unfold Rd.take;rw[aA (by rw[hb,hi];simp)]
 unfold Rd.must;rw[ht];refine⟨?_,O,by show (t.b||!true)=false;rw[hb];rfl⟩;show t.l.tail.map er=_;rw[List.map_tail,h];rfl
theorem gZ {t:Rd} {x:ByteArray} (h:t.is 5 [x]=false):(t.must x).b=true:=by
 unfold Rd.must;rw[zba (.inr h)];simp
theorem aIs {ex:Rd->Nd×Rd} {t:Rd} {r:List TokD} (hb:t.b=false) (h:t.l.map er=(tkO::r).map er) (F:Nat):zaf rm ex (F+1) t=((ex (t.must zl)).1,(ex (t.must zl)).2.must zx):=by
 obtain ⟨e2,e3⟩:=aUs h;have hm:t.is 5 [z6]=false:=by unfold Rd.is;rw[e3];rw[show hasN [z6] zl=false by decide,jI]
 have ht:t.take 5 [z6]=(ByteArray.empty,false,t):=zba (.inr hm);unfold zaf;rw[ht];show Rd.prim rm t ex=_;unfold Rd.prim;rw[aA (by rw[hb];decide),aA (by rw[e2];decide),aB (by unfold Rd.is;rw[e2,e3];decide)]
def brk (n:Nat) (l:List TokD):List TokD:=List.replicate n tkO++l++List.replicate n tkC
theorem pO (r:List TokD):Hq (tkC::r):=λh e=>by injection e with e;subst e;exact .inl ⟨rfl,rfl⟩
end
section
variable (rm:List MatD->Bool)
theorem zdH {s:Rd} {w:ByteArray} (h:s.b=true):(s.bound w).2.b=true:=by
 unfold Rd.bound;rw[zcU h];simpa using h
theorem aG6 {s:Rd} (h:s.b=true):s.order.2.b=true:=by
 unfold Rd.order;rw[zcU h];simpa using h
theorem eQ {l:List TokD} {q:QryD} (h:zbN rm l=some q):(zas rm (l.length+1) ⟨l,0,false⟩).1=q.root/\(zas rm (l.length+1) ⟨l,0,false⟩).2.b=false/\
 ((q.order=0/\q.limit= -1/\q.offset= -1/\(zas rm (l.length+1) ⟨l,0,false⟩).2.l=[])\/((q.order≠0\/0<=q.limit\/0<=q.offset)/\∃ y m,(zas rm (l.length+1) ⟨l,0,false⟩).2.l=y::m/\y.k=1)):=by
 unfold zbN at h;simp only at h;split at h
 · cases h
 rename_i hc;injection h with h;have hb:(((zas rm (l.length+1) ⟨l,0,false⟩).2.order.2.bound zar).2.bound z8).2.b=false:=by
  cases e:(((zas rm (l.length+1) ⟨l,0,false⟩).2.order.2.bound zar).2.bound z8).2.b with
  | false=>rfl
  | true=>exact aH (.inl e) hc
 have hl:(((zas rm (l.length+1) ⟨l,0,false⟩).2.order.2.bound zar).2.bound z8).2.l=[]:=by
  rcases jT (((zas rm (l.length+1) ⟨l,0,false⟩).2.order.2.bound zar).2.bound z8).2.l.length with e | e
  · exact j6.1 e
  exact aH (.inr e) hc
 have b1:=zS (λq=>zdH q) hb;have b2:=zS (λq=>zdH q) b1;have b3:=zS (λq=>aG6 q) b2;subst h;refine⟨O,b3,?_⟩;generalize (zas rm (l.length+1) ⟨l,0,false⟩).2=u at*;have pos:∀ (x:ByteArray),(0:Int)<=numV x:=λx=>by unfold numV;omega
 have word:∀ (s:Rd) (ts:List ByteArray),(s.take 1 ts).2.1=true->∃ y m,s.l=y::m/\y.k=1:=λs ts hq=>by
  have hg:=zaY (by decide) hq;have hl:s.l≠[]:=zfA (k:=1) (by decide) hg.2.2.2.2;obtain ⟨y,m,e⟩:=uA hl;refine⟨y,m,e,?_⟩;have:=is_k hg.2.2.2.2;unfold Rd.pk at this;rw[e] at this;exact this
 by_cases ho:(u.take 1 [zaJ]).2.1=true
 · refine .inr ⟨.inl ?_,word u _ ho⟩;show u.order.1≠0;unfold Rd.order;simp only;rw[aA (by rw[ho];decide)];split
   · show (2:Int)≠0;decide
   show (1:Int)≠0;decide
 have ho':(u.take 1 [zaJ]).2.1=false:=by simpa using ho
 have hu2:(u.take 1 [zaJ]).2.2=u:=by
  unfold Rd.take at ho' ⊢;split
  · rfl
  rename_i hc2;rw[aA hc2] at ho';cases ho'
 have eo:u.order=(0,u):=by unfold Rd.order;simp only;rw[aB ho',hu2]
 rw[eo] at hl b1 b2 ⊢;simp only at hl b1 b2 ⊢;have bd:∀ (s:Rd) (w:ByteArray),(s.take 1 [w]).2.1=false->s.bound w=(-1,s):=λs w hw=>by
  have:(s.take 1 [w]).2.2=s:=by
   unfold Rd.take at hw ⊢;split
   · rfl
   rename_i hc2;rw[aA hc2] at hw;cases hw
  unfold Rd.bound;rw[aB hw,this]
 have bp:∀ (s:Rd) (w:ByteArray),¬(s.take 1 [w]).2.1=false->0<=(s.bound w).1:=λs w hw=>by
  unfold Rd.bound;rw[aA hw];exact pos _
 by_cases h1:(u.take 1 [zar]).2.1=false
 · rw[bd u zar h1] at hl b1 ⊢;simp only at hl b1 ⊢;by_cases h2:(u.take 1 [z8]).2.1=false
   · rw[bd u z8 h2] at hl ⊢;exact .inl ⟨by first | rfl | trivial,by first | rfl | trivial,by first | rfl | trivial,hl⟩
   exact .inr ⟨.inr (.inr (bp u z8 h2)),word u _ (by simpa using h2)⟩
 exact .inr ⟨.inr (.inl (bp u zar h1)),word u _ (by simpa using h1)⟩
end
theorem aFg {s:ByteArray} {ts:List TokD} (hs:s.size<=600) (h:zQ (bl8 s) 0=some ts):lexL s=ts/\lexE s=0:=by
 unfold lexL lexE;rw[aA (by omega),aA (by omega),h];exact⟨rfl,rfl⟩
end Lp
namespace Lp
open Go
abbrev tSp:ByteArray:=⟨#[32]⟩
abbrev tSec:ByteArray:=⟨#[115,93]⟩
abbrev tOAsc:ByteArray:=⟨#[32,111,114,100,101,114,32,97,115,99]⟩
abbrev tODesc:ByteArray:=⟨#[32,111,114,100,101,114,32,100,101,115,99]⟩
abbrev zbb:ByteArray:=⟨#[32,108,105,109,105,116,32]⟩
abbrev zb4:ByteArray:=⟨#[32,111,102,102,115,101,116,32]⟩
theorem catz:(⟨#[32]⟩:ByteArray).size=1/\(⟨#[40]⟩:ByteArray).size=1/\(⟨#[41]⟩:ByteArray).size=1/\(⟨#[44]⟩:ByteArray).size=1/\(⟨#[123]⟩:ByteArray).size=1/\(⟨#[125]⟩:ByteArray).size=1/\(⟨#[91]⟩:ByteArray).size=1/\(⟨#[115,93]⟩:ByteArray).size=2/\(⟨#[45]⟩:ByteArray).size=1/\(⟨#[32,111,114,100,101,114,32,97,115,99]⟩:ByteArray).size=10/\(⟨#[32,111,114,100,101,114,32,100,101,115,99]⟩:ByteArray).size=11/\(⟨#[32,108,105,109,105,116,32]⟩:ByteArray).size=7/\(⟨#[32,111,102,102,115,101,116,32]⟩:ByteArray).size=8:=⟨rfl,rfl,rfl,rfl,rfl,rfl,rfl,rfl,rfl,rfl,rfl,rfl,rfl⟩
def namP (l:List ByteArray):ByteArray:=zl++za4 zu l++zx
def zcl (mode:Int) (a b:ByteArray):ByteArray:=if mode=1 then a else b
def zcA (two:Bool) (t:ByteArray):ByteArray:=if two=true then zl++t++zx else t
def zch (op:Int):ByteArray:=if op=1 then tEq else if op=2 then tNe else if op=3 then zab else if op=4 then zz else ByteArray.empty
def matP (m:MatD):ByteArray:=m.n++zch m.op++zak m.v
def binP (text:ByteArray) (mode:Int) (names:List ByteArray) (a b:ByteArray):ByteArray:=
 if mode=0 then a++tSp++text++tSp++b else a++tSp++text++tSp++(zcl mode tOn zy++namP names++tSp)++b
def aggA (text:ByteArray) (mode:Int) (names:List ByteArray):ByteArray:=
 if mode=0 then text else text++(tSp++zcl mode tBy zm++tSp++namP names++tSp)
def aggP (text:ByteArray) (n:Nat) (mode:Int) (names:List ByteArray) (a:ByteArray):ByteArray:=
 (if zU text=true then aggA text mode names++zl++(digB n++zu) else aggA text mode names++zl)++a++zx
def selA (text:ByteArray) (ms:List MatD):ByteArray:=
 if text=ByteArray.empty\/0<ms.length then text++(zH++za4 zu (ms.map matP)++zA) else text
def selP (text:ByteArray) (n:Nat) (ms:List MatD):ByteArray:=
 if 0<n then selA text ms++(tSq++digB n++tSec) else selA text ms
def fnP (text a:ByteArray):ByteArray:=text++zl++a++zx
def Nd.two:Nd->Bool
 | .mk op _ _ _ _ _ _=>decide (op=tNeg)||decide (op=tBin)
def prOf (op text:ByteArray) (n:Nat) (mode:Int) (names:List ByteArray) (ms:List MatD) (ps:List ByteArray) (tw:List Bool):ByteArray:=
 if op=tNum then digB n
 else if op=tNeg then z6++zcA (tw.headD false) (ps.headD ByteArray.empty)
 else if op=tBin then binP text mode names (zcA (tw.headD false) (ps.headD ByteArray.empty)) (zcA (tw.tail.headD false) (ps.tail.headD ByteArray.empty))
 else if op=tAgg then aggP text n mode names (ps.headD ByteArray.empty)
 else if op=tFn then fnP text (ps.headD ByteArray.empty)
 else selP text n ms
mutual
def Nd.pr:Nd->ByteArray
 | .mk op text n mode names ms kids=>prOf op text n.toNat mode names ms (Nd.prs kids) (kids.map Nd.two)
def Nd.prs:List Nd->List ByteArray
 | []=>[]
 | x::r=>Nd.pr x::Nd.prs r
end
inductive Wf:Nd->Prop
 | num {n:Nat} (h:n<=1000000000000):Wf (.mk tNum ByteArray.empty (n:Int) 0 [] [] [])
 | neg {x:Nd}:Wf x->Wf (.mk tNeg ByteArray.empty 0 0 [] [] [x])
 | bin {text:ByteArray} {mode:Int} {names:List ByteArray} {x y:Nd} (h:mode=0/\names=[]\/mode=1\/mode=2):Wf x->Wf y->Wf (.mk tBin text 0 mode names [] [x,y])
 | agg {text:ByteArray} {n:Nat} {mode:Int} {names:List ByteArray} {x:Nd} (h:n<=1000000000000) (hn:zU text=false->n=0) (hm:mode=0/\names=[]\/mode=1\/mode=2):Wf x->Wf (.mk tAgg text (n:Int) mode names [] [x])
 | fn {text:ByteArray} {x:Nd}:Wf x->Wf (.mk tFn text 0 0 [] [] [x])
 | sel {text:ByteArray} {n:Nat} {ms:List MatD} (h:n<=1000000000000) (hm:∀ m∈ms,1<=m.op/\m.op<=4):Wf (.mk nSel text (n:Int) 0 [] ms [])
section
variable {text:ByteArray} {n:Nat} {mode:Int} {names:List ByteArray} {ms:List MatD} {x y:Nd}
theorem aD9:(Nd.mk tNum text (n:Int) mode names ms []).pr=digB n:=by
 simp only[Nd.pr];unfold prOf;rw[aB rfl,vB]
theorem aC5:(Nd.mk tNeg text (n:Int) mode names ms [x]).pr=z6++zcA x.two x.pr:=by
 simp only[Nd.pr,Nd.prs];unfold prOf;rw[aA (by decide),aB rfl];rfl
theorem aBo:(Nd.mk tBin text (n:Int) mode names ms [x,y]).pr=binP text mode names (zcA x.two x.pr) (zcA y.two y.pr):=by
 simp only[Nd.pr,Nd.prs];unfold prOf;rw[aA (by decide),aA (by decide),aB rfl];rfl
theorem aCk:(Nd.mk tAgg text (n:Int) mode names ms [x]).pr=aggP text n mode names x.pr:=by
 simp only[Nd.pr,Nd.prs];unfold prOf;rw[aA (by decide),aA (by decide),aA (by decide),aB rfl,vB];rfl
theorem aMz:(Nd.mk tFn text (n:Int) mode names ms [x]).pr=fnP text x.pr:=by
 simp only[Nd.pr,Nd.prs];unfold prOf;rw[aA (by decide),aA (by decide),aA (by decide),aA (by decide),aB rfl];rfl
theorem aCy:(Nd.mk nSel text (n:Int) mode names ms []).pr=selP text n ms:=by
 simp only[Nd.pr,Nd.prs];unfold prOf;rw[aA (by decide),aA (by decide),aA (by decide),aA (by decide),aA (by decide),vB]
end
def wtOf (text:ByteArray) (names:List ByteArray) (ms:List MatD):Nat:=100+text.size+(zac names+20*names.length)+(zac (ms.map matP)+20*ms.length)
mutual
def Nd.wt:Nd->Nat
 | .mk _ text _ _ names ms kids=>wtOf text names ms+Nd.wtL kids
def Nd.wtL:List Nd->Nat
 | []=>0
 | x::r=>Nd.wt x+Nd.wtL r
end
theorem zam {n:Nat} (h:n<=1000000000000):(digB n).size<=20:=(by unfold digB;rw[zah];have:=qA h;omega)
theorem zcT (b:Bool) (t:ByteArray):(zcA b t).size<=t.size+2/\t.size<=(zcA b t).size:=by
 unfold zcA;split
 · have h1:zl.size=1:=rfl;have h2:zx.size=1:=rfl;simp only[cQ];omega
 omega
theorem zfn (l:List ByteArray):(namP l).size<=zac l+l.length+2:=by
 have h:=zaC (sep:=zu) O l;have h1:zl.size=1:=rfl;have h2:zx.size=1:=rfl;unfold namP;simp only[cQ];omega
theorem zcG (m:Int) {a b:ByteArray} {k:Nat} (ha:a.size<=k) (hb:b.size<=k):(zcl m a b).size<=k:=by unfold zcl;split<;>assumption
theorem aT3 (text:ByteArray) (mode:Int) (names:List ByteArray) (a b:ByteArray):(binP text mode names a b).size<=text.size+(zac names+names.length)+a.size+b.size+20:=by
 have h1:=zfn names;have h2:=zcG mode (show tOn.size<=8 by decide) (show zy.size<=8 by decide);have h3:tSp.size=1:=rfl;unfold binP;split<;>(simp only[cQ];omega)
theorem zfU (text:ByteArray) (mode:Int) (names:List ByteArray):(aggA text mode names).size<=text.size+(zac names+names.length)+20:=by
 have h1:=zfn names;have h2:=zcG mode (show tBy.size<=8 by decide) (show zm.size<=8 by decide);have h3:tSp.size=1:=rfl;unfold aggA;split<;>(try simp only[cQ])<;>omega
theorem aTr (text:ByteArray) {n:Nat} (hn:n<=1000000000000) (mode:Int) (names:List ByteArray) (a:ByteArray):(aggP text n mode names a).size<=text.size+(zac names+names.length)+a.size+60:=by
 have h1:=zfU text mode names;have h2:=zam hn;have h3:zl.size=1:=rfl;have h4:zx.size=1:=rfl;have h5:zu.size=1:=rfl;unfold aggP;split<;>(simp only[cQ];omega)
theorem yL (text:ByteArray) (ms:List MatD):(selA text ms).size<=text.size+(zac (ms.map matP)+ms.length)+2:=by
 have h:=zaC (sep:=zu) O (ms.map matP);rw[cV] at h;have h3:zH.size=1:=rfl;have h4:zA.size=1:=rfl;unfold selA;split<;>(try simp only[cQ])<;>omega
theorem aUw (text:ByteArray) {n:Nat} (hn:n<=1000000000000) (ms:List MatD):(selP text n ms).size<=text.size+(zac (ms.map matP)+ms.length)+30:=by
 have h1:=yL text ms;have h2:=zam hn;have h3:tSq.size=1:=rfl;have h4:tSec.size=2:=rfl;unfold selP;split<;>(try simp only[cQ])<;>omega
theorem zeO {q:Nd} (h:Wf q):q.pr.size+10<=q.wt:=by
 induction h with
 | num h=>rw[aD9];have:=zam h;simp only[Nd.wt,wtOf,Nd.wtL];omega
 | @neg x _ ih=>
  rw[show (Nd.mk tNeg ByteArray.empty 0 0 [] [] [x]).pr=_ from aC5 (n:=0)];have h1:=(zcT x.two x.pr).1;have h2:z6.size=1:=rfl;simp only[Nd.wt,wtOf,Nd.wtL,cQ];omega
 | @bin text mode names x y h _ _ ih1 ih2=>
  rw[show (Nd.mk tBin text 0 mode names [] [x,y]).pr=_ from aBo (n:=0)];have h1:=(zcT x.two x.pr).1;have h2:=(zcT y.two y.pr).1;have h3:=aT3 text mode names (zcA x.two x.pr) (zcA y.two y.pr);simp only[Nd.wt,wtOf,Nd.wtL];omega
 | @agg text n mode names x h hn hm _ ih=>
  rw[aCk];have h3:=aTr text h mode names x.pr;simp only[Nd.wt,wtOf,Nd.wtL];omega
 | @fn text x _ ih=>
  rw[show (Nd.mk tFn text 0 0 [] [] [x]).pr=_ from aMz (n:=0)];have h3:zl.size=1:=rfl;have h4:zx.size=1:=rfl;simp only[Nd.wt,wtOf,Nd.wtL,fnP,cQ];omega
 | @sel text n ms h hm=>
  rw[aCy];have h3:=aUw text h ms;simp only[Nd.wt,wtOf,Nd.wtL];omega
theorem aCa {l:List MatD} {m:MatD} (h:m∈l):(matP m).size<=zac (l.map matP):=by
 induction l with
 | nil=>cases h
 | cons y l ih=>
  have e:zac ((y::l).map matP)=(matP y).size+zac (l.map matP):=by simp[zac]
  rcases dH.1 h with h | h
  · rw[e,h];omega
  have:=ih h;omega
theorem aIc (l:List MatD) (k:Nat):zac ((l.take k).map matP)<=zac (l.map matP):=by
 have:=zdo (l.map matP) k
 rwa [<-jK] at this
theorem yW (m:MatD):(matP m).size=m.n.size+(zch m.op).size+(zak m.v).size:=by unfold matP;simp only[cQ]
def ordP (o:Int) (t:ByteArray):ByteArray:=if o=1 then t++tOAsc else if o=2 then t++tODesc else t
def limP (k:ByteArray) (n:Int) (t:ByteArray):ByteArray:=if 0<=n then t++(k++digB n.toNat) else t
def QryD.pr (q:QryD):ByteArray:=limP zb4 q.offset (limP zbb q.limit (ordP q.order q.root.pr))
end Lp
namespace Lp
open Go
def zeT (m:Nat) (p:Rd->Nd×Rd):Prop:=∀ s:Rd,s.l.length<=m->TOk s.l->(p s).2.b=false->Wf (p s).1
theorem eW (s:Rd) (a b:ByteArray):(s.mode a b).1=0/\(s.mode a b).2.1=[]\/(s.mode a b).1=1\/(s.mode a b).1=2:=by
 unfold Rd.mode;split
 · exact .inl ⟨O,O⟩
 split
 · exact .inr (.inl O)
 exact .inr (.inr O)
theorem zfM {s:Rd} {k:Int} (hk:k=2\/k=4) (hT:TOk s.l):∃ n:Nat,(s.number k).1=(n:Int)/\n<=1000000000000:=by
 have h:=zeq (s:=s) (s':=(s.number k).2) (k:=k) (v:=(s.number k).1) O hk hT;exact⟨(s.number k).1.toNat,by omega,by omega⟩
theorem kZ {part:Rd->Nd×Rd} {ts:List ByteArray} (hb:Bad part) (hs:∀ s,Stp 1 s (part s).2) {m:Nat} (hp:zeT m part):∀ (F:Nat) (o:Nd) (s:Rd),s.l.length<=m->TOk s.l->Wf o->(zaz part ts F o s).2.b=false->Wf (zaz part ts F o s).1
 | 0,o,s,_,_,h,_=>h
 | F+1,o,s,hm,hT,h,e=>by
  unfold zaz at e ⊢;split
  · exact h
  rename_i hc;rw[aA hc] at e;simp only at e ⊢;have t1:TOk (s.take 5 ts).2.2.l:=hT.suf (zC s 5 ts).l;have t2:TOk ((s.take 5 ts).2.2.mode tOn zy).2.2.l:=t1.suf (zaK _ _ _).l;have ep:(part ((s.take 5 ts).2.2.mode tOn zy).2.2).2.b=false:=zS zaR (zS (λq=>zbU q) e);have k1:=(zC s 5 ts).len;have k2:=(zaK (s.take 5 ts).2.2 tOn zy).len;have k3:=(hs ((s.take 5 ts).2.2.mode tOn zy).2.2).len;have w:=hp _ (by omega) t2 ep;refine kZ hb hs hp F _ _ (by show (part _).2.l.length<=m;omega) ?_ (.bin (eW _ _ _ |>.imp (λx=>x) (λx=>x)) h w) e;exact t2.suf (hs _).l
theorem eU {part:Rd->Nd×Rd} {ts:List ByteArray} (hb:Bad part) (hs:∀ s,Stp 1 s (part s).2) {m:Nat} (hp:zeT m part):zeT m (λs=>s.level part ts):=λs hm hT e=>by
 have ep:(part s).2.b=false:=zS (λq=>zbU q) e;have k3:=(hs s).len;exact kZ hb hs hp _ _ _ (by omega) (hT.suf (hs s).l) (hp s hm hT ep) e
section
variable (rm:List MatD->Bool)
theorem aYu {s:Rd} (h:(s.take 5 [tEq,tNe,zab,zz]).2.1=true):1<=opM (s.take 5 [tEq,tNe,zab,zz]).1/\opM (s.take 5 [tEq,tNe,zab,zz]).1<=4:=by
 have hg:=zaY (by decide) h;have hi:=hg.2.2.2.2;have e1:(s.take 5 [tEq,tNe,zab,zz]).1=s.pk.t:=by unfold Rd.take;rw[aA (by rw[hg.2.2.1,hi];simp)]
 rw[e1];have hh:hasN [tEq,tNe,zab,zz] s.pk.t=true:=by unfold Rd.is at hi;exact(cY _ _ ▸ hi).2
 unfold opM;by_cases a1:s.pk.t=tEq
 · rw[aB a1];decide
 by_cases a2:s.pk.t=tNe
 · rw[aA a1,aB a2];decide
 by_cases a3:s.pk.t=zab
 · rw[aA a1,aA a2,aB a3];decide
 by_cases a4:s.pk.t=zz
 · rw[aA a1,aA a2,aA a3,aB a4];decide
 exfalso;unfold hasN at hh;simp only[jL,jX,d7,aI,dQ] at hh;rcases hh with hh | hh | hh | hh
 · exact a1 hh.symm
 · exact a2 hh.symm
 · exact a3 hh.symm
 exact a4 hh.symm
theorem gK:∀ (F:Nat) (o:List MatD) (s:Rd),(∀ m∈o,1<=m.op/\m.op<=4)->(zW F o s).2.b=false->∀ m∈(zW F o s).1,1<=m.op/\m.op<=4
 | 0,o,s,h,_=>h
 | F+1,o,s,h,e=>by
  unfold zW at e ⊢;split
  · exact h
  rename_i hb;rw[aA hb] at e;simp only at e ⊢;have hv:(Rd.any ⟨((s.any 1).2.take 5 [tEq,tNe,zab,zz]).2.2.l,((s.any 1).2.take 5 [tEq,tNe,zab,zz]).2.2.n,((s.any 1).2.take 5 [tEq,tNe,zab,zz]).2.2.b||!((s.any 1).2.take 5 [tEq,tNe,zab,zz]).2.1⟩ 3).2.b=false:=by
   split at e
   · rename_i hq;exact(zaY (by decide) hq).2.2.1
   rw[zeH] at e;exact e
  have hc:(((s.any 1).2.take 5 [tEq,tNe,zab,zz]).2.2.b||!((s.any 1).2.take 5 [tEq,tNe,zab,zz]).2.1)=false:=zS (λq=>zbZ (s:=⟨_,_,_⟩) q) hv;have hop:=aYu (by have:=(dK.1 hc).2;simpa using this);have hn:∀ m∈o++[(⟨(s.any 1).1,opM ((s.any 1).2.take 5 [tEq,tNe,zab,zz]).1,(Rd.any ⟨((s.any 1).2.take 5 [tEq,tNe,zab,zz]).2.2.l,((s.any 1).2.take 5 [tEq,tNe,zab,zz]).2.2.n,((s.any 1).2.take 5 [tEq,tNe,zab,zz]).2.2.b||!((s.any 1).2.take 5 [tEq,tNe,zab,zz]).2.1⟩ 3).1⟩:MatD)],1<=m.op/\m.op<=4:=λm hm=>by
   rcases jV.1 hm with hm | hm
   · exact h m hm
   rw[jJ.1 hm];exact hop
  split
  · rename_i hq;rw[aB hq] at e;exact gK F _ _ hn e
  exact hn
theorem aQj:∀ s:Rd,TOk s.l->(s.selector rm).2.b=false->Wf (s.selector rm).1:=λs hT e=>by
 unfold Rd.selector at e ⊢;simp only at e ⊢;have e3:=zS zaR e;have e2:=zS zeX e3;have t1:TOk s.selName.2.l:=by
  unfold Rd.selName;split
  · exact hT.suf (zav s 1).l
  exact hT
 have t2:TOk (s.selName.2.selMs rm s.selName.1).2.l:=by
  unfold Rd.selMs;split
  · exact t1.suf (zdk rm _).l
  exact t1
 have hw:∃ n:Nat,(s.selName.2.selMs rm s.selName.1).2.selWin.1=(n:Int)/\n<=1000000000000:=by
  unfold Rd.selWin;split
  · exact zfM (.inr O) (t2.suf (zC _ 5 _).l)
  exact⟨0,O,by decide⟩
 obtain ⟨n,h1,h2⟩:=hw;have hm:∀ m∈(s.selName.2.selMs rm s.selName.1).1,1<=m.op/\m.op<=4:=by
  unfold Rd.selMs at e2 ⊢;split
  · rename_i hc;rw[aB hc] at e2;unfold Rd.braces at e2 ⊢;split
    · exact λm hm=>by cases hm
    rename_i hd;rw[aA hd] at e2;have e2:(((zW _ [] (s.selName.2.must zH)).2.must zA).b||_)=false:=e2;exact gK _ _ _ (λm hm=>by cases hm) (zS z7 (dK.1 e2).1)
  exact λm hm=>by cases hm
 rw[h1];exact .sel h2 hm
theorem aJl {ex:Rd->Nd×Rd} (hb:Bad ex) {m:Nat} (hx:∀ a,a<m->zeT a ex):∀ s:Rd,s.l.length<=m->TOk s.l->(s.aggr ex).2.b=false->Wf (s.aggr ex).1:=λs hl hT e=>by
 unfold Rd.aggr at e ⊢;simp only at e ⊢;have e6:=zS z7 (zS zaR e);have e5:=hb.no e6;have e3:((s.any 1).2.mode tBy zm |>.2.2.must zl).b=false:=by
  by_cases hn:zU (s.any 1).1=true
  · rw[aB hn,aB hn] at e5;exact zS zbZ (zS z7 e5)
  rw[aA hn,aA hn] at e5;exact e5
 have e1:(s.any 1).2.b=false:=zS aCb (zS z7 e3);have l1:=zcz (s:=s) (by decide) e1;have l2:=(zaK (s.any 1).2 tBy zm).len;have l3:=(zr ((s.any 1).2.mode tBy zm).2.2 zl).len;have l4:=(zaB (((s.any 1).2.mode tBy zm).2.2.must zl) 2).len;have l5:=(zr ((((s.any 1).2.mode tBy zm).2.2.must zl).number 2).2 zu).len;have t1:TOk (s.any 1).2.l:=hT.suf (zav s 1).l;have t2:TOk ((s.any 1).2.mode tBy zm).2.2.l:=t1.suf (zaK _ _ _).l;have t3:TOk (((s.any 1).2.mode tBy zm).2.2.must zl).l:=t2.suf (zr _ _).l;have hm:=eW (s.any 1).2 tBy zm;by_cases hn:zU (s.any 1).1=true
 · simp only[aB hn] at e6 ⊢;obtain ⟨n,h1,h2⟩:=zfM (k:=2) (.inl rfl) t3;have t4:TOk ((((s.any 1).2.mode tBy zm).2.2.must zl).number 2).2.l:=t3.suf (zaB _ 2).l;have w:=hx _ (by omega) _ (cU _) (t4.suf (zr _ zu).l) e6;rw[h1];exact .agg h2 (λk=>by rw[hn] at k;cases k) hm w
 simp only[aA hn] at e6 ⊢;have w:=hx _ (by omega) _ (cU _) t3 e6;exact Wf.agg (n:=0) (by decide) (λ_=>rfl) hm w
theorem aLh {ex:Rd->Nd×Rd} (hb:Bad ex) {m:Nat} (hx:∀ a,a<m->zeT a ex):zeT m (λs=>s.prim rm ex):=λs hl hT e=>by
 have h0:s.b=false:=(zgm rm ex).no e;have hn:¬s.b=true:=by rw[h0];decide
 simp only[Rd.prim] at e ⊢;rw[aA hn] at e ⊢;split
 · obtain ⟨n,h1,h2⟩:=zfM (s:=s) (k:=2) (.inl rfl) hT;rw[h1];exact .num h2
 rename_i hc;rw[aA hc] at e;split
 · rename_i hd;rw[aB hd] at e;have e1:=zS z7 e;have l1:=zc3 (hb.no e1);exact hx _ (by omega) _ (cU _) (hT.suf (zr s zl).l) e1
 rename_i hd;rw[aA hd] at e;split
 · rename_i hf;rw[aB hf] at e;exact aJl hb hx s hl hT e
 rename_i hf;rw[aA hf] at e;split
 · rename_i hg;rw[aB hg] at e;simp only at e ⊢;have e1:=zS zaR (zS z7 e);have l1:=zc3 (hb.no e1);have l2:=(zav s 1).len;exact .fn (hx _ (by omega) _ (cU _) ((hT.suf (zav s 1).l).suf (zr _ zl).l) e1)
 rename_i hg;rw[aA hg] at e;exact aQj rm s hT e
theorem iS {ex:Rd->Nd×Rd} {m:Nat} (hp:zeT m (λs=>s.prim rm ex)):∀ (F:Nat) (s:Rd),s.l.length<F->s.l.length<=m->TOk s.l->(zaf rm ex F s).2.b=false->Wf (zaf rm ex F s).1
 | 0,s,h,_,_,_=>aH h (jH _)
 | F+1,s,hF,hm,hT,e=>by
  unfold zaf at e ⊢;have k1:=(zC s 5 [z6]).len;have t1:TOk (s.take 5 [z6]).2.2.l:=hT.suf (zC s 5 [z6]).l;split
  · rename_i hc;rw[aB hc] at e;simp only at e ⊢;have hg:=zaY (by decide) hc;exact .neg (iS hp F _ (by omega) (by omega) t1 (zS zaR e))
  rename_i hc;rw[aA hc] at e;exact hp _ (by omega) t1 e
theorem aHu {ex:Rd->Nd×Rd} (hb:Bad ex) (hs:∀ s,Stp 1 s (ex s).2) {m:Nat} (hx:∀ a,a<m->zeT a ex):zeT m (zcY rm ex):=
 eU (λs h=>zei rm ex _ s h) (λs=>zb1 rm hs _ s) (λs hm hT e=>iS rm (aLh rm hb hx) _ s (jB _) hm hT e)
theorem aBs {ex:Rd->Nd×Rd} (hb:Bad ex) (hs:∀ s,Stp 1 s (ex s).2) {m:Nat} (hx:∀ a,a<m->zeT a ex):zeT m (sumP rm ex):=
 eU (zf2 rm ex) (λs=>zde rm hs s) (aHu rm hb hs hx)
theorem rO:∀ f:Nat,zeT f (zas rm (f+1))
 | 0=>eU (zeW rm _) (λs=>zb5 rm (zap rm _) s) (aBs rm (zef rm _) (zap rm _) (λa ha=>aH ha (jH _)))
 | f+1=>eU (zeW rm _) (λs=>zb5 rm (zap rm _) s) (aBs rm (zef rm _) (zap rm _) (λa ha s hl hT e=>rO f s (by omega) hT e))
theorem aMl {l:List TokD} {q:QryD} (hT:TOk l) (h:zbN rm l=some q):Wf q.root:=by
 obtain ⟨h1,h2,_⟩:=eQ rm h;rw[<-h1];exact rO rm l.length ⟨l,0,false⟩ (cU _) hT h2
end
theorem pJ {s:ByteArray} (h:zbf s=0):Wf (zag s).root:=by
 obtain ⟨h1,h2⟩:=zfJ h;exact aMl rmD (ze7 s) h2
end Lp
namespace Lp
open Go
def Bd (s:Rd):Prop:=s.b=true\/200<s.n
theorem Sk.bd {c:Int} {s t:Rd} (h:Sk c s t) (k:Bd s):Bd t:=k.imp h.b (λe=>by have:=h.p.n;omega)
structure Sm {α:Type} (p r:α×Rd):Prop where
 g:p.2.b=false->r=p
 d:p.2.b=true->Bd r.2
theorem kK {α:Type} (p:α×Rd):Sm p p:=⟨λ_=>rfl,.inl⟩
theorem Sm.no {α:Type} {p r:α×Rd} (h:p.2.b=true) (k:Bd r.2):Sm p r:=⟨λe=>(by rw[h] at e;cases e),λ_=>k⟩
section
variable {s t:Rd} {k:Int} {x y:ByteArray} {ts:List ByteArray}
theorem bf (h:¬s.b=true):s.b=false:=by simpa using h
theorem zb3 (hb:s.b=false):s.is7 k x=s.is k [x]:=by unfold Rd.is7;rw[hb];rfl
theorem zcn (hb:s.b=false) (hi:s.is k ts=true):s.take k ts=(s.pk.t,true,s.tl):=by unfold Rd.take;rw[aA (by rw[hb,hi];simp)];rfl
theorem zet (hb:s.b=false) (hi:s.is 5 [x]=true):s.must x=s.tl:=by
 unfold Rd.must;rw[zcn hb hi];simp only[wI,dQ]
theorem zd9 (hb:s.b=false) (hk:s.pk.k=k):s.any k=(s.pk.t,s.tl):=by unfold Rd.any;rw[aA (by rw[hb,hk];simp)];rfl
theorem zgN (h:s.is k [x]=true):s.pk.t=x:=by
 unfold Rd.is hasN at h;simp at h;exact h.2.symm
theorem aW9 {a b:ByteArray}:s.is k [a,b]=(s.is k [a]||s.is k [b]):=by
 unfold Rd.is hasN;simp only[jL,jX,dQ];cases decide (s.pk.k=k)<;>simp
theorem kQ {F:Nat} {o:List ByteArray} (h:s.b=true):(zaO F o s).2.b=true:=(fX F o s).b h
theorem tI:∀ (F F':Nat) (o:List ByteArray) (s:Rd),s.b=false->s.l.length<F->s.l.length<=F'->Sm ((zaF F o s).1,(zaF F o s).2.must zx) ((zaO F' (o++[(s.any 1).1]) (s.any 1).2).1,(zaO F' (o++[(s.any 1).1]) (s.any 1).2).2.must zx)
 | 0,_,_,_,_,h,_=>aH h (jH _)
 | F+1,F',o,s,hb,hF,hF'=>by
  unfold zaF;rw[aA (by rw[hb];decide)];by_cases ha:(s.any 1).2.b=true
  · rw[zcU ha];exact Sm.no (z7 ha) (.inl (z7 (kQ ha)))
  have ha:=bf ha;have hl:=zcz (s:=s) (by decide) ha;obtain ⟨F',rfl⟩:∃ j,F'=j+1:=⟨F'-1,by omega⟩;have hlo:0<(o++[(s.any 1).1]).length:=by simp
  by_cases hc:(s.any 1).2.is 5 [zx]=true
  · have hm:(s.any 1).2.is 5 [zu]=false:=by
     have:=zgN hc;unfold Rd.is;rw[this];rw[show hasN [zu] zx=false by decide,jI]
    rw[zba (.inr hm),aA (by simp)];unfold zaO;rw[aB (.inr (by rw[zb3 ha];exact hc))];exact kK _
  have e7:zaO (F'+1) (o++[(s.any 1).1]) (s.any 1).2=zaO F' ((o++[(s.any 1).1])++[(((s.any 1).2.must zu).any 1).1]) (((s.any 1).2.must zu).any 1).2:=by
   conv=>lhs;unfold zaO
   rw[aA (by rw[zb3 ha,ha];simp only[uV,false_or];exact hc)];simp only[aB hlo]
  rw[e7];by_cases hm:(s.any 1).2.is 5 [zu]=true
  · rw[zcn ha hm,aB rfl,zet ha hm];have hl2:=(zeb (zfA (by decide) hm)).2;exact tI F F' _ (s.any 1).2.tl ha (by omega) (by omega)
  have hm:(s.any 1).2.is 5 [zu]=false:=by simpa using hm
  rw[zba (.inr hm),aA (by simp)];refine Sm.no (gZ (by simpa using hc)) (.inl (z7 (kQ (zbZ ?_))));exact gZ hm
theorem aM9 (s:Rd) (hb:s.b=false):Sm s.names s.names7:=by
 unfold Rd.names Rd.names7;simp only;by_cases h1:(s.must zl).b=true
 · have hr:((zaO ((s.must zl).l.length+1) [] (s.must zl)).2.must zx).b=true:=z7 (kQ h1);split
   · exact Sm.no (z7 h1) (.inl hr)
   exact Sm.no (z7 (qL h1)) (.inl hr)
 have h1:=bf h1;by_cases hc:(s.must zl).is 5 [zx]=true
 · rw[aB hc];unfold zaO;rw[aB (.inr (by rw[zb3 h1];exact hc))];exact kK _
 rw[aA hc];have e:zaO ((s.must zl).l.length+1) [] (s.must zl)=zaO (s.must zl).l.length ([]++[((s.must zl).any 1).1]) ((s.must zl).any 1).2:=by
  conv=>lhs;unfold zaO
  rw[aA (by rw[zb3 h1,h1];simp only[uV,false_or];exact hc)];rfl
 rw[e];exact tI _ _ [] _ h1 (jB _) (cU _)
theorem aK9 (s:Rd) (hb:s.b=false) (hxy:x≠y):((s.mode x y).2.2.b=false->s.mode7 x y=s.mode x y)/\((s.mode x y).2.2.b=true->Bd (s.mode7 x y).2.2):=by
 unfold Rd.mode Rd.mode7;rw[zb3 hb,zb3 hb];by_cases hi:s.is 1 [x,y]=true
 · have hor:s.is 1 [x]=true\/s.is 1 [y]=true:=(by rw[aW9,d7] at hi;exact hi);rw[zcn hb hi,aA (by simp),aB hor];have hn:=aM9 s.tl hb;by_cases ht:s.pk.t=x
   · have hy:¬s.is 1 [y]=true:=λh=>hxy (ht.symm.trans (zgN h))
     rw[aA hy,aB (show (s.pk.t,true,s.tl).1=x from ht)];exact⟨λe=>(by rw[hn.g e]),hn.d⟩
   have hy:s.is 1 [y]=true:=by
    rw[aW9,d7] at hi;rcases hi with h | h
    · exact aH (zgN h) ht
    exact h
   rw[aB hy,aA (show ¬(s.pk.t,true,s.tl).1=x from ht)];exact⟨λe=>(by rw[hn.g e]),hn.d⟩
 have hi:s.is 1 [x,y]=false:=by simpa using hi
 rw[zba (.inr hi),aB rfl,aA (by rw[aW9,dK] at hi;rw[hi.1,hi.2];simp)];exact⟨λ_=>rfl,.inl⟩
theorem aAr (hb:s.b=false) (hn:¬200<s.n+1):s.node=s.node7:=by
 unfold Rd.node Rd.node7;rw[hb,aD hn];rfl
theorem aA1 (hn:200<s.n+1):s.node.b=true:=by unfold Rd.node;rw[aE hn];simp
theorem aAw {α β:Type} (z:β) {p r:α×Rd} (h:Sm p r):Sm (z,p.2.node) (z,r.2.node7):=by
 by_cases hb:p.2.b=true
 · exact Sm.no (zaR hb) (zbg.bd (h.d hb))
 have hb:=bf hb;rw[h.g hb];by_cases hn:200<p.2.n+1
 · exact Sm.no (aA1 hn) (.inr hn)
 rw[aAr hb hn];exact kK _
end
def Al (m:Nat) (p r:Rd->Nd×Rd):Prop:=∀ s:Rd,s.b=false->s.l.length<=m->Sm (p s) (r s)
theorem xA {part part7:Rd->Nd×Rd} {ts:List ByteArray} {m:Nat} (hb:Bad part) (hs:∀ s,Stp 1 s (part s).2) (h7:∀ s,Sk 1 s (part7 s).2) (hp:Al m part part7):∀ (F F':Nat) (o:Nd) (s:Rd),s.b=false->s.l.length<F->s.l.length<F'->s.l.length<=m->Sm (zaz part ts F o s) (zcj part7 ts F' o s)
 | 0,_,_,_,_,h,_,_=>aH h (jH _)
 | _,0,_,_,_,_,h,_=>aH h (jH _)
 | F+1,F'+1,o,s,hsb,hF,hF',hm=>by
  unfold zaz zcj;by_cases hi:s.is 5 ts=true
  · have hl2:=(zeb (zfA (by decide) hi)).2;rw[zcn hsb hi,aA (by simp),aA (by rw[hsb,hi];simp)];simp only;obtain ⟨m1,m2⟩:=aK9 (x:=tOn) (y:=zy) s.tl hsb (by decide);have k2:=(zaK s.tl tOn zy).len;by_cases hmb:(s.tl.mode tOn zy).2.2.b=true
    · exact Sm.no (zbU (zaR (hb _ hmb))) ((zdg h7 _ _ _).bd (zbg.bd ((h7 _).bd (m2 hmb))))
    have hmb:=bf hmb;rw[m1 hmb];have hq:=hp (s.tl.mode tOn zy).2.2 hmb (by omega);by_cases hqb:(part (s.tl.mode tOn zy).2.2).2.b=true
    · exact Sm.no (zbU (zaR hqb)) ((zdg h7 _ _ _).bd (zbg.bd (hq.d hqb)))
    have hqb:=bf hqb;rw[hq.g hqb];by_cases hn:200<(part (s.tl.mode tOn zy).2.2).2.n+1
    · exact Sm.no (zbU (aA1 hn)) ((zdg h7 _ _ _).bd (.inr hn))
    rw[aAr hqb hn];have k3:=(hs (s.tl.mode tOn zy).2.2).len;exact xA hb hs h7 hp F F' _ _ hqb (by show (part _).2.l.length<F;omega) (by show (part _).2.l.length<F';omega) (by show (part _).2.l.length<=m;omega)
  have hi:s.is 5 ts=false:=by simpa using hi
  rw[zba (.inr hi),aB rfl,aB (.inr hi)];exact kK _
theorem gY {part part7:Rd->Nd×Rd} {ts:List ByteArray} {m:Nat} (hb:Bad part) (hs:∀ s,Stp 1 s (part s).2) (h7:∀ s,Sk 1 s (part7 s).2) (hp:Al m part part7):Al m (λs=>s.level part ts) (λs=>s.level7 part7 ts):=λs hsb hm=>by
 have h:=hp s hsb hm;have k3:=(hs s).len;simp only[Rd.level,Rd.level7];by_cases hpb:(part s).2.b=true
 · exact Sm.no (zbU hpb) ((zdg h7 _ _ _).bd (h.d hpb))
 have hpb:=bf hpb;rw[h.g hpb];exact xA hb hs h7 hp _ _ _ _ hpb (jB _) (jB _) (by omega)
def Rd.mat (s:Rd):MatD×Rd:=
 let a:=s.any 1;let c:=a.2.take 5 [tEq,tNe,zab,zz];let v:=Rd.any ⟨c.2.2.l,c.2.2.n,c.2.2.b||!c.2.1⟩ 3
 (⟨a.1,opM c.1,v.1⟩,v.2)
def Rd.mat7 (s:Rd):MatD×Rd:=
 let a:=s.any 1;let c:=a.2.any 5;let v:=(c.2.bd (decide (opM c.1=0))).any 3
 (⟨a.1,opM c.1,v.1⟩,v.2)
theorem opM_0 {t:ByteArray}:opM t=0↔hasN [tEq,tNe,zab,zz] t=false:=by
 unfold opM hasN;simp only[jL,jX,dQ,dK,aJ];by_cases a1:t=tEq
 · rw[aB a1];exact⟨λh=>(by cases h),λh=>aH a1.symm h.1⟩
 by_cases a2:t=tNe
 · rw[aA a1,aB a2];exact⟨λh=>(by cases h),λh=>aH a2.symm h.2.1⟩
 by_cases a3:t=zab
 · rw[aA a1,aA a2,aB a3];exact⟨λh=>(by cases h),λh=>aH a3.symm h.2.2.1⟩
 by_cases a4:t=zz
 · rw[aA a1,aA a2,aA a3,aB a4];exact⟨λh=>(by cases h),λh=>aH a4.symm h.2.2.2⟩
 rw[aA a1,aA a2,aA a3,aA a4];exact⟨λ_=>⟨λe=>a1 e.symm,λe=>a2 e.symm,λe=>a3 e.symm,λe=>a4 e.symm⟩,λ_=>rfl⟩
theorem a0w (s:Rd) (hb:s.b=false):(s.mat.2.b=false->s.mat7=s.mat)/\(s.mat.2.b=true->s.mat7.2.b=true):=by
 unfold Rd.mat Rd.mat7;simp only;by_cases ha:(s.any 1).2.b=true
 · rw[zcU ha];have e1:(Rd.any ⟨(s.any 1).2.l,(s.any 1).2.n,(s.any 1).2.b||!false⟩ 3).2.b=true:=zbZ (s:=⟨_,_,_⟩) (by simp);have e2:((((s.any 1).2.any 5).2.bd (decide (opM ((s.any 1).2.any 5).1=0))).any 3).2.b=true:=zbZ (zfx.b (zbZ ha));exact⟨λe=>(by rw[e1] at e;cases e),λ_=>e2⟩
 have ha:=bf ha;by_cases hi:(s.any 1).2.is 5 [tEq,tNe,zab,zz]=true
 · rw[zcn ha hi,zd9 ha (is_k hi)];have h4:¬opM (s.any 1).2.pk.t=0:=λe=>by
    have:=opM_0.1 e;unfold Rd.is at hi;rw[this,jI] at hi;cases hi
   have e:(s.any 1).2.tl.bd (decide (opM (s.any 1).2.pk.t=0))=⟨(s.any 1).2.tl.l,(s.any 1).2.tl.n,(s.any 1).2.tl.b||!true⟩:=(by unfold Rd.bd;rw[aD h4];rfl);rw[e];exact⟨λ_=>rfl,id⟩
 have hi:(s.any 1).2.is 5 [tEq,tNe,zab,zz]=false:=by simpa using hi
 rw[zba (.inr hi)];have e1:(Rd.any ⟨(s.any 1).2.l,(s.any 1).2.n,(s.any 1).2.b||!false⟩ 3).2.b=true:=zbZ (s:=⟨_,_,_⟩) (by simp);refine⟨λe=>(by rw[e1] at e;cases e),λ_=>zbZ ?_⟩;by_cases hk:(s.any 1).2.pk.k=5
 · rw[zd9 ha hk];have h4:opM (s.any 1).2.pk.t=0:=opM_0.2 (by
    unfold Rd.is at hi;rw[hk] at hi;simpa using hi)
   unfold Rd.bd;rw[aE h4];simp
 exact zfx.b (by rw[zeh (.inr hk)])
theorem lW {F:Nat} {o:List MatD} {s:Rd} (h:s.b=true):(zay F o s).2.b=true:=(fC F o s).b h
theorem aVr {s:Rd} (e:s.mat.2.b=false):s.mat.2.l.length+1<=s.l.length:=by
 unfold Rd.mat at e ⊢;simp only at e ⊢;have hc:=zS (λq=>zbZ (s:=⟨_,_,_⟩) q) e;have ha:(s.any 1).2.b=false:=by have:=(dK.1 hc).1;rw[zeH] at this;exact this
 have l1:=zcz (s:=s) (by decide) ha;have l2:=(zC (s.any 1).2 5 [tEq,tNe,zab,zz]).len;have l3:=zcz (by decide) e;simp only at l3;omega
theorem lU:∀ (F F':Nat) (o:List MatD) (s:Rd),s.b=false->s.l.length<F->s.l.length<=F'->Sm ((zW F o s).1,(zW F o s).2.must zA) ((zay F' (o++[s.mat7.1]) s.mat7.2).1,(zay F' (o++[s.mat7.1]) s.mat7.2).2.must zA)
 | 0,_,_,_,_,h,_=>aH h (jH _)
 | F+1,F',o,s,hb,hF,hF'=>by
  have e0:zW (F+1) o s=if (s.mat.2.take 5 [zu]).2.1=true then zW F (o++[s.mat.1]) (s.mat.2.take 5 [zu]).2.2 else(o++[s.mat.1],(s.mat.2.take 5 [zu]).2.2):=by
   conv=>lhs;unfold zW
   rw[aA (by rw[hb];decide)];rfl
  rw[e0];obtain ⟨m1,m2⟩:=a0w s hb;by_cases ha:s.mat.2.b=true
  · rw[zcU ha];exact Sm.no (z7 ha) (.inl (z7 (lW (m2 ha))))
  have ha:=bf ha;rw[m1 ha];have hl:=aVr ha;obtain ⟨F',rfl⟩:∃ j,F'=j+1:=⟨F'-1,by omega⟩;have hlo:0<(o++[s.mat.1]).length:=by simp
  by_cases hc:s.mat.2.is 5 [zA]=true
  · have hm:s.mat.2.is 5 [zu]=false:=by
     have:=zgN hc;unfold Rd.is;rw[this];rw[show hasN [zu] zA=false by decide,jI]
    rw[zba (.inr hm),aA (by simp)];unfold zay;rw[aB (.inr (by rw[zb3 ha];exact hc))];exact kK _
  have e7:zay (F'+1) (o++[s.mat.1]) s.mat.2=zay F' ((o++[s.mat.1])++[(s.mat.2.must zu).mat7.1]) (s.mat.2.must zu).mat7.2:=by
   conv=>lhs;unfold zay
   rw[aA (by rw[zb3 ha,ha];simp only[uV,false_or];exact hc)];simp only[aB hlo];rfl
  rw[e7];by_cases hm:s.mat.2.is 5 [zu]=true
  · rw[zcn ha hm,aB rfl,zet ha hm];have hl2:=(zeb (zfA (by decide) hm)).2;exact lU F F' _ s.mat.2.tl ha (by omega) (by omega)
  have hm:s.mat.2.is 5 [zu]=false:=by simpa using hm
  rw[zba (.inr hm),aA (by simp)];refine Sm.no (gZ (by simpa using hc)) (.inl (z7 (lW ?_)));unfold Rd.mat7;simp only;exact zbZ (zfx.b (zbZ (zbZ (gZ hm))))
end Lp
