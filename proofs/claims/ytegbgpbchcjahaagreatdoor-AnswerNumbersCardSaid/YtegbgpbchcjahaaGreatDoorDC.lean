import Derived.Test.YtegbgpbchcjahaaGreatDoorDB
set_option linter.all false
namespace Lp
open Go Go.RowKit
def lkO (ρ:Env):List Operand->Kn
 | []=>[]
 | .tmp t::r=>(t,ρ t)::lkO ρ r
 | _::r=>lkO ρ r
def aCw (ρ:Env):∀ (xs:List Operand) (t:Nat),.tmp t∈xs->look (lkO ρ xs) t=some (ρ t)
 | [],t,h=>by cases h
 | x::r,t,h=>by
  have tl:.tmp t∈r->look (lkO ρ r) t=some (ρ t):=aCw ρ r t;cases x with
  | tmp s=>
   simp only[lkO,look];by_cases e:t=s
   · subst e;rw[show Nat.beq t t=true from jT t];rfl
   rw[zbx e];simp only[cond_false];refine tl ?_;rcases dD.1 h with h | h
   · injection h with h;exact aH h e
   exact h
  | const c=>exact tl (by rcases dD.1 h with h | h;(· cases h);exact h)
  | global c=>exact tl (by rcases dD.1 h with h | h;(· cases h);exact h)
  | func c=>exact tl (by rcases dD.1 h with h | h;(· cases h);exact h)
def zo (ρ:Env):∀ xs:List Operand,zai ρ (lkO ρ xs)
 | [],t,v,h=>by simp[lkO,look] at h
 | x::r,t,v,h=>by
  cases x with
  | tmp s=>
   simp only[lkO,look] at h;by_cases e:t=s
   · subst e;rw[show Nat.beq t t=true from jT t] at h;simp only[cond_true,cX] at h;exact h
   rw[zbx e] at h;simp only[cond_false] at h;exact zo ρ r t v h
  | const c=>exact zo ρ r t v h
  | global c=>exact zo ρ r t v h
  | func c=>exact zo ρ r t v h
def zfS (ρ:Env) {xs:List Operand} {x:Operand} (h:x∈xs):opv (lkO ρ xs) x=some (ev ρ x):=by
 cases x with
 | tmp t=>exact aCw ρ xs t h
 | const c=>rfl
 | global c=>rfl
 | func c=>rfl
def opv1 (ρ:Env) {x:Operand} {u:Value} (h:ev ρ x=u):opv (lkO ρ [x]) x=some u:=by rw[zfS ρ cR,h]
def zbn (ρ:Env) {x y:Operand} {u:Value} (h:ev ρ x=u):opv (lkO ρ [x,y]) x=some u:=by rw[zfS ρ cR,h]
def zbm (ρ:Env) {x y:Operand} {u:Value} (h:ev ρ y=u):opv (lkO ρ [x,y]) y=some u:=by rw[zfS ρ (by simp),h]
def zeC (ρ:Env) (ys:List Operand):∀ xs:List Operand,(∀ x∈xs,x∈ys)->opvs (lkO ρ ys) xs=some (xs.map (ev ρ))
 | [],_=>rfl
 | x::r,h=>by
  unfold opvs;rw[zfS ρ (h x cR),zeC ρ ys r (λy hy=>h y (cV _ hy))];rfl
def zgA:D->Option Ba
 | .s b=>some b
 | .v (.string b)=>some b
 | _=>none
def aHl {w:World} {F:Nat->Prop} {d:D} {u:Value} {b:Ba} (h:D.rep w F d u) (e:zgA d=some b):u=.string b:=by
 cases d with
 | s c=>simp only[zgA,cX] at e;subst e;exact h.1
 | v a=>
  have h:u=a:=h;subst h;cases u<;>simp[zgA] at e
  subst e;rfl
 | _=>simp[zgA] at e
def opS (K:Kd) (x:Operand):Option Ba:=match opD K x with
 | some d=>zgA d
 | none=>none
def KOk.opS {w:World} {F:Nat->Prop} {ρ:Env} {K:Kd} (h:KOk w F ρ K) {x:Operand} {b:Ba} (hx:opS K x=some b):ev ρ x=.string b:=by
 unfold Lp.opS at hx;cases hd:opD K x with
 | none=>rw[hd] at hx;cases hx
 | some d=>rw[hd] at hx;exact aHl (h.op hd) hx
def asO:D->Option Value
 | .ov v=>some v
 | .v v=>some v
 | _=>none
def yM {w:World} {F:Nat->Prop} {d:D} {u v:Value} (h:D.rep w F d u) (e:asO d=some v):u=v:=by
 cases d with
 | ov c=>simp only[asO,cX] at e;subst e;exact h.1
 | v c=>simp only[asO,cX] at e;subst e;exact h
 | _=>simp[asO] at e
def opO (K:Kd) (x:Operand):Option Value:=match opD K x with
 | some d=>asO d
 | none=>none
def KOk.opO {w:World} {F:Nat->Prop} {ρ:Env} {K:Kd} (h:KOk w F ρ K) {x:Operand} {v:Value} (hx:opO K x=some v):ev ρ x=v:=by
 unfold Lp.opO at hx;cases hd:opD K x with
 | none=>rw[hd] at hx;cases hx
 | some d=>rw[hd] at hx;exact yM (h.op hd) hx
def zd {α β:Type} {f:α->β} {l:List α} {k:Nat} {x:α} (h:l[k]?=some x):(l.map f)[k]?=some (f x):=by rw[d9,h];rfl
section pure
variable {P:Program} {ty:TypeId} {K:Kd} {H:List Hp}
def zb {x:Operand} {d:D} (hx:opD K x=some d):Pu P (.move x) ty K H d:=
 ⟨λρ w F hk _ _=>aWr (zo ρ [x]) (opv1 ρ rfl) ⟨rfl,hk.op hx⟩⟩
def zeB {x:Operand} {d:D} (hx:opD K x=some d):Pu P (.assign x) ty K H d:=
 ⟨λρ w F hk _ _=>aKx (zo ρ [x]) (opv1 ρ rfl) ⟨rfl,hk.op hx⟩⟩
def Pu.cv {op:Op} {d d':D} (h:Pu P op ty K H d) (c:Cv d d'):Pu P op ty K H d':=
 ⟨λρ w F hk hF hH=>(h.out ρ w F hk hF hH).mono λ_ _ ⟨e,hr⟩=>by subst e;exact⟨rfl,c.out _ _ _ hr⟩⟩
def zcJ {c x y:Operand} {d:D} (hc:opD K c=some (.v (.bool true))) (hx:opD K x=some d):Pu P (.pick c x y) ty K H d:=
 ⟨λρ w F hk _ _=>aJ4 (zo ρ [c,x]) (zbn ρ (hk.op hc)) (zbm ρ rfl) ⟨rfl,hk.op hx⟩⟩
def zaY {c x y:Operand} {d:D} (hc:opD K c=some (.v (.bool false))) (hx:opD K y=some d):Pu P (.pick c x y) ty K H d:=
 ⟨λρ w F hk _ _=>aNc (zo ρ [c,y]) (zbn ρ (hk.op hc)) (zbm ρ rfl) ⟨rfl,hk.op hx⟩⟩
def pH {x:Operand} {X:D} {o:Nat} (hx:opD K x=some (.el X o)):Pu P (.nilCheck x) ty K H (.el X o):=
 ⟨λρ w F hk _ _=>by
  have h:=hk.op hx;obtain ⟨b,p,u,e,hr⟩:=h;exact nH (zo ρ [x]) (opv1 ρ e) ⟨rfl,b,p,u,rfl,hr⟩⟩
def fK {x:Operand} {a:Addr} (hx:opD K x=some (.v (.pointer (some a)))):Pu P (.nilCheck x) ty K H (.v (.pointer (some a))):=
 ⟨λρ w F hk _ _=>nH (zo ρ [x]) (opv1 ρ (hk.op hx)) ⟨rfl,rfl⟩⟩
def zk {s f:Nat} {x:Operand} {g o k o':Nat} (hx:opD K x=some (.v (.pointer (some ⟨g,o,none⟩))))
 (hf:∀ b o w,(Instr.fieldAt s (.pointer (some ⟨b,o,none⟩)) f).run P w=.ok (.pointer (some ⟨b,o+k,none⟩)) w) (ho:o+k=o'):Pu P (.fieldAddr s x f) ty K H (.v (.pointer (some ⟨g,o',none⟩))):=
 ⟨λρ w F hk _ _=>kC (zo ρ [x]) (opv1 ρ (hk.op hx)) (hf g o) ⟨rfl,by subst ho;rfl⟩⟩
def zz {s f:Nat} {x:Operand} {X:D} {o k o':Nat} (hx:opD K x=some (.el X o))
 (hf:∀ b o w,(Instr.fieldAt s (.pointer (some ⟨b,o,none⟩)) f).run P w=.ok (.pointer (some ⟨b,o+k,none⟩)) w) (ho:o+k=o'):Pu P (.fieldAddr s x f) ty K H (.el X o'):=
 ⟨λρ w F hk _ _=>by
  obtain ⟨b,p,u,e,hr⟩:=hk.op hx;exact kC (zo ρ [x]) (opv1 ρ e) (hf b (p+o)) ⟨rfl,b,p,u,by subst ho;rw[vH],hr⟩⟩
def zfE (X:D) (o n:Nat):D:=.agg ((X.cells.drop o).take n)
def qF {t:TypeId} {x:Operand} {w:World} {F:Nat->Prop} {ρ:Env} {X:D} {u:Value} {b p o n:Nat} (he:ev ρ x=.pointer (some ⟨b,p+o,none⟩)) (hg:∀ w,(isAgg t).run P w=.ok true w) (hs:∀ w,(Go.sizeOf t).run P w=.ok n w)
 (hr:D.rep w F X u) (h1:One u) (hat:At w b p (vcs u)) (hn:o+n<=X.cells.length):EOp P (.load t x) ty ρ w (λv w'=>w'=w/\D.rep w F (zfE X o n) v):=by
 have hl:=wZ hr h1;have hlen:=zbl hl;have hat':=hat.sub o n;have hn':(((vcs u).drop o).take n).length=n:=by simp only[cY,c7,hlen];omega
 exact aSw (zo ρ [x]) (opv1 ρ he) hg (by rw[hn'];exact hs) hat' ⟨rfl,_,rfl,zdE n (zdF o hl)⟩
def qO {t:TypeId} {x:Operand} {w:World} {F:Nat->Prop} {ρ:Env} {X d:D} {u:Value} {b p o:Nat} (he:ev ρ x=.pointer (some ⟨b,p+o,none⟩)) (hg:∀ w,(isAgg t).run P w=.ok false w)
 (hr:D.rep w F X u) (h1:One u) (hat:At w b p (vcs u)) (hd:nth X.cells o=some d):EOp P (.load t x) ty ρ w (λv w'=>w'=w/\D.rep w F d v):=by
 rw[zaH] at hd;obtain ⟨v,e1,e2,e3⟩:=pK (wZ hr h1) hd;exact aS8 (zo ρ [x]) (opv1 ρ he) hg (hat.2 o v e1) ⟨rfl,e3⟩
def zbb {t:TypeId} {x:Operand} {X d:D} {o n:Nat} (hx:opD K x=some (.el X o)) (hg:∀ w,(isAgg t).run P w=.ok true w) (hs:∀ w,(Go.sizeOf t).run P w=.ok n w) (hn:Nat.ble (o+n) X.cells.length=true) (hd:zfE X o n=d):Pu P (.load t x) ty K H d:=
 ⟨λρ w F hk _ _=>by
  obtain ⟨b,p,u,e,_,hr,h1,hat⟩:=hk.op hx;exact hd ▸ qF e hg hs hr h1 hat (dE hn)⟩
def zJ {t:TypeId} {x:Operand} {X d:D} {o:Nat} (hx:opD K x=some (.el X o)) (hg:∀ w,(isAgg t).run P w=.ok false w) (hd:nth X.cells o=some d):Pu P (.load t x) ty K H d:=
 ⟨λρ w F hk _ _=>by
  obtain ⟨b,p,u,e,_,hr,h1,hat⟩:=hk.op hx;exact qO e hg hr h1 hat hd⟩
def zU {α:Type} {l:List α} {i:Nat} {x:α} (h:nth l i=some x):x∈l:=by rw[zaH] at h;exact dA h
def aMc {w:World} {F:Nat->Prop} {g:Nat} {T:TypeId} {X:D} (h:(Hp.bx g T X).ok w F):∃ u,D.rep w F X u/\One u/\At w g 0 (vcs u):=by
 obtain ⟨u,h1,h2,h3⟩:=h;refine⟨u,h1,h2,(jI.1 h3).1,λj v hv=>?_⟩;rw[cell_of_row w g (0+j) _ T (0,0) h3];simpa [vcs] using hv
def zbg {t:TypeId} {x:Operand} {g o n i:Nat} {T:TypeId} {X d:D} (hx:opD K x=some (.v (.pointer (some ⟨g,o,none⟩)))) (hm:nth H i=some (.bx g T X)) (hg:∀ w,(isAgg t).run P w=.ok true w) (hs:∀ w,(Go.sizeOf t).run P w=.ok n w) (hn:Nat.ble (o+n) X.cells.length=true) (hd:zfE X o n=d):Pu P (.load t x) ty K H d:=
 ⟨λρ w F hk _ hH=>by
  obtain ⟨u,hr,h1,hat⟩:=aMc (hH _ (zU hm));exact hd ▸ qF (p:=0) (by rw[dS];exact hk.op hx) hg hs hr h1 hat (dE hn)⟩
def zl {t:TypeId} {x:Operand} {g o i:Nat} {T:TypeId} {X d:D} (hx:opD K x=some (.v (.pointer (some ⟨g,o,none⟩)))) (hm:nth H i=some (.bx g T X)) (hg:∀ w,(isAgg t).run P w=.ok false w) (hd:nth X.cells o=some d):Pu P (.load t x) ty K H d:=
 ⟨λρ w F hk _ hH=>by
  obtain ⟨u,hr,h1,hat⟩:=aMc (hH _ (zU hm));exact qO (p:=0) (by rw[dS];exact hk.op hx) hg hr h1 hat hd⟩
def aS5 {w:World} {F:Nat->Prop} {v:Value} {z:Nat} {T:TypeId} {xs:List D} {k:Nat} {X:D} (h:(Hp.sl v z T xs).ok w F) (hX:xs[k]?=some X):∃ u,D.rep w F X u/\One u/\At w (bl v) (k*z) (vcs u)/\∃ n c,v=.slice (some ⟨bl v,0,none⟩) n c/\k<n:=by
 obtain ⟨us,hr,ho⟩:=h;obtain ⟨u,h1,h2,h3,h4⟩:=hr.get hX;have hlt:k<us.length:=(cQ.1 h1).1;have hb:=ho.block (by omega);have hat:=ho.sl.at_ h1;rw[hb.2.2.1,dS] at hat;obtain ⟨cap,r,e,_⟩:=ho.form (by omega);exact⟨u,h2,h3,hat,_,_,e,hlt⟩
def zA {t:TypeId} {x:Operand} {v:Value} {z k o n i:Nat} {T:TypeId} {xs:List D} {X d:D} (hx:opD K x=some (.v (.pointer (some ⟨bl v,k*z+o,none⟩)))) (hm:nth H i=some (.sl v z T xs)) (hX:xs[k]?=some X) (hg:∀ w,(isAgg t).run P w=.ok true w) (hs:∀ w,(Go.sizeOf t).run P w=.ok n w) (hn:Nat.ble (o+n) X.cells.length=true) (hd:zfE X o n=d):Pu P (.load t x) ty K H d:=
 ⟨λρ w F hk _ hH=>by
  obtain ⟨u,hr,h1,hat,_⟩:=aS5 (hH _ (zU hm)) hX;exact hd ▸ qF (hk.op hx) hg hs hr h1 hat (dE hn)⟩
def zaS {t:TypeId} {x:Operand} {v:Value} {z k o i:Nat} {T:TypeId} {xs:List D} {X d:D} (hx:opD K x=some (.v (.pointer (some ⟨bl v,k*z+o,none⟩)))) (hm:nth H i=some (.sl v z T xs)) (hX:xs[k]?=some X) (hg:∀ w,(isAgg t).run P w=.ok false w) (hd:nth X.cells o=some d):Pu P (.load t x) ty K H d:=
 ⟨λρ w F hk _ hH=>by
  obtain ⟨u,hr,h1,hat,_⟩:=aS5 (hH _ (zU hm)) hX;exact qO (hk.op hx) hg hr h1 hat hd⟩
def aSo {s f o m:Nat} {x:Operand} {X d:D} (hx:opD K x=some X) (hX:X=.agg X.cells) (hm:X.cells.length=m) (hf:∀ vs:List Value,vs.length=m->∀ w,(Instr.field s (.agg vs.toArray) f).run P w=.ok (vs.getD o undef) w) (hd:nth X.cells o=some d):Pu P (.field s x f) ty K H d:=
 ⟨λρ w F hk _ _=>by
  have h:=hk.op hx;rw[hX] at h;obtain ⟨vs,e,hl⟩:=h;rw[zaH] at hd;obtain ⟨u,e1,e2,e3⟩:=pK hl hd;exact aG4 (zo ρ [x]) (opv1 ρ e) (hf vs (by rw[zbl hl,hm])) ⟨rfl,by simpa [d6,e1] using e3⟩⟩
def yY {s f o n m:Nat} {x:Operand} {X d:D} (hx:opD K x=some X) (hX:X=.agg X.cells) (hm:X.cells.length=m) (hf:∀ vs:List Value,vs.length=m->∀ w,(Instr.field s (.agg vs.toArray) f).run P w=.ok (.agg ((vs.drop o).take n).toArray) w) (hd:zfE X o n=d):Pu P (.field s x f) ty K H d:=
 ⟨λρ w F hk _ _=>by
  have h:=hk.op hx;rw[hX] at h;obtain ⟨vs,e,hl⟩:=h;exact aG4 (zo ρ [x]) (opv1 ρ e) (hf vs (by rw[zbl hl,hm])) ⟨rfl,by subst hd;exact⟨_,rfl,zdE n (zdF o hl)⟩⟩⟩
def zf {t e:TypeId} {z k:Nat} {x i:Operand} {xs:List D} {X:D} {kd:IntKind} {n:Int} (hx:opD K x=some (.sh z xs)) (hi:opD K i=some (.v (.int kd n))) (ht:∀ w,(underlying t).run P w=.ok (.slice e) w) (hs:∀ w,(Go.sizeOf e).run P w=.ok z w) (hn:n=(k:Int)) (hX:xs[k]?=some X):Pu P (.indexAddr t x i) ty K H (.el X 0):=
 ⟨λρ w F hk hF _=>by
  obtain ⟨us,hr,hsl,hb,_⟩:=D.rep_sl hF (hk.op hx);obtain ⟨u,h1,h2,h3,h4⟩:=hr.get hX;have hlt:k<us.length:=(cQ.1 h1).1;have hxs:xs≠[]:=by intro e;rw[e] at hX;simp at hX
  obtain ⟨b,o,c,hv,hFb⟩:=hb hxs;have hat:=hsl.at_ h1;refine kG (k:=k) (z:=z) (zo ρ [x,i]) (zbn ρ rfl) (zbm ρ (hk.op hi)) ht hs (hsl.has hlt) hn ⟨rfl,b,o+k*z,u,?_,hFb,h2,h3,?_⟩
  · rw[hv];rfl
  rw[hv] at hat;exact hat⟩
def ze {t e:TypeId} {z k j:Nat} {x i:Operand} {v:Value} {T:TypeId} {xs:List D} {X:D} {kd:IntKind} {n:Int} (hx:opO K x=some v) (hm:nth H j=some (.sl v z T xs)) (hi:opD K i=some (.v (.int kd n))) (ht:∀ w,(underlying t).run P w=.ok (.slice e) w) (hs:∀ w,(Go.sizeOf e).run P w=.ok z w) (hn:n=(k:Int)) (hX:xs[k]?=some X):Pu P (.indexAddr t x i) ty K H (.v (.pointer (some ⟨bl v,k*z+0,none⟩))):=
 ⟨λρ w F hk hF hH=>by
  obtain ⟨u,_,_,_,m,c,hv,hlt⟩:=aS5 (hH _ (zU hm)) hX;have he:ev ρ x=v:=hk.opO hx;refine kG (k:=k) (z:=z) (zo ρ [x,i]) (zbn ρ he) (zbm ρ (hk.op hi)) ht hs ⟨bl v,0,m,c,hv,hlt⟩ hn ⟨rfl,?_⟩;show Value.pointer _=_;rw[show of_ v=0 by rw[hv];rfl,dS,j5]⟩
def zdl {t:TypeId} {x i:Operand} {b:Ba} {kd:IntKind} {n:Int} {k:Nat} {u:UInt8} (hx:opS K x=some b) (hi:opD K i=some (.v (.int kd n))) (ht:∀ w,(underlying t).run P w=.ok .string w) (hn:n=(k:Int)) (hu:b[k]?=some u):Pu P (.index t x i) ty K H (.v (.int .u8 u.toNat)):=
 ⟨λρ w F hk _ _=>aAb (zo ρ [x,i]) (zbn ρ (hk.opS hx)) (zbm ρ (hk.op hi)) ht hn hu ⟨rfl,rfl⟩⟩
def bndD (K:Kd):Option Operand->Option (Option Int)
 | none=>some none
 | some x=>match opD K x with
  | some (.v (.int _ n))=>some (some n)
  | _=>none
def zci {w:World} {F:Nat->Prop} {ρ:Env} (hk:KOk w F ρ K) {x:Option Operand} {r:Option Int} (h:bndD K x=some r):(r=none/\x.map (ev ρ)=none)\/∃ n kd,r=some n/\x.map (ev ρ)=some (.int kd n):=by
 cases x with
 | none=>simp only[bndD,cX] at h;subst h;exact .inl ⟨rfl,rfl⟩
 | some x=>
  simp only[bndD] at h;split at h
  · rename_i kd n hd;injection h with h;subst h;exact .inr ⟨n,kd,rfl,by have he:ev ρ x=_:=hk.op hd;simp[he]⟩
  cases h
def Bnd (r:Option Int) (b a:Nat):Prop:=match r with
 | none=>b=a
 | some n=>n=(a:Int)
def Bnd.out {r:Option Int} {b a:Nat} (h:Bnd r b a) {x:Option Value} (hx:(r=none/\x=none)\/∃ n kd,r=some n/\x=some (.int kd n)):(x=none/\b=a)\/(∃ kd,x=some (.int kd (a:Int))):=by
 rcases hx with ⟨rfl,rfl⟩ | ⟨n,kd,rfl,rfl⟩
 · exact .inl ⟨rfl,h⟩
 exact .inr ⟨kd,by have h:n=_:=h;rw[h]⟩
def zaX {t e:TypeId} {z a b:Nat} {x:Operand} {lo hi:Option Operand} {xs:List D} {rl rh:Option Int} (hx:opD K x=some (.sh z xs)) (hlo:bndD K lo=some rl) (hhi:bndD K hi=some rh) (ha:Bnd rl 0 a) (hb:Bnd rh xs.length b)
 (ht:∀ w,(underlying t).run P w=.ok (.slice e) w) (hs:∀ w,(Go.sizeOf e).run P w=.ok z w) (hab:a<=b) (hbn:b<=xs.length):Pu P (.slice t x lo hi none) ty K H (.sh z ((xs.take b).drop a)):=
 ⟨λρ w F hk hF _=>by
  obtain ⟨us,hr,hsl,hblk,hmx⟩:=D.rep_sl hF (hk.op hx);have hul:=hr.len;obtain ⟨A,c,hv,hc⟩:=hsl.capOk;refine oV (n:=xs.length) (a:=a) (b:=b) (z:=z) (zo ρ [x]) (opv1 ρ rfl) rfl rfl (ha.out (zci hk hlo)) (hb.out (zci hk hhi)) ht hs ⟨A,c,by rw[<-hul];exact hv,by omega⟩ hab ⟨rfl,?_⟩;have h2:=hsl.cut a b hab (by omega);refine w4 ((hr.take b).drop a) h2 (λhne g hg=>?_) (by simp only[c7,cY];omega);obtain ⟨b',o',c',hv',hF'⟩:=hblk (by rintro rfl;simp at hne);rw[hv'] at hg;simp only[cut] at hg;split at hg
  · cases hg;exact hF'
  simp only[Option.map_some,Value.ownBlock,Addr.add] at hg;split at hg<;>(cases hg;exact hF')⟩
def z7 {t:TypeId} {a c:Nat} {x:Operand} {lo hi:Option Operand} {b:Ba} {rl rh:Option Int} (hx:opD K x=some (.s b)) (hlo:bndD K lo=some rl) (hhi:bndD K hi=some rh) (ha:Bnd rl 0 a) (hb:Bnd rh b.size c)
 (ht:∀ w,(underlying t).run P w=.ok .string w) (hab:a<=c) (hbn:c<=b.size):Pu P (.slice t x lo hi none) ty K H (.s (b.extract a c)):=
 ⟨λρ w F hk hF _=>by
  have h:=hk.op hx;exact xC (zo ρ [x]) (opv1 ρ h.1) rfl rfl (ha.out (zci hk hlo)) (hb.out (zci hk hhi)) ht hab hbn ⟨rfl,rfl,jM (by rw[dK];omega) h.2⟩⟩
def zad {t e:TypeId} {z a b j:Nat} {x:Operand} {lo hi:Option Operand} {v:Value} {T:TypeId} {xs:List D} {rl rh:Option Int} (hx:opO K x=some v) (hm:nth H j=some (.sl v z T xs)) (hlo:bndD K lo=some rl) (hhi:bndD K hi=some rh) (ha:Bnd rl 0 a) (hb:Bnd rh xs.length b)
 (ht:∀ w,(underlying t).run P w=.ok (.slice e) w) (hs:∀ w,(Go.sizeOf e).run P w=.ok z w) (hab:a<=b) (hbn:b<=xs.length):Pu P (.slice t x lo hi none) ty K H (.v (cut z v a b)):=
 ⟨λρ w F hk hF hH=>by
  obtain ⟨us,hr,ho⟩:=hH _ (zU hm);have hul:=hr.len;obtain ⟨A,c,hv,hc⟩:=ho.sl.capOk;exact oV (n:=xs.length) (a:=a) (b:=b) (z:=z) (zo ρ [x]) (opv1 ρ (hk.opO hx)) rfl rfl (ha.out (zci hk hlo)) (hb.out (zci hk hhi)) ht hs ⟨A,c,by rw[<-hul];exact hv,by omega⟩ hab ⟨rfl,rfl⟩⟩
section
variable {t t':TypeId} {x y:Operand} {k:IntKind} {a b c:Int}
def zq (hx:opD K x=some (.v (.int k a))) (hy:opD K y=some (.v (.int k b))) (hw:k.wrap (a+b)=c):Pu P (.binOp .add t x y t') ty K H (.v (.int k c)):=
 ⟨λρ w F hk _ _=>a0a (zo ρ [x,y]) (zbn ρ (hk.op hx)) (zbm ρ (hk.op hy)) hw ⟨rfl,rfl⟩⟩
def zR (hx:opD K x=some (.v (.int k a))) (hy:opD K y=some (.v (.int k b))) (hw:k.wrap (a-b)=c):Pu P (.binOp .sub t x y t') ty K H (.v (.int k c)):=
 ⟨λρ w F hk _ _=>a0v (zo ρ [x,y]) (zbn ρ (hk.op hx)) (zbm ρ (hk.op hy)) hw ⟨rfl,rfl⟩⟩
def zc2 (hx:opD K x=some (.v (.int k a))) (hy:opD K y=some (.v (.int k b))) (hw:k.wrap (a*b)=c):Pu P (.binOp .mul t x y t') ty K H (.v (.int k c)):=
 ⟨λρ w F hk _ _=>aZ8 (zo ρ [x,y]) (zbn ρ (hk.op hx)) (zbm ρ (hk.op hy)) hw ⟨rfl,rfl⟩⟩
def zeA (hx:opD K x=some (.v (.int k a))) (hy:opD K y=some (.v (.int k b))) (hb:b≠0) (hw:k.wrap (a.tdiv b)=c):Pu P (.binOp .quo t x y t') ty K H (.v (.int k c)):=
 ⟨λρ w F hk _ _=>aY6 (zo ρ [x,y]) (zbn ρ (hk.op hx)) (zbm ρ (hk.op hy)) hb hw ⟨rfl,rfl⟩⟩
def aWo (hx:opD K x=some (.v (.int k a))) (hy:opD K y=some (.v (.int k b))) (hb:b≠0) (hw:a.tmod b=c):Pu P (.binOp .rem t x y t') ty K H (.v (.int k c)):=
 ⟨λρ w F hk _ _=>aZh (zo ρ [x,y]) (zbn ρ (hk.op hx)) (zbm ρ (hk.op hy)) hb hw ⟨rfl,rfl⟩⟩
def zau {q:Bool} (hx:opD K x=some (.v (.int k a))) (hy:opD K y=some (.v (.int k b))) (hq:decide (a<b)=q):Pu P (.binOp .lss t x y t') ty K H (.v (.bool q)):=
 ⟨λρ w F hk _ _=>a0g (zo ρ [x,y]) (zbn ρ (hk.op hx)) (zbm ρ (hk.op hy)) hq ⟨rfl,rfl⟩⟩
def zbJ {q:Bool} (hx:opD K x=some (.v (.int k a))) (hy:opD K y=some (.v (.int k b))) (hq:decide (a<=b)=q):Pu P (.binOp .leq t x y t') ty K H (.v (.bool q)):=
 ⟨λρ w F hk _ _=>aZy (zo ρ [x,y]) (zbn ρ (hk.op hx)) (zbm ρ (hk.op hy)) hq ⟨rfl,rfl⟩⟩
def zan {q:Bool} (hx:opD K x=some (.v (.int k a))) (hy:opD K y=some (.v (.int k b))) (hq:decide (b<a)=q):Pu P (.binOp .gtr t x y t') ty K H (.v (.bool q)):=
 ⟨λρ w F hk _ _=>aYy (zo ρ [x,y]) (zbn ρ (hk.op hx)) (zbm ρ (hk.op hy)) hq ⟨rfl,rfl⟩⟩
def zas {q:Bool} (hx:opD K x=some (.v (.int k a))) (hy:opD K y=some (.v (.int k b))) (hq:decide (b<=a)=q):Pu P (.binOp .geq t x y t') ty K H (.v (.bool q)):=
 ⟨λρ w F hk _ _=>aYv (zo ρ [x,y]) (zbn ρ (hk.op hx)) (zbm ρ (hk.op hy)) hq ⟨rfl,rfl⟩⟩
def zT {q:Bool} (hx:opD K x=some (.v (.int k a))) (hy:opD K y=some (.v (.int k b))) (hq:decide (a=b)=q):Pu P (.binOp .eql t x y t') ty K H (.v (.bool q)):=
 ⟨λρ w F hk _ _=>a0u (zo ρ [x,y]) (zbn ρ (hk.op hx)) (zbm ρ (hk.op hy)) hq ⟨rfl,rfl⟩⟩
def zee {q:Bool} (hx:opD K x=some (.v (.int k a))) (hy:opD K y=some (.v (.int k b))) (hq:decide (a≠b)=q):Pu P (.binOp .neq t x y t') ty K H (.v (.bool q)):=
 ⟨λρ w F hk _ _=>aZm (zo ρ [x,y]) (zbn ρ (hk.op hx)) (zbm ρ (hk.op hy)) hq ⟨rfl,rfl⟩⟩
def zed {q:Bool} (hx:opD K x=some (.v (.bool q))):Pu P (.unOp .not t x) ty K H (.v (.bool (!q))):=
 ⟨λρ w F hk _ _=>aYt (zo ρ [x]) (opv1 ρ (hk.op hx)) ⟨rfl,rfl⟩⟩
def aKo (hx:opD K x=some (.v (.int k a))) (hw:k.wrap (0-a)=c):Pu P (.unOp .neg t x) ty K H (.v (.int k c)):=
 ⟨λρ w F hk _ _=>a0b (zo ρ [x]) (opv1 ρ (hk.op hx)) hw ⟨rfl,rfl⟩⟩
def zgv {op:BinOp} {u v r:Value} (hx:opD K x=some (.v u)) (hy:opD K y=some (.v v)) (hr:∀ w,(do eqGuard op t x y u v;binOp op t u v:Sem Value).run P w=.ok r w):Pu P (.binOp op t x y t') ty K H (.v r):=
 ⟨λρ w F hk _ _=>zcb (zo ρ [x,y]) (zbn ρ (hk.op hx)) (zbm ρ (hk.op hy)) hr ⟨rfl,rfl⟩⟩
def zaN {t1 t2:TypeId} (hx:opD K x=some (.v (.int k a))) {k':IntKind} (hr:∀ w,(convert t1 t2 (.int k a)).run P w=.ok (.int k' c) w):Pu P (.convert t1 t2 x) ty K H (.v (.int k' c)):=
 ⟨λρ w F hk _ _=>wS (v:=.int k' c) (w':=w) (by have:=zcz (hr w);have he:ev ρ x=_:=hk.op hx;simpa [execOp,zao,he] using this) ⟨rfl,rfl⟩⟩
end
section
variable {t t':TypeId} {x y:Operand} {a b:Ba}
def zaU {q:Bool} (hx:opS K x=some a) (hy:opS K y=some b) (hq:decide (a=b)=q):Pu P (.binOp .eql t x y t') ty K H (.v (.bool q)):=
 ⟨λρ w F hk _ _=>aZc (zo ρ [x,y]) (zbn ρ (hk.opS hx)) (zbm ρ (hk.opS hy)) hq ⟨rfl,rfl⟩⟩
def aZo {q:Bool} (hx:opS K x=some a) (hy:opS K y=some b) (hq:decide (a≠b)=q):Pu P (.binOp .neq t x y t') ty K H (.v (.bool q)):=
 ⟨λρ w F hk _ _=>aZ6 (zo ρ [x,y]) (zbn ρ (hk.opS hx)) (zbm ρ (hk.opS hy)) hq ⟨rfl,rfl⟩⟩
def aU3 {q:Bool} (hx:opS K x=some a) (hy:opS K y=some b) (hq:decide (cmpS a b<0)=q):Pu P (.binOp .lss t x y t') ty K H (.v (.bool q)):=
 ⟨λρ w F hk _ _=>a1b (zo ρ [x,y]) (zbn ρ (hk.opS hx)) (zbm ρ (hk.opS hy)) hq ⟨rfl,rfl⟩⟩
def a0w {q:Bool} (hx:opS K x=some a) (hy:opS K y=some b) (hq:decide (0<cmpS a b)=q):Pu P (.binOp .gtr t x y t') ty K H (.v (.bool q)):=
 ⟨λρ w F hk _ _=>a0y (zo ρ [x,y]) (zbn ρ (hk.opS hx)) (zbm ρ (hk.opS hy)) hq ⟨rfl,rfl⟩⟩
def zgP (hx:opS K x=some a) (hy:opS K y=some b) (hs:a.size+b.size<=maxLen):Pu P (.binOp .add t x y t') ty K H (.s (a++b)):=
 ⟨λρ w F hk _ _=>zcb (r:=.string (a++b)) (zo ρ [x,y]) (zbn ρ (hk.opS hx)) (zbm ρ (hk.opS hy)) (λw=>by
  have:¬((a.size+b.size:Nat):Int)>IntKind.i64.max:=by unfold maxLen at hs;simp[IntKind.max,IntKind.bits,IntKind.signed];omega
  simp only[eqGuard,binOp,Op.stringOp];rw[aA this];simp[go_sem]) ⟨rfl,rfl,by rw[jV];exact hs⟩⟩
def cA (hx:opS K x=some a) (hy:opS K y=some b) (hs:a.size+b.size<=9223372036854775807):Pu P (.binOp .add t x y t') ty K H (.s (a++b)):=zgP hx hy (by unfold maxLen;exact hs)
def zah (hx:opS K x=some a) (ht:∀ w,(underlying t).run P w=.ok .string w):Pu P (.call { callee:=.builtin .len,args:=#[x],argTypes:=#[t] }) ty K H (.v (.int .i64 a.size)):=
 ⟨λρ w F hk _ _=>aEc (zo ρ [x]) (opv1 ρ (hk.opS hx)) ht ⟨rfl,rfl⟩⟩
end
def zH {t e:TypeId} {x:Operand} {z n:Nat} {xs:List D} (hx:opD K x=some (.sh z xs)) (ht:∀ w,(underlying t).run P w=.ok (.slice e) w) (hn:xs.length=n):Pu P (.call { callee:=.builtin .len,args:=#[x],argTypes:=#[t] }) ty K H (.v (.int .i64 (n:Int))):=
 ⟨λρ w F hk _ _=>by
  obtain ⟨A,c,h,_⟩:=hk.op hx;exact aS1 (n:=n) (zo ρ [x]) (opv1 ρ h) ht (by subst hn;exact⟨A,c,rfl⟩) ⟨rfl,rfl⟩⟩
def zK {t e:TypeId} {x:Operand} {z n j:Nat} {v:Value} {T:TypeId} {xs:List D} (hx:opO K x=some v) (hm:nth H j=some (.sl v z T xs)) (ht:∀ w,(underlying t).run P w=.ok (.slice e) w) (hn:xs.length=n):Pu P (.call { callee:=.builtin .len,args:=#[x],argTypes:=#[t] }) ty K H (.v (.int .i64 (n:Int))):=
 ⟨λρ w F hk _ hH=>by
  obtain ⟨us,hr,ho⟩:=hH _ (zU hm);exact aS1 (n:=n) (zo ρ [x]) (opv1 ρ (hk.opO hx)) ht (by have:=ho.len;rw[hr.len,hn] at this;exact this) ⟨rfl,rfl⟩⟩
def aR2 {t e:TypeId} {x:Operand} {n:Nat} {v:Value} (hx:opD K x=some (.v v)) (hv:Len v n) (ht:∀ w,(underlying t).run P w=.ok (.slice e) w):Pu P (.call { callee:=.builtin .len,args:=#[x],argTypes:=#[t] }) ty K H (.v (.int .i64 (n:Int))):=
 ⟨λρ w F hk _ hH=>aS1 (n:=n) (zo ρ [x]) (opv1 ρ (hk.op hx)) ht hv ⟨rfl,rfl⟩⟩
def zfe {t:Array TypeId} {x y:Operand} {k k':IntKind} {a b c:Int} (hx:opD K x=some (.v (.int k a))) (hy:opD K y=some (.v (.int k' b))) (hc:max a b=c):Pu P (.call { callee:=.builtin .max,args:=#[x,y],argTypes:=t }) ty K H (.v (.int k c)):=
 ⟨λρ w F hk _ _=>wS (v:=.int k c) (w':=w) (by
  have e1:ev ρ x=_:=hk.op hx;have e2:ev ρ y=_:=hk.op hy;have:(if a<b then b else a)=c:=by subst hc;omega
  simp[execOp,zao,resolve,invoke,builtin,e1,e2,Builtin.max_,Builtin.max2,this]) ⟨rfl,rfl⟩⟩
def zgu {t:Array TypeId} {x y:Operand} {k k':IntKind} {a b c:Int} (hx:opD K x=some (.v (.int k a))) (hy:opD K y=some (.v (.int k' b))) (hc:min a b=c):Pu P (.call { callee:=.builtin .min,args:=#[x,y],argTypes:=t }) ty K H (.v (.int k c)):=
 ⟨λρ w F hk _ _=>wS (v:=.int k c) (w':=w) (by
  have e1:ev ρ x=_:=hk.op hx;have e2:ev ρ y=_:=hk.op hy;have:(if b<a then b else a)=c:=by subst hc;omega
  simp[execOp,zao,resolve,invoke,builtin,e1,e2,Builtin.min_,Builtin.min2,this]) ⟨rfl,rfl⟩⟩
def aA6 {w:World} {F:Nat->Prop}:∀ {ds:List D} {vs:List Value},D.repA w F ds vs->∀ {j:Nat} {d:D},ds[j]?=some d->∃ u,vs[j]?=some u/\D.rep w F d u
 | [],_,rfl,j,d,h=>by simp at h
 | x::r,_,⟨u,us,rfl,h2,h3⟩,j,d,h=>by
  cases j with
  | zero=>simp at h;subst h;exact⟨u,by simp,h2⟩
  | succ j=>obtain ⟨u',e⟩:=aA6 h3 (j:=j) (d:=d) (by simpa using h);exact⟨u',by simpa using e⟩
def zaT {x:Operand} {i:Nat} {ds:List D} {d:D} (hx:opD K x=some (.tup ds)) (hd:nth ds i=some d):Pu P (.extract x i) ty K H d:=
 ⟨λρ w F hk _ _=>by
  obtain ⟨vs,e,hl⟩:=hk.op hx;rw[zaH] at hd;obtain ⟨u,e1,e2⟩:=aA6 hl hd;exact aFd (zo ρ [x]) (opv1 ρ e) (by simpa using e1) ⟨rfl,e2⟩⟩
def aG3 {t:TypeId} {x:Operand} {d:D} (hx:opD K x=some d) (hm:∀ u w,(Instr.makeInterface t u).run P w=.ok (.iface t u) w):Pu P (.makeInterface t x) ty K H (.ifc t d):=
 ⟨λρ w F hk _ _=>aHn (zo ρ [x]) (opv1 ρ rfl) (hm _) ⟨rfl,_,rfl,hk.op hx⟩⟩
def zbt {t T:TypeId} {x:Operand} {d:D} (hx:opD K x=some (.ifc T d)) (hm:∀ u w,(Instr.typeAssert (.iface T u) t T true).run P w=.ok (.tuple #[u,.bool true]) w):Pu P (.typeAssert x t T true) ty K H (.tup [d,.v (.bool true)]):=
 ⟨λρ w F hk _ _=>by
  obtain ⟨u,e,hr⟩:=hk.op hx;exact pV (zo ρ [x]) (opv1 ρ e) (hm u) ⟨rfl,[u,.bool true],rfl,u,_,rfl,hr,_,_,rfl,rfl,rfl⟩⟩
def zb1 {t T T':TypeId} {x:Operand} {d:D} {zv:Value} (hx:opD K x=some (.ifc T' d)) (hm:∀ u w,(Instr.typeAssert (.iface T' u) t T true).run P w=.ok (.tuple #[zv,.bool false]) w):Pu P (.typeAssert x t T true) ty K H (.tup [.v zv,.v (.bool false)]):=
 ⟨λρ w F hk _ _=>by
  obtain ⟨u,e,hr⟩:=hk.op hx;exact pV (zo ρ [x]) (opv1 ρ e) (hm u) ⟨rfl,[zv,.bool false],rfl,zv,_,rfl,rfl,_,_,rfl,rfl,rfl⟩⟩
def fJ {t T:TypeId} {x:Operand} {zv:Value} (hx:opD K x=some (.v .nilIface)) (hm:∀ w,(Instr.typeAssert .nilIface t T true).run P w=.ok (.tuple #[zv,.bool false]) w):Pu P (.typeAssert x t T true) ty K H (.tup [.v zv,.v (.bool false)]):=
 ⟨λρ w F hk _ _=>pV (zo ρ [x]) (opv1 ρ (hk.op hx)) hm ⟨rfl,[zv,.bool false],rfl,zv,_,rfl,rfl,_,_,rfl,rfl,rfl⟩⟩
def nC {t T:TypeId} {x:Operand} {d:D} (hx:opD K x=some (.ifc T d)) (hm:∀ u w,(Instr.typeAssert (.iface T u) t T false).run P w=.ok u w):Pu P (.typeAssert x t T false) ty K H d:=
 ⟨λρ w F hk _ _=>by
  obtain ⟨u,e,hr⟩:=hk.op hx;exact wS (v:=u) (w':=w) (zcz (by rw[e];exact hm u w)) ⟨rfl,hr⟩⟩
def zcH {α:Type} (cs:List α) (o:Nat) (vs:List α):List α:=cs.take o++vs++cs.drop (o+vs.length)
def ze2 {α:Type} (places:List (Nat×Nat)) (cs:List α):List (Nat×List α)->Option (List α)
 | []=>some cs
 | (i,c)::r=>match nth places i with
  | none=>none
  | some (o,n)=>bif Nat.beq c.length n&&Nat.ble (o+c.length) cs.length then ze2 places (zcH cs o c) r else none
def kS:∀ (vs:List Value) (cs:Array Value) (o j:Nat),o+j+vs.length<=cs.size->
 ((vs.zipIdx j).foldl (λcs (c,i)=>cs.setIfInBounds (o+i) c) cs).toList=spl cs.toList (o+j) vs
 | [],cs,o,j,_=>by simp[spl]
 | v::r,cs,o,j,h=>by
  rw[List.zipIdx_cons,uI];have ih:=kS r (cs.setIfInBounds (o+j) v) o (j+1) (by simp at h ⊢;omega);rw[ih];have:(cs.setIfInBounds (o+j) v).toList=spl cs.toList (o+j) [v]:=by
   rw[Array.toList_setIfInBounds];apply wD;intro i;rw[zec _ _ _ (by simp at h ⊢;omega),List.getElem?_set];by_cases e:o+j=i
   · subst e;simp at h ⊢;omega
   rw[aA e,aA (by simp;omega)]
  rw[this,show o+(j+1)=o+j+1 by omega,aA4 _ _ _ _ (by simpa using h)]
def nO (place:Nat->Option (Nat×Nat)) (pl:List (Nat×Nat)) (hp:∀ i,place i=pl[i]?):∀ (ps:List (Nat×Value)) (cs:Array Value) (r:List Value),ze2 pl cs.toList (ps.map λp=>(p.1,vcs p.2))=some r->Instr.fill place cs ps=some r.toArray
 | [],cs,r,h=>by simp[ze2] at h;subst h;simp[Instr.fill]
 | (i,v)::rest,cs,r,h=>by
  simp only[jS,ze2,zaH] at h;simp only[Instr.fill,hp i];cases hpl:pl[i]? with
  | none=>rw[hpl] at h;cases h
  | some x=>
   obtain ⟨o,n⟩:=x;rw[hpl] at h;simp only at h ⊢;cases hc:(Nat.beq (vcs v).length n&&Nat.ble (o+(vcs v).length) cs.toList.length) with
   | false=>rw[hc] at h;cases h
   | true=>
    rw[hc] at h;simp only[cond_true] at h;rw[cU] at hc;have h1:=dM hc.1;have h2:=dE hc.2;simp only[vcs,Array.length_toList] at h1 h2;rw[aA (by simp;omega)];refine nO place pl hp rest _ r ?_;have:=kS (vcs v) cs o 0 (by simp[vcs];omega);rw[<-h,<-Array.foldl_toList,Array.toList_zipIdx];congr 1
def rY {w:World} {F:Nat->Prop} {pl:List (Nat×Nat)}:∀ (is:List Nat) (ds:List (List D)) (cs:List D) (r:List D) (us:List (List Value)) (vs:List Value),D.repL w F cs vs->ds.length=us.length->(∀ (i:Nat) (d:List D) (u:List Value),ds[i]?=some d->us[i]?=some u->D.repL w F d u)->ze2 pl cs (is.zip ds)=some r->∃ r',ze2 pl vs (is.zip us)=some r'/\D.repL w F r r'
 | [],ds,cs,r,us,vs,hr,_,_,h=>by simp[ze2] at h;subst h;exact⟨vs,by simp[ze2],hr⟩
 | i::is,[],cs,r,us,vs,hr,hl,_,h=>by
  have:us=[]:=dC (by simpa using hl.symm);subst this;simp[ze2] at h;subst h;exact⟨vs,by simp[ze2],hr⟩
 | i::is,d::ds,cs,r,[],vs,hr,hl,_,h=>by simp at hl
 | i::is,d::ds,cs,r,u::us,vs,hr,hl,hd,h=>by
  simp only[List.zip_cons_cons,ze2] at h ⊢;have hdu:=hd 0 d u (by simp) (by simp);have hdl:=zbl hdu;have hcl:=zbl hr;cases hp:nth pl i with
  | none=>rw[hp] at h;cases h
  | some x=>
   obtain ⟨o,n⟩:=x;rw[hp] at h;simp only at h ⊢;rw[hdl,hcl];cases hc:(Nat.beq d.length n&&Nat.ble (o+d.length) cs.length) with
   | false=>rw[hc] at h;cases h
   | true=>
    rw[hc] at h;simp only[cond_true] at h ⊢;refine rY is ds _ r us _ ?_ (by simpa using hl) (λj a b ha hb=>hd (j+1) a b (by simpa using ha) (by simpa using hb)) h;unfold zcH;rw[hdl];exact zfa (zfa (zdE o hr) hdu) (zdF _ hr)
structure CellD (H:List Hp) (d:D):Prop where
 out:∀ w F u,(∀ h∈H,h.ok w F)->D.rep w F d u->One u
def CellD.agg {cs:List D}:CellD H (.agg cs):=⟨λw F u _ ⟨vs,e,h⟩=>by subst e;intro c hc;exact pX h c (by simpa [Value.cells] using hc)⟩
def CellD.one {d:D} (h:∀ w F u,D.rep w F d u->u.oneCell'=true):CellD H d:=⟨λw F u _ hr=>One.one (h w F u hr)⟩
def CellD.s {b:Ba}:CellD H (.s b):=CellD.one (λ_ _ _ h=>by rw[h.1];rfl)
def CellD.sh {z:Nat} {xs:List D}:CellD H (.sh z xs):=CellD.one (λ_ _ _ ⟨_,_,h,_⟩=>by rw[h];rfl)
def CellD.el {x:D} {o:Nat}:CellD H (.el x o):=CellD.one (λ_ _ _ ⟨_,_,_,h,_⟩=>by rw[h];rfl)
def CellD.ifc {t:TypeId} {x:D}:CellD H (.ifc t x):=CellD.one (λ_ _ _ ⟨_,h,_⟩=>by rw[h];rfl)
def CellD.fn {f:FuncId} {a b:List D}:CellD H (.fn f a b):=CellD.one (λ_ _ _ ⟨_,_,h,_⟩=>by rw[h];rfl)
def CellD.o {u:Value}:CellD H (.ov u):=CellD.one (λ_ _ _ h=>by rw[h.1];exact h.2)
def CellD.any:CellD H .any:=CellD.one (λ_ _ _ h=>h)
def CellD.v {u:Value} (h:u.oneCell'=true):CellD H (.v u):=CellD.one (λ_ _ _ e=>by rw[e];exact h)
def opsD (K:Kd):List Operand->Option (List D)
 | []=>some []
 | x::r=>match opD K x,opsD K r with
  | some d,some ds=>some (d::ds)
  | _,_=>none
def zdm {w:World} {F:Nat->Prop} {ρ:Env} (hk:KOk w F ρ K):∀ {xs:List Operand} {ds:List D},opsD K xs=some ds->D.repA w F ds (xs.map (ev ρ))
 | [],ds,h=>by simp[opsD] at h;subst h;rfl
 | x::r,ds,h=>by
  unfold opsD at h;cases h1:opD K x with
  | none=>simp[h1] at h
  | some d=>
   cases h2:opsD K r with
   | none=>simp[h1,h2] at h
   | some es=>
    simp[h1,h2] at h;subst h;exact⟨_,_,rfl,hk.op h1,zdm hk h2⟩
inductive CellDs (H:List Hp):List D->Prop
 | nil:CellDs H []
 | cons {d:D} {r:List D}:CellD H d->CellDs H r->CellDs H (d::r)
def lU {w:World} {F:Nat->Prop} (hH:∀ h∈H,h.ok w F):∀ {ds:List D} {vs:List Value},CellDs H ds->D.repA w F ds vs->∀ (i:Nat) (d:List D) (u:List Value),(ds.map D.cells)[i]?=some d->(vs.map vcs)[i]?=some u->D.repL w F d u
 | [],_,_,_,i,d,u,h,_=>by simp at h
 | x::r,_,.cons hc hcs,⟨a,us,rfl,h1,h2⟩,i,d,u,hd,hu=>by
  cases i with
  | zero=>simp at hd hu;subst hd;subst hu;exact wZ h1 (hc.out _ _ _ hH h1)
  | succ i=>exact lU hH hcs h2 i d u (by simpa using hd) (by simpa using hu)
def zm {t:TypeId} {ps:Array (Nat×Operand)} {fields:Array Field} {zv:Value} {pl:List (Nat×Nat)} (is:List Nat) (xs:List Operand) {ds:List D} {cs:List D} (hp:ps=(is.zip xs).toArray) (hx:opsD K xs=some ds) (hc:CellDs H ds)
 (ht:∀ w,(underlying t).run P w=.ok (.struct fields) w) (hz:∀ w,(zeroValue t).run P w=.ok zv w) (hpl:∀ w,(fields.mapM λf=>do pure (f.offset,<-Go.sizeOf f.type):Sem (Array (Nat×Nat))).run P w=.ok pl.toArray w)
 (hzv:zcv zv.cells.toList) (hf:ze2 pl (zv.cells.toList.map D.v) (is.zip (ds.map D.cells))=some cs):Pu P (.build t ps) ty K H (.agg cs):=
 ⟨λρ w F hk hF hH=>by
  have hr:=zdm hk hx;have hlen:=iI hr;obtain ⟨r',e1,e2⟩:=rY (w:=w) (F:=F) (pl:=pl) is (ds.map D.cells) (zv.cells.toList.map .v) cs ((xs.map (ev ρ)).map vcs) zv.cells.toList (aCe _ (zcv.all hzv)) (by simp only[cN] at hlen ⊢;omega) (lU hH hc hr) hf;refine aQ1 (v:=.agg r'.toArray) (qs:=(is.zip (xs.map (ev ρ))).toArray) ?_ ?_ ⟨rfl,r',rfl,e2⟩
  · subst hp;apply Array.ext';simp[List.zip_map_right,Prod.map]
  intro w;have hfill:=nO (pl.toArray[·]?) pl (by simp) (is.zip (xs.map (ev ρ))) zv.cells r' (by
   rw[<-e1];congr 1;simp[List.zip_map_right,Prod.map])
  simp only[Instr.build,Sem.run_bind,hz,Result.andThen_ok,ht,hpl,hfill,Sem.run_pure]⟩
end pure
end Lp
