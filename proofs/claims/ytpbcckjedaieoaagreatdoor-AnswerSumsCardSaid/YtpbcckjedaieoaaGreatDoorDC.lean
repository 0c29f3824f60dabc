import Derived.Test.YtpbcckjedaieoaaGreatDoorDB
set_option linter.unusedSimpArgs false
set_option linter.unusedVariables false
namespace Lp
open Go Go.RowKit
def lkO (ρ:Env):List Operand->Kn
 | []=>[]
 | .tmp t::r=>(t,ρ t)::lkO ρ r
 | _::r=>lkO ρ r
theorem look_lkO (ρ:Env):∀ (xs:List Operand) (t:Nat),.tmp t∈xs->look (lkO ρ xs) t=some (ρ t)
 | [],t,h=>by cases h
 | x::r,t,h=>by
  have tl:.tmp t∈r->look (lkO ρ r) t=some (ρ t):=look_lkO ρ r t;cases x with
  | tmp s=>
   simp only[lkO,look];by_cases e:t=s
   · subst e;rw[show Nat.beq t t=true from j6 t];rfl
   rw[za6 e];simp only[cond_false];refine tl ?_;rcases dO.1 h with h | h
   · injection h with h;exact absurd h e
   exact h
  | const c=>exact tl (by rcases dO.1 h with h | h;(· cases h);exact h)
  | global c=>exact tl (by rcases dO.1 h with h | h;(· cases h);exact h)
  | func c=>exact tl (by rcases dO.1 h with h | h;(· cases h);exact h)
theorem zp (ρ:Env):∀ xs:List Operand,zah ρ (lkO ρ xs)
 | [],t,v,h=>by simp[lkO,look] at h
 | x::r,t,v,h=>by
  cases x with
  | tmp s=>
   simp only[lkO,look] at h;by_cases e:t=s
   · subst e;rw[show Nat.beq t t=true from j6 t] at h;simp only[cond_true,dF] at h;exact h
   rw[za6 e] at h;simp only[cond_false] at h;exact zp ρ r t v h
  | const c=>exact zp ρ r t v h
  | global c=>exact zp ρ r t v h
  | func c=>exact zp ρ r t v h
theorem zfb (ρ:Env) {xs:List Operand} {x:Operand} (h:x∈xs):opv (lkO ρ xs) x=some (ev ρ x):=by
 cases x with
 | tmp t=>exact look_lkO ρ xs t h
 | const c=>rfl
 | global c=>rfl
 | func c=>rfl
theorem opv1 (ρ:Env) {x:Operand} {u:Value} (h:ev ρ x=u):opv (lkO ρ [x]) x=some u:=by rw[zfb ρ c6,h]
theorem za5 (ρ:Env) {x y:Operand} {u:Value} (h:ev ρ x=u):opv (lkO ρ [x,y]) x=some u:=by rw[zfb ρ c6,h]
theorem za4 (ρ:Env) {x y:Operand} {u:Value} (h:ev ρ y=u):opv (lkO ρ [x,y]) y=some u:=by rw[zfb ρ (by simp),h]
theorem zcq (ρ:Env) (ys:List Operand):∀ xs:List Operand,(∀ x∈xs,x∈ys)->opvs (lkO ρ ys) xs=some (xs.map (ev ρ))
 | [],_=>rfl
 | x::r,h=>by
  unfold opvs;rw[zfb ρ (h x c6),zcq ρ ys r (λy hy=>h y (dC _ hy))];rfl
def zfU:D->Option ByteArray
 | .s b=>some b
 | .v (.string b)=>some b
 | _=>none
theorem asStr_rep {w:World} {F:Nat->Prop} {d:D} {u:Value} {b:ByteArray} (h:D.rep w F d u) (e:zfU d=some b):u=.string b:=by
 cases d with
 | s c=>simp only[zfU,dF] at e;subst e;exact h.1
 | v a=>
  have h:u=a:=h;subst h;cases u<;>simp[zfU] at e
  subst e;rfl
 | _=>simp[zfU] at e
def opS (K:Kd) (x:Operand):Option ByteArray:=match opD K x with
 | some d=>zfU d
 | none=>none
theorem KOk.opS {w:World} {F:Nat->Prop} {ρ:Env} {K:Kd} (h:KOk w F ρ K) {x:Operand} {b:ByteArray} (hx:opS K x=some b):ev ρ x=.string b:=by
 unfold Lp.opS at hx;cases hd:opD K x with
 | none=>rw[hd] at hx;cases hx
 | some d=>rw[hd] at hx;exact asStr_rep (h.op hd) hx
def asO:D->Option Value
 | .ov v=>some v
 | .v v=>some v
 | _=>none
theorem asO_rep {w:World} {F:Nat->Prop} {d:D} {u v:Value} (h:D.rep w F d u) (e:asO d=some v):u=v:=by
 cases d with
 | ov c=>simp only[asO,dF] at e;subst e;exact h.1
 | v c=>simp only[asO,dF] at e;subst e;exact h
 | _=>simp[asO] at e
def opO (K:Kd) (x:Operand):Option Value:=match opD K x with
 | some d=>asO d
 | none=>none
theorem KOk.opO {w:World} {F:Nat->Prop} {ρ:Env} {K:Kd} (h:KOk w F ρ K) {x:Operand} {v:Value} (hx:opO K x=some v):ev ρ x=v:=by
 unfold Lp.opO at hx;cases hd:opD K x with
 | none=>rw[hd] at hx;cases hx
 | some d=>rw[hd] at hx;exact asO_rep (h.op hd) hx
theorem ze {α β:Type} {f:α->β} {l:List α} {k:Nat} {x:α} (h:l[k]?=some x):(l.map f)[k]?=some (f x):=by rw[jB,h];rfl
section pure
variable {P:Program} {ty:TypeId} {K:Kd} {H:List Hp}
theorem zc {x:Operand} {d:D} (hx:opD K x=some d):Pu P (.move x) ty K H d:=
 ⟨λρ w F hk _ _=>e_move (zp ρ [x]) (opv1 ρ rfl) ⟨rfl,hk.op hx⟩⟩
theorem zdY {x:Operand} {d:D} (hx:opD K x=some d):Pu P (.assign x) ty K H d:=
 ⟨λρ w F hk _ _=>e_assign (zp ρ [x]) (opv1 ρ rfl) ⟨rfl,hk.op hx⟩⟩
theorem Pu.cv {op:Op} {d d':D} (h:Pu P op ty K H d) (c:Cv d d'):Pu P op ty K H d':=
 ⟨λρ w F hk hF hH=>(h.out ρ w F hk hF hH).mono λ_ _ ⟨e,hr⟩=>by subst e;exact⟨rfl,c.out _ _ _ hr⟩⟩
theorem zcp {c x y:Operand} {d:D} (hc:opD K c=some (.v (.bool true))) (hx:opD K x=some d):Pu P (.pick c x y) ty K H d:=
 ⟨λρ w F hk _ _=>e_pick_t (zp ρ [c,x]) (za5 ρ (hk.op hc)) (za4 ρ rfl) ⟨rfl,hk.op hx⟩⟩
theorem zaC {c x y:Operand} {d:D} (hc:opD K c=some (.v (.bool false))) (hx:opD K y=some d):Pu P (.pick c x y) ty K H d:=
 ⟨λρ w F hk _ _=>e_pick_f (zp ρ [c,y]) (za5 ρ (hk.op hc)) (za4 ρ rfl) ⟨rfl,hk.op hx⟩⟩
theorem p_nilCheck_el {x:Operand} {X:D} {o:Nat} (hx:opD K x=some (.el X o)):Pu P (.nilCheck x) ty K H (.el X o):=
 ⟨λρ w F hk _ _=>by
  have h:=hk.op hx;obtain ⟨b,p,u,e,hr⟩:=h;exact e_nilCheck (zp ρ [x]) (opv1 ρ e) ⟨rfl,b,p,u,rfl,hr⟩⟩
theorem zb0 {x:Operand} {a:Addr} (hx:opD K x=some (.v (.pointer (some a)))):Pu P (.nilCheck x) ty K H (.v (.pointer (some a))):=
 ⟨λρ w F hk _ _=>e_nilCheck (zp ρ [x]) (opv1 ρ (hk.op hx)) ⟨rfl,rfl⟩⟩
theorem zl {s f:Nat} {x:Operand} {g o k o':Nat} (hx:opD K x=some (.v (.pointer (some ⟨g,o,none⟩))))
 (hf:∀ b o w,(Instr.fieldAt s (.pointer (some ⟨b,o,none⟩)) f).run P w=.ok (.pointer (some ⟨b,o+k,none⟩)) w) (ho:o+k=o'):Pu P (.fieldAddr s x f) ty K H (.v (.pointer (some ⟨g,o',none⟩))):=
 ⟨λρ w F hk _ _=>e_fieldAddr (zp ρ [x]) (opv1 ρ (hk.op hx)) (hf g o) ⟨rfl,by subst ho;rfl⟩⟩
theorem zD {s f:Nat} {x:Operand} {X:D} {o k o':Nat} (hx:opD K x=some (.el X o))
 (hf:∀ b o w,(Instr.fieldAt s (.pointer (some ⟨b,o,none⟩)) f).run P w=.ok (.pointer (some ⟨b,o+k,none⟩)) w) (ho:o+k=o'):Pu P (.fieldAddr s x f) ty K H (.el X o'):=
 ⟨λρ w F hk _ _=>by
  obtain ⟨b,p,u,e,hr⟩:=hk.op hx;exact e_fieldAddr (zp ρ [x]) (opv1 ρ e) (hf b (p+o)) ⟨rfl,b,p,u,by subst ho;rw[vO],hr⟩⟩
def zeU (X:D) (o n:Nat):D:=.agg ((X.cells.drop o).take n)
theorem load_agg {t:TypeId} {x:Operand} {w:World} {F:Nat->Prop} {ρ:Env} {X:D} {u:Value} {b p o n:Nat} (he:ev ρ x=.pointer (some ⟨b,p+o,none⟩)) (hg:∀ w,(isAgg t).run P w=.ok true w) (hs:∀ w,(Go.sizeOf t).run P w=.ok n w)
 (hr:D.rep w F X u) (h1:One u) (hat:At w b p (vcs u)) (hn:o+n<=X.cells.length):EOp P (.load t x) ty ρ w (λv w'=>w'=w/\D.rep w F (zeU X o n) v):=by
 have hl:=w8 hr h1;have hlen:=zaS hl;have hat':=hat.sub o n;have hn':(((vcs u).drop o).take n).length=n:=by simp only[dG,dL,hlen];omega
 exact e_loadA (zp ρ [x]) (opv1 ρ he) hg (by rw[hn'];exact hs) hat' ⟨rfl,_,rfl,zdd n (zde o hl)⟩
theorem load_one {t:TypeId} {x:Operand} {w:World} {F:Nat->Prop} {ρ:Env} {X d:D} {u:Value} {b p o:Nat} (he:ev ρ x=.pointer (some ⟨b,p+o,none⟩)) (hg:∀ w,(isAgg t).run P w=.ok false w)
 (hr:D.rep w F X u) (h1:One u) (hat:At w b p (vcs u)) (hd:nth X.cells o=some d):EOp P (.load t x) ty ρ w (λv w'=>w'=w/\D.rep w F d v):=by
 rw[zat] at hd;obtain ⟨v,e1,e2,e3⟩:=repL_get (w8 hr h1) hd;exact e_load1 (zp ρ [x]) (opv1 ρ he) hg (hat.2 o v e1) ⟨rfl,e3⟩
theorem zbp {t:TypeId} {x:Operand} {X d:D} {o n:Nat} (hx:opD K x=some (.el X o)) (hg:∀ w,(isAgg t).run P w=.ok true w) (hs:∀ w,(Go.sizeOf t).run P w=.ok n w) (hn:Nat.ble (o+n) X.cells.length=true) (hd:zeU X o n=d):Pu P (.load t x) ty K H d:=
 ⟨λρ w F hk _ _=>by
  obtain ⟨b,p,u,e,_,hr,h1,hat⟩:=hk.op hx;exact hd ▸ load_agg e hg hs hr h1 hat (dV hn)⟩
theorem zK {t:TypeId} {x:Operand} {X d:D} {o:Nat} (hx:opD K x=some (.el X o)) (hg:∀ w,(isAgg t).run P w=.ok false w) (hd:nth X.cells o=some d):Pu P (.load t x) ty K H d:=
 ⟨λρ w F hk _ _=>by
  obtain ⟨b,p,u,e,_,hr,h1,hat⟩:=hk.op hx;exact load_one e hg hr h1 hat hd⟩
theorem zR {α:Type} {l:List α} {i:Nat} {x:α} (h:nth l i=some x):x∈l:=by rw[zat] at h;exact d4 h
theorem bx_at {w:World} {F:Nat->Prop} {g:Nat} {T:TypeId} {X:D} (h:(Hp.bx g T X).ok w F):∃ u,D.rep w F X u/\One u/\At w g 0 (vcs u):=by
 obtain ⟨u,h1,h2,h3⟩:=h;refine⟨u,h1,h2,(jP.1 h3).1,λj v hv=>?_⟩;rw[cell_of_row w g (0+j) _ T (0,0) h3];simpa [vcs] using hv
theorem zaP {t:TypeId} {x:Operand} {g o n i:Nat} {T:TypeId} {X d:D} (hx:opD K x=some (.v (.pointer (some ⟨g,o,none⟩)))) (hm:nth H i=some (.bx g T X)) (hg:∀ w,(isAgg t).run P w=.ok true w) (hs:∀ w,(Go.sizeOf t).run P w=.ok n w) (hn:Nat.ble (o+n) X.cells.length=true) (hd:zeU X o n=d):Pu P (.load t x) ty K H d:=
 ⟨λρ w F hk _ hH=>by
  obtain ⟨u,hr,h1,hat⟩:=bx_at (hH _ (zR hm));exact hd ▸ load_agg (p:=0) (by rw[d6];exact hk.op hx) hg hs hr h1 hat (dV hn)⟩
theorem zn {t:TypeId} {x:Operand} {g o i:Nat} {T:TypeId} {X d:D} (hx:opD K x=some (.v (.pointer (some ⟨g,o,none⟩)))) (hm:nth H i=some (.bx g T X)) (hg:∀ w,(isAgg t).run P w=.ok false w) (hd:nth X.cells o=some d):Pu P (.load t x) ty K H d:=
 ⟨λρ w F hk _ hH=>by
  obtain ⟨u,hr,h1,hat⟩:=bx_at (hH _ (zR hm));exact load_one (p:=0) (by rw[d6];exact hk.op hx) hg hr h1 hat hd⟩
theorem sl_at {w:World} {F:Nat->Prop} {v:Value} {z:Nat} {T:TypeId} {xs:List D} {k:Nat} {X:D} (h:(Hp.sl v z T xs).ok w F) (hX:xs[k]?=some X):∃ u,D.rep w F X u/\One u/\At w (bl v) (k*z) (vcs u)/\∃ n c,v=.slice (some ⟨bl v,0,none⟩) n c/\k<n:=by
 obtain ⟨us,hr,ho⟩:=h;obtain ⟨u,h1,h2,h3,h4⟩:=hr.get hX;have hlt:k<us.length:=(cZ.1 h1).1;have hb:=ho.block (by omega);have hat:=ho.sl.at_ h1;rw[hb.2.2.1,d6] at hat;obtain ⟨cap,r,e,_⟩:=ho.form (by omega);exact⟨u,h2,h3,hat,_,_,e,hlt⟩
theorem zB {t:TypeId} {x:Operand} {v:Value} {z k o n i:Nat} {T:TypeId} {xs:List D} {X d:D} (hx:opD K x=some (.v (.pointer (some ⟨bl v,k*z+o,none⟩)))) (hm:nth H i=some (.sl v z T xs)) (hX:xs[k]?=some X) (hg:∀ w,(isAgg t).run P w=.ok true w) (hs:∀ w,(Go.sizeOf t).run P w=.ok n w) (hn:Nat.ble (o+n) X.cells.length=true) (hd:zeU X o n=d):Pu P (.load t x) ty K H d:=
 ⟨λρ w F hk _ hH=>by
  obtain ⟨u,hr,h1,hat,_⟩:=sl_at (hH _ (zR hm)) hX;exact hd ▸ load_agg (hk.op hx) hg hs hr h1 hat (dV hn)⟩
theorem zaA {t:TypeId} {x:Operand} {v:Value} {z k o i:Nat} {T:TypeId} {xs:List D} {X d:D} (hx:opD K x=some (.v (.pointer (some ⟨bl v,k*z+o,none⟩)))) (hm:nth H i=some (.sl v z T xs)) (hX:xs[k]?=some X) (hg:∀ w,(isAgg t).run P w=.ok false w) (hd:nth X.cells o=some d):Pu P (.load t x) ty K H d:=
 ⟨λρ w F hk _ hH=>by
  obtain ⟨u,hr,h1,hat,_⟩:=sl_at (hH _ (zR hm)) hX;exact load_one (hk.op hx) hg hr h1 hat hd⟩
theorem p_field {s f o m:Nat} {x:Operand} {X d:D} (hx:opD K x=some X) (hX:X=.agg X.cells) (hm:X.cells.length=m) (hf:∀ vs:List Value,vs.length=m->∀ w,(Instr.field s (.agg vs.toArray) f).run P w=.ok (vs.getD o undef) w) (hd:nth X.cells o=some d):Pu P (.field s x f) ty K H d:=
 ⟨λρ w F hk _ _=>by
  have h:=hk.op hx;rw[hX] at h;obtain ⟨vs,e,hl⟩:=h;rw[zat] at hd;obtain ⟨u,e1,e2,e3⟩:=repL_get hl hd;exact e_field (zp ρ [x]) (opv1 ρ e) (hf vs (by rw[zaS hl,hm])) ⟨rfl,by simpa [jI,e1] using e3⟩⟩
theorem p_field_agg {s f o n m:Nat} {x:Operand} {X d:D} (hx:opD K x=some X) (hX:X=.agg X.cells) (hm:X.cells.length=m) (hf:∀ vs:List Value,vs.length=m->∀ w,(Instr.field s (.agg vs.toArray) f).run P w=.ok (.agg ((vs.drop o).take n).toArray) w) (hd:zeU X o n=d):Pu P (.field s x f) ty K H d:=
 ⟨λρ w F hk _ _=>by
  have h:=hk.op hx;rw[hX] at h;obtain ⟨vs,e,hl⟩:=h;exact e_field (zp ρ [x]) (opv1 ρ e) (hf vs (by rw[zaS hl,hm])) ⟨rfl,by subst hd;exact⟨_,rfl,zdd n (zde o hl)⟩⟩⟩
theorem zh {t e:TypeId} {z k:Nat} {x i:Operand} {xs:List D} {X:D} {kd:IntKind} {n:Int} (hx:opD K x=some (.sh z xs)) (hi:opD K i=some (.v (.int kd n))) (ht:∀ w,(underlying t).run P w=.ok (.slice e) w) (hs:∀ w,(Go.sizeOf e).run P w=.ok z w) (hn:n=(k:Int)) (hX:xs[k]?=some X):Pu P (.indexAddr t x i) ty K H (.el X 0):=
 ⟨λρ w F hk hF _=>by
  obtain ⟨us,hr,hsl,hb,_⟩:=D.rep_sl hF (hk.op hx);obtain ⟨u,h1,h2,h3,h4⟩:=hr.get hX;have hlt:k<us.length:=(cZ.1 h1).1;have hxs:xs≠[]:=by intro e;rw[e] at hX;simp at hX
  obtain ⟨b,o,c,hv,hFb⟩:=hb hxs;have hat:=hsl.at_ h1;refine e_indexAddr (k:=k) (z:=z) (zp ρ [x,i]) (za5 ρ rfl) (za4 ρ (hk.op hi)) ht hs (hsl.has hlt) hn ⟨rfl,b,o+k*z,u,?_,hFb,h2,h3,?_⟩
  · rw[hv];rfl
  rw[hv] at hat;exact hat⟩
theorem zg {t e:TypeId} {z k j:Nat} {x i:Operand} {v:Value} {T:TypeId} {xs:List D} {X:D} {kd:IntKind} {n:Int} (hx:opO K x=some v) (hm:nth H j=some (.sl v z T xs)) (hi:opD K i=some (.v (.int kd n))) (ht:∀ w,(underlying t).run P w=.ok (.slice e) w) (hs:∀ w,(Go.sizeOf e).run P w=.ok z w) (hn:n=(k:Int)) (hX:xs[k]?=some X):Pu P (.indexAddr t x i) ty K H (.v (.pointer (some ⟨bl v,k*z+0,none⟩))):=
 ⟨λρ w F hk hF hH=>by
  obtain ⟨u,_,_,_,m,c,hv,hlt⟩:=sl_at (hH _ (zR hm)) hX;have he:ev ρ x=v:=hk.opO hx;refine e_indexAddr (k:=k) (z:=z) (zp ρ [x,i]) (za5 ρ he) (za4 ρ (hk.op hi)) ht hs ⟨bl v,0,m,c,hv,hlt⟩ hn ⟨rfl,?_⟩;show Value.pointer _=_;rw[show of_ v=0 by rw[hv];rfl,d6,uP]⟩
theorem zag {t:TypeId} {x i:Operand} {b:ByteArray} {kd:IntKind} {n:Int} {k:Nat} {u:UInt8} (hx:opS K x=some b) (hi:opD K i=some (.v (.int kd n))) (ht:∀ w,(underlying t).run P w=.ok .string w) (hn:n=(k:Int)) (hu:b[k]?=some u):Pu P (.index t x i) ty K H (.v (.int .u8 u.toNat)):=
 ⟨λρ w F hk _ _=>e_index_str (zp ρ [x,i]) (za5 ρ (hk.opS hx)) (za4 ρ (hk.op hi)) ht hn hu ⟨rfl,rfl⟩⟩
def bndD (K:Kd):Option Operand->Option (Option Int)
 | none=>some none
 | some x=>match opD K x with
  | some (.v (.int _ n))=>some (some n)
  | _=>none
theorem zbo {w:World} {F:Nat->Prop} {ρ:Env} (hk:KOk w F ρ K) {x:Option Operand} {r:Option Int} (h:bndD K x=some r):(r=none/\x.map (ev ρ)=none)\/∃ n kd,r=some n/\x.map (ev ρ)=some (.int kd n):=by
 cases x with
 | none=>simp only[bndD,dF] at h;subst h;exact .inl ⟨rfl,rfl⟩
 | some x=>
  simp only[bndD] at h;split at h
  · rename_i kd n hd;injection h with h;subst h;exact .inr ⟨n,kd,rfl,by have he:ev ρ x=_:=hk.op hd;simp[he]⟩
  cases h
def Bnd (r:Option Int) (b a:Nat):Prop:=match r with
 | none=>b=a
 | some n=>n=(a:Int)
theorem Bnd.out {r:Option Int} {b a:Nat} (h:Bnd r b a) {x:Option Value} (hx:(r=none/\x=none)\/∃ n kd,r=some n/\x=some (.int kd n)):(x=none/\b=a)\/(∃ kd,x=some (.int kd (a:Int))):=by
 rcases hx with ⟨rfl,rfl⟩ | ⟨n,kd,rfl,rfl⟩
 · exact .inl ⟨rfl,h⟩
 exact .inr ⟨kd,by have h:n=_:=h;rw[h]⟩
theorem zcM {t e:TypeId} {z a b:Nat} {x:Operand} {lo hi:Option Operand} {xs:List D} {rl rh:Option Int} (hx:opD K x=some (.sh z xs)) (hlo:bndD K lo=some rl) (hhi:bndD K hi=some rh) (ha:Bnd rl 0 a) (hb:Bnd rh xs.length b)
 (ht:∀ w,(underlying t).run P w=.ok (.slice e) w) (hs:∀ w,(Go.sizeOf e).run P w=.ok z w) (hab:a<=b) (hbn:b<=xs.length):Pu P (.slice t x lo hi none) ty K H (.sh z ((xs.take b).drop a)):=
 ⟨λρ w F hk hF _=>by
  obtain ⟨us,hr,hsl,hblk,hmx⟩:=D.rep_sl hF (hk.op hx);have hul:=hr.len;obtain ⟨A,c,hv,hc⟩:=hsl.capOk;refine e_slice (n:=xs.length) (a:=a) (b:=b) (z:=z) (zp ρ [x]) (opv1 ρ rfl) rfl rfl (ha.out (zbo hk hlo)) (hb.out (zbo hk hhi)) ht hs ⟨A,c,by rw[<-hul];exact hv,by omega⟩ hab ⟨rfl,?_⟩;have h2:=hsl.cut a b hab (by omega);refine w9 ((hr.take b).drop a) h2 (λhne g hg=>?_) (by simp only[dL,dG];omega);obtain ⟨b',o',c',hv',hF'⟩:=hblk (by rintro rfl;simp at hne);rw[hv'] at hg;simp only[cut] at hg;split at hg
  · cases hg;exact hF'
  simp only[Option.map_some,Value.ownBlock,Addr.add] at hg;split at hg<;>(cases hg;exact hF')⟩
theorem zaf {t:TypeId} {a c:Nat} {x:Operand} {lo hi:Option Operand} {b:ByteArray} {rl rh:Option Int} (hx:opD K x=some (.s b)) (hlo:bndD K lo=some rl) (hhi:bndD K hi=some rh) (ha:Bnd rl 0 a) (hb:Bnd rh b.size c)
 (ht:∀ w,(underlying t).run P w=.ok .string w) (hab:a<=c) (hbn:c<=b.size):Pu P (.slice t x lo hi none) ty K H (.s (b.extract a c)):=
 ⟨λρ w F hk hF _=>by
  have h:=hk.op hx;exact e_slice_str (zp ρ [x]) (opv1 ρ h.1) rfl rfl (ha.out (zbo hk hlo)) (hb.out (zbo hk hhi)) ht hab hbn ⟨rfl,rfl,jA (by rw[dT];omega) h.2⟩⟩
theorem zaa {t e:TypeId} {z a b j:Nat} {x:Operand} {lo hi:Option Operand} {v:Value} {T:TypeId} {xs:List D} {rl rh:Option Int} (hx:opO K x=some v) (hm:nth H j=some (.sl v z T xs)) (hlo:bndD K lo=some rl) (hhi:bndD K hi=some rh) (ha:Bnd rl 0 a) (hb:Bnd rh xs.length b)
 (ht:∀ w,(underlying t).run P w=.ok (.slice e) w) (hs:∀ w,(Go.sizeOf e).run P w=.ok z w) (hab:a<=b) (hbn:b<=xs.length):Pu P (.slice t x lo hi none) ty K H (.v (cut z v a b)):=
 ⟨λρ w F hk hF hH=>by
  obtain ⟨us,hr,ho⟩:=hH _ (zR hm);have hul:=hr.len;obtain ⟨A,c,hv,hc⟩:=ho.sl.capOk;exact e_slice (n:=xs.length) (a:=a) (b:=b) (z:=z) (zp ρ [x]) (opv1 ρ (hk.opO hx)) rfl rfl (ha.out (zbo hk hlo)) (hb.out (zbo hk hhi)) ht hs ⟨A,c,by rw[<-hul];exact hv,by omega⟩ hab ⟨rfl,rfl⟩⟩
section
variable {t t':TypeId} {x y:Operand} {k:IntKind} {a b c:Int}
theorem zu (hx:opD K x=some (.v (.int k a))) (hy:opD K y=some (.v (.int k b))) (hw:k.wrap (a+b)=c):Pu P (.binOp .add t x y t') ty K H (.v (.int k c)):=
 ⟨λρ w F hk _ _=>e_add (zp ρ [x,y]) (za5 ρ (hk.op hx)) (za4 ρ (hk.op hy)) hw ⟨rfl,rfl⟩⟩
theorem zT (hx:opD K x=some (.v (.int k a))) (hy:opD K y=some (.v (.int k b))) (hw:k.wrap (a-b)=c):Pu P (.binOp .sub t x y t') ty K H (.v (.int k c)):=
 ⟨λρ w F hk _ _=>e_sub (zp ρ [x,y]) (za5 ρ (hk.op hx)) (za4 ρ (hk.op hy)) hw ⟨rfl,rfl⟩⟩
theorem zfy (hx:opD K x=some (.v (.int k a))) (hy:opD K y=some (.v (.int k b))) (hw:k.wrap (a*b)=c):Pu P (.binOp .mul t x y t') ty K H (.v (.int k c)):=
 ⟨λρ w F hk _ _=>e_mul (zp ρ [x,y]) (za5 ρ (hk.op hx)) (za4 ρ (hk.op hy)) hw ⟨rfl,rfl⟩⟩
theorem p_quo (hx:opD K x=some (.v (.int k a))) (hy:opD K y=some (.v (.int k b))) (hb:b≠0) (hw:k.wrap (a.tdiv b)=c):Pu P (.binOp .quo t x y t') ty K H (.v (.int k c)):=
 ⟨λρ w F hk _ _=>e_quo (zp ρ [x,y]) (za5 ρ (hk.op hx)) (za4 ρ (hk.op hy)) hb hw ⟨rfl,rfl⟩⟩
theorem p_rem (hx:opD K x=some (.v (.int k a))) (hy:opD K y=some (.v (.int k b))) (hb:b≠0) (hw:a.tmod b=c):Pu P (.binOp .rem t x y t') ty K H (.v (.int k c)):=
 ⟨λρ w F hk _ _=>e_rem (zp ρ [x,y]) (za5 ρ (hk.op hx)) (za4 ρ (hk.op hy)) hb hw ⟨rfl,rfl⟩⟩
theorem zba {q:Bool} (hx:opD K x=some (.v (.int k a))) (hy:opD K y=some (.v (.int k b))) (hq:decide (a<b)=q):Pu P (.binOp .lss t x y t') ty K H (.v (.bool q)):=
 ⟨λρ w F hk _ _=>e_lss (zp ρ [x,y]) (za5 ρ (hk.op hx)) (za4 ρ (hk.op hy)) hq ⟨rfl,rfl⟩⟩
theorem zbm {q:Bool} (hx:opD K x=some (.v (.int k a))) (hy:opD K y=some (.v (.int k b))) (hq:decide (a<=b)=q):Pu P (.binOp .leq t x y t') ty K H (.v (.bool q)):=
 ⟨λρ w F hk _ _=>e_leq (zp ρ [x,y]) (za5 ρ (hk.op hx)) (za4 ρ (hk.op hy)) hq ⟨rfl,rfl⟩⟩
theorem zaV {q:Bool} (hx:opD K x=some (.v (.int k a))) (hy:opD K y=some (.v (.int k b))) (hq:decide (b<a)=q):Pu P (.binOp .gtr t x y t') ty K H (.v (.bool q)):=
 ⟨λρ w F hk _ _=>e_gtr (zp ρ [x,y]) (za5 ρ (hk.op hx)) (za4 ρ (hk.op hy)) hq ⟨rfl,rfl⟩⟩
theorem zan {q:Bool} (hx:opD K x=some (.v (.int k a))) (hy:opD K y=some (.v (.int k b))) (hq:decide (b<=a)=q):Pu P (.binOp .geq t x y t') ty K H (.v (.bool q)):=
 ⟨λρ w F hk _ _=>e_geq (zp ρ [x,y]) (za5 ρ (hk.op hx)) (za4 ρ (hk.op hy)) hq ⟨rfl,rfl⟩⟩
theorem zaE {q:Bool} (hx:opD K x=some (.v (.int k a))) (hy:opD K y=some (.v (.int k b))) (hq:decide (a=b)=q):Pu P (.binOp .eql t x y t') ty K H (.v (.bool q)):=
 ⟨λρ w F hk _ _=>e_eql (zp ρ [x,y]) (za5 ρ (hk.op hx)) (za4 ρ (hk.op hy)) hq ⟨rfl,rfl⟩⟩
theorem zca {q:Bool} (hx:opD K x=some (.v (.int k a))) (hy:opD K y=some (.v (.int k b))) (hq:decide (a≠b)=q):Pu P (.binOp .neq t x y t') ty K H (.v (.bool q)):=
 ⟨λρ w F hk _ _=>e_neq (zp ρ [x,y]) (za5 ρ (hk.op hx)) (za4 ρ (hk.op hy)) hq ⟨rfl,rfl⟩⟩
theorem zdF {q:Bool} (hx:opD K x=some (.v (.bool q))):Pu P (.unOp .not t x) ty K H (.v (.bool (!q))):=
 ⟨λρ w F hk _ _=>e_not (zp ρ [x]) (opv1 ρ (hk.op hx)) ⟨rfl,rfl⟩⟩
theorem p_neg (hx:opD K x=some (.v (.int k a))) (hw:k.wrap (0-a)=c):Pu P (.unOp .neg t x) ty K H (.v (.int k c)):=
 ⟨λρ w F hk _ _=>e_neg (zp ρ [x]) (opv1 ρ (hk.op hx)) hw ⟨rfl,rfl⟩⟩
theorem zdX {op:BinOp} {u v r:Value} (hx:opD K x=some (.v u)) (hy:opD K y=some (.v v)) (hr:∀ w,(do eqGuard op t x y u v;binOp op t u v:Sem Value).run P w=.ok r w):Pu P (.binOp op t x y t') ty K H (.v r):=
 ⟨λρ w F hk _ _=>zbS (zp ρ [x,y]) (za5 ρ (hk.op hx)) (za4 ρ (hk.op hy)) hr ⟨rfl,rfl⟩⟩
theorem zV {t1 t2:TypeId} (hx:opD K x=some (.v (.int k a))) {k':IntKind} (hr:∀ w,(convert t1 t2 (.int k a)).run P w=.ok (.int k' c) w):Pu P (.convert t1 t2 x) ty K H (.v (.int k' c)):=
 ⟨λρ w F hk _ _=>wW (v:=.int k' c) (w':=w) (by have:=zbk (hr w);have he:ev ρ x=_:=hk.op hx;simpa [execOp,z1,he] using this) ⟨rfl,rfl⟩⟩
end
section
variable {t t':TypeId} {x y:Operand} {a b:ByteArray}
theorem zaO {q:Bool} (hx:opS K x=some a) (hy:opS K y=some b) (hq:decide (a=b)=q):Pu P (.binOp .eql t x y t') ty K H (.v (.bool q)):=
 ⟨λρ w F hk _ _=>e_eqs (zp ρ [x,y]) (za5 ρ (hk.opS hx)) (za4 ρ (hk.opS hy)) hq ⟨rfl,rfl⟩⟩
theorem p_nes {q:Bool} (hx:opS K x=some a) (hy:opS K y=some b) (hq:decide (a≠b)=q):Pu P (.binOp .neq t x y t') ty K H (.v (.bool q)):=
 ⟨λρ w F hk _ _=>e_nes (zp ρ [x,y]) (za5 ρ (hk.opS hx)) (za4 ρ (hk.opS hy)) hq ⟨rfl,rfl⟩⟩
theorem p_lts {q:Bool} (hx:opS K x=some a) (hy:opS K y=some b) (hq:decide (cmpS a b<0)=q):Pu P (.binOp .lss t x y t') ty K H (.v (.bool q)):=
 ⟨λρ w F hk _ _=>e_lts (zp ρ [x,y]) (za5 ρ (hk.opS hx)) (za4 ρ (hk.opS hy)) hq ⟨rfl,rfl⟩⟩
theorem p_gts {q:Bool} (hx:opS K x=some a) (hy:opS K y=some b) (hq:decide (0<cmpS a b)=q):Pu P (.binOp .gtr t x y t') ty K H (.v (.bool q)):=
 ⟨λρ w F hk _ _=>e_gts (zp ρ [x,y]) (za5 ρ (hk.opS hx)) (za4 ρ (hk.opS hy)) hq ⟨rfl,rfl⟩⟩
theorem z6 (hx:opS K x=some a) (ht:∀ w,(underlying t).run P w=.ok .string w):Pu P (.call { callee:=.builtin .len,args:=#[x],argTypes:=#[t] }) ty K H (.v (.int .i64 a.size)):=
 ⟨λρ w F hk _ _=>e_len_str (zp ρ [x]) (opv1 ρ (hk.opS hx)) ht ⟨rfl,rfl⟩⟩
end
theorem zH {t e:TypeId} {x:Operand} {z n:Nat} {xs:List D} (hx:opD K x=some (.sh z xs)) (ht:∀ w,(underlying t).run P w=.ok (.slice e) w) (hn:xs.length=n):Pu P (.call { callee:=.builtin .len,args:=#[x],argTypes:=#[t] }) ty K H (.v (.int .i64 (n:Int))):=
 ⟨λρ w F hk _ _=>by
  obtain ⟨A,c,h,_⟩:=hk.op hx;exact e_len (n:=n) (zp ρ [x]) (opv1 ρ h) ht (by subst hn;exact⟨A,c,rfl⟩) ⟨rfl,rfl⟩⟩
theorem zG {t e:TypeId} {x:Operand} {z n j:Nat} {v:Value} {T:TypeId} {xs:List D} (hx:opO K x=some v) (hm:nth H j=some (.sl v z T xs)) (ht:∀ w,(underlying t).run P w=.ok (.slice e) w) (hn:xs.length=n):Pu P (.call { callee:=.builtin .len,args:=#[x],argTypes:=#[t] }) ty K H (.v (.int .i64 (n:Int))):=
 ⟨λρ w F hk _ hH=>by
  obtain ⟨us,hr,ho⟩:=hH _ (zR hm);exact e_len (n:=n) (zp ρ [x]) (opv1 ρ (hk.opO hx)) ht (by have:=ho.len;rw[hr.len,hn] at this;exact this) ⟨rfl,rfl⟩⟩
theorem p_len_v {t e:TypeId} {x:Operand} {n:Nat} {v:Value} (hx:opD K x=some (.v v)) (hv:Len v n) (ht:∀ w,(underlying t).run P w=.ok (.slice e) w):Pu P (.call { callee:=.builtin .len,args:=#[x],argTypes:=#[t] }) ty K H (.v (.int .i64 (n:Int))):=
 ⟨λρ w F hk _ hH=>e_len (n:=n) (zp ρ [x]) (opv1 ρ (hk.op hx)) ht hv ⟨rfl,rfl⟩⟩
theorem zf9 {t:Array TypeId} {x y:Operand} {k k':IntKind} {a b c:Int} (hx:opD K x=some (.v (.int k a))) (hy:opD K y=some (.v (.int k' b))) (hc:max a b=c):Pu P (.call { callee:=.builtin .max,args:=#[x,y],argTypes:=t }) ty K H (.v (.int k c)):=
 ⟨λρ w F hk _ _=>wW (v:=.int k c) (w':=w) (by
  have e1:ev ρ x=_:=hk.op hx;have e2:ev ρ y=_:=hk.op hy;have:(if a<b then b else a)=c:=by subst hc;omega
  simp[execOp,z1,resolve,invoke,builtin,e1,e2,Builtin.max_,Builtin.max2,this]) ⟨rfl,rfl⟩⟩
theorem p_min {t:Array TypeId} {x y:Operand} {k k':IntKind} {a b c:Int} (hx:opD K x=some (.v (.int k a))) (hy:opD K y=some (.v (.int k' b))) (hc:min a b=c):Pu P (.call { callee:=.builtin .min,args:=#[x,y],argTypes:=t }) ty K H (.v (.int k c)):=
 ⟨λρ w F hk _ _=>wW (v:=.int k c) (w':=w) (by
  have e1:ev ρ x=_:=hk.op hx;have e2:ev ρ y=_:=hk.op hy;have:(if b<a then b else a)=c:=by subst hc;omega
  simp[execOp,z1,resolve,invoke,builtin,e1,e2,Builtin.min_,Builtin.min2,this]) ⟨rfl,rfl⟩⟩
theorem repA_get {w:World} {F:Nat->Prop}:∀ {ds:List D} {vs:List Value},D.repA w F ds vs->∀ {j:Nat} {d:D},ds[j]?=some d->∃ u,vs[j]?=some u/\D.rep w F d u
 | [],_,rfl,j,d,h=>by simp at h
 | x::r,_,⟨u,us,rfl,h2,h3⟩,j,d,h=>by
  cases j with
  | zero=>simp at h;subst h;exact⟨u,by simp,h2⟩
  | succ j=>obtain ⟨u',e⟩:=repA_get h3 (j:=j) (d:=d) (by simpa using h);exact⟨u',by simpa using e⟩
theorem zam {x:Operand} {i:Nat} {ds:List D} {d:D} (hx:opD K x=some (.tup ds)) (hd:nth ds i=some d):Pu P (.extract x i) ty K H d:=
 ⟨λρ w F hk _ _=>by
  obtain ⟨vs,e,hl⟩:=hk.op hx;rw[zat] at hd;obtain ⟨u,e1,e2⟩:=repA_get hl hd;exact e_extract (zp ρ [x]) (opv1 ρ e) (by simpa using e1) ⟨rfl,e2⟩⟩
theorem p_mkIface {t:TypeId} {x:Operand} {d:D} (hx:opD K x=some d) (hm:∀ u w,(Instr.makeInterface t u).run P w=.ok (.iface t u) w):Pu P (.makeInterface t x) ty K H (.ifc t d):=
 ⟨λρ w F hk _ _=>e_mkIface (zp ρ [x]) (opv1 ρ rfl) (hm _) ⟨rfl,_,rfl,hk.op hx⟩⟩
theorem zaT {t T:TypeId} {x:Operand} {d:D} (hx:opD K x=some (.ifc T d)) (hm:∀ u w,(Instr.typeAssert (.iface T u) t T true).run P w=.ok (.tuple #[u,.bool true]) w):Pu P (.typeAssert x t T true) ty K H (.tup [d,.v (.bool true)]):=
 ⟨λρ w F hk _ _=>by
  obtain ⟨u,e,hr⟩:=hk.op hx;exact e_assert (zp ρ [x]) (opv1 ρ e) (hm u) ⟨rfl,[u,.bool true],rfl,u,_,rfl,hr,_,_,rfl,rfl,rfl⟩⟩
theorem zak {t T T':TypeId} {x:Operand} {d:D} {zv:Value} (hx:opD K x=some (.ifc T' d)) (hm:∀ u w,(Instr.typeAssert (.iface T' u) t T true).run P w=.ok (.tuple #[zv,.bool false]) w):Pu P (.typeAssert x t T true) ty K H (.tup [.v zv,.v (.bool false)]):=
 ⟨λρ w F hk _ _=>by
  obtain ⟨u,e,hr⟩:=hk.op hx;exact e_assert (zp ρ [x]) (opv1 ρ e) (hm u) ⟨rfl,[zv,.bool false],rfl,zv,_,rfl,rfl,_,_,rfl,rfl,rfl⟩⟩
theorem p_assert_n {t T:TypeId} {x:Operand} {zv:Value} (hx:opD K x=some (.v .nilIface)) (hm:∀ w,(Instr.typeAssert .nilIface t T true).run P w=.ok (.tuple #[zv,.bool false]) w):Pu P (.typeAssert x t T true) ty K H (.tup [.v zv,.v (.bool false)]):=
 ⟨λρ w F hk _ _=>e_assert (zp ρ [x]) (opv1 ρ (hk.op hx)) hm ⟨rfl,[zv,.bool false],rfl,zv,_,rfl,rfl,_,_,rfl,rfl,rfl⟩⟩
theorem zdr {t T:TypeId} {x:Operand} {d:D} (hx:opD K x=some (.ifc T d)) (hm:∀ u w,(Instr.typeAssert (.iface T u) t T false).run P w=.ok u w):Pu P (.typeAssert x t T false) ty K H d:=
 ⟨λρ w F hk _ _=>by
  obtain ⟨u,e,hr⟩:=hk.op hx;exact wW (v:=u) (w':=w) (zbk (by rw[e];exact hm u w)) ⟨rfl,hr⟩⟩
def zcm {α:Type} (cs:List α) (o:Nat) (vs:List α):List α:=cs.take o++vs++cs.drop (o+vs.length)
def zee {α:Type} (places:List (Nat×Nat)) (cs:List α):List (Nat×List α)->Option (List α)
 | []=>some cs
 | (i,c)::r=>match nth places i with
  | none=>none
  | some (o,n)=>bif Nat.beq c.length n&&Nat.ble (o+c.length) cs.length then zee places (zcm cs o c) r else none
theorem splice_fold:∀ (vs:List Value) (cs:Array Value) (o j:Nat),o+j+vs.length<=cs.size->
 ((vs.zipIdx j).foldl (λcs (c,i)=>cs.setIfInBounds (o+i) c) cs).toList=spl cs.toList (o+j) vs
 | [],cs,o,j,_=>by simp[spl]
 | v::r,cs,o,j,h=>by
  rw[List.zipIdx_cons,uA];have ih:=splice_fold r (cs.setIfInBounds (o+j) v) o (j+1) (by simp at h ⊢;omega);rw[ih];have:(cs.setIfInBounds (o+j) v).toList=spl cs.toList (o+j) [v]:=by
   rw[Array.toList_setIfInBounds];apply wC;intro i;rw[zdE _ _ _ (by simp at h ⊢;omega),List.getElem?_set];by_cases e:o+j=i
   · subst e;simp at h ⊢;omega
   rw[if_neg e,if_neg (by simp;omega)]
  rw[this,show o+(j+1)=o+j+1 by omega,spl_cons _ _ _ _ (by simpa using h)]
theorem fill_fillL (place:Nat->Option (Nat×Nat)) (pl:List (Nat×Nat)) (hp:∀ i,place i=pl[i]?):∀ (ps:List (Nat×Value)) (cs:Array Value) (r:List Value),zee pl cs.toList (ps.map λp=>(p.1,vcs p.2))=some r->Instr.fill place cs ps=some r.toArray
 | [],cs,r,h=>by simp[zee] at h;subst h;simp[Instr.fill]
 | (i,v)::rest,cs,r,h=>by
  simp only[jS,zee,zat] at h;simp only[Instr.fill,hp i];cases hpl:pl[i]? with
  | none=>rw[hpl] at h;cases h
  | some x=>
   obtain ⟨o,n⟩:=x;rw[hpl] at h;simp only at h ⊢;cases hc:(Nat.beq (vcs v).length n&&Nat.ble (o+(vcs v).length) cs.toList.length) with
   | false=>rw[hc] at h;cases h
   | true=>
    rw[hc] at h;simp only[cond_true] at h;rw[c8] at hc;have h1:=dU hc.1;have h2:=dV hc.2;simp only[vcs,Array.length_toList] at h1 h2;rw[if_neg (by simp;omega)];refine fill_fillL place pl hp rest _ r ?_;have:=splice_fold (vcs v) cs o 0 (by simp[vcs];omega);rw[<-h,<-Array.foldl_toList,Array.toList_zipIdx];congr 1
theorem fillL_rep {w:World} {F:Nat->Prop} {pl:List (Nat×Nat)}:∀ (is:List Nat) (ds:List (List D)) (cs:List D) (r:List D) (us:List (List Value)) (vs:List Value),D.repL w F cs vs->ds.length=us.length->(∀ (i:Nat) (d:List D) (u:List Value),ds[i]?=some d->us[i]?=some u->D.repL w F d u)->zee pl cs (is.zip ds)=some r->∃ r',zee pl vs (is.zip us)=some r'/\D.repL w F r r'
 | [],ds,cs,r,us,vs,hr,_,_,h=>by simp[zee] at h;subst h;exact⟨vs,by simp[zee],hr⟩
 | i::is,[],cs,r,us,vs,hr,hl,_,h=>by
  have:us=[]:=dJ (by simpa using hl.symm);subst this;simp[zee] at h;subst h;exact⟨vs,by simp[zee],hr⟩
 | i::is,d::ds,cs,r,[],vs,hr,hl,_,h=>by simp at hl
 | i::is,d::ds,cs,r,u::us,vs,hr,hl,hd,h=>by
  simp only[List.zip_cons_cons,zee] at h ⊢;have hdu:=hd 0 d u (by simp) (by simp);have hdl:=zaS hdu;have hcl:=zaS hr;cases hp:nth pl i with
  | none=>rw[hp] at h;cases h
  | some x=>
   obtain ⟨o,n⟩:=x;rw[hp] at h;simp only at h ⊢;rw[hdl,hcl];cases hc:(Nat.beq d.length n&&Nat.ble (o+d.length) cs.length) with
   | false=>rw[hc] at h;cases h
   | true=>
    rw[hc] at h;simp only[cond_true] at h ⊢;refine fillL_rep is ds _ r us _ ?_ (by simpa using hl) (λj a b ha hb=>hd (j+1) a b (by simpa using ha) (by simpa using hb)) h;unfold zcm;rw[hdl];exact zeq (zeq (zdd o hr) hdu) (zde _ hr)
structure CellD (H:List Hp) (d:D):Prop where
 out:∀ w F u,(∀ h∈H,h.ok w F)->D.rep w F d u->One u
theorem CellD.agg {cs:List D}:CellD H (.agg cs):=⟨λw F u _ ⟨vs,e,h⟩=>by subst e;intro c hc;exact repL_one h c (by simpa [Value.cells] using hc)⟩
theorem CellD.one {d:D} (h:∀ w F u,D.rep w F d u->u.oneCell'=true):CellD H d:=⟨λw F u _ hr=>One.one (h w F u hr)⟩
theorem CellD.s {b:ByteArray}:CellD H (.s b):=CellD.one (λ_ _ _ h=>by rw[h.1];rfl)
theorem CellD.sh {z:Nat} {xs:List D}:CellD H (.sh z xs):=CellD.one (λ_ _ _ ⟨_,_,h,_⟩=>by rw[h];rfl)
theorem CellD.el {x:D} {o:Nat}:CellD H (.el x o):=CellD.one (λ_ _ _ ⟨_,_,_,h,_⟩=>by rw[h];rfl)
theorem CellD.ifc {t:TypeId} {x:D}:CellD H (.ifc t x):=CellD.one (λ_ _ _ ⟨_,h,_⟩=>by rw[h];rfl)
theorem CellD.fn {f:FuncId} {a b:List D}:CellD H (.fn f a b):=CellD.one (λ_ _ _ ⟨_,_,h,_⟩=>by rw[h];rfl)
theorem CellD.o {u:Value}:CellD H (.ov u):=CellD.one (λ_ _ _ h=>by rw[h.1];exact h.2)
theorem CellD.any:CellD H .any:=CellD.one (λ_ _ _ h=>h)
theorem CellD.v {u:Value} (h:u.oneCell'=true):CellD H (.v u):=CellD.one (λ_ _ _ e=>by rw[e];exact h)
def opsD (K:Kd):List Operand->Option (List D)
 | []=>some []
 | x::r=>match opD K x,opsD K r with
  | some d,some ds=>some (d::ds)
  | _,_=>none
theorem zcU {w:World} {F:Nat->Prop} {ρ:Env} (hk:KOk w F ρ K):∀ {xs:List Operand} {ds:List D},opsD K xs=some ds->D.repA w F ds (xs.map (ev ρ))
 | [],ds,h=>by simp[opsD] at h;subst h;rfl
 | x::r,ds,h=>by
  unfold opsD at h;cases h1:opD K x with
  | none=>simp[h1] at h
  | some d=>
   cases h2:opsD K r with
   | none=>simp[h1,h2] at h
   | some es=>
    simp[h1,h2] at h;subst h;exact⟨_,_,rfl,hk.op h1,zcU hk h2⟩
inductive CellDs (H:List Hp):List D->Prop
 | nil:CellDs H []
 | cons {d:D} {r:List D}:CellD H d->CellDs H r->CellDs H (d::r)
theorem repA_cells {w:World} {F:Nat->Prop} (hH:∀ h∈H,h.ok w F):∀ {ds:List D} {vs:List Value},CellDs H ds->D.repA w F ds vs->∀ (i:Nat) (d:List D) (u:List Value),(ds.map D.cells)[i]?=some d->(vs.map vcs)[i]?=some u->D.repL w F d u
 | [],_,_,_,i,d,u,h,_=>by simp at h
 | x::r,_,.cons hc hcs,⟨a,us,rfl,h1,h2⟩,i,d,u,hd,hu=>by
  cases i with
  | zero=>simp at hd hu;subst hd;subst hu;exact w8 h1 (hc.out _ _ _ hH h1)
  | succ i=>exact repA_cells hH hcs h2 i d u (by simpa using hd) (by simpa using hu)
theorem zr {t:TypeId} {ps:Array (Nat×Operand)} {fields:Array Field} {zv:Value} {pl:List (Nat×Nat)} (is:List Nat) (xs:List Operand) {ds:List D} {cs:List D} (hp:ps=(is.zip xs).toArray) (hx:opsD K xs=some ds) (hc:CellDs H ds)
 (ht:∀ w,(underlying t).run P w=.ok (.struct fields) w) (hz:∀ w,(zeroValue t).run P w=.ok zv w) (hpl:∀ w,(fields.mapM λf=>do pure (f.offset,<-Go.sizeOf f.type):Sem (Array (Nat×Nat))).run P w=.ok pl.toArray w)
 (hzv:zb6 zv.cells.toList) (hf:zee pl (zv.cells.toList.map D.v) (is.zip (ds.map D.cells))=some cs):Pu P (.build t ps) ty K H (.agg cs):=
 ⟨λρ w F hk hF hH=>by
  have hr:=zcU hk hx;have hlen:=repA_len hr;obtain ⟨r',e1,e2⟩:=fillL_rep (w:=w) (F:=F) (pl:=pl) is (ds.map D.cells) (zv.cells.toList.map .v) cs ((xs.map (ev ρ)).map vcs) zv.cells.toList (repL_v _ (zb6.all hzv)) (by simp only[cW] at hlen ⊢;omega) (repA_cells hH hc hr) hf;refine e_build (v:=.agg r'.toArray) (qs:=(is.zip (xs.map (ev ρ))).toArray) ?_ ?_ ⟨rfl,r',rfl,e2⟩
  · subst hp;apply Array.ext';simp[List.zip_map_right,Prod.map]
  intro w;have hfill:=fill_fillL (pl.toArray[·]?) pl (by simp) (is.zip (xs.map (ev ρ))) zv.cells r' (by
   rw[<-e1];congr 1;simp[List.zip_map_right,Prod.map])
  simp only[Instr.build,Sem.run_bind,hz,Result.andThen_ok,ht,hpl,hfill,Sem.run_pure]⟩
end pure
end Lp
