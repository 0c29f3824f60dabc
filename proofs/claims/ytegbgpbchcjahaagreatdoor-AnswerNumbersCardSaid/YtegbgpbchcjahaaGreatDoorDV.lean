import Derived.Scope
import Derived.Laws.Runes
import Derived.Test.YtegbgpbchcjahaaGreatDoorDX
set_option linter.all false
namespace Lp
open Go Go.RowKit
section
variable {P:Program} {N:Nat} {C:Ctx} {c:Code} {K:Kd} {H:List Hp} {Q:zbB}
end
section
variable {P:Program} {ty:TypeId} {K:Kd} {H:List Hp}
def aDf {f:FuncId} {xs ys:Array Operand} {ds es:List D} (hx:opsD K xs.toList=some ds) (hy:opsD K ys.toList=some es):Pu P (.makeFunc (.func f) xs ys) ty K H (.fn f ds es):=
 ⟨λρ w F hk _ _=>by
  have h1:=zdm hk hx;have h2:=zdm hk hy;refine wS (v:=.func (.func f) (xs.map (ev ρ)) (ys.map (ev ρ))) (w':=w) ?_ ⟨O,xs.toList.map (ev ρ),ys.toList.map (ev ρ),?_,h1,h2⟩
  · simp[execOp,Instr.makeFunc,Sem.run_pure,zao]
  congr 1<;>(apply Array.ext';simp)⟩
end
end Lp
namespace Lp
open Go Go.RowKit
def Qu.ef {P:Program} {op:Op} {ty:TypeId} {K:Kd} {H:List Hp} {d:D} (h:Qu P op ty K H d):Ef P op ty K H (λd' H'=>d'=d/\H'=H):=⟨λC ρ w F hk g=>(h.out ρ w F hk g.flt g.h.ok).mono λu w' ⟨E,hr⟩=>by
 obtain ⟨g',k⟩:=g.fn E;exact⟨_,d,H,⟨O,O⟩,hr,g',k⟩⟩
section
variable {P:Program} {ty:TypeId} {K:Kd} {H:List Hp}
end
section
variable {P:Program} {ty:TypeId} {K:Kd} {H:List Hp} {α:Type} {f:α->D}
end
end Lp
namespace Lp
open Go Go.RowKit
variable {P:Program} {ty:TypeId} {K:Kd} {H:List Hp}
structure Kp (α:Type) where
 v:Value
 l:List α
structure K2 (α:Type) where
 v0:Value
 v:Value
 m:Nat
 l:List α
abbrev Kp.d {α:Type} (p:Kp α):D:=.ov p.v
abbrev Kp.h {α:Type} (z:Nat) (T:TypeId) (f:α->D) (p:Kp α):Hp:=.sl p.v z T (p.l.map f)
def aHw {A B T:List Hp}:((A++B)++T).Perm ((A++T)++B):=by
 rw[cP,cP];exact List.perm_append_comm.append_left A
end Lp
namespace Lp
open Go Go.RowKit
def aI0:Code->Bool | .scope _=>true | _=>false
def aPy (Q:zbB):zbB
 | .goto _,_,_,_=>False
 | e,ρ,w,F=>Q e ρ w F
section
variable {P:Program} {N:Nat} {C:Ctx} {K:Kd} {H:List Hp} {Q:zbB} {c:Code} {p:List Bool}
def aMf (pa:List Bool) (hk:aI0 (cd c p)=true) (ha:p++[false]=pa) (h:JD P N C (cd c pa) K H (aPy Q)):JD P N C (cd c p) K H Q:=by
 subst ha;rw[zfK] at h;cases hc:cd c p<;>rw[hc] at hk h<;>simp[aI0] at hk
 simp only[cd,zgg] at h;refine⟨λa w F ok hk g=>wp_scope_straight (wp_mono (h.out a w F ok hk g) ?_)⟩;rintro e a' w' ⟨ok',F',hq⟩;cases e with
 | normal=>exact⟨ok',F',hq⟩
 | exit id=>exact⟨ok',F',hq⟩
 | goto l=>exact hq.elim
 | ret=>exact⟨ok',F',hq⟩
 | panic ch=>exact⟨ok',F',hq⟩
 | outgrown=>exact⟨ok',F',hq⟩
end
end Lp
namespace Lp
open Go Go.RowKit Go.Proofs
section
variable {P:Program}
def aPz {t:TypeId} {i:TypeInfo} (h:P.info? t=some i) (w:World):(typeInfo t).run P w=.ok i w:=by
 simp[typeInfo,program,Sem.run,h]
def agT (P:Program) (t:TypeId):Option Bool:=match P.underlying t with
 | some (.struct _)=>some true
 | some (.array _ _)=>some true
 | some _=>some false
 | none=>none
def zgh {t:TypeId} {b:Bool} (h:agT P t=some b) (w:World):(isAgg t).run P w=.ok b w:=by
 unfold agT at h;unfold isAgg;split at h
 · rename_i fs e;injection h with h;subst h;simp[run_underlying e]
 · rename_i n t' e;injection h with h;subst h;simp[run_underlying e]
 · rename_i d n1 n2 e;injection h with h;subst h;simp only[Sem.run_bind,run_underlying e,Result.andThen_ok];cases d<;>first | rfl | (exact aH rfl (n1 _)) | (exact aH rfl (n2 _ _))
 cases h
def szT (P:Program) (t:TypeId):Option Nat:=match P.info? t with
 | some i=>match i.size with
  | 0=>some 0
  | n+1=>some (n+1)
 | none=>none
def zgq {t:TypeId} {n:Nat} (h:szT P t=some n) (w:World):(Go.sizeOf t).run P w=.ok n w:=by
 unfold szT at h;split at h
 · rename_i i e;split at h<;>(rename_i es;injection h with h;subst h;simp[Go.sizeOf,aPz e,es])
 cases h
def fdT (P:Program) (s f:Nat):Option (Nat×Nat×Bool):=match P.underlying s with
 | some (.struct fs)=>match nth fs.toList f with
  | some x=>match szT P x.type,agT P x.type with
   | some (n+1),some b=>match x.offset with
    | 0=>some (0,n+1,b)
    | o+1=>some (o+1,n+1,b)
   | _,_=>none
  | none=>none
 | _=>none
def aG0 {s f o n:Nat} {b:Bool} (h:fdT P s f=some (o,n,b)):∃ fs x,P.underlying s=some (.struct fs)/\fs[f]?=some x/\x.offset=o/\szT P x.type=some n/\n≠0/\agT P x.type=some b:=by
 unfold fdT at h;split at h
 · rename_i fs e;split at h
   · rename_i x hx;split at h
     · rename_i m c h1 h2;split at h;all_goals
        rename_i ho;injection h with h;injection h with e1 h;injection h with e2 e3;subst e1;subst e2;subst e3;exact⟨fs,x,e,by rw[zaH] at hx;simpa using hx,ho,h1,by omega,h2⟩
     cases h
   cases h
 cases h
def aO8 {s f o n:Nat} {b:Bool} (h:fdT P s f=some (o,n,b)) (g k:Nat) (w:World):(Instr.fieldAt s (.pointer (some ⟨g,k,none⟩)) f).run P w=.ok (.pointer (some ⟨g,k+o,none⟩)) w:=by
 obtain ⟨fs,x,h1,h2,rfl,h3,h4,_⟩:=aG0 h;simp only[Instr.fieldAt,Sem.run_bind,run_underlying h1,Result.andThen_ok,h2,Instr.sureAddr,Sem.run_pure,fieldPlace,zgq h3,aA h4,Addr.add];split
 · rename_i e;rw[e];rfl
 rfl
def aZv {s f o n:Nat} (h:fdT P s f=some (o,n,false)) {vs:List Value} (hl:o<vs.length) (w:World):(Instr.field s (.agg vs.toArray) f).run P w=.ok (vs.getD o undef) w:=by
 obtain ⟨fs,x,h1,h2,rfl,h3,h4,h5⟩:=aG0 h;simp[Instr.field,run_underlying h1,h2,asAgg,part,zgh h5,hl]
def aZb {s f o n:Nat} (h:fdT P s f=some (o,n,true)) (vs:List Value) (w:World):(Instr.field s (.agg vs.toArray) f).run P w=.ok (.agg ((vs.drop o).take n).toArray) w:=by
 obtain ⟨fs,x,h1,h2,rfl,h3,h4,h5⟩:=aG0 h;simp[Instr.field,run_underlying h1,h2,asAgg,part,zgh h5,zgq h3]
end
def cutF {α:Type} (o n:Nat) (l:List α):Option (List α):=match o,n,l with
 | _,0,_=>some []
 | 0,n+1,x::r=>match cutF 0 n r with
  | some y=>some (x::y)
  | none=>none
 | o+1,n+1,_::r=>cutF o (n+1) r
 | _,_+1,[]=>none
termination_by structural l
def yF {α:Type}:∀ {l l':List α} {o n:Nat},cutF o n l=some l'->l'=(l.drop o).take n/\(n=0\/o+n<=l.length)
 | l,l',o,0,h=>by cases l<;>(simp[cutF] at h;subst h;simp)
 | [],l',0,n+1,h=>by simp[cutF] at h
 | [],l',o+1,n+1,h=>by simp[cutF] at h
 | x::r,l',0,n+1,h=>by
  simp only[cutF] at h;split at h
  · rename_i y hy;injection h with h;subst h;obtain ⟨e,hl⟩:=yF hy;exact⟨by rw[e];simp,by simp only[dH];omega⟩
  cases h
 | x::r,l',o+1,n+1,h=>by
  simp only[cutF] at h;obtain ⟨e,hl⟩:=yF h;exact⟨by rw[e];simp,by simp only[dH];omega⟩
def aSm (X:D) (o n:Nat):Option D:=match X with
 | .agg cs=>match cutF o n cs with
  | some l=>some (.agg l)
  | none=>none
 | _=>none
def aKw {X d:D} {o n:Nat} (h:aSm X o n=some d):zfE X o n=d/\(n=0\/o+n<=X.cells.length):=by
 unfold aSm at h;split at h
 · rename_i cs;split at h
   · rename_i l hl;injection h with h;subst h;obtain ⟨e,hle⟩:=yF hl;exact⟨by unfold zfE;simp only[D.cells];rw[e],hle⟩
   cases h
 cases h
def setF {α:Type}:Nat->α->List α->Option (List α)
 | _,_,[]=>none
 | 0,y,_::r=>some (y::r)
 | i+1,y,x::r=>match setF i y r with
  | some l=>some (x::l)
  | none=>none
def aGk {α:Type}:∀ {i:Nat} {y:α} {l l':List α},setF i y l=some l'->l'=l.set i y
 | _,_,[],_,h=>by simp[setF] at h
 | 0,y,x::r,l',h=>by simp[setF] at h;subst h;rfl
 | i+1,y,x::r,l',h=>by
  simp only[setF] at h;split at h
  · rename_i m hm;injection h with h;subst h;rw[aGk hm];rfl
  cases h
def ovF {α:Type}:Nat->List α->List α->Option (List α)
 | _,[],l=>some l
 | 0,y::ys,_::r=>match ovF 0 ys r with
  | some l=>some (y::l)
  | none=>none
 | i+1,y::ys,x::r=>match ovF i (y::ys) r with
  | some l=>some (x::l)
  | none=>none
 | _,_::_,[]=>none
def aE2 {α:Type}:∀ {l:List α} {i:Nat} {ys l':List α},ovF i ys l=some l'->l'=zcH l i ys/\(ys=[]\/i+ys.length<=l.length)
 | l,i,[],l',h=>by
  cases l<;>cases i<;>simp[ovF] at h<;>subst h<;>simp[zcH]
 | [],i,y::ys,l',h=>by cases i<;>simp[ovF] at h
 | x::r,0,y::ys,l',h=>by
  simp only[ovF] at h;split at h
  · rename_i m hm;injection h with h;subst h;obtain ⟨e,hl⟩:=aE2 hm;refine⟨by rw[e];simp[zcH],?_⟩;right;simp only[dH];rcases hl with rfl | hl
    · simp
    omega
  cases h
 | x::r,i+1,y::ys,l',h=>by
  simp only[ovF] at h;split at h
  · rename_i m hm;injection h with h;subst h;obtain ⟨e,hl⟩:=aE2 hm;refine⟨by rw[e];simp[zcH,show i+1+(ys.length+1)=(i+(ys.length+1))+1 by omega],?_⟩;right;rcases hl with hl | hl
    · cases hl
    simp only[dH] at hl ⊢;omega
  cases h
def zgU:D->Bool
 | .v u=>u.oneCell'
 | .shr _ _ _=>false
 | .tup _=>false
 | _=>true
def aCi {H:List Hp} {d:D} (h:zgU d=true):CellD H d:=by
 cases d with
 | v u=>exact CellD.v h
 | ov u=>exact CellD.o
 | s b=>exact CellD.s
 | agg cs=>exact CellD.agg
 | tup cs=>simp[zgU] at h
 | ifc t x=>exact CellD.ifc
 | fn f a b=>exact CellD.fn
 | sh z xs=>exact CellD.sh
 | shr z n xs=>simp[zgU] at h
 | el x o=>exact CellD.el
 | any=>exact CellD.any
def ikN:IntKind->Nat
 | .i8=>0 | .i16=>1 | .i32=>2 | .i64=>3 | .u8=>4 | .u16=>5 | .u32=>6 | .u64=>7
def aSg {k k':IntKind} (h:Nat.beq (ikN k) (ikN k')=true):k'=k:=by cases k<;>cases k'<;>first | rfl | cases h
def cmpW:BinOp->Int->Int->Option Bool
 | .lss,a,b=>some (decide (a<b))
 | .leq,a,b=>some (decide (a<=b))
 | .gtr,a,b=>some (decide (b<a))
 | .geq,a,b=>some (decide (b<=a))
 | .eql,a,b=>some (decide (a=b))
 | .neq,a,b=>some (decide (a≠b))
 | _,_,_=>none
def cmpG (op:BinOp) (x y:D):Option Bool:=match x,y with
 | .v (.int k a),.v (.int k' b)=>match Nat.beq (ikN k) (ikN k') with
  | true=>cmpW op a b
  | false=>none
 | x,y=>match op,zgA x,zgA y with
  | .eql,some a,some b=>some (decide (a=b))
  | .neq,some a,some b=>some (decide (a≠b))
  | _,_,_=>none
def aUd {P:Program} {op:BinOp} {t t' ty:TypeId} {K:Kd} {H:List Hp} {x y:Operand} {d e:D} {q:Bool} (hx:opD K x=some d) (hy:opD K y=some e) (h:cmpG op d e=some q):Pu P (.binOp op t x y t') ty K H (.v (.bool q)):=by
 unfold cmpG at h;split at h
 · split at h
   · rename_i hk;have hk:=aSg hk;subst hk;cases op<;>simp only[cmpW,reduceCtorEq] at h
     all_goals injection h with h
     all_goals first | exact zau hx hy h | exact zbJ hx hy h | exact zan hx hy h | exact zas hx hy h | exact zT hx hy h | exact zee hx hy h
   cases h
 split at h
 · rename_i h1 h2;injection h with h;exact zaU (by unfold opS;rw[hx];exact h1) (by unfold opS;rw[hy];exact h2) h
 · rename_i h1 h2;injection h with h;exact aZo (by unfold opS;rw[hx];exact h1) (by unfold opS;rw[hy];exact h2) h
 cases h
def ifT (P:Program) (t:TypeId):Bool:=match P.underlying t with
 | some (.interface _)=>false
 | some _=>true
 | none=>false
def aWb {P:Program} {t:TypeId} (h:ifT P t=true) (u:Value) (w:World):(Instr.makeInterface t u).run P w=.ok (.iface t u) w:=by
 unfold ifT at h;split at h
 · cases h
 · rename_i d hd e;simp only[Instr.makeInterface,Sem.run_bind,run_underlying e,Result.andThen_ok];cases d<;>first | rfl | exact aH rfl (hd _)
 cases h
def zgm (X:D) (o n:Nat):Option D:=match X with
 | .agg cs=>match Nat.ble (o+n) cs.length,Nat.beq n cs.length with
  | true,true=>some X
  | true,false=>aSm X o n
  | false,_=>none
 | _=>none
def kK {X d:D} {o n:Nat} (h:zgm X o n=some d):zfE X o n=d/\Nat.ble (o+n) X.cells.length=true/\X=.agg X.cells:=by
 unfold zgm at h;split at h
 · rename_i cs;split at h
   · rename_i h1 h2;injection h with h;subst h;have e1:=dE h1;have e2:=dM h2;have e3:o=0:=(by omega);subst e2;subst e3;exact⟨by unfold zfE;simp[D.cells],h1,O⟩
   · rename_i h1 h2;exact⟨(aKw h).1,h1,rfl⟩
   cases h
 cases h
def pD (P:Program) (K:Kd):Op->Option D
 | .unOp .not _ x=>match opD K x with
  | some (.v (.bool b))=>some (.v (.bool (!b)))
  | _=>none
 | .fieldAddr s x f=>match fdT P s f,opD K x with
  | some (o,_,_),some (.v (.pointer (some ⟨g,k,none⟩)))=>some (.v (.pointer (some ⟨g,k+o,none⟩)))
  | some (o,_,_),some (.el X k)=>some (.el X (k+o))
  | _,_=>none
 | .load t x=>match opD K x,agT P t,szT P t with
  | some (.el X o),some false,_=>nth X.cells o
  | some (.el X o),some true,some n=>zgm X o n
  | _,_,_=>none
 | .field s x f=>match fdT P s f,opD K x with
  | some (o,_,false),some (.agg cs)=>nth cs o
  | some (o,n,true),some X=>zgm X o n
  | _,_=>none
 | .binOp op _ x y _=>match opD K x,opD K y with
  | some d,some e=>match cmpG op d e with
   | some q=>some (.v (.bool q))
   | none=>none
  | _,_=>none
 | .makeInterface t x=>match ifT P t,opD K x with
  | true,some d=>some (.ifc t d)
  | _,_=>none
 | .makeFunc (.func f) xs ys=>match opsD K xs.toList,opsD K ys.toList with
  | some a,some b=>some (.fn f a b)
  | _,_=>none
 | op=>zgH K op
def a0x {P:Program} {ty:TypeId} {K:Kd} {H:List Hp} {op:Op} {d:D} (h:pD P K op=some d):Pu P op ty K H d:=by
 unfold pD at h;split at h
 · split at h
   · rename_i b hb;injection h with h;subst h;exact zed hb
   cases h
 · split at h
   · rename_i o _ _ g k hf hx;injection h with h;subst h;exact zk hx (λb o w=>aO8 hf b o w) rfl
   · rename_i o _ _ X k hf hx;injection h with h;subst h;exact zz hx (λb o w=>aO8 hf b o w) rfl
   cases h
 · split at h
   · rename_i X o hx hg;exact zJ hx (zgh hg) h
   · rename_i X o n hx hg hs;obtain ⟨e1,e2,_⟩:=kK h;exact zbb hx (zgh hg) (zgq hs) e2 e1
   cases h
 · split at h
   · rename_i o n cs hf hx;refine aSo hx O O (λvs hl w=>aZv hf (by rw[hl];rw[zaH] at h;exact(cQ.1 h).1) w) h
   · rename_i o n X hf hx;obtain ⟨e1,_,e3⟩:=kK h;exact yY hx e3 O (λvs _ w=>aZb hf vs w) e1
   cases h
 · split at h
   · rename_i d e hx hy;split at h
     · rename_i q hq;injection h with h;subst h;exact aUd hx hy hq
     cases h
   cases h
 · split at h
   · rename_i hi hx;injection h with h;subst h;exact aG3 hx (λu w=>aWb hi u w)
   cases h
 · split at h
   · rename_i a b ha hb;injection h with h;subst h;exact aDf ha hb
   cases h
 exact aOb h
def ldF (P:Program) (K:Kd) (H:List Hp) (j:Nat):Op->Option (D×Nat×Nat)
 | .load t x=>match opD K x,nth H j with
  | some (.v (.pointer (some ⟨g,o,none⟩))),some (.bx g' _ X)=>match agT P t,szT P t with
   | some false,_=>match nth X.cells o with
    | some d=>some (d,g,g')
    | none=>none
   | some true,some n=>match zgm X o n with
    | some d=>some (d,g,g')
    | none=>none
   | _,_=>none
  | _,_=>none
 | _=>none
def aWe {P:Program} {ty:TypeId} {K:Kd} {H:List Hp} {j g g':Nat} {op:Op} {d:D} (h:ldF P K H j op=some (d,g,g')) (e:g=g'):Pu P op ty K H d:=by
 unfold ldF at h;split at h
 · rename_i t x;split at h
   · rename_i g1 o g2 T X hx hm;split at h
     · rename_i ha;split at h
       · rename_i y hy;injection h with h;injection h with h1 h;injection h with h2 h3;subst h1;subst h2;subst h3;subst e;exact zl hx hm (zgh ha) hy
       cases h
     · rename_i n ha hs;split at h
       · rename_i y hy;injection h with h;injection h with h1 h;injection h with h2 h3;subst h1;subst h2;subst h3;subst e;obtain ⟨e1,e2,_⟩:=kK hy;exact zbg hx hm (zgh ha) (zgq hs) e2 e1
       cases h
     cases h
   cases h
 cases h
def putF (X d:D) (o n:Nat):Option D:=match X with
 | .agg cs=>match d,Nat.ble (o+n) cs.length with
  | .agg ds,true=>bif Nat.beq o 0&&Nat.beq n cs.length then some d else match ovF o ds cs with
   | some l=>some (.agg l)
   | none=>none
  | d,true=>match ovF o d.cells cs with
   | some l=>some (.agg l)
   | none=>none
  | _,false=>none
 | X=>bif Nat.ble (o+n) X.cells.length then splD X o d else none
def aSa {X d X':D} {o n:Nat} (hd:d.cells.length=n) (h:putF X d o n=some X'):splD X o d=some X'/\Nat.ble (o+n) X.cells.length=true:=by
 have key:∀ {cs l:List D},ovF o d.cells cs=some l->splD (.agg cs) o d=some (.agg l):=by
  intro cs l hov;rw[(aE2 hov).1];rfl
 unfold putF at h;split at h
 · rename_i cs;split at h
   · rename_i ds hle;cases hb:(Nat.beq o 0&&Nat.beq n cs.length) with
     | true=>
      rw[hb] at h;injection h with h;subst h;rw[cU] at hb;have e1:=dM hb.1;have e2:=dM hb.2;subst e1;have hd':ds.length=n:=hd;refine⟨?_,hle⟩;simp only[splD,D.cells,zcH,List.take_zero,dY,dS];rw[dX (by omega),jL]
     | false=>
      rw[hb] at h;simp only[cond_false] at h;split at h
      · rename_i l hov;injection h with h;subst h;exact⟨key hov,hle⟩
      cases h
   · rename_i hle;split at h
     · rename_i l hov;injection h with h;subst h;exact⟨key hov,hle⟩
     cases h
   cases h
 cases hb:Nat.ble (o+n) X.cells.length with
 | true=>rw[hb] at h;exact⟨h,rfl⟩
 | false=>rw[hb] at h;cases h
def stF (P:Program) (K:Kd) (H:List Hp) (j:Nat):Op->Option (List Hp×Nat×Nat)
 | .store t x y=>match opD K x,nth H j,opD K y,szT P t with
  | some (.v (.pointer (some ⟨g,o,none⟩))),some (.bx g' T X),some d,some n=>match zgU d,Nat.beq d.cells.length n,putF X d o n with
   | true,true,some X'=>match setF j (.bx g' T X') H with
    | some H'=>some (H',g,g')
    | none=>none
   | _,_,_=>none
  | _,_,_,_=>none
 | _=>none
def aUx {P:Program} {ty:TypeId} {K:Kd} {H H':List Hp} {j g g':Nat} {op:Op} (h:stF P K H j op=some (H',g,g')) (e:g=g'):Ef P op ty K H (λr H1=>r=.v undef/\H1=H'):=by
 unfold stF at h;split at h
 · rename_i t x y;split at h
   · rename_i g1 o g2 T X d n hx hm hy hs;split at h
     · rename_i X' hc hl hp;split at h
       · rename_i H2 hset;injection h with h;injection h with h1 h;injection h with h2 h3;subst h1;subst h2;subst h3;subst e;obtain ⟨e1,e2⟩:=aSa (dM hl) hp;rw[aGk hset];exact xW hx hm hy (aCi hc) (zgq hs) hl e2 e1
       cases h
     cases h
   cases h
 cases h
inductive Kc where
 | fin (Q:zbB)
 | seq (p:List Bool) (k:Kc)
 | blk (id:Nat) (k:Kc)
 | lp (J:Kd->List Hp->Prop) (k:Kc)
 | scp (k:Kc)
inductive Tk where
 | c (p:List Bool)
 | o (p:List Bool) (i:Nat)
 | e (x:Exit)
def Kc.q (P:Program) (fn:Func) (C:Ctx):Kc->zbB
 | .fin Q=>Q
 | .seq p k=>qseq P fn.ntmps (cd (zap fn) p) (k.q P fn C)
 | .blk id k=>aGa id (k.q P fn C)
 | .lp J k=>λe ρ w F=>match e with
  | .normal=>∃ K H,J K H/\KOk w F ρ K/\Good C H w F
  | e=>k.q P fn C e ρ w F
 | .scp k=>aPy (k.q P fn C)
structure PEn (C:Ctx) (Q:zbB) (e:Exit) (K:Kd) (H:List Hp):Prop where
 out:∀ ρ w F,KOk w F ρ K->Good C H w F->∃ F',Q e ρ w F'
def TS (P:Program) (fn:Func) (C:Ctx) (κ:Kc) (K:Kd) (H:List Hp):Tk->Prop
 | .c p=>JD P fn.ntmps C (cd (zap fn) p) K H (κ.q P fn C)
 | .o p i=>OpsD P fn.ntmps C (zaL (cd (zap fn) p)) i K H (λρ w F=>κ.q P fn C .normal ρ w F)
 | .e x=>PEn C (κ.q P fn C) x K H
structure T (P:Program) (fn:Func) (C:Ctx) (t:Tk) (κ:Kc) (K:Kd) (H:List Hp):Prop where
 out:TS P fn C κ K H t
section
variable {P:Program} {fn:Func} {C:Ctx} {t:Tk} {κ:Kc} {K:Kd} {H:List Hp} {p:List Bool} {i:Nat}
def mV {K':Kd} {H':List Hp} (m:Mv K H K' H') (h:T P fn C t κ K' H'):T P fn C t κ K H:=by
 obtain ⟨h⟩:=h;refine⟨?_⟩;cases t with
 | c p=>exact JD.mv m h
 | o p i=>exact OpsD.mv m h
 | e x=>exact⟨λρ w F hk g=>by obtain ⟨F',hk',g'⟩:=m.out C w F ρ hk g;exact h.out ρ w F' hk' g'⟩
def T.sub (K':Kd) (hs:SubK K' K) (h:T P fn C t κ K' H):T P fn C t κ K H:=mV ⟨λC w F ρ hk g=>⟨F,hs.out hk,g⟩⟩ h
def mW {H':List Hp} (hs:HSub H H') (h:T P fn C t κ K H'):T P fn C t κ K H:=mV ⟨λC w F ρ hk g=>⟨F,hk,hs.out _ _ _ g⟩⟩ h
def T.fact {φ:Prop} (hf:∀ w F ρ,KOk w F ρ K->Good C H w F->φ) (h:φ->T P fn C t κ K H):T P fn C t κ K H:=by
 refine⟨?_⟩;cases t with
 | c p=>exact JD.fact hf (λf=>(h f).out)
 | o p i=>exact OpsD.fact hf (λf=>(h f).out)
 | e x=>exact⟨λρ w F hk g=>(h (hf w F ρ hk g)).out.out ρ w F hk g⟩
def T.bd (t':Nat) {d:D} (h:zI K t'=some d) (next:D.bd d->T P fn C t κ K H):T P fn C t κ K H:=T.fact (λw F ρ hk _=>mL d _ (hk t' d h)) next
def mX (H':List Hp) (h:H=H') (next:T P fn C t κ K H'):T P fn C t κ K H:=h ▸ next
def T.keep (ts:List Nat) {K':Kd} (h:kpF ts K=some K') (k:T P fn C t κ K' H):T P fn C t κ K H:=T.sub K' (aIm h) k
def stE (x:Exit):Kc->Option (Tk×Kc)
 | .seq p k=>match x with
  | .normal=>some (.c p,k)
  | x=>some (.e x,k)
 | .blk id k=>match x with
  | .exit id'=>match Nat.beq id' id with
   | true=>some (.e .normal,k)
   | false=>some (.e (.exit id'),k)
  | x=>some (.e x,k)
 | .lp _ k=>match x with
  | .normal=>none
  | x=>some (.e x,k)
 | .fin _=>none
 | .scp k=>match x with
  | .goto _=>none
  | x=>some (.e x,k)
def aVk {x:Exit} {t':Tk} {κ':Kc} (h:stE x κ=some (t',κ')) (k:T P fn C t' κ' K H):T P fn C (.e x) κ K H:=by
 obtain ⟨k⟩:=k;refine⟨⟨λρ w F hk g=>?_⟩⟩;cases κ with
 | fin Q=>simp[stE] at h
 | seq p κ1=>
  cases x<;>simp only[stE,cX,dT] at h<;>obtain ⟨rfl,rfl⟩:=h
  · exact⟨F,λa ok he=>k.out a w F ok (he ▸ hk) g⟩
  all_goals exact k.out ρ w F hk g
 | blk id κ1=>
  cases x with
  | exit id'=>
   simp only[stE] at h;cases hb:Nat.beq id' id with
   | true=>
    rw[hb] at h;simp only[cX,dT] at h;obtain ⟨rfl,rfl⟩:=h;obtain ⟨F',q⟩:=k.out ρ w F hk g;exact⟨F',by show (if id'=id then _ else _);rw[aB (dM hb)];exact q⟩
   | false=>
    rw[hb] at h;simp only[cX,dT] at h;obtain ⟨rfl,rfl⟩:=h;obtain ⟨F',q⟩:=k.out ρ w F hk g;exact⟨F',by show (if id'=id then _ else _);rw[aA (by intro e;rw[e,jT] at hb;cases hb)];exact q⟩
  | _=>simp only[stE,cX,dT] at h;obtain ⟨rfl,rfl⟩:=h;exact k.out ρ w F hk g
 | lp J κ1=>
  cases x<;>simp only[stE,reduceCtorEq,cX,dT] at h
  all_goals obtain ⟨rfl,rfl⟩:=h
  all_goals exact k.out ρ w F hk g
 | scp κ1=>
  cases x<;>simp only[stE,reduceCtorEq,cX,dT] at h
  all_goals obtain ⟨rfl,rfl⟩:=h
  all_goals exact k.out ρ w F hk g
def stC (fn:Func) (p:List Bool) (κ:Kc) (K:Kd):Option (Tk×Kc):=match cd (zap fn) p with
 | .skip=>some (.e .normal,κ)
 | .region _ _ false=>some (.o p 0,κ)
 | .seq _ _=>match snF p false,snF p true with
  | some a,some b=>some (.c a,.seq b κ)
  | _,_=>none
 | .cond x _ _=>match opD K x with
  | some (.v (.bool true))=>match snF p false with
   | some a=>some (.c a,κ)
   | none=>none
  | some (.v (.bool false))=>match snF p true with
   | some a=>some (.c a,κ)
   | none=>none
  | _=>none
 | .block id _=>match snF p false with
  | some a=>some (.c a,.blk id κ)
  | none=>none
 | .exit id=>some (.e (.exit id),κ)
 | .ret=>some (.e .ret,κ)
 | .scope _=>match snF p false with
  | some a=>some (.c a,.scp κ)
  | none=>none
 | .label _=>some (.e .normal,κ)
 | _=>none
def TE.pd {Q:zbB} {x:Exit} (h:PEn C Q x K H) {N:Nat} {b:Code} (hb:∀ (a:Act) (w:World) (F:Nat->Prop),Ok N a->(∃ F',Q x (zF a) w F')->b.wp P (λe a' w'=>Ok N a'/\∃ F',Q e (zF a') w' F') a w):JD P N C b K H Q:=
 ⟨λa w F ok hk g=>hb a w F ok (h.out _ w F hk g)⟩
def aV9 {t':Tk} {κ':Kc} (h:stC fn p κ K=some (t',κ')) (k:T P fn C t' κ' K H):T P fn C (.c p) κ K H:=by
 obtain ⟨k⟩:=k;refine⟨?_⟩;show JD P fn.ntmps C (cd (zap fn) p) K H (κ.q P fn C);unfold stC at h;split at h
 · rename_i hc;simp only[cX,dT] at h;obtain ⟨rfl,rfl⟩:=h;rw[hc];exact TE.pd k λa w F ok q=>wp_skip ⟨ok,q⟩
 · rename_i id ops hc;simp only[cX,dT] at h;obtain ⟨rfl,rfl⟩:=h;exact aIk (by rw[hc];rfl) k
 · rename_i a b hc;split at h
   · rename_i pa pb h1 h2;simp only[cX,dT] at h;obtain ⟨rfl,rfl⟩:=h;exact aXh pa pb (by rw[hc];rfl) (zer h1) (zer h2) k
   cases h
 · rename_i x a b hc;split at h
   · rename_i hx;split at h
     · rename_i pa h1;simp only[cX,dT] at h;obtain ⟨rfl,rfl⟩:=h;exact aFc pa (by rw[hc];rfl) (zer h1) hx k
     cases h
   · rename_i hx;split at h
     · rename_i pa h1;simp only[cX,dT] at h;obtain ⟨rfl,rfl⟩:=h;exact aGj pa (by rw[hc];rfl) (zer h1) hx k
     cases h
   cases h
 · rename_i id b hc;split at h
   · rename_i pa h1;simp only[cX,dT] at h;obtain ⟨rfl,rfl⟩:=h;exact aM7 pa (by rw[hc];rfl) (zer h1) k
   cases h
 · rename_i id hc;simp only[cX,dT] at h;obtain ⟨rfl,rfl⟩:=h;rw[hc];exact TE.pd k λa w F ok q=>wp_exit ⟨ok,q⟩
 · rename_i hc;simp only[cX,dT] at h;obtain ⟨rfl,rfl⟩:=h;rw[hc];exact TE.pd k λa w F ok q=>wp_ret ⟨ok,q⟩
 · rename_i b hc;split at h
   · rename_i pa h1;simp only[cX,dT] at h;obtain ⟨rfl,rfl⟩:=h;exact aMf pa (by rw[hc];rfl) (zer h1) k
   cases h
 · rename_i l hc;simp only[cX,dT] at h;obtain ⟨rfl,rfl⟩:=h;rw[hc];exact TE.pd k λa w F ok q=>wp_label ⟨ok,q⟩
 cases h
def gdS (ops:List Oper) (N:Nat) (K:Kd):Option (Nat×Bool)->Option Bool
 | none=>some true
 | some (j,want)=>match zW ops j with
  | some s=>match Nat.blt s N,zI K s with
   | true,some (.v u)=>match nb u,want with
    | some true,true=>some true
    | some false,false=>some true
    | some true,false=>some false
    | some false,true=>some false
    | none,_=>some false
   | _,_=>none
  | none=>none
def stO (P:Program) (N:Nat) (ops:List Oper) (i:Nat) (js:List Nat) (K:Kd) (H:List Hp):Option (Kd×List Hp×List Nat×Option (Nat×Nat)):=match opAt ops i with
 | some (dst,op,_,gd)=>match gdS ops N K gd,dst with
  | some false,some t=>match Nat.blt t N with
   | true=>some ((t,.v undef)::K,H,js,none)
   | false=>none
  | some true,some t=>match Nat.blt t N with
   | true=>match pD P K op with
    | some d=>some ((t,d)::K,H,js,none)
    | none=>match js with
     | j::js=>match ldF P K H j op with
      | some (d,g,g')=>some ((t,d)::K,H,js,some (g,g'))
      | none=>none
     | []=>none
   | false=>none
  | some true,none=>match js with
   | j::js=>match stF P K H j op with
    | some (H',g,g')=>some (K,H',js,some (g,g'))
    | none=>none
   | []=>none
  | _,_=>none
 | none=>none
def zgJ {N:Nat} {ops:List Oper} {gd:Option (Nat×Bool)} {dst:Option Tmp} {op:Op} {ty:TypeId} {R:D->List Hp->Prop} {Kt:Env->World->(Nat->Prop)->Prop} (ho:opAt ops i=some (dst,op,ty,gd)) (hg:gdS ops N K gd=some true) (hd:dok N dst=true) (h:Ef P op ty K H R)
 (next:∀ d H',R d H'->OpsD P N C ops (i+1) (upK K dst d) H' Kt):OpsD P N C ops i K H Kt:=by
 unfold gdS at hg;split at hg
 · exact aAc ho hd h next
 rename_i j want;split at hg
 · rename_i s hs;split at hg
   · rename_i u h1 h2;split at hg
     · rename_i hn;rw[nb_b hn] at h2;exact aEq ho hd hs h1 h2 h next
     · rename_i hn;rw[nb_b hn] at h2;exact aEq ho hd hs h1 h2 h next
     all_goals cases hg
   cases hg
 cases hg
def aZ9 {N:Nat} {ops:List Oper} {gd:Option (Nat×Bool)} {dst:Option Tmp} {op:Op} {ty:TypeId} {Kt:Env->World->(Nat->Prop)->Prop} (ho:opAt ops i=some (dst,op,ty,gd)) (hg:gdS ops N K gd=some false) (hd:dok N dst=true)
 (next:OpsD P N C ops (i+1) (upK K dst (.v undef)) H Kt):OpsD P N C ops i K H Kt:=by
 unfold gdS at hg;split at hg
 · cases hg
 rename_i j want;split at hg
 · rename_i s hs;split at hg
   · rename_i u h1 h2;split at hg
     · cases hg
     · cases hg
     · rename_i hn;exact qG ho hd hs h1 h2 (by rw[hn];decide) next
     · rename_i hn;exact qG ho hd hs h1 h2 (by rw[hn];decide) next
     rename_i hn;exact qG ho hd hs h1 h2 (by rw[hn];simp) next
   cases hg
 cases hg
def eqO:Option (Nat×Nat)->Prop
 | some (g,g')=>g=g'
 | none=>True
def aP9 {ops:List Oper} {N:Nat} {js js':List Nat} {K':Kd} {H':List Hp} {o:Option (Nat×Nat)} {Kt:Env->World->(Nat->Prop)->Prop} (h:stO P N ops i js K H=some (K',H',js',o)) (e:eqO o) (k:OpsD P N C ops (i+1) K' H' Kt):OpsD P N C ops i K H Kt:=by
 unfold stO at h;split at h
 · rename_i dst op ty gd ho;split at h
   · rename_i t hg;split at h
     · rename_i ht;simp only[cX,dT] at h;obtain ⟨rfl,rfl,rfl,rfl⟩:=h;exact aZ9 ho hg ht k
     cases h
   · rename_i t hg;split at h
     · rename_i ht;split at h
       · rename_i d hp;simp only[cX,dT] at h;obtain ⟨rfl,rfl,rfl,rfl⟩:=h;exact zgJ ho hg ht (a0x hp).ef λ_ _ ⟨e1,e2⟩=>by subst e1;subst e2;exact k
       split at h
       · rename_i j js _;split at h
         · rename_i d g g' hl;simp only[cX,dT] at h;obtain ⟨rfl,rfl,rfl,rfl⟩:=h;exact zgJ ho hg ht (aWe hl e).ef λ_ _ ⟨e1,e2⟩=>by subst e1;subst e2;exact k
         cases h
       cases h
     cases h
   · rename_i hg;split at h
     · rename_i j js;split at h
       · rename_i H1 g g' hl;simp only[cX,dT] at h;obtain ⟨rfl,rfl,rfl,rfl⟩:=h;exact zgJ ho hg O (aUx hl e) λ_ _ ⟨e1,e2⟩=>by subst e1;subst e2;exact k
       cases h
     cases h
   cases h
 cases h
def run (P:Program) (fn:Func):Nat->List Nat->Tk->Kc->Kd->List Hp->List Nat->List Nat->Option (Tk×Kc×Kd×List Hp×List Nat×List Nat)
 | 0,_,t,κ,K,H,a,b=>some (t,κ,K,H,a,b)
 | n+1,js,t,κ,K,H,a,b=>match t with
  | .c p=>match stC fn p κ K with
   | some (t,κ)=>run P fn n js t κ K H a b
   | none=>none
  | .e x=>match stE x κ with
   | some (t,κ)=>run P fn n js t κ K H a b
   | none=>none
  | .o p i=>match Nat.ble (zaL (cd (zap fn) p)).length i with
   | true=>run P fn n js (.e .normal) κ K H a b
   | false=>match stO P fn.ntmps (zaL (cd (zap fn) p)) i js K H with
    | some (K,H,js,none)=>run P fn n js (.o p (i+1)) κ K H a b
    | some (K,H,js,some (g,g'))=>run P fn n js (.o p (i+1)) κ K H (g::a) (g'::b)
    | none=>none
def aYf {ops:List Oper} {N:Nat} {Q:zbB} (hn:Nat.ble ops.length i=true) (h:PEn C Q .normal K H):OpsD P N C ops i K H (λρ w F=>Q .normal ρ w F):=by
 refine⟨λa w F ok hk g=>?_⟩;have h':=dE hn;rw[show ops.length-i=0 by omega];exact⟨O,ok,h.out _ w F hk g⟩
def zga:∀ {n:Nat} {js:List Nat} {t t':Tk} {κ κ':Kc} {K K':Kd} {H H':List Hp} {a b a' b':List Nat},run P fn n js t κ K H a b=some (t',κ',K',H',a',b')->a'=b'->a.length=b.length->a=b
 | 0,js,t,t',κ,κ',K,K',H,H',a,b,a',b',h,e,_=>by
  simp only[run,cX,dT] at h;obtain ⟨_,_,_,_,rfl,rfl⟩:=h;exact e
 | n+1,js,t,t',κ,κ',K,K',H,H',a,b,a',b',h,e,hl=>by
  unfold run at h;split at h
  · split at h
    · exact zga h e hl
    cases h
  · split at h
    · exact zga h e hl
    cases h
  split at h
  · exact zga h e hl
  split at h
  · exact zga h e hl
  · have:=zga h e (by simp[hl]);injection this
  cases h
def zf9:∀ {n:Nat} {js:List Nat} {t t':Tk} {κ κ':Kc} {K K':Kd} {H H':List Hp} {a b a' b':List Nat},run P fn n js t κ K H a b=some (t',κ',K',H',a',b')->a'=b'->a.length=b.length->T P fn C t' κ' K' H'->T P fn C t κ K H
 | 0,js,t,t',κ,κ',K,K',H,H',a,b,a',b',h,e,_,k=>by
  simp only[run,cX,dT] at h;obtain ⟨rfl,rfl,rfl,rfl,rfl,rfl⟩:=h;exact k
 | n+1,js,t,t',κ,κ',K,K',H,H',a,b,a',b',h,e,hl,k=>by
  unfold run at h;split at h
  · split at h
    · rename_i h1;exact aV9 h1 (zf9 h e hl k)
    cases h
  · split at h
    · rename_i h1;exact aVk h1 (zf9 h e hl k)
    cases h
  split at h
  · rename_i hn;exact⟨aYf hn (zf9 h e hl k).out⟩
  split at h
  · rename_i h1;exact⟨aP9 h1 trivial (zf9 h e hl k).out⟩
  · rename_i h1;have hq:=zga h e (by simp[hl]);injection hq with hq _;exact⟨aP9 h1 hq (zf9 h e (by simp[hl]) k).out⟩
  cases h
def gQ (n:Nat) (js:List Nat) {t':Tk} {κ':Kc} {K':Kd} {H':List Hp} {a b:List Nat} (h:run P fn n js t κ K H [] []=some (t',κ',K',H',a,b)) (e:a=b) (k:T P fn C t' κ' K' H'):T P fn C t κ K H:=zf9 h e rfl k
end
end Lp
