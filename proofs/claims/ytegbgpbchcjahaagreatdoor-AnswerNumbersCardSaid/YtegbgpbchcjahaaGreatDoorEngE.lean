import Derived.Shelf.Strconv.Itoa3
import Derived.Shelf.Strconv.AtoiAll
import Derived.Shelf.LaysM
import Derived.Shelf.LaysC
import Derived.Test.YtegbgpbchcjahaaGreatDoorProg
import Derived.WalkKit
import Derived.Below
import Derived.Laws.World
import Derived.WalkLawsBesides
import Derived.Maps.AppendAt
set_option linter.all false
abbrev Ba:=ByteArray
namespace Go.Proofs
open Go.Shelf
def Tryz.laysM171_ren:Go.Shelf.Ren:=⟨λ| 171=>137 | 243=>173 | 246=>232 | 283=>276 | 284=>277 | 285=>278 | 286=>279 | 129=>230 | 317=>313 | 318=>314 | 319=>315 | 320=>316 | 337=>332 | 338=>333 | n=>n,λ| 3=>3 | 9=>9 | 2=>2 | 4=>4 | 171=>315 | 0=>0 | 53=>270 | 37=>53 | 5=>5 | 173=>317 | 212=>349 | 51=>268 | 20=>20 | 213=>350 | 46=>99 | 232=>384 | 233=>385 | n=>n,λ| 17=>3 | 18=>4 | 19=>5 | n=>n⟩
def Tryz.laysM171:Go.Proofs.LaysM.n171 Tryz.prog Tryz.laysM171_ren:={
 mixed:=by kernel_rfl
 f129:=Tryz.func230.trans (congrArg some (by kernel_rfl))
 f171:=Tryz.func137.trans (congrArg some (by kernel_rfl))
 f243:=Tryz.func173.trans (congrArg some (by kernel_rfl))
 f246:=Tryz.func232.trans (congrArg some (by kernel_rfl))
 f283:=Tryz.func276.trans (congrArg some (by kernel_rfl))
 f284:=Tryz.func277.trans (congrArg some (by kernel_rfl))
 f285:=Tryz.func278.trans (congrArg some (by kernel_rfl))
 f286:=Tryz.func279.trans (congrArg some (by kernel_rfl))
 f317:=Tryz.func313.trans (congrArg some (by kernel_rfl))
 f318:=Tryz.func314.trans (congrArg some (by kernel_rfl))
 f319:=Tryz.func315.trans (congrArg some (by kernel_rfl))
 f320:=Tryz.func316.trans (congrArg some (by kernel_rfl))
 f337:=Tryz.func332.trans (congrArg some (by kernel_rfl))
 f338:=Tryz.func333.trans (congrArg some (by kernel_rfl))
 t0:=Tryz.underlying0
 a0:=Tryz.isAgg0
 z0:=Tryz.sizeOf0
 v0:=Tryz.zeroValue0
 t2:=Tryz.underlying2
 a2:=Tryz.isAgg2
 z2:=Tryz.sizeOf2
 v2:=Tryz.zeroValue2
 t3:=Tryz.underlying3
 a3:=Tryz.isAgg3
 z3:=Tryz.sizeOf3
 v3:=Tryz.zeroValue3
 t4:=Tryz.underlying4
 a4:=Tryz.isAgg4
 z4:=Tryz.sizeOf4
 v4:=Tryz.zeroValue4
 t5:=Tryz.underlying5
 a5:=Tryz.isAgg5
 z5:=Tryz.sizeOf5
 v5:=Tryz.zeroValue5
 t9:=Tryz.underlying9
 a9:=Tryz.isAgg9
 z9:=Tryz.sizeOf9
 v9:=Tryz.zeroValue9
 t20:=Tryz.underlying20
 a20:=Tryz.isAgg20
 z20:=Tryz.sizeOf20
 v20:=Tryz.zeroValue20
 t37:=Tryz.underlying53
 a37:=Tryz.isAgg53
 z37:=Tryz.sizeOf53
 v37:=Tryz.zeroValue53
 t46:=Tryz.underlying99
 a46:=Tryz.isAgg99
 z46:=Tryz.sizeOf99
 v46:=Tryz.zeroValue99
 t51:=Tryz.underlying268
 a51:=Tryz.isAgg268
 z51:=Tryz.sizeOf268
 v51:=Tryz.zeroValue268
 t53:=Tryz.underlying270
 a53:=Tryz.isAgg270
 z53:=Tryz.sizeOf270
 v53:=Tryz.zeroValue270
 t171:=Tryz.underlying315
 a171:=Tryz.isAgg315
 z171:=Tryz.sizeOf315
 v171:=Tryz.zeroValue315
 t173:=Tryz.underlying317
 a173:=Tryz.isAgg317
 z173:=Tryz.sizeOf317
 v173:=Tryz.zeroValue317
 t212:=Tryz.underlying349
 a212:=Tryz.isAgg349
 z212:=Tryz.sizeOf349
 v212:=Tryz.zeroValue349
 t213:=Tryz.underlying350
 a213:=Tryz.isAgg350
 z213:=Tryz.sizeOf350
 t232:=Tryz.underlying384
 a232:=Tryz.isAgg384
 z232:=Tryz.sizeOf384
 v232:=Tryz.zeroValue384
 t233:=Tryz.underlying385
 a233:=Tryz.isAgg385
 z233:=Tryz.sizeOf385
 v233:=Tryz.zeroValue385
 g17:=by kernel_rfl
 g18:=by kernel_rfl
 g19:=by kernel_rfl
 i0:=by kernel_rfl
 i2:=by kernel_rfl
 i3:=by kernel_rfl
 i4:=by kernel_rfl
 i5:=by kernel_rfl
 i9:=by kernel_rfl
 i20:=by kernel_rfl
 i37:=by kernel_rfl
 i46:=by kernel_rfl
 i51:=by kernel_rfl
 i53:=by kernel_rfl
 i171:=by kernel_rfl
 i173:=by kernel_rfl
 i212:=by kernel_rfl
 i232:=by kernel_rfl
 i233:=by kernel_rfl
 m17:=by kernel_rfl
 m18:=by kernel_rfl
 m19:=by kernel_rfl }
def Tryz.laysC172_ren:Go.Shelf.Ren:=⟨λ| 172=>101 | 244=>145 | 245=>146 | 247=>184 | 279=>185 | 280=>186 | 281=>187 | 282=>188 | 287=>241 | 316=>242 | 171=>137 | 205=>243 | 321=>287 | 322=>288 | 243=>173 | 246=>232 | 283=>276 | 284=>277 | 285=>278 | 286=>279 | 129=>230 | 317=>313 | 318=>314 | 319=>315 | 320=>316 | 337=>332 | 338=>333 | n=>n,λ| 9=>9 | 3=>3 | 75=>155 | 76=>156 | 4=>4 | 5=>5 | 167=>219 | 37=>53 | 0=>0 | 85=>220 | 2=>2 | 168=>222 | 53=>270 | 175=>275 | 46=>99 | 210=>278 | 127=>273 | 145=>326 | 143=>324 | 21=>21 | 171=>315 | 173=>317 | 212=>349 | 51=>268 | 20=>20 | 213=>350 | 232=>384 | 233=>385 | 80=>218 | n=>n,λ| 15=>1 | 16=>2 | 17=>3 | 18=>4 | 19=>5 | n=>n⟩
def wR:Go.Proofs.LaysC.n172 Tryz.prog Tryz.laysC172_ren:={
 mixed:=by kernel_rfl
 f129:=Tryz.func230.trans (congrArg some (by kernel_rfl))
 f171:=Tryz.func137.trans (congrArg some (by kernel_rfl))
 f172:=Tryz.func101.trans (congrArg some (by kernel_rfl))
 f205:=Tryz.func243.trans (congrArg some (by kernel_rfl))
 f243:=Tryz.func173.trans (congrArg some (by kernel_rfl))
 f244:=Tryz.func145.trans (congrArg some (by kernel_rfl))
 f245:=Tryz.func146.trans (congrArg some (by kernel_rfl))
 f246:=Tryz.func232.trans (congrArg some (by kernel_rfl))
 f247:=Tryz.func184.trans (congrArg some (by kernel_rfl))
 f279:=Tryz.func185.trans (congrArg some (by kernel_rfl))
 f280:=Tryz.func186.trans (congrArg some (by kernel_rfl))
 f281:=Tryz.func187.trans (congrArg some (by kernel_rfl))
 f282:=Tryz.func188.trans (congrArg some (by kernel_rfl))
 f283:=Tryz.func276.trans (congrArg some (by kernel_rfl))
 f284:=Tryz.func277.trans (congrArg some (by kernel_rfl))
 f285:=Tryz.func278.trans (congrArg some (by kernel_rfl))
 f286:=Tryz.func279.trans (congrArg some (by kernel_rfl))
 f287:=Tryz.func241.trans (congrArg some (by kernel_rfl))
 f316:=Tryz.func242.trans (congrArg some (by kernel_rfl))
 f317:=Tryz.func313.trans (congrArg some (by kernel_rfl))
 f318:=Tryz.func314.trans (congrArg some (by kernel_rfl))
 f319:=Tryz.func315.trans (congrArg some (by kernel_rfl))
 f320:=Tryz.func316.trans (congrArg some (by kernel_rfl))
 f321:=Tryz.func287.trans (congrArg some (by kernel_rfl))
 f322:=Tryz.func288.trans (congrArg some (by kernel_rfl))
 f337:=Tryz.func332.trans (congrArg some (by kernel_rfl))
 f338:=Tryz.func333.trans (congrArg some (by kernel_rfl))
 t0:=Tryz.underlying0
 a0:=Tryz.isAgg0
 z0:=Tryz.sizeOf0
 v0:=Tryz.zeroValue0
 t2:=Tryz.underlying2
 a2:=Tryz.isAgg2
 z2:=Tryz.sizeOf2
 v2:=Tryz.zeroValue2
 t3:=Tryz.underlying3
 a3:=Tryz.isAgg3
 z3:=Tryz.sizeOf3
 v3:=Tryz.zeroValue3
 t4:=Tryz.underlying4
 a4:=Tryz.isAgg4
 z4:=Tryz.sizeOf4
 v4:=Tryz.zeroValue4
 t5:=Tryz.underlying5
 a5:=Tryz.isAgg5
 z5:=Tryz.sizeOf5
 v5:=Tryz.zeroValue5
 t9:=Tryz.underlying9
 a9:=Tryz.isAgg9
 z9:=Tryz.sizeOf9
 v9:=Tryz.zeroValue9
 t20:=Tryz.underlying20
 a20:=Tryz.isAgg20
 z20:=Tryz.sizeOf20
 v20:=Tryz.zeroValue20
 t21:=Tryz.underlying21
 a21:=Tryz.isAgg21
 z21:=Tryz.sizeOf21
 v21:=Tryz.zeroValue21
 t37:=Tryz.underlying53
 a37:=Tryz.isAgg53
 z37:=Tryz.sizeOf53
 v37:=Tryz.zeroValue53
 t46:=Tryz.underlying99
 a46:=Tryz.isAgg99
 z46:=Tryz.sizeOf99
 v46:=Tryz.zeroValue99
 t51:=Tryz.underlying268
 a51:=Tryz.isAgg268
 z51:=Tryz.sizeOf268
 v51:=Tryz.zeroValue268
 t53:=Tryz.underlying270
 a53:=Tryz.isAgg270
 z53:=Tryz.sizeOf270
 v53:=Tryz.zeroValue270
 t75:=Tryz.underlying155
 a75:=Tryz.isAgg155
 z75:=Tryz.sizeOf155
 v75:=Tryz.zeroValue155
 t76:=Tryz.underlying156
 a76:=Tryz.isAgg156
 z76:=Tryz.sizeOf156
 v76:=Tryz.zeroValue156
 t85:=Tryz.underlying220
 a85:=Tryz.isAgg220
 z85:=Tryz.sizeOf220
 v85:=Tryz.zeroValue220
 t127:=Tryz.underlying273
 a127:=Tryz.isAgg273
 z127:=Tryz.sizeOf273
 v127:=Tryz.zeroValue273
 t143:=Tryz.underlying324
 a143:=Tryz.isAgg324
 z143:=Tryz.sizeOf324
 v143:=Tryz.zeroValue324
 t145:=Tryz.underlying326
 a145:=Tryz.isAgg326
 z145:=Tryz.sizeOf326
 v145:=Tryz.zeroValue326
 t167:=Tryz.underlying219
 a167:=Tryz.isAgg219
 z167:=Tryz.sizeOf219
 v167:=Tryz.zeroValue219
 t168:=Tryz.underlying222
 a168:=Tryz.isAgg222
 z168:=Tryz.sizeOf222
 v168:=Tryz.zeroValue222
 t171:=Tryz.underlying315
 a171:=Tryz.isAgg315
 z171:=Tryz.sizeOf315
 v171:=Tryz.zeroValue315
 t173:=Tryz.underlying317
 a173:=Tryz.isAgg317
 z173:=Tryz.sizeOf317
 v173:=Tryz.zeroValue317
 t175:=Tryz.underlying275
 a175:=Tryz.isAgg275
 z175:=Tryz.sizeOf275
 v175:=Tryz.zeroValue275
 t210:=Tryz.underlying278
 a210:=Tryz.isAgg278
 z210:=Tryz.sizeOf278
 v210:=Tryz.zeroValue278
 t212:=Tryz.underlying349
 a212:=Tryz.isAgg349
 z212:=Tryz.sizeOf349
 v212:=Tryz.zeroValue349
 t213:=Tryz.underlying350
 a213:=Tryz.isAgg350
 z213:=Tryz.sizeOf350
 t232:=Tryz.underlying384
 a232:=Tryz.isAgg384
 z232:=Tryz.sizeOf384
 v232:=Tryz.zeroValue384
 t233:=Tryz.underlying385
 a233:=Tryz.isAgg385
 z233:=Tryz.sizeOf385
 v233:=Tryz.zeroValue385
 g15:=by kernel_rfl
 g16:=by kernel_rfl
 g17:=by kernel_rfl
 g18:=by kernel_rfl
 g19:=by kernel_rfl
 t80:=Tryz.underlying218
 a80:=Tryz.isAgg218
 z80:=Tryz.sizeOf218
 v80:=Tryz.zeroValue218
 i0:=by kernel_rfl
 i2:=by kernel_rfl
 i3:=by kernel_rfl
 i4:=by kernel_rfl
 i5:=by kernel_rfl
 i9:=by kernel_rfl
 i20:=by kernel_rfl
 i21:=by kernel_rfl
 i37:=by kernel_rfl
 i46:=by kernel_rfl
 i51:=by kernel_rfl
 i53:=by kernel_rfl
 i75:=by kernel_rfl
 i76:=by kernel_rfl
 i80:=by kernel_rfl
 i85:=by kernel_rfl
 i127:=by kernel_rfl
 i143:=by kernel_rfl
 i145:=by kernel_rfl
 i167:=by kernel_rfl
 i168:=by kernel_rfl
 i171:=by kernel_rfl
 i173:=by kernel_rfl
 i175:=by kernel_rfl
 i210:=by kernel_rfl
 i212:=by kernel_rfl
 i232:=by kernel_rfl
 i233:=by kernel_rfl
 m15:=by kernel_rfl
 m16:=by kernel_rfl
 m17:=by kernel_rfl
 m18:=by kernel_rfl
 m19:=by kernel_rfl
 c0:=by kernel_rfl
 c2:=by kernel_rfl
 c3:=by kernel_rfl
 c4:=by kernel_rfl
 c5:=by kernel_rfl
 c9:=by kernel_rfl
 c20:=by kernel_rfl
 c21:=by kernel_rfl
 c37:=by kernel_rfl
 c46:=by kernel_rfl
 c51:=by kernel_rfl
 c53:=by kernel_rfl
 c75:=by kernel_rfl
 c76:=by kernel_rfl
 c80:=by kernel_rfl
 c85:=by kernel_rfl
 c127:=by kernel_rfl
 c143:=by kernel_rfl
 c145:=by kernel_rfl
 c167:=by kernel_rfl
 c168:=by kernel_rfl
 c171:=by kernel_rfl
 c173:=by kernel_rfl
 c175:=by kernel_rfl
 c210:=by kernel_rfl
 c212:=by kernel_rfl
 c213:=by kernel_rfl
 c232:=by kernel_rfl
 c233:=by kernel_rfl }
end Go.Proofs
namespace Lp
open Go Go.RowKit
abbrev Env:=Nat->Value
abbrev Kn:=List (Nat×Value)
def ev (ρ:Env):Operand->Value
 | .tmp t=>ρ t
 | .const v=>v
 | .global g=>.pointer (some ⟨g,0,none⟩)
 | .func f=>.func (.func f) #[] #[]
def zF (a:Act):Env:=λt=>a.tmps.getD t undef
def aCo (a:Act):a.eval=ev (zF a):=by funext x;cases x<;>rfl
def zbx {t d:Nat} (e:¬t=d):Nat.beq t d=false:=by
 cases h:Nat.beq t d with
 | false=>rfl
 | true=>exact absurd (Nat.eq_of_beq_eq_true h) e
def look:Kn->Nat->Option Value
 | [],_=>none
 | (d,v)::r,t=>bif Nat.beq t d then some v else look r t
def zai (ρ:Env) (l:Kn):Prop:=∀ t v,look l t=some v->ρ t=v
def opv (l:Kn):Operand->Option Value
 | .tmp t=>look l t
 | .const v=>some v
 | .global g=>some (.pointer (some ⟨g,0,none⟩))
 | .func f=>some (.func (.func f) #[] #[])
def zai.op {ρ:Env} {l:Kn} (h:zai ρ l) {x:Operand} {v:Value} (hx:opv l x=some v):ev ρ x=v:=by
 cases x with
 | tmp t=>exact h t v hx
 | const c=>simpa [opv,ev] using hx
 | global g=>simpa [opv,ev] using hx
 | func f=>simpa [opv,ev] using hx
def upd (ρ:Env):Option Tmp->Value->Env
 | some d,v=>λt=>if t=d then v else ρ t
 | none,_=>ρ
def Ok (N:Nat) (a:Act):Prop:=a.tmps.size=N/\a.defers=[]
def dok (N:Nat):Option Tmp->Bool
 | some d=>Nat.blt d N
 | none=>true
def Ok.put {N:Nat} {a:Act} (h:Ok N a) (d:Option Tmp) (v:Value):Ok N (a.put d v):=by
 cases d with
 | none=>exact h
 | some d=>exact⟨by simpa [Act.put] using h.1,h.2⟩
def zcB {N:Nat} {a:Act} (h:Ok N a) {d:Option Tmp} (hd:dok N d=true) (v:Value):zF (a.put d v)=upd (zF a) d v:=by
 cases d with
 | none=>rfl
 | some d=>
  have hlt:d<a.tmps.size:=by
   rw[h.1];have h':Nat.ble (d+1) N=true:=hd;exact Nat.le_of_ble_eq_true h'
  funext t
  simp only[zF,Act.put,upd,Array.getD_eq_getD_getElem?,Array.getElem?_setIfInBounds];by_cases e:t=d
  · subst e;simp[hlt]
  simp[e,Ne.symm e]
abbrev Ends:=Exit->Env->World->Prop
structure J (P:Program) (N:Nat) (c:Code) (l:Kn) (w:World) (Q:Ends):Prop where
 out:∀ a,Ok N a->zai (zF a) l->c.wp P (λe a' w'=>Ok N a'/\Q e (zF a') w') a w
section code
variable {P:Program} {N:Nat} {l:Kn} {w:World} {Q:Ends}
end code
end Lp
namespace Lp
open Go Go.RowKit
def zao (op:Op) (ty:TypeId):Oper:={ dst:=none,op:=op,type:=ty,pos:= "",after:=#[],guard:=none }
def EOpD (P:Program) (op:Op) (ty:TypeId) (ρ:Env) (w:World) (K:Value->World->Prop):Prop:=
 match (execOp (ev ρ) (zao op ty)).run P w with
 | .ok (.value v) w'=>K v w'
 | .ok .skip w'=>K undef w'
 | .ok (.enter f args) w'=>Calls P f args w' λe w''=>∃ v,e=.returned v/\K v w''
 | .ok (.row row args) w'=>Rows P row args w' K
 | _=>False
structure EOp (P:Program) (op:Op) (ty:TypeId) (ρ:Env) (w:World) (K:Value->World->Prop):Prop where
 out:EOpD P op ty ρ w K
def EOp.mono {P:Program} {op:Op} {ty:TypeId} {ρ:Env} {w:World} {K K':Value->World->Prop} (h:EOp P op ty ρ w K) (hk:∀ v w',K v w'->K' v w'):EOp P op ty ρ w K':=by
 obtain ⟨h⟩:=h;refine⟨?_⟩;unfold EOpD at*;split<;>simp_all
 · exact h.mono λe w' ⟨v,he,hv⟩=>⟨v,he,hk _ _ hv⟩
 exact h.mono λv w' hv=>hk _ _ hv
def aG2 (ρ:Operand->Value) (o:Oper):execOp ρ o=execOp ρ (zao o.op o.type):=rfl
def zcw {P:Program} {o:Oper} {a:Act} {w:World} {next:Act->World->Prop} {Q:Exit->Act->World->Prop}
 (h:EOp P o.op o.type (zF a) w (λv w'=>next (a.put o.dst v) w')):o.wp P a w next Q:=by
 obtain ⟨h⟩:=h;unfold EOpD at h;unfold Oper.wp;rw[aCo,aG2];revert h;cases hr:(execOp (ev (zF a)) (zao o.op o.type)).run P w with
 | halt x w'=>simp
 | ok x w'=>
  cases x with
  | value v=>exact λh=>h
  | skip=>exact λh=>h
  | enter f args=>exact λh=>h.mono λe w'' ⟨v,he,hv⟩=>by subst he;exact hv
  | row r args=>exact λh=>h
  | _=>exact λh=>h.elim
def nth {α:Type}:List α->Nat->Option α
 | [],_=>none
 | x::_,0=>some x
 | _::r,n+1=>nth r n
def zaH {α:Type} (l:List α) (n:Nat):nth l n=l[n]?:=by
 induction l generalizing n with
 | nil=>rfl
 | cons x r ih=>cases n<;>simp[nth,ih]
def opAt (ops:List Oper) (i:Nat):Option (Option Tmp×Op×TypeId×Option (Nat×Bool)):=
 match nth ops i with
 | some o=>some (o.dst,o.op,o.type,o.guard)
 | none=>none
def za0 {ops:List Oper} {i:Nat} {d:Option Tmp} {op:Op} {ty:TypeId} {g:Option (Nat×Bool)} (h:opAt ops i=some (d,op,ty,g)):
 ∃ o,ops.toArray[i]?=some o/\o.dst=d/\o.op=op/\o.type=ty/\o.guard=g:=by
 unfold opAt at h;cases hn:nth ops i with
 | none=>rw[hn] at h;cases h
 | some o=>
  rw[hn] at h;simp only[Option.some.injEq,Prod.mk.injEq] at h;refine⟨o,?_,h.1,h.2.1,h.2.2.1,h.2.2.2⟩;rw[zaH] at hn;simpa using hn
section seqRegion
variable {P:Program} {N:Nat} {ops:List Oper} {l:Kn} {w:World} {K:Env->World->Prop}
def zaQ {P:Program} {ops:Array Oper} {Q Q':Exit->Act->World->Prop} (hq:∀ e a w,Q e a w->Q' e a w):∀ (js:List Nat) (a:Act) (w:World),wpOps P ops Q js a w->wpOps P ops Q' js a w
 | [],a,w,h=>hq _ _ _ h
 | i::rest,a,w,h=>by
  simp only[wpOps] at h ⊢;cases ho:ops[i]? with
  | none=>simp only[ho] at h ⊢;exact zaQ hq rest a w h
  | some o=>
   simp only[ho] at h ⊢;split
   · rename_i hw;rw[if_pos hw] at h;rcases h with h | ⟨h1,a0,w0,h2⟩
     · left;unfold Oper.wp at h ⊢;revert h;cases (execOp a.eval o).run P w with
       | halt x w'=>cases x<;>simp[Oper.upon]<;>intro h<;>exact hq _ _ _ h
       | ok x w'=>
        cases x<;>simp[Oper.upon]<;>intro h
        · exact zaQ hq rest _ _ h
        · exact zaQ hq rest _ _ h
        · refine h.mono ?_;intro e w'' he;cases e with
          | returned v=>exact zaQ hq rest _ _ he
          | panicked c=>exact hq _ _ _ he
          | outgrown=>obtain ⟨a0,w0,h0⟩:=he;exact⟨a0,w0,hq _ _ _ h0⟩
        · exact zaQ hq rest _ _ h
        exact h.mono λv w'' hv=>zaQ hq rest _ _ hv
     exact .inr ⟨h1,a0,w0,hq _ _ _ h2⟩
   rename_i hw;rw[if_neg hw] at h;exact zaQ hq rest _ _ h
def nb:Value->Option Bool
 | .bool b=>some b
 | _=>none
def zaL:Code->List Oper
 | .region _ ops _=>ops.toList
 | _=>[]
def zcU:Code->Option Bool
 | .region _ _ d=>some d
 | _=>none
end seqRegion
def cd:Code->List Bool->Code
 | c,[]=>c
 | .seq a b,i::r=>bif i then cd b r else cd a r
 | .cond _ a b,i::r=>bif i then cd b r else cd a r
 | .block _ a,_::r=>cd a r
 | .loop a,_::r=>cd a r
 | .scope a,_::r=>cd a r
 | c,_::_=>c
def zap (f:Func):Code:=f.body.getD .skip
end Lp
namespace Lp
open Go
variable {w w':World}
def lE {p:Program} {a k:Addr} {u:TypeId} {v:Value} {b:Bool} {l:List Addr} (h:w.viewStore p a u k v b=.ok (w',l)):w'.drawn=w.drawn:=by
 unfold World.viewStore at h;simp only[bind,Except.bind,pure,Except.pure,MonadExcept.throw] at h
 repeat' split at h
 all_goals first | (cases h;done) | (injection h with h;injection h with h1 h2;rw[<-h1])
def lL {p:Program} {a:Addr} {v:Value} {b:Bool} {l:List Addr} (h:w.farStore p a v b=.ok (w',l)):w'.drawn=w.drawn:=by
 unfold World.farStore at h
 repeat' split at h
 all_goals first | (cases h;done) | (rename_i hv;injection h with h;rw[h] at hv;exact lE hv)
def aF0 {α:Type} (q:Ask α):∀ w:World,w.drawn<=(w.ask q).2.drawn:=by
 induction q with
 | done a=>intro w;exact Nat.le_refl _
 | ask what range k ih=>
  intro w;unfold World.ask;simp only;split
  · exact ih _ w
  exact Nat.le_trans (Nat.le_succ w.drawn) (ih _ { w with drawn:=w.drawn+1 })
def aHy (w:World) (c:Sys):w.drawn<=(w.sys c).2.drawn:=by
 have h:=aF0 (Kernel.perform c w.os) w;unfold World.sys;split
 · exact Nat.le_refl _
 rename_i hq;rw[hq] at h;exact h
def rO (w:World) (a:Addr) (n:Nat):(w.freeze a n).drawn=w.drawn:=by unfold World.freeze;split<;>rfl
def aGg {α:Type} {p:Program} (s:Sem α):∀ {w w':World} {a:α},s.run p w=.ok a w'->w.drawn<=w'.drawn:=by
 induction s with
 | pure a=>intro w w' b h;cases h;exact Nat.le_refl _
 | load m a k ih=>
  intro w w' b h;unfold Sem.run at h
  repeat' split at h
  all_goals first | (cases h;done) | exact ih _ h
 | store m a v k ih=>
  intro w w' b h;cases v<;>simp only[Sem.run] at h<;>(repeat' split at h)<;>first | (cases h;done) | (have h1:=@ih _ w' b h;rw[World.drawn_setCell] at h1;exact h1) | (rename_i hs;have h1:=@ih _ w' b h;rwa [lL hs] at h1)
 | new o k ih=>intro w w' b h;exact @ih _ { w with heap:=w.heap.push o } w' b h
 | shape r k ih=>intro w w' b h;exact ih _ h
 | freeze a n k ih=>intro w w' b h;have:=ih h;rwa [rO] at this
 | frozen a k ih=>intro w w' b h;exact ih _ h
 | getObj r k ih=>
  intro w w' b h;unfold Sem.run at h
  repeat' split at h
  all_goals first | (cases h;done) | exact ih _ h
 | setObj r o k ih=>
  intro w w' b h;unfold Sem.run at h
  repeat' split at h
  all_goals first | (cases h;done) | exact @ih { w with heap:=w.heap.setIfInBounds r o } w' b h
 | choose q k ih=>
  intro w w' b h;unfold Sem.run at h;split at h
  · exact ih _ h
  exact Nat.le_trans (Nat.le_succ w.drawn) (@ih _ { w with drawn:=w.drawn+1 } w' b h)
 | sys c k ih=>intro w w' b h;exact Nat.le_trans (aHy w c) (ih _ h)
 | program k ih=>intro w w' b h;exact ih _ h
 | mark m k ih=>intro w w' b h;exact ih h
 | halt h=>intro w w' b h;cases h
def Dr (w w':World):Prop:=True
def Dr.of (h:w.drawn<=w'.drawn):Dr w w':=by first | exact h | trivial
def Dr.rfl' (w:World):Dr w w:=Dr.of (Nat.le_refl _)
def Dr.trans {a b c:World} (h:Dr a b) (k:Dr b c):Dr a c:=by first | exact Nat.le_trans h k | trivial
def Dr.run {α:Type} {p:Program} {s:Sem α} {a:α} (h:s.run p w=.ok a w'):Dr w w':=Dr.of (aGg s h)
end Lp
namespace Lp
open Go Go.RowKit
structure Upd (lo hi:Nat) (w w':World):Prop where
 os:w'.os=w.os
 tape:w'.tape=w.tape
 output:w'.output=w.output
 size:w.heap.size<=w'.heap.size
 block:∀ k,k<w.heap.size->(k<lo\/hi<=k)->w'.heap[k]?=w.heap[k]?
 drawn:Dr w w'
abbrev Ext (w w':World):Prop:=Upd 0 0 w w'
def Upd.refl (lo hi:Nat) (w:World):Upd lo hi w w:=⟨rfl,rfl,rfl,Nat.le_refl _,λ_ _ _=>rfl,Dr.rfl' _⟩
def Ext.rfl' {w:World}:Ext w w:=Upd.refl 0 0 w
def Upd.trans {lo hi:Nat} {a b c:World} (h:Upd lo hi a b) (k:Upd lo hi b c):Upd lo hi a c:=
 ⟨k.os.trans h.os,k.tape.trans h.tape,k.output.trans h.output,Nat.le_trans h.size k.size,λi hi' hh=>(k.block i (Nat.lt_of_lt_of_le hi' h.size) hh).trans (h.block i hi' hh),Dr.trans h.drawn k.drawn⟩
def Ext.below {w w':World} (h:Ext w w'):Below w.heap.size w w':=⟨h.os,h.tape,h.output,h.size,λk hk=>h.block k hk (.inr (Nat.zero_le _))⟩
def Ext.alloc (w:World) (o:Obj):Ext w (w.alloc o):=⟨rfl,rfl,rfl,by simp,λk hk _=>Below.heap_alloc w o k hk,Dr.of (Nat.le_refl _)⟩
def Ext.drew (w:World):Ext w w.drew:=⟨rfl,rfl,rfl,Nat.le_refl _,λ_ _ _=>rfl,Dr.of (Nat.le_succ _)⟩
def At (w:World) (b o:Nat) (cs:List Value):Prop:=b<w.heap.size/\∀ j u,cs[j]?=some u->w.cell? ⟨b,o+j,none⟩=some u
def At.sub {w:World} {b o:Nat} {cs:List Value} (h:At w b o cs) (i n:Nat):At w b (o+i) ((cs.drop i).take n):=by
 refine⟨h.1,λj u hu=>?_⟩;rw[List.getElem?_take] at hu;split at hu
 · rw[List.getElem?_drop] at hu;rw[Nat.add_assoc];exact h.2 _ _ hu
 cases hu
def Box (w:World) (g:Nat) (t:TypeId) (cs:List Value):Prop:=w.heap[g]?=some (.cells cs.toArray t (0,0))
def Box.lt {w:World} {g:Nat} {t:TypeId} {cs:List Value} (h:Box w g t cs):g<w.heap.size:=by
 rcases Nat.lt_or_ge g w.heap.size with hl | hl
 · exact hl
 unfold Box at h;rw[Array.getElem?_eq_none hl] at h;cases h
def Box.at_ {w:World} {g:Nat} {t:TypeId} {cs:List Value} (h:Box w g t cs):At w g 0 cs:=
 ⟨h.lt,λj u hu=>by rw[cell_of_row w g (0+j) cs.toArray t (0,0) h];simpa using hu⟩
def Box.new (w:World) (t:TypeId) (cs:List Value):Box (w.alloc (.cells cs.toArray t)) w.heap.size t cs:=heap_alloc_new w _
def Box.frozen {w:World} {g:Nat} {t:TypeId} {cs:List Value} (h:Box w g t cs) (o:Nat):w.frozen? ⟨g,o,none⟩=false:=by
 unfold Box at h;simp[World.frozen?,h]
def spl (cs:List Value) (o:Nat) (vs:List Value):List Value:=cs.take o++vs++cs.drop (o+vs.length)
def zbW (cs:List Value) (o:Nat) (vs:List Value) (h:o+vs.length<=cs.length):(spl cs o vs).length=cs.length:=by
 simp[spl];omega
def zec (cs:List Value) (o:Nat) (vs:List Value) (h:o+vs.length<=cs.length) (j:Nat):(spl cs o vs)[j]?=if o<=j/\j<o+vs.length then vs[j-o]? else cs[j]?:=by
 unfold spl;by_cases h1:j<o
 · rw[if_neg (by omega),List.getElem?_append_left (by simp;omega),List.getElem?_append_left (by simp;omega),List.getElem?_take,if_pos h1]
 by_cases h2:j<o+vs.length
 · rw[if_pos (by omega),List.getElem?_append_left (by simp;omega),List.getElem?_append_right (by simp;omega)];congr 1;simp;omega
 rw[if_neg (by omega),List.getElem?_append_right (by simp;omega),List.getElem?_drop];congr 1;simp;omega
def aA4 (cs:List Value) (o:Nat) (v:Value) (vs:List Value) (h:o+(v::vs).length<=cs.length):spl (spl cs o [v]) (o+1) vs=spl cs o (v::vs):=by
 apply List.ext_getElem?;intro j;have hl:=zbW cs o [v] (by simp at h ⊢;omega);rw[zec _ _ _ (by rw[hl];simp at h;omega),zec _ _ _ (by simp at h ⊢;omega),zec _ _ _ h];by_cases h1:j=o
 · subst h1;simp;intro h9;omega
 by_cases h2:o+1<=j/\j<o+1+vs.length
 · rw[if_pos h2,if_pos (by simp;omega)];rw[show j-o=(j-(o+1))+1 by omega];simp
 rw[if_neg h2,if_neg (by simp;omega),if_neg (by simp at*;omega)]
def Box.set1 {w:World} {g:Nat} {t:TypeId} {cs:List Value} (h:Box w g t cs) (o:Nat) (v:Value) (ho:o<cs.length):Box (w.setCell ⟨g,o,none⟩ v) g t (spl cs o [v]):=by
 unfold Box at h ⊢;simp only[World.setCell,Array.getElem?_modify,h,↓reduceIte,Option.map_some];congr 2;apply Array.ext';simp only[Option.isSome_none,Bool.false_eq_true,↓reduceIte,Array.toList_setIfInBounds];apply List.ext_getElem?;intro j;rw[zec _ _ _ (by simp;omega),List.getElem?_set];by_cases e:o=j
 · subst e;simp[ho]
 rw[if_neg e,if_neg (by simp;omega)]
def Upd.setCell (w:World) (g o:Nat) (v:Value):Upd g (g+1) w (w.setCell ⟨g,o,none⟩ v):=
 ⟨rfl,rfl,rfl,by simp,λk _ hh=>Below.heap_setCell w _ v k (by simp;omega),Dr.of (by rw[World.drawn_setCell];exact Nat.le_refl _)⟩
def eO (P:Program) (g:Nat) (t:TypeId):∀ (vs:List Value) (w:World) (cs:List Value) (o i:Nat),Box w g t cs->o+i+vs.length<=cs.length->(∀ v∈vs,v.oneCell'=true)->
 ∃ w',(storeCells ⟨g,o,none⟩ vs i).run P w=.ok () w'/\Box w' g t (spl cs (o+i) vs)/\Upd g (g+1) w w'/\w'.heap.size=w.heap.size
 | [],w,cs,o,i,h,_,_=>⟨w,by simp[storeCells],by simpa [spl] using h,Upd.refl _ _ _,rfl⟩
 | v::vs,w,cs,o,i,h,hl,h1=>by
  have hb:=h.set1 (o+i) v (by simp at hl;omega);obtain ⟨w',e1,e2,e3,e4⟩:=eO P g t vs (w.setCell ⟨g,o+i,none⟩ v) (spl cs (o+i) [v]) o (i+1) hb (by rw[zbW _ _ _ (by simp at hl ⊢;omega)];simp at hl;omega) (λu hu=>h1 u (List.mem_cons_of_mem _ hu));refine⟨w',?_,?_,(Upd.setCell w g (o+i) v).trans e3,by rw[e4];simp⟩
  · unfold storeCells;have ha:(⟨g,o,none⟩:Addr).add i=⟨g,o+i,none⟩:=(by cases i<;>simp[Addr.add]);have hc:w.cell? ⟨g,o+i,none⟩=cs[o+i]?:=by
     have:=cell_of_row w g (o+i) cs.toArray t (0,0) h;simpa using this
    rw[Sem.run_bind,ha,run_store _ _ _ _ _ (h1 v List.mem_cons_self),hc,List.getElem?_eq_getElem (by simp at hl;omega),h.frozen];simpa using e1
  rw[show o+(i+1)=o+i+1 by omega,aA4 _ _ _ _ hl] at e2;exact e2
def eU (P:Program) (w:World) (b o:Nat):∀ (n i:Nat) (acc:Array Value) (cs:List Value),cs.length=n->(∀ j u,cs[j]?=some u->w.cell? ⟨b,o+i+j,none⟩=some u)->
 (loadCellsFrom ⟨b,o,none⟩ i n acc).run P w=.ok (acc++cs.toArray) w
 | 0,i,acc,cs,hl,_=>by
  have:cs=[]:=List.eq_nil_of_length_eq_zero hl;subst this;simp[loadCellsFrom]
 | n+1,i,acc,cs,hl,h=>by
  cases cs with
  | nil=>simp at hl
  | cons c cs=>
   unfold loadCellsFrom;have ha:(⟨b,o,none⟩:Addr).add i=⟨b,o+i,none⟩:=(by cases i<;>simp[Addr.add]);have h0:=h 0 c (by simp);rw[Sem.run_bind,ha,run_load];rw[show o+i+0=o+i by omega] at h0;simp only[h0,Result.andThen_ok];rw[eU P w b o n (i+1) (acc.push c) cs (by simpa using hl) (λj u hu=>by
    have:=h (j+1) u (by simpa using hu);rw[show o+(i+1)+j=o+i+(j+1) by omega];exact this)]
   simp
def fU (P:Program) (w:World) (b o:Nat) (cs:List Value) (h:At w b o cs):(loadCells ⟨b,o,none⟩ cs.length).run P w=.ok cs.toArray w:=by
 unfold loadCells;rw[eU P w b o cs.length 0 #[] cs rfl (λj u hu=>by simpa using h.2 j u hu)];simp
def bl:Value->Nat
 | .slice (some a) _ _=>a.block
 | _=>0
def of_:Value->Nat
 | .slice (some a) _ _=>a.off
 | _=>0
def Sl (w:World) (lo hi z:Nat) (v:Value) (xs:List (List Value)):Prop:=
 ∃ A c,v=.slice A xs.length c/\xs.length<=c/\(∀ x∈xs,x.length=z)/\
  (xs≠[]->∃ b o,A=some ⟨b,o,none⟩/\lo<=b/\b<hi/\∀ i x,xs[i]?=some x->At w b (o+i*z) x)/\hi<=w.heap.size
def Sl.nil (w:World) (lo hi z:Nat) (h:hi<=w.heap.size):Sl w lo hi z (.slice none 0 0) []:=⟨none,0,rfl,Nat.le_refl _,by simp,by simp,h⟩
def Sl.at_ {w:World} {lo hi z:Nat} {v:Value} {xs:List (List Value)} (h:Sl w lo hi z v xs) {k:Nat} {x:List Value} (hx:xs[k]?=some x):At w (bl v) (of_ v+k*z) x:=by
 obtain ⟨A,c,rfl,h2,h3,h4,_⟩:=h;obtain ⟨b,o,rfl,e2,e3,e4⟩:=h4 (by rintro rfl;simp at hx);exact e4 k x hx
def Len (v:Value) (n:Nat):Prop:=∃ A c,v=.slice A n c
def Sl.len {w:World} {lo hi z:Nat} {v:Value} {xs:List (List Value)} (h:Sl w lo hi z v xs):Len v xs.length:=by
 obtain ⟨A,c,h1,_⟩:=h;exact⟨A,c,h1⟩
def Has (v:Value) (k:Nat):Prop:=∃ b o n c,v=.slice (some ⟨b,o,none⟩) n c/\k<n
def Sl.has {w:World} {lo hi z:Nat} {v:Value} {xs:List (List Value)} (h:Sl w lo hi z v xs) {k:Nat} (hk:k<xs.length):Has v k:=by
 obtain ⟨A,c,rfl,h2,h3,h4,_⟩:=h;obtain ⟨b,o,rfl,e2,e3,e4⟩:=h4 (by rintro rfl;simp at hk);exact⟨b,o,_,c,rfl,hk⟩
def cut (z:Nat) (v:Value) (l h:Nat):Value:=
 match v with
 | .slice a _ cap=>.slice (if cap=l then a else a.map (·.add (l*z))) (h-l) (cap-l)
 | v=>v
def Sl.cut {w:World} {lo hi z:Nat} {v:Value} {xs:List (List Value)} (hs:Sl w lo hi z v xs) (l h:Nat) (hl:l<=h) (hh:h<=xs.length):Sl w lo hi z (cut z v l h) ((xs.take h).drop l):=by
 obtain ⟨A,c,rfl,h2,h3,h4,h5⟩:=hs;have hlen:((xs.take h).drop l).length=h-l:=by simp;omega
 refine⟨_,_,by rw[hlen];rfl,by rw[hlen];omega,λx hx=>h3 x (List.mem_of_mem_take (List.mem_of_mem_drop hx)),λhn=>?_,h5⟩;have hlt:l<h:=by
  rcases Nat.lt_or_ge l h with e | e
  · exact e
  exact absurd (List.eq_nil_of_length_eq_zero (by omega)) hn
 obtain ⟨b,o,rfl,e2,e3,e4⟩:=h4 (by rintro rfl;simp at hh;omega);rw[if_neg (by omega)];refine⟨b,o+l*z,?_,e2,e3,λi x hx=>?_⟩
 · simp only[Option.map_some,Addr.add];split
   · rename_i h0;rw[h0];rfl
   rfl
 rw[List.getElem?_drop,List.getElem?_take] at hx;split at hx
 · have:=e4 _ _ hx;rw[show o+l*z+i*z=o+(l+i)*z by rw[Nat.add_mul];omega];exact this
 cases hx
def w64 {n:Int} (h: -9223372036854775808<=n/\n<=9223372036854775807):IntKind.i64.wrap n=n:=IntWalk.i64_in n h
def opvs (l:Kn):List Operand->Option (List Value)
 | []=>some []
 | x::r=>match opv l x,opvs l r with
  | some v,some vs=>some (v::vs)
  | _,_=>none
def zai.ops {ρ:Env} {l:Kn} (h:zai ρ l):∀ {xs:List Operand} {vs:List Value},opvs l xs=some vs->xs.map (ev ρ)=vs
 | [],vs,e=>by simp[opvs] at e;simp[e]
 | x::r,vs,e=>by
  unfold opvs at e;cases h1:opv l x with
  | none=>simp[h1] at e
  | some v=>
   cases h2:opvs l r with
   | none=>simp[h1,h2] at e
   | some us=>
    simp[h1,h2] at e;subst e;simp[h.op h1,h.ops h2]
section rules
variable {P:Program} {ty:TypeId} {ρ:Env} {w:World} {K:Value->World->Prop} {l:Kn}
def wS {op:Op} {v:Value} {w':World} (hr:(execOp (ev ρ) (zao op ty)).run P w=.ok (.value v) w') (h:K v w'):EOp P op ty ρ w K:=by
 refine⟨?_⟩;unfold EOpD;rw[hr];exact h
def EOp.of_skip {op:Op} {w':World} (hr:(execOp (ev ρ) (zao op ty)).run P w=.ok .skip w') (h:K undef w'):EOp P op ty ρ w K:=by
 refine⟨?_⟩;unfold EOpD;rw[hr];exact h
def zcz {s:Sem Value} {v:Value} {w w':World} (h:s.run P w=.ok v w'):(do pure (Next.value (<-s)):Sem Next).run P w=.ok (.value v) w':=by
 simp[h]
def aY4 {s:Sem Unit} {w w':World} (h:s.run P w=.ok () w'):(do s;pure Next.skip:Sem Next).run P w=.ok .skip w':=by
 simp[h]
def aWr {x:Operand} {v:Value} (hk:zai ρ l) (hx:opv l x=some v) (h:K v w):EOp P (.move x) ty ρ w K:=
 wS (v:=v) (w':=w) (by simp[execOp,zao,hk.op hx]) h
def aKx {x:Operand} {v:Value} (hk:zai ρ l) (hx:opv l x=some v) (h:K v w):EOp P (.assign x) ty ρ w K:=
 wS (v:=v) (w':=w) (by simp[execOp,zao,hk.op hx]) h
def aJ4 {c x y:Operand} {v:Value} (hk:zai ρ l) (hc:opv l c=some (.bool true)) (hx:opv l x=some v) (h:K v w):EOp P (.pick c x y) ty ρ w K:=
 wS (v:=v) (w':=w) (by simp[execOp,zao,hk.op hc,asBool,hk.op hx]) h
def aNc {c x y:Operand} {v:Value} (hk:zai ρ l) (hc:opv l c=some (.bool false)) (hy:opv l y=some v) (h:K v w):EOp P (.pick c x y) ty ρ w K:=
 wS (v:=v) (w':=w) (by simp[execOp,zao,hk.op hc,asBool,hk.op hy]) h
structure New (w w':World) (g:Nat) (t:TypeId) (cs:List Value):Prop where
 num:g=w.heap.size
 box:Box w' g t cs
 ext:Ext w w'
 size:w'.heap.size=w.heap.size+1
def wT (w:World) (t:TypeId) (cs:Array Value):New w (w.alloc (.cells cs t)) w.heap.size t cs.toList:=
 ⟨rfl,by have:=Box.new w t cs.toList;simpa using this,Ext.alloc _ _,by simp⟩
def aTi {t:TypeId} {z:Value} (hz:∀ w,(zeroValue t).run P w=.ok z w) (h:∀ g w',New w w' g t z.cells.toList->K (.pointer (some ⟨g,0,none⟩)) w'):EOp P (.alloc t) ty ρ w K:=
 wS (v:=.pointer (some ⟨w.heap.size,0,none⟩)) (w':=w.alloc (.cells z.cells t))
  (zcz (by simp[Instr.alloc,hz,newVar,newRow])) (h _ _ (wT w t z.cells))
def a0e {t:TypeId} {x:Operand} {v:Value} (hk:zai ρ l) (hx:opv l x=some v) (h:∀ g w',New w w' g t v.cells.toList->K (.pointer (some ⟨g,0,none⟩)) w'):EOp P (.box t x) ty ρ w K:=
 wS (v:=.pointer (some ⟨w.heap.size,0,none⟩)) (w':=w.alloc (.cells v.cells t))
  (zcz (by simp[Instr.box,hk.op hx,newVar,newRow])) (h _ _ (wT w t v.cells))
def aS8 {t:TypeId} {x:Operand} {b o:Nat} {v:Value} (hk:zai ρ l) (hx:opv l x=some (.pointer (some ⟨b,o,none⟩))) (hg:∀ w,(isAgg t).run P w=.ok false w)
 (hc:w.cell? ⟨b,o,none⟩=some v) (h:K v w):EOp P (.load t x) ty ρ w K:=
 wS (v:=v) (w':=w) (zcz (by simp[Instr.loadAt,hk.op hx,Instr.sureAddr,loadVar,hg,hc])) h
def aSw {t:TypeId} {x:Operand} {b o:Nat} {cs:List Value} (hk:zai ρ l) (hx:opv l x=some (.pointer (some ⟨b,o,none⟩))) (hg:∀ w,(isAgg t).run P w=.ok true w)
 (hs:∀ w,(Go.sizeOf t).run P w=.ok cs.length w) (hc:At w b o cs) (h:K (.agg cs.toArray) w):EOp P (.load t x) ty ρ w K:=
 wS (v:=.agg cs.toArray) (w':=w) (zcz (by
  have:=fU P w b o cs hc;simp[Instr.loadAt,hk.op hx,Instr.sureAddr,loadVar,hg,hs,this])) h
def zcv:List Value->Prop
 | []=>True
 | v::r=>v.oneCell'=true/\zcv r
def zcv.all:∀ {vs:List Value},zcv vs->∀ u∈vs,u.oneCell'=true
 | [],_,u,hu=>by cases hu
 | v::r,⟨h1,h2⟩,u,hu=>by
  cases hu with
  | head=>exact h1
  | tail _ hm=>exact zcv.all h2 u hm
def aHt {t:TypeId} {x y:Operand} {g o:Nat} {v:Value} {T:TypeId} {cs:List Value} (hk:zai ρ l) (hx:opv l x=some (.pointer (some ⟨g,o,none⟩))) (hy:opv l y=some v)
 (hs:∀ w,(Go.sizeOf t).run P w=.ok v.cells.size w) (hB:Box w g T cs) (ho:o+v.cells.toList.length<=cs.length) (h1:zcv v.cells.toList)
 (h:∀ w',Box w' g T (spl cs o v.cells.toList)->Upd g (g+1) w w'->w'.heap.size=w.heap.size->K undef w'):EOp P (.store t x y) ty ρ w K:=by
 obtain ⟨w',e1,e2,e3,e4⟩:=eO P g T v.cells.toList w cs o 0 hB (by simpa using ho) h1.all;refine EOp.of_skip (w':=w') (aY4 ?_) (h w' e2 e3 e4);simp[Instr.storeAt,hk.op hx,hk.op hy,Instr.sureAddr,storeVar,hs,e1]
def nH {x:Operand} {a:Addr} (hk:zai ρ l) (hx:opv l x=some (.pointer (some a))) (h:K (.pointer (some a)) w):EOp P (.nilCheck x) ty ρ w K:=
 wS (v:=.pointer (some a)) (w':=w) (by simp[execOp,zao,hk.op hx]) h
def kC {s f:Nat} {x:Operand} {p q:Addr} (hk:zai ρ l) (hx:opv l x=some (.pointer (some p)))
 (hf:∀ w,(Instr.fieldAt s (.pointer (some p)) f).run P w=.ok (.pointer (some q)) w) (h:K (.pointer (some q)) w):EOp P (.fieldAddr s x f) ty ρ w K:=
 wS (v:=.pointer (some q)) (w':=w) (zcz (by rw[hk.op hx];exact hf w)) h
def aG4 {s f:Nat} {x:Operand} {u v:Value} (hk:zai ρ l) (hx:opv l x=some u)
 (hf:∀ w,(Instr.field s u f).run P w=.ok v w) (h:K v w):EOp P (.field s x f) ty ρ w K:=
 wS (v:=v) (w':=w) (zcz (by rw[hk.op hx];exact hf w)) h
def kG {t e:TypeId} {z:Nat} {x i:Operand} {v:Value} {kd:IntKind} {n:Int} {k:Nat} (hk:zai ρ l) (hx:opv l x=some v) (hi:opv l i=some (.int kd n))
 (ht:∀ w,(underlying t).run P w=.ok (.slice e) w) (hs:∀ w,(Go.sizeOf e).run P w=.ok z w) (hv:Has v k) (hn:n=(k:Int)) (h:K (.pointer (some ⟨bl v,of_ v+k*z,none⟩)) w):EOp P (.indexAddr t x i) ty ρ w K:=by
 obtain ⟨b,o,m,c,rfl,hlt⟩:=hv;subst hn;refine wS (v:=.pointer (some ⟨b,o+k*z,none⟩)) (w':=w) (zcz ?_) h;have ha:(⟨b,o,none⟩:Addr).add (k*z)=⟨b,o+k*z,none⟩:=by
  unfold Addr.add;split
  · rename_i h0;rw[h0];rfl
  rfl
 simp[Instr.indexAt,hk.op hx,hk.op hi,asIntOf,ht,hs,hlt,ha]
def oV {t e:TypeId} {z:Nat} {x:Operand} {lo hi:Option Operand} {v:Value} {lv hv:Option Value} {n a b:Nat} (hk:zai ρ l) (hx:opv l x=some v)
 (hlo:lo.map (ev ρ)=lv) (hhi:hi.map (ev ρ)=hv) (hla:(lv=none/\0=a)\/(∃ kd,lv=some (.int kd (a:Int)))) (hhb:(hv=none/\n=b)\/(∃ kd,hv=some (.int kd (b:Int))))
 (ht:∀ w,(underlying t).run P w=.ok (.slice e) w) (hs:∀ w,(Go.sizeOf e).run P w=.ok z w) (hL:∃ A c,v=.slice A n c/\b<=c) (hab:a<=b) (h:K (cut z v a b) w):
 EOp P (.slice t x lo hi none) ty ρ w K:=by
 obtain ⟨A,c,rfl,hnc⟩:=hL;refine wS (v:=cut z (.slice A n c) a b) (w':=w) (zcz ?_) h;have e1:Instr.sliceAt t (ev ρ x) (lo.map (ev ρ)) (hi.map (ev ρ)) (none.map (ev ρ))=Instr.sliceAt t (.slice A n c) lv hv none:=by rw[hk.op hx,hlo,hhi];rfl
 rw[e1];rcases hla with ⟨p1,p2⟩ | ⟨kd,p1⟩<;>rcases hhb with ⟨q1,q2⟩ | ⟨kd',q1⟩<;>rw[p1,q1]
 · subst p2;subst q2;simp[Instr.sliceAt,Instr.slice,Instr.sliceBounds,ht,hs,cut]
 · subst p2;have e3:(b:Int)<=c:=(by omega);simp[Instr.sliceAt,Instr.slice,Instr.sliceBounds,Instr.sliceBound,asIntOf,ht,hs,cut,hnc]
 · subst q2;simp[Instr.sliceAt,Instr.slice,Instr.sliceBounds,Instr.sliceBound,asIntOf,ht,hs,cut,hab]
 have e3:(b:Int)<=c:=by omega
 simp[Instr.sliceAt,Instr.slice,Instr.sliceBounds,Instr.sliceBound,asIntOf,ht,hs,cut,hab,hnc]
def xC {t:TypeId} {x:Operand} {lo hi:Option Operand} {s:Ba} {lv hv:Option Value} {a b:Nat} (hk:zai ρ l) (hx:opv l x=some (.string s))
 (hlo:lo.map (ev ρ)=lv) (hhi:hi.map (ev ρ)=hv) (hla:(lv=none/\0=a)\/(∃ kd,lv=some (.int kd (a:Int)))) (hhb:(hv=none/\s.size=b)\/(∃ kd,hv=some (.int kd (b:Int))))
 (ht:∀ w,(underlying t).run P w=.ok .string w) (hab:a<=b) (hb:b<=s.size) (h:K (.string (s.extract a b)) w):
 EOp P (.slice t x lo hi none) ty ρ w K:=by
 refine wS (v:=.string (s.extract a b)) (w':=w) (zcz ?_) h;have e1:Instr.sliceAt t (ev ρ x) (lo.map (ev ρ)) (hi.map (ev ρ)) (none.map (ev ρ))=Instr.sliceAt t (.string s) lv hv none:=by rw[hk.op hx,hlo,hhi];rfl
 rw[e1];rcases hla with ⟨p1,p2⟩ | ⟨kd,p1⟩<;>rcases hhb with ⟨q1,q2⟩ | ⟨kd',q1⟩<;>rw[p1,q1]
 · subst p2;subst q2;simp[Instr.sliceAt,Instr.slice,Instr.sliceBounds,ht]
 · subst p2;simp[Instr.sliceAt,Instr.slice,Instr.sliceBounds,Instr.sliceBound,asIntOf,ht,hb]
 · subst q2;simp[Instr.sliceAt,Instr.slice,Instr.sliceBounds,Instr.sliceBound,asIntOf,ht,hab]
 simp[Instr.sliceAt,Instr.slice,Instr.sliceBounds,Instr.sliceBound,asIntOf,ht,hab,hb]
def aAb {t:TypeId} {x i:Operand} {s:Ba} {kd:IntKind} {n:Int} {k:Nat} {u:UInt8} (hk:zai ρ l) (hx:opv l x=some (.string s)) (hi:opv l i=some (.int kd n))
 (ht:∀ w,(underlying t).run P w=.ok .string w) (hn:n=(k:Int)) (hu:s[k]?=some u) (h:K (.int .u8 u.toNat) w):EOp P (.index t x i) ty ρ w K:=by
 subst hn;refine wS (v:=.int .u8 u.toNat) (w':=w) (zcz ?_) h;simp[Instr.index,hk.op hx,hk.op hi,asIntOf,ht,hu]
def zcb {op:BinOp} {t t':TypeId} {x y:Operand} {u v r:Value} (hk:zai ρ l) (hx:opv l x=some u) (hy:opv l y=some v)
 (hr:∀ w,(do eqGuard op t x y u v;binOp op t u v:Sem Value).run P w=.ok r w) (h:K r w):EOp P (.binOp op t x y t') ty ρ w K:=
 wS (v:=r) (w':=w) (by
  have:=zcz (hr w);simpa [execOp,zao,hk.op hx,hk.op hy] using this) h
def a0a {t t':TypeId} {x y:Operand} {k:IntKind} {a b c:Int} (hk:zai ρ l) (hx:opv l x=some (.int k a)) (hy:opv l y=some (.int k b)) (hw:k.wrap (a+b)=c) (h:K (.int k c) w):EOp P (.binOp .add t x y t') ty ρ w K:=
 zcb hk hx hy (λw=>by simp[eqGuard_add,binOp_add,Op.intArith,hw]) h
def a0v {t t':TypeId} {x y:Operand} {k:IntKind} {a b c:Int} (hk:zai ρ l) (hx:opv l x=some (.int k a)) (hy:opv l y=some (.int k b)) (hw:k.wrap (a-b)=c) (h:K (.int k c) w):EOp P (.binOp .sub t x y t') ty ρ w K:=
 zcb hk hx hy (λw=>by simp[eqGuard_sub,binOp_sub,Op.intArith,hw]) h
def aZ8 {t t':TypeId} {x y:Operand} {k:IntKind} {a b c:Int} (hk:zai ρ l) (hx:opv l x=some (.int k a)) (hy:opv l y=some (.int k b)) (hw:k.wrap (a*b)=c) (h:K (.int k c) w):EOp P (.binOp .mul t x y t') ty ρ w K:=
 zcb hk hx hy (λw=>by simp[eqGuard_mul,binOp_mul,Op.intArith,hw]) h
def aY6 {t t':TypeId} {x y:Operand} {k:IntKind} {a b c:Int} (hk:zai ρ l) (hx:opv l x=some (.int k a)) (hy:opv l y=some (.int k b)) (hb:b≠0) (hw:k.wrap (a.tdiv b)=c) (h:K (.int k c) w):EOp P (.binOp .quo t x y t') ty ρ w K:=
 zcb hk hx hy (λw=>by simp[eqGuard_quo,binOp_quo,Op.intDiv,hw,hb]) h
def aZh {t t':TypeId} {x y:Operand} {k:IntKind} {a b c:Int} (hk:zai ρ l) (hx:opv l x=some (.int k a)) (hy:opv l y=some (.int k b)) (hb:b≠0) (hw:a.tmod b=c) (h:K (.int k c) w):EOp P (.binOp .rem t x y t') ty ρ w K:=
 zcb hk hx hy (λw=>by simp[eqGuard_rem,binOp_rem,Op.intDiv,hw,hb]) h
def a0g {t t':TypeId} {x y:Operand} {k:IntKind} {a b:Int} (hk:zai ρ l) (hx:opv l x=some (.int k a)) (hy:opv l y=some (.int k b)) {c:Bool} (hc:(decide (a<b))=c) (h:K (.bool c) w):EOp P (.binOp .lss t x y t') ty ρ w K:=
 zcb hk hx hy (λw=>by simp[eqGuard_lss,binOp_lss]) (hc ▸ h)
def aZy {t t':TypeId} {x y:Operand} {k:IntKind} {a b:Int} (hk:zai ρ l) (hx:opv l x=some (.int k a)) (hy:opv l y=some (.int k b)) {c:Bool} (hc:(decide (a<=b))=c) (h:K (.bool c) w):EOp P (.binOp .leq t x y t') ty ρ w K:=
 zcb hk hx hy (λw=>by simp[eqGuard_leq,binOp_leq]) (hc ▸ h)
def aYy {t t':TypeId} {x y:Operand} {k:IntKind} {a b:Int} (hk:zai ρ l) (hx:opv l x=some (.int k a)) (hy:opv l y=some (.int k b)) {c:Bool} (hc:(decide (b<a))=c) (h:K (.bool c) w):EOp P (.binOp .gtr t x y t') ty ρ w K:=
 zcb hk hx hy (λw=>by simp[eqGuard_gtr,binOp_gtr]) (hc ▸ h)
def aYv {t t':TypeId} {x y:Operand} {k:IntKind} {a b:Int} (hk:zai ρ l) (hx:opv l x=some (.int k a)) (hy:opv l y=some (.int k b)) {c:Bool} (hc:(decide (b<=a))=c) (h:K (.bool c) w):EOp P (.binOp .geq t x y t') ty ρ w K:=
 zcb hk hx hy (λw=>by simp[eqGuard_geq,binOp_geq]) (hc ▸ h)
def a0u {t t':TypeId} {x y:Operand} {k:IntKind} {a b:Int} (hk:zai ρ l) (hx:opv l x=some (.int k a)) (hy:opv l y=some (.int k b)) {c:Bool} (hc:(decide (a=b))=c) (h:K (.bool c) w):EOp P (.binOp .eql t x y t') ty ρ w K:=
 zcb hk hx hy (λw=>by simp[eqGuard_at_int,binOp_eql];exact Bool.beq_eq_decide_eq a b) (hc ▸ h)
def aZm {t t':TypeId} {x y:Operand} {k:IntKind} {a b:Int} (hk:zai ρ l) (hx:opv l x=some (.int k a)) (hy:opv l y=some (.int k b)) {c:Bool} (hc:(decide (a≠b))=c) (h:K (.bool c) w):EOp P (.binOp .neq t x y t') ty ρ w K:=
 zcb hk hx hy (λw=>by simp[eqGuard_at_int,binOp_neq,bne];exact Bool.beq_eq_decide_eq a b) (hc ▸ h)
def fI (s t:Ba):(s.toList==t.toList)=decide (s=t):=by
 rw[Bool.eq_iff_iff];simp only[beq_iff_eq,decide_eq_true_eq];constructor
 · intro h;have h':s.data.toList=t.data.toList:=(by rw[<-ByteArray.toList_eq,<-ByteArray.toList_eq];exact h);exact ByteArray.ext (Array.ext' h')
 rintro rfl;rfl
def aZc {t t':TypeId} {x y:Operand} {a b:Ba} (hk:zai ρ l) (hx:opv l x=some (.string a)) (hy:opv l y=some (.string b)) {c:Bool} (hc:(decide (a=b))=c) (h:K (.bool c) w):EOp P (.binOp .eql t x y t') ty ρ w K:=
 zcb hk hx hy (λw=>by simp[eqGuard_at_string,binOp,Op.stringOp,fI]) (hc ▸ h)
def aZ6 {t t':TypeId} {x y:Operand} {a b:Ba} (hk:zai ρ l) (hx:opv l x=some (.string a)) (hy:opv l y=some (.string b)) {c:Bool} (hc:(decide (a≠b))=c) (h:K (.bool c) w):EOp P (.binOp .neq t x y t') ty ρ w K:=
 zcb hk hx hy (λw=>by simp[eqGuard_at_string,binOp,Op.stringOp,fI]) (hc ▸ h)
def aYt {t:TypeId} {x:Operand} {b:Bool} (hk:zai ρ l) (hx:opv l x=some (.bool b)) (h:K (.bool (!b)) w):EOp P (.unOp .not t x) ty ρ w K:=
 wS (v:=.bool (!b)) (w':=w) (by simp[execOp,zao,hk.op hx,Op.unary]) h
def a0b {t:TypeId} {x:Operand} {k:IntKind} {a c:Int} (hk:zai ρ l) (hx:opv l x=some (.int k a)) (hw:k.wrap (0-a)=c) (h:K (.int k c) w):EOp P (.unOp .neg t x) ty ρ w K:=
 wS (v:=.int k c) (w':=w) (by simp[execOp,zao,hk.op hx,Op.unary,Op.intArith];simpa using hw) h
def aS1 {t:TypeId} {e:TypeId} {x:Operand} {v:Value} {n:Nat} (hk:zai ρ l) (hx:opv l x=some v) (ht:∀ w,(underlying t).run P w=.ok (.slice e) w) (hv:Len v n) (h:K (.int .i64 n) w):
 EOp P (.call { callee:=.builtin .len,args:=#[x],argTypes:=#[t] }) ty ρ w K:=by
 obtain ⟨A,c,rfl⟩:=hv;exact wS (v:=.int .i64 n) (w':=w) (by simp[execOp,zao,resolve,invoke,builtin,hk.op hx,Builtin.len_,ht,goInt]) h
def aEc {t:TypeId} {x:Operand} {s:Ba} (hk:zai ρ l) (hx:opv l x=some (.string s)) (ht:∀ w,(underlying t).run P w=.ok .string w) (h:K (.int .i64 s.size) w):
 EOp P (.call { callee:=.builtin .len,args:=#[x],argTypes:=#[t] }) ty ρ w K:=by
 exact wS (v:=.int .i64 s.size) (w':=w) (by simp[execOp,zao,resolve,invoke,builtin,hk.op hx,Builtin.len_,ht,goInt]) h
abbrev Ret (R:Value->World->Prop):Ending->World->Prop:=λe w'=>∃ v,e=.returned v/\R v w'
def aO2 {f:FuncId} {args:Array Operand} {ats:Array TypeId} {vs:List Value} {R:Value->World->Prop} (hk:zai ρ l) (hargs:opvs l args.toList=some vs)
 (hc:∀ args w,(callFunc f args).run P w=.ok (.enter f args) w) (hcall:Calls P f vs.toArray w (Ret R)) (h:∀ v w',R v w'->K v w'):
 EOp P (.call { callee:=.value (.func f),args:=args,argTypes:=ats }) ty ρ w K:=by
 have e1:args.map (ev ρ)=vs.toArray:=by
  apply Array.ext';rw[Array.toList_map,hk.ops hargs]
 refine⟨?_⟩;unfold EOpD;have e2:(execOp (ev ρ) (zao (.call { callee:=.value (.func f),args:=args,argTypes:=ats }) ty)).run P w=.ok (.enter f vs.toArray) w:=by
  simp[execOp,zao,resolve,ev,Deferred.ofValue,invoke,hc,e1]
 rw[e2];exact hcall.mono λe w' ⟨v,he,hv⟩=>⟨v,he,h v w' hv⟩
def aUm {f:FuncId} {x:Operand} {args:Array Operand} {ats:Array TypeId} {fs cs:Array Value} {vs us:List Value} {R:Value->World->Prop} (hk:zai ρ l) (hx:opv l x=some (.func (.func f) fs cs)) (hargs:opvs l args.toList=some vs) (hus:fs.toList++vs++cs.toList=us)
 (hc:∀ args w,(callFunc f args).run P w=.ok (.enter f args) w) (hcall:Calls P f us.toArray w (Ret R)) (h:∀ v w',R v w'->K v w'):
 EOp P (.call { callee:=.value x,args:=args,argTypes:=ats }) ty ρ w K:=by
 have e1:args.map (ev ρ)=vs.toArray:=by
  apply Array.ext';rw[Array.toList_map,hk.ops hargs]
 have e3:fs++vs.toArray++cs=us.toArray:=by
  apply Array.ext';simp[<-hus]
 refine⟨?_⟩;unfold EOpD;have e2:(execOp (ev ρ) (zao (.call { callee:=.value x,args:=args,argTypes:=ats }) ty)).run P w=.ok (.enter f us.toArray) w:=by
  rw[<-e3];simp[execOp,zao,resolve,hk.op hx,Deferred.ofValue,invoke,hc,e1]
 rw[e2];exact hcall.mono λe w' ⟨v,he,hv⟩=>⟨v,he,h v w' hv⟩
def aHn {t:TypeId} {x:Operand} {v:Value} (hk:zai ρ l) (hx:opv l x=some v) (hm:∀ w,(Instr.makeInterface t v).run P w=.ok (.iface t v) w) (h:K (.iface t v) w):EOp P (.makeInterface t x) ty ρ w K:=
 wS (v:=.iface t v) (w':=w) (zcz (by rw[hk.op hx];exact hm w)) h
def pV {t T:TypeId} {x:Operand} {u v:Value} (hk:zai ρ l) (hx:opv l x=some u) (hm:∀ w,(Instr.typeAssert u t T true).run P w=.ok v w) (h:K v w):EOp P (.typeAssert x t T true) ty ρ w K:=
 wS (v:=v) (w':=w) (zcz (by rw[hk.op hx];exact hm w)) h
def aFd {x:Operand} {vs:Array Value} {i:Nat} {v:Value} (hk:zai ρ l) (hx:opv l x=some (.tuple vs)) (hv:vs[i]?=some v) (h:K v w):EOp P (.extract x i) ty ρ w K:=
 wS (v:=v) (w':=w) (zcz (by rw[hk.op hx];simp[Instr.extract,hv])) h
def aQ1 {t:TypeId} {ps:Array (Nat×Operand)} {qs:Array (Nat×Value)} {v:Value} (hp:ps.map (λp=>(p.1,ev ρ p.2))=qs) (hr:∀ w,(Instr.build t qs).run P w=.ok v w) (h:K v w):EOp P (.build t ps) ty ρ w K:=
 wS (v:=v) (w':=w) (zcz (by
  have e:(ps.map λ(i,x)=>(i,ev ρ x))=qs:=hp;rw[e];exact hr w)) h
end rules
abbrev cN:=@List.length_map
abbrev cO:=@List.length_append
abbrev cP:=@List.append_assoc
abbrev cQ:=@List.getElem?_eq_some_iff
abbrev cR:=@List.mem_cons_self
abbrev cT:=@Nat.zero_le
abbrev cU:=@Bool.and_eq_true
abbrev cV:=@List.mem_cons_of_mem
abbrev cW:=@Nat.le_refl
abbrev cX:=@Option.some.injEq
abbrev cY:=@List.length_take
abbrev cZ:=@Nat.lt_or_ge
abbrev c6:=@List.take_of_length_le
abbrev c7:=@List.length_drop
abbrev c8:=@List.all_eq_true
abbrev dA:=@List.mem_of_getElem?
abbrev dC:=@List.eq_nil_of_length_eq_zero
abbrev dD:=@List.mem_cons
abbrev dE:=@Nat.le_of_ble_eq_true
abbrev dF:=@List.take_append_drop
abbrev dG:=@List.pairwise_cons
abbrev dH:=@List.length_cons
abbrev dJ:=@List.take_length
abbrev dK:=@ByteArray.size_extract
abbrev dL:=@List.getElem?_eq_getElem
abbrev dM:=@Nat.eq_of_beq_eq_true
abbrev dO:=@List.mem_range
abbrev dQ:=@List.mem_singleton
abbrev dS:=@Nat.zero_add
abbrev dT:=@Prod.mk.injEq
abbrev dU:=@List.map_take
abbrev dV:=@List.map_drop
abbrev dW:=@List.length_pos_iff
abbrev dX:=@List.drop_eq_nil_of_le
abbrev dY:=@List.nil_append
abbrev d5:=@List.getElem?_append_right
abbrev d6:=@List.getD_eq_getElem?_getD
abbrev d7:=@List.pairwise_append
abbrev d8:=@List.drop_zero
abbrev d9:=@List.getElem?_map
abbrev jA:=@Bool.eq_false_or_eq_true
abbrev jB:=@Bool.or_false
abbrev jE:=@Bool.or_eq_false_iff
abbrev jF:=@List.pairwise_iff_getElem
abbrev jG:=@Array.getD_eq_getD_getElem?
abbrev jH:=@List.take_append_of_le_length
abbrev jI:=@Array.getElem?_eq_some_iff
abbrev jJ:=@Bool.or_eq_true
abbrev jK:=@List.flatMap_cons
abbrev jL:=@List.append_nil
abbrev jM:=@Nat.le_trans
abbrev jN:=@List.length_singleton
abbrev jO:=@List.mem_append
abbrev jP:=@Nat.mul_le_mul_right
abbrev jQ:=@Nat.not_lt_zero
abbrev jR:=@Nat.lt_succ_self
abbrev jS:=@List.map_cons
abbrev jT:=@Nat.beq_refl
abbrev jU:=@List.getElem?_eq_none
abbrev jV:=@ByteArray.size_append
abbrev jW:=@List.flatMap_append
abbrev jX:=@List.cons_append
abbrev jY:=@List.any_cons
abbrev jZ:=@List.drop_eq_nil_iff
abbrev j0:=@List.getElem?_take
abbrev j5:=@Nat.add_zero
abbrev j6:=@List.mem_filter
abbrev j7:=@List.range_eq_range'
abbrev j8:=@List.getElem?_drop
abbrev j9:=@Nat.add_mul
abbrev uA:=@Bool.not_eq_true'
abbrev uB:=@List.any_nil
abbrev uC:=@List.length_replicate
abbrev uD:=@Option.some.inj
abbrev uE:=@Nat.eq_zero_or_pos
abbrev uF:=@Nat.lt_of_lt_of_le
abbrev uG:=@List.mem_append_left
abbrev uH:=@List.getElem?_append_left
abbrev uI:=@List.foldl_cons
abbrev uJ:=@List.length_nil
abbrev uK:=@List.mem_append_right
abbrev uL:=@List.mem_map
abbrev uM:=@Bool.and_false
abbrev uN:=@List.length_set
abbrev uO:=@Nat.min_eq_left
abbrev uP:=@UInt8.toNat_inj
abbrev uQ:=@Ne.symm
abbrev uR:=@List.isPrefixOf_iff_prefix
abbrev uS:=@Array.getElem?_eq_getElem
abbrev uT:=@List.drop_eq_getElem_cons
abbrev uU:=@List.mem_of_mem_take
abbrev uV:=@Bool.true_and
abbrev uW:=@List.map_eq_nil_iff
abbrev uX:=@List.drop_left
abbrev uY:=@UInt8.toNat_lt
abbrev uZ:=@Array.toList_inj
abbrev u5:=@Option.map_eq_some_iff
abbrev u6:=@Int.le_refl
abbrev u7:=@List.countP_append
abbrev u9:=@List.map_append
abbrev vA:=@List.foldl_append
abbrev vB:=@List.mem_of_mem_drop
abbrev vC:=@List.perm_middle
abbrev vE:=@List.not_mem_nil
abbrev vF:=@List.tail_suffix
abbrev vG:=@List.replicate_succ
abbrev vH:=@Nat.add_assoc
abbrev vI:=@ByteArray.data_extract
abbrev vJ:=@Array.getElem?_eq_none
abbrev vK:=@List.drop_append_of_le_length
abbrev vL:=@List.countP_eq_length
abbrev vM:=@List.countP_le_length
abbrev vN:=@List.take_take
abbrev vO:=@Nat.le_div_iff_mul_le
abbrev vP:=@Bool.or_true
abbrev vQ:=@Array.toList_extract
abbrev vR:=@Int.tdiv_eq_ediv_of_nonneg
abbrev vT:=@Nat.one_mul
abbrev vU:=@Nat.mul_one
abbrev vV:=@List.mem_map_of_mem
abbrev vW:=@List.take_succ_cons
abbrev vX:=@Array.toList_append
abbrev vY:=@Nat.zero_mul
abbrev vZ:=@Nat.lt_or_gt_of_ne
abbrev wA:=@Nat.mul_comm
abbrev wB:=@Bool.false_eq_true
abbrev wC:=@List.take_left
abbrev wD:=@List.ext_getElem?
abbrev wE:=@List.mem_range'_1
abbrev wF:=@List.all_eq_false
abbrev wG:=@List.getElem_cons_drop
abbrev wH:=@ByteArray.ext
abbrev wI:=@List.range'_succ
abbrev wJ:=@Array.toList_map
abbrev wK:=@List.drop_append
abbrev wL:=@Option.bind_some
abbrev wM:=@Int.natCast_ediv
abbrev wN:=@List.mem_iff_getElem?
abbrev wO:=@Bool.eq_iff_iff
abbrev wP:=@Nat.pow_le_pow_right
abbrev wQ:=@List.take_left'
abbrev aA:=@if_neg
abbrev aB:=@if_pos
abbrev aC:=@of_decide_eq_false
abbrev aD:=@decide_eq_false
abbrev aE:=@decide_eq_true
abbrev aF:=@of_decide_eq_true
abbrev aG:=@congrArg
abbrev aH:=@absurd
abbrev aI:=@decide_eq_true_eq
abbrev aJ:=@decide_eq_false_iff_not
end Lp
