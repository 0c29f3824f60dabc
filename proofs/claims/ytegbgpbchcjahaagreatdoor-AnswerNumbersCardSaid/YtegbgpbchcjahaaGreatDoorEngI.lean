import Derived.Orders
import Derived.Great.BuildSlice
import Derived.Lib.Bytealg
import Derived.Laws.Externs
import Derived.WalkKit
import Derived.ProofKit
import Derived.OpenShut
import Derived.ShutString
import Derived.ChangeOld
import Derived.Below
import Derived.Deep.Slices
import Derived.Test.YtegbgpbchcjahaaGreatDoorEngE
set_option linter.all false
namespace Lp
open Go Go.RowKit
inductive Ent where
 | ex (d:Tmp) (v:Value)
 | op (d:Tmp) (φ:Value->World->Prop)
  | lin (d:Tmp) (φ:Value->World->Prop) (c:Option Nat) (wr:Bool)
def ent (es:List Ent) (i j:Nat):Option Ent:=nth es (i-1-j)
def kn (ρ:Env) (es:List Ent) (i:Nat) (l:Kn):List Nat->Kn
 | []=>l
 | j::r=>match ent es i j with
  | some (.ex d v)=>(d,v)::kn ρ es i l r
  | some (.op d _)=>(d,ρ d)::kn ρ es i l r
  | some (.lin d _ _ _)=>(d,ρ d)::kn ρ es i l r
  | none=>kn ρ es i l r
def zM (ops:List Oper) (i:Nat):List Nat:=
 match nth ops i with
 | some o=>(o.after.toList.filter (Region.binds .any)).map (·.on)
 | none=>[]
def zW (ops:List Oper) (i:Nat):Option Tmp:=
 match nth ops i with
 | some o=>o.dst
 | none=>none
section
variable {P:Program} {N:Nat} {ops:List Oper}
def has (l:List Nat) (k:Nat):Bool:=l.any (λj=>Nat.beq j k)
def has0 (l:List Nat) (k:Nat):Bool:=l.any (λj=>Nat.beq j k)
def keys (l:Kn):List Nat:=l.map (·.1)
def zfF (ops:List Oper):Bool:=(List.range ops.length).all λi=>(zM ops i).all λj=>Nat.blt j i
def ancS (ops:List Oper):Nat->List Nat->List Nat
 | 0,S=>S
 | k+1,S=>ancS ops k (bif has0 S k then S++zM ops k else S)
def zgj (ops:List Oper) (n:Nat):Bool:=(List.range ops.length).all λi=>Nat.blt i n||(List.range i).all λj=>has0 (ancS ops i (zM ops i)) j
def zdo {l:List Nat} {k:Nat} (h:has0 l k=true):k∈l:=by
 unfold has0 at h;rw[List.any_eq_true] at h;obtain ⟨j,hj,e⟩:=h;have:=dM e;subst this;exact hj
def zd7 {ops:List Oper} {p:Nat->Prop} (hd:∀ k,p k->∀ j∈zM ops k,p j):∀ (k:Nat) (S:List Nat),(∀ j∈S,p j)->∀ j∈ancS ops k S,p j
 | 0,S,h=>h
 | k+1,S,h=>by
  refine zd7 hd k _ (λj hj=>?_);cases hk:has0 S k with
  | false=>rw[hk] at hj;exact h j hj
  | true=>
   rw[hk] at hj;rcases jO.1 hj with hj | hj
   · exact h j hj
   exact hd k (h k (zdo hk)) j hj
def aOx (ops:List Oper) (n N:Nat) (l:Kn):Bool:=
 Nat.ble n ops.length&&(List.range n).all λi=>match zW ops i with
  | some d=>Nat.blt d N&&!(keys l).contains d&&(List.range i).all λj=>zW ops j !=some d
  | none=>false
def aQ4 (ops:List Oper) (n N:Nat) (l:Kn):Bool:=zfF ops&&zgj ops n&&aOx ops n N l
def zaE {a b:Nat}:Nat.blt a b=true↔a<b:=by
 constructor
 · intro h;have h':Nat.ble (a+1) b=true:=h;exact dE h'
 intro h;exact Nat.ble_eq_true_of_le h
def cnt (n:Nat) (listed:Array Bool):Nat:=(List.range n).countP λi=>!listed.getD i true
def nE (f:Nat->Bool) (i:Nat) (hf:f i=true):∀ n,i<n->(List.range n).countP (λj=>if j=i then false else f j)+1=(List.range n).countP f
 | 0,h=>by omega
 | n+1,h=>by
  rw[List.range_succ,u7,u7];by_cases e:i=n
  · subst e;have:(List.range i).countP (λj=>if j=i then false else f j)=(List.range i).countP f:=by
     apply List.countP_congr;intro j hj;have:j≠i:=(by have:=dO.1 hj;omega);simp[this]
    rw[this];simp[hf]
  have ih:=nE f i hf n (by omega);have hne:n≠i:=λx=>e x.symm
  simp only[List.countP_singleton,hne,if_false];omega
def zeh {n i:Nat} {listed:Array Bool} (hi:i<n) (hs:listed.size=n) (h:listed.getD i true=false):cnt n (listed.setIfInBounds i true)+1=cnt n listed:=by
 unfold cnt;rw[<-nE (λj=>!listed.getD j true) i (by simp[h]) n hi];congr 1;apply List.countP_congr;intro j hj;by_cases e:j=i
 · subst e;have:j<listed.size:=(by omega);simp[this]
 rw[getD_set_ne true (λx=>e x.symm)];simp[e]
def sU {i j:Nat} {o:Oper} (ho:ops.toArray[i]?=some o):j∈zM ops i↔∃ e∈o.after,Region.binds .any e=true/\e.on=j:=by
 have hn:nth ops i=some o:=by rw[zaH];simpa using ho
 unfold zM;rw[hn];simp only[uL,j6,Array.mem_toList_iff];constructor
 · rintro ⟨e,⟨h1,h2⟩,h3⟩;exact⟨e,h1,h2,h3⟩
 rintro ⟨e,h1,h2,h3⟩;exact⟨e,⟨h1,h2⟩,h3⟩
def zc8 {i:Nat} {listed:Array Bool}:i∈Region.ready .any ops.toArray listed↔listed.getD i true=false/\i<ops.length/\∀ j∈zM ops i,listed.getD j false=true:=by
 rw[mem_ready];constructor
 · rintro ⟨h0,o,ho,h⟩;refine⟨h0,?_,λj hj=>?_⟩
   · have:=(jI.1 ho).1;simpa using this
   obtain ⟨e,h1,h2,rfl⟩:=(sU ho).1 hj;exact h e h1 h2
 rintro ⟨h0,hlt,h⟩;have ho:ops.toArray[i]?=some ops[i]:=by simp[hlt]
 exact⟨h0,ops[i],ho,λe he hb=>h _ ((sU ho).2 ⟨e,he,hb,rfl⟩)⟩
def zdg {listed:Array Bool} {i n:Nat} (hs:listed.size=n) (hi:i<n):listed.getD i true=listed.getD i false:=by
 subst hs;simp[hi]
def zdR {listed:Array Bool} (hs:listed.size=ops.length) (hb:zfF ops=true):∀ (i:Nat),i<ops.length->listed.getD i true=false->Region.ready .any ops.toArray listed≠[]:=by
 intro i
 induction i using Nat.strongRecOn with
 | _ i ih=>
  intro hi h;by_cases hall:∀ j∈zM ops i,listed.getD j false=true
  · intro he;have:i∈Region.ready .any ops.toArray listed:=zc8.2 ⟨h,hi,hall⟩;rw[he] at this;cases this
  obtain ⟨j,hj,hn⟩:=Classical.not_forall.1 hall |>.imp λj hj=>Classical.not_imp.1 hj
  have hlt:j<i:=by
   unfold zfF at hb;rw[c8] at hb;have:=hb i (dO.2 hi);rw[c8] at this;exact zaE.1 (this j hj)
  refine ih j hlt (by omega) ?_;rw[zdg hs (by omega)];simpa using hn
def zbT {Q:Exit->Act->World->Prop} {n:Nat} (hb:zfF ops=true) (ht:zgj ops n=true):∀ (k m:Nat) (listed:Array Bool) (a:Act) (w:World),ops.length-m=k->n<=m->m<=ops.length->listed.size=ops.length->
 (∀ i,i<ops.length->listed.getD i true=decide (i<m))->wpOps P ops.toArray Q (List.range' m (ops.length-m)) a w->∀ fuel,ops.length-m<=fuel->wpAny P .any ops.toArray Q fuel listed a w:=by
 intro k
 induction k with
 | zero=>
  intro m listed a w hk hn hm hs hl h fuel _;have hr:Region.ready .any ops.toArray listed=[]:=by
   apply List.eq_nil_iff_forall_not_mem.2;intro i hi;obtain ⟨h0,h1,_⟩:=zc8.1 hi;rw[hl i h1] at h0;simp at h0;omega
  rw[hk] at h;exact wpAny_done hr h fuel
 | succ k ih=>
  intro m listed a w hk hn hm hs hl h fuel hf;obtain ⟨fuel,rfl⟩:∃ f,fuel=f+1:=⟨fuel-1,by omega⟩;have hml:m<ops.length:=by omega
  rw[hk,wI] at h;rw[wpOps_cons] at h;have honly:∀ i∈Region.ready .any ops.toArray listed,i=m:=by
   intro i hi;obtain ⟨h0,h1,h2⟩:=zc8.1 hi;rw[hl i h1] at h0;simp only[aJ] at h0;rcases cZ m i with hlt | hge
   · exfalso;have hp:m∈ancS ops i (zM ops i):=by
      unfold zgj at ht;rw[c8] at ht;have:=ht i (dO.2 h1);rw[jJ] at this;rcases this with h' | h'
      · have:=zaE.1 h';omega
      rw[c8] at h';exact zdo (h' m (dO.2 hlt))
     have hback:∀ k,k<ops.length->∀ j∈zM ops k,j<k:=by
      intro k hk j hj;unfold zfF at hb;rw[c8] at hb;have:=hb k (dO.2 hk);rw[c8] at this;exact zaE.1 (this j hj)
     have hpre:∀ j∈zM ops i,j<m:=by
      intro j hj;have hjl:j<ops.length:=(by have:=hback i h1 j hj;omega);have:=h2 j hj;rw[<-zdg hs hjl,hl j hjl] at this;simpa using this
     have:=zd7 (p:=λj=>j<m) (λk hk j hj=>by have:=hback k (by omega) j hj;omega) i _ hpre m hp;omega
   omega
  refine⟨λhe=>aH he (zdR hs hb m hml (by rw[hl m hml];simp)),λi hi=>?_⟩;have:=honly i hi;subst this;refine wpOp_mono (λa w h'=>?_) h;refine ih (i+1) _ a w (by omega) (by omega) (by omega) (by simp[hs]) (λj hj=>?_) (by rw[show ops.length-(i+1)=k by omega];exact h') fuel (by omega);by_cases e:i=j
  · subst e;have:i<listed.size:=(by omega);simp[this]
  rw[getD_set_ne true e,hl j hj];rw[wO];simp;omega
def xY {l:List Nat} {k:Nat} (h:has l k=true):k∈l:=by
 unfold has at h;rw[List.any_eq_true] at h;obtain ⟨j,hj,e⟩:=h;have:=dM e;subst this;exact hj
variable {l:Kn} {w:World} {K:Kn->World->Prop} {es:List Ent} {i todo:Nat} {d:Tmp} {op:Op} {ty:TypeId} {pre:List Nat}
end
end Lp
namespace Lp
open Go Go.RowKit
def aWv:Code->Bool | .seq _ _=>true | _=>false
def aBr:Code->Bool | .loop _=>true | _=>false
def zgy:Code->Option Operand | .cond c _ _=>some c | _=>none
def aFr:Code->Option Nat | .block i _=>some i | _=>none
def zgg (c:Code):cd c []=c:=by cases c<;>rfl
def zfK (b:Bool):∀ (p:List Bool) (c:Code),cd c (p++[b])=cd (cd c p) [b]
 | [],c=>by rw[zgg];rfl
 | i::r,c=>by
  have ih:=zfK b r;cases c<;>simp only[jX,cd]<;>first | rfl | (cases i<;>simp only[cond_true,cond_false,ih]) | exact ih _
section
variable {P:Program} {N:Nat} {l:Kn} {w:World} {Q:Ends} {c:Code} {p:List Bool}
variable {ops:List Oper} {K:Env->World->Prop} {i:Nat}
end
def ResV (P:Program) (l:Kn) (w:World):List ResultVar->List Value->Prop
 | [],[]=>True
 | .tmp t::r,v::vs=>look l t=some v/\ResV P l w r vs
 | .cell a t::r,v::vs=>(∃ b o,look l a=some (.pointer (some ⟨b,o,none⟩))/\(loadVar t ⟨b,o,none⟩).run P w=.ok v w)/\ResV P l w r vs
 | _,_=>False
def lK {P:Program} {t b o:Nat} {w:World} {cs:List Value} (hg:∀ w,(isAgg t).run P w=.ok true w) (hs:∀ w,(Go.sizeOf t).run P w=.ok cs.length w) (hc:At w b o cs):(loadVar t ⟨b,o,none⟩).run P w=.ok (.agg cs.toArray) w:=by
 have:=fU P w b o cs hc;simp[loadVar,hg,hs,this]
def aHz:List Value->Value
 | [v]=>v
 | vs=>.tuple vs.toArray
end Lp
namespace Lp
open Go Go.RowKit
def zh {n c:Int} (h:n=c) (hb: -9223372036854775808<=c/\c<=9223372036854775807):IntKind.i64.wrap n=c:=by rw[h];exact w64 hb
def zi {α:Type} (xs:List α) (k:Nat) (h:k<xs.length):∃ x,xs[k]?=some x:=⟨xs[k],dL h⟩
def zS {α:Type} {xs:List α} {k:Nat} {x:α} (h:xs[k]?=some x):xs.take (k+1)=xs.take k++[x]:=by
 rw[List.take_succ_eq_append_getElem (cQ.1 h).1,(cQ.1 h).2]
def aUy {α:Type} {xs:List α} {k:Nat} {x:α} (h:xs[k]?=some x):k<xs.length:=(cQ.1 h).1
def SlT {α:Type} (cs:α->List Value) (z:Nat) (w:World) (lo hi:Nat) (v:Value) (xs:List α):Prop:=Sl w lo hi z v (xs.map cs)
section
variable {α:Type} {cs:α->List Value} {z:Nat} {w w':World} {lo hi:Nat} {v:Value} {xs:List α}
def SlT.at_ (h:SlT cs z w lo hi v xs) {k:Nat} {x:α} (hx:xs[k]?=some x):At w (bl v) (of_ v+k*z) (cs x):=Sl.at_ h (by simp[hx])
def SlT.len (h:SlT cs z w lo hi v xs):Len v xs.length:=by have:=Sl.len h;simpa using this
def SlT.has (h:SlT cs z w lo hi v xs) {k:Nat} (hk:k<xs.length):Has v k:=Sl.has h (by simpa using hk)
def SlT.one (h:SlT cs z w lo hi v xs):v.oneCell'=true:=by
 obtain ⟨A,c,rfl,_⟩:=h;rfl
def SlT.nil (h:hi<=w.heap.size):SlT cs z w lo hi (.slice none 0 0) []:=Sl.nil _ _ _ _ h
def SlT.cut (h:SlT cs z w lo hi v xs) (l k:Nat) (hl:l<=k) (hh:k<=xs.length):SlT cs z w lo hi (cut z v l k) ((xs.take k).drop l):=by
 have:=Sl.cut h l k hl (by simpa using hh);simpa [SlT,dU,dV] using this
def SlT.capOk (h:SlT cs z w lo hi v xs):∃ A c,v=.slice A xs.length c/\xs.length<=c:=by
 obtain ⟨A,c,h1,h2,_⟩:=h;exact⟨A,c,by simpa using h1,by simpa using h2⟩
end
structure Lbl where
 n:Ba
 v:Ba
 deriving DecidableEq
end Lp
namespace Lp
open Go Go.RowKit
def zf5 (z:Nat):List Value->List (List Value)->Prop
 | [],[]=>True
 | v::r,c::cr=>v.cells=c.toArray/\c.length=z/\zf5 z r cr
 | _,_=>False
def zdN {v:Value} (h:v.oneCell'=true):v.cells=[v].toArray:=by cases v<;>first | rfl | cases h
def zf5.size {z:Nat}:∀ {vs:List Value} {cs:List (List Value)},zf5 z vs cs->∀ v∈vs,v.cells.size=z
 | [],[],_,v,hv=>by cases hv
 | v::r,c::cr,⟨h1,h2,h3⟩,u,hu=>by
  cases hu with
  | head=>rw[h1];simpa using h2
  | tail _ hm=>exact zf5.size h3 u hm
def zf5.flat {z:Nat}:∀ {vs:List Value} {cs:List (List Value)},zf5 z vs cs->(vs.flatMap λv=>v.cells.toList)=cs.flatten
 | [],[],_=>rfl
 | v::r,c::cr,⟨h1,h2,h3⟩=>by simp[h1,zf5.flat h3]
section
variable {P:Program} {ty:TypeId} {ρ:Env} {w:World} {K:Value->World->Prop} {l:Kn}
def sR {t e len z:Nat} {ps:Array (Nat×Operand)} {zv:Value} (xs:List Operand) {vs:List Value} (css:List (List Value)) (hk:zai ρ l) (hp:ps.toList=(xs.zipIdx 0).map λx=>(x.2,x.1)) (hv:opvs l xs=some vs)
 (ht:∀ w,(underlying t).run P w=.ok (.slice e) w) (hs:∀ w,(Go.sizeOf e).run P w=.ok z w) (hzv:∀ w,(zeroValue e).run P w=.ok zv w) (hlen:vs.length=len) (hz:Nat.blt 0 z=true) (hsm:Nat.ble (len*z) 1000=true) (hl0:Nat.blt 0 len=true)
 (hcs:zf5 z vs css) (h:∀ g w',New w w' g e css.flatten->K (.slice (some ⟨g,0,none⟩) len len) w'):EOp P (.buildSlice t len ps) ty ρ w K:=by
 have hz':0<z:=zaE.1 hz;have hl':0<len:=zaE.1 hl0;have hsm':=dE hsm;have hpos:0<len*z:=Nat.mul_pos hl' hz';refine wS (v:=.slice (some ⟨w.heap.size,0,none⟩) len len) (w':=w.alloc (.cells css.flatten.toArray e)) (zcz ?_) (h _ _ ?_)
 · have e1:(ps.map λ(i,x)=>(i,ev ρ x)).toList=(vs.zipIdx 0).map λx=>(x.2,x.1):=by
    rw[wJ,hp,List.map_map,<-hk.ops hv];simp[List.zipIdx_map,List.map_map,Function.comp_def]
   have hf:=Great.fill_whole hz' vs ((Array.range (len*z)).map (zv.cells[· % zv.cells.size]!)) (λv hv'=>hcs.size v hv') (by simp[hlen]);rw[hcs.flat] at hf;simp only[Instr.buildSlice,Sem.run_bind,ht,Result.andThen_ok,hs];rw[aA (by omega),aA (by omega)];simp only[Sem.run_bind,hzv,Result.andThen_ok,Sem.run_pure,e1,hf];simp[newRow]
 have:=wT w e css.flatten.toArray;simpa using this
def aY2 {f:FuncId} {args:Array Operand} {ats:Array TypeId} {vs:List Value} {v:Value} (hk:zai ρ l) (hargs:opvs l args.toList=some vs)
 (hc:∀ w,(callFunc f vs.toArray).run P w=.ok (.value v) w) (h:K v w):EOp P (.call { callee:=.value (.func f),args:=args,argTypes:=ats }) ty ρ w K:=by
 have e1:args.map (ev ρ)=vs.toArray:=by
  apply Array.ext';rw[wJ,hk.ops hargs]
 exact wS (v:=v) (w':=w) (by simp[execOp,zao,resolve,ev,Deferred.ofValue,invoke,hc,e1]) h
def Own {α:Type} (cs:α->List Value) (z:Nat) (E:TypeId) (w:World) (base:Nat) (v:Value) (xs:List α):Prop:=
 w.ownsRow base E z v xs.length (xs.flatMap cs)/\∀ x∈xs,(cs x).length=z
variable {α:Type} {cs:α->List Value} {z:Nat} {E:TypeId} {base:Nat} {v:Value} {xs:List α} {w':World}
def zdp {n:Nat} (hz:∀ x∈xs,(cs x).length=n):∀ (i:Nat) (x:α),xs[i]?=some x->∀ j u,(cs x)[j]?=some u->(xs.flatMap cs)[i*n+j]?=some u:=by
 induction xs with
 | nil=>intro i x h;simp at h
 | cons y r ih=>
  intro i x hx j u hu;rw[jK];cases i with
  | zero=>
   simp at hx;subst hx;rw[vY,dS,uH (by exact(cQ.1 hu).1)];exact hu
  | succ i=>
   have hy:=hz y cR;rw[d5 (by rw[hy,j9];omega),hy,show (i+1)*n+j-n=i*n+j by rw[j9];omega];exact ih (λx hx=>hz x (cV _ hx)) i x (by simpa using hx) j u hu
def Own.sl (h:Own cs z E w base v xs):SlT cs z w base w.heap.size v xs:=by
 obtain ⟨h,hz⟩:=h;rcases h.2 with ⟨rfl,h0⟩ | ⟨g,cap,cur,rfl,hb,hg,hnc,_,hsz,htake⟩
 · have:xs=[]:=dC h0;subst this;exact SlT.nil (cW _)
 have hlt:g<w.heap.size:=(jI.1 hg).1;refine⟨_,cap,by simp,by simpa using hnc,?_,λ_=>⟨g,0,rfl,hb,hlt,λi x hx=>⟨hlt,λj u hu=>?_⟩⟩,cW _⟩
 · intro x hx;obtain ⟨y,hy,rfl⟩:=uL.1 hx;exact hz y hy
 rw[d9] at hx;obtain ⟨y,hy,rfl⟩:=u5.1 hx;rw[cell_of_row w g _ cur E (0,0) hg];have:=zdp hz i y hy j u hu;rw[<-htake,j0] at this;split at this
 · simpa using this
 cases this
def Own.lt (h:Own cs z E w base v xs) {g:Nat} (hg:v.ownBlock=some g):base<=g/\g<w.heap.size:=h.1.lt g hg
def Own.nil (w:World) (base:Nat):Own cs z E w base (.slice none 0 0) []:=⟨World.ownsRow_nil w base E z,by simp⟩
def Own.one (h:Own cs z E w base v xs):v.oneCell'=true:=h.sl.one
def Own.len (h:Own cs z E w base v xs):Len v xs.length:=h.sl.len
def Box.own {g:Nat} {cc:List Value} (h:Box w g E cc) (hb:base<=g) (hc:cc=xs.flatMap cs) (hz:∀ x∈xs,(cs x).length=z) (hm:xs.length<=maxLen):Own cs z E w base (.slice (some ⟨g,0,none⟩) xs.length xs.length) xs:=by
 subst hc;have hl:(xs.flatMap cs).length=xs.length*z:=by
  clear h hm
  induction xs with
  | nil=>simp
  | cons y r ih=>rw[jK,cO,hz y cR,ih (λx hx=>hz x (cV _ hx)),dH,j9];omega
 refine⟨⟨hl,.inr ⟨g,xs.length,_,rfl,hb,h,cW _,hm,by simpa using hl,?_⟩⟩,hz⟩;simp only;rw[<-hl,dJ]
def SlT.cell_flat {lo hi:Nat} (h:SlT cs z w lo hi v xs) {b o n c:Nat} (hv:v=.slice (some ⟨b,o,none⟩) n c):∀ j u,(xs.flatMap cs)[j]?=some u->w.cell? ⟨b,o+j,none⟩=some u:=by
 obtain ⟨A,c',h1,h2,h3,h4,_⟩:=h;intro j u hu;have hz':∀ x∈xs,(cs x).length=z:=λx hx=>h3 _ (uL.2 ⟨x,hx,rfl⟩)
 have hne:xs≠[]:=by rintro rfl;simp at hu
 obtain ⟨b2,o2,e1,e2,e3,e4⟩:=h4 (by simpa using hne);rw[h1,e1] at hv;injection hv with hv1 _ _;injection hv1 with hv1;injection hv1 with hb ho _;subst hb;subst ho;have key:∀ (ys:List α) (i0:Nat),(∀ x∈ys,(cs x).length=z)->(∀ i x,ys[i]?=some x->xs[i0+i]?=some x)->∀ j u,(ys.flatMap cs)[j]?=some u->w.cell? ⟨b2,o2+(i0*z+j),none⟩=some u:=by
  intro ys
  induction ys with
  | nil=>intro i0 _ _ j u hu;simp at hu
  | cons y r ih=>
   intro i0 hzz hx j u hu;rw[jK] at hu;have hy:=hzz y cR;by_cases hj:j<z
   · rw[uH (by omega)] at hu;have hat:=e4 i0 (cs y) (by have h0:=hx 0 y (by simp);rw[j5] at h0;rw[d9,h0];rfl);have:=hat.2 j u hu;rw[<-vH];exact this
   rw[d5 (by omega),hy] at hu;have:=ih (i0+1) (λx hx=>hzz x (cV _ hx)) (λi x hi=>by have:=hx (i+1) x (by simpa using hi);rw[show i0+1+i=i0+(i+1) by omega];exact this) (j-z) u hu;rw[show o2+(i0*z+j)=o2+((i0+1)*z+(j-z)) by rw[j9];omega];exact this
 have:=key xs 0 hz' (λi x hi=>by simpa using hi) j u hu;simpa using this
def aGh {t ty':TypeId} {x y:Operand} {s:Value} {ys:List α} {lo hi bytes:Nat} {zv:Value} (hk:zai ρ l) (hx:opv l x=some v) (hy:opv l y=some s) (ht:P.underlying t=some (.slice E))
 (hi':∃ i,P.info? E=some i/\i.zero=some zv/\i.size=z/\i.bytes=bytes) (hzs:zv.cells.size=z) (hsz:0<z)
 (hown:Own cs z E w base v xs) (hs:SlT cs z w lo hi s ys) (h1:∀ x∈ys,zcv (cs x)) (hlen:xs.length+ys.length<=maxLen) (hbytes:(xs.length+ys.length)*bytes<=140737488355328) (hbase:base<=w.heap.size)
 (h:∀ v' w',Own cs z E w' base v' (xs++ys)->(∃ a b,Upd a b w w'/\((a=0/\b=0)\/(v.ownBlock=some a/\b=a+1/\base<=a)))->(v'.ownBlock=v.ownBlock\/v'.ownBlock=some w.heap.size)->(Builtin.append_ #[t,t] ty' #[v,s]).run P w=.ok v' w'->K v' w'):
 EOp P (.call { callee:=.builtin .append,args:=#[x,y],argTypes:=#[t,t] }) ty' ρ w K:=by
 obtain ⟨i,i1,i2,i3,i4⟩:=hi';have hs':=hs;obtain ⟨A,c,e1,e2,e3,e4,_⟩:=hs;simp only[cN] at e1 e2;have hz':∀ x∈ys,(cs x).length=z:=λx hx=>e3 _ (uL.2 ⟨x,hx,rfl⟩)
 have hfl:(ys.flatMap cs).length=ys.length*z:=by
  clear e4 e1 e2 e3 hbytes hlen hs' h
  induction ys with
  | nil=>simp
  | cons y r ih=>rw[jK,cO,hz' y cR,ih (λx hx=>h1 x (cV _ hx)) (λx hx=>hz' x (cV _ hx)),dH,j9];omega
 have hall:∀ u∈ys.flatMap cs,u.oneCell'=true:=by
  intro u hu;obtain ⟨y,hy,huy⟩:=List.mem_flatMap.1 hu;exact(h1 y hy).all u huy
 have hup:∀ {w'},w.grownBy w' v.ownBlock->Dr w w'->∃ a b,Upd a b w w'/\((a=0/\b=0)\/(v.ownBlock=some a/\b=a+1/\base<=a)):=by
  intro w' hg hd;cases hv:v.ownBlock with
  | none=>exact⟨0,0,⟨hg.os,hg.tape,hg.output,hg.size,λk hk _=>hg.block k hk (by rw[hv];simp),hd⟩,.inl ⟨rfl,rfl⟩⟩
  | some g=>exact⟨g,g+1,⟨hg.os,hg.tape,hg.output,hg.size,λk hk hh=>hg.block k hk (by rw[hv];simp;omega),hd⟩,.inr ⟨rfl,rfl,(hown.lt hv).1⟩⟩
 have hrun:∃ v' w',(Builtin.append_ #[t,t] ty' #[v,s]).run P w=.ok v' w'/\Own cs z E w' base v' (xs++ys)/\w.grownBy w' v.ownBlock/\(v'.ownBlock=v.ownBlock\/v'.ownBlock=some w.heap.size):=by
  cases A with
  | none=>
   have hy0:ys=[]:=by
    rcases uE ys.length with h0 | h0
    · exact dC h0
    obtain ⟨b,o,hh,_⟩:=e4 (by intro e;simp at e;subst e;simp at h0);cases hh
   subst hy0;refine⟨v,w,?_,by simpa using hown,World.grownBy.refl w _,.inl rfl⟩;subst e1;rcases hown.1.2 with ⟨rfl,h0⟩ | ⟨g,cap,cur,rfl,_,_,hnc,_⟩
   · simp[Builtin.append_,run_underlying ht,Go.sizeOf,typeInfo,i1,Builtin.lenOf,Builtin.firstCells]
   simp[Builtin.append_,run_underlying ht,Go.sizeOf,typeInfo,i1,Builtin.lenOf,Builtin.firstCells,hnc,storeCells]
  | some ad=>
   have hcells:∀ j u,(ys.flatMap cs)[j]?=some u->w.cell? (ad.add j)=some u:=by
    intro j u hu;obtain ⟨b,o,hh,_⟩:=e4 (by intro e;simp at e;subst e;simp at hu);injection hh with hh;subst hh;have ha:(⟨b,o,none⟩:Addr).add j=⟨b,o+j,none⟩:=(by cases j<;>simp[Addr.add]);rw[ha];exact hs'.cell_flat e1 j u hu
   obtain ⟨v',w',r1,r2,r3,_,r5⟩:=run_append_own_at (P:=P) w base t ty' E i zv z bytes ht i1 i2 i3 i4 hzs hsz v xs.length (xs.flatMap cs) hown.1 ad ys.length c (ys.flatMap cs) hfl hcells hall hlen hbytes hbase;refine⟨v',w',by rw[e1];exact r1,⟨?_,?_⟩,r3,r5⟩
   · rw[cO,jW];exact r2
   intro x hx;rcases jO.1 hx with hx | hx
   · exact hown.2 x hx
   exact hz' x hx
 obtain ⟨v',w',r1,r2,r3,r4⟩:=hrun;refine wS (v:=v') (w':=w') ?_ (h v' w' r2 (hup r3 (Dr.run r1)) r4 r1);simp[execOp,zao,resolve,invoke,builtin,hk.op hx,hk.op hy,r1]
def aNu {t ty':TypeId} {x y:Operand} {s:Value} {ys:List α} {lo hi bytes:Nat} {zv:Value} (hk:zai ρ l) (hx:opv l x=some v) (hy:opv l y=some s) (ht:P.underlying t=some (.slice E))
 (hi':∃ i,P.info? E=some i/\i.zero=some zv/\i.size=z/\i.bytes=bytes) (hzs:zv.cells.size=z) (hsz:0<z)
 (hown:Own cs z E w base v xs) (hs:SlT cs z w lo hi s ys) (h1:∀ x∈ys,zcv (cs x)) (hlen:xs.length+ys.length<=maxLen) (hbytes:(xs.length+ys.length)*bytes<=140737488355328) (hbase:base<=w.heap.size)
 (h:∀ v' w',Own cs z E w' base v' (xs++ys)->(∃ a b,Upd a b w w'/\((a=0/\b=0)\/(v.ownBlock=some a/\b=a+1/\base<=a)))->(v'.ownBlock=v.ownBlock\/v'.ownBlock=some w.heap.size)->K v' w'):
 EOp P (.call { callee:=.builtin .append,args:=#[x,y],argTypes:=#[t,t] }) ty' ρ w K:=by
 exact aGh hk hx hy ht hi' hzs hsz hown hs h1 hlen hbytes hbase (λv' w' a b c _=>h v' w' a b c)
end
def cmpL:List UInt8->List UInt8->Int:=Lib.compareBytes
def cmpS (a b:Ba):Int:=cmpL a.data.toList b.data.toList
def lZ:∀ a b:List UInt8,cmpL a b= -1\/cmpL a b=0\/cmpL a b=1
 | [],[]=>.inr (.inl rfl)
 | [],_::_=>.inl rfl
 | _::_,[]=>.inr (.inr rfl)
 | a::aq,b::bs=>by
  show (if a<b then(-1:Int) else if b<a then 1 else cmpL aq bs)=_\/(if a<b then(-1:Int) else if b<a then 1 else cmpL aq bs)=_\/(if a<b then(-1:Int) else if b<a then 1 else cmpL aq bs)=_;split
  · simp
  split
  · simp
  exact lZ aq bs
def aAq:∀ a b:List UInt8,cmpL b a= - cmpL a b
 | [],[]=>rfl
 | [],_::_=>rfl
 | _::_,[]=>rfl
 | a::aq,b::bs=>by
  show (if b<a then(-1:Int) else if a<b then 1 else cmpL bs aq)= - (if a<b then(-1:Int) else if b<a then 1 else cmpL aq bs);have ih:=aAq aq bs;by_cases h1:a<b
  · have h2:¬b<a:=λh=>by have:=UInt8.lt_asymm h1 h;exact this
    simp[h1,h2]
  by_cases h2:b<a
  · simp[h1,h2]
  simp[h1,h2,ih]
def aFp:∀ a b:List UInt8,cmpL a b=0↔a=b
 | [],[]=>by simp[cmpL,Lib.compareBytes]
 | [],_::_=>by simp[cmpL,Lib.compareBytes]
 | _::_,[]=>by simp[cmpL,Lib.compareBytes]
 | a::aq,b::bs=>by
  show (if a<b then(-1:Int) else if b<a then 1 else cmpL aq bs)=0↔_;have ih:=aFp aq bs;by_cases h1:a<b
  · simp only[h1,if_true];constructor
    · intro h;omega
    intro h;injection h with h _;subst h;exact aH h1 (UInt8.lt_irrefl _)
  by_cases h2:b<a
  · simp only[h1,h2,if_true,if_false];constructor
    · intro h;omega
    intro h;injection h with h _;subst h;exact aH h2 (UInt8.lt_irrefl _)
  have:a=b:=UInt8.le_antisymm (UInt8.not_lt.1 h2) (UInt8.not_lt.1 h1);subst this;simp only[h1,if_false,ih];simp
def nL:∀ a b c:List UInt8,cmpL a b<=0->cmpL b c<=0->cmpL a c<=0
 | [],_,[],_,_=>by decide
 | [],_,_::_,_,_=>by show (-1:Int)<=0;omega
 | _::_,[],_,h,_=>by exfalso;have:(1:Int)<=0:=h;omega
 | _::_,_::_,[],_,h=>by exfalso;have:(1:Int)<=0:=h;omega
 | a::aq,b::bs,c::cs,h1,h2=>by
  have h1':(if a<b then(-1:Int) else if b<a then 1 else cmpL aq bs)<=0:=h1;have h2':(if b<c then(-1:Int) else if c<b then 1 else cmpL bs cs)<=0:=h2;show (if a<c then(-1:Int) else if c<a then 1 else cmpL aq cs)<=0;by_cases e1:a<c
  · simp[e1]
  by_cases e2:c<a
  · exfalso;by_cases f1:a<b
    · have g1:¬b<c:=λh=>e1 (UInt8.lt_trans f1 h)
      by_cases g2:c<b
      · simp[g1,g2] at h2'
      have:b=c:=UInt8.le_antisymm (UInt8.not_lt.1 g2) (UInt8.not_lt.1 g1);subst this;exact e1 f1
    by_cases f2:b<a
    · simp[f1,f2] at h1'
    have:a=b:=UInt8.le_antisymm (UInt8.not_lt.1 f2) (UInt8.not_lt.1 f1);subst this;simp[e1,e2] at h2'
  have hac:a=c:=UInt8.le_antisymm (UInt8.not_lt.1 e2) (UInt8.not_lt.1 e1);subst hac;simp only[e1,if_false];by_cases f1:a<b
  · have f2:¬b<a:=λh=>UInt8.lt_asymm f1 h
    simp[f1,f2] at h2'
  by_cases f2:b<a
  · simp[f1,f2] at h1'
  simp[f1,f2] at h1' h2';exact nL aq bs cs h1' h2'
def fD (a b:Ba):cmpS a b= -1\/cmpS a b=0\/cmpS a b=1:=lZ _ _
def zfo (a b:Ba):cmpS b a= - cmpS a b:=aAq _ _
def zcY (a b:Ba):cmpS a b=0↔a=b:=by
 unfold cmpS;rw[aFp];constructor
 · intro h;exact wH (Array.ext' h)
 rintro rfl;rfl
def aDj (a b c:Ba) (h1:cmpS a b<=0) (h2:cmpS b c<=0):cmpS a c<=0:=nL _ _ _ h1 h2
def fA:∀ a b:List UInt8,Op.bytesLess a b=decide (cmpL a b<0)
 | [],[]=>rfl
 | [],_::_=>rfl
 | _::_,[]=>rfl
 | a::aq,b::bs=>by
  have ih:=fA aq bs;show (decide (a<b)||(a==b&&Op.bytesLess aq bs))=decide ((if a<b then(-1:Int) else if b<a then 1 else cmpL aq bs)<0);by_cases h1:a<b
  · simp[h1]
  by_cases h2:b<a
  · have:(a==b)=false:=(by simp;rintro rfl;exact UInt8.lt_irrefl _ h2);simp[h1,h2,this]
  have:a=b:=UInt8.le_antisymm (UInt8.not_lt.1 h2) (UInt8.not_lt.1 h1);subst this;simp[h1,ih]
section
variable {P:Program} {ty:TypeId} {ρ:Env} {w:World} {K:Value->World->Prop} {l:Kn}
def a1b {t t':TypeId} {x y:Operand} {a b:Ba} (hk:zai ρ l) (hx:opv l x=some (.string a)) (hy:opv l y=some (.string b)) {c:Bool} (hc:(decide (cmpS a b<0))=c) (h:K (.bool c) w):EOp P (.binOp .lss t x y t') ty ρ w K:=
 zcb hk hx hy (λw=>by simp[eqGuard_at_string,binOp,Op.stringOp,ByteArray.toList_eq,fA,cmpS];exact decide_eq_decide.2 Iff.rfl) (hc ▸ h)
def a0y {t t':TypeId} {x y:Operand} {a b:Ba} (hk:zai ρ l) (hx:opv l x=some (.string a)) (hy:opv l y=some (.string b)) {c:Bool} (hc:(decide (0<cmpS a b))=c) (h:K (.bool c) w):EOp P (.binOp .gtr t x y t') ty ρ w K:=
 zcb hk hx hy (λw=>by
  have h1:=fD a b;have h2:=zcY a b;have e:(!(Op.bytesLess a.toList b.toList||a.toList==b.toList))=decide (0<cmpS a b):=by
   rw[fI,ByteArray.toList_eq,ByteArray.toList_eq,fA];show (!(decide (cmpS a b<0)||decide (a=b)))=_;rw[wO];simp;constructor
   · rintro ⟨p,q⟩;rw[<-h2] at q;omega
   intro p;exact⟨by omega,λq=>by rw[<-h2] at q;omega⟩
  simp[eqGuard_at_string,binOp,Op.stringOp];simpa using e) (hc ▸ h)
end
end Lp
namespace Lp
open Go Go.RowKit
def aS0 {cs r:List Value} {o:Nat} {vs:List Value} (h:o+vs.length<=cs.length):spl (cs++r) o vs=spl cs o vs++r:=by
 unfold spl;rw[jH (by omega),vK (by omega)];simp
def zdf {P:Program} {E:TypeId} {zv:Value} {z b:Nat} (h:(P.info? E).map (λi=>(i.zero,i.size,i.bytes))=some (some zv,z,b)):∃ i,P.info? E=some i/\i.zero=some zv/\i.size=z/\i.bytes=b:=by
 obtain ⟨i,h1,h2⟩:=u5.1 h;simp only[dT] at h2;exact⟨i,h1,h2.1,h2.2.1,h2.2.2⟩
section
variable {α:Type} {cs:α->List Value} {z:Nat} {E:TypeId} {base:Nat} {v:Value} {xs:List α} {w w':World}
def zcQ (hz:∀ x∈xs,(cs x).length=z):(xs.flatMap cs).length=xs.length*z:=by
 induction xs with
 | nil=>simp
 | cons y r ih=>rw[jK,cO,hz y cR,ih (λx hx=>hz x (cV _ hx)),dH,j9];omega
def aMa (hz:∀ x∈xs,(cs x).length=z) {d:α} (hd:(cs d).length=z):∀ {k:Nat},k<xs.length->spl (xs.flatMap cs) (k*z) (cs d)=(xs.set k d).flatMap cs:=by
 induction xs with
 | nil=>intro k h;simp at h
 | cons y r ih=>
  have hy:=hz y cR;intro k hk;cases k with
  | zero=>
   rw[List.set_cons_zero,jK,jK];unfold spl;rw[vY,List.take_zero,dS,hd,dY,<-hy,uX]
  | succ k=>
   have:=ih (λx hx=>hz x (cV _ hx)) (by simpa using hk);rw[List.set_cons_succ,jK,jK,<-this];unfold spl;rw[show (k+1)*z=(cs y).length+k*z by rw[hy,j9];omega,List.take_append,show (cs y).length+k*z+(cs d).length=(cs y).length+(k*z+(cs d).length) by omega,wK];rw[c6 (by omega),dX (by omega)];simp
def Own.form (h:Own cs z E w base v xs) (hn:0<xs.length):∃ cap r,v=.slice (some ⟨bl v,0,none⟩) xs.length cap/\base<=bl v/\Box w (bl v) E (xs.flatMap cs++r)/\xs.length<=cap/\cap<=maxLen/\(xs.flatMap cs++r).length=cap*z:=by
 rcases h.1.2 with ⟨_,h0⟩ | ⟨g,cap,cur,rfl,hb,hg,hnc,hm,hsz,htake⟩
 · omega
 refine⟨cap,cur.toList.drop (xs.length*z),rfl,hb,?_,hnc,hm,?_⟩
 · unfold Box;rw[<-htake,dF];simpa [bl] using hg
 rw[<-htake,dF];simpa using hsz
def Own.block (h:Own cs z E w base v xs) (hn:0<xs.length):base<=bl v/\bl v<w.heap.size/\of_ v=0/\v.ownBlock=some (bl v):=by
 obtain ⟨cap,r,e,hb,hB,_⟩:=h.form hn;refine⟨hb,hB.lt,?_,?_⟩
 · rw[e];rfl
 rw[e];rfl
end
end Lp
namespace Lp
open Go Go.RowKit
section
variable {H:Type} {enc:TypeId×Value->H} {P:Program} {w:World} {held:Bool} {sp:Nat->Bool}
def lV {a:Addr} {i:Nat} {v:Value} (h:w.cell? (a.add i)=some v):a.add i=⟨a.block,a.off+i,none⟩/\(i=0->a.spot=none)/\a.block<w.heap.size:=by
 have hblk:(a.add i).block=a.block:=by unfold Addr.add;split<;>rfl
 have hspot:(a.add i).spot=none:=by
  cases hsp:(a.add i).spot with
  | none=>rfl
  | some s=>
   simp only[World.cell?] at h;split at h
   · simp[hsp] at h
   cases h
 refine⟨?_,?_,?_⟩
 · unfold Addr.add at hspot ⊢;split
   · rename_i h0;subst h0;rw[aB rfl] at hspot;cases a
     simp_all
   rfl
 · rintro rfl;simpa [Addr.add] using hspot
 rw[<-hblk];simp only[World.cell?] at h;split at h
 · rename_i hb;exact(jI.1 hb).1
 cases h
open Go.ChangeShapes Go.Deep in
def aRv {α:Type} [Inhabited α] {cs:α->List Value} {z:Nat} {t e:TypeId} {fuel:Nat} {vs:List Value} {x:DataW H×List MemPlace} (Q:α->Prop) (ht:P.underlying t=some (.slice e)) (hz:P.cellsOf e=z) (hz0:0<z)
 (h:DataW.trod enc P w 0 sp held fuel t vs=some x)
 (el:∀ n cs' y,DataW.trod enc P w 0 sp held n e cs'=some y->∃ d:α,cs'=cs d/\(cs d).length=z/\Q d):
 ∃ v xs,vs=[v]/\SlT cs z w 0 w.heap.size v xs/\(∀ d∈xs,Q d)/\xs.length<=maxLen:=by
 rcases open_slice ht h with ⟨rfl,_⟩ | ⟨a,len,cap,m,n,D,Pl,rfl,_,hl,hm,hmm,_,hx⟩
 · exact⟨_,[],rfl,SlT.nil (cW _),by simp,by simp⟩
 have hlm:len<=m:=by rw[hmm];split<;>omega
 obtain ⟨f,hf⟩:=choose_lt (α:=α) (n:=len) (p:=λi d=>w.cells? 0 (a.add (i*z)) z=some (cs d)/\(cs d).length=z/\Q d) (λi hi=>by
  obtain ⟨cs',h1,h2⟩:=hx i (by omega);obtain ⟨d,rfl,h3,h4⟩:=el _ _ _ h2;rw[hz] at h1;exact⟨d,h1,h3,h4⟩)
 have hlen:((List.range len).map f).length=len:=by simp
 refine⟨_,(List.range len).map f,rfl,?_,?_,by rw[hlen];omega⟩
 · refine⟨some a,cap,by simp,by simpa using hl,?_,λhne=>?_,cW _⟩
   · intro y hy;simp only[uL,dO] at hy;obtain ⟨d,⟨i,hi,rfl⟩,rfl⟩:=hy;exact(hf i hi).2.1
   have hl0:0<len:=by
    rcases uE len with h0 | h0
    · subst h0;simp at hne
    exact h0
   obtain ⟨c1,c2,c3⟩:=World.cells?_some (hf 0 hl0).1;have hc0:=c3 0 hz0;have:((cs (f 0))[0]?).isSome:=(by rw[dL (by omega)];rfl);obtain ⟨u,hu⟩:=Option.isSome_iff_exists.1 this;rw[hu] at hc0;simp only[vY] at hc0;have ha0:a.add 0=a:=(by simp[Addr.add]);rw[ha0,ha0] at hc0;obtain ⟨p1,p2,p3⟩:=lV (a:=a) (i:=0) (by rw[ha0];exact hc0);rw[ha0] at p1;refine⟨a.block,a.off,by rw[j5] at p1;exact aG some p1,cT _,p3,λi y hy=>?_⟩;simp only[d9,Option.map_map] at hy;have hi:i<len:=by
    rcases cZ i len with e | e
    · exact e
    rw[jU (by simpa using e)] at hy;cases hy
   rw[List.getElem?_range hi] at hy;simp at hy;subst hy;refine⟨p3,λj u hu=>?_⟩;obtain ⟨d1,d2,d3⟩:=World.cells?_some (hf i hi).1;have hj:j<z:=(by rw[<-(hf i hi).2.1];exact(cQ.1 hu).1);have hc:=d3 j hj;rw[hu,add_add] at hc;rw[(lV hc).1] at hc;rw[vH];exact hc
 intro d hd;simp only[uL,dO] at hd;obtain ⟨i,hi,rfl⟩:=hd;exact(hf i hi).2.2
open Go.ChangeShapes Go.Deep in
def aGy {t:TypeId} {f0 f1:Field} {n:Nat} {cs:List Value} {y:DataW H×List MemPlace} (ht:P.underlying t=some (.struct #[f0,f1])) (o0:f0.offset=0) (o1:f1.offset=1) (c0:P.cellsOf f0.type=1) (c1:P.cellsOf f1.type=1) (cc:P.cellsOf t=2)
 (h:DataW.trod enc P w 0 sp held n t cs=some y):∃ a b y0 y1 m,cs=[a,b]/\DataW.trod enc P w 0 sp held m f0.type [a]=some y0/\DataW.trod enc P w 0 sp held m f1.type [b]=some y1:=by
 obtain ⟨y0,y1,m,_,h2,h3,h4⟩:=trod_struct2 ht h;rw[cc] at h2;rw[o0,c0] at h3;rw[o1,c1] at h4
 match cs,h2 with
 | [a,b],_=>exact⟨a,b,y0,y1,m,rfl,by simpa using h3,by simpa using h4⟩
end
end Lp
