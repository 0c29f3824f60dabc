import Derived.Orders
import Derived.Great.BuildSlice
import Derived.Lib.Bytealg
import Derived.Laws.Externs
import Derived.Test.YtheccaeefigajaaGreatDoorEngE
set_option linter.unusedSimpArgs false
set_option linter.unusedVariables false
namespace Lp
open Go Go.RowKit
inductive Ent where
 | ex (d:Tmp) (v:Value)
 | op (d:Tmp) (φ:Value->World->Prop)
  | lin (d:Tmp) (φ:Value->World->Prop) (c:Option Nat) (wr:Bool)
def ent (es:List Ent) (i j:Nat):Option Ent:=nth es (i-1-j)
def kn (ρ:Env) (es:List Ent) (i:Nat) (l:Kn):List Nat->Kn
 | []=>l
 | j::r=>match ent es i j with
  | some (.ex d v)=>(d,v)::kn ρ es i l r
  | some (.op d _)=>(d,ρ d)::kn ρ es i l r
  | some (.lin d _ _ _)=>(d,ρ d)::kn ρ es i l r
  | none=>kn ρ es i l r
def zad (ops:List Oper) (i:Nat):List Nat:=
 match nth ops i with
 | some o=>(o.after.toList.filter (Region.binds .any)).map (·.on)
 | none=>[]
def zax (ops:List Oper) (i:Nat):Option Tmp:=
 match nth ops i with
 | some o=>o.dst
 | none=>none
section
variable {P:Program} {N:Nat} {ops:List Oper}
def has (l:List Nat) (k:Nat):Bool:=l.any (λj=>Nat.beq j k)
def has0 (l:List Nat) (k:Nat):Bool:=l.any (λj=>Nat.beq j k)
def keys (l:Kn):List Nat:=l.map (·.1)
def zfR (ops:List Oper):Bool:=(List.range ops.length).all λi=>(zad ops i).all λj=>Nat.blt j i
def ancS (ops:List Oper):Nat->List Nat->List Nat
 | 0,S=>S
 | k+1,S=>ancS ops k (bif has0 S k then S++zad ops k else S)
def zgj (ops:List Oper) (n:Nat):Bool:=(List.range ops.length).all λi=>Nat.blt i n||(List.range i).all λj=>has0 (ancS ops i (zad ops i)) j
theorem zdX {l:List Nat} {k:Nat} (h:has0 l k=true):k∈l:=by
 unfold has0 at h;rw[uS] at h;obtain ⟨j,hj,e⟩:=h;have:=dS e;subst this;exact hj
theorem zeE {ops:List Oper} {p:Nat->Prop} (hd:∀ k,p k->∀ j∈zad ops k,p j):∀ (k:Nat) (S:List Nat),(∀ j∈S,p j)->∀ j∈ancS ops k S,p j
 | 0,S,h=>h
 | k+1,S,h=>by
  refine zeE hd k _ (λj hj=>?_);cases hk:has0 S k with
  | false=>rw[hk] at hj;exact h j hj
  | true=>
   rw[hk] at hj;rcases jV.1 hj with hj | hj
   · exact h j hj
   exact hd k (h k (zdX hk)) j hj
def aR1 (ops:List Oper) (n N:Nat) (l:Kn):Bool:=
 Nat.ble n ops.length&&(List.range n).all λi=>match zax ops i with
  | some d=>Nat.blt d N&&!(keys l).contains d&&(List.range i).all λj=>zax ops j !=some d
  | none=>false
def aVo (ops:List Oper) (n N:Nat) (l:Kn):Bool:=zfR ops&&zgj ops n&&aR1 ops n N l
theorem zaS {a b:Nat}:Nat.blt a b=true↔a<b:=by
 constructor
 · intro h;have h':Nat.ble (a+1) b=true:=h;exact dV h'
 intro h;exact Nat.ble_eq_true_of_le h
def cnt (n:Nat) (listed:Array Bool):Nat:=(List.range n).countP λi=>!listed.getD i true
theorem lN (f:Nat->Bool) (i:Nat) (hf:f i=true):∀ n,i<n->(List.range n).countP (λj=>if j=i then false else f j)+1=(List.range n).countP f
 | 0,h=>by omega
 | n+1,h=>by
  rw[List.range_succ,vQ,vQ];by_cases e:i=n
  · subst e;have:(List.range i).countP (λj=>if j=i then false else f j)=(List.range i).countP f:=by
     apply List.countP_congr;intro j hj;have:j≠i:=(by have:=dX.1 hj;omega);simp[this]
    rw[this];simp[hf]
  have ih:=lN f i hf n (by omega);have hne:n≠i:=λx=>e x.symm
  simp only[List.countP_singleton,hne,if_false];omega
theorem zfr {n i:Nat} {listed:Array Bool} (hi:i<n) (hs:listed.size=n) (h:listed.getD i true=false):cnt n (listed.setIfInBounds i true)+1=cnt n listed:=by
 unfold cnt;rw[<-lN (λj=>!listed.getD j true) i (by simp[h]) n hi];congr 1;apply List.countP_congr;intro j hj;by_cases e:j=i
 · subst e;have:j<listed.size:=(by omega);simp[this]
 rw[getD_set_ne true (λx=>e x.symm)];simp[e]
theorem xG {i j:Nat} {o:Oper} (ho:ops.toArray[i]?=some o):j∈zad ops i↔∃ e∈o.after,Region.binds .any e=true/\e.on=j:=by
 have hn:nth ops i=some o:=by rw[zbp];simpa using ho
 unfold zad;rw[hn];simp only[vE,List.mem_filter,Array.mem_toList_iff];constructor
 · rintro ⟨e,⟨h1,h2⟩,h3⟩;exact⟨e,h1,h2,h3⟩
 rintro ⟨e,h1,h2,h3⟩;exact⟨e,⟨h1,h2⟩,h3⟩
theorem zdL {i:Nat} {listed:Array Bool}:i∈Region.ready .any ops.toArray listed↔listed.getD i true=false/\i<ops.length/\∀ j∈zad ops i,listed.getD j false=true:=by
 rw[mem_ready];constructor
 · rintro ⟨h0,o,ho,h⟩;refine⟨h0,?_,λj hj=>?_⟩
   · have:=(jP.1 ho).1;simpa using this
   obtain ⟨e,h1,h2,rfl⟩:=(xG ho).1 hj;exact h e h1 h2
 rintro ⟨h0,hlt,h⟩;have ho:ops.toArray[i]?=some ops[i]:=by simp[hlt]
 exact⟨h0,ops[i],ho,λe he hb=>h _ ((xG ho).2 ⟨e,he,hb,rfl⟩)⟩
theorem zd7 {listed:Array Bool} {i n:Nat} (hs:listed.size=n) (hi:i<n):listed.getD i true=listed.getD i false:=by
 subst hs;simp[hi]
theorem eV {listed:Array Bool} (hs:listed.size=ops.length) (hb:zfR ops=true):∀ (i:Nat),i<ops.length->listed.getD i true=false->Region.ready .any ops.toArray listed≠[]:=by
 intro i
 induction i using Nat.strongRecOn with
 | _ i ih=>
  intro hi h;by_cases hall:∀ j∈zad ops i,listed.getD j false=true
  · intro he;have:i∈Region.ready .any ops.toArray listed:=zdL.2 ⟨h,hi,hall⟩;rw[he] at this;cases this
  obtain ⟨j,hj,hn⟩:=Classical.not_forall.1 hall |>.imp λj hj=>Classical.not_imp.1 hj
  have hlt:j<i:=by
   unfold zfR at hb;rw[dG] at hb;have:=hb i (dX.2 hi);rw[dG] at this;exact zaS.1 (this j hj)
  refine ih j hlt (by omega) ?_;rw[zd7 hs (by omega)];simpa using hn
theorem zc9 {Q:Exit->Act->World->Prop} {n:Nat} (hb:zfR ops=true) (ht:zgj ops n=true):∀ (k m:Nat) (listed:Array Bool) (a:Act) (w:World),ops.length-m=k->n<=m->m<=ops.length->listed.size=ops.length->
 (∀ i,i<ops.length->listed.getD i true=decide (i<m))->wpOps P ops.toArray Q (List.range' m (ops.length-m)) a w->∀ fuel,ops.length-m<=fuel->wpAny P .any ops.toArray Q fuel listed a w:=by
 intro k
 induction k with
 | zero=>
  intro m listed a w hk hn hm hs hl h fuel _;have hr:Region.ready .any ops.toArray listed=[]:=by
   apply List.eq_nil_iff_forall_not_mem.2;intro i hi;obtain ⟨h0,h1,_⟩:=zdL.1 hi;rw[hl i h1] at h0;simp at h0;omega
  rw[hk] at h;exact wpAny_done hr h fuel
 | succ k ih=>
  intro m listed a w hk hn hm hs hl h fuel hf;obtain ⟨fuel,rfl⟩:∃ f,fuel=f+1:=⟨fuel-1,by omega⟩;have hml:m<ops.length:=by omega
  rw[hk,wJ] at h;rw[wpOps_cons] at h;have honly:∀ i∈Region.ready .any ops.toArray listed,i=m:=by
   intro i hi;obtain ⟨h0,h1,h2⟩:=zdL.1 hi;rw[hl i h1] at h0;simp only[aJ] at h0;rcases c8 m i with hlt | hge
   · exfalso;have hp:m∈ancS ops i (zad ops i):=by
      unfold zgj at ht;rw[dG] at ht;have:=ht i (dX.2 h1);rw[d7] at this;rcases this with h' | h'
      · have:=zaS.1 h';omega
      rw[dG] at h';exact zdX (h' m (dX.2 hlt))
     have hback:∀ k,k<ops.length->∀ j∈zad ops k,j<k:=by
      intro k hk j hj;unfold zfR at hb;rw[dG] at hb;have:=hb k (dX.2 hk);rw[dG] at this;exact zaS.1 (this j hj)
     have hpre:∀ j∈zad ops i,j<m:=by
      intro j hj;have hjl:j<ops.length:=(by have:=hback i h1 j hj;omega);have:=h2 j hj;rw[<-zd7 hs hjl,hl j hjl] at this;simpa using this
     have:=zeE (p:=λj=>j<m) (λk hk j hj=>by have:=hback k (by omega) j hj;omega) i _ hpre m hp;omega
   omega
  refine⟨λhe=>aH he (eV hs hb m hml (by rw[hl m hml];simp)),λi hi=>?_⟩;have:=honly i hi;subst this;refine wpOp_mono (λa w h'=>?_) h;refine ih (i+1) _ a w (by omega) (by omega) (by omega) (by simp[hs]) (λj hj=>?_) (by rw[show ops.length-(i+1)=k by omega];exact h') fuel (by omega);by_cases e:i=j
  · subst e;have:i<listed.size:=(by omega);simp[this]
  rw[getD_set_ne true e,hl j hj];rw[vF];simp;omega
theorem aLc {l:List Nat} {k:Nat} (h:has l k=true):k∈l:=by
 unfold has at h;rw[uS] at h;obtain ⟨j,hj,e⟩:=h;have:=dS e;subst this;exact hj
variable {l:Kn} {w:World} {K:Kn->World->Prop} {es:List Ent} {i todo:Nat} {d:Tmp} {op:Op} {ty:TypeId} {pre:List Nat}
end
end Lp
namespace Lp
open Go Go.RowKit
def aYv:Code->Bool | .seq _ _=>true | _=>false
def aBz:Code->Bool | .loop _=>true | _=>false
def zgr:Code->Option Operand | .cond c _ _=>some c | _=>none
def aF9:Code->Option Nat | .block i _=>some i | _=>none
theorem zgb (c:Code):cd c []=c:=by cases c<;>rfl
theorem zfB (b:Bool):∀ (p:List Bool) (c:Code),cd c (p++[b])=cd (cd c p) [b]
 | [],c=>by rw[zgb];rfl
 | i::r,c=>by
  have ih:=zfB b r;cases c<;>simp only[d9,cd]<;>first | rfl | (cases i<;>simp only[cond_true,cond_false,ih]) | exact ih _
section
variable {P:Program} {N:Nat} {l:Kn} {w:World} {Q:Ends} {c:Code} {p:List Bool}
variable {ops:List Oper} {K:Env->World->Prop} {i:Nat}
end
def ResV (P:Program) (l:Kn) (w:World):List ResultVar->List Value->Prop
 | [],[]=>True
 | .tmp t::r,v::vs=>look l t=some v/\ResV P l w r vs
 | .cell a t::r,v::vs=>(∃ b o,look l a=some (.pointer (some ⟨b,o,none⟩))/\(loadVar t ⟨b,o,none⟩).run P w=.ok v w)/\ResV P l w r vs
 | _,_=>False
theorem iQ {P:Program} {t b o:Nat} {w:World} {cs:List Value} (hg:∀ w,(isAgg t).run P w=.ok true w) (hs:∀ w,(Go.sizeOf t).run P w=.ok cs.length w) (hc:At w b o cs):(loadVar t ⟨b,o,none⟩).run P w=.ok (.agg cs.toArray) w:=by
 have:=fM P w b o cs hc;simp[loadVar,hg,hs,this]
def aGn:List Value->Value
 | [v]=>v
 | vs=>.tuple vs.toArray
end Lp
namespace Lp
open Go Go.RowKit
theorem zp {n c:Int} (h:n=c) (hb: -9223372036854775808<=c/\c<=9223372036854775807):IntKind.i64.wrap n=c:=by rw[h];exact w64 hb
theorem zO {α:Type} (xs:List α) (k:Nat) (h:k<xs.length):∃ x,xs[k]?=some x:=⟨xs[k],dO h⟩
theorem za9 {α:Type} {xs:List α} {k:Nat} {x:α} (h:xs[k]?=some x):xs.take (k+1)=xs.take k++[x]:=by
 rw[List.take_succ_eq_append_getElem (dJ.1 h).1,(dJ.1 h).2]
theorem aXw {α:Type} {xs:List α} {k:Nat} {x:α} (h:xs[k]?=some x):k<xs.length:=(dJ.1 h).1
def SlT {α:Type} (cs:α->List Value) (z:Nat) (w:World) (lo hi:Nat) (v:Value) (xs:List α):Prop:=Sl w lo hi z v (xs.map cs)
section
variable {α:Type} {cs:α->List Value} {z:Nat} {w w':World} {lo hi:Nat} {v:Value} {xs:List α}
theorem SlT.at_ (h:SlT cs z w lo hi v xs) {k:Nat} {x:α} (hx:xs[k]?=some x):At w (bl v) (of_ v+k*z) (cs x):=Sl.at_ h (by simp[hx])
theorem SlT.len (h:SlT cs z w lo hi v xs):Len v xs.length:=by have:=Sl.len h;simpa using this
theorem SlT.has (h:SlT cs z w lo hi v xs) {k:Nat} (hk:k<xs.length):Has v k:=Sl.has h (by simpa using hk)
theorem SlT.one (h:SlT cs z w lo hi v xs):v.oneCell'=true:=by
 obtain ⟨A,c,rfl,_⟩:=h;rfl
theorem SlT.nil (h:hi<=w.heap.size):SlT cs z w lo hi (.slice none 0 0) []:=Sl.nil _ _ _ _ h
theorem SlT.cut (h:SlT cs z w lo hi v xs) (l k:Nat) (hl:l<=k) (hh:k<=xs.length):SlT cs z w lo hi (cut z v l k) ((xs.take k).drop l):=by
 have:=Sl.cut h l k hl (by simpa using hh);simpa [SlT,jK,jQ] using this
theorem SlT.capOk (h:SlT cs z w lo hi v xs):∃ A c,v=.slice A xs.length c/\xs.length<=c:=by
 obtain ⟨A,c,h1,h2,_⟩:=h;exact⟨A,c,by simpa using h1,by simpa using h2⟩
end
structure Lbl where
 n:ByteArray
 v:ByteArray
 deriving DecidableEq
end Lp
namespace Lp
open Go Go.RowKit
def zfV (z:Nat):List Value->List (List Value)->Prop
 | [],[]=>True
 | v::r,c::cr=>v.cells=c.toArray/\c.length=z/\zfV z r cr
 | _,_=>False
theorem zeD {v:Value} (h:v.oneCell'=true):v.cells=[v].toArray:=by cases v<;>first | rfl | cases h
theorem zfV.size {z:Nat}:∀ {vs:List Value} {cs:List (List Value)},zfV z vs cs->∀ v∈vs,v.cells.size=z
 | [],[],_,v,hv=>by cases hv
 | v::r,c::cr,⟨h1,h2,h3⟩,u,hu=>by
  cases hu with
  | head=>rw[h1];simpa using h2
  | tail _ hm=>exact zfV.size h3 u hm
theorem zfV.flat {z:Nat}:∀ {vs:List Value} {cs:List (List Value)},zfV z vs cs->(vs.flatMap λv=>v.cells.toList)=cs.flatten
 | [],[],_=>rfl
 | v::r,c::cr,⟨h1,h2,h3⟩=>by simp[h1,zfV.flat h3]
section
variable {P:Program} {ty:TypeId} {ρ:Env} {w:World} {K:Value->World->Prop} {l:Kn}
theorem xF {t e len z:Nat} {ps:Array (Nat×Operand)} {zv:Value} (xs:List Operand) {vs:List Value} (css:List (List Value)) (hk:zaD ρ l) (hp:ps.toList=(xs.zipIdx 0).map λx=>(x.2,x.1)) (hv:opvs l xs=some vs)
 (ht:∀ w,(underlying t).run P w=.ok (.slice e) w) (hs:∀ w,(Go.sizeOf e).run P w=.ok z w) (hzv:∀ w,(zeroValue e).run P w=.ok zv w) (hlen:vs.length=len) (hz:Nat.blt 0 z=true) (hsm:Nat.ble (len*z) 1000=true) (hl0:Nat.blt 0 len=true)
 (hcs:zfV z vs css) (h:∀ g w',New w w' g e css.flatten->K (.slice (some ⟨g,0,none⟩) len len) w'):EOp P (.buildSlice t len ps) ty ρ w K:=by
 have hz':0<z:=zaS.1 hz;have hl':0<len:=zaS.1 hl0;have hsm':=dV hsm;have hpos:0<len*z:=Nat.mul_pos hl' hz';refine wV (v:=.slice (some ⟨w.heap.size,0,none⟩) len len) (w':=w.alloc (.cells css.flatten.toArray e)) (zbY ?_) (h _ _ ?_)
 · have e1:(ps.map λ(i,x)=>(i,ev ρ x)).toList=(vs.zipIdx 0).map λx=>(x.2,x.1):=by
    rw[Array.toList_map,hp,uN,<-hk.ops hv];simp[List.zipIdx_map,uN,Function.comp_def]
   have hf:=Great.fill_whole hz' vs ((Array.range (len*z)).map (zv.cells[· % zv.cells.size]!)) (λv hv'=>hcs.size v hv') (by simp[hlen]);rw[hcs.flat] at hf;simp only[Instr.buildSlice,Sem.run_bind,ht,Result.andThen_ok,hs];rw[aA (by omega),aA (by omega)];simp only[Sem.run_bind,hzv,Result.andThen_ok,Sem.run_pure,e1,hf];simp[newRow]
 have:=New.mk' w e css.flatten.toArray;simpa using this
theorem aT1 {f:FuncId} {args:Array Operand} {ats:Array TypeId} {vs:List Value} {v:Value} (hk:zaD ρ l) (hargs:opvs l args.toList=some vs)
 (hc:∀ w,(callFunc f vs.toArray).run P w=.ok (.value v) w) (h:K v w):EOp P (.call { callee:=.value (.func f),args:=args,argTypes:=ats }) ty ρ w K:=by
 have e1:args.map (ev ρ)=vs.toArray:=by
  apply Array.ext';rw[Array.toList_map,hk.ops hargs]
 exact wV (v:=v) (w':=w) (by simp[execOp,zaq,resolve,ev,Deferred.ofValue,invoke,hc,e1]) h
def Own {α:Type} (cs:α->List Value) (z:Nat) (E:TypeId) (w:World) (base:Nat) (v:Value) (xs:List α):Prop:=
 w.ownsRow base E z v xs.length (xs.flatMap cs)/\∀ x∈xs,(cs x).length=z
variable {α:Type} {cs:α->List Value} {z:Nat} {E:TypeId} {base:Nat} {v:Value} {xs:List α} {w':World}
theorem iN {n:Nat} (hz:∀ x∈xs,(cs x).length=n):∀ (i:Nat) (x:α),xs[i]?=some x->∀ j u,(cs x)[j]?=some u->(xs.flatMap cs)[i*n+j]?=some u:=by
 induction xs with
 | nil=>intro i x h;simp at h
 | cons y r ih=>
  intro i x hx j u hu;rw[uD];cases i with
  | zero=>
   simp at hx;subst hx;rw[Nat.zero_mul,dW,vI (by exact(dJ.1 hu).1)];exact hu
  | succ i=>
   have hy:=hz y cW;rw[uP (by rw[hy,uY];omega),hy,show (i+1)*n+j-n=i*n+j by rw[uY];omega];exact ih (λx hx=>hz x (dA _ hx)) i x (by simpa using hx) j u hu
theorem Own.sl (h:Own cs z E w base v xs):SlT cs z w base w.heap.size v xs:=by
 obtain ⟨h,hz⟩:=h;rcases h.2 with ⟨rfl,h0⟩ | ⟨g,cap,cur,rfl,hb,hg,hnc,_,hsz,htake⟩
 · have:xs=[]:=d5 h0;subst this;exact SlT.nil (cU _)
 have hlt:g<w.heap.size:=(jP.1 hg).1;refine⟨_,cap,by simp,by simpa using hnc,?_,λ_=>⟨g,0,rfl,hb,hlt,λi x hx=>⟨hlt,λj u hu=>?_⟩⟩,cU _⟩
 · intro x hx;obtain ⟨y,hy,rfl⟩:=vE.1 hx;exact hz y hy
 rw[uE] at hx;obtain ⟨y,hy,rfl⟩:=wF.1 hx;rw[cell_of_row w g _ cur E (0,0) hg];have:=iN hz i y hy j u hu;rw[<-htake,List.getElem?_take] at this;split at this
 · simpa using this
 cases this
theorem Own.lt (h:Own cs z E w base v xs) {g:Nat} (hg:v.ownBlock=some g):base<=g/\g<w.heap.size:=h.1.lt g hg
theorem Own.nil (w:World) (base:Nat):Own cs z E w base (.slice none 0 0) []:=⟨World.ownsRow_nil w base E z,by simp⟩
theorem Own.one (h:Own cs z E w base v xs):v.oneCell'=true:=h.sl.one
theorem Own.len (h:Own cs z E w base v xs):Len v xs.length:=h.sl.len
theorem Box.own {g:Nat} {cc:List Value} (h:Box w g E cc) (hb:base<=g) (hc:cc=xs.flatMap cs) (hz:∀ x∈xs,(cs x).length=z) (hm:xs.length<=maxLen):Own cs z E w base (.slice (some ⟨g,0,none⟩) xs.length xs.length) xs:=by
 subst hc;have hl:(xs.flatMap cs).length=xs.length*z:=by
  clear h hm
  induction xs with
  | nil=>simp
  | cons y r ih=>rw[uD,c7,hz y cW,ih (λx hx=>hz x (dA _ hx)),dD,uY];omega
 refine⟨⟨hl,.inr ⟨g,xs.length,_,rfl,hb,h,cU _,hm,by simpa using hl,?_⟩⟩,hz⟩;simp only;rw[<-hl,uJ]
theorem SlT.cell_flat {lo hi:Nat} (h:SlT cs z w lo hi v xs) {b o n c:Nat} (hv:v=.slice (some ⟨b,o,none⟩) n c):∀ j u,(xs.flatMap cs)[j]?=some u->w.cell? ⟨b,o+j,none⟩=some u:=by
 obtain ⟨A,c',h1,h2,h3,h4,_⟩:=h;intro j u hu;have hz':∀ x∈xs,(cs x).length=z:=λx hx=>h3 _ (vE.2 ⟨x,hx,rfl⟩)
 have hne:xs≠[]:=by rintro rfl;simp at hu
 obtain ⟨b2,o2,e1,e2,e3,e4⟩:=h4 (by simpa using hne);rw[h1,e1] at hv;injection hv with hv1 _ _;injection hv1 with hv1;injection hv1 with hb ho _;subst hb;subst ho;have key:∀ (ys:List α) (i0:Nat),(∀ x∈ys,(cs x).length=z)->(∀ i x,ys[i]?=some x->xs[i0+i]?=some x)->∀ j u,(ys.flatMap cs)[j]?=some u->w.cell? ⟨b2,o2+(i0*z+j),none⟩=some u:=by
  intro ys
  induction ys with
  | nil=>intro i0 _ _ j u hu;simp at hu
  | cons y r ih=>
   intro i0 hzz hx j u hu;rw[uD] at hu;have hy:=hzz y cW;by_cases hj:j<z
   · rw[vI (by omega)] at hu;have hat:=e4 i0 (cs y) (by have h0:=hx 0 y (by simp);rw[uB] at h0;rw[uE,h0];rfl);have:=hat.2 j u hu;rw[<-wA];exact this
   rw[uP (by omega),hy] at hu;have:=ih (i0+1) (λx hx=>hzz x (dA _ hx)) (λi x hi=>by have:=hx (i+1) x (by simpa using hi);rw[show i0+1+i=i0+(i+1) by omega];exact this) (j-z) u hu;rw[show o2+(i0*z+j)=o2+((i0+1)*z+(j-z)) by rw[uY];omega];exact this
 have:=key xs 0 hz' (λi x hi=>by simpa using hi) j u hu;simpa using this
theorem aF6 {t ty':TypeId} {x y:Operand} {s:Value} {ys:List α} {lo hi bytes:Nat} {zv:Value} (hk:zaD ρ l) (hx:opv l x=some v) (hy:opv l y=some s) (ht:P.underlying t=some (.slice E))
 (hi':∃ i,P.info? E=some i/\i.zero=some zv/\i.size=z/\i.bytes=bytes) (hzs:zv.cells.size=z) (hsz:0<z)
 (hown:Own cs z E w base v xs) (hs:SlT cs z w lo hi s ys) (h1:∀ x∈ys,zcN (cs x)) (hlen:xs.length+ys.length<=maxLen) (hbytes:(xs.length+ys.length)*bytes<=140737488355328) (hbase:base<=w.heap.size)
 (h:∀ v' w',Own cs z E w' base v' (xs++ys)->(∃ a b,Upd a b w w'/\((a=0/\b=0)\/(v.ownBlock=some a/\b=a+1/\base<=a)))->(v'.ownBlock=v.ownBlock\/v'.ownBlock=some w.heap.size)->(Builtin.append_ #[t,t] ty' #[v,s]).run P w=.ok v' w'->K v' w'):
 EOp P (.call { callee:=.builtin .append,args:=#[x,y],argTypes:=#[t,t] }) ty' ρ w K:=by
 obtain ⟨i,i1,i2,i3,i4⟩:=hi';have hs':=hs;obtain ⟨A,c,e1,e2,e3,e4,_⟩:=hs;simp only[cV] at e1 e2;have hz':∀ x∈ys,(cs x).length=z:=λx hx=>e3 _ (vE.2 ⟨x,hx,rfl⟩)
 have hfl:(ys.flatMap cs).length=ys.length*z:=by
  clear e4 e1 e2 e3 hbytes hlen hs' h
  induction ys with
  | nil=>simp
  | cons y r ih=>rw[uD,c7,hz' y cW,ih (λx hx=>h1 x (dA _ hx)) (λx hx=>hz' x (dA _ hx)),dD,uY];omega
 have hall:∀ u∈ys.flatMap cs,u.oneCell'=true:=by
  intro u hu;obtain ⟨y,hy,huy⟩:=List.mem_flatMap.1 hu;exact(h1 y hy).all u huy
 have hup:∀ {w'},w.grownBy w' v.ownBlock->Dr w w'->∃ a b,Upd a b w w'/\((a=0/\b=0)\/(v.ownBlock=some a/\b=a+1/\base<=a)):=by
  intro w' hg hd;cases hv:v.ownBlock with
  | none=>exact⟨0,0,⟨hg.os,hg.tape,hg.output,hg.size,λk hk _=>hg.block k hk (by rw[hv];simp),hd⟩,.inl ⟨rfl,rfl⟩⟩
  | some g=>exact⟨g,g+1,⟨hg.os,hg.tape,hg.output,hg.size,λk hk hh=>hg.block k hk (by rw[hv];simp;omega),hd⟩,.inr ⟨rfl,rfl,(hown.lt hv).1⟩⟩
 have hrun:∃ v' w',(Builtin.append_ #[t,t] ty' #[v,s]).run P w=.ok v' w'/\Own cs z E w' base v' (xs++ys)/\w.grownBy w' v.ownBlock/\(v'.ownBlock=v.ownBlock\/v'.ownBlock=some w.heap.size):=by
  cases A with
  | none=>
   have hy0:ys=[]:=by
    rcases jT ys.length with h0 | h0
    · exact d5 h0
    obtain ⟨b,o,hh,_⟩:=e4 (by intro e;simp at e;subst e;simp at h0);cases hh
   subst hy0;refine⟨v,w,?_,by simpa using hown,World.grownBy.refl w _,.inl rfl⟩;subst e1;rcases hown.1.2 with ⟨rfl,h0⟩ | ⟨g,cap,cur,rfl,_,_,hnc,_⟩
   · simp[Builtin.append_,run_underlying ht,Go.sizeOf,typeInfo,i1,Builtin.lenOf,Builtin.firstCells]
   simp[Builtin.append_,run_underlying ht,Go.sizeOf,typeInfo,i1,Builtin.lenOf,Builtin.firstCells,hnc,storeCells]
  | some ad=>
   have hcells:∀ j u,(ys.flatMap cs)[j]?=some u->w.cell? (ad.add j)=some u:=by
    intro j u hu;obtain ⟨b,o,hh,_⟩:=e4 (by intro e;simp at e;subst e;simp at hu);injection hh with hh;subst hh;have ha:(⟨b,o,none⟩:Addr).add j=⟨b,o+j,none⟩:=(by cases j<;>simp[Addr.add]);rw[ha];exact hs'.cell_flat e1 j u hu
   obtain ⟨v',w',r1,r2,r3,_,r5⟩:=run_append_own_at (P:=P) w base t ty' E i zv z bytes ht i1 i2 i3 i4 hzs hsz v xs.length (xs.flatMap cs) hown.1 ad ys.length c (ys.flatMap cs) hfl hcells hall hlen hbytes hbase;refine⟨v',w',by rw[e1];exact r1,⟨?_,?_⟩,r3,r5⟩
   · rw[c7,List.flatMap_append];exact r2
   intro x hx;rcases jV.1 hx with hx | hx
   · exact hown.2 x hx
   exact hz' x hx
 obtain ⟨v',w',r1,r2,r3,r4⟩:=hrun;refine wV (v:=v') (w':=w') ?_ (h v' w' r2 (hup r3 (Dr.run r1)) r4 r1);simp[execOp,zaq,resolve,invoke,builtin,hk.op hx,hk.op hy,r1]
theorem aOy {t ty':TypeId} {x y:Operand} {s:Value} {ys:List α} {lo hi bytes:Nat} {zv:Value} (hk:zaD ρ l) (hx:opv l x=some v) (hy:opv l y=some s) (ht:P.underlying t=some (.slice E))
 (hi':∃ i,P.info? E=some i/\i.zero=some zv/\i.size=z/\i.bytes=bytes) (hzs:zv.cells.size=z) (hsz:0<z)
 (hown:Own cs z E w base v xs) (hs:SlT cs z w lo hi s ys) (h1:∀ x∈ys,zcN (cs x)) (hlen:xs.length+ys.length<=maxLen) (hbytes:(xs.length+ys.length)*bytes<=140737488355328) (hbase:base<=w.heap.size)
 (h:∀ v' w',Own cs z E w' base v' (xs++ys)->(∃ a b,Upd a b w w'/\((a=0/\b=0)\/(v.ownBlock=some a/\b=a+1/\base<=a)))->(v'.ownBlock=v.ownBlock\/v'.ownBlock=some w.heap.size)->K v' w'):
 EOp P (.call { callee:=.builtin .append,args:=#[x,y],argTypes:=#[t,t] }) ty' ρ w K:=by
 exact aF6 hk hx hy ht hi' hzs hsz hown hs h1 hlen hbytes hbase (λv' w' a b c _=>h v' w' a b c)
end
section
variable {P:Program} {ty:TypeId} {ρ:Env} {w:World} {K:Value->World->Prop} {l:Kn}
end
end Lp
namespace Lp
open Go Go.RowKit
theorem aU8 {cs r:List Value} {o:Nat} {vs:List Value} (h:o+vs.length<=cs.length):spl (cs++r) o vs=spl cs o vs++r:=by
 unfold spl;rw[vC (by omega),uI (by omega)];simp
theorem zdl {P:Program} {E:TypeId} {zv:Value} {z b:Nat} (h:(P.info? E).map (λi=>(i.zero,i.size,i.bytes))=some (some zv,z,b)):∃ i,P.info? E=some i/\i.zero=some zv/\i.size=z/\i.bytes=b:=by
 obtain ⟨i,h1,h2⟩:=wF.1 h;simp only[dU] at h2;exact⟨i,h1,h2.1,h2.2.1,h2.2.2⟩
section
variable {α:Type} {cs:α->List Value} {z:Nat} {E:TypeId} {base:Nat} {v:Value} {xs:List α} {w w':World}
theorem zdr (hz:∀ x∈xs,(cs x).length=z):(xs.flatMap cs).length=xs.length*z:=by
 induction xs with
 | nil=>simp
 | cons y r ih=>rw[uD,c7,hz y cW,ih (λx hx=>hz x (dA _ hx)),dD,uY];omega
theorem aMy (hz:∀ x∈xs,(cs x).length=z) {d:α} (hd:(cs d).length=z):∀ {k:Nat},k<xs.length->spl (xs.flatMap cs) (k*z) (cs d)=(xs.set k d).flatMap cs:=by
 induction xs with
 | nil=>intro k h;simp at h
 | cons y r ih=>
  have hy:=hz y cW;intro k hk;cases k with
  | zero=>
   rw[List.set_cons_zero,uD,uD];unfold spl;rw[Nat.zero_mul,vV,dW,hd,jG,<-hy,vL]
  | succ k=>
   have:=ih (λx hx=>hz x (dA _ hx)) (by simpa using hk);rw[List.set_cons_succ,uD,uD,<-this];unfold spl;rw[show (k+1)*z=(cs y).length+k*z by rw[hy,uY];omega,List.take_append,show (cs y).length+k*z+(cs d).length=(cs y).length+(k*z+(cs d).length) by omega,List.drop_append];rw[dL (by omega),uC (by omega)];simp
theorem Own.form (h:Own cs z E w base v xs) (hn:0<xs.length):∃ cap r,v=.slice (some ⟨bl v,0,none⟩) xs.length cap/\base<=bl v/\Box w (bl v) E (xs.flatMap cs++r)/\xs.length<=cap/\cap<=maxLen/\(xs.flatMap cs++r).length=cap*z:=by
 rcases h.1.2 with ⟨_,h0⟩ | ⟨g,cap,cur,rfl,hb,hg,hnc,hm,hsz,htake⟩
 · omega
 refine⟨cap,cur.toList.drop (xs.length*z),rfl,hb,?_,hnc,hm,?_⟩
 · unfold Box;rw[<-htake,d8];simpa [bl] using hg
 rw[<-htake,d8];simpa using hsz
theorem Own.block (h:Own cs z E w base v xs) (hn:0<xs.length):base<=bl v/\bl v<w.heap.size/\of_ v=0/\v.ownBlock=some (bl v):=by
 obtain ⟨cap,r,e,hb,hB,_⟩:=h.form hn;refine⟨hb,hB.lt,?_,?_⟩
 · rw[e];rfl
 rw[e];rfl
end
end Lp
namespace Lp
open Go Go.RowKit
inductive D where
 | v (u:Value)
  | ov (u:Value)
 | s (b:ByteArray)
 | agg (cs:List D)
 | tup (cs:List D)
 | ifc (t:TypeId) (d:D)
 | fn (f:FuncId) (first cap:List D)
  | sh (z:Nat) (xs:List D)
  | shr (z n:Nat) (xs:List D)
  | el (x:D) (o:Nat)
 | any
def One (u:Value):Prop:=∀ c∈u.cells.toList,c.oneCell'=true
abbrev vcs (u:Value):List Value:=u.cells.toList
theorem One.one {u:Value} (h:u.oneCell'=true):One u:=by
 intro c hc;rw[zeD h] at hc;simp at hc;exact hc ▸ h
theorem pR {u:Value} (h:u.oneCell'=true):vcs u=[u]:=by unfold vcs;rw[zeD h]
mutual
def D.rep (w:World) (F:Nat->Prop):D->Value->Prop
 | .v u,a=>a=u
 | .ov u,a=>a=u/\u.oneCell'=true
 | .s b,a=>a=.string b/\b.size<=maxLen
 | .agg cs,a=>∃ vs,a=.agg vs.toArray/\D.repL w F cs vs
 | .tup cs,a=>∃ vs,a=.tuple vs.toArray/\D.repA w F cs vs
 | .ifc t d,a=>∃ u,a=.iface t u/\D.rep w F d u
 | .fn f p q,a=>∃ us vs,a=.func (.func f) us.toArray vs.toArray/\D.repA w F p us/\D.repA w F q vs
 | .sh z xs,a=>∃ A c,a=.slice A xs.length c/\xs.length<=c/\xs.length<=maxLen/\(xs≠[]->∃ b o,A=some ⟨b,o,none⟩/\F b/\D.repC w F z b xs o)
 | .shr z n xs,a=>∃ A c,a=.slice A n c/\n<=xs.length/\xs.length<=c/\xs.length<=maxLen/\(xs≠[]->∃ b o,A=some ⟨b,o,none⟩/\F b/\D.repC w F z b xs o)
 | .el x o,a=>∃ b p u,a=.pointer (some ⟨b,p+o,none⟩)/\F b/\D.rep w F x u/\One u/\At w b p (vcs u)
 | .any,a=>a.oneCell'=true
def D.repL (w:World) (F:Nat->Prop):List D->List Value->Prop
 | [],vs=>vs=[]
 | d::r,vs=>∃ u us,vs=u::us/\u.oneCell'=true/\D.rep w F d u/\D.repL w F r us
def D.repA (w:World) (F:Nat->Prop):List D->List Value->Prop
 | [],vs=>vs=[]
 | d::r,vs=>∃ u us,vs=u::us/\D.rep w F d u/\D.repA w F r us
def D.repC (w:World) (F:Nat->Prop) (z b:Nat):List D->Nat->Prop
 | [],_=>True
 | x::r,o=>(∃ u,D.rep w F x u/\One u/\u.cells.size=z/\At w b o (vcs u))/\D.repC w F z b r (o+z)
end
structure Keep (w:World) (F:Nat->Prop) (w':World) (F':Nat->Prop):Prop where
 sub:∀ b,F b->F' b
 same:∀ b,F b->b<w.heap.size->w'.heap[b]?=w.heap[b]?
theorem wW {w:World} {F:Nat->Prop}:Keep w F w F:=⟨λ_ h=>h,λ_ _ _=>rfl⟩
theorem At.same {w w':World} {b o:Nat} {cs:List Value} (h:At w b o cs) (e:w'.heap[b]?=w.heap[b]?):At w' b o cs:=by
 refine⟨?_,λj u hu=>(World.cell?_of_block e).trans (h.2 j u hu)⟩;have h1:(w.heap[b]?).isSome:=by rw[uW h.1];rfl
 rw[<-e] at h1;obtain ⟨x,hx⟩:=Option.isSome_iff_exists.1 h1;exact(jP.1 hx).1
section
variable {w w':World} {F F':Nat->Prop}
mutual
theorem D.keep (k:Keep w F w' F'):∀ (d:D) (a:Value),D.rep w F d a->D.rep w' F' d a
 | .v _,_,h=>h
 | .ov _,_,h=>h
 | .s _,_,h=>h
 | .agg cs,_,⟨vs,e,h⟩=>⟨vs,e,D.keepL k cs vs h⟩
 | .tup cs,_,⟨vs,e,h⟩=>⟨vs,e,wX k cs vs h⟩
 | .ifc _ d,_,⟨u,e,h⟩=>⟨u,e,D.keep k d u h⟩
 | .fn _ p q,_,⟨us,vs,e,h1,h2⟩=>⟨us,vs,e,wX k p us h1,wX k q vs h2⟩
 | .sh z xs,_,⟨A,c,e,h1,h2,h3⟩=>⟨A,c,e,h1,h2,λhn=>by
  obtain ⟨b,o,e1,e2,e3⟩:=h3 hn;exact⟨b,o,e1,k.sub b e2,D.keepC k z b e2 xs o e3⟩⟩
 | .shr z n xs,_,⟨A,c,e,h0,h1,h2,h3⟩=>⟨A,c,e,h0,h1,h2,λhn=>by
  obtain ⟨b,o,e1,e2,e3⟩:=h3 hn;exact⟨b,o,e1,k.sub b e2,D.keepC k z b e2 xs o e3⟩⟩
 | .el x _,_,⟨b,p,u,e,h1,h2,h3,h4⟩=>⟨b,p,u,e,k.sub b h1,D.keep k x u h2,h3,h4.same (k.same b h1 h4.1)⟩
 | .any,_,h=>h
theorem D.keepL (k:Keep w F w' F'):∀ (ds:List D) (vs:List Value),D.repL w F ds vs->D.repL w' F' ds vs
 | [],_,h=>h
 | d::r,_,⟨u,us,e,h1,h2,h3⟩=>⟨u,us,e,h1,D.keep k d u h2,D.keepL k r us h3⟩
theorem wX (k:Keep w F w' F'):∀ (ds:List D) (vs:List Value),D.repA w F ds vs->D.repA w' F' ds vs
 | [],_,h=>h
 | d::r,_,⟨u,us,e,h2,h3⟩=>⟨u,us,e,D.keep k d u h2,wX k r us h3⟩
theorem D.keepC (k:Keep w F w' F') (z b:Nat) (hb:F b):∀ (xs:List D) (o:Nat),D.repC w F z b xs o->D.repC w' F' z b xs o
 | [],_,h=>h
 | x::r,o,⟨⟨u,h1,h2,h3,h4⟩,h5⟩=>⟨⟨u,D.keep k x u h1,h2,h3,h4.same (k.same b hb h4.1)⟩,D.keepC k z b hb r (o+z) h5⟩
end
end
def D.flat:D->Bool
 | .v _ | .ov _ | .s _ | .any=>true
 | .agg cs=>flatL cs
 | .tup cs=>flatL cs
 | .ifc _ d=>d.flat
 | .fn _ p q=>flatL p&&flatL q
 | _=>false
where flatL:List D->Bool
 | []=>true
 | d::r=>d.flat&&flatL r
section
variable {w w':World} {F F':Nat->Prop}
mutual
theorem wY:∀ (d:D) (a:Value),d.flat=true->D.rep w F d a->D.rep w' F' d a
 | .v _,_,_,h=>h
 | .ov _,_,_,h=>h
 | .s _,_,_,h=>h
 | .agg cs,_,f,⟨vs,e,h⟩=>⟨vs,e,wZ cs vs (by simpa [D.flat] using f) h⟩
 | .tup cs,_,f,⟨vs,e,h⟩=>⟨vs,e,w5 cs vs (by simpa [D.flat] using f) h⟩
 | .ifc _ d,_,f,⟨u,e,h⟩=>⟨u,e,wY d u (by simpa [D.flat] using f) h⟩
 | .fn _ p q,_,f,⟨us,vs,e,h1,h2⟩=>by
  simp only[D.flat,cY] at f;exact⟨us,vs,e,w5 p us f.1 h1,w5 q vs f.2 h2⟩
 | .sh _ _,_,f,_=>by simp[D.flat] at f
 | .el _ _,_,f,_=>by simp[D.flat] at f
 | .shr _ _ _,_,f,_=>by simp[D.flat] at f
 | .any,_,_,h=>h
theorem wZ:∀ (ds:List D) (vs:List Value),D.flat.flatL ds=true->D.repL w F ds vs->D.repL w' F' ds vs
 | [],_,_,h=>h
 | d::r,_,f,⟨u,us,e,h1,h2,h3⟩=>by
  simp only[D.flat.flatL,cY] at f;exact⟨u,us,e,h1,wY d u f.1 h2,wZ r us f.2 h3⟩
theorem w5:∀ (ds:List D) (vs:List Value),D.flat.flatL ds=true->D.repA w F ds vs->D.repA w' F' ds vs
 | [],_,_,h=>h
 | d::r,_,f,⟨u,us,e,h2,h3⟩=>by
  simp only[D.flat.flatL,cY] at f;exact⟨u,us,e,wY d u f.1 h2,w5 r us f.2 h3⟩
end
end
def D.cells:D->List D
 | .agg cs=>cs
 | .v (.agg a)=>a.toList.map .v
 | d=>[d]
theorem aDe {w:World} {F:Nat->Prop}:∀ vs:List Value,(∀ c∈vs,c.oneCell'=true)->D.repL w F (vs.map .v) vs
 | [],_=>rfl
 | u::r,h=>⟨u,r,rfl,h u cW,rfl,aDe r (λc hc=>h c (dA _ hc))⟩
theorem zbo {w:World} {F:Nat->Prop}:∀ {ds:List D} {vs:List Value},D.repL w F ds vs->vs.length=ds.length
 | [],_,rfl=>rfl
 | _::_,_,⟨_,_,rfl,_,_,h⟩=>by simp[zbo h]
theorem hZ {w:World} {F:Nat->Prop}:∀ {ds:List D} {vs:List Value},D.repA w F ds vs->vs.length=ds.length
 | [],_,rfl=>rfl
 | _::_,_,⟨_,_,rfl,_,h⟩=>by simp[hZ h]
theorem oA {w:World} {F:Nat->Prop}:∀ {ds:List D} {vs:List Value},D.repL w F ds vs->∀ c∈vs,c.oneCell'=true
 | [],_,rfl,_,hc=>by cases hc
 | _::_,_,⟨_,_,rfl,h1,_,h⟩,c,hc=>by
  cases hc with
  | head=>exact h1
  | tail _ hm=>exact oA h c hm
theorem qB {w:World} {F:Nat->Prop}:∀ {ds:List D} {vs:List Value},D.repL w F ds vs->∀ {j:Nat} {d:D},ds[j]?=some d->∃ u,vs[j]?=some u/\u.oneCell'=true/\D.rep w F d u
 | [],_,rfl,j,d,h=>by simp at h
 | x::r,_,⟨u,us,rfl,h1,h2,h3⟩,j,d,h=>by
  cases j with
  | zero=>simp at h;subst h;exact⟨u,by simp,h1,h2⟩
  | succ j=>obtain ⟨u',e⟩:=qB h3 (j:=j) (d:=d) (by simpa using h);exact⟨u',by simpa using e⟩
theorem zeY {w:World} {F:Nat->Prop}:∀ {ds es:List D} {vs us:List Value},D.repL w F ds vs->D.repL w F es us->D.repL w F (ds++es) (vs++us)
 | [],_,_,_,rfl,h=>h
 | _::_,_,_,_,⟨u,r,rfl,h1,h2,h3⟩,h=>⟨u,_,rfl,h1,h2,zeY h3 h⟩
theorem zdI {w:World} {F:Nat->Prop}:∀ {ds:List D} {vs:List Value} (n:Nat),D.repL w F ds vs->D.repL w F (ds.take n) (vs.take n)
 | [],_,n,rfl=>by simp;rfl
 | _::_,_,0,_=>rfl
 | _::_,_,n+1,⟨u,us,rfl,h1,h2,h3⟩=>⟨u,us.take n,rfl,h1,h2,zdI n h3⟩
theorem zdJ {w:World} {F:Nat->Prop}:∀ {ds:List D} {vs:List Value} (n:Nat),D.repL w F ds vs->D.repL w F (ds.drop n) (vs.drop n)
 | [],_,n,rfl=>by simp;rfl
 | _::_,_,0,h=>h
 | _::_,_,n+1,⟨u,us,rfl,h1,h2,h3⟩=>zdJ n h3
theorem w6 {w:World} {F:Nat->Prop} {d:D} {u:Value} (h:D.rep w F d u) (h1:One u):D.repL w F d.cells (vcs u):=by
 have single:∀ {d:D} {u:Value},u.cells=#[u]->One u->D.rep w F d u->D.repL w F [d] (vcs u):=by
  intro d u e h1 h;refine⟨u,[],by simp[vcs,e],h1 u (by simp[e]),h,rfl⟩
 cases d with
 | v a=>
  have h':u=a:=h;subst h';cases u with
  | agg a=>exact aDe _ h1
  | _=>exact single rfl h1 rfl
 | agg cs=>obtain ⟨vs,rfl,hl⟩:=h;simpa [vcs,Value.cells,D.cells] using hl
 | s b=>have h0:=h;obtain ⟨rfl,_⟩:=h;exact single rfl h1 h0
 | ov b=>exact single (zeD (by rw[h.1];exact h.2)) h1 h
 | tup cs=>have h0:=h;obtain ⟨_,rfl,_⟩:=h;exact single rfl h1 h0
 | ifc t x=>have h0:=h;obtain ⟨_,rfl,_⟩:=h;exact single rfl h1 h0
 | fn f p q=>have h0:=h;obtain ⟨_,_,rfl,_⟩:=h;exact single rfl h1 h0
 | sh z xs=>have h0:=h;obtain ⟨_,_,rfl,_⟩:=h;exact single rfl h1 h0
 | el x o=>have h0:=h;obtain ⟨_,_,_,rfl,_⟩:=h;exact single rfl h1 h0
 | shr z n xs=>have h0:=h;obtain ⟨_,_,rfl,_⟩:=h;exact single rfl h1 h0
 | any=>exact single (zeD h) h1 h
def RepE (w:World) (F:Nat->Prop) (z:Nat):List D->List Value->Prop
 | [],us=>us=[]
 | x::r,us=>∃ u t,us=u::t/\D.rep w F x u/\One u/\u.cells.size=z/\RepE w F z r t
section
variable {w w':World} {F F':Nat->Prop} {z:Nat}
theorem RepE.len:∀ {xs:List D} {us:List Value},RepE w F z xs us->us.length=xs.length
 | [],_,rfl=>rfl
 | _::_,_,⟨_,_,rfl,_,_,_,h⟩=>by simp[RepE.len h]
theorem RepE.size:∀ {xs:List D} {us:List Value},RepE w F z xs us->∀ u∈us,(vcs u).length=z
 | [],_,rfl,_,hu=>by cases hu
 | _::_,_,⟨_,_,rfl,_,_,h,hr⟩,u,hu=>by
  cases hu with
  | head=>simpa [vcs] using h
  | tail _ hm=>exact RepE.size hr u hm
theorem RepE.one:∀ {xs:List D} {us:List Value},RepE w F z xs us->∀ u∈us,One u
 | [],_,rfl,_,hu=>by cases hu
 | _::_,_,⟨_,_,rfl,_,h,_,hr⟩,u,hu=>by
  cases hu with
  | head=>exact h
  | tail _ hm=>exact RepE.one hr u hm
theorem RepE.keep (k:Keep w F w' F'):∀ {xs:List D} {us:List Value},RepE w F z xs us->RepE w' F' z xs us
 | [],_,h=>h
 | _::_,_,⟨u,t,e,h1,h2,h3,h4⟩=>⟨u,t,e,D.keep k _ _ h1,h2,h3,RepE.keep k h4⟩
theorem RepE.flat:∀ {xs:List D} {us:List Value},D.flat.flatL xs=true->RepE w F z xs us->RepE w' F' z xs us
 | [],_,_,h=>h
 | _::_,_,f,⟨u,t,e,h1,h2,h3,h4⟩=>by
  simp only[D.flat.flatL,cY] at f;exact⟨u,t,e,wY _ _ f.1 h1,h2,h3,RepE.flat f.2 h4⟩
theorem RepE.get:∀ {xs:List D} {us:List Value},RepE w F z xs us->∀ {k:Nat} {x:D},xs[k]?=some x->∃ u,us[k]?=some u/\D.rep w F x u/\One u/\u.cells.size=z
 | [],_,rfl,_,_,h=>by simp at h
 | _::_,_,⟨u,t,rfl,h1,h2,h3,h4⟩,k,x,h=>by
  cases k with
  | zero=>simp at h;subst h;exact⟨u,by simp,h1,h2,h3⟩
  | succ k=>obtain ⟨u',e⟩:=RepE.get h4 (k:=k) (x:=x) (by simpa using h);exact⟨u',by simpa using e⟩
theorem RepE.app:∀ {xs ys:List D} {us vs:List Value},RepE w F z xs us->RepE w F z ys vs->RepE w F z (xs++ys) (us++vs)
 | [],_,_,_,rfl,h=>h
 | _::_,_,_,_,⟨u,t,rfl,h1,h2,h3,h4⟩,h=>⟨u,_,rfl,h1,h2,h3,RepE.app h4 h⟩
theorem RepE.take:∀ {xs:List D} {us:List Value} (n:Nat),RepE w F z xs us->RepE w F z (xs.take n) (us.take n)
 | [],_,n,rfl=>by simp;rfl
 | _::_,_,0,_=>rfl
 | _::_,_,n+1,⟨u,t,rfl,h1,h2,h3,h4⟩=>⟨u,t.take n,rfl,h1,h2,h3,RepE.take n h4⟩
theorem RepE.drop:∀ {xs:List D} {us:List Value} (n:Nat),RepE w F z xs us->RepE w F z (xs.drop n) (us.drop n)
 | [],_,n,rfl=>by simp;rfl
 | _::_,_,0,h=>h
 | _::_,_,n+1,⟨u,t,rfl,h1,h2,h3,h4⟩=>RepE.drop n h4
theorem RepE.set:∀ {xs:List D} {us:List Value} (k:Nat) {x:D} {u:Value},RepE w F z xs us->D.rep w F x u->One u->u.cells.size=z->RepE w F z (xs.set k x) (us.set k u)
 | [],_,k,_,_,rfl,_,_,_=>by simp;rfl
 | _::_,_,0,_,u,⟨_,t,rfl,_,_,_,h4⟩,a,b,c=>⟨u,t,rfl,a,b,c,h4⟩
 | _::_,_,k+1,_,u,⟨v,t,rfl,h1,h2,h3,h4⟩,a,b,c=>⟨v,_,rfl,h1,h2,h3,RepE.set k h4 a b c⟩
theorem aDy {b:Nat}:∀ {xs:List D} {o:Nat},D.repC w F z b xs o->∃ us,RepE w F z xs us/\∀ i u,us[i]?=some u->At w b (o+i*z) (vcs u)
 | [],_,_=>⟨[],rfl,by simp⟩
 | x::r,o,⟨⟨u,h1,h2,h3,h4⟩,h5⟩=>by
  obtain ⟨us,e1,e2⟩:=aDy h5;refine⟨u::us,⟨u,us,rfl,h1,h2,h3,e1⟩,λi v hv=>?_⟩;cases i with
  | zero=>simp at hv;subst hv;simpa using h4
  | succ i=>have:=e2 i v (by simpa using hv);rw[show o+(i+1)*z=o+z+i*z by rw[uY];omega];exact this
theorem aCx {b:Nat}:∀ {xs:List D} {us:List Value} {o:Nat},RepE w F z xs us->(∀ i u,us[i]?=some u->At w b (o+i*z) (vcs u))->D.repC w F z b xs o
 | [],_,_,_,_=>trivial
 | x::r,_,o,⟨u,t,rfl,h1,h2,h3,h4⟩,h=>by
  refine⟨⟨u,h1,h2,h3,by simpa using h 0 u (by simp)⟩,aCx h4 (λi v hv=>?_)⟩;have:=h (i+1) v (by simpa using hv);rw[show o+z+i*z=o+(i+1)*z by rw[uY];omega];exact this
theorem D.rep_sl {xs:List D} {a:Value} (hF:∀ b,F b->b<w.heap.size) (h:D.rep w F (.sh z xs) a):∃ us,RepE w F z xs us/\SlT vcs z w 0 w.heap.size a us/\(xs≠[]->∃ b o c,a=.slice (some ⟨b,o,none⟩) xs.length c/\F b)/\xs.length<=maxLen:=by
 obtain ⟨A,c,rfl,h1,h2,h3⟩:=h;cases xs with
 | nil=>exact⟨[],rfl,⟨A,c,rfl,by simp,by simp,by simp,cU _⟩,by simp,by simp⟩
 | cons x r=>
  obtain ⟨b,o,rfl,hb,hc⟩:=h3 (by simp);obtain ⟨us,e1,e2⟩:=aDy hc;have hl:=e1.len;refine⟨us,e1,⟨_,c,by rw[cV,hl],by rw[cV,hl];exact h1,?_,λ_=>⟨b,o,rfl,cX _,hF b hb,λi y hy=>?_⟩,cU _⟩,λ_=>⟨b,o,c,rfl,hb⟩,h2⟩
  · intro y hy;obtain ⟨u,hu,rfl⟩:=vE.1 hy;exact e1.size u hu
  rw[uE] at hy;obtain ⟨u,hu,rfl⟩:=wF.1 hy;exact e2 i u hu
theorem D.sl_rep {xs:List D} {us:List Value} {a:Value} {lo hi:Nat} (hr:RepE w F z xs us) (h:SlT vcs z w lo hi a us) (hb:xs≠[]->∀ g,a.ownBlock=some g->F g) (hm:us.length<=maxLen):D.rep w F (.sh z xs) a:=by
 obtain ⟨A,c,rfl,h2,h3,h4,_⟩:=h;have hl:=hr.len;refine⟨A,c,by rw[cV,hl],by rw[cV,hl] at h2;exact h2,by omega,λhn=>?_⟩;obtain ⟨b,o,rfl,e2,e3,e4⟩:=h4 (by intro e;simp at e;subst e;simp at hl;exact hn (d5 hl.symm));refine⟨b,o,rfl,hb hn b rfl,aCx hr (λi u hu=>e4 i (vcs u) (by rw[uE,hu];rfl))⟩
end
inductive Hp where
 | sl (v:Value) (z:Nat) (T:TypeId) (xs:List D)
 | bx (g:Nat) (T:TypeId) (x:D)
 | sl2 (v0 v:Value) (z:Nat) (T:TypeId) (m:Nat) (xs:List D)
 | slo (u:Value) (z:Nat) (T:TypeId) (xs:List D)
 | it (g:Nat) (s:ByteArray) (p:Nat)
 | tab (g:Nat) (cs:Array Value)
 | mp (g:Nat) (ks:List ByteArray) (xs:List D)
def TlB (u:Value) (b:Nat):Prop:=∃ A n c,u=.slice (some A) n c/\0<c/\A.block=b
def TlOk (w:World) (z:Nat) (T:TypeId) (u:Value) (us:List Value):Prop:=
 ∃ A c,u=.slice A us.length c/\us.length<=c/\(c=0\/∃ g p,A=some ⟨g,List.length p*z,none⟩/\Own vcs z T w 0 (.slice (some ⟨g,0,none⟩) (p.length+us.length) (p.length+c)) (p++us))
def Hp.blk:Hp->Nat->Prop
 | .sl v _ _ _=>λb=>v.ownBlock=some b
 | .bx g _ _=>λb=>g=b
 | .it g _ _=>λb=>g=b
 | .tab _ _=>λ_=>False
 | .mp g _ _=>λb=>g=b
 | .slo u _ _ _=>TlB u
 | .sl2 v0 v _ _ _ _=>λb=>v0.ownBlock=some b\/v.ownBlock=some b
def Hp.ok (w:World) (F:Nat->Prop):Hp->Prop
 | .sl v z T xs=>∃ us,RepE w F z xs us/\Own vcs z T w 0 v us
 | .bx g T x=>∃ u,D.rep w F x u/\One u/\w.heap[g]?=some (.cells u.cells T (0,0))
 | .it g s p=>w.heap[g]?=some (.stringIter s p)
 | .tab g cs=>F g/\∃ T fr,w.heap[g]?=some (.cells cs T fr)
 | .mp g ks xs=>∃ es clock us,w.heap[g]?=some (.map es clock)/\es.toList.map (·.key)=ks.map Value.string/\es.toList.map (·.val)=us/\D.repA w F xs us
 | .slo u z T xs=>∃ us,RepE w F z xs us/\TlOk w z T u us
 | .sl2 v0 v z T m xs=>∃ us,RepE w F z xs us/\Own vcs z T w 0 v us/\Own vcs z T w 0 v0 (us.take m)/\m<=xs.length
theorem Hp.lt {w:World} {F:Nat->Prop} {h:Hp} (ok:h.ok w F) {g:Nat} (hg:h.blk g):g<w.heap.size:=by
 cases h with
 | sl v z T xs=>obtain ⟨us,_,ho⟩:=ok;exact(ho.lt hg).2
 | sl2 v0 v z T m xs=>
  obtain ⟨us,_,ho,ho0,_⟩:=ok;rcases hg with hg | hg
  · exact(ho0.lt hg).2
  exact(ho.lt hg).2
 | bx g' T x=>obtain ⟨u,_,_,hh⟩:=ok;cases hg;exact(jP.1 hh).1
 | it g' s p=>cases hg;exact(jP.1 ok).1
 | tab g' cs=>exact hg.elim
 | mp g' ks xs=>obtain ⟨es,c,us,h,_⟩:=ok;cases hg;exact(jP.1 h).1
 | slo u z T xs=>
  obtain ⟨us,_,A,c,e,_,h⟩:=ok;obtain ⟨A',n,c',e',hc,hb⟩:=hg;rw[e] at e';injection e' with e1 _ e2;rcases h with h | ⟨g0,p,eA,ho⟩
  · omega
  rw[eA] at e1;injection e1 with e1;subst e1;subst hb;exact(ho.lt rfl).2
theorem Hp.keep {w w':World} {F F':Nat->Prop} {h:Hp} (ok:h.ok w F) (k:Keep w F w' F') (hs:∀ g,h.blk g->w'.heap[g]?=w.heap[g]?):h.ok w' F':=by
 cases h with
 | sl v z T xs=>
  obtain ⟨us,hr,ho⟩:=ok;refine⟨us,hr.keep k,⟨⟨ho.1.1,?_⟩,ho.2⟩⟩;rcases ho.1.2 with hn | ⟨g,cap,cur,rfl,hb,hgg,rest⟩
  · exact .inl hn
  exact .inr ⟨g,cap,cur,rfl,hb,by rw[hs g rfl];exact hgg,rest⟩
 | bx g T x=>obtain ⟨u,hr,h1,hh⟩:=ok;exact⟨u,D.keep k _ _ hr,h1,by rw[hs g rfl];exact hh⟩
 | sl2 v0 v z T m xs=>
  obtain ⟨us,hr,ho,ho0,hm⟩:=ok;refine⟨us,hr.keep k,⟨⟨ho.1.1,?_⟩,ho.2⟩,⟨⟨ho0.1.1,?_⟩,ho0.2⟩,hm⟩
  · rcases ho.1.2 with hn | ⟨g,cap,cur,rfl,hb,hgg,rest⟩
    · exact .inl hn
    exact .inr ⟨g,cap,cur,rfl,hb,by rw[hs g (.inr rfl)];exact hgg,rest⟩
  rcases ho0.1.2 with hn | ⟨g,cap,cur,rfl,hb,hgg,rest⟩
  · exact .inl hn
  exact .inr ⟨g,cap,cur,rfl,hb,by rw[hs g (.inl rfl)];exact hgg,rest⟩
 | it g s p=>show w'.heap[g]?=_;rw[hs g rfl];exact ok
 | tab g cs=>obtain ⟨hF,T,fr,h⟩:=ok;exact⟨k.sub g hF,T,fr,by rw[k.same g hF (jP.1 h).1];exact h⟩
 | mp g ks xs=>obtain ⟨es,c,us,h,h1,h2,h3⟩:=ok;exact⟨es,c,us,by rw[hs g rfl];exact h,h1,h2,wX k _ _ h3⟩
 | slo u z T xs=>
  obtain ⟨us,hr,A,c,e,hle,h⟩:=ok;refine⟨us,hr.keep k,A,c,e,hle,?_⟩;rcases h with h | ⟨g0,p,eA,ho⟩
  · exact .inl h
  rcases jT c with h0 | h0
  · exact .inl h0
  refine .inr ⟨g0,p,eA,⟨⟨ho.1.1,?_⟩,ho.2⟩⟩;rcases ho.1.2 with ⟨hn,_⟩ | ⟨g,cap,cur,e1,hb,hgg,rest⟩
  · cases hn
  have:g0=g:=by injection e1 with e1 _ _;injection e1 with e1;injection e1
  subst this;exact .inr ⟨g0,cap,cur,e1,hb,by rw[hs g0 ⟨_,_,_,by rw[e,eA],h0,rfl⟩];exact hgg,rest⟩
def blks (H:List Hp) (g:Nat):Prop:=∃ h∈H,h.blk g
def zfy (h h':Hp):Prop:=∀ g,h.blk g->¬h'.blk g
structure HOk (w:World) (F A:Nat->Prop) (H:List Hp):Prop where
 apart:H.Pairwise zfy
 ok:∀ h∈H,h.ok w F
 mine:∀ g,blks H g->A g/\¬F g
structure Ctx where
 w0:World
 Bor:Nat->Prop
 F0:Nat->Prop
structure Good (C:Ctx) (H:List Hp) (w:World) (F:Nat->Prop):Prop where
 size:C.w0.heap.size<=w.heap.size
 os:w.os=C.w0.os
 tape:w.tape=C.w0.tape
 output:w.output=C.w0.output
 drawn:Dr C.w0 w
 frame:∀ b,b<C.w0.heap.size->¬C.Bor b->w.heap[b]?=C.w0.heap[b]?
 fsub:∀ b,C.F0 b->F b
 fnew:∀ b,F b->C.F0 b\/C.w0.heap.size<=b\/C.Bor b
 flt:∀ b,F b->b<w.heap.size
 h:HOk w F (λg=>C.w0.heap.size<=g\/C.Bor g) H
theorem Good.sub {C:Ctx} {H H':List Hp} {w:World} {F:Nat->Prop} (g:Good C H w F) (hs:H'.Sublist H):Good C H' w F:=
 { g with h:=⟨g.h.apart.sublist hs,λh hh=>g.h.ok h (hs.subset hh),λb ⟨h,hh,e⟩=>g.h.mine b ⟨h,hs.subset hh,e⟩⟩ }
theorem Good.ext {C:Ctx} {H:List Hp} {w w':World} {F:Nat->Prop} (g:Good C H w F) (E:Ext w w'):Good C H w' F where
 size:=dY g.size E.size
 os:=E.os.trans g.os
 tape:=E.tape.trans g.tape
 output:=E.output.trans g.output
 drawn:=Dr.trans g.drawn E.drawn
 frame:=λb hb hn=>(E.block b (jZ hb g.size) (.inr (cX _))).trans (g.frame b hb hn)
 fsub:=g.fsub
 fnew:=g.fnew
 flt:=λb hb=>jZ (g.flt b hb) E.size
 h:=⟨g.h.apart,λh hh=>Hp.keep (g.h.ok h hh) ⟨λ_ h=>h,λb _ hb=>E.block b hb (.inr (cX _))⟩ (λb hb=>E.block b (Hp.lt (g.h.ok h hh) hb) (.inr (cX _))),g.h.mine⟩
theorem Keep.ext {w w':World} {F:Nat->Prop} (E:Ext w w'):Keep w F w' F:=⟨λ_ h=>h,λb _ hb=>E.block b hb (.inr (cX _))⟩
end Lp
