import Derived.Deep.Strs
import Derived.Deep.DeepHandedRow
import Derived.Test.YtheccaeefigajaaGreatDoorProg
import Derived.Test.YtheccaeefigajaaGreatDoorDDoor3
set_option linter.unusedSimpArgs false
set_option linter.unusedVariables false
set_option maxRecDepth 100000
namespace Lp
open Go Go.RowKit Go.ChangeShapes Go.Deep Go.Proofs Go.Proofs.YtheccaeefigajaaGreatDoor
instance:Inhabited MatD:=⟨⟨ByteArray.empty,0,ByteArray.empty⟩⟩
section
variable {H:Type} {enc:TypeId×Value->H} {P:Program} {w:World} {held:Bool} {sp:Nat->Bool}
abbrev UB (d:DataW H):Nat:=Rows.uptoBulk d
abbrev UBs (l:List (DataW H)):Nat:=Rows.uptoBulkAll l
theorem ub_mem {d:DataW H} {l:List (DataW H)} (h:d∈l):UB d<=UBs l:=by
 induction l with
 | nil=>cases h
 | cons x r ih=>
  show Rows.uptoBulk d<=Rows.uptoBulkAll (x::r);simp only[Rows.uptoBulkAll];cases dW.1 h with
  | inl e=>subst e;omega
  | inr e=>have ih':Rows.uptoBulk d<=Rows.uptoBulkAll r:=ih e;omega
theorem ub_str {H:Type} (s:ByteArray):UB (DataW.lit (H:=H) (.string s.data.toList))=s.size+1:=by
 show Rows.uptoBulk (DataW.lit _)=_;rw[Rows.uptoBulk,u9];rfl
theorem open_slQ {α:Type} [Inhabited α] {cs:α->List Value} {z:Nat} {t e:TypeId} {fuel:Nat} {vs:List Value} {x:DataW H×List MemPlace} (Q:α->Prop) (sz:α->Nat) (ht:P.underlying t=some (.slice e)) (hz:P.cellsOf e=z) (hz0:0<z)
 (h:DataW.trod enc P w 0 sp held fuel t vs=some x)
 (el:∀ n cs' y,DataW.trod enc P w 0 sp held n e cs'=some y->∃ d:α,cs'=cs d/\(cs d).length=z/\Q d/\sz d<=UB y.1):
 ∃ v xs,vs=[v]/\SlT cs z w 0 w.heap.size v xs/\(∀ d∈xs,Q d)/\xs.length<=maxLen/\∀ d∈xs,sz d<=UB x.1:=by
 rcases open_slice ht h with ⟨rfl,_⟩ | ⟨a,len,cap,m,n,D,Pl,rfl,_,hl,hm,hmm,rfl,hx⟩
 · exact⟨_,[],rfl,SlT.nil (cU _),by simp,by simp,by simp⟩
 have hlm:len<=m:=by rw[hmm];split<;>omega
 obtain ⟨f,hf⟩:=choose_lt (α:=α) (n:=len) (p:=λi d=>w.cells? 0 (a.add (i*z)) z=some (cs d)/\(cs d).length=z/\Q d/\sz d<=UB (D i)) (λi hi=>by
  obtain ⟨cs',h1,h2⟩:=hx i (by omega);obtain ⟨d,rfl,h3,h4⟩:=el _ _ _ h2;rw[hz] at h1;exact⟨d,h1,h3,h4⟩)
 have hlen:((List.range len).map f).length=len:=by simp
 refine⟨_,(List.range len).map f,rfl,?_,?_,by rw[hlen];omega,?_⟩
 · refine⟨some a,cap,by simp,by simpa using hl,?_,λhne=>?_,cU _⟩
   · intro y hy;simp only[uD,dU] at hy;obtain ⟨d,⟨i,hi,rfl⟩,rfl⟩:=hy;exact(hf i hi).2.1
   have hl0:0<len:=by
    rcases jN len with h0 | h0
    · subst h0;simp at hne
    exact h0
   obtain ⟨c1,c2,c3⟩:=World.cells?_some (hf 0 hl0).1;have hc0:=c3 0 hz0;have:((cs (f 0))[0]?).isSome:=(by rw[dK (by omega)];rfl);obtain ⟨u,hu⟩:=wA.1 this;rw[hu] at hc0;simp only[Nat.zero_mul] at hc0;have ha0:a.add 0=a:=(by simp[Addr.add]);rw[ha0,ha0] at hc0;obtain ⟨p1,p2,p3⟩:=addr_plain (a:=a) (i:=0) (by rw[ha0];exact hc0);rw[ha0] at p1;refine⟨a.block,a.off,by rw[jY] at p1;exact congrArg some p1,cX _,p3,λi y hy=>?_⟩;simp only[j0,Option.map_map] at hy;have hi:i<len:=by
    rcases c8 i len with e | e
    · exact e
    rw[jT (by simpa using e)] at hy;cases hy
   rw[List.getElem?_range hi] at hy;simp at hy;subst hy;refine⟨p3,λj u hu=>?_⟩;obtain ⟨d1,d2,d3⟩:=World.cells?_some (hf i hi).1;have hj:j<z:=(by rw[<-(hf i hi).2.1];exact(dE.1 hu).1);have hc:=d3 j hj;rw[hu,add_add] at hc;rw[(addr_plain hc).1] at hc;rw[vN];exact hc
 · intro d hd;simp only[uD,dU] at hd;obtain ⟨i,hi,rfl⟩:=hd;exact(hf i hi).2.2.1
 intro d hd;simp only[uD,dU] at hd;obtain ⟨i,hi,rfl⟩:=hd;have h1:=(hf i hi).2.2.2;have h2:=ub_mem (l:=(List.range len).map D) (uD.2 ⟨i,dU.2 hi,rfl⟩);have h3:UB (DataW.slice ((List.range len).map D) ((List.range (m-len)).map λj=>D (len+j)))=UBs ((List.range len).map D)+UBs ((List.range (m-len)).map λj=>D (len+j))+1:=by simp only[UB,UBs,Rows.uptoBulk]
 show _<=UB (DataW.slice _ _);omega
theorem open_slDB {α:Type} [Inhabited α] (f:α->D) (sz:α->Nat) {z:Nat} {t e:TypeId} {fuel:Nat} {vs:List Value} {x:DataW H×List MemPlace} (ht:P.underlying t=some (.slice e)) (hz:P.cellsOf e=z) (hz0:0<z)
 (h:DataW.trod enc P w 0 sp held fuel t vs=some x)
 (el:∀ n cs' y,DataW.trod enc P w 0 sp held n e cs'=some y->∃ d:α,InD w z (f d) cs'/\sz d<=UB y.1):
 ∃ (v:Value) (xs:List α),vs=[v]/\D.rep w (FA w) (.sh z (xs.map f)) v/\∀ d∈xs,sz d<=UB x.1:=by
 haveI:Inhabited (α×Value):=⟨(default,undef)⟩
 obtain ⟨v,xs,h1,h2,h3,h4,h5⟩:=open_slQ (α:=α×Value) (cs:=λp=>vcs p.2) (z:=z) (λp=>D.rep w (FA w) (f p.1) p.2/\One p.2/\(vcs p.2).length=z) (λp=>sz p.1) ht hz hz0 h (λn cs' y hy=>by
  obtain ⟨d,⟨u,e1,e2,e3,e4⟩,e5⟩:=el n cs' y hy;exact⟨(d,u),e1,by rw[<-e1];exact e4,⟨e2,e3,by rw[<-e1];exact e4⟩,e5⟩)
 refine⟨v,xs.map (·.1),h1,?_,λd hd=>by
  obtain ⟨p,hp,rfl⟩:=uD.1 hd;exact h5 p hp⟩
 have hE:∀ ys:List (α×Value),(∀ p∈ys,D.rep w (FA w) (f p.1) p.2/\One p.2/\(vcs p.2).length=z)->RepE w (FA w) z ((ys.map (·.1)).map f) (ys.map (·.2)):=by
  intro ys
  induction ys with
  | nil=>intro _;exact rfl
  | cons p r ih=>
   intro hp;have h0:=hp p cW;exact⟨p.2,r.map (·.2),rfl,h0.1,h0.2.1,by simpa [vcs] using h0.2.2,ih (λq hq=>hp q (c7 _ hq))⟩
 have hsl:SlT vcs z w 0 w.heap.size v (xs.map (·.2)):=by
  show Sl w 0 w.heap.size z v ((xs.map (·.2)).map vcs);rw[vC];exact h2
 refine D.sl_rep (hE xs h3) hsl (λhn g hg=>?_) (by simpa using h4);obtain ⟨A,c,e1,e2,e3,e4,e5⟩:=hsl;obtain ⟨b,o,e6,_,e7,_⟩:=e4 (by simpa using hn);rw[e1,e6] at hg;cases hg;exact e7
end
section
variable {H:Type} {enc:TypeId×Value->H} {w:World} {held:Bool} {sp:Nat->Bool} {n:Nat}
theorem in_strB {cs:List Value} {y:DataW H×List MemPlace} (h:DataW.trod enc Tryz.prog w 0 sp held n 9 cs=some y):∃ d:ByteArray,InD w 1 (.s d) cs/\d.size<=UB y.1:=by
 obtain ⟨s0,e0,e1,k0⟩:=DataW.trod_string (by kernel_rfl) h;exact⟨s0,by rw[e0];exact InD.one ⟨rfl,k0⟩ rfl,by rw[e1];have:=ub_str (H:=H) s0;show _<=UB (DataW.lit (.string s0.data.toList));omega⟩
theorem in_mat {cs:List Value} {y:DataW H×List MemPlace} (h:DataW.trod enc Tryz.prog w 0 sp held n 65 cs=some y):∃ d:MatD,InD w 3 (MatD.d d) cs/\d.n.size<=UB y.1:=by
 obtain ⟨y0,y1,y2,m,e,hl,h0,h1,h2⟩:=trod_struct3 (f0:=⟨"Name",9,0,false, "", "",0⟩) (f1:=⟨"Op",3,1,false, "", "",16⟩) (f2:=⟨"Value",9,2,false, "", "",24⟩) (by kernel_rfl) h;have hl:cs.length=3:=hl.trans (by kernel_rfl);obtain ⟨a,b,c,rfl⟩:∃ a b c,cs=[a,b,c]:=by
  match cs,hl with
  | [a,b,c],_=>exact⟨a,b,c,rfl⟩
 obtain ⟨s0,e0,e3,k0⟩:=DataW.trod_string (by kernel_rfl) (show DataW.trod enc Tryz.prog w 0 sp held m 9 [a]=some y0 from h0);obtain ⟨i,e1,_,_⟩:=DataW.trod_int (by kernel_rfl) (show DataW.trod enc Tryz.prog w 0 sp held m 3 [b]=some y1 from h1);obtain ⟨s2,e2,_,k2⟩:=DataW.trod_string (by kernel_rfl) (show DataW.trod enc Tryz.prog w 0 sp held m 9 [c]=some y2 from h2);have e0:a=.string s0:=by simpa using e0
 have e1:b=.int .i64 i:=by simpa using e1
 have e2:c=.string s2:=by simpa using e2
 subst e0;subst e1;subst e2;refine⟨⟨s0,i,s2⟩,⟨.agg #[.string s0,.int .i64 i,.string s2],rfl,⟨_,rfl,_,_,rfl,rfl,⟨rfl,k0⟩,_,_,rfl,rfl,rfl,_,_,rfl,rfl,⟨rfl,k2⟩,rfl⟩,λc hc=>by
  simp[Value.cells] at hc;rcases hc with rfl | rfl | rfl<;>rfl,rfl⟩,?_⟩
 have hb:UB y.1=UB y0.1+(UB y1.1+(UB y2.1+0))+1:=by rw[e];simp only[UB,Rows.uptoBulk,Rows.uptoBulkAll]
 have h9:UB y0.1=s0.size+1:=by rw[e3];exact ub_str s0
 show s0.size<=_;omega
theorem in_mats {vs:List Value} {x:DataW H×List MemPlace} (h:DataW.trod enc Tryz.prog w 0 sp held n 24 vs=some x):∃ (v:Value) (ls:List MatD),vs=[v]/\D.rep w (FA w) (.sh 3 (ls.map MatD.d)) v/\∀ x'∈ls,x'.n.size<=UB x.1:=
 open_slDB MatD.d (λm=>m.n.size) (by kernel_rfl) (by kernel_rfl) (by decide) h (λ_ _ _ h=>in_mat h)
end
end Lp
namespace Lp
open Go Go.RowKit
section
variable {P:Program} {N:Nat} {C:Ctx} {K K2:Kd} {H:List Hp} {ops:List Oper} {i:Nat} {Kt:Env->World->(Nat->Prop)->Prop}
def inL:List Nat->Nat->Bool
 | [],_=>false
 | k::r,t=>bif Nat.beq t k then true else inL r t
def ksK (K:Kd):List Nat:=K.map Prod.fst
theorem inL_no:∀ {K:Kd} {t:Nat},inL (ksK K) t=false->zU K t=none
 | [],_,_=>rfl
 | (d,v)::r,t,h=>by
  have h:(bif Nat.beq t d then true else inL (ksK r) t)=false:=h;show (bif Nat.beq t d then some v else zU r t)=none;cases e:Nat.beq t d with
  | true=>rw[e] at h;cases h
  | false=>rw[e] at h;exact inL_no h
def KX (K K2:Kd):Prop:=∀ t d,zU K t=some d->zU K2 t=some d
theorem KX.cons {t:Nat} {d:D} (h:KX K K2) (hf:zU K t=none):KX K ((t,d)::K2):=λq x hq=>by
 show (bif Nat.beq q t then some d else zU K2 q)=some x;cases e:Nat.beq q t with
 | true=>rw[dL e] at hq;rw[hf] at hq;cases hq
 | false=>exact h q x hq
theorem KX.both {t:Nat} {d:D} (h:KX K K2):KX ((t,d)::K) ((t,d)::K2):=λq x hq=>by
 have hq:(bif Nat.beq q t then some d else zU K q)=some x:=hq;show (bif Nat.beq q t then some d else zU K2 q)=some x;cases e:Nat.beq q t with
 | true=>rw[e] at hq;exact hq
 | false=>rw[e] at hq;exact h q x hq
theorem mZ (h:KX K K2) (n:OpsD P N C ops i K H Kt):OpsD P N C ops i K2 H Kt:=⟨λa w F ok hk g=>n.out a w F ok (λt d e=>hk t d (h t d e)) g⟩
theorem kx:∀ (m:Nat) {K K2:Kd},K2.drop m=K->(K2.take m).all (λx=>!inL (ksK K) x.1)=true->KX K K2
 | 0,K,K2,h,_=>λt d e=>by rw[<-h] at e;exact e
 | m+1,K,[],h,_=>λt d e=>by rw[<-h] at e;cases e
 | m+1,K,(t,d)::K2,h,hf=>by
  rw[vM,List.all_cons,cY] at hf;exact(kx m h hf.2).cons (inL_no (by simpa using hf.1))
def skB (ops:List Oper) (N j:Nat) (want:Bool) (ks:List Nat):Nat->Nat->Bool
 | _,0=>true
 | i,n+1=>(match opAt ops i with
  | some (some t,_,_,some (j',w))=>Nat.beq j' j&&(w==want)&&Nat.blt t N&&!inL ks t
  | _=>false)&&skB ops N j want ks (i+1) n
theorem od_skips {j s:Nat} {b want:Bool} (hj:zas ops j=some s) (hs:Nat.blt s N=true) (hb:zU K s=some (.v (.bool b))) (hne:b≠want):∀ (n i:Nat),skB ops N j want (ksK K) i n=true->OpsD P N C ops (i+n) K H Kt->OpsD P N C ops i K H Kt
 | 0,i,_,h=>h
 | n+1,i,hk,h=>by
  unfold skB at hk;rw[cY] at hk;obtain ⟨h1,h2⟩:=hk;split at h1
  · rename_i t op ty j' w ho;simp only[cY,vH,beq_iff_eq] at h1;obtain ⟨⟨⟨a1,a2⟩,a3⟩,a4⟩:=h1;have a1:=dL a1;subst a1;subst a2;exact od_skip ho a3 hj hs hb (λe=>hne (by injection e)) (mZ (KX.cons (λ_ _ e=>e) (inL_no a4)) (od_skips hj hs hb hne n (i+1) h2 (by rw[show i+1+n=i+(n+1) by omega];exact h)))
  cases h1
theorem KX.same {s:Nat} {d:D} (h:zU K s=some d):KX ((s,d)::K) K:=λq x hq=>by
 have hq:(bif Nat.beq q s then some d else zU K q)=some x:=hq;cases e:Nat.beq q s with
 | true=>rw[e] at hq;rw[dL e,h];exact hq
 | false=>rw[e] at hq;exact hq
theorem KX.tail {s:Nat} {d d':D} (h:KX ((s,d)::K) K2) (e:zU K s=some d):KX K K2:=λq x hq=>h q x (by
 show (bif Nat.beq q s then some d else zU K q)=some x;cases e':Nat.beq q s with
 | true=>rw[dL e',e] at hq;exact hq
 | false=>exact hq)
theorem od_or {b c:Bool} (j n:Nat) {s t:Tmp} {y:Operand} {ty:TypeId} (hp:opAt ops (i+n)=some (some t,.pick (.tmp s) (.const (.bool true)) y,ty,none)) (ht:Nat.blt t N=true) (hj:zas ops j=some s) (hs:Nat.blt s N=true) (hb:zU K s=some (.v (.bool b))) (hk:skB ops N j false (ksK K) i n=true)
 (run:b=false->(∀ K2,zU K2 s=some (.v (.bool false))->opD K2 y=some (.v (.bool c))->KX ((s,.v (.bool false))::K) K2->OpsD P N C ops (i+n) K2 H Kt)->OpsD P N C ops i ((s,.v (.bool false))::K) H Kt)
 (next:OpsD P N C ops (i+n+1) ((t,.v (.bool (b||c)))::K) H Kt):OpsD P N C ops i K H Kt:=by
 cases b with
 | true=>exact od_skips hj hs hb (by simp) n i hk (zgt hp ht (zdG hb rfl) next)
 | false=>exact mZ (KX.same hb) (run rfl λK2 h1 h2 hx=>zgt hp ht (zed h1 h2) (mZ (hx.tail (d':=.any) hb).both next))
theorem od_and {b c:Bool} (j n:Nat) {s t:Tmp} {x:Operand} {ty:TypeId} (hp:opAt ops (i+n)=some (some t,.pick (.tmp s) x (.const (.bool false)),ty,none)) (ht:Nat.blt t N=true) (hj:zas ops j=some s) (hs:Nat.blt s N=true) (hb:zU K s=some (.v (.bool b))) (hk:skB ops N j true (ksK K) i n=true)
 (run:b=true->(∀ K2,zU K2 s=some (.v (.bool true))->opD K2 x=some (.v (.bool c))->KX ((s,.v (.bool true))::K) K2->OpsD P N C ops (i+n) K2 H Kt)->OpsD P N C ops i ((s,.v (.bool true))::K) H Kt)
 (next:OpsD P N C ops (i+n+1) ((t,.v (.bool (b&&c)))::K) H Kt):OpsD P N C ops i K H Kt:=by
 cases b with
 | false=>exact od_skips hj hs hb (by simp) n i hk (zgt hp ht (zed hb rfl) next)
 | true=>exact mZ (KX.same hb) (run rfl λK2 h1 h2 hx=>zgt hp ht (zdG h1 h2) (mZ (hx.tail (d':=.any) hb).both next))
end
theorem orF {a b:Bool} (h:(a||b)=false):a=false/\b=false:=by cases a<;>cases b<;>simp at h ⊢
theorem andT {a b:Bool} (h:(a&&b)=true):a=true/\b=true:=by cases a<;>cases b<;>simp at h ⊢
theorem notT {a:Bool} (h:(!a)=true):a=false:=by cases a<;>simp at h ⊢
theorem notF {a:Bool} (h:(!a)=false):a=true:=by cases a<;>simp at h ⊢
end Lp
namespace Lp
open Go Go.RowKit Go.Proofs
theorem mixed:Tryz.prog.follows .mixedOrders=true:=by kernel_rfl
abbrev T':Bool:=true
abbrev F':Bool:=false
abbrev dZ:D:=.v (.slice none 0 0)
abbrev dP (g o:Nat):D:=.v (.pointer (some ⟨g,o,none⟩))
abbrev vS (g n c:Nat):Value:=.slice (some ⟨g,0,none⟩) n c
def cpF {α:Type}:List α->Option (List α)
 | []=>some []
 | x::r=>match cpF r with
  | some l=>some (x::l)
  | none=>none
theorem cpF_eq {α:Type}:∀ {l l':List α},cpF l=some l'->l=l'
 | [],_,h=>by injection h
 | x::r,l',h=>by
  unfold cpF at h;split at h
  · rename_i l hl;injection h with h;rw[<-h,cpF_eq hl]
  cases h
def kpF:List Nat->Kd->Option Kd
 | [],_=>some []
 | t::r,K=>match zU K t with
  | some d=>match kpF r K with
   | some l=>some ((t,d)::l)
   | none=>none
  | none=>none
theorem kpF_sub:∀ {ts:List Nat} {K K':Kd},kpF ts K=some K'->SubK K' K
 | [],_,_,h=>by injection h with h;subst h;trivial
 | t::r,K,K',h=>by
  unfold kpF at h;split at h
  · rename_i d hd;split at h
    · rename_i l hl;injection h with h;subst h;exact⟨⟨d,hd,wZ⟩,kpF_sub hl⟩
    cases h
  cases h
theorem sa:∀ {K' K:Kd},K'.map (λp=>zU K p.1)=K'.map (λp=>some p.2)->SubK K' K
 | [],_,_=>trivial
 | (t,d)::r,K,h=>by
  simp only[jQ,List.cons.injEq] at h;exact⟨⟨d,h.1,wZ⟩,sa h.2⟩
def snF:List Bool->Bool->Option (List Bool)
 | [],b=>some [b]
 | x::r,b=>match snF r b with
  | some l=>some (x::l)
  | none=>none
theorem zd3:∀ {p q:List Bool} {b:Bool},snF p b=some q->p++[b]=q
 | [],_,_,h=>by injection h
 | x::r,q,b,h=>by
  unfold snF at h;split at h
  · rename_i l hl;injection h with h;rw[<-h,jA,zd3 hl]
  cases h
def zgh (K:Kd):Op->Option D
 | .move x=>opD K x
 | .assign x=>opD K x
 | .extract x n=>match opD K x with
  | some (.tup ds)=>nth ds n
  | _=>none
 | .pick c x y=>match opD K c with
  | some (.v (.bool true))=>opD K x
  | some (.v (.bool false))=>opD K y
  | _=>none
 | .unOp .not _ x=>match opD K x with
  | some (.v (.bool true))=>some (.v (.bool false))
  | some (.v (.bool false))=>some (.v (.bool true))
  | _=>none
 | .nilCheck x=>match opD K x with
  | some (.v (.pointer (some a)))=>some (.v (.pointer (some a)))
  | some (.el X o)=>some (.el X o)
  | _=>none
 | _=>none
theorem pureD_ok {P:Program} {ty:TypeId} {K:Kd} {H:List Hp} {op:Op} {d:D} (h:zgh K op=some d):Pu P op ty K H d:=by
 unfold zgh at h;split at h
 · exact zk h
 · exact p_assign h
 · split at h
   · rename_i hx;exact p_extract hx h
   cases h
 · split at h
   · rename_i hc;exact zdG hc h
   · rename_i hc;exact zed hc h
   cases h
 · split at h
   · rename_i hx;injection h with h;subst h;exact zf6 (q:=true) hx
   · rename_i hx;injection h with h;subst h;exact zf6 (q:=false) hx
   cases h
 · split at h
   · rename_i hx;injection h with h;subst h;exact zK hx
   · rename_i hx;injection h with h;subst h;exact zcB hx
   cases h
 cases h
def oneC (N:Nat) (t:Tmp):Option D->Option (Tmp×D)
 | some d=>bif Nat.blt t N then some (t,d) else none
 | none=>none
def guardD (K:Kd) (want:Bool) (op:Op):Option D->Option D
 | some (.v u)=>match nb u,want with
  | some true,true=>zgh K op
  | some false,false=>zgh K op
  | some true,false=>some (.v undef)
  | some false,true=>some (.v undef)
  | none,_=>some (.v undef)
 | _=>none
def oneD (ops:List Oper) (i N:Nat) (K:Kd):Option (Tmp×D):=
 match opAt ops i with
 | some (some t,op,_,none)=>oneC N t (zgh K op)
 | some (some t,op,_,some (j,want))=>match zas ops j with
  | some s=>bif Nat.blt s N then oneC N t (guardD K want op (zU K s)) else none
  | none=>none
 | _=>none
def opP (ops:List Oper) (i N:Nat):Option (Tmp×Op×TypeId):=match opAt ops i with
 | some (some t,op,ty,none)=>bif Nat.blt t N then some (t,op,ty) else none
 | _=>none
def opE (ops:List Oper) (i N:Nat):Option (Option Tmp×Op×TypeId):=match opAt ops i with
 | some (t,op,ty,none)=>bif dok N t then some (t,op,ty) else none
 | _=>none
def gdF (ops:List Oper) (N:Nat) (K:Kd) (j:Nat) (want:Bool):Bool:=match zas ops j with
 | some s=>match zU K s with
  | some (.v (.bool b))=>Nat.blt s N&&(b==want)
  | _=>false
 | none=>false
def opG (ops:List Oper) (i N:Nat) (K:Kd):Option (Option Tmp×Op×TypeId):=match opAt ops i with
 | some (t,op,ty,some (j,want))=>match dok N t,gdF ops N K j want with
  | true,true=>some (t,op,ty)
  | _,_=>none
 | _=>none
section
variable {P:Program} {N:Nat} {C:Ctx} {K:Kd} {H:List Hp} {ops:List Oper} {i:Nat} {Kt:Env->World->(Nat->Prop)->Prop}
theorem nb_b {u:Value} {b:Bool} (h:nb u=some b):u=.bool b:=by cases u<;>simp[nb] at h;rw[h]
theorem opP_ok {t:Tmp} {op:Op} {ty:TypeId} (h:opP ops i N=some (t,op,ty)):opAt ops i=some (some t,op,ty,none)/\Nat.blt t N=true:=by
 unfold opP at h;split at h
 · rename_i t' op' ty' ho;cases hb:Nat.blt t' N
   · simp[hb] at h
   simp[hb] at h;obtain ⟨h1,h2,h3⟩:=h;subst h1;subst h2;subst h3;exact⟨ho,hb⟩
 cases h
theorem opE_ok {t:Option Tmp} {op:Op} {ty:TypeId} (h:opE ops i N=some (t,op,ty)):opAt ops i=some (t,op,ty,none)/\dok N t=true:=by
 unfold opE at h;split at h
 · rename_i t' op' ty' ho;cases hb:dok N t'
   · simp[hb] at h
   simp[hb] at h;obtain ⟨h1,h2,h3⟩:=h;subst h1;subst h2;subst h3;exact⟨ho,hb⟩
 cases h
theorem opG_ok {t:Option Tmp} {op:Op} {ty:TypeId} (h:opG ops i N K=some (t,op,ty)):∃ j want s,opAt ops i=some (t,op,ty,some (j,want))/\dok N t=true/\zas ops j=some s/\Nat.blt s N=true/\zU K s=some (.v (.bool want)):=by
 unfold opG at h;split at h
 · rename_i t' op' ty' j want ho;split at h
   · rename_i h1 h2;injection h with h;injection h with e1 h;injection h with e2 e3;subst e1;subst e2;subst e3;unfold gdF at h2;split at h2
     · rename_i s hs;split at h2
       · rename_i b hb;simp only[cY,beq_iff_eq] at h2;obtain ⟨h3,h4⟩:=h2;subst h4;exact⟨j,b,s,ho,h1,hs,h3,hb⟩
       cases h2
     cases h2
   cases h
 cases h
theorem oP {t:Tmp} {op:Op} {ty:TypeId} {d:D} (ho:opP ops i N=some (t,op,ty)) (h:Pu P op ty K H d) (k:OpsD P N C ops (i+1) ((t,d)::K) H Kt):OpsD P N C ops i K H Kt:=zgt (opP_ok ho).1 (opP_ok ho).2 h k
theorem oE {t:Option Tmp} {op:Op} {ty:TypeId} {R:D->List Hp->Prop} (ho:opE ops i N=some (t,op,ty)) (h:Ef P op ty K H R) (k:∀ d H',R d H'->OpsD P N C ops (i+1) (upK K t d) H' Kt):OpsD P N C ops i K H Kt:=od_step (opE_ok ho).1 (opE_ok ho).2 h k
theorem oF {t:Option Tmp} {op:Op} {ty:TypeId} {R:D->List Hp->Prop} (ho:opG ops i N K=some (t,op,ty)) (h:Ef P op ty K H R) (k:∀ d H',R d H'->OpsD P N C ops (i+1) (upK K t d) H' Kt):OpsD P N C ops i K H Kt:=by
 obtain ⟨j,want,s,h1,h2,h3,h4,h5⟩:=opG_ok ho;exact od_run h1 h2 h3 h4 h5 h k
theorem oG {t:Tmp} {op:Op} {ty:TypeId} {d:D} (ho:opG ops i N K=some (some t,op,ty)) (h:Pu P op ty K H d) (k:OpsD P N C ops (i+1) ((t,d)::K) H Kt):OpsD P N C ops i K H Kt:=
 oF ho h.ef λ_ _ ⟨e1,e2⟩=>by subst e1;subst e2;exact k
theorem acs {L:List Hp}:∀ {ds:List D},ArgCs L ds ds
 | []=>.nil
 | _::_=>.cons mH acs
end
section
variable {P:Program} {N:Nat} {C:Ctx} {K:Kd} {H:List Hp} {ops:List Oper} {i:Nat} {Kt:Env->World->(Nat->Prop)->Prop} {Q:zbY}
end
theorem cS {b:ByteArray} (h:b.size<=maxLen:=by first | decide | (unfold maxLen;omega)):Cv (.v (.string b)) (.s b):=Cv.str h
theorem cB {a b:Bool} (h:a=b):Cv (.v (.bool a)) (.v (.bool b)):=w5 (congrArg (λb=>D.v (.bool b)) h)
abbrev FaP (P:Program) (t:TypeId) (f k:Nat):Prop:=∀ (b o:Nat) w,(Instr.fieldAt t (.pointer (some ⟨b,o,none⟩)) f).run P w=.ok (.pointer (some ⟨b,o+k,none⟩)) w
abbrev IzP (P:Program) (t:TypeId) (z:Value) (n b:Nat):Prop:=∃ i,P.info? t=some i/\i.zero=some z/\i.size=n/\i.bytes=b
abbrev BdP (P:Program) (fs:Array Field) (l:List (Nat×Nat)):Prop:=∀ w,((fs.mapM λf=>do pure (f.offset,<-Go.sizeOf f.type):Sem (Array (Nat×Nat)))).run P w=.ok l.toArray w
section
variable {P:Program} {N:Nat} {C:Ctx} {K:Kd} {H:List Hp} {Q:zbY} {c:Code} {p pa pb:List Bool}
def cnF (c:Code) (p:List Bool) (K:Kd):Option (List Bool×List Bool×D):=match zf8 (cd c p),snF p false,snF p true with
 | some x,some a,some b=>match opD K x with
  | some d=>some (a,b,d)
  | none=>none
 | _,_,_=>none
theorem jC {t:Bool} (h:cnF c p K=some (pa,pb,.v (.bool t))) (ht:t=true->JD P N C (cd c pa) K H Q) (hf:t=false->JD P N C (cd c pb) K H Q):JD P N C (cd c p) K H Q:=by
 unfold cnF at h;split at h
 · rename_i x a b h1 h2 h3;split at h
   · rename_i d hd;injection h with h;injection h with e1 h;injection h with e2 e3;subst e1;subst e2;subst e3;exact jd_cond _ _ h1 (zd3 h2) (zd3 h3) hd ht hf
   cases h
 cases h
theorem jD {φ:Prop} {_:Decidable φ} (h:cnF c p K=some (pa,pb,.v (.bool (decide φ)))) (ht:φ->JD P N C (cd c pa) K H Q) (hf:¬φ->JD P N C (cd c pb) K H Q):JD P N C (cd c p) K H Q:=
 jC h (λe=>ht (of_decide_eq_true e)) (λe=>hf (of_decide_eq_false e))
def lpF (c:Code) (p:List Bool):Option (List Bool):=match isLoop (cd c p),snF p false with
 | true,some a=>some a
 | _,_=>none
theorem lpF_ok (h:lpF c p=some pa):isLoop (cd c p)=true/\p++[false]=pa:=by
 unfold lpF at h;split at h
 · rename_i h1 h2;injection h with h;subst h;exact⟨h1,zd3 h2⟩
 cases h
end
theorem bA (a b:Bool):((a&&b)=true)=(a=true/\b=true):=cY a b
theorem bB (a b:Bool):((a||b)=true)=(a=true\/b=true):=d6 a b
theorem bC (b:Bool):((!b)=true)=(b=false):=vH b
theorem bD (b:Bool):((!b)=false)=(b=true):=Bool.not_eq_false' b
theorem bE (a b:Bool):((a&&b)=false)=(a=false\/b=false):=by cases a<;>cases b<;>simp
theorem bF (a b:Bool):((a||b)=false)=(a=false/\b=false):=by cases a<;>cases b<;>simp
theorem bG (p:Prop) [Decidable p]:(decide p=true)=p:=decide_eq_true_eq
theorem bH (p:Prop) [Decidable p]:(decide p=false)=¬p:=by simp
theorem bI (p:Prop) [Decidable p]:(¬¬p)=p:=by simp
theorem bJ {α:Sort _} (a b:α):(a≠b)=¬a=b:=rfl
theorem bX:(∀ a b:Bool,((a&&b)=true)=(a=true/\b=true))/\(∀ a b:Bool,((a||b)=true)=(a=true\/b=true))/\(∀ a:Bool,((!a)=true)=(a=false))/\(∀ a:Bool,((!a)=false)=(a=true))/\(∀ a b:Bool,((a&&b)=false)=(a=false\/b=false))/\(∀ a b:Bool,((a||b)=false)=(a=false/\b=false))/\(∀ (p:Prop) [Decidable p],(decide p=true)=p)/\(∀ (p:Prop) [Decidable p],(decide p=false)=¬p)/\(∀ (p:Prop) [Decidable p],(¬ ¬p)=p):=
 ⟨bA,bB,bC,bD,bE,bF,bG,bH,bI⟩
theorem la {α:Type} {a b:List α}:(a++b).length=a.length+b.length:=dA
theorem lc {α:Type} {a:α} {b:List α}:(a::b).length=b.length+1:=dC
theorem ln {α:Type}:([]:List α).length=0:=d7
theorem lm {α β:Type} {a:List α} {f:α->β}:(a.map f).length=a.length:=cV f
theorem lt' {α:Type} {n:Nat} {a:List α}:(a.take n).length=min n a.length:=d5
theorem ld {α:Type} {n:Nat} {a:List α}:(a.drop n).length=a.length-n:=cZ
theorem ls {α:Type} {n:Nat} {a:List α} {x:α}:(a.set n x).length=a.length:=vQ
theorem lr {α:Type} {n:Nat} {x:α}:(List.replicate n x).length=n:=List.length_replicate
theorem O {α:Sort _} {a:α}:a=a:=rfl
theorem ga {L:List Hp} {a b:List D} {d:D} (h:ArgCs L a b):ArgCs L (d::a) (d::b):=.cons mH h
theorem gc {a b:List D} {d:D} (h:CvL a b):CvL (d::a) (d::b):=.cons wZ h
abbrev cC:D:=.v (.string ByteArray.empty)
abbrev cD:Value:=.agg #[(.int .i64 0),(.int .i64 0),(.string ByteArray.empty)]
abbrev cE:Value:=.agg #[(.int .i64 0),(.int .i32 0),(.slice none 0 0),(.slice none 0 0),(.bool false),(.int .i64 0),(.int .i64 0),(.int .i64 0),(.bool false)]
abbrev cF:Value:=.agg #[(.string ByteArray.empty),(.string ByteArray.empty),(.int .i64 0),(.int .i64 0),(.slice none 0 0),(.slice none 0 0),(.slice none 0 0),(.int .i64 0),(.int .i64 0),(.int .i64 0)]
abbrev cG:Value:=.agg #[(.bool false),(.bool false),(.slice none 0 0)]
abbrev cH:Value:=.agg #[(.bool false),(.bool false),(.slice none 0 0),(.bool false),(.int .i64 0),(.int .i64 0)]
abbrev cI:Value:=.agg #[(.string ByteArray.empty),(.int .i64 0),(.string ByteArray.empty),(.pointer none)]
abbrev cJ:Value:=.agg #[.nilIface,(.bool false),(.bool false)]
abbrev cK:Value:=.agg #[(.int .i64 0)]
abbrev cL:Value:=.agg #[(.pointer none),(.slice none 0 0)]
abbrev cM:Value:=.agg #[.nilFunc]
abbrev cN:D:=.agg [cC,cC,dI 0,dI 0,dZ,dZ,dZ,dI 0,dI 0,dI 0]
abbrev cO:D:=.agg [.any,.any,.any,.any,.any,.any,.any,.any,.any]
abbrev cP:D:=.agg [dB false,dB false,dZ]
end Lp
