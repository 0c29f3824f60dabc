import Derived.Test.YtheccaeefigajaaGreatDoorPTok3
set_option linter.unusedVariables false
namespace Lp
open Go
section
variable {r:List TokD} {u:Rd} {x z:TokD} {k:Int} {ts:List ByteArray} {w:ByteArray}
theorem St.len (h:St r u):u.l.length=r.length:=by have:=aG List.length h.l;simpa using this
theorem St.is (h:St (z::r) u):u.is k ts=(decide (z.k=k)&&hasN ts z.t):=by
 obtain ⟨e2,e3⟩:=h.pk;unfold Rd.is;rw[e2,e3]
theorem St.must (h:St (sg w::r) u):St r (u.must w)/\(u.must w).n=u.n:=by
 obtain ⟨a,b,c⟩:=aIf h.b h.l;exact⟨⟨a,c⟩,b⟩
theorem St.num {n:Nat} (h:St (⟨k,0,digB n⟩::r) u):u.number k=((n:Int),⟨u.l.tail,u.n,u.b⟩)/\St r ⟨u.l.tail,u.n,u.b⟩:=by
 obtain ⟨a,b⟩:=h.any rfl;refine⟨?_,b⟩;unfold Rd.number;rw[a,zer]
theorem St.no (h:St (z::r) u) (hz:z.k≠k\/hasN ts z.t=false) (hk:k≠0):u.take k ts=(ByteArray.empty,false,u):=h.not (.inr ⟨z,r,rfl,hz⟩) hk
end
theorem rR:∀ (l:List ByteArray),l≠[]->∀ (F:Nat) (o:List ByteArray) (u:Rd) (r:List TokD),u.l.length<F->St (comT (l.map λx=>[wk x])++tkC::r) u->∃ v,zaF F o u=(o++l,v)/\St (tkC::r) v/\v.n=u.n
 | [],h,_,_,_,_,_,_=>aH rfl h
 | _,_,0,_,u,_,h,_=>aH h (jH _)
 | [x],_,F+1,o,u,r,hF,h=>by
  have h:St (wk x::tkC::r) u:=h;obtain ⟨a1,a2⟩:=h.any (k:=1) rfl;have b1:=a2.no (k:=5) (ts:=[zu]) (.inr (by decide)) (by decide);refine⟨_,?_,a2,O⟩;unfold zaF;rw[aA (by rw[h.b];decide),a1];simp only;rw[b1,aA (by simp)]
 | x::y::l,_,F+1,o,u,r,hF,h=>by
  have h:St (wk x::sg zu::(comT ((y::l).map λx=>[wk x])++tkC::r)) u:=by
   have e:comT ((x::y::l).map λx=>[wk x])++tkC::r=wk x::sg zu::(comT ((y::l).map λx=>[wk x])++tkC::r):=by
    simp only[jS,comT,d9,jG]
   rw[<-e];exact h
  obtain ⟨a1,a2⟩:=h.any (k:=1) rfl;obtain ⟨b1,b2⟩:=a2.yes (k:=5) (ts:=[zu]) rfl (by decide);have hl:=h.len;have hl2:=b2.len;obtain ⟨v,e1,e2,e3⟩:=rR (y::l) (List.cons_ne_nil _ _) F (o++[x]) _ r (by rw[hl2];rw[hl] at hF;simp only[dD] at hF;omega) b2;refine⟨v,?_,e2,e3⟩;unfold zaF;rw[aA (by rw[h.b];decide),a1];simp only;rw[b1,aB rfl];simp only;rw[e1,dM];rfl
theorem aB4 {l:List ByteArray} {u:Rd} {r:List TokD} (h:St (namT l++r) u):∃ v,u.names=(l,v)/\St r v/\v.n=u.n:=by
 have h:St (sg zl::(comT (l.map λx=>[wk x])++tkC::r)) u:=by
  have e:namT l++r=sg zl::(comT (l.map λx=>[wk x])++tkC::r):=by unfold namT;simp[tkO]
  rw[<-e];exact h
 obtain ⟨a1,a2⟩:=h.must;unfold Rd.names;by_cases hl:l=[]
 · subst hl;have a1:St (sg zx::r) (u.must zl):=a1;rw[aB (by rw[a1.is];decide)];obtain ⟨b1,b2⟩:=a1.must;exact⟨_,O,b1,b2.trans a2⟩
 have hi:(u.must zl).is 5 [zx]=false:=by
  obtain ⟨y,l',rfl⟩:=uA hl;have:∃ V,comT ((y::l').map λx=>[wk x])++tkC::r=wk y::V:=by
   cases l' with
   | nil=>exact⟨_,rfl⟩
   | cons y2 l'=>exact⟨_,rfl⟩
  obtain ⟨V,e⟩:=this;rw[e] at a1;rw[a1.is];rfl
 rw[aA (by rw[hi];decide)];obtain ⟨v,e1,e2,e3⟩:=rR l hl _ [] _ r (jB _) a1;rw[e1];have e2:St (sg zx::r) v:=e2;obtain ⟨b1,b2⟩:=e2.must;exact⟨_,O,b1,b2.trans (e3.trans a2)⟩
def Nw (a b:ByteArray) (r:List TokD):Prop:=r=[]\/∃ z r',r=z::r'/\(z.k≠1\/hasN [a,b] z.t=false)
theorem aIq {a b:ByteArray} {mode:Int} {names:List ByteArray} {r:List TokD} {u:Rd} (hab:a≠b) (hm:mode=0/\names=[]\/mode=1\/mode=2) (hr:Nw a b r) (h:St (zfv mode a b names++r) u):∃ v,u.mode a b=(mode,names,v)/\St r v/\v.n=u.n:=by
 unfold Rd.mode;rcases hm with ⟨rfl,rfl⟩ | rfl | rfl
 · have h:St r u:=h;rw[h.not hr (by decide)];exact⟨u,O,h,O⟩
 · have h:St (wk a::(namT names++r)) u:=h;obtain ⟨a1,a2⟩:=h.yes (k:=1) (ts:=[a,b]) rfl (by simp[hasN]);rw[a1,aA (by simp),aB (show ((wk a).t,true,(⟨u.l.tail,u.n,u.b⟩:Rd)).1=a from rfl)];simp only;obtain ⟨v,e1,e2,e3⟩:=aB4 a2;rw[e1];exact⟨v,rfl,e2,e3⟩
 have h:St (wk b::(namT names++r)) u:=h;obtain ⟨a1,a2⟩:=h.yes (k:=1) (ts:=[a,b]) rfl (by simp[hasN]);rw[a1,aA (by simp)];simp only;rw[aA (λe=>hab e.symm)];obtain ⟨v,e1,e2,e3⟩:=aB4 a2;rw[e1];exact⟨v,rfl,e2,e3⟩
abbrev aTj:List ByteArray:=[tEq,tNe,zab,zz]
theorem xM {op:Int} (h:1<=op/\op<=4):opM (zch op)=op/\hasN aTj (zch op)=true:=by
 obtain rfl | rfl | rfl | rfl:op=1\/op=2\/op=3\/op=4:=by omega
 all_goals decide
theorem aR5 {m:MatD} {r:List TokD} {u:Rd} (hm:1<=m.op/\m.op<=4) (h:St (matT m++r) u):∃ v,u.any 1=(m.n,⟨u.l.tail,u.n,u.b⟩)/\(Rd.take ⟨u.l.tail,u.n,u.b⟩ 5 aTj)=(zch m.op,true,⟨u.l.tail.tail,u.n,u.b⟩)/\Rd.any ⟨u.l.tail.tail,u.n,u.b||!true⟩ 3=(m.v,v)/\St r v/\v.n=u.n:=by
 have h:St (wk m.n::sg (zch m.op)::⟨3,0,m.v⟩::r) u:=h;obtain ⟨a1,a2⟩:=h.any (k:=1) rfl;obtain ⟨b1,b2⟩:=a2.yes (k:=5) (ts:=aTj) rfl (xM hm).2;have b3:St (⟨3,0,m.v⟩::r) (⟨u.l.tail.tail,u.n,u.b||!true⟩:Rd):=⟨b2.l,by have:=h.b;show (u.b||false)=false;rw[this];rfl⟩;obtain ⟨c1,c2⟩:=b3.any (k:=3) rfl;exact⟨_,a1,b1,c1,c2,O⟩
theorem lT:∀ (l:List MatD),l≠[]->(∀ m∈l,1<=m.op/\m.op<=4)->∀ (F:Nat) (o:List MatD) (u:Rd) (r:List TokD),u.l.length<F->St (comT (l.map matT)++sg zA::r) u->∃ v,zW F o u=(o++l,v)/\St (sg zA::r) v/\v.n=u.n
 | [],h,_,_,_,_,_,_,_=>aH rfl h
 | _,_,_,0,_,u,_,h,_=>aH h (jH _)
 | [m],_,hm,F+1,o,u,r,hF,h=>by
  have h:St (matT m++sg zA::r) u:=h;obtain ⟨v,a1,a2,a3,a4,a5⟩:=aR5 (hm m cW) h;have b1:=a4.no (k:=5) (ts:=[zu]) (.inr (by decide)) (by decide);refine⟨v,?_,a4,a5⟩;unfold zW;rw[aA (by rw[h.b];decide),a1];simp only;rw[a2];simp only;rw[a3];simp only;rw[b1,aA (by simp),(xM (hm m cW)).1]
 | m::y::l,_,hm,F+1,o,u,r,hF,h=>by
  have e:comT ((m::y::l).map matT)++sg zA::r=matT m++sg zu::(comT ((y::l).map matT)++sg zA::r):=by simp only[jS,comT,dM,d9]
  rw[e] at h;obtain ⟨v,a1,a2,a3,a4,a5⟩:=aR5 (hm m cW) h;obtain ⟨b1,b2⟩:=a4.yes (k:=5) (ts:=[zu]) rfl (by decide);have hl:=h.len;have hl2:=b2.len;obtain ⟨z,e1,e2,e3⟩:=lT (y::l) (List.cons_ne_nil _ _) (λm hq=>hm m (dA _ hq)) F (o++[m]) _ r (by rw[hl2];rw[hl] at hF;simp only[c7,dD] at hF;simp only[c7,dD];omega) b2;refine⟨z,?_,e2,e3.trans a5⟩;unfold zW;rw[aA (by rw[h.b];decide),a1];simp only;rw[a2];simp only;rw[a3];simp only;rw[b1,aB rfl,(xM (hm m cW)).1];simp only;rw[e1,dM];rfl
section
variable {rm:List MatD->Bool}
theorem aJy {l:List MatD} {u:Rd} {r:List TokD} (hm:∀ m∈l,1<=m.op/\m.op<=4) (hr:l=[]\/rm l=true) (h:St (sg zH::(comT (l.map matT)++sg zA::r)) u):∃ v,u.braces rm=(l,v)/\St r v/\v.n=u.n:=by
 obtain ⟨a1,a2⟩:=h.must;unfold Rd.braces;by_cases hl:l=[]
 · subst hl;have a1:St (sg zA::r) (u.must zH):=a1;rw[aB (by rw[a1.is];decide)];obtain ⟨b1,b2⟩:=a1.must;exact⟨_,O,b1,b2.trans a2⟩
 have hi:(u.must zH).is 5 [zA]=false:=by
  obtain ⟨y,l',rfl⟩:=uA hl;have:∃ V,comT ((y::l').map matT)++sg zA::r=wk y.n::V:=by
   cases l' with
   | nil=>exact⟨_,rfl⟩
   | cons y2 l'=>exact⟨_,rfl⟩
  obtain ⟨V,e⟩:=this;rw[e] at a1;rw[a1.is];rfl
 rw[aA (by rw[hi];decide)];obtain ⟨v,e1,e2,e3⟩:=lT l hl hm _ [] _ r (jB _) a1;simp only[e1,jG];obtain ⟨b1,b2⟩:=e2.must;refine⟨_,O,⟨b1.l,?_⟩,b2.trans (e3.trans a2)⟩;show ((v.must zA).b||!rm l)=false;rw[b1.b,hr.resolve_left hl];rfl
def Hz (r:List TokD):Prop:=r=[]\/∃ z r',r=z::r'/\(z.k≠5\/hasN [zH] z.t=false/\hasN [tSq] z.t=false)
theorem Hz.l {r:List TokD} (h:Hz r):r=[]\/∃ z r',r=z::r'/\(z.k≠5\/hasN [zH] z.t=false):=by
 rcases h with h | ⟨z,r',e,h⟩
 · exact .inl h
 exact .inr ⟨z,r',e,h.imp_right And.left⟩
theorem Hz.r {r:List TokD} (h:Hz r):r=[]\/∃ z r',r=z::r'/\(z.k≠5\/hasN [tSq] z.t=false):=by
 rcases h with h | ⟨z,r',e,h⟩
 · exact .inl h
 exact .inr ⟨z,r',e,h.imp_right And.right⟩
theorem Hq.z {r:List TokD} (h:Hq r):Hz r:=by
 cases r with
 | nil=>exact .inl rfl
 | cons z r=>
  refine .inr ⟨z,r,O,?_⟩;rcases h z rfl with ⟨a,b⟩ | ⟨a,_⟩
  · right;rw[b];decide
  left;rw[a];decide
theorem aZk {u:Rd} {ts:List ByteArray} (h:u.take 5 ts=(ByteArray.empty,false,u)) (hb:u.b=false):u.is 5 ts=false:=by
 cases e:u.is 5 ts with
 | false=>rfl
 | true=>unfold Rd.take at h;rw[aA (by rw[hb,e];simp)] at h;injection h with _ h;injection h with h _
theorem zfj {r:List TokD} {u:Rd} (h:St r u) (hn:u.n+1<=200):St r u.node/\u.node.n=u.n+1:=by
 refine⟨⟨h.l,?_⟩,O⟩;show (u.b||decide (200<u.n+1))=false;rw[h.b,aD (by omega)];rfl
theorem zfG {ex:Rd->Nd×Rd} {F:Nat} {z:TokD} {r:List TokD} {t:Rd} (h:St (z::r) t) (hz:z.k≠5\/hasN [z6] z.t=false):zaf rm ex (F+1) t=t.prim rm ex:=by
 unfold zaf;rw[h.no (k:=5) (ts:=[z6]) hz (by decide)];rfl
def PE (rm:List MatD->Bool) (q:Nd):Prop:=∀ (r:List TokD) (t:Rd) (f:Nat),Hq r->St (q.tk++r) t->t.n+(q.cnt:Int)<=200->t.l.length<=f->∃ u,zas rm (f+1) t=(q,u)/\St r u/\u.n=t.n+(q.cnt:Int)
def PU (rm:List MatD->Bool) (x:Nd):Prop:=∀ (r:List TokD) (t:Rd) (f F:Nat),Hz r->St (zbB x.two x.tk++r) t->t.n+(x.cnt:Int)<=200->t.l.length<=f->∃ u,zaf rm (zas rm f) (F+1) t=(x,u)/\St r u/\u.n=t.n+(x.cnt:Int)
theorem lev3 {f:Nat} {t u:Rd} {q:Nd} {r:List TokD} (hr:Hq r) (e:zaf rm (zas rm f) (t.l.length+1) t=(q,u)) (hu:u.l.map er=r.map er):zas rm (f+1) t=(q,u):=by
 have hp:zcY rm (zas rm f) t=(q,u):=zc4 hr (qt_5 (by decide)) e hu;have hs:sumP rm (zas rm f) t=(q,u):=zc4 hr (qt_5 (by decide)) hp hu;exact zc4 hr (qt_5 (by decide)) hs hu
theorem PU.e {x:Nd} (h2:x.two=false) (h:PU rm x):PE rm x:=λr t f hr ht hn hf=>by
 obtain ⟨u,a,b,c⟩:=h r t f t.l.length hr.z (by rw[h2];exact ht) hn hf;exact⟨u,lev3 hr a b.l,b,c⟩
theorem PE.u {x:Nd} (h2:x.two=true) (h:PE rm x):PU rm x:=λr t f F hr ht hn hf=>by
 have ht:St (tkO::(x.tk++tkC::r)) t:=by
  have e:zbB x.two x.tk++r=tkO::(x.tk++tkC::r):=by unfold zbB;rw[aB h2];simp
  rw[<-e];exact ht
 obtain ⟨m1,m2,m3⟩:=aIf ht.b ht.l;have s1:St (x.tk++tkC::r) (t.must zl):=⟨m1,m3⟩;have l1:=ht.len;have l2:=s1.len;simp only[dD] at l1;obtain ⟨f,rfl⟩:∃ k,f=k+1:=⟨f-1,by omega⟩;obtain ⟨u,a,b,c⟩:=h (tkC::r) (t.must zl) f (pO r) s1 (by omega) (by omega);have b:St (sg zx::r) u:=b;obtain ⟨c1,c2⟩:=b.must;refine⟨_,?_,c1,by omega⟩;rw[aIs ht.b ht.l,a]
theorem yU {part:Rd->Nd×Rd} {ts:List ByteArray} {F:Nat} {o:Nd} {u:Rd} {r:List TokD} (hr:Hq r) (q:Qt 5 ts) (h:St r u):zaz part ts F o u=(o,u):=by
 cases F with
 | zero=>rfl
 | succ F=>
  have hR:R r ⟨[],u.n,u.b⟩ u:=⟨h.l,rfl,rfl⟩;have hi:u.is 5 ts=false:=by rw[hR.isq hr q];exact zee rfl (by decide)
  unfold zaz;rw[zba (.inr hi),aB rfl]
theorem pC {part:Rd->Nd×Rd} {ts:List ByteArray} {t u:Rd} {x:Nd} {op:ByteArray} {V:List TokD} (e:part t=(x,u)) (s:St (sg op::V) u) (h:hasN ts op=false):t.level part ts=(x,u):=by
 unfold Rd.level;rw[e];unfold zaz;simp only;rw[s.no (k:=5) (ts:=ts) (.inr h) (by decide),aB rfl]
theorem aLt {part:Rd->Nd×Rd} {ts:List ByteArray} {t u:Rd} {x y:Nd} {op:ByteArray} {mode:Int} {names:List ByteArray} {W r:List TokD} {c:Int} (hr:Hq r) (q:Qt 5 ts) (hop:hasN ts op=true) (hm:mode=0/\names=[]\/mode=1\/mode=2) (hW:Nw tOn zy W) (e1:part t=(x,u)) (s1:St (sg op::(zfv mode tOn zy names++W)) u)
 (e2:∀ v,St W v->v.n=u.n->∃ z,part v=(y,z)/\St r z/\z.n=c) (hc:c+1<=200):∃ z,t.level part ts=(.mk tBin op 0 mode names [] [x,y],z)/\St r z/\z.n=c+1:=by
 obtain ⟨a1,a2⟩:=s1.yes (k:=5) (ts:=ts) rfl hop;obtain ⟨v,b1,b2,b3⟩:=aIq (by decide) hm hW a2;obtain ⟨z,c1,c2,c3⟩:=e2 v b2 b3;obtain ⟨d1,d2⟩:=zfj c2 (by omega);refine⟨z.node,?_,d1,by rw[d2,c3]⟩;unfold Rd.level;rw[e1];unfold zaz;simp only;rw[a1,aA (by simp)];simp only;rw[b1];simp only;rw[c1];simp only;exact yU hr q d1
abbrev opsP:List ByteArray:=[zcb,zeV,tMod]
abbrev opsS:List ByteArray:=[zdB,z6]
abbrev opsE:List ByteArray:=[tEqq,tNe,tLt,tLe,tGt,tGe]
theorem aW2 {op:ByteArray} (h:op∈opsC):(hasN opsP op=true\/hasN opsP op=false/\hasN opsS op=true\/hasN opsP op=false/\hasN opsS op=false/\hasN opsE op=true)/\hasN [zH] op=false/\hasN [tSq] op=false:=by
 simp only[opsC,dH,jA,or_false] at h;rcases h with rfl | rfl | rfl | rfl | rfl | rfl | rfl | rfl | rfl | rfl | rfl<;>decide
theorem a1d {x:Nd} (h:Rdy rm x) (r:List TokD):Nw tOn zy (zbB x.two x.tk++r):=by
 have brk:x.two=true->Nw tOn zy (zbB x.two x.tk++r):=λh2=>by
  unfold zbB;rw[aB h2];exact .inr ⟨tkO,_,rfl,.inl (by decide)⟩
 cases h with
 | num h=>rw[aKz];exact .inr ⟨_,_,rfl,.inl (show (2:Int)≠1 from by decide)⟩
 | neg _=>exact brk rfl
 | bin _ _ _ _ _=>exact brk rfl
 | @agg text n mode names y ht h hn hm hw _=>
  rw[aG0];refine .inr ⟨wk text,_,rfl,.inr ?_⟩;unfold hasN at ht;obtain ⟨a,ha,e⟩:=uS.1 ht;obtain rfl:=aF e;simp only[aggN,dH,jA,or_false] at ha;rcases ha with rfl | rfl | rfl | rfl | rfl | rfl | rfl<;>decide
 | @fn text y ht _=>
  rw[show (Nd.mk tFn text 0 0 [] [] [y]).tk=_ from aTn (n:=0)];refine .inr ⟨wk text,_,rfl,.inr ?_⟩;unfold hasN at ht;obtain ⟨a,ha,e⟩:=uS.1 ht;obtain rfl:=aF e;simp only[fnN,dH,jA,or_false] at ha;rcases ha with rfl | rfl | rfl | rfl | rfl | rfl | rfl | rfl<;>decide
 | @sel text n ms ht h hs hm hr=>
  rw[aKb,show (Nd.mk nSel text (n:Int) 0 [] ms []).two=false from rfl];unfold zbB selT;rw[aA (by decide)];by_cases h0:text=ByteArray.empty
  · rw[aB h0,aB (.inl h0)];exact .inr ⟨sg zH,_,rfl,.inl (by decide)⟩
  rw[aA h0];refine .inr ⟨wk text,_,rfl,.inr ?_⟩;have hk:=(ht.resolve_left h0).2;unfold zcP at hk;simp only[dK,hasN,jL,jX,dQ] at hk;show hasN [tOn,zy] text=false;simp only[hasN,jL,jX,dQ,dK];exact⟨hk.2.2.2.2.2.2.1,hk.2.2.2.2.2.2.2.1⟩
theorem aXq {text:ByteArray} {mode:Int} {names:List ByteArray} {x y:Nd} (ht:text∈opsC) (hm:mode=0/\names=[]\/mode=1\/mode=2) (hy:Rdy rm y) (px:PU rm x) (py:PU rm y):PE rm (.mk tBin text 0 mode names [] [x,y]):=λr t f hr h hn hf=>by
 rw[show (Nd.mk tBin text 0 mode names [] [x,y]).tk=_ from aSc (n:=0)] at h;have hcn:(Nd.mk tBin text 0 mode names [] [x,y]).cnt=x.cnt+y.cnt+1:=by simp only[Nd.cnt,Nd.cntL];omega
 rw[hcn] at hn ⊢;obtain ⟨cls,cl1,cl2⟩:=aW2 ht;have h:St (zbB x.two x.tk++(sg text::(zfv mode tOn zy names++(zbB y.two y.tk++r)))) t:=by
  have e:binT text mode names (zbB x.two x.tk) (zbB y.two y.tk)++r=zbB x.two x.tk++(sg text::(zfv mode tOn zy names++(zbB y.two y.tk++r))):=by unfold binT;simp only[dM,d9]
  rw[<-e];exact h
 have hl:=h.len;simp only[c7,dD] at hl;obtain ⟨u,a1,a2,a3⟩:=px _ t f t.l.length (.inr ⟨sg text,_,rfl,.inr ⟨cl1,cl2⟩⟩) h (by omega) hf;have hW:=a1d hy r;have ey:∀ v,St (zbB y.two y.tk++r) v->v.n=u.n->∃ z,zaf rm (zas rm f) (v.l.length+1) v=(y,z)/\St r z/\z.n=t.n+x.cnt+y.cnt:=λv hv hvn=>by
  have l2:=hv.len;simp only[c7] at l2;obtain ⟨z,b1,b2,b3⟩:=py r v f v.l.length hr.z hv (by omega) (by omega);exact⟨z,b1,b2,by omega⟩
 rcases cls with c | ⟨c1,c⟩ | ⟨c1,c2,c⟩
 · obtain ⟨z,d1,d2,d3⟩:=aLt (part:=λs=>zaf rm (zas rm f) (s.l.length+1) s) hr (qt_5 (by decide)) c hm hW a1 a2 ey (by omega);have hp:zcY rm (zas rm f) t=_:=d1;have hs:sumP rm (zas rm f) t=_:=zc4 hr (qt_5 (by decide)) hp d2.l;exact⟨z,zc4 hr (qt_5 (by decide)) hs d2.l,d2,by omega⟩
 · have hp:zcY rm (zas rm f) t=(x,u):=pC (part:=λs=>zaf rm (zas rm f) (s.l.length+1) s) a1 a2 c1;obtain ⟨z,d1,d2,d3⟩:=aLt (part:=zcY rm (zas rm f)) hr (qt_5 (by decide)) c hm hW hp a2 (λv hv hvn=>by
    obtain ⟨z,b1,b2,b3⟩:=ey v hv hvn;exact⟨z,zc4 (part:=λs=>zaf rm (zas rm f) (s.l.length+1) s) hr (qt_5 (by decide)) b1 b2.l,b2,b3⟩) (by omega)
   have hs:sumP rm (zas rm f) t=_:=d1;exact⟨z,zc4 hr (qt_5 (by decide)) hs d2.l,d2,by omega⟩
 have hp:zcY rm (zas rm f) t=(x,u):=pC (part:=λs=>zaf rm (zas rm f) (s.l.length+1) s) a1 a2 c1;have hs:sumP rm (zas rm f) t=(x,u):=pC (part:=zcY rm (zas rm f)) hp a2 c2;obtain ⟨z,d1,d2,d3⟩:=aLt (part:=sumP rm (zas rm f)) hr (qt_5 (by decide)) c hm hW hs a2 (λv hv hvn=>by
  obtain ⟨z,b1,b2,b3⟩:=ey v hv hvn;have hp:zcY rm (zas rm f) v=(y,z):=zc4 (part:=λs=>zaf rm (zas rm f) (s.l.length+1) s) hr (qt_5 (by decide)) b1 b2.l;exact⟨z,zc4 (part:=zcY rm (zas rm f)) hr (qt_5 (by decide)) hp b2.l,b2,b3⟩) (by omega)
 exact⟨z,d1,d2,by omega⟩
theorem aZ3 {x:Nd} (px:PU rm x):PE rm (.mk tNeg ByteArray.empty 0 0 [] [] [x]):=λr t f hr h hn hf=>by
 rw[show (Nd.mk tNeg ByteArray.empty 0 0 [] [] [x]).tk=_ from aRn (n:=0)] at h;have hcn:(Nd.mk tNeg ByteArray.empty 0 0 [] [] [x]).cnt=x.cnt+1:=rfl;rw[hcn] at hn ⊢;have h:St (sg z6::(zbB x.two x.tk++r)) t:=h;have hl:=h.len;simp only[dD] at hl;obtain ⟨a1,a2⟩:=h.yes (k:=5) (ts:=[z6]) rfl (by decide);obtain ⟨F,hF⟩:∃ k,t.l.length=k+1:=⟨t.l.length-1,by omega⟩;have hl2:t.l.tail.length<=f:=by rw[wL];omega
 obtain ⟨u,b1,b2,b3⟩:=px r ⟨t.l.tail,t.n,t.b⟩ f F hr.z a2 (by simp only;omega) hl2;obtain ⟨c1,c2⟩:=zfj b2 (by simp only at b3;omega);refine⟨u.node,lev3 hr ?_ c1.l,c1,by simp only at b3;omega⟩;unfold zaf;rw[a1,aB rfl];simp only;rw[hF,b1]
theorem aRb {n:Nat}:PU rm (.mk tNum ByteArray.empty (n:Int) 0 [] [] []):=λr t f F hr h hn hf=>by
 rw[aKz] at h;have h:St (⟨2,0,digB n⟩::r) t:=h;have hcn:(Nd.mk tNum ByteArray.empty (n:Int) 0 [] [] []).cnt=1:=rfl;rw[hcn] at hn ⊢;obtain ⟨a1,a2⟩:=h.num;obtain ⟨b1,b2⟩:=zfj a2 (by simp only;omega);refine⟨_,?_,b1,b2⟩;rw[zfG h (.inl (show (2:Int)≠5 from by decide))];unfold Rd.prim;rw[aA (by rw[h.b];decide),aB h.pk.1,a1]
theorem a2d {text:ByteArray} {x:Nd} (ht:hasN fnN text=true) (px:PE rm x):PU rm (.mk tFn text 0 0 [] [] [x]):=λr t f F hr h hn hf=>by
 rw[show (Nd.mk tFn text 0 0 [] [] [x]).tk=_ from aTn (n:=0)] at h;have hcn:(Nd.mk tFn text 0 0 [] [] [x]).cnt=x.cnt+1:=rfl;rw[hcn] at hn ⊢;have h:St (wk text::sg zl::(x.tk++tkC::r)) t:=by
  have e:zbB false (fnT text x.tk)++r=wk text::sg zl::(x.tk++tkC::r):=by unfold zbB fnT;rw[aA (by decide)];simp[tkO]
  rw[<-e];exact h
 have hag:hasN aggN text=false:=by
  unfold hasN at ht;obtain ⟨a,ha,e⟩:=uS.1 ht;obtain rfl:=aF e;simp only[fnN,dH,jA,or_false] at ha;rcases ha with rfl | rfl | rfl | rfl | rfl | rfl | rfl | rfl<;>decide
 obtain ⟨a1,a2⟩:=h.any (k:=1) rfl;obtain ⟨b1,b2⟩:=a2.must;have l1:=h.len;have l2:=b1.len;simp only[dD] at l1;obtain ⟨f,rfl⟩:∃ k,f=k+1:=⟨f-1,by omega⟩;simp only at b2;obtain ⟨u,c1,c2,c3⟩:=px (tkC::r) _ f (pO r) b1 (by omega) (by omega);obtain ⟨d1,d2⟩:=zfj c2 (by omega);have d1:St (sg zx::r) u.node:=d1;obtain ⟨e1,e2⟩:=d1.must;refine⟨_,?_,e1,by omega⟩;obtain ⟨p1,p2⟩:=h.pk;have p1:t.pk.k=1:=p1;have p2:t.pk.t=text:=p2;rw[zfG h (.inl (show (1:Int)≠5 from by decide))];unfold Rd.prim;rw[aA (by rw[h.b];decide),aA (by rw[p1];decide),aA (by rw[h.is];simp),aA (by rw[p2,hag];simp),aB ⟨p1,by rw[p2];exact ht⟩];simp only[a1,c1]
theorem aYs {text:ByteArray} {n:Nat} {mode:Int} {names:List ByteArray} {x:Nd} (ht:hasN aggN text=true) (hn0:zU text=false->n=0) (hm:mode=0/\names=[]\/mode=1\/mode=2) (px:PE rm x):PU rm (.mk tAgg text (n:Int) mode names [] [x]):=λr t f F hr h hn hf=>by
 rw[aG0] at h;have hcn:(Nd.mk tAgg text (n:Int) mode names [] [x]).cnt=x.cnt+1:=rfl;rw[hcn] at hn ⊢;have h:St (wk text::(zfv mode tBy zm names++sg zl::((if zU text=true then [⟨2,0,digB n⟩,sg zu] else [])++(x.tk++tkC::r)))) t:=by
  have e:zbB false (aggT text n mode names x.tk)++r=wk text::(zfv mode tBy zm names++sg zl::((if zU text=true then [⟨2,0,digB n⟩,sg zu] else [])++(x.tk++tkC::r))):=by unfold zbB aggT;rw[aA (by decide)];simp[tkO]
  rw[<-e];exact h
 obtain ⟨p1,p2⟩:=h.pk;have p1:t.pk.k=1:=p1;have p2:t.pk.t=text:=p2;have l1:=h.len;simp only[dD,c7] at l1;obtain ⟨a1,a2⟩:=h.any (k:=1) rfl;obtain ⟨v,b1,b2,b3⟩:=aIq (by decide) hm (.inr ⟨sg zl,_,rfl,.inl (by decide)⟩) a2;obtain ⟨c1,c2⟩:=b2.must;obtain ⟨f,rfl⟩:∃ k,f=k+1:=⟨f-1,by omega⟩;simp only at b3;obtain ⟨p,q,e1,e2,e3,e4⟩:∃ (p:Rd) (n':Int),(if zU text=true then(v.must zl).number 2 else(0,v.must zl))=(n',p)/\n'=(n:Int)/\St (x.tk++tkC::r) (if zU text=true then p.must zu else p)/\(if zU text=true then p.must zu else p).n=v.n:=by
  by_cases hb:zU text=true
  · simp only[aB hb] at c1 ⊢;have c1:St (⟨2,0,digB n⟩::sg zu::(x.tk++tkC::r)) (v.must zl):=c1;obtain ⟨d1,d2⟩:=c1.num;obtain ⟨d3,d4⟩:=d2.must;exact⟨_,_,d1,O,d3,d4.trans c2⟩
  simp only[aA hb] at c1 ⊢;exact⟨_,_,O,by rw[hn0 (by simpa using hb)];rfl,c1,c2⟩
 have l2:=e3.len;simp only[c7,dD] at l2;obtain ⟨u,g1,g2,g3⟩:=px (tkC::r) _ f (pO r) e3 (by omega) (by omega);have g2:St (sg zx::r) u:=g2;obtain ⟨i1,i2⟩:=g2.must;obtain ⟨j1,j2⟩:=zfj i1 (by omega);refine⟨_,?_,j1,by omega⟩;rw[zfG h (.inl (show (1:Int)≠5 from by decide))];unfold Rd.prim;rw[aA (by rw[h.b];decide),aA (by rw[p1];decide),aA (by rw[h.is];simp),aB ⟨p1,by rw[p2];exact ht⟩];unfold Rd.aggr;simp only[a1,b1,e1,g1,e2]
theorem aXl {text:ByteArray} {n:Nat} {ms:List MatD} (ht:text=ByteArray.empty\/FW text/\zcP text=false) (hm:∀ m∈ms,1<=m.op/\m.op<=4) (hrm:ms=[]\/rm ms=true):PU rm (.mk nSel text (n:Int) 0 [] ms []):=λr t f F hr h hn hf=>by
 rw[aKb] at h;have hcn:(Nd.mk nSel text (n:Int) 0 [] ms []).cnt=1:=rfl;rw[hcn] at hn ⊢;obtain ⟨C,hC⟩:∃ C,C=(if 0<n then [sg tSq,⟨4,0,digB n⟩,sg tSqE] else [])++r:=⟨_,rfl⟩;have hw:∀ u,St C u->∃ v,u.selWin=((n:Int),v)/\St r v/\v.n=u.n:=λu hu=>by
  rw[hC] at hu;unfold Rd.selWin;by_cases h0:0<n
  · rw[aB h0] at hu;have hu:St (sg tSq::⟨4,0,digB n⟩::sg tSqE::r) u:=hu;obtain ⟨a1,a2⟩:=hu.yes (k:=5) (ts:=[tSq]) rfl (by decide);obtain ⟨b1,b2⟩:=a2.num;obtain ⟨c1,c2⟩:=b2.must;rw[a1,aB rfl];simp only;rw[b1];exact⟨_,O,c1,c2⟩
  rw[aA h0] at hu;have hu:St r u:=hu;rw[hu.not hr.r (by decide),aA (by simp),show n=0 by omega];exact⟨u,O,hu,O⟩
 have hCz:C=[]\/∃ z r',C=z::r'/\(z.k≠5\/hasN [zH] z.t=false):=by
  rw[hC];by_cases h0:0<n
  · rw[aB h0];exact .inr ⟨sg tSq,_,rfl,.inr (by decide)⟩
  rw[aA h0];exact hr.l
 have hb:∀ u,St ((if text=ByteArray.empty\/0<ms.length then sg zH::comT (ms.map matT)++[sg zA] else [])++C) u->∃ v,u.selMs rm text=(ms,v)/\St C v/\v.n=u.n:=λu hu=>by
  unfold Rd.selMs;by_cases h0:text=ByteArray.empty\/0<ms.length
  · rw[aB h0] at hu;have hu:St (sg zH::(comT (ms.map matT)++sg zA::C)) u:=by
     have e:(sg zH::comT (ms.map matT)++[sg zA])++C=sg zH::(comT (ms.map matT)++sg zA::C):=(by simp);rw[<-e];exact hu
    rw[aB (by rw[hu.is];decide)];exact aJy hm hrm hu
  rw[aA h0] at hu;have hu:St C u:=hu;rw[aA (by rw[aZk (hu.not hCz (by decide)) hu.b];decide)];have e:ms=[]:=by
   cases ms with
   | nil=>rfl
   | cons m ms=>exact aH (.inr (by simp)) h0
  subst e;refine⟨_,O,⟨hu.l,?_⟩,O⟩;show (u.b||decide (text=ByteArray.empty))=false;rw[hu.b,aD (λe=>h0 (.inl e))];rfl
 have h:St ((if text=ByteArray.empty then [] else [wk text])++((if text=ByteArray.empty\/0<ms.length then sg zH::comT (ms.map matT)++[sg zA] else [])++C)) t:=by
  have e:zbB false (selT text n ms)++r=(if text=ByteArray.empty then [] else [wk text])++((if text=ByteArray.empty\/0<ms.length then sg zH::comT (ms.map matT)++[sg zA] else [])++C):=by
   unfold zbB selT;rw[aA (by decide),hC];simp only[dM]
  rw[<-e];exact h
 have hN:∃ u,t.selName=(text,u)/\St ((if text=ByteArray.empty\/0<ms.length then sg zH::comT (ms.map matT)++[sg zA] else [])++C) u/\u.n=t.n/\zaf rm (zas rm f) (F+1) t=t.selector rm:=by
  by_cases h0:text=ByteArray.empty
  · rw[aB h0,aB (.inl h0)] at h;have h':St (sg zH::(comT (ms.map matT)++([sg zA]++C))) t:=by
     have e:[]++((sg zH::comT (ms.map matT)++[sg zA])++C)=sg zH::(comT (ms.map matT)++([sg zA]++C)):=(by simp);rw[<-e];exact h
    have p1:t.pk.k=5:=h'.pk.1;refine⟨t,?_,?_,O,?_⟩
    · unfold Rd.selName;rw[aA (by rw[p1];rintro ⟨a,_⟩;exact aH a (by decide)),h0]
    · rw[aB (.inl h0)];exact h
    rw[zfG h' (.inr (by decide))];unfold Rd.prim;rw[aA (by rw[h.b];decide),aA (by rw[p1];decide),aA (by rw[h'.is];decide),aA (by rw[p1];rintro ⟨a,_⟩;exact aH a (by decide)),aA (by rw[p1];rintro ⟨a,_⟩;exact aH a (by decide))]
  rw[aA h0] at h;have hk:=(ht.resolve_left h0).2;have h:St (wk text::((if text=ByteArray.empty\/0<ms.length then sg zH::comT (ms.map matT)++[sg zA] else [])++C)) t:=h;have p1:t.pk.k=1:=h.pk.1;have p2:t.pk.t=text:=h.pk.2;obtain ⟨a1,a2⟩:=h.any (k:=1) rfl;have hk2:=hk;unfold zcP at hk2;simp only[dK] at hk2;refine⟨_,?_,a2,O,?_⟩
  · unfold Rd.selName;rw[aB ⟨p1,by rw[p2];exact hk⟩,a1]
  rw[zfG h (.inl (show (1:Int)≠5 from by decide))];unfold Rd.prim;rw[aA (by rw[h.b];decide),aA (by rw[p1];decide),aA (by rw[h.is];simp),aA (by rw[p2,hk2.1.1];simp),aA (by rw[p2,hk2.1.2];simp)]
 obtain ⟨u,n1,n2,n3,n4⟩:=hN;obtain ⟨v,m1,m2,m3⟩:=hb u n2;obtain ⟨z,w1,w2,w3⟩:=hw v m2;obtain ⟨c1,c2⟩:=zfj w2 (by omega);refine⟨z.node,?_,c1,by omega⟩;rw[n4];unfold Rd.selector;simp only[n1,m1,w1]
theorem aVz {q:Nd} (h:Rdy rm q):PE rm q/\PU rm q:=by
 induction h with
 | num h=>exact⟨PU.e rfl aRb,aRb⟩
 | @neg x _ ih=>have:=aZ3 ih.2;exact⟨this,this.u rfl⟩
 | @bin text mode names x y ht h hn hx hy ih1 ih2=>have:=aXq ht h hy ih1.2 ih2.2;exact⟨this,this.u rfl⟩
 | @agg text n mode names x ht h hn hm hw _ ih=>have:=aYs ht hn hm ih.1;exact⟨PU.e rfl this,this⟩
 | @fn text x ht _ ih=>have:=a2d ht ih.1;exact⟨PU.e rfl this,this⟩
 | @sel text n ms ht h hs hm hr=>have:=aXl (n:=n) ht (λm hq=>(hm m hq).2) hr;exact⟨PU.e rfl this,this⟩
end
theorem aNo {o l f:Int} {u:Rd} (ho:o=0\/o=1\/o=2) (hl: -1<=l/\l<=2000) (hf: -1<=f/\f<=2000) (h:St (ordW o++(numW zar l++(numW z8 f++[]))) u):(endQ u).1=o/\(endQ u).2.1=l/\(endQ u).2.2.1=f/\(endQ u).2.2.2.l=[]/\(endQ u).2.2.2.b=false:=by
 have e:=a0e (.inl O) ho hl.1 hf.1 (.inl O) h;rw[aA (by omega)] at e;exact⟨e.1,e.2.1,e.2.2.1,List.map_eq_nil_iff.1 e.2.2.2.1,e.2.2.2.2⟩
theorem aK4 {s:ByteArray} (h:zbf s=0):∃ W,Lx (zag s).pr W/\∀ L:List TokD,L.map er=W.map er->zbN rmD L=some (zag s):=by
 have hR:=aOg h;obtain ⟨ho,hl,hf⟩:=oN h;obtain ⟨h1,h2⟩:=zfJ h;obtain ⟨h3,h4,_⟩:=eQ rmD h2;have hc:=aAf rmD (lexL s).length ⟨lexL s,0,false⟩ (cU _) h4;rw[h3] at hc;have hc2:((zag s).root.cnt:Int)<=200:=by have:=hc.1;have:=hc.2;simp only at*;omega
 refine⟨_,(((aVi hR).1.ord (zag s).order).lim (n:=(zag s).limit) (by omega)).off (n:=(zag s).offset) (by omega),λL hL=>?_⟩;have hs:St ((zag s).root.tk++(ordW (zag s).order++(numW zar (zag s).limit++(numW z8 (zag s).offset++[])))) ⟨L,0,false⟩:=⟨by rw[hL];simp,rfl⟩;have hq:Hq (ordW (zag s).order++(numW zar (zag s).limit++(numW z8 (zag s).offset++[]))):=aWz _ (aG7 (.inl rfl) _ (aG7 (.inr rfl) _ (λy e=>by cases e)));obtain ⟨u,e1,e2,e3⟩:=(aVz hR).1 _ ⟨L,0,false⟩ L.length hq hs (by simp only;omega) (cU _);obtain ⟨k1,k2,k3,k4,k5⟩:=aNo ho hl hf e2;rw[aEy rmD e1,aA (by rw[k5,k4];simp),k1,k2,k3]
theorem aE9 {s:ByteArray} (hs:zbf s=0) (h:(zag s).pr.size<=600):zbf (zag s).pr=0/\zag (zag s).pr=zag s:=by
 obtain ⟨W,a1,a2⟩:=aK4 hs;obtain ⟨b1,b2⟩:=a1.lex h;exact aLb b1 (a2 _ b2)
end Lp
set_option linter.unusedSimpArgs false
set_option maxHeartbeats 4000000
set_option maxRecDepth 100000
namespace Lp
open Go Go.RowKit Go.Proofs Tryz
variable {names:List ByteArray} {op text:ByteArray} {s:ByteArray} {n mode:Int} {o a b:Int}
theorem aJ9 (x y:Operand) (a b:Bool) (w:World):(do eqGuard .neq 4 x y (.bool a) (.bool b);binOp .neq 4 (.bool a) (.bool b):Sem Value).run prog w=.ok (.bool (a !=b)) w:=by cases a<;>cases b<;>kernel_rfl
theorem pH:FaP prog 29 0 0:=λ_ _ _=>by kernel_rfl
theorem aXu (h:zbf s=0) {ms:List MatD} {kids:List Nd} (e:(⟨Nd.mk op text n mode names ms kids,o,a,b⟩:QryD)=zag s):CD prog 34 [HPow] [n7 op text n mode names ms kids] (PrT (zag s).root.pr):=by
 have h1:=pJ h;have h2:=qP h;have h4:=aQ0 h1 h2;rw[<-e] at h2 h4 ⊢;exact h4
theorem aTv (h:zbf s=0) {ms:List MatD} {kids:List Nd} (e:(⟨Nd.mk op text n mode names ms kids,o,a,b⟩:QryD)=zag s):CD prog 35 [] [n7 op text n mode names ms kids] (isR (.s (zag s).root.pr)):=by
 have h1:=pJ h;have h2:=qP h;have h4:=aK6 h1 h2;rw[<-e] at h2 h4 ⊢;exact h4
theorem law_tells8_c (s name:ByteArray) (ev es:Value) (hev:EvOk ev) (hes:EvOk es):
 CD prog 7 [HPow,HErr ev,HSyn es] [.s s,.s name] (λr H'=>r=dB true/\H'=[HPow,HErr ev,HSyn es]):=by
 refine tZ func7 O O (λC=>?_);refine T.bd 0 O (λbd0=>?_);have sz0:s.size<=9223372036854775807:=bd0;refine T.bd 1 O (λbd1=>?_);have sz1:name.size<=9223372036854775807:=bd1;refine g' 7 O ?_;refine tS 23 ((decide ((1000:Int)<((s.size:Nat):Int))||decide ((60:Int)<((name.size:Nat):Int)))) (λ_ hQ1=>?_) ?_
 · by_cases hg2:(1000:Int)<((s.size:Nat):Int)
   · refine g' 2 O (tP O (zw O aK) (tP O (zcB O O (aE hg2)) (g' 10 O ?_)));exact tQ hQ1 O O (by first | (simp[hg2];done) | (simp only[aE hg2,jY,u9,dQ,uQ,vP,uF,jI,vM];done) | (simp_all;done))
   by_cases hg3:(60:Int)<((name.size:Nat):Int)
   · refine g' 2 O (tP O (zw O aK) (tP O (zcB O O (aD hg2)) (g' 2 O (tG O (zw O aK) (tG O (zcB O O (aE hg3)) (g' 6 O ?_))))));exact tQ hQ1 O O (by first | (simp[hg2,hg3];done) | (simp only[aD hg2,aE hg3,jY,u9,dQ,uQ,vP,uF,jI,vM];done) | (simp_all;done))
   refine g' 2 O (tP O (zw O aK) (tP O (zcB O O (aD hg2)) (g' 2 O (tG O (zw O aK) (tG O (zcB O O (aD hg3)) (g' 2 O (tX [0,0,0] O O acs (aB9 ev es hev hes) ?_)))))));rintro _ _ ⟨rfl,rfl⟩;refine g' 3 O ?_;exact tQ hQ1 O O (by first | (simp[hg2,hg3];done) | (simp only[aD hg2,aD hg3,jY,u9,dQ,uQ,vP,uF,jI,vM];done) | (simp_all;done))
 refine g' 1 O ?_;refine tC O (λhc4=>?_) (λhc4=>?_)
 · simp only[bX,bJ] at hc4;refine g' 2 O (tX [0,0,0] O O acs (aB9 ev es hev hes) ?_);rintro _ _ ⟨rfl,rfl⟩;refine g' 5 O ?_;exact tR O (mP 3 O) ⟨O,O⟩
 simp only[bX,bJ] at hc4;have hgd:=hc4;have hs1:s.size<=1000/\name.size<=60:=by omega
 refine g' 5 O (tX [0,0,0] O O acs (aEc s ev es hev hes) ?_);rintro _ _ ⟨no5,nt5,nn5,nm5,nl5,ns5,nk5,qo5,qa5,qb5,e5,rfl,rfl⟩;refine g' 3 O ?_;refine tA O (λg6=>?_);refine gQ 7 [0] O O (tX [] O O acs (aWw s (by omega)) ?_);rintro _ _ ⟨no7,nt7,nn7,nm7,nl7,ns7,nk7,qo7,qa7,qb7,e7,rfl,rfl⟩;refine g' 3 O ?_;refine tA O (λg8=>?_);refine gQ 11 [0] O O ?_;refine tOr 3 5 (c:=(hasN aggN name !=hasN aggN name)) O O O O O O (λhb9 nx10=>?_) ?_
 · have hf11:=aC hb9;refine g' 1 O (tW O acs (aPc name) (g' 1 O (tW O acs (aGl name) (tG O (zep (r:=.bool (hasN aggN name !=hasN aggN name)) O O (aJ9 _ _ _ _)) ?_))));exact nx10 _ O O (kx 5 O O)
 refine g' 2 O ?_;refine tC O (λhc12=>?_) (λhc12=>?_)
 · simp only[bX,bJ] at hc12;exfalso;rcases hc12 with h | h<;>simp at h
 simp only[bX,bJ] at hc12;refine g' 9 O ?_;refine tD O (λhc13=>?_) (λhc13=>?_)
 · refine gQ 4 [1] O O (tP O (zj [] [] (zv:=n9) O O (.nil) (bK) aZ zd1 ⟨O,O,O,O,O,O,O,trivial⟩ O) (tW O (ga (.cons (ArgC.agg (.cons (ArgC.cv cS) (.cons (ArgC.cv cS) (ga (ga (.cons (ArgC.cv Cv.nil) (.cons (ArgC.cv Cv.nil) (.cons (ArgC.cv Cv.nil) .nil)))))))) .nil)) (aKj (Nd.mk no5 nt5 nn5 nm5 nl5 ns5 nk5) noNd) (g' 1 O ?_)));refine tAnd 4 3 (c:=decide (qo5=(0:Int))) O O O O O O (λhb14 nx15=>?_) ?_
   · refine gQ 3 [1] O O ?_;exact nx15 _ O O (kx 3 O O)
   refine g' 5 O (kA 4 O (kA 4 O (kA 4 O ?_)));exact tRs rfl results7 (.cons (zd (zc rfl) (cB ((by have hz:=e5.trans (aN1 (by have h:=hc13;omega));injection hz with i1 i2 i3 i4;rw[cY,aI];exact⟨zf8.2 i1,i2⟩)))) .nil) rfl (mP 3 rfl) ⟨rfl,rfl⟩
 have hE:zbf s=0:=by have h:=hc13;omega
 have hEe5:=hE;have hq1:=sameQ_is.2 (e5.trans e7.symm);have hq2:(Nd.mk no5 nt5 nn5 nm5 nl5 ns5 nk5)=(Nd.mk no7 nt7 nn7 nm7 nl7 ns7 nk7):=by have h:=e5.trans e7.symm;injection h
 have hq3:=zf8.2 hq2;refine gQ 5 [1] O O (tX [2] O O acs (aLs hEe5 e5) ?_);rintro _ _ ⟨rfl,rfl⟩;refine g' 5 O (T.keep [0,1,4,5,6,7,8,9,23,25,26,27,28,29,30,31,32,33,34,35,36,37,38,44,45,46,56,57] O ?_);refine tDr 24 [(58,.agg [.s no5,.s nt5,dI nn5,dI nm5,.sh 1 (nl5.map D.s),.sh 3 (ns5.map MatD.d),.sh 7 (Nd.ds nk5),dI qo5,dI qa5,dI qb5],none),(59,.agg [.s no7,.s nt7,dI nn7,dI nm7,.sh 1 (nl7.map D.s),.sh 3 (ns7.map MatD.d),.sh 7 (Nd.ds nk7),dI qo7,dI qa7,dI qb7],none),(60,dB true,none),(61,dB false,none),(62,dB false,none),(63,.s ((zag s).pr),none),(64,.agg [.s no7,.s nt7,dI nn7,dI nm7,.sh 1 (nl7.map D.s),.sh 3 (ns7.map MatD.d),.sh 7 (Nd.ds nk7),dI qo7,dI qa7,dI qb7],none),(65,.s ((zag s).pr),none),(66,dB false,none),(67,dB false,none),(68,dB false,none),(69,dP g6 0,none),(70,n7 no5 nt5 nn5 nm5 nl5 ns5 nk5,none),(71,.s ((zag s).root.pr),some [HPow,.bx g8 29 (.agg [.s no7,.s nt7,dI nn7,dI nm7,.sh 1 (nl7.map D.s),.sh 3 (ns7.map MatD.d),.sh 7 (Nd.ds nk7),dI qo7,dI qa7,dI qb7]),.bx g6 29 (.agg [.s no5,.s nt5,dI nn5,dI nm5,.sh 1 (nl5.map D.s),.sh 3 (ns5.map MatD.d),.sh 7 (Nd.ds nk5),dI qo5,dI qa5,dI qb5]),HErr ev,HSyn es]),(72,dP g8 0,none),(73,n7 no7 nt7 nn7 nm7 nl7 ns7 nk7,none),(74,.s ((zag s).root.pr),none),(75,dB false,none),(76,dB false,none),(77,dB false,none),(78,dP g6 0,none),(79,n7 no5 nt5 nn5 nm5 nl5 ns5 nk5,none),(80,dP g8 0,none),(81,n7 no7 nt7 nn7 nm7 nl7 ns7 nk7,none)] [.bx g8 29 (.agg [.s no7,.s nt7,dI nn7,dI nm7,.sh 1 (nl7.map D.s),.sh 3 (ns7.map MatD.d),.sh 7 (Nd.ds nk7),dI qo7,dI qa7,dI qb7]),.bx g6 29 (.agg [.s no5,.s nt5,dI nn5,dI nm5,.sh 1 (nl5.map D.s),.sh 3 (ns5.map MatD.d),.sh 7 (Nd.ds nk5),dI qo5,dI qa5,dI qb5]),HErr ev,HSyn es] (Hn:=[HPow,.bx g8 29 (.agg [.s no7,.s nt7,dI nn7,dI nm7,.sh 1 (nl7.map D.s),.sh 3 (ns7.map MatD.d),.sh 7 (Nd.ds nk7),dI qo7,dI qa7,dI qb7]),.bx g6 29 (.agg [.s no5,.s nt5,dI nn5,dI nm5,.sh 1 (nl5.map D.s),.sh 3 (ns5.map MatD.d),.sh 7 (Nd.ds nk5),dI qo5,dI qa5,dI qb5]),HErr ev,HSyn es]) mixed O O O O (mQ 1 O) O ⟨sa_p O O O (zbz (d:=.agg [.s no5,.s nt5,dI nn5,dI nm5,.sh 1 (nl5.map D.s),.sh 3 (ns5.map MatD.d),.sh 7 (Nd.ds nk5),dI qo5,dI qa5,dI qb5]) O (i:=1) O eF eB O O),sa_p O O O (zbz (d:=.agg [.s no7,.s nt7,dI nn7,dI nm7,.sh 1 (nl7.map D.s),.sh 3 (ns7.map MatD.d),.sh 7 (Nd.ds nk7),dI qo7,dI qa7,dI qb7]) O (i:=0) O eF eB O O),sa_q O O O ((zbu O (gc (gc .nil)) Tryz.call27 (aI5 no5 nt5 nn5 nm5 nl5 ns5 nk5 qo5 qa5 qb5 no7 nt7 nn7 nm7 nl7 ns7 nk7 qo7 qa7 qb7) zaI).cv (cB (hq1))),sa_p O O O (zgf (q:=true) O),sa_p O O O (zk O),zJ O O O O O O (zk O).qu,zJ O O O O O O (zbz (d:=.agg [.s no7,.s nt7,dI nn7,dI nm7,.sh 1 (nl7.map D.s),.sh 3 (ns7.map MatD.d),.sh 7 (Nd.ds nk7),dI qo7,dI qa7,dI qb7]) O (i:=0) O eF eB O O).qu,zJ O O O O O O (zbu O (gc .nil) Tryz.call33 (aQd hE e7) zaI),zJ O O O O O O (aT7 O O (aD (λh=>h O))).qu,sa_p O O O (zdp O O),sa_p O O O (zk O),zJ O O O O O O (ze O pH O).qu,zJ O O O O O O (zbz (d:=n7 no5 nt5 nn5 nm5 nl5 ns5 nk5) O (i:=1) O aW aN O O).qu,a3b O O O O O O O (((zdF [HPow] [.bx g8 29 (.agg [.s no7,.s nt7,dI nn7,dI nm7,.sh 1 (nl7.map D.s),.sh 3 (ns7.map MatD.d),.sh 7 (Nd.ds nk7),dI qo7,dI qa7,dI qb7]),.bx g6 29 (.agg [.s no5,.s nt5,dI nn5,dI nm5,.sh 1 (nl5.map D.s),.sh 3 (ns5.map MatD.d),.sh 7 (Nd.ds nk5),dI qo5,dI qa5,dI qb5]),HErr ev,HSyn es] [] O O (ga .nil) zbh Tryz.call34 (aXu hE e5) (.inl O))).mono (by rintro _ _ ⟨_,⟨rfl,rfl⟩,rfl⟩;exact⟨rfl,rfl⟩)) (mQ 1 rfl),zJ rfl rfl rfl rfl rfl rfl (ze rfl pH rfl).qu,zJ rfl rfl rfl rfl rfl rfl (zbz (d:=n7 no7 nt7 nn7 nm7 nl7 ns7 nk7) rfl (i:=0) rfl aW aN rfl rfl).qu,zJ rfl rfl rfl rfl rfl rfl (zbu rfl (gc .nil) Tryz.call35 (aTv hE e7) zaI),zJ rfl rfl rfl rfl rfl rfl (aT7 rfl rfl (aD (λh=>h rfl))).qu,sa_p rfl rfl rfl (zdp rfl rfl),sa_p rfl rfl rfl (zk rfl),zJ rfl rfl rfl rfl rfl rfl (ze rfl pH rfl).qu,zJ rfl rfl rfl rfl rfl rfl (zbz (d:=n7 no5 nt5 nn5 nm5 nl5 ns5 nk5) rfl (i:=1) rfl aW aN rfl rfl).qu,zJ rfl rfl rfl rfl rfl rfl (ze rfl pH rfl).qu,zJ rfl rfl rfl rfl rfl rfl (zbz (d:=n7 no7 nt7 nn7 nm7 nl7 ns7 nk7) rfl (i:=0) rfl aW aN rfl rfl).qu,trivial⟩ ?_;refine tK O (tW O acs (aKj (Nd.mk no5 nt5 nn5 nm5 nl5 ns5 nk5) (Nd.mk no7 nt7 nn7 nm7 nl7 ns7 nk7)) (ts 82 O (aG (λb=>D.v (.bool b)) hq3) (g' 11 O (tP O (zw O aK) (g' 3 O ?_)))));refine tD O (λhc16=>?_) (λhc16=>?_)
 · refine g' 7 O (kA 4 O (kA 4 O (kA 2 O ?_)));exact tR O (mP 3 O) ⟨O,O⟩
 have hk:=aE9 hE (by have h:=hc16;omega);refine g' 5 O (tX [0,2,2] O O acs (aEc ((zag s).pr) ev es hev hes) ?_);rintro _ _ ⟨no17,nt17,nn17,nm17,nl17,ns17,nk17,qo17,qa17,qb17,e17,rfl,rfl⟩;have hEe17:zbf (zag s).pr=0:=hk.1;have hsq:=sameQ_is.2 (e5.trans (hk.2.symm.trans e17.symm));refine g' 3 O ?_;refine tA O (λg18=>?_);refine gQ 5 [0] O O ?_;refine tS 4 ((decide ((zbf ((zag s).pr))=(0:Int))&&decide (((zag ((zag s).pr)).pr)=((zag s).pr)))) (λ_ hQ19=>?_) ?_
 · by_cases hg20:(zbf ((zag s).pr))=(0:Int)
   · refine g' 2 O (tP O (zaA O O (aE hg20)) (gQ 3 [5,0] O O (tW O acs (aI5 no5 nt5 nn5 nm5 nl5 ns5 nk5 qo5 qa5 qb5 no17 nt17 nn17 nm17 nl17 ns17 nk17 qo17 qa17 qb17) (ts 98 O (aG (λb=>D.v (.bool b)) hsq) (gQ 3 [0] O O (tX [1] O O acs (aLs hEe17 e17) ?_))))));rintro _ _ ⟨rfl,rfl⟩;refine g' 5 O (kA 5 O (kA 5 O (kA 5 O (kA 5 O (kA 4 O (kA 5 O ?_))))));exact tQ hQ19 O O (by first | (simp[hc13,hc16,hg20,hk.1,hq1,hq3,hsq];done) | (simp only[aD hc13,aE hq1,aE hq3,aD hc16,aE hk.1,aE hsq,aE hg20,jY,u9,dQ,uQ,vP,uF,jI,vM];done) | (simp_all;done))
   refine g' 2 O (tP O (zaA O O (aD hg20)) (g' 13 O ?_));exact tQ hQ19 O O (by first | (simp[hc13,hc16,hg20,hk.1,hq1,hq3,hsq];done) | (simp only[aD hc13,aE hq1,aE hq3,aD hc16,aE hk.1,aE hsq,aD hg20,jY,u9,dQ,uQ,vP,uF,jI,vM];done) | (simp_all;done))
 refine g' 2 O (kA 3 O (kA 3 O (kA 3 O ?_)));exact tRs O results7 (.cons (zd (zc O) (cB ((by simp[hk.1,hsq,aG QryD.pr hk.2])))) .nil) O (mP 3 O) ⟨O,O⟩
end Lp
