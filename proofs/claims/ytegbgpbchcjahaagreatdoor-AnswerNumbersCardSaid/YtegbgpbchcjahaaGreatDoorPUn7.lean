import Derived.Test.YtegbgpbchcjahaaGreatDoorPSev
set_option linter.all false
namespace Lp
open Go
def Bd (s:Rd):Prop:=s.b=true\/200<s.n
def Sk.bd {c:Int} {s t:Rd} (h:Sk c s t) (k:Bd s):Bd t:=k.imp h.b (λe=>by have:=h.p.n;omega)
structure Sm {α:Type} (p r:α×Rd):Prop where
 g:p.2.b=false->r=p
 d:p.2.b=true->Bd r.2
def m5 {α:Type} (p:α×Rd):Sm p p:=⟨λ_=>rfl,.inl⟩
def m7 {α:Type} {p r:α×Rd} (h:p.2.b=true) (k:Bd r.2):Sm p r:=⟨λe=>(by rw[h] at e;cases e),λ_=>k⟩
section
variable {s t:Rd} {k:Int} {x y:Ba} {ts:List Ba}
def bf (h:¬s.b=true):s.b=false:=by simpa using h
def zbF (hb:s.b=false):s.is7 k x=s.is k [x]:=by unfold Rd.is7;rw[hb];rfl
def zbV (hb:s.b=false) (hi:s.is k ts=true):s.take k ts=(s.pk.t,true,s.tl):=by unfold Rd.take;rw[aA (by rw[hb,hi];simp)];rfl
def zeE (hb:s.b=false) (hi:s.is 5 [x]=true):s.must x=s.tl:=by
 unfold Rd.must;rw[zbV hb hi];simp only[Bool.not_true,jB]
def zel (hb:s.b=false) (hk:s.pk.k=k):s.any k=(s.pk.t,s.tl):=by unfold Rd.any;rw[aA (by rw[hb,hk];simp)];rfl
def zgR (h:s.is k [x]=true):s.pk.t=x:=by
 unfold Rd.is hasN at h;simp at h;exact h.2.symm
def aSz {a b:Ba}:s.is k [a,b]=(s.is k [a]||s.is k [b]):=by
 unfold Rd.is hasN;simp only[jY,uB,jB];cases decide (s.pk.k=k)<;>simp
def lG {F:Nat} {o:List Ba} (h:s.b=true):(zaD F o s).2.b=true:=(gO F o s).b h
def sD:∀ (F F':Nat) (o:List Ba) (s:Rd),s.b=false->s.l.length<F->s.l.length<=F'->Sm ((namesF F o s).1,(namesF F o s).2.must zL) ((zaD F' (o++[(s.any 1).1]) (s.any 1).2).1,(zaD F' (o++[(s.any 1).1]) (s.any 1).2).2.must zL)
 | 0,_,_,_,_,h,_=>aH h (jQ _)
 | F+1,F',o,s,hb,hF,hF'=>by
  unfold namesF;rw[aA (by rw[hb];decide)];by_cases ha:(s.any 1).2.b=true
  · rw[zcE ha];exact m7 (zX ha) (.inl (zX (lG ha)))
  have ha:=bf ha;have hl:=ze0 (s:=s) (by decide) ha;obtain ⟨F',rfl⟩:∃ j,F'=j+1:=⟨F'-1,by omega⟩;have hlo:0<(o++[(s.any 1).1]).length:=by simp
  by_cases hc:(s.any 1).2.is 5 [zL]=true
  · have hm:(s.any 1).2.is 5 [zV]=false:=by
     have:=zgR hc;unfold Rd.is;rw[this];rw[show hasN [zV] zL=false by decide,uM]
    rw[zaZ (.inr hm),aA (by simp)];unfold zaD;rw[aB (.inr (by rw[zbF ha];exact hc))];exact m5 _
  have e7:zaD (F'+1) (o++[(s.any 1).1]) (s.any 1).2=zaD F' ((o++[(s.any 1).1])++[(((s.any 1).2.must zV).any 1).1]) (((s.any 1).2.must zV).any 1).2:=by
   conv=>lhs;unfold zaD
   rw[aA (by rw[zbF ha,ha];simp only[wB,false_or];exact hc)];simp only[aB hlo]
  rw[e7];by_cases hm:(s.any 1).2.is 5 [zV]=true
  · rw[zbV ha hm,aB rfl,zeE ha hm];have hl2:=(zeq (zfl (by decide) hm)).2;exact sD F F' _ (s.any 1).2.tl ha (by omega) (by omega)
  have hm:(s.any 1).2.is 5 [zV]=false:=by simpa using hm
  rw[zaZ (.inr hm),aA (by simp)];refine m7 (iD (by simpa using hc)) (.inl (zX (lG (zcC ?_))));exact iD hm
def aMy (s:Rd) (hb:s.b=false):Sm s.names s.names7:=by
 unfold Rd.names Rd.names7;simp only;by_cases h1:(s.must zE).b=true
 · have hr:((zaD ((s.must zE).l.length+1) [] (s.must zE)).2.must zL).b=true:=zX (lG h1);split
   · exact m7 (zX h1) (.inl hr)
   exact m7 (zX (rC h1)) (.inl hr)
 have h1:=bf h1;by_cases hc:(s.must zE).is 5 [zL]=true
 · rw[aB hc];unfold zaD;rw[aB (.inr (by rw[zbF h1];exact hc))];exact m5 _
 rw[aA hc];have e:zaD ((s.must zE).l.length+1) [] (s.must zE)=zaD (s.must zE).l.length ([]++[((s.must zE).any 1).1]) ((s.must zE).any 1).2:=by
  conv=>lhs;unfold zaD
  rw[aA (by rw[zbF h1,h1];simp only[wB,false_or];exact hc)];rfl
 rw[e];exact sD _ _ [] _ h1 (jR _) (cW _)
def aEk (s:Rd) (hb:s.b=false) (hxy:x≠y):((s.mode x y).2.2.b=false->s.mode7 x y=s.mode x y)/\((s.mode x y).2.2.b=true->Bd (s.mode7 x y).2.2):=by
 unfold Rd.mode Rd.mode7;rw[zbF hb,zbF hb];by_cases hi:s.is 1 [x,y]=true
 · have hor:s.is 1 [x]=true\/s.is 1 [y]=true:=(by rw[aSz,jJ] at hi;exact hi);rw[zbV hb hi,aA (by simp),aB hor];have hn:=aMy s.tl hb;by_cases ht:s.pk.t=x
   · have hy:¬s.is 1 [y]=true:=λh=>hxy (ht.symm.trans (zgR h))
     rw[aA hy,aB (show (s.pk.t,true,s.tl).1=x from ht)];exact⟨λe=>(by rw[hn.g e]),hn.d⟩
   have hy:s.is 1 [y]=true:=by
    rw[aSz,jJ] at hi;rcases hi with h | h
    · exact aH (zgR h) ht
    exact h
   rw[aB hy,aA (show ¬(s.pk.t,true,s.tl).1=x from ht)];exact⟨λe=>(by rw[hn.g e]),hn.d⟩
 have hi:s.is 1 [x,y]=false:=by simpa using hi
 rw[zaZ (.inr hi),aB rfl,aA (by rw[aSz,jE] at hi;rw[hi.1,hi.2];simp)];exact⟨λ_=>rfl,.inl⟩
def xO (hb:s.b=false) (hn:¬200<s.n+1):s.node=s.node7:=by
 unfold Rd.node Rd.node7;rw[hb,aD hn];rfl
def aAf (hn:200<s.n+1):s.node.b=true:=by unfold Rd.node;rw[aE hn];simp
def xD {α β:Type} (z:β) {p r:α×Rd} (h:Sm p r):Sm (z,p.2.node) (z,r.2.node7):=by
 by_cases hb:p.2.b=true
 · exact m7 (zbv hb) (za4.bd (h.d hb))
 have hb:=bf hb;rw[h.g hb];by_cases hn:200<p.2.n+1
 · exact m7 (aAf hn) (.inr hn)
 rw[xO hb hn];exact m5 _
end
def Al (m:Nat) (p r:Rd->Nd×Rd):Prop:=∀ s:Rd,s.b=false->s.l.length<=m->Sm (p s) (r s)
def sN {part part7:Rd->Nd×Rd} {ts:List Ba} {m:Nat} (hb:Bad part) (hs:∀ s,Stp 1 s (part s).2) (h7:∀ s,Sk 1 s (part7 s).2) (hp:Al m part part7):∀ (F F':Nat) (o:Nd) (s:Rd),s.b=false->s.l.length<F->s.l.length<F'->s.l.length<=m->Sm (zaO part ts F o s) (zbS part7 ts F' o s)
 | 0,_,_,_,_,h,_,_=>aH h (jQ _)
 | _,0,_,_,_,_,h,_=>aH h (jQ _)
 | F+1,F'+1,o,s,hsb,hF,hF',hm=>by
  unfold zaO zbS;by_cases hi:s.is 5 ts=true
  · have hl2:=(zeq (zfl (by decide) hi)).2;rw[zbV hsb hi,aA (by simp),aA (by rw[hsb,hi];simp)];simp only;obtain ⟨m1,m2⟩:=aEk (x:=tOn) (y:=zQ) s.tl hsb (by decide);have k2:=(zcg s.tl tOn zQ).len;by_cases hmb:(s.tl.mode tOn zQ).2.2.b=true
    · exact m7 (zcO (zbv (hb _ hmb))) ((zdb h7 _ _ _).bd (za4.bd ((h7 _).bd (m2 hmb))))
    have hmb:=bf hmb;rw[m1 hmb];have hq:=hp (s.tl.mode tOn zQ).2.2 hmb (by omega);by_cases hqb:(part (s.tl.mode tOn zQ).2.2).2.b=true
    · exact m7 (zcO (zbv hqb)) ((zdb h7 _ _ _).bd (za4.bd (hq.d hqb)))
    have hqb:=bf hqb;rw[hq.g hqb];by_cases hn:200<(part (s.tl.mode tOn zQ).2.2).2.n+1
    · exact m7 (zcO (aAf hn)) ((zdb h7 _ _ _).bd (.inr hn))
    rw[xO hqb hn];have k3:=(hs (s.tl.mode tOn zQ).2.2).len;exact sN hb hs h7 hp F F' _ _ hqb (by show (part _).2.l.length<F;omega) (by show (part _).2.l.length<F';omega) (by show (part _).2.l.length<=m;omega)
  have hi:s.is 5 ts=false:=by simpa using hi
  rw[zaZ (.inr hi),aB rfl,aB (.inr hi)];exact m5 _
def iL {part part7:Rd->Nd×Rd} {ts:List Ba} {m:Nat} (hb:Bad part) (hs:∀ s,Stp 1 s (part s).2) (h7:∀ s,Sk 1 s (part7 s).2) (hp:Al m part part7):Al m (λs=>s.level part ts) (λs=>s.level7 part7 ts):=λs hsb hm=>by
 have h:=hp s hsb hm;have k3:=(hs s).len;simp only[Rd.level,Rd.level7];by_cases hpb:(part s).2.b=true
 · exact m7 (zcO hpb) ((zdb h7 _ _ _).bd (h.d hpb))
 have hpb:=bf hpb;rw[h.g hpb];exact sN hb hs h7 hp _ _ _ _ hpb (jR _) (jR _) (by omega)
def Rd.mat (s:Rd):MatD×Rd:=
 let a:=s.any 1;let c:=a.2.take 5 [tEq,tNe,zbd,zag];let v:=Rd.any ⟨c.2.2.l,c.2.2.n,c.2.2.b||!c.2.1⟩ 3
 (⟨a.1,opM c.1,v.1⟩,v.2)
def Rd.mat7 (s:Rd):MatD×Rd:=
 let a:=s.any 1;let c:=a.2.any 5;let v:=(c.2.bd (decide (opM c.1=0))).any 3
 (⟨a.1,opM c.1,v.1⟩,v.2)
def opM_0 {t:Ba}:opM t=0↔hasN [tEq,tNe,zbd,zag] t=false:=by
 unfold opM hasN;simp only[jY,uB,jB,jE,aJ];by_cases a1:t=tEq
 · rw[aB a1];exact⟨λh=>(by cases h),λh=>aH a1.symm h.1⟩
 by_cases a2:t=tNe
 · rw[aA a1,aB a2];exact⟨λh=>(by cases h),λh=>aH a2.symm h.2.1⟩
 by_cases a3:t=zbd
 · rw[aA a1,aA a2,aB a3];exact⟨λh=>(by cases h),λh=>aH a3.symm h.2.2.1⟩
 by_cases a4:t=zag
 · rw[aA a1,aA a2,aA a3,aB a4];exact⟨λh=>(by cases h),λh=>aH a4.symm h.2.2.2⟩
 rw[aA a1,aA a2,aA a3,aA a4];exact⟨λ_=>⟨λe=>a1 e.symm,λe=>a2 e.symm,λe=>a3 e.symm,λe=>a4 e.symm⟩,λ_=>rfl⟩
def aYm (s:Rd) (hb:s.b=false):(s.mat.2.b=false->s.mat7=s.mat)/\(s.mat.2.b=true->s.mat7.2.b=true):=by
 unfold Rd.mat Rd.mat7;simp only;by_cases ha:(s.any 1).2.b=true
 · rw[zcE ha];have e1:(Rd.any ⟨(s.any 1).2.l,(s.any 1).2.n,(s.any 1).2.b||!false⟩ 3).2.b=true:=zcC (s:=⟨_,_,_⟩) (by simp);have e2:((((s.any 1).2.any 5).2.bd (decide (opM ((s.any 1).2.any 5).1=0))).any 3).2.b=true:=zcC (zf2.b (zcC ha));exact⟨λe=>(by rw[e1] at e;cases e),λ_=>e2⟩
 have ha:=bf ha;by_cases hi:(s.any 1).2.is 5 [tEq,tNe,zbd,zag]=true
 · rw[zbV ha hi,zel ha (is_k hi)];have h4:¬opM (s.any 1).2.pk.t=0:=λe=>by
    have:=opM_0.1 e;unfold Rd.is at hi;rw[this,uM] at hi;cases hi
   have e:(s.any 1).2.tl.bd (decide (opM (s.any 1).2.pk.t=0))=⟨(s.any 1).2.tl.l,(s.any 1).2.tl.n,(s.any 1).2.tl.b||!true⟩:=(by unfold Rd.bd;rw[aD h4];rfl);rw[e];exact⟨λ_=>rfl,id⟩
 have hi:(s.any 1).2.is 5 [tEq,tNe,zbd,zag]=false:=by simpa using hi
 rw[zaZ (.inr hi)];have e1:(Rd.any ⟨(s.any 1).2.l,(s.any 1).2.n,(s.any 1).2.b||!false⟩ 3).2.b=true:=zcC (s:=⟨_,_,_⟩) (by simp);refine⟨λe=>(by rw[e1] at e;cases e),λ_=>zcC ?_⟩;by_cases hk:(s.any 1).2.pk.k=5
 · rw[zel ha hk];have h4:opM (s.any 1).2.pk.t=0:=opM_0.2 (by
    unfold Rd.is at hi;rw[hk] at hi;simpa using hi)
   unfold Rd.bd;rw[aE h4];simp
 exact zf2.b (by rw[zeu (.inr hk)])
def nX {F:Nat} {o:List MatD} {s:Rd} (h:s.b=true):(za7 F o s).2.b=true:=(fM F o s).b h
def aTc {s:Rd} (e:s.mat.2.b=false):s.mat.2.l.length+1<=s.l.length:=by
 unfold Rd.mat at e ⊢;simp only at e ⊢;have hc:=zae (λq=>zcC (s:=⟨_,_,_⟩) q) e;have ha:(s.any 1).2.b=false:=by have:=(jE.1 hc).1;rw[ze6] at this;exact this
 have l1:=ze0 (s:=s) (by decide) ha;have l2:=(z8 (s.any 1).2 5 [tEq,tNe,zbd,zag]).len;have l3:=ze0 (by decide) e;simp only at l3;omega
def nF:∀ (F F':Nat) (o:List MatD) (s:Rd),s.b=false->s.l.length<F->s.l.length<=F'->Sm ((bracesF F o s).1,(bracesF F o s).2.must zaW) ((za7 F' (o++[s.mat7.1]) s.mat7.2).1,(za7 F' (o++[s.mat7.1]) s.mat7.2).2.must zaW)
 | 0,_,_,_,_,h,_=>aH h (jQ _)
 | F+1,F',o,s,hb,hF,hF'=>by
  have e0:bracesF (F+1) o s=if (s.mat.2.take 5 [zV]).2.1=true then bracesF F (o++[s.mat.1]) (s.mat.2.take 5 [zV]).2.2 else(o++[s.mat.1],(s.mat.2.take 5 [zV]).2.2):=by
   conv=>lhs;unfold bracesF
   rw[aA (by rw[hb];decide)];rfl
  rw[e0];obtain ⟨m1,m2⟩:=aYm s hb;by_cases ha:s.mat.2.b=true
  · rw[zcE ha];exact m7 (zX ha) (.inl (zX (nX (m2 ha))))
  have ha:=bf ha;rw[m1 ha];have hl:=aTc ha;obtain ⟨F',rfl⟩:∃ j,F'=j+1:=⟨F'-1,by omega⟩;have hlo:0<(o++[s.mat.1]).length:=by simp
  by_cases hc:s.mat.2.is 5 [zaW]=true
  · have hm:s.mat.2.is 5 [zV]=false:=by
     have:=zgR hc;unfold Rd.is;rw[this];rw[show hasN [zV] zaW=false by decide,uM]
    rw[zaZ (.inr hm),aA (by simp)];unfold za7;rw[aB (.inr (by rw[zbF ha];exact hc))];exact m5 _
  have e7:za7 (F'+1) (o++[s.mat.1]) s.mat.2=za7 F' ((o++[s.mat.1])++[(s.mat.2.must zV).mat7.1]) (s.mat.2.must zV).mat7.2:=by
   conv=>lhs;unfold za7
   rw[aA (by rw[zbF ha,ha];simp only[wB,false_or];exact hc)];simp only[aB hlo];rfl
  rw[e7];by_cases hm:s.mat.2.is 5 [zV]=true
  · rw[zbV ha hm,aB rfl,zeE ha hm];have hl2:=(zeq (zfl (by decide) hm)).2;exact nF F F' _ s.mat.2.tl ha (by omega) (by omega)
  have hm:s.mat.2.is 5 [zV]=false:=by simpa using hm
  rw[zaZ (.inr hm),aA (by simp)];refine m7 (iD (by simpa using hc)) (.inl (zX (nX ?_)));unfold Rd.mat7;simp only;exact zcC (zf2.b (zcC (zcC (iD hm))))
end Lp
namespace Lp
open Go
section
variable {s:Rd} {k:Int} {ts:List Ba} {x:Ba}
def zbr:(s.take k ts).2.2.n=s.n:=by unfold Rd.take;split<;>rfl
def zbO:(s.must x).n=s.n:=zbr
def zem:(s.any k).2.n=s.n:=by unfold Rd.any;split<;>rfl
def zeD (h:s.node.b=false):s.node.n<=200:=by
 have h:(s.b||decide (200<s.n+1))=false:=h;have:=aC (jE.1 h).2;show s.n+1<=200;omega
def aCh:∀ (F:Nat) (o:List Ba) (s:Rd),(namesF F o s).2.n=s.n
 | 0,o,s=>rfl
 | F+1,o,s=>by
  unfold namesF;split
  · rfl
  split
  · rw[aCh F];exact zbr.trans zem
  exact zbr.trans zem
def names_n:s.names.2.n=s.n:=by
 unfold Rd.names;split
 · exact zbO.trans zbO
 exact zbO.trans ((aCh _ _ _).trans zbO)
def mode_n {y:Ba}:(s.mode x y).2.2.n=s.n:=by
 unfold Rd.mode;split
 · exact zbr
 split
 · exact names_n.trans zbr
 exact names_n.trans zbr
def sW:∀ (F:Nat) (o:List MatD) (s:Rd),(bracesF F o s).2.n=s.n
 | 0,o,s=>rfl
 | F+1,o,s=>by
  unfold bracesF;split
  · rfl
  simp only;split
  · rw[sW F];exact zbr.trans (zem.trans (zbr.trans zem))
  exact zbr.trans (zem.trans (zbr.trans zem))
end
def CnP (m:Nat) (p:Rd->Nd×Rd):Prop:=∀ s:Rd,s.l.length<=m->(p s).2.b=false->(p s).2.n=s.n+((p s).1.cnt:Int)/\(p s).2.n<=200
def rI {part:Rd->Nd×Rd} {ts:List Ba} (hb:Bad part) (hs:∀ s,Stp 1 s (part s).2) {m:Nat} (hp:CnP m part):∀ (F:Nat) (o:Nd) (s:Rd),s.l.length<=m->s.n<=200->(zaO part ts F o s).2.b=false->(zaO part ts F o s).2.n+(o.cnt:Int)=s.n+((zaO part ts F o s).1.cnt:Int)/\(zaO part ts F o s).2.n<=200
 | 0,o,s,_,h,_=>⟨rfl,h⟩
 | F+1,o,s,hm,h,e=>by
  have k1:=(z8 s 5 ts).len;have n1:=zbr (s:=s) (k:=5) (ts:=ts);unfold zaO at e ⊢;split
  · exact⟨by rw[n1],by rw[n1];exact h⟩
  rename_i hc;rw[aA hc] at e;simp only at e ⊢;have eq:=zae (λq=>zcO q) e;have ep:(part ((s.take 5 ts).2.2.mode tOn zQ).2.2).2.b=false:=zae zbv eq;have k2:=(zcg (s.take 5 ts).2.2 tOn zQ).len;have k3:=(hs ((s.take 5 ts).2.2.mode tOn zQ).2.2).len;have n2:=mode_n (s:=(s.take 5 ts).2.2) (x:=tOn) (y:=zQ);have w:=hp _ (by omega) ep;have n3:=zeD eq;have n4:(part ((s.take 5 ts).2.2.mode tOn zQ).2.2).2.node.n=(part ((s.take 5 ts).2.2.mode tOn zQ).2.2).2.n+1:=rfl;have h:=rI hb hs hp F _ _ (by show (part _).2.l.length<=m;omega) n3 e;refine⟨?_,h.2⟩;have h1:=h.1;simp only[Nd.cnt,Nd.cntL] at h1;omega
def iC {part:Rd->Nd×Rd} {ts:List Ba} (hb:Bad part) (hs:∀ s,Stp 1 s (part s).2) {m:Nat} (hp:CnP m part):CnP m (λs=>s.level part ts):=λs hm e=>by
 have ep:(part s).2.b=false:=zae (λq=>zcO q) e;have k3:=(hs s).len;have w:=hp s hm ep;have h:=rI hb hs hp _ _ _ (by omega) w.2 e;simp only[Rd.level] at e ⊢;exact⟨by omega,h.2⟩
section
variable (rm:List MatD->Bool)
def aXx {m:Nat}:CnP m (λs=>s.selector rm):=λs _ e=>by
 have e:(s.selector rm).2.b=false:=e;show (s.selector rm).2.n=s.n+((s.selector rm).1.cnt:Int)/\(s.selector rm).2.n<=200;unfold Rd.selector at e ⊢;simp only at e ⊢;have n1:s.selName.2.n=s.n:=by unfold Rd.selName;split;exact zem;rfl
 have n2:(s.selName.2.selMs rm s.selName.1).2.n=s.n:=by
  refine Eq.trans ?_ n1;unfold Rd.selMs;split
  · unfold Rd.braces;split
    · exact zbO.trans zbO
    exact zbO.trans ((sW _ _ _).trans zbO)
  rfl
 have n3:(s.selName.2.selMs rm s.selName.1).2.selWin.2.n=s.n:=by
  refine Eq.trans ?_ n2;unfold Rd.selWin;split
  · exact zbO.trans (zem.trans zbr)
  exact zbr
 refine⟨?_,zeD e⟩;show _+1=_;rw[n3];simp only[Nd.cnt,Nd.cntL];omega
def aT0 {ex:Rd->Nd×Rd} (hb:Bad ex) {m:Nat} (hx:∀ a,a<m->CnP a ex):CnP m (λs=>s.prim rm ex):=λs hl e=>by
 have h0:s.b=false:=(aHb rm ex).no e;have hn:¬s.b=true:=by rw[h0];decide
 simp only[Rd.prim] at e ⊢;rw[aA hn] at e ⊢;split
 · rename_i hc;rw[aB hc] at e;refine⟨?_,zeD e⟩;show (s.any 2).2.n+1=_;rw[zem];simp only[Nd.cnt,Nd.cntL];omega
 rename_i hc;rw[aA hc] at e;split
 · rename_i hd;rw[aB hd] at e;have e1:=zae zX e;have l1:=zeF (hb.no e1);have w:=hx _ (by omega) _ (cW _) e1;have n1:=zbO (s:=s) (x:=zE);have n2:=zbO (s:=(ex (s.must zE)).2) (x:=zL);simp only;omega
 rename_i hd;rw[aA hd] at e;split
 · rename_i hf;rw[aB hf] at e;unfold Rd.aggr at e ⊢;simp only at e ⊢;have e7:=zae zbv e;have e6:=zae zX e7;have e5:=hb.no e6;have e3:((s.any 1).2.mode tBy zN |>.2.2.must zE).b=false:=by
    by_cases hn:zaA (s.any 1).1=true
    · rw[aB hn,aB hn] at e5;exact zae zcC (zae zX e5)
    rw[aA hn,aA hn] at e5;exact e5
   have e1:(s.any 1).2.b=false:=zae aO4 (zae zX e3);have l1:=ze0 (s:=s) (by decide) e1;have l2:=(zcg (s.any 1).2 tBy zN).len;have l3:=(zaa ((s.any 1).2.mode tBy zN).2.2 zE).len;have l4:=(zbu (((s.any 1).2.mode tBy zN).2.2.must zE) 2).len;have l5:=(zaa ((((s.any 1).2.mode tBy zN).2.2.must zE).number 2).2 zV).len;have n1:(((s.any 1).2.mode tBy zN).2.2.must zE).n=s.n:=zbO.trans (mode_n.trans zem);have n5:((((s.any 1).2.mode tBy zN).2.2.must zE).number 2).2.n=s.n:=zem.trans n1;have n6:(((((s.any 1).2.mode tBy zN).2.2.must zE).number 2).2.must zV).n=s.n:=zbO.trans n5;refine⟨?_,zeD e⟩;by_cases hn:zaA (s.any 1).1=true
   · simp only[aB hn] at e6 ⊢;have w:=hx _ (by omega) _ (cW _) e6;show (Rd.must _ zL).n+1=_;rw[zbO];simp only[Nd.cnt,Nd.cntL];omega
   simp only[aA hn] at e6 ⊢;have w:=hx _ (by omega) _ (cW _) e6;show (Rd.must _ zL).n+1=_;rw[zbO];simp only[Nd.cnt,Nd.cntL];omega
 rename_i hf;rw[aA hf] at e;split
 · rename_i hg;rw[aB hg] at e;simp only at e ⊢;have e0:=zae zX e;have e1:=zae zbv e0;have l1:=zeF (hb.no e1);have l2:=(zco s 1).len;have w:=hx _ (by omega) _ (cW _) e1;have n1:((s.any 1).2.must zE).n=s.n:=zbO.trans zem;have n2:=zeD e0;have n3:(ex ((s.any 1).2.must zE)).2.node.n=(ex ((s.any 1).2.must zE)).2.n+1:=rfl;rw[zbO];simp only[Nd.cnt,Nd.cntL];omega
 rename_i hg;rw[aA hg] at e;exact aXx (m:=s.l.length) rm s (cW _) e
def sI {ex:Rd->Nd×Rd} {m:Nat} (hp:CnP m (λs=>s.prim rm ex)):∀ (F:Nat) (s:Rd),s.l.length<F->s.l.length<=m->(zat rm ex F s).2.b=false->(zat rm ex F s).2.n=s.n+((zat rm ex F s).1.cnt:Int)/\(zat rm ex F s).2.n<=200
 | 0,s,h,_,_=>aH h (jQ _)
 | F+1,s,hF,hm,e=>by
  unfold zat at e ⊢;have k1:=(z8 s 5 [zaM]).len;have n1:=zbr (s:=s) (k:=5) (ts:=[zaM]);split
  · rename_i hc;rw[aB hc] at e;simp only at e ⊢;have hg:=za3 (by decide) hc;have w:=sI hp F _ (by omega) (by omega) (zae zbv e);refine⟨?_,zeD e⟩;show _+1=_;simp only[Nd.cnt,Nd.cntL];omega
  rename_i hc;rw[aA hc] at e;have w:=hp _ (by omega) e;simp only at w;exact⟨by rw[w.1,n1],w.2⟩
def aUo {ex:Rd->Nd×Rd} (hb:Bad ex) (hs:∀ s,Stp 1 s (ex s).2) {m:Nat} (hx:∀ a,a<m->CnP a ex):CnP m (zfb rm ex):=
 iC (λs h=>iS rm ex _ s h) (λs=>zbU rm hs _ s) (λs hm e=>sI rm (aT0 rm hb hx) _ s (jR _) hm e)
def aP0 {ex:Rd->Nd×Rd} (hb:Bad ex) (hs:∀ s,Stp 1 s (ex s).2) {m:Nat} (hx:∀ a,a<m->CnP a ex):CnP m (sumP rm ex):=
 iC (aAr rm ex) (λs=>zdH rm hs s) (aUo rm hb hs hx)
def aGn:∀ f:Nat,CnP f (za5 rm (f+1))
 | 0=>iC (zgk rm _) (λs=>zbH rm (zab rm _) s) (aP0 rm (zfJ rm _) (zab rm _) (λa ha=>aH ha (jQ _)))
 | f+1=>iC (zgk rm _) (λs=>zbH rm (zab rm _) s) (aP0 rm (zfJ rm _) (zab rm _) (λa ha s hl e=>aGn f s (by omega) e))
end
end Lp
namespace Lp
open Go
section
variable {rm:List MatD->Bool} {s:Rd} {k:Int} {x y:Ba}
structure Sb (rm:List MatD->Bool) (p r:List MatD×Rd):Prop where
 g:p.2.b=false->r=p/\rm p.1=true
 d:p.2.b=true->Bd r.2\/rm r.1=false
def aJm (hrm:rm []=true) (hb:s.b=false):Sb rm (s.selMs rm x) (s.selMs7 x):=by
 unfold Rd.selMs Rd.selMs7;rw[zbF hb];by_cases hi:s.is 5 [zaq]=true
 · rw[aB hi,aB hi];unfold Rd.braces;rw[zeE hb hi];have htb:s.tl.b=false:=hb;by_cases hc:s.tl.is 5 [zaW]=true
   · rw[aB hc];unfold za7;rw[aB (.inr (by rw[zbF htb];exact hc))];exact⟨λ_=>⟨O,hrm⟩,λe=>.inl (.inl e)⟩
   rw[aA hc];have e7:za7 (s.tl.l.length+1) [] s.tl=za7 s.tl.l.length ([]++[s.tl.mat7.1]) s.tl.mat7.2:=by
    conv=>lhs;unfold za7
    rw[aA (by rw[zbF htb,htb];simp only[wB,false_or];exact hc)];rfl
   rw[e7];have h:=nF (s.tl.l.length+1) s.tl.l.length [] s.tl htb (jR _) (cW _);generalize za7 s.tl.l.length ([]++[s.tl.mat7.1]) s.tl.mat7.2=r at h ⊢;generalize bracesF (s.tl.l.length+1) [] s.tl=p at h ⊢;simp only;obtain ⟨hg,hd⟩:=h;simp only at hg hd;by_cases hpb:(p.2.must zaW).b=true
   · refine⟨λe=>?_,λ_=>?_⟩
     · have e:((p.2.must zaW).b||!rm p.1)=false:=e;rw[hpb] at e;cases e
     exact .inl (hd hpb)
   have hpb:=bf hpb;have e:=hg hpb;injection e with e1 e2;rw[e1,e2];refine⟨λe=>?_,λe=>?_⟩
   · have e:((p.2.must zaW).b||!rm p.1)=false:=e;rw[hpb] at e;have hr:rm p.1=true:=(by simpa using e);refine⟨?_,hr⟩;rw[hr];simp
   have e:((p.2.must zaW).b||!rm p.1)=true:=e;rw[hpb] at e;exact .inr (by simpa using e)
 have hi:s.is 5 [zaq]=false:=by simpa using hi
 rw[aA (by rw[hi];decide),aA (by rw[hi];decide)];exact⟨λ_=>⟨O,hrm⟩,λe=>.inl (.inl e)⟩
def aFx (hb:s.b=false):s.selWin7=s.selWin:=by
 unfold Rd.selWin7 Rd.selWin;rw[zbF hb];by_cases hi:s.is 5 [tSq]=true
 · rw[aB hi,zbV hb hi,zeE hb hi];rfl
 have hi:s.is 5 [tSq]=false:=by simpa using hi
 rw[aA (by rw[hi];decide),zaZ (.inr hi)];rfl
def bd_f:s.bd false=s:=by unfold Rd.bd;rw[jB]
def aXp (hrm:rm []=true) (hb:s.b=false):Sm (s.selector rm) (s.sel7 rm):=by
 have hk:∀ (t:Rd) (b:Bool),Bd t->Bd (t.selWin7.2.bd b).node7:=λt b h=>((selWin7_sk.trans (zf2 (b:=b))).trans za4).bd h
 by_cases hl:s.l=[]
 · refine m7 (xP rm hl) ?_;have e:s.selName7=(ByteArray.empty,s):=(by unfold Rd.selName7;rw[aA (by rw[hl];simp)]);unfold Rd.sel7;simp only;rw[e];refine hk _ _ ?_;unfold Rd.selMs7;rw[aA (by rw[zbF hb,zdu hl (by decide)];decide)];exact .inl (by show (s.b||decide (ByteArray.empty=ByteArray.empty))=true;simp)
 have hp:=dW.2 hl;have e:s.selName7=s.selName:=by
  unfold Rd.selName7 Rd.selName;by_cases hc:s.pk.k=1/\zef s.pk.t=false
  · rw[aB ⟨hp,hc⟩,aB hc]
  rw[aA (λh=>hc h.2),aA hc]
 have hnb:s.selName.2.b=false:=by
  unfold Rd.selName;split
  · rename_i hc;rw[zel hb hc.1];exact hb
  exact hb
 unfold Rd.sel7 Rd.selector;simp only;rw[e];have h:=aJm (rm:=rm) (x:=s.selName.1) hrm hnb;by_cases hmb:(s.selName.2.selMs rm s.selName.1).2.b=true
 · refine m7 (zbv (oS hmb)) ?_;rcases h.d hmb with k | k
   · exact hk _ _ k
   rw[k];exact za4.bd (.inl (by show (_||true)=true;simp))
 have hmb:=bf hmb;obtain ⟨h1,h2⟩:=h.g hmb;rw[h1,h2,aFx hmb];simp only[Bool.not_true,bd_f];exact xD _ (m5 (s.selName.2.selMs rm s.selName.1).2.selWin)
def Sm.map {α β:Type} {p r:α×Rd} (h:Sm p r) (f:α->β):Sm (f p.1,p.2) (f r.1,r.2):=⟨λe=>(by rw[h.g e]),h.d⟩
def Sm.must {α:Type} {p r:α×Rd} (h:Sm p r) (x:Ba):Sm (p.1,p.2.must x) (r.1,r.2.must x):=by
 by_cases hb:p.2.b=true
 · exact m7 (zX hb) (zaP.bd (h.d hb))
 rw[h.g (bf hb)];exact m5 _
def Sm.node {α:Type} {p r:α×Rd} (h:Sm p r):Sm (p.1,p.2.node) (r.1,r.2.node7):=by
 by_cases hb:p.2.b=true
 · exact m7 (zbv hb) (za4.bd (h.d hb))
 rw[h.g (bf hb)];exact xD _ (m5 p)
def Al.any {m:Nat} {p r:Rd->Nd×Rd} (h:Al m p r) (hb:Bad p) (h7:∀ s,Sk 1 s (r s).2) {u:Rd} (hl:u.l.length<=m):Sm (p u) (r u):=by
 by_cases e:u.b=true
 · exact m7 (hb u e) ((h7 u).bd (.inl e))
 exact h u (bf e) hl
def aSs {ex ex7:Rd->Nd×Rd} (hbx:Bad ex) (h7:∀ s,Sk 1 s (ex7 s).2) {m:Nat} (hx:∀ a,a<m->Al a ex ex7) (hb:s.b=false) (hk:s.pk.k=1) (hm:s.l.length<=m):Sm (s.aggr ex) (s.aggr7 ex7):=by
 have hl:=(zeq (zgt (by decide) hk)).2;obtain ⟨m1,m2⟩:=aEk (x:=tBy) (y:=zN) s.tl hb (by decide);unfold Rd.aggr Rd.aggr7;simp only;rw[zel hb hk];simp only;have hP:∀ u:Rd,u.b=true->(ex u).2.b=true:=λu h=>hbx u h
 have hR:∀ u:Rd,Bd u->Bd ((ex7 u).2.must zL).node7:=λu h=>(((h7 u).trans zaP).trans za4).bd h
 by_cases hmb:(s.tl.mode tBy zN).2.2.b=true
 · by_cases hn:zaA s.pk.t=true
   · simp only[aB hn];exact m7 (zbv (zX (hP _ (zX (zcC (zX hmb)))))) (hR _ (((zaP (x:=zE)).trans (zdw (k:=2))).trans (zaP (x:=zV)) |>.bd (m2 hmb)))
   simp only[aA hn];exact m7 (zbv (zX (hP _ (zX hmb)))) (hR _ ((zaP (x:=zE)).bd (m2 hmb)))
 have hmb:=bf hmb;rw[m1 hmb];have k1:=(zcg s.tl tBy zN).len;have k2:=(zaa (s.tl.mode tBy zN).2.2 zE).len;by_cases hn:zaA s.pk.t=true
 · simp only[aB hn];have k3:=(zbu ((s.tl.mode tBy zN).2.2.must zE) 2).len;have k4:=(zaa (((s.tl.mode tBy zN).2.2.must zE).number 2).2 zV).len;exact((((hx (m-1) (by omega)).any hbx h7 (u:=(((s.tl.mode tBy zN).2.2.must zE).number 2).2.must zV) (by omega)).map (λq=>Nd.mk tAgg s.pk.t (((s.tl.mode tBy zN).2.2.must zE).number 2).1 (s.tl.mode tBy zN).1 (s.tl.mode tBy zN).2.1 [] [q])).must zL).node
 simp only[aA hn];exact((((hx (m-1) (by omega)).any hbx h7 (u:=(s.tl.mode tBy zN).2.2.must zE) (by omega)).map (λq=>Nd.mk tAgg s.pk.t 0 (s.tl.mode tBy zN).1 (s.tl.mode tBy zN).2.1 [] [q])).must zL).node
def xB (v:Rd):v.must x=if v.b=true\/v.is 5 [x]=false then⟨v.l,v.n,true⟩ else v.tl:=by
 unfold Rd.must Rd.take Rd.tl;split<;>simp
def aD0 (u:Rd):u.node7.must x=(u.must x).node7:=by
 rw[xB,xB];show (if u.b=true\/u.is 5 [x]=false then(⟨u.l,u.n+1,true⟩:Rd) else⟨u.l.tail,u.n+1,u.b⟩)=_;split<;>rfl
def aQs (hrm:rm []=true) {ex ex7:Rd->Nd×Rd} (hbx:Bad ex) (h7:∀ s,Sk 1 s (ex7 s).2) {m:Nat} (hx:∀ a,a<m->Al a ex ex7):Al m (λs=>s.prim rm ex) (λs=>s.prim7 rm ex7):=λs hb hm=>by
 simp only[Rd.prim,Rd.prim7];rw[aA (by rw[hb];decide)];by_cases hl:s.l=[]
 · have hp:s.pk=zbo:=pk_0 (by rw[hl];rfl);rw[aB (show s.b=true\/s.l.length=0 from .inr (by rw[hl];rfl)),aA (show ¬s.pk.k=2 by rw[hp];decide),aA (by rw[zdu hl (by decide)];decide),aA (by rw[hp];rintro ⟨a,_⟩;exact aH a (by decide)),aA (by rw[hp];rintro ⟨a,_⟩;exact aH a (by decide))];exact m7 (xP rm hl) (.inl (by show (s.b||true)=true;simp))
 have hp:=dW.2 hl;rw[aA (show ¬(s.b=true\/s.l.length=0) from λe=>by rcases e with e | e;(rw[hb] at e;cases e);omega),zbF hb];have ht:=(zeq hl).2;by_cases h2:s.pk.k=2
 · rw[aB h2,aB h2];unfold Rd.number;rw[zel hb h2];exact xD _ (m5 ((),s.tl))
 rw[aA h2,aA h2];by_cases ho:s.is 5 [zE]=true
 · rw[aB ho,aB ho,zeE hb ho];exact((hx (m-1) (by omega)).any hbx h7 (u:=s.tl) (by omega)).must zL
 rw[aA ho,aA ho];by_cases ha:s.pk.k=1/\hasN aggN s.pk.t=true
 · rw[aB ha,aB ha];exact aSs hbx h7 hx hb ha.1 hm
 rw[aA ha,aA ha];by_cases hf:s.pk.k=1/\hasN fnN s.pk.t=true
 · rw[aB hf,aB hf,zel hb hf.1];have k2:=(zaa s.tl zE).len;have h:=((hx (m-1) (by omega)).any hbx h7 (u:=s.tl.must zE) (by omega)).map (λq=>Nd.mk tFn s.pk.t 0 0 [] [] [q]);by_cases e:(ex (s.tl.must zE)).2.b=true
   · exact m7 (zX (zbv e)) (za4.bd (zaP.bd (h.d e)))
   have e:=bf e;have h1:=h.g e;injection h1 with h1 h2;simp only;rw[h1,h2];by_cases hn:200<(ex (s.tl.must zE)).2.n+1
   · exact m7 (zX (aAf hn)) (.inr (by show 200<((ex (s.tl.must zE)).2.must zL).n+1;rw[zbO];exact hn))
   rw[xO e hn];rw[aD0];exact m5 _
 rw[aA hf,aA hf];exact aXp hrm hb
def tH {ex ex7:Rd->Nd×Rd} {m:Nat} (hp:Al m (λs=>s.prim rm ex) (λs=>s.prim7 rm ex7)):∀ (F:Nat) (s:Rd),s.b=false->s.l.length<F->s.l.length<=m->Sm (zat rm ex F s) (zbj rm ex7 F s)
 | 0,s,_,h,_=>aH h (jQ _)
 | F+1,s,hb,hF,hm=>by
  unfold zat zbj;rw[zbF hb];by_cases hi:s.is 5 [zaM]=true
  · have ht:=(zeq (zfl (by decide) hi)).2;rw[zbV hb hi,aB rfl,aB hi];have h:=tH hp F s.tl hb (by omega) (by omega);exact(h.map (λq=>Nd.mk tNeg ByteArray.empty 0 0 [] [] [q])).node
  have hi:s.is 5 [zaM]=false:=by simpa using hi
  rw[zaZ (.inr hi),aA (by simp),aA (by rw[hi];decide)];exact hp s hb hm
def aR1 (hrm:rm []=true) {ex ex7:Rd->Nd×Rd} (hbx:Bad ex) (hs:∀ s,Stp 1 s (ex s).2) (h7:∀ s,Sk 1 s (ex7 s).2) {m:Nat} (hx:∀ a,a<m->Al a ex ex7):Al m (zfb rm ex) (aLg rm ex7):=
 iL (λs h=>iS rm ex _ s h) (λs=>zbU rm hs _ s) (λs=>zc5 h7 _ s) (λs hb hm=>tH (aQs hrm hbx h7 hx) _ s hb (jR _) hm)
def aOz (hrm:rm []=true) {ex ex7:Rd->Nd×Rd} (hbx:Bad ex) (hs:∀ s,Stp 1 s (ex s).2) (h7:∀ s,Sk 1 s (ex7 s).2) {m:Nat} (hx:∀ a,a<m->Al a ex ex7):Al m (sumP rm ex) (sum7 rm ex7):=
 iL (aAr rm ex) (λs=>zdH rm hs s) (λs=>pJ h7 s) (aR1 hrm hbx hs h7 hx)
def Al.le {a b:Nat} {p r:Rd->Nd×Rd} (h:Al b p r) (e:a<=b):Al a p r:=λs hb hm=>h s hb (by omega)
def aEo (hrm:rm []=true):∀ f:Nat,Al f (za5 rm (f+1)) (zfn rm (f+1))
 | 0=>iL (zgk rm _) (λs=>zbH rm (zab rm _) s) (λs=>qN (zdd _) s) (aOz hrm (zfJ rm _) (zab rm _) (zdd _) (λa ha=>aH ha (jQ _)))
 | f+1=>iL (zgk rm _) (λs=>zbH rm (zab rm _) s) (λs=>qN (zdd _) s) (aOz hrm (zfJ rm _) (zab rm _) (zdd _) (λa ha=>(aEo hrm f).le (by omega)))
def order7_sk:Sk 0 s s.order7.2:=by
 unfold Rd.order7;split
 · simp only;split
   · exact(zgF.trans zdw).le (by omega)
   split
   · exact(zgF.trans zdw).le (by omega)
   exact((zgF.trans zdw).trans zf2).le (by omega)
 exact m0 s
def zdO {w:Ba}:Sk 0 s (s.bound7 w).2:=by
 unfold Rd.bound7;split
 · exact(zgF.trans (zdw (k:=2))).le (by omega)
 exact m0 s
def aNf (hb:s.b=false):Sm s.order s.order7:=by
 unfold Rd.order Rd.order7;rw[zbF hb];by_cases hi:s.is 1 [zbM]=true
 · simp only;rw[zbV hb hi,aB hi,aA (by simp)];have htb:s.tl.b=false:=hb;simp only;by_cases hk:s.tl.pk.k=1
   · rw[zel htb hk];by_cases hd:s.tl.is 1 [zev]=true
     · have ht:=zgR hd;rw[zbV htb hd,aB rfl];simp only;rw[ht,aA (by decide),aB rfl];exact m5 _
     have hd:s.tl.is 1 [zev]=false:=(by simpa using hd);rw[zaZ (.inr hd),aA (by simp)];simp only;rw[zel htb hk];simp only;by_cases ha:s.tl.pk.t=tAsc
     · rw[aB ha];have e:(⟨s.tl.tl.l,s.tl.tl.n,s.tl.tl.b||decide (s.tl.pk.t≠tAsc)⟩:Rd)=s.tl.tl:=(by rw[aD (by simpa using ha),jB]);rw[e];exact m5 _
     have hne:¬s.tl.pk.t=zev:=λe=>by
      unfold Rd.is at hd;rw[hk,e] at hd;revert hd;decide
     rw[aA ha,aA hne];refine m7 ?_ (.inl ?_)
     · show (s.tl.tl.b||decide (s.tl.pk.t≠tAsc))=true;rw[aE ha];simp
     show (s.tl.tl.b||true)=true;simp
   have hd:s.tl.is 1 [zev]=false:=(by unfold Rd.is;rw[aD hk];rfl);rw[zaZ (.inr hd),aA (by simp),zeu (.inr hk)];refine m7 ?_ ?_
   · simp
   simp only;rw[aA (by decide),aA (by decide)];exact .inl O
 have hi:s.is 1 [zbM]=false:=by simpa using hi
 simp only;rw[zaZ (.inr hi),aB rfl,aA (by rw[hi];decide)];exact m5 _
def aBb {w:Ba} (hb:s.b=false):((s.bound w).2.b=false->s.bound7 w=s.bound w/\¬2000<(s.bound w).1)/\((s.bound w).2.b=true->Bd (s.bound7 w).2\/2000<(s.bound7 w).1):=by
 unfold Rd.bound Rd.bound7;rw[zbF hb];by_cases hi:s.is 1 [w]=true
 · rw[zbV hb hi,aA (by simp),aB hi];simp only;by_cases hn:2000<(s.tl.number 2).1
   · rw[aE hn];exact⟨λe=>(by rw[vP] at e;cases e),λ_=>.inr hn⟩
   rw[aD hn,jB];exact⟨λ_=>⟨O,hn⟩,λe=>.inl (.inl e)⟩
 have hi:s.is 1 [w]=false:=by simpa using hi
 rw[zaZ (.inr hi),aB rfl,aA (by rw[hi];decide)];exact⟨λ_=>⟨O,show ¬(2000:Int) < -1 by decide⟩,λe=>.inl (.inl e)⟩
def aGc (hrm:rm []=true) (l:List TokD):aJc rm l=zda rm l:=by
 have he:=aEo hrm l.length ⟨l,0,false⟩ O (cW _);have hcn:=aGn rm l.length ⟨l,0,false⟩ (cW _);unfold aJc zda;simp only;generalize za5 rm (l.length+1) ⟨l,0,false⟩=p at he hcn ⊢;generalize zfn rm (l.length+1) ⟨l,0,false⟩=r at he ⊢;have out:∀ (x:Int) (u:Rd),Bd u\/2000<x->∀ y:Int,(u.b=true\/0<u.l.length\/200<u.n\/2000<x\/2000<y):=λx u h y=>by
  rcases h with (h | h) | h
  · exact .inl h
  · exact .inr (.inr (.inl h))
  exact .inr (.inr (.inr (.inl h)))
 by_cases hpb:p.2.b=true
 · rw[aB (out _ _ (.inl (zdO.bd (zdO.bd (order7_sk.bd (he.d hpb))))) _),aB (.inl (zf0 (zf0 (aSd hpb))))]
 have hpb:=bf hpb;rw[he.g hpb];have h1:=aNf hpb;by_cases hob:p.2.order.2.b=true
 · rw[aB (out _ _ (.inl (zdO.bd (zdO.bd (h1.d hob)))) _),aB (.inl (zf0 (zf0 hob)))]
 have hob:=bf hob;rw[h1.g hob];obtain ⟨a1,a2⟩:=aBb (w:=zcF) hob;by_cases hab:(p.2.order.2.bound zcF).2.b=true
 · rw[aB,aB (.inl (zf0 hab))];rcases a2 hab with k | k
   · exact out _ _ (.inl (zdO.bd k)) _
   exact .inr (.inr (.inr (.inl k)))
 have hab:=bf hab;obtain ⟨a3,a4⟩:=a1 hab;rw[a3];obtain ⟨b1,b2⟩:=aBb (w:=zb6) hab;by_cases hbb:((p.2.order.2.bound zcF).2.bound zb6).2.b=true
 · rw[aB,aB (.inl hbb)];rcases b2 hbb with k | k
   · exact out 0 _ (.inl k) _ |>.imp id (λk=>k.imp id (λk=>k.imp id (λk=>by rcases k with k | k;exact aH k (by decide);exact .inr k)))
   exact .inr (.inr (.inr (.inr k)))
 have hbb:=bf hbb;obtain ⟨b3,b4⟩:=b1 hbb;rw[b3];have hn:((p.2.order.2.bound zcF).2.bound zb6).2.n<=200:=by
  have e1:∀ (u:Rd) (w:Ba),(u.bound w).2.n=u.n:=λu w=>by
   unfold Rd.bound;split
   · exact zbr
   exact zem.trans zbr
  have e2:p.2.order.2.n=p.2.n:=by
   unfold Rd.order;simp only;split
   · exact zbr
   split
   · exact zbr.trans zbr
   exact zem.trans (zbr.trans zbr)
  rw[e1,e1,e2];exact(hcn hpb).2
 by_cases hl:0<((p.2.order.2.bound zcF).2.bound zb6).2.l.length
 · rw[aB (.inr (.inl hl)),aB (.inr hl)]
 rw[aA,aA (by rintro (k | k);(rw[hbb] at k;cases k);exact hl k)];rintro (k | k | k | k | k)
 · rw[hbb] at k;cases k
 · exact hl k
 · omega
 · exact a4 k
 exact b4 k
end
end Lp
set_option maxHeartbeats 4000000
set_option maxRecDepth 100000
namespace Lp
open Go Go.RowKit Go.Proofs
def aTy {l:List Ba} {s:Ba} (h:∀ m∈l,¬s=m):hasN l s=false:=by
 unfold hasN;rw[List.any_eq_false];intro m hm e;rw[aI] at e;exact h m hm e.symm
def pR (s:Ba) (hz:0<s.size):
 CD Tryz.prog 68 [] [.s s] (isR (dR ((decR s 0:Nat):Int))):=by
 refine tZ Tryz.func68 O O (λC=>?_);refine T.bd 0 O (λbd0=>?_);have sz0:s.size<=9223372036854775807:=bd0;refine g' 9 O (tE O (zd6 O Tryz.runUnderlying9) ?_);rintro _ _ ⟨g1,rfl,rfl⟩;refine g' 3 O (tl1 (λ(a_:Nat)=>[(6,dP g1 0)]) (λa_=>[.it g1 s a_]) (λa_=>(a_<=s.size)/\(a_=0)) (λa_=>s.size-a_) 0 O (sa O) w8 ⟨cT _,O⟩ ?_);rintro p ⟨hp,hp0⟩;rcases cZ p s.size with hlt | hge
 · have hrune:=zaw hlt;have hrl:=zcW s p;have hdw:=zaK s p hlt;have hdp:=z6 s p;refine g' 2 O (tE O (zde (i:=0) O O hlt) ?_);rintro _ _ ⟨rfl,rfl⟩;refine g' 25 O ?_;exact tRs O Tryz.results68 (.cons (zc (za O) (w6 (aG dR (by rw[hp0])))) .nil) O HSub.none ⟨O,O⟩
 have hrune:=za2 hge;refine g' 2 O (tP O (zdW (i:=0) O O hge) (g' 16 O ?_));exact tRs O Tryz.results68 (.cons (zc (za O) (w6 (aG dR (by exfalso;omega)))) .nil) O HSub.none ⟨O,O⟩
def aS4 (s:Ba) (hz:0<s.size):
 CD Tryz.prog 163 [] [.s s] (isR (dN (decW s 0))):=by
 refine tZ Tryz.func163 O O (λC=>?_);refine T.bd 0 O (λbd0=>?_);have sz0:s.size<=9223372036854775807:=bd0;have hw0:=zaK s 0 hz;have hw1:=z6 s 0;refine g' 9 O (tE O (zd6 O Tryz.runUnderlying9) ?_);rintro _ _ ⟨g1,rfl,rfl⟩;refine g' 3 O (tl1 (λ(a_:Nat)=>[(0,.s s),(5,dP g1 0)]) (λa_=>[.it g1 s a_]) (λa_=>(a_<=s.size)/\(a_=0\/a_=decW s 0)) (λa_=>s.size-a_) 0 O (sa O) w8 ⟨cT _,.inl O⟩ ?_);rintro p ⟨hp,hp0⟩;rcases cZ p s.size with hlt | hge
 · have hrune:=zaw hlt;have hrl:=zcW s p;have hdw:=zaK s p hlt;have hdp:=z6 s p;refine g' 2 O (tE O (zde (i:=0) O O hlt) ?_);rintro _ _ ⟨rfl,rfl⟩;refine g' 20 O ?_;refine tD O (λhc2=>?_) (λhc2=>?_)
   · refine g' 11 O ?_;exact tRs O Tryz.results163 (.cons (zc (za O) (w6 (aG dN (by omega)))) .nil) O HSub.none ⟨O,O⟩
   refine g' 2 O ?_;exact tp1 (p+decW s p) (sa O) w8 ⟨by have:=zaK s p hlt;omega,.inr (by have hp1:p=0:=(by omega);rw[hp1,dS])⟩ (by have:=z6 s p;omega)
 have hrune:=za2 hge;refine g' 2 O (tP O (zdW (i:=0) O O hge) (g' 13 O (tP O (zah O Tryz.runUnderlying9) (g' 4 O ?_))));exact tRs O Tryz.results163 (.cons (zc (za O) (w6 (aG dN (by have hw0:=zaK s 0 hz;have hw1:=z6 s 0;omega)))) .nil) O HSub.none ⟨O,O⟩
def aQr (s:Ba) :
 CD Tryz.prog 117 [] [.s s] (isR (dB (hasN zam s))):=by
 refine tZ Tryz.func117 O O (λC=>?_);refine T.bd 0 O (λbd0=>?_);have sz0:s.size<=9223372036854775807:=bd0;refine g' 13 O ?_;refine tJ (λ(jg:Bool)=>[(2,dB false),(4,dB jg)]) (λ(jg:Bool)=>[]) (λ(jg:Bool)=>(jg=hasN zam s)) (λ_ hQ1=>?_) ?_
 · refine g' 6 O ?_;refine tD O (λhc2=>?_) (λhc2=>?_)
   · refine g' 1 O ?_;exact tqe (hQ1 (decide (s=(⟨#[43]⟩:Ba))) (by rw[hc2];decide)) O
   refine g' 6 O ?_;refine tD O (λhc3=>?_) (λhc3=>?_)
   · refine g' 1 O ?_;exact tqe (hQ1 (decide (s=(⟨#[45]⟩:Ba))) (by rw[hc3];decide)) O
   refine g' 6 O ?_;refine tD O (λhc4=>?_) (λhc4=>?_)
   · refine g' 1 O ?_;exact tqe (hQ1 (decide (s=(⟨#[42]⟩:Ba))) (by rw[hc4];decide)) O
   refine g' 6 O ?_;refine tD O (λhc5=>?_) (λhc5=>?_)
   · refine g' 1 O ?_;exact tqe (hQ1 (decide (s=(⟨#[47]⟩:Ba))) (by rw[hc5];decide)) O
   refine g' 6 O ?_;refine tD O (λhc6=>?_) (λhc6=>?_)
   · refine g' 1 O ?_;exact tqe (hQ1 (decide (s=(⟨#[37]⟩:Ba))) (by rw[hc6];decide)) O
   refine g' 6 O ?_;refine tD O (λhc7=>?_) (λhc7=>?_)
   · refine g' 1 O ?_;exact tqe (hQ1 (decide (s=(⟨#[40]⟩:Ba))) (by rw[hc7];decide)) O
   refine g' 6 O ?_;refine tD O (λhc8=>?_) (λhc8=>?_)
   · refine g' 1 O ?_;exact tqe (hQ1 (decide (s=(⟨#[41]⟩:Ba))) (by rw[hc8];decide)) O
   refine g' 6 O ?_;refine tD O (λhc9=>?_) (λhc9=>?_)
   · refine g' 1 O ?_;exact tqe (hQ1 (decide (s=(⟨#[123]⟩:Ba))) (by rw[hc9];decide)) O
   refine g' 6 O ?_;refine tD O (λhc10=>?_) (λhc10=>?_)
   · refine g' 1 O ?_;exact tqe (hQ1 (decide (s=(⟨#[125]⟩:Ba))) (by rw[hc10];decide)) O
   refine g' 6 O ?_;refine tD O (λhc11=>?_) (λhc11=>?_)
   · refine g' 1 O ?_;exact tqe (hQ1 (decide (s=(⟨#[91]⟩:Ba))) (by rw[hc11];decide)) O
   refine g' 6 O ?_;refine tD O (λhc12=>?_) (λhc12=>?_)
   · refine g' 1 O ?_;exact tqe (hQ1 (decide (s=(⟨#[93]⟩:Ba))) (by rw[hc12];decide)) O
   refine g' 6 O ?_;refine tD O (λhc13=>?_) (λhc13=>?_)
   · refine g' 1 O ?_;exact tqe (hQ1 (decide (s=(⟨#[44]⟩:Ba))) (by rw[hc13];decide)) O
   refine g' 6 O ?_;refine tD O (λhc14=>?_) (λhc14=>?_)
   · refine g' 1 O ?_;exact tqe (hQ1 (decide (s=(⟨#[61]⟩:Ba))) (by rw[hc14];decide)) O
   refine g' 6 O ?_;refine tD O (λhc15=>?_) (λhc15=>?_)
   · refine g' 1 O ?_;exact tqe (hQ1 (decide (s=(⟨#[61,61]⟩:Ba))) (by rw[hc15];decide)) O
   refine g' 6 O ?_;refine tD O (λhc16=>?_) (λhc16=>?_)
   · refine g' 1 O ?_;exact tqe (hQ1 (decide (s=(⟨#[33,61]⟩:Ba))) (by rw[hc16];decide)) O
   refine g' 6 O ?_;refine tD O (λhc17=>?_) (λhc17=>?_)
   · refine g' 1 O ?_;exact tqe (hQ1 (decide (s=(⟨#[60]⟩:Ba))) (by rw[hc17];decide)) O
   refine g' 6 O ?_;refine tD O (λhc18=>?_) (λhc18=>?_)
   · refine g' 1 O ?_;exact tqe (hQ1 (decide (s=(⟨#[60,61]⟩:Ba))) (by rw[hc18];decide)) O
   refine g' 6 O ?_;refine tD O (λhc19=>?_) (λhc19=>?_)
   · refine g' 1 O ?_;exact tqe (hQ1 (decide (s=(⟨#[62]⟩:Ba))) (by rw[hc19];decide)) O
   refine g' 6 O ?_;refine tD O (λhc20=>?_) (λhc20=>?_)
   · refine g' 1 O ?_;exact tqe (hQ1 (decide (s=(⟨#[62,61]⟩:Ba))) (by rw[hc20];decide)) O
   refine g' 6 O ?_;refine tD O (λhc21=>?_) (λhc21=>?_)
   · refine g' 1 O ?_;exact tqe (hQ1 (decide (s=(⟨#[61,126]⟩:Ba))) (by rw[hc21];decide)) O
   refine g' 4 O ?_;exact tqe (hQ1 (decide (s=(⟨#[33,126]⟩:Ba))) (by by_cases hz:s=(⟨#[33,126]⟩:Ba);(rw[hz];decide);rw[aD hz];exact(aTy (by simp only[zam,List.forall_mem_cons];exact⟨by assumption,by assumption,by assumption,by assumption,by assumption,by assumption,by assumption,by assumption,by assumption,by assumption,by assumption,by assumption,by assumption,by assumption,by assumption,by assumption,by assumption,by assumption,by assumption,by assumption,by assumption,by simp⟩)).symm)) O
 rintro sb hsb;refine g' 1 O ?_;refine tC O (λhc22=>?_) (λhc22=>?_)
 · refine g' 8 O ?_;exact tRs O Tryz.results117 (.cons (zc (za O) (cB ((by exact hc22.symm.trans hsb)))) .nil) O HSub.none ⟨O,O⟩
 refine g' 9 O ?_;exact tRs O Tryz.results117 (.cons (zc (za O) (cB ((by exact hc22.symm.trans hsb)))) .nil) O HSub.none ⟨O,O⟩
end Lp
namespace Lp
open Go
section
variable {b:Ba} {i:Nat} {o:List UInt8}
def aHv {k:Nat} {v:UInt8} (h:b[k]?=some v):k<b.size:=by
 by_cases hk:k<b.size
 · exact hk
 rw[getElem?_neg b k hk] at h;cases h
end
end Lp
