import Derived.Test.YtheccaeefigajaaGreatDoorPGood
set_option linter.unusedSimpArgs false
set_option linter.unusedVariables false
namespace Lp
open Go
def Bd (s:Rd):Prop:=s.b=true\/200<s.n
theorem Sk.bd {c:Int} {s t:Rd} (h:Sk c s t) (k:Bd s):Bd t:=k.imp h.b (λe=>by have:=h.p.n;omega)
structure Sm {α:Type} (p r:α×Rd):Prop where
 g:p.2.b=false->r=p
 d:p.2.b=true->Bd r.2
theorem kJ {α:Type} (p:α×Rd):Sm p p:=⟨λ_=>rfl,.inl⟩
theorem Sm.no {α:Type} {p r:α×Rd} (h:p.2.b=true) (k:Bd r.2):Sm p r:=⟨λe=>(by rw[h] at e;cases e),λ_=>k⟩
section
variable {s t:Rd} {k:Int} {x y:ByteArray} {ts:List ByteArray}
theorem bf (h:¬s.b=true):s.b=false:=by simpa using h
theorem zb0 (hb:s.b=false):s.is7 k x=s.is k [x]:=by unfold Rd.is7;rw[hb];rfl
theorem zch (hb:s.b=false) (hi:s.is k ts=true):s.take k ts=(s.pk.t,true,s.tl):=by unfold Rd.take;rw[if_neg (by rw[hb,hi];simp)];rfl
theorem zeg (hb:s.b=false) (hi:s.is 5 [x]=true):s.must x=s.tl:=by
 unfold Rd.must;rw[zch hb hi];simp only[wG,dO]
theorem zd0 (hb:s.b=false) (hk:s.pk.k=k):s.any k=(s.pk.t,s.tl):=by unfold Rd.any;rw[if_neg (by rw[hb,hk];simp)];rfl
theorem zgv (h:s.is k [x]=true):s.pk.t=x:=by
 unfold Rd.is hasN at h;simp at h;exact h.2.symm
theorem is_or {a b:ByteArray}:s.is k [a,b]=(s.is k [a]||s.is k [b]):=by
 unfold Rd.is hasN;simp only[jR,uA,dO];cases decide (s.pk.k=k)<;>simp
theorem namesF7_b {F:Nat} {o:List ByteArray} (h:s.b=true):(zaG F o s).2.b=true:=(namesF7_sk F o s).b h
theorem sm_namesF:∀ (F F':Nat) (o:List ByteArray) (s:Rd),s.b=false->s.l.length<F->s.l.length<=F'->Sm ((zaQ F o s).1,(zaQ F o s).2.must zD) ((zaG F' (o++[(s.any 1).1]) (s.any 1).2).1,(zaG F' (o++[(s.any 1).1]) (s.any 1).2).2.must zD)
 | 0,_,_,_,_,h,_=>absurd h (jU _)
 | F+1,F',o,s,hb,hF,hF'=>by
  unfold zaQ;rw[if_neg (by rw[hb];decide)];by_cases ha:(s.any 1).2.b=true
  · rw[zcU ha];exact Sm.no (zag ha) (.inl (zag (namesF7_b ha)))
  have ha:=bf ha;have hl:=zcJ (s:=s) (by decide) ha;obtain ⟨F',rfl⟩:∃ j,F'=j+1:=⟨F'-1,by omega⟩;have hlo:0<(o++[(s.any 1).1]).length:=by simp
  by_cases hc:(s.any 1).2.is 5 [zD]=true
  · have hm:(s.any 1).2.is 5 [zA]=false:=by
     have:=zgv hc;unfold Rd.is;rw[this];rw[show hasN [zA] zD=false by decide,jE]
    rw[zbr (.inr hm),if_neg (by simp)];unfold zaG;rw[if_pos (.inr (by rw[zb0 ha];exact hc))];exact kJ _
  have e7:zaG (F'+1) (o++[(s.any 1).1]) (s.any 1).2=zaG F' ((o++[(s.any 1).1])++[(((s.any 1).2.must zA).any 1).1]) (((s.any 1).2.must zA).any 1).2:=by
   conv=>lhs;unfold zaG
   rw[if_neg (by rw[zb0 ha,ha];simp only[uT,false_or];exact hc)];simp only[if_pos hlo]
  rw[e7];by_cases hm:(s.any 1).2.is 5 [zA]=true
  · rw[zch ha hm,if_pos rfl,zeg ha hm];have hl2:=(zd2 (zfl (by decide) hm)).2;exact sm_namesF F F' _ (s.any 1).2.tl ha (by omega) (by omega)
  have hm:(s.any 1).2.is 5 [zA]=false:=by simpa using hm
  rw[zbr (.inr hm),if_neg (by simp)];refine Sm.no (must_bad (by simpa using hc)) (.inl (zag (namesF7_b (zcH ?_))));exact must_bad hm
theorem sm_names (s:Rd) (hb:s.b=false):Sm s.names s.names7:=by
 unfold Rd.names Rd.names7;simp only;by_cases h1:(s.must zn).b=true
 · have hr:((zaG ((s.must zn).l.length+1) [] (s.must zn)).2.must zD).b=true:=zag (namesF7_b h1);split
   · exact Sm.no (zag h1) (.inl hr)
   exact Sm.no (zag (namesF_b h1)) (.inl hr)
 have h1:=bf h1;by_cases hc:(s.must zn).is 5 [zD]=true
 · rw[if_pos hc];unfold zaG;rw[if_pos (.inr (by rw[zb0 h1];exact hc))];exact kJ _
 rw[if_neg hc];have e:zaG ((s.must zn).l.length+1) [] (s.must zn)=zaG (s.must zn).l.length ([]++[((s.must zn).any 1).1]) ((s.must zn).any 1).2:=by
  conv=>lhs;unfold zaG
  rw[if_neg (by rw[zb0 h1,h1];simp only[uT,false_or];exact hc)];rfl
 rw[e];exact sm_namesF _ _ [] _ h1 (jK _) (cU _)
theorem sm_mode (s:Rd) (hb:s.b=false) (hxy:x≠y):((s.mode x y).2.2.b=false->s.mode7 x y=s.mode x y)/\((s.mode x y).2.2.b=true->Bd (s.mode7 x y).2.2):=by
 unfold Rd.mode Rd.mode7;rw[zb0 hb,zb0 hb];by_cases hi:s.is 1 [x,y]=true
 · have hor:s.is 1 [x]=true\/s.is 1 [y]=true:=(by rw[is_or,d6] at hi;exact hi);rw[zch hb hi,if_neg (by simp),if_pos hor];have hn:=sm_names s.tl hb;by_cases ht:s.pk.t=x
   · have hy:¬s.is 1 [y]=true:=λh=>hxy (ht.symm.trans (zgv h))
     rw[if_neg hy,if_pos (show (s.pk.t,true,s.tl).1=x from ht)];exact⟨λe=>(by rw[hn.g e]),hn.d⟩
   have hy:s.is 1 [y]=true:=by
    rw[is_or,d6] at hi;rcases hi with h | h
    · exact absurd (zgv h) ht
    exact h
   rw[if_pos hy,if_neg (show ¬(s.pk.t,true,s.tl).1=x from ht)];exact⟨λe=>(by rw[hn.g e]),hn.d⟩
 have hi:s.is 1 [x,y]=false:=by simpa using hi
 rw[zbr (.inr hi),if_pos rfl,if_neg (by rw[is_or,dT] at hi;rw[hi.1,hi.2];simp)];exact⟨λ_=>rfl,.inl⟩
theorem node_go (hb:s.b=false) (hn:¬200<s.n+1):s.node=s.node7:=by
 unfold Rd.node Rd.node7;rw[hb,decide_eq_false hn];rfl
theorem node_bd (hn:200<s.n+1):s.node.b=true:=by unfold Rd.node;rw[decide_eq_true hn];simp
theorem sm_node {α β:Type} (z:β) {p r:α×Rd} (h:Sm p r):Sm (z,p.2.node) (z,r.2.node7):=by
 by_cases hb:p.2.b=true
 · exact Sm.no (zbd hb) (za9.bd (h.d hb))
 have hb:=bf hb;rw[h.g hb];by_cases hn:200<p.2.n+1
 · exact Sm.no (node_bd hn) (.inr hn)
 rw[node_go hb hn];exact kJ _
end
def Al (m:Nat) (p r:Rd->Nd×Rd):Prop:=∀ s:Rd,s.b=false->s.l.length<=m->Sm (p s) (r s)
theorem sm_levelF {part part7:Rd->Nd×Rd} {ts:List ByteArray} {m:Nat} (hb:Bad part) (hs:∀ s,Stp 1 s (part s).2) (h7:∀ s,Sk 1 s (part7 s).2) (hp:Al m part part7):∀ (F F':Nat) (o:Nd) (s:Rd),s.b=false->s.l.length<F->s.l.length<F'->s.l.length<=m->Sm (zaH part ts F o s) (zcd part7 ts F' o s)
 | 0,_,_,_,_,h,_,_=>absurd h (jU _)
 | _,0,_,_,_,_,h,_=>absurd h (jU _)
 | F+1,F'+1,o,s,hsb,hF,hF',hm=>by
  unfold zaH zcd;by_cases hi:s.is 5 ts=true
  · have hl2:=(zd2 (zfl (by decide) hi)).2;rw[zch hsb hi,if_neg (by simp),if_neg (by rw[hsb,hi];simp)];simp only;obtain ⟨m1,m2⟩:=sm_mode (x:=tOn) (y:=zS) s.tl hsb (by decide);have k2:=(zbm s.tl tOn zS).len;by_cases hmb:(s.tl.mode tOn zS).2.2.b=true
    · exact Sm.no (zcm (zbd (hb _ hmb))) ((zc9 h7 _ _ _).bd (za9.bd ((h7 _).bd (m2 hmb))))
    have hmb:=bf hmb;rw[m1 hmb];have hq:=hp (s.tl.mode tOn zS).2.2 hmb (by omega);by_cases hqb:(part (s.tl.mode tOn zS).2.2).2.b=true
    · exact Sm.no (zcm (zbd hqb)) ((zc9 h7 _ _ _).bd (za9.bd (hq.d hqb)))
    have hqb:=bf hqb;rw[hq.g hqb];by_cases hn:200<(part (s.tl.mode tOn zS).2.2).2.n+1
    · exact Sm.no (zcm (node_bd hn)) ((zc9 h7 _ _ _).bd (.inr hn))
    rw[node_go hqb hn];have k3:=(hs (s.tl.mode tOn zS).2.2).len;exact sm_levelF hb hs h7 hp F F' _ _ hqb (by show (part _).2.l.length<F;omega) (by show (part _).2.l.length<F';omega) (by show (part _).2.l.length<=m;omega)
  have hi:s.is 5 ts=false:=by simpa using hi
  rw[zbr (.inr hi),if_pos rfl,if_pos (.inr hi)];exact kJ _
theorem sm_level {part part7:Rd->Nd×Rd} {ts:List ByteArray} {m:Nat} (hb:Bad part) (hs:∀ s,Stp 1 s (part s).2) (h7:∀ s,Sk 1 s (part7 s).2) (hp:Al m part part7):Al m (λs=>s.level part ts) (λs=>s.level7 part7 ts):=λs hsb hm=>by
 have h:=hp s hsb hm;have k3:=(hs s).len;simp only[Rd.level,Rd.level7];by_cases hpb:(part s).2.b=true
 · exact Sm.no (zcm hpb) ((zc9 h7 _ _ _).bd (h.d hpb))
 have hpb:=bf hpb;rw[h.g hpb];exact sm_levelF hb hs h7 hp _ _ _ _ hpb (jK _) (jK _) (by omega)
def Rd.mat (s:Rd):MatD×Rd:=
 let a:=s.any 1;let c:=a.2.take 5 [tEq,tNe,zao,zO];let v:=Rd.any ⟨c.2.2.l,c.2.2.n,c.2.2.b||!c.2.1⟩ 3
 (⟨a.1,opM c.1,v.1⟩,v.2)
def Rd.mat7 (s:Rd):MatD×Rd:=
 let a:=s.any 1;let c:=a.2.any 5;let v:=(c.2.bd (decide (opM c.1=0))).any 3
 (⟨a.1,opM c.1,v.1⟩,v.2)
theorem opM_0 {t:ByteArray}:opM t=0↔hasN [tEq,tNe,zao,zO] t=false:=by
 unfold opM hasN;simp only[jR,uA,dO,dT,decide_eq_false_iff_not];by_cases a1:t=tEq
 · rw[if_pos a1];exact⟨λh=>(by cases h),λh=>absurd a1.symm h.1⟩
 by_cases a2:t=tNe
 · rw[if_neg a1,if_pos a2];exact⟨λh=>(by cases h),λh=>absurd a2.symm h.2.1⟩
 by_cases a3:t=zao
 · rw[if_neg a1,if_neg a2,if_pos a3];exact⟨λh=>(by cases h),λh=>absurd a3.symm h.2.2.1⟩
 by_cases a4:t=zO
 · rw[if_neg a1,if_neg a2,if_neg a3,if_pos a4];exact⟨λh=>(by cases h),λh=>absurd a4.symm h.2.2.2⟩
 rw[if_neg a1,if_neg a2,if_neg a3,if_neg a4];exact⟨λ_=>⟨λe=>a1 e.symm,λe=>a2 e.symm,λe=>a3 e.symm,λe=>a4 e.symm⟩,λ_=>rfl⟩
theorem mat_sm (s:Rd) (hb:s.b=false):(s.mat.2.b=false->s.mat7=s.mat)/\(s.mat.2.b=true->s.mat7.2.b=true):=by
 unfold Rd.mat Rd.mat7;simp only;by_cases ha:(s.any 1).2.b=true
 · rw[zcU ha];have e1:(Rd.any ⟨(s.any 1).2.l,(s.any 1).2.n,(s.any 1).2.b||!false⟩ 3).2.b=true:=zcH (s:=⟨_,_,_⟩) (by simp);have e2:((((s.any 1).2.any 5).2.bd (decide (opM ((s.any 1).2.any 5).1=0))).any 3).2.b=true:=zcH (zfh.b (zcH ha));exact⟨λe=>(by rw[e1] at e;cases e),λ_=>e2⟩
 have ha:=bf ha;by_cases hi:(s.any 1).2.is 5 [tEq,tNe,zao,zO]=true
 · rw[zch ha hi,zd0 ha (is_k hi)];have h4:¬opM (s.any 1).2.pk.t=0:=λe=>by
    have:=opM_0.1 e;unfold Rd.is at hi;rw[this,jE] at hi;cases hi
   have e:(s.any 1).2.tl.bd (decide (opM (s.any 1).2.pk.t=0))=⟨(s.any 1).2.tl.l,(s.any 1).2.tl.n,(s.any 1).2.tl.b||!true⟩:=(by unfold Rd.bd;rw[decide_eq_false h4];rfl);rw[e];exact⟨λ_=>rfl,id⟩
 have hi:(s.any 1).2.is 5 [tEq,tNe,zao,zO]=false:=by simpa using hi
 rw[zbr (.inr hi)];have e1:(Rd.any ⟨(s.any 1).2.l,(s.any 1).2.n,(s.any 1).2.b||!false⟩ 3).2.b=true:=zcH (s:=⟨_,_,_⟩) (by simp);refine⟨λe=>(by rw[e1] at e;cases e),λ_=>zcH ?_⟩;by_cases hk:(s.any 1).2.pk.k=5
 · rw[zd0 ha hk];have h4:opM (s.any 1).2.pk.t=0:=opM_0.2 (by
    unfold Rd.is at hi;rw[hk] at hi;simpa using hi)
   unfold Rd.bd;rw[decide_eq_true h4];simp
 exact zfh.b (by rw[ze3 (.inr hk)])
theorem bracesF7_b {F:Nat} {o:List MatD} {s:Rd} (h:s.b=true):(zar F o s).2.b=true:=(bracesF7_sk F o s).b h
theorem mat_len {s:Rd} (e:s.mat.2.b=false):s.mat.2.l.length+1<=s.l.length:=by
 unfold Rd.mat at e ⊢;simp only at e ⊢;have hc:=zaa (λq=>zcH (s:=⟨_,_,_⟩) q) e;have ha:(s.any 1).2.b=false:=by have:=(dT.1 hc).1;rw[zfH] at this;exact this
 have l1:=zcJ (s:=s) (by decide) ha;have l2:=(zP (s.any 1).2 5 [tEq,tNe,zao,zO]).len;have l3:=zcJ (by decide) e;simp only at l3;omega
theorem sm_bracesF:∀ (F F':Nat) (o:List MatD) (s:Rd),s.b=false->s.l.length<F->s.l.length<=F'->Sm ((zY F o s).1,(zY F o s).2.must zt) ((zar F' (o++[s.mat7.1]) s.mat7.2).1,(zar F' (o++[s.mat7.1]) s.mat7.2).2.must zt)
 | 0,_,_,_,_,h,_=>absurd h (jU _)
 | F+1,F',o,s,hb,hF,hF'=>by
  have e0:zY (F+1) o s=if (s.mat.2.take 5 [zA]).2.1=true then zY F (o++[s.mat.1]) (s.mat.2.take 5 [zA]).2.2 else(o++[s.mat.1],(s.mat.2.take 5 [zA]).2.2):=by
   conv=>lhs;unfold zY
   rw[if_neg (by rw[hb];decide)];rfl
  rw[e0];obtain ⟨m1,m2⟩:=mat_sm s hb;by_cases ha:s.mat.2.b=true
  · rw[zcU ha];exact Sm.no (zag ha) (.inl (zag (bracesF7_b (m2 ha))))
  have ha:=bf ha;rw[m1 ha];have hl:=mat_len ha;obtain ⟨F',rfl⟩:∃ j,F'=j+1:=⟨F'-1,by omega⟩;have hlo:0<(o++[s.mat.1]).length:=by simp
  by_cases hc:s.mat.2.is 5 [zt]=true
  · have hm:s.mat.2.is 5 [zA]=false:=by
     have:=zgv hc;unfold Rd.is;rw[this];rw[show hasN [zA] zt=false by decide,jE]
    rw[zbr (.inr hm),if_neg (by simp)];unfold zar;rw[if_pos (.inr (by rw[zb0 ha];exact hc))];exact kJ _
  have e7:zar (F'+1) (o++[s.mat.1]) s.mat.2=zar F' ((o++[s.mat.1])++[(s.mat.2.must zA).mat7.1]) (s.mat.2.must zA).mat7.2:=by
   conv=>lhs;unfold zar
   rw[if_neg (by rw[zb0 ha,ha];simp only[uT,false_or];exact hc)];simp only[if_pos hlo];rfl
  rw[e7];by_cases hm:s.mat.2.is 5 [zA]=true
  · rw[zch ha hm,if_pos rfl,zeg ha hm];have hl2:=(zd2 (zfl (by decide) hm)).2;exact sm_bracesF F F' _ s.mat.2.tl ha (by omega) (by omega)
  have hm:s.mat.2.is 5 [zA]=false:=by simpa using hm
  rw[zbr (.inr hm),if_neg (by simp)];refine Sm.no (must_bad (by simpa using hc)) (.inl (zag (bracesF7_b ?_)));unfold Rd.mat7;simp only;exact zcH (zfh.b (zcH (zcH (must_bad hm))))
end Lp
namespace Lp
open Go
section
variable {s:Rd} {k:Int} {ts:List ByteArray} {x:ByteArray}
theorem zbG:(s.take k ts).2.2.n=s.n:=by unfold Rd.take;split<;>rfl
theorem zb8:(s.must x).n=s.n:=zbG
theorem zd1:(s.any k).2.n=s.n:=by unfold Rd.any;split<;>rfl
theorem zef (h:s.node.b=false):s.node.n<=200:=by
 have h:(s.b||decide (200<s.n+1))=false:=h;have:=of_decide_eq_false (dT.1 h).2;show s.n+1<=200;omega
theorem namesF_n:∀ (F:Nat) (o:List ByteArray) (s:Rd),(zaQ F o s).2.n=s.n
 | 0,o,s=>rfl
 | F+1,o,s=>by
  unfold zaQ;split
  · rfl
  split
  · rw[namesF_n F];exact zbG.trans zd1
  exact zbG.trans zd1
theorem names_n:s.names.2.n=s.n:=by
 unfold Rd.names;split
 · exact zb8.trans zb8
 exact zb8.trans ((namesF_n _ _ _).trans zb8)
theorem mode_n {y:ByteArray}:(s.mode x y).2.2.n=s.n:=by
 unfold Rd.mode;split
 · exact zbG
 split
 · exact names_n.trans zbG
 exact names_n.trans zbG
theorem bracesF_n:∀ (F:Nat) (o:List MatD) (s:Rd),(zY F o s).2.n=s.n
 | 0,o,s=>rfl
 | F+1,o,s=>by
  unfold zY;split
  · rfl
  simp only;split
  · rw[bracesF_n F];exact zbG.trans (zd1.trans (zbG.trans zd1))
  exact zbG.trans (zd1.trans (zbG.trans zd1))
end
def CnP (m:Nat) (p:Rd->Nd×Rd):Prop:=∀ s:Rd,s.l.length<=m->(p s).2.b=false->(p s).2.n=s.n+((p s).1.cnt:Int)/\(p s).2.n<=200
theorem cn_levelF {part:Rd->Nd×Rd} {ts:List ByteArray} (hb:Bad part) (hs:∀ s,Stp 1 s (part s).2) {m:Nat} (hp:CnP m part):∀ (F:Nat) (o:Nd) (s:Rd),s.l.length<=m->s.n<=200->(zaH part ts F o s).2.b=false->(zaH part ts F o s).2.n+(o.cnt:Int)=s.n+((zaH part ts F o s).1.cnt:Int)/\(zaH part ts F o s).2.n<=200
 | 0,o,s,_,h,_=>⟨rfl,h⟩
 | F+1,o,s,hm,h,e=>by
  have k1:=(zP s 5 ts).len;have n1:=zbG (s:=s) (k:=5) (ts:=ts);unfold zaH at e ⊢;split
  · exact⟨by rw[n1],by rw[n1];exact h⟩
  rename_i hc;rw[if_neg hc] at e;simp only at e ⊢;have eq:=zaa (λq=>zcm q) e;have ep:(part ((s.take 5 ts).2.2.mode tOn zS).2.2).2.b=false:=zaa zbd eq;have k2:=(zbm (s.take 5 ts).2.2 tOn zS).len;have k3:=(hs ((s.take 5 ts).2.2.mode tOn zS).2.2).len;have n2:=mode_n (s:=(s.take 5 ts).2.2) (x:=tOn) (y:=zS);have w:=hp _ (by omega) ep;have n3:=zef eq;have n4:(part ((s.take 5 ts).2.2.mode tOn zS).2.2).2.node.n=(part ((s.take 5 ts).2.2.mode tOn zS).2.2).2.n+1:=rfl;have h:=cn_levelF hb hs hp F _ _ (by show (part _).2.l.length<=m;omega) n3 e;refine⟨?_,h.2⟩;have h1:=h.1;simp only[Nd.cnt,Nd.cntL] at h1;omega
theorem cn_level {part:Rd->Nd×Rd} {ts:List ByteArray} (hb:Bad part) (hs:∀ s,Stp 1 s (part s).2) {m:Nat} (hp:CnP m part):CnP m (λs=>s.level part ts):=λs hm e=>by
 have ep:(part s).2.b=false:=zaa (λq=>zcm q) e;have k3:=(hs s).len;have w:=hp s hm ep;have h:=cn_levelF hb hs hp _ _ _ (by omega) w.2 e;simp only[Rd.level] at e ⊢;exact⟨by omega,h.2⟩
section
variable (rm:List MatD->Bool)
theorem cn_sel {m:Nat}:CnP m (λs=>s.selector rm):=λs _ e=>by
 have e:(s.selector rm).2.b=false:=e;show (s.selector rm).2.n=s.n+((s.selector rm).1.cnt:Int)/\(s.selector rm).2.n<=200;unfold Rd.selector at e ⊢;simp only at e ⊢;have n1:s.selName.2.n=s.n:=by unfold Rd.selName;split;exact zd1;rfl
 have n2:(s.selName.2.selMs rm s.selName.1).2.n=s.n:=by
  refine Eq.trans ?_ n1;unfold Rd.selMs;split
  · unfold Rd.braces;split
    · exact zb8.trans zb8
    exact zb8.trans ((bracesF_n _ _ _).trans zb8)
  rfl
 have n3:(s.selName.2.selMs rm s.selName.1).2.selWin.2.n=s.n:=by
  refine Eq.trans ?_ n2;unfold Rd.selWin;split
  · exact zb8.trans (zd1.trans zbG)
  exact zbG
 refine⟨?_,zef e⟩;show _+1=_;rw[n3];simp only[Nd.cnt,Nd.cntL];omega
theorem cn_prim {ex:Rd->Nd×Rd} (hb:Bad ex) {m:Nat} (hx:∀ a,a<m->CnP a ex):CnP m (λs=>s.prim rm ex):=λs hl e=>by
 have h0:s.b=false:=(prim_b rm ex).no e;have hn:¬s.b=true:=by rw[h0];decide
 simp only[Rd.prim] at e ⊢;rw[if_neg hn] at e ⊢;split
 · rename_i hc;rw[if_pos hc] at e;refine⟨?_,zef e⟩;show (s.any 2).2.n+1=_;rw[zd1];simp only[Nd.cnt,Nd.cntL];omega
 rename_i hc;rw[if_neg hc] at e;split
 · rename_i hd;rw[if_pos hd] at e;have e1:=zaa zag e;have l1:=zdI (hb.no e1);have w:=hx _ (by omega) _ (cU _) e1;have n1:=zb8 (s:=s) (x:=zn);have n2:=zb8 (s:=(ex (s.must zn)).2) (x:=zD);simp only;omega
 rename_i hd;rw[if_neg hd] at e;split
 · rename_i hf;rw[if_pos hf] at e;unfold Rd.aggr at e ⊢;simp only at e ⊢;have e7:=zaa zbd e;have e6:=zaa zag e7;have e5:=hb.no e6;have e3:((s.any 1).2.mode tBy zr |>.2.2.must zn).b=false:=by
    by_cases hn:zaf (s.any 1).1=true
    · rw[if_pos hn,if_pos hn] at e5;exact zaa zcH (zaa zag e5)
    rw[if_neg hn,if_neg hn] at e5;exact e5
   have e1:(s.any 1).2.b=false:=zaa mode_b (zaa zag e3);have l1:=zcJ (s:=s) (by decide) e1;have l2:=(zbm (s.any 1).2 tBy zr).len;have l3:=(zx ((s.any 1).2.mode tBy zr).2.2 zn).len;have l4:=(zaL (((s.any 1).2.mode tBy zr).2.2.must zn) 2).len;have l5:=(zx ((((s.any 1).2.mode tBy zr).2.2.must zn).number 2).2 zA).len;have n1:(((s.any 1).2.mode tBy zr).2.2.must zn).n=s.n:=zb8.trans (mode_n.trans zd1);have n5:((((s.any 1).2.mode tBy zr).2.2.must zn).number 2).2.n=s.n:=zd1.trans n1;have n6:(((((s.any 1).2.mode tBy zr).2.2.must zn).number 2).2.must zA).n=s.n:=zb8.trans n5;refine⟨?_,zef e⟩;by_cases hn:zaf (s.any 1).1=true
   · simp only[if_pos hn] at e6 ⊢;have w:=hx _ (by omega) _ (cU _) e6;show (Rd.must _ zD).n+1=_;rw[zb8];simp only[Nd.cnt,Nd.cntL];omega
   simp only[if_neg hn] at e6 ⊢;have w:=hx _ (by omega) _ (cU _) e6;show (Rd.must _ zD).n+1=_;rw[zb8];simp only[Nd.cnt,Nd.cntL];omega
 rename_i hf;rw[if_neg hf] at e;split
 · rename_i hg;rw[if_pos hg] at e;simp only at e ⊢;have e0:=zaa zag e;have e1:=zaa zbd e0;have l1:=zdI (hb.no e1);have l2:=(za4 s 1).len;have w:=hx _ (by omega) _ (cU _) e1;have n1:((s.any 1).2.must zn).n=s.n:=zb8.trans zd1;have n2:=zef e0;have n3:(ex ((s.any 1).2.must zn)).2.node.n=(ex ((s.any 1).2.must zn)).2.n+1:=rfl;rw[zb8];simp only[Nd.cnt,Nd.cntL];omega
 rename_i hg;rw[if_neg hg] at e;exact cn_sel (m:=s.l.length) rm s (cU _) e
theorem cn_unaryF {ex:Rd->Nd×Rd} {m:Nat} (hp:CnP m (λs=>s.prim rm ex)):∀ (F:Nat) (s:Rd),s.l.length<F->s.l.length<=m->(zai rm ex F s).2.b=false->(zai rm ex F s).2.n=s.n+((zai rm ex F s).1.cnt:Int)/\(zai rm ex F s).2.n<=200
 | 0,s,h,_,_=>absurd h (jU _)
 | F+1,s,hF,hm,e=>by
  unfold zai at e ⊢;have k1:=(zP s 5 [zal]).len;have n1:=zbG (s:=s) (k:=5) (ts:=[zal]);split
  · rename_i hc;rw[if_pos hc] at e;simp only at e ⊢;have hg:=zbx (by decide) hc;have w:=cn_unaryF hp F _ (by omega) (by omega) (zaa zbd e);refine⟨?_,zef e⟩;show _+1=_;simp only[Nd.cnt,Nd.cntL];omega
  rename_i hc;rw[if_neg hc] at e;have w:=hp _ (by omega) e;simp only at w;exact⟨by rw[w.1,n1],w.2⟩
theorem cn_prod {ex:Rd->Nd×Rd} (hb:Bad ex) (hs:∀ s,Stp 1 s (ex s).2) {m:Nat} (hx:∀ a,a<m->CnP a ex):CnP m (zeE rm ex):=
 cn_level (λs h=>zeN rm ex _ s h) (λs=>zcg rm hs _ s) (λs hm e=>cn_unaryF rm (cn_prim rm hb hx) _ s (jK _) hm e)
theorem cn_sum {ex:Rd->Nd×Rd} (hb:Bad ex) (hs:∀ s,Stp 1 s (ex s).2) {m:Nat} (hx:∀ a,a<m->CnP a ex):CnP m (sumP rm ex):=
 cn_level (zf2 rm ex) (λs=>zdz rm hs s) (cn_prod rm hb hs hx)
theorem cn_expr:∀ f:Nat,CnP f (zaA rm (f+1))
 | 0=>cn_level (zft rm _) (λs=>zcz rm (zax rm _) s) (cn_sum rm (zeZ rm _) (zax rm _) (λa ha=>absurd ha (jU _)))
 | f+1=>cn_level (zft rm _) (λs=>zcz rm (zax rm _) s) (cn_sum rm (zeZ rm _) (zax rm _) (λa ha s hl e=>cn_expr f s (by omega) e))
end
end Lp
namespace Lp
open Go
section
variable {rm:List MatD->Bool} {s:Rd} {k:Int} {x y:ByteArray}
structure Sb (rm:List MatD->Bool) (p r:List MatD×Rd):Prop where
 g:p.2.b=false->r=p/\rm p.1=true
 d:p.2.b=true->Bd r.2\/rm r.1=false
theorem sm_selMs (hrm:rm []=true) (hb:s.b=false):Sb rm (s.selMs rm x) (s.selMs7 x):=by
 unfold Rd.selMs Rd.selMs7;rw[zb0 hb];by_cases hi:s.is 5 [zE]=true
 · rw[if_pos hi,if_pos hi];unfold Rd.braces;rw[zeg hb hi];have htb:s.tl.b=false:=hb;by_cases hc:s.tl.is 5 [zt]=true
   · rw[if_pos hc];unfold zar;rw[if_pos (.inr (by rw[zb0 htb];exact hc))];exact⟨λ_=>⟨O,hrm⟩,λe=>.inl (.inl e)⟩
   rw[if_neg hc];have e7:zar (s.tl.l.length+1) [] s.tl=zar s.tl.l.length ([]++[s.tl.mat7.1]) s.tl.mat7.2:=by
    conv=>lhs;unfold zar
    rw[if_neg (by rw[zb0 htb,htb];simp only[uT,false_or];exact hc)];rfl
   rw[e7];have h:=sm_bracesF (s.tl.l.length+1) s.tl.l.length [] s.tl htb (jK _) (cU _);generalize zar s.tl.l.length ([]++[s.tl.mat7.1]) s.tl.mat7.2=r at h ⊢;generalize zY (s.tl.l.length+1) [] s.tl=p at h ⊢;simp only;obtain ⟨hg,hd⟩:=h;simp only at hg hd;by_cases hpb:(p.2.must zt).b=true
   · refine⟨λe=>?_,λ_=>?_⟩
     · have e:((p.2.must zt).b||!rm p.1)=false:=e;rw[hpb] at e;cases e
     exact .inl (hd hpb)
   have hpb:=bf hpb;have e:=hg hpb;injection e with e1 e2;rw[e1,e2];refine⟨λe=>?_,λe=>?_⟩
   · have e:((p.2.must zt).b||!rm p.1)=false:=e;rw[hpb] at e;have hr:rm p.1=true:=(by simpa using e);refine⟨?_,hr⟩;rw[hr];simp
   have e:((p.2.must zt).b||!rm p.1)=true:=e;rw[hpb] at e;exact .inr (by simpa using e)
 have hi:s.is 5 [zE]=false:=by simpa using hi
 rw[if_neg (by rw[hi];decide),if_neg (by rw[hi];decide)];exact⟨λ_=>⟨O,hrm⟩,λe=>.inl (.inl e)⟩
theorem sm_selWin (hb:s.b=false):s.selWin7=s.selWin:=by
 unfold Rd.selWin7 Rd.selWin;rw[zb0 hb];by_cases hi:s.is 5 [tSq]=true
 · rw[if_pos hi,zch hb hi,zeg hb hi];rfl
 have hi:s.is 5 [tSq]=false:=by simpa using hi
 rw[if_neg (by rw[hi];decide),zbr (.inr hi)];rfl
theorem bd_f:s.bd false=s:=by unfold Rd.bd;rw[dO]
theorem sm_sel (hrm:rm []=true) (hb:s.b=false):Sm (s.selector rm) (s.sel7 rm):=by
 have hk:∀ (t:Rd) (b:Bool),Bd t->Bd (t.selWin7.2.bd b).node7:=λt b h=>((selWin7_sk.trans (zfh (b:=b))).trans za9).bd h
 by_cases hl:s.l=[]
 · refine Sm.no (sel_nil rm hl) ?_;have e:s.selName7=(ByteArray.empty,s):=(by unfold Rd.selName7;rw[if_neg (by rw[hl];simp)]);unfold Rd.sel7;simp only;rw[e];refine hk _ _ ?_;unfold Rd.selMs7;rw[if_neg (by rw[zb0 hb,zey hl (by decide)];decide)];exact .inl (by show (s.b||decide (ByteArray.empty=ByteArray.empty))=true;simp)
 have hp:=dD.2 hl;have e:s.selName7=s.selName:=by
  unfold Rd.selName7 Rd.selName;by_cases hc:s.pk.k=1/\zcE s.pk.t=false
  · rw[if_pos ⟨hp,hc⟩,if_pos hc]
  rw[if_neg (λh=>hc h.2),if_neg hc]
 have hnb:s.selName.2.b=false:=by
  unfold Rd.selName;split
  · rename_i hc;rw[zd0 hb hc.1];exact hb
  exact hb
 unfold Rd.sel7 Rd.selector;simp only;rw[e];have h:=sm_selMs (rm:=rm) (x:=s.selName.1) hrm hnb;by_cases hmb:(s.selName.2.selMs rm s.selName.1).2.b=true
 · refine Sm.no (zbd (selWin_b hmb)) ?_;rcases h.d hmb with k | k
   · exact hk _ _ k
   rw[k];exact za9.bd (.inl (by show (_||true)=true;simp))
 have hmb:=bf hmb;obtain ⟨h1,h2⟩:=h.g hmb;rw[h1,h2,sm_selWin hmb];simp only[wG,bd_f];exact sm_node _ (kJ (s.selName.2.selMs rm s.selName.1).2.selWin)
theorem Sm.map {α β:Type} {p r:α×Rd} (h:Sm p r) (f:α->β):Sm (f p.1,p.2) (f r.1,r.2):=⟨λe=>(by rw[h.g e]),h.d⟩
theorem Sm.must {α:Type} {p r:α×Rd} (h:Sm p r) (x:ByteArray):Sm (p.1,p.2.must x) (r.1,r.2.must x):=by
 by_cases hb:p.2.b=true
 · exact Sm.no (zag hb) (zaR.bd (h.d hb))
 rw[h.g (bf hb)];exact kJ _
theorem Sm.node {α:Type} {p r:α×Rd} (h:Sm p r):Sm (p.1,p.2.node) (r.1,r.2.node7):=by
 by_cases hb:p.2.b=true
 · exact Sm.no (zbd hb) (za9.bd (h.d hb))
 rw[h.g (bf hb)];exact sm_node _ (kJ p)
theorem Al.any {m:Nat} {p r:Rd->Nd×Rd} (h:Al m p r) (hb:Bad p) (h7:∀ s,Sk 1 s (r s).2) {u:Rd} (hl:u.l.length<=m):Sm (p u) (r u):=by
 by_cases e:u.b=true
 · exact Sm.no (hb u e) ((h7 u).bd (.inl e))
 exact h u (bf e) hl
theorem sm_aggr {ex ex7:Rd->Nd×Rd} (hbx:Bad ex) (h7:∀ s,Sk 1 s (ex7 s).2) {m:Nat} (hx:∀ a,a<m->Al a ex ex7) (hb:s.b=false) (hk:s.pk.k=1) (hm:s.l.length<=m):Sm (s.aggr ex) (s.aggr7 ex7):=by
 have hl:=(zd2 (zgp (by decide) hk)).2;obtain ⟨m1,m2⟩:=sm_mode (x:=tBy) (y:=zr) s.tl hb (by decide);unfold Rd.aggr Rd.aggr7;simp only;rw[zd0 hb hk];simp only;have hP:∀ u:Rd,u.b=true->(ex u).2.b=true:=λu h=>hbx u h
 have hR:∀ u:Rd,Bd u->Bd ((ex7 u).2.must zD).node7:=λu h=>(((h7 u).trans zaR).trans za9).bd h
 by_cases hmb:(s.tl.mode tBy zr).2.2.b=true
 · by_cases hn:zaf s.pk.t=true
   · simp only[if_pos hn];exact Sm.no (zbd (zag (hP _ (zag (zcH (zag hmb)))))) (hR _ (((zaR (x:=zn)).trans (zdq (k:=2))).trans (zaR (x:=zA)) |>.bd (m2 hmb)))
   simp only[if_neg hn];exact Sm.no (zbd (zag (hP _ (zag hmb)))) (hR _ ((zaR (x:=zn)).bd (m2 hmb)))
 have hmb:=bf hmb;rw[m1 hmb];have k1:=(zbm s.tl tBy zr).len;have k2:=(zx (s.tl.mode tBy zr).2.2 zn).len;by_cases hn:zaf s.pk.t=true
 · simp only[if_pos hn];have k3:=(zaL ((s.tl.mode tBy zr).2.2.must zn) 2).len;have k4:=(zx (((s.tl.mode tBy zr).2.2.must zn).number 2).2 zA).len;exact((((hx (m-1) (by omega)).any hbx h7 (u:=(((s.tl.mode tBy zr).2.2.must zn).number 2).2.must zA) (by omega)).map (λq=>Nd.mk tAgg s.pk.t (((s.tl.mode tBy zr).2.2.must zn).number 2).1 (s.tl.mode tBy zr).1 (s.tl.mode tBy zr).2.1 [] [q])).must zD).node
 simp only[if_neg hn];exact((((hx (m-1) (by omega)).any hbx h7 (u:=(s.tl.mode tBy zr).2.2.must zn) (by omega)).map (λq=>Nd.mk tAgg s.pk.t 0 (s.tl.mode tBy zr).1 (s.tl.mode tBy zr).2.1 [] [q])).must zD).node
theorem must_if (v:Rd):v.must x=if v.b=true\/v.is 5 [x]=false then⟨v.l,v.n,true⟩ else v.tl:=by
 unfold Rd.must Rd.take Rd.tl;split<;>simp
theorem node7_must (u:Rd):u.node7.must x=(u.must x).node7:=by
 rw[must_if,must_if];show (if u.b=true\/u.is 5 [x]=false then(⟨u.l,u.n+1,true⟩:Rd) else⟨u.l.tail,u.n+1,u.b⟩)=_;split<;>rfl
theorem sm_prim (hrm:rm []=true) {ex ex7:Rd->Nd×Rd} (hbx:Bad ex) (h7:∀ s,Sk 1 s (ex7 s).2) {m:Nat} (hx:∀ a,a<m->Al a ex ex7):Al m (λs=>s.prim rm ex) (λs=>s.prim7 rm ex7):=λs hb hm=>by
 simp only[Rd.prim,Rd.prim7];rw[if_neg (by rw[hb];decide)];by_cases hl:s.l=[]
 · have hp:s.pk=zbh:=pk_0 (by rw[hl];rfl);rw[if_pos (show s.b=true\/s.l.length=0 from .inr (by rw[hl];rfl)),if_neg (show ¬s.pk.k=2 by rw[hp];decide),if_neg (by rw[zey hl (by decide)];decide),if_neg (by rw[hp];rintro ⟨a,_⟩;exact absurd a (by decide)),if_neg (by rw[hp];rintro ⟨a,_⟩;exact absurd a (by decide))];exact Sm.no (sel_nil rm hl) (.inl (by show (s.b||true)=true;simp))
 have hp:=dD.2 hl;rw[if_neg (show ¬(s.b=true\/s.l.length=0) from λe=>by rcases e with e | e;(rw[hb] at e;cases e);omega),zb0 hb];have ht:=(zd2 hl).2;by_cases h2:s.pk.k=2
 · rw[if_pos h2,if_pos h2];unfold Rd.number;rw[zd0 hb h2];exact sm_node _ (kJ ((),s.tl))
 rw[if_neg h2,if_neg h2];by_cases ho:s.is 5 [zn]=true
 · rw[if_pos ho,if_pos ho,zeg hb ho];exact((hx (m-1) (by omega)).any hbx h7 (u:=s.tl) (by omega)).must zD
 rw[if_neg ho,if_neg ho];by_cases ha:s.pk.k=1/\hasN aggN s.pk.t=true
 · rw[if_pos ha,if_pos ha];exact sm_aggr hbx h7 hx hb ha.1 hm
 rw[if_neg ha,if_neg ha];by_cases hf:s.pk.k=1/\hasN fnN s.pk.t=true
 · rw[if_pos hf,if_pos hf,zd0 hb hf.1];have k2:=(zx s.tl zn).len;have h:=((hx (m-1) (by omega)).any hbx h7 (u:=s.tl.must zn) (by omega)).map (λq=>Nd.mk tFn s.pk.t 0 0 [] [] [q]);by_cases e:(ex (s.tl.must zn)).2.b=true
   · exact Sm.no (zag (zbd e)) (za9.bd (zaR.bd (h.d e)))
   have e:=bf e;have h1:=h.g e;injection h1 with h1 h2;simp only;rw[h1,h2];by_cases hn:200<(ex (s.tl.must zn)).2.n+1
   · exact Sm.no (zag (node_bd hn)) (.inr (by show 200<((ex (s.tl.must zn)).2.must zD).n+1;rw[zb8];exact hn))
   rw[node_go e hn];rw[node7_must];exact kJ _
 rw[if_neg hf,if_neg hf];exact sm_sel hrm hb
theorem sm_unaryF {ex ex7:Rd->Nd×Rd} {m:Nat} (hp:Al m (λs=>s.prim rm ex) (λs=>s.prim7 rm ex7)):∀ (F:Nat) (s:Rd),s.b=false->s.l.length<F->s.l.length<=m->Sm (zai rm ex F s) (zbw rm ex7 F s)
 | 0,s,_,h,_=>absurd h (jU _)
 | F+1,s,hb,hF,hm=>by
  unfold zai zbw;rw[zb0 hb];by_cases hi:s.is 5 [zal]=true
  · have ht:=(zd2 (zfl (by decide) hi)).2;rw[zch hb hi,if_pos rfl,if_pos hi];have h:=sm_unaryF hp F s.tl hb (by omega) (by omega);exact(h.map (λq=>Nd.mk tNeg ByteArray.empty 0 0 [] [] [q])).node
  have hi:s.is 5 [zal]=false:=by simpa using hi
  rw[zbr (.inr hi),if_neg (by simp),if_neg (by rw[hi];decide)];exact hp s hb hm
theorem sm_prod (hrm:rm []=true) {ex ex7:Rd->Nd×Rd} (hbx:Bad ex) (hs:∀ s,Stp 1 s (ex s).2) (h7:∀ s,Sk 1 s (ex7 s).2) {m:Nat} (hx:∀ a,a<m->Al a ex ex7):Al m (zeE rm ex) (prod7 rm ex7):=
 sm_level (λs h=>zeN rm ex _ s h) (λs=>zcg rm hs _ s) (λs=>zc4 h7 _ s) (λs hb hm=>sm_unaryF (sm_prim hrm hbx h7 hx) _ s hb (jK _) hm)
theorem sm_sum (hrm:rm []=true) {ex ex7:Rd->Nd×Rd} (hbx:Bad ex) (hs:∀ s,Stp 1 s (ex s).2) (h7:∀ s,Sk 1 s (ex7 s).2) {m:Nat} (hx:∀ a,a<m->Al a ex ex7):Al m (sumP rm ex) (sum7 rm ex7):=
 sm_level (zf2 rm ex) (λs=>zdz rm hs s) (λs=>prod7_sk h7 s) (sm_prod hrm hbx hs h7 hx)
theorem Al.le {a b:Nat} {p r:Rd->Nd×Rd} (h:Al b p r) (e:a<=b):Al a p r:=λs hb hm=>h s hb (by omega)
theorem sm_expr (hrm:rm []=true):∀ f:Nat,Al f (zaA rm (f+1)) (ze0 rm (f+1))
 | 0=>sm_level (zft rm _) (λs=>zcz rm (zax rm _) s) (λs=>sum7_sk (zda _) s) (sm_sum hrm (zeZ rm _) (zax rm _) (zda _) (λa ha=>absurd ha (jU _)))
 | f+1=>sm_level (zft rm _) (λs=>zcz rm (zax rm _) s) (λs=>sum7_sk (zda _) s) (sm_sum hrm (zeZ rm _) (zax rm _) (zda _) (λa ha=>(sm_expr hrm f).le (by omega)))
theorem order7_sk:Sk 0 s s.order7.2:=by
 unfold Rd.order7;split
 · simp only;split
   · exact(zgg.trans zdq).le (by omega)
   split
   · exact(zgg.trans zdq).le (by omega)
   exact((zgg.trans zdq).trans zfh).le (by omega)
 exact kI s
theorem zdC {w:ByteArray}:Sk 0 s (s.bound7 w).2:=by
 unfold Rd.bound7;split
 · exact(zgg.trans (zdq (k:=2))).le (by omega)
 exact kI s
theorem sm_order (hb:s.b=false):Sm s.order s.order7:=by
 unfold Rd.order Rd.order7;rw[zb0 hb];by_cases hi:s.is 1 [zbP]=true
 · simp only;rw[zch hb hi,if_pos hi,if_neg (by simp)];have htb:s.tl.b=false:=hb;simp only;by_cases hk:s.tl.pk.k=1
   · rw[zd0 htb hk];by_cases hd:s.tl.is 1 [zd8]=true
     · have ht:=zgv hd;rw[zch htb hd,if_pos rfl];simp only;rw[ht,if_neg (by decide),if_pos rfl];exact kJ _
     have hd:s.tl.is 1 [zd8]=false:=(by simpa using hd);rw[zbr (.inr hd),if_neg (by simp)];simp only;rw[zd0 htb hk];simp only;by_cases ha:s.tl.pk.t=tAsc
     · rw[if_pos ha];have e:(⟨s.tl.tl.l,s.tl.tl.n,s.tl.tl.b||decide (s.tl.pk.t≠tAsc)⟩:Rd)=s.tl.tl:=(by rw[decide_eq_false (by simpa using ha),dO]);rw[e];exact kJ _
     have hne:¬s.tl.pk.t=zd8:=λe=>by
      unfold Rd.is at hd;rw[hk,e] at hd;revert hd;decide
     rw[if_neg ha,if_neg hne];refine Sm.no ?_ (.inl ?_)
     · show (s.tl.tl.b||decide (s.tl.pk.t≠tAsc))=true;rw[decide_eq_true ha];simp
     show (s.tl.tl.b||true)=true;simp
   have hd:s.tl.is 1 [zd8]=false:=(by unfold Rd.is;rw[decide_eq_false hk];rfl);rw[zbr (.inr hd),if_neg (by simp),ze3 (.inr hk)];refine Sm.no ?_ ?_
   · simp
   simp only;rw[if_neg (by decide),if_neg (by decide)];exact .inl O
 have hi:s.is 1 [zbP]=false:=by simpa using hi
 simp only;rw[zbr (.inr hi),if_pos rfl,if_neg (by rw[hi];decide)];exact kJ _
theorem sm_bound {w:ByteArray} (hb:s.b=false):((s.bound w).2.b=false->s.bound7 w=s.bound w/\¬2000<(s.bound w).1)/\((s.bound w).2.b=true->Bd (s.bound7 w).2\/2000<(s.bound7 w).1):=by
 unfold Rd.bound Rd.bound7;rw[zb0 hb];by_cases hi:s.is 1 [w]=true
 · rw[zch hb hi,if_neg (by simp),if_pos hi];simp only;by_cases hn:2000<(s.tl.number 2).1
   · rw[decide_eq_true hn];exact⟨λe=>(by rw[jS] at e;cases e),λ_=>.inr hn⟩
   rw[decide_eq_false hn,dO];exact⟨λ_=>⟨O,hn⟩,λe=>.inl (.inl e)⟩
 have hi:s.is 1 [w]=false:=by simpa using hi
 rw[zbr (.inr hi),if_pos rfl,if_neg (by rw[hi];decide)];exact⟨λ_=>⟨O,show ¬(2000:Int) < -1 by decide⟩,λe=>.inl (.inl e)⟩
theorem parse7_eq (hrm:rm []=true) (l:List TokD):parse7 rm l=zbJ rm l:=by
 have he:=sm_expr hrm l.length ⟨l,0,false⟩ O (cU _);have hcn:=cn_expr rm l.length ⟨l,0,false⟩ (cU _);unfold parse7 zbJ;simp only;generalize zaA rm (l.length+1) ⟨l,0,false⟩=p at he hcn ⊢;generalize ze0 rm (l.length+1) ⟨l,0,false⟩=r at he ⊢;have out:∀ (x:Int) (u:Rd),Bd u\/2000<x->∀ y:Int,(u.b=true\/0<u.l.length\/200<u.n\/2000<x\/2000<y):=λx u h y=>by
  rcases h with (h | h) | h
  · exact .inl h
  · exact .inr (.inr (.inl h))
  exact .inr (.inr (.inr (.inl h)))
 by_cases hpb:p.2.b=true
 · rw[if_pos (out _ _ (.inl (zdC.bd (zdC.bd (order7_sk.bd (he.d hpb))))) _),if_pos (.inl (zdY (zdY (order_b hpb))))]
 have hpb:=bf hpb;rw[he.g hpb];have h1:=sm_order hpb;by_cases hob:p.2.order.2.b=true
 · rw[if_pos (out _ _ (.inl (zdC.bd (zdC.bd (h1.d hob)))) _),if_pos (.inl (zdY (zdY hob)))]
 have hob:=bf hob;rw[h1.g hob];obtain ⟨a1,a2⟩:=sm_bound (w:=za6) hob;by_cases hab:(p.2.order.2.bound za6).2.b=true
 · rw[if_pos,if_pos (.inl (zdY hab))];rcases a2 hab with k | k
   · exact out _ _ (.inl (zdC.bd k)) _
   exact .inr (.inr (.inr (.inl k)))
 have hab:=bf hab;obtain ⟨a3,a4⟩:=a1 hab;rw[a3];obtain ⟨b1,b2⟩:=sm_bound (w:=zaJ) hab;by_cases hbb:((p.2.order.2.bound za6).2.bound zaJ).2.b=true
 · rw[if_pos,if_pos (.inl hbb)];rcases b2 hbb with k | k
   · exact out 0 _ (.inl k) _ |>.imp id (λk=>k.imp id (λk=>k.imp id (λk=>by rcases k with k | k;exact absurd k (by decide);exact .inr k)))
   exact .inr (.inr (.inr (.inr k)))
 have hbb:=bf hbb;obtain ⟨b3,b4⟩:=b1 hbb;rw[b3];have hn:((p.2.order.2.bound za6).2.bound zaJ).2.n<=200:=by
  have e1:∀ (u:Rd) (w:ByteArray),(u.bound w).2.n=u.n:=λu w=>by
   unfold Rd.bound;split
   · exact zbG
   exact zd1.trans zbG
  have e2:p.2.order.2.n=p.2.n:=by
   unfold Rd.order;simp only;split
   · exact zbG
   split
   · exact zbG.trans zbG
   exact zd1.trans (zbG.trans zbG)
  rw[e1,e1,e2];exact(hcn hpb).2
 by_cases hl:0<((p.2.order.2.bound za6).2.bound zaJ).2.l.length
 · rw[if_pos (.inr (.inl hl)),if_pos (.inr hl)]
 rw[if_neg,if_neg (by rintro (k | k);(rw[hbb] at k;cases k);exact hl k)];rintro (k | k | k | k | k)
 · rw[hbb] at k;cases k
 · exact hl k
 · omega
 · exact a4 k
 exact b4 k
end
end Lp
