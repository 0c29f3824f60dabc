import Derived.Test.YtheccaeefigajaaGreatDoorV127
set_option linter.unusedVariables false
namespace Lp
open Go
def Lw (l:List UInt8) (W:List TokD):Prop:=∃ vs,zM l 0=some vs/\vs.map er=W.map er
theorem Lw.lx {s:ByteArray} {W:List TokD} (h:Lw (bl8 s) W):Lx s W:=h
theorem Lw.step {l r:List UInt8} {x:TokD} {W:List TokD} (h:Lw r W) (hne:l≠[]) (hb:runL isB (l++r)=0) (hf:zg (l++r)=(x,l.length)):Lw (l++r) (x::W):=by
 obtain ⟨us,e1,e2⟩:=h;obtain ⟨vs,e3,e4⟩:=words_step hne hb hf e1;exact⟨vs,e3,by rw[e4,jQ,jQ,e2]⟩
theorem digL_cons (a:Nat):∃ b t,digL a=b::t/\48<=b.toNat/\b.toNat<=57:=by
 obtain ⟨b,t,e⟩:=uP (digL_ne a);exact⟨b,t,e,digL_digs a b (by rw[e];exact cW)⟩
section
variable {a b c:Nat} {p q:ByteArray}
end
end Lp
namespace Lp
open Go
abbrev FW (x:ByteArray):Prop:=FitT ⟨1,0,x⟩
section
variable (rm:List MatD->Bool)
variable {rm}
end
end Lp
namespace Lp
open Go
abbrev sg (x:ByteArray):TokD:=⟨5,0,x⟩
def comT:List (List TokD)->List TokD
 | []=>[]
 | [x]=>x
 | x::y::r=>x++sg zA::comT (y::r)
def namT (l:List ByteArray):List TokD:=tkO::comT (l.map λx=>[wk x])++[tkC]
def modeT (mode:Int) (a b:ByteArray) (names:List ByteArray):List TokD:=if mode=0 then [] else wk (zcL mode a b)::namT names
def zgf (two:Bool) (t:List TokD):List TokD:=if two=true then tkO::t++[tkC] else t
def matT (m:MatD):List TokD:=[wk m.n,sg (zb1 m.op),⟨3,0,m.v⟩]
def selT (text:ByteArray) (n:Nat) (ms:List MatD):List TokD:=
 (if text=ByteArray.empty then [] else [wk text])++((if text=ByteArray.empty\/0<ms.length then sg zE::comT (ms.map matT)++[sg zt] else [])++(if 0<n then [sg tSq,⟨4,0,digB n⟩,sg tSqE] else []))
def binT (text:ByteArray) (mode:Int) (names:List ByteArray) (a b:List TokD):List TokD:=a++sg text::(modeT mode tOn zS names++b)
def aggT (text:ByteArray) (n:Nat) (mode:Int) (names:List ByteArray) (a:List TokD):List TokD:=
 wk text::(modeT mode tBy zr names++tkO::((if zaf text=true then [⟨2,0,digB n⟩,sg zA] else [])++(a++[tkC])))
def fnT (text:ByteArray) (a:List TokD):List TokD:=wk text::tkO::(a++[tkC])
def tkOf (op text:ByteArray) (n:Nat) (mode:Int) (names:List ByteArray) (ms:List MatD) (ps:List (List TokD)) (tw:List Bool):List TokD:=
 if op=tNum then [⟨2,0,digB n⟩]
 else if op=tNeg then sg zal::zgf (tw.headD false) (ps.headD [])
 else if op=tBin then binT text mode names (zgf (tw.headD false) (ps.headD [])) (zgf (tw.tail.headD false) (ps.tail.headD []))
 else if op=tAgg then aggT text n mode names (ps.headD [])
 else if op=tFn then fnT text (ps.headD [])
 else selT text n ms
mutual
def Nd.tk:Nd->List TokD
 | .mk op text n mode names ms kids=>tkOf op text n.toNat mode names ms (Nd.tks kids) (kids.map Nd.two)
def Nd.tks:List Nd->List (List TokD)
 | []=>[]
 | x::r=>Nd.tk x::Nd.tks r
end
section
variable {text:ByteArray} {n:Nat} {mode:Int} {names:List ByteArray} {ms:List MatD} {x y:Nd}
theorem tk_sel:(Nd.mk nSel text (n:Int) mode names ms []).tk=selT text n ms:=by
 simp only[Nd.tk,Nd.tks];unfold tkOf;rw[if_neg (by decide),if_neg (by decide),if_neg (by decide),if_neg (by decide),if_neg (by decide),vT]
end
theorem lx_fit {x:TokD} (h:FitT x):Lx (zcP x) [⟨x.k,0,x.t⟩]:=⟨_,words_join1 h 0,rfl⟩
theorem lx_word {t:ByteArray} (h:FW t):Lx t [wk t]:=by
 have h1:=lx_fit h;rw[zex (show ¬(1:Int)=3 by decide) (show ¬(1:Int)=4 by decide)] at h1;exact h1
theorem lx_str (t:ByteArray):Lx (zad t) [⟨3,0,t⟩]:=by
 have h1:=lx_fit (good_str t);rw[joinT_3 (show (3:Int)=3 from rfl)] at h1;exact h1
theorem lx_span {n:Nat} (h:FitT ⟨4,0,digB n⟩):Lx (digB n++(⟨#[115]⟩:ByteArray)) [⟨4,0,digB n⟩]:=by
 have h1:=lx_fit h;rw[joinT_4 (show ¬(4:Int)=3 by decide) (show (4:Int)=4 from rfl)] at h1;exact h1
theorem sgs_first:∀ x∈zV,∃ b t,bl8 x=b::t/\b.toNat<128/\isB ((b.toNat:Nat):Int)=false/\¬zy ((b.toNat:Nat):Int)=1/\¬zy ((b.toNat:Nat):Int)=2/\¬b.toNat=34:=by
 intro x hx;simp only[zV,dW,vA,or_false] at hx;rcases hx with rfl | rfl | rfl | rfl | rfl | rfl | rfl | rfl | rfl | rfl | rfl | rfl | rfl | rfl | rfl | rfl | rfl | rfl | rfl | rfl | rfl<;>exact⟨_,_,rfl,by decide,by decide,by decide,by decide,by decide⟩
theorem sgs_sign:∀ x∈zV,∀ (b:UInt8) (t:List UInt8),b≠61->b≠126->zbQ (bl8 x++b::t)=(⟨5,0,x⟩,x.size):=by
 intro x hx b t h1 h2;have k1:((61:UInt8)==b)=false:=by simpa using λe=>h1 e.symm
 have k2:((126:UInt8)==b)=false:=by simpa using λe=>h2 e.symm
 simp only[zV,dW,vA,or_false] at hx;rcases hx with rfl | rfl | rfl | rfl | rfl | rfl | rfl | rfl | rfl | rfl | rfl | rfl | rfl | rfl | rfl | rfl | rfl | rfl | rfl | rfl | rfl<;>simp[zbQ,zV,zac,bl8,List.isPrefixOf,k1,k2]<;>rfl
def Hd (t:ByteArray):Prop:=∃ b r,bl8 t=b::r/\b≠61/\b≠126
theorem Hd.app {t:ByteArray} (h:Hd t) (u:ByteArray):Hd (t++u):=by
 obtain ⟨b,r,e,h1,h2⟩:=h;exact⟨b,r++bl8 u,by rw[zeB,e];rfl,h1,h2⟩
theorem zgu {x t:ByteArray} {W:List TokD} (hx:x∈zV) (h:Lx t W) (hh:Hd t):Lx (x++t) (sg x::W):=by
 obtain ⟨b,r,e,h1,h2⟩:=hh;obtain ⟨c,u,e',k1,k2,k3,k4,k5⟩:=sgs_first x hx;have h:Lw (bl8 t) W:=h;rw[e] at h;refine Lw.lx ?_;rw[zeB,e];have hd:decL (bl8 x++b::r)=(c.toNat,1):=by rw[e'];exact zab k1
 refine h.step (by rw[e'];simp) (zc6 (by rw[hd];exact k2)) ?_;unfold zg;rw[hd,if_neg k3,if_neg k4,if_neg k5,sgs_sign x hx b r h1 h2,zT]
theorem lx_sg1 {x:ByteArray} (hx:x∈zV):Lx x [sg x]:=by
 have h1:=lx_fit (good_sign hx);rw[zex (show ¬(5:Int)=3 by decide) (show ¬(5:Int)=4 by decide)] at h1;exact h1
theorem zdJ:zn∈zV/\zD∈zV/\zA∈zV/\zE∈zV/\zt∈zV/\tSq∈zV/\tSqE∈zV/\zal∈zV:=by simp[zV]
theorem sign4_in {op:Int} (h:1<=op/\op<=4):zb1 op∈zV:=by
 obtain rfl | rfl | rfl | rfl:op=1\/op=2\/op=3\/op=4:=by omega
 all_goals simp[zb1,zV]
theorem hd_word {t:ByteArray} (h:FW t):Hd t:=by
 obtain ⟨h1,h2,h3⟩:=h;have e:zcP (⟨1,0,t⟩:TokD)=t:=zex (show ¬(1:Int)=3 by decide) (show ¬(1:Int)=4 by decide);rw[e] at h1 h2 h3;obtain ⟨b,r,er⟩:=uP h1;refine⟨b,r,er,?_,?_⟩;all_goals
  rintro rfl;rw[er] at h3;have hk:=congrArg (λp:TokD×Nat=>p.1.k) h3;unfold zg at hk;rw[zab (by decide),if_neg (by decide),if_neg (by decide),if_neg (by decide)] at hk;exfalso;have:∀ xs:List ByteArray,∀ l,(zac xs l).1.k=0\/(zac xs l).1.k=5:=by
   intro xs l
   induction xs with
   | nil=>exact .inl rfl
   | cons x xs ih=>
    unfold zac;split
    · exact .inr O
    exact ih
  have hk:(zbQ _).1.k=1:=hk;unfold zbQ at hk;rcases this zV _ with k | k
  · rw[k] at hk;revert hk;decide
  rw[k] at hk;revert hk;decide
end Lp
namespace Lp
open Go
theorem joinB_cons (sep x y:ByteArray) (r:List ByteArray):za2 sep (x::y::r)=x++(sep++za2 sep (y::r)):=by
 apply uE;apply jV.1;simp[za2,zce]
theorem joinB_1 (sep x:ByteArray):za2 sep [x]=x:=(joinB_one (l:=[x]) rfl rfl).symm
theorem stop_sg {x:ByteArray} {b:UInt8} {r:List UInt8} (h:bl8 x=b::r) (hb:b∈zf1) (t:ByteArray):Stop (bl8 (x++t)):=.inr ⟨b,r++bl8 t,by rw[zeB,h];rfl,hb⟩
theorem stop_1 {x:ByteArray} {b:UInt8} {r:List UInt8} (h:bl8 x=b::r) (hb:b∈zf1):Stop (bl8 x):=.inr ⟨b,r,h,hb⟩
theorem lx_com:∀ (l:List (ByteArray×List TokD)),l≠[]->(∀ p∈l,Lx p.1 p.2/\Hd p.1)->Lx (za2 zA (l.map (·.1))) (comT (l.map (·.2)))/\Hd (za2 zA (l.map (·.1)))
 | [],h,_=>absurd rfl h
 | [x],_,h=>by
  have:=h x cW;rw[jQ,wC,jQ,wC,joinB_1];exact this
 | x::y::r,_,h=>by
  obtain ⟨a1,a2⟩:=h x cW;obtain ⟨b1,b2⟩:=lx_com (y::r) (List.cons_ne_nil _ _) (λp hp=>h p (c7 _ hp));rw[jQ,jQ,joinB_cons];refine⟨?_,a2.app _⟩;exact a1.cat (zgu zdJ.2.2.1 b1 b2) (stop_sg (b:=44) (r:=[]) O (by decide) _)
theorem hd_dig (n:Nat):Hd (digB n):=by
 obtain ⟨b,t,e,h1,h2⟩:=digL_cons n;exact⟨b,t,by rw[zdZ,e],by rintro rfl;revert h2;decide,by rintro rfl;revert h2;decide⟩
theorem hd_quote (t:ByteArray):Hd (zad t):=by
 rw[Hd,quote_bl8];unfold zaO;exact⟨34,_,rfl,by decide,by decide⟩
theorem lx_wr {t r:ByteArray} {W:List TokD} (h:FW t) (k:Lx r W) (hr:Rem (bl8 r)):Lx (t++r) (wk t::W):=by
 obtain ⟨h1,h2,h3⟩:=h;have e:zcP (⟨1,0,t⟩:TokD)=t:=zex (show ¬(1:Int)=3 by decide) (show ¬(1:Int)=4 by decide);rw[e] at h1 h2 h3;have hp:=dD.2 h1;have k:Lw (bl8 r) W:=k;refine Lw.lx ?_;rw[zeB];refine k.step h1 ?_ ?_
 · rw[runL_app hr _ (bl8 t) rfl,h2,if_neg (by omega)]
 rw[firstT_rem h1 hr (by rw[h3];show t.size≠0;rw[<-zT];omega) (by rw[h3];show (1:Int)≠5;decide),h3,zT]
theorem rem_sg {x:ByteArray} {c:UInt8} {u:List UInt8} (e:bl8 x=c::u) (hc:c=61\/c=33) (t:ByteArray):Rem (bl8 (x++t)):=by
 refine .inr ⟨c,u++bl8 t,by rw[zeB,e];rfl,?_⟩;rcases hc with rfl | rfl<;>decide
theorem sign_rem {op:Int} (h:1<=op/\op<=4) (t:ByteArray):Rem (bl8 (zb1 op++t)):=by
 obtain rfl | rfl | rfl | rfl:op=1\/op=2\/op=3\/op=4:=by omega
 · exact rem_sg (x:=tEq) O (.inl O) t
 · exact rem_sg (x:=tNe) O (.inr O) t
 · exact rem_sg (x:=zao) O (.inl O) t
 exact rem_sg (x:=zO) O (.inr O) t
theorem lx_mat {m:MatD} (h:FW m.n/\1<=m.op/\m.op<=4):Lx (matP m) (matT m)/\Hd (matP m):=by
 unfold matP matT;rw[dH];exact⟨lx_wr h.1 (zgu (sign4_in h.2) (lx_str m.v) (hd_quote m.v)) (sign_rem h.2 _),(hd_word h.1).app _⟩
theorem hd_braceE:Hd zt:=⟨125,[],rfl,by decide,by decide⟩
theorem lx_brc {ms:List MatD} (h:∀ m∈ms,FW m.n/\1<=m.op/\m.op<=4):Lx (zE++za2 zA (ms.map matP)++zt) (sg zE::comT (ms.map matT)++[sg zt]):=by
 rw[dH];by_cases hl:ms=[]
 · subst hl;have e:za2 zA []=ByteArray.empty:=(joinB_none rfl).symm;rw[wC,e,ByteArray.empty_append];exact zgu zdJ.2.2.2.1 (lx_sg1 zdJ.2.2.2.2.1) hd_braceE
 obtain ⟨a1,a2⟩:=lx_com (ms.map λm=>(matP m,matT m)) (by simpa using hl) (λp hp=>by
  obtain ⟨m,hm,rfl⟩:=uD.1 hp;exact lx_mat (h m hm))
 rw[vC,vC] at a1;rw[vC] at a2;exact zgu zdJ.2.2.2.1 (a1.cat (lx_sg1 zdJ.2.2.2.2.1) (stop_1 (b:=125) (r:=[]) O (by decide))) (a2.app _)
theorem lx_win {n:Nat} (h:FitT ⟨4,0,digB n⟩):Lx (tSq++digB n++tSec) [sg tSq,⟨4,0,digB n⟩,sg tSqE]:=by
 have e:tSq++digB n++tSec=tSq++((digB n++(⟨#[115]⟩:ByteArray))++tSqE):=by
  rw[show tSec=(⟨#[115]⟩:ByteArray)++tSqE from rfl];simp only[dH]
 rw[e];refine zgu zdJ.2.2.2.2.2.1 ((lx_span h).cat (lx_sg1 zdJ.2.2.2.2.2.2.1) (stop_1 (b:=93) (r:=[]) O (by decide))) ?_;exact((hd_dig n).app _).app _
section
variable {r:List TokD} {u:Rd} {x z:TokD} {k:Int} {ts:List ByteArray} {w:ByteArray}
theorem St.len (h:St r u):u.l.length=r.length:=by have:=congrArg List.length h.l;simpa using this
theorem St.is (h:St (z::r) u):u.is k ts=(decide (z.k=k)&&hasN ts z.t):=by
 obtain ⟨e2,e3⟩:=h.pk;unfold Rd.is;rw[e2,e3]
theorem St.must (h:St (sg w::r) u):St r (u.must w)/\(u.must w).n=u.n:=by
 obtain ⟨a,b,c⟩:=must_er h.b h.l;exact⟨⟨a,c⟩,b⟩
theorem St.num {n:Nat} (h:St (⟨k,0,digB n⟩::r) u):u.number k=((n:Int),⟨u.l.tail,u.n,u.b⟩)/\St r ⟨u.l.tail,u.n,u.b⟩:=by
 obtain ⟨a,b⟩:=h.any rfl;refine⟨?_,b⟩;unfold Rd.number;rw[a,numV_dig]
theorem St.no (h:St (z::r) u) (hz:z.k≠k\/hasN ts z.t=false) (hk:k≠0):u.take k ts=(ByteArray.empty,false,u):=h.not (.inr ⟨z,r,rfl,hz⟩) hk
end
abbrev fourM:List ByteArray:=[tEq,tNe,zao,zO]
theorem sign_op {op:Int} (h:1<=op/\op<=4):opM (zb1 op)=op/\hasN fourM (zb1 op)=true:=by
 obtain rfl | rfl | rfl | rfl:op=1\/op=2\/op=3\/op=4:=by omega
 all_goals decide
theorem st_one {m:MatD} {r:List TokD} {u:Rd} (hm:1<=m.op/\m.op<=4) (h:St (matT m++r) u):∃ v,u.any 1=(m.n,⟨u.l.tail,u.n,u.b⟩)/\(Rd.take ⟨u.l.tail,u.n,u.b⟩ 5 fourM)=(zb1 m.op,true,⟨u.l.tail.tail,u.n,u.b⟩)/\Rd.any ⟨u.l.tail.tail,u.n,u.b||!true⟩ 3=(m.v,v)/\St r v/\v.n=u.n:=by
 have h:St (wk m.n::sg (zb1 m.op)::⟨3,0,m.v⟩::r) u:=h;obtain ⟨a1,a2⟩:=h.any (k:=1) rfl;obtain ⟨b1,b2⟩:=a2.yes (k:=5) (ts:=fourM) rfl (sign_op hm).2;have b3:St (⟨3,0,m.v⟩::r) (⟨u.l.tail.tail,u.n,u.b||!true⟩:Rd):=⟨b2.l,by have:=h.b;show (u.b||false)=false;rw[this];rfl⟩;obtain ⟨c1,c2⟩:=b3.any (k:=3) rfl;exact⟨_,a1,b1,c1,c2,O⟩
theorem st_bracesF:∀ (l:List MatD),l≠[]->(∀ m∈l,1<=m.op/\m.op<=4)->∀ (F:Nat) (o:List MatD) (u:Rd) (r:List TokD),u.l.length<F->St (comT (l.map matT)++sg zt::r) u->∃ v,zY F o u=(o++l,v)/\St (sg zt::r) v/\v.n=u.n
 | [],h,_,_,_,_,_,_,_=>absurd rfl h
 | _,_,_,0,_,u,_,h,_=>absurd h (jU _)
 | [m],_,hm,F+1,o,u,r,hF,h=>by
  have h:St (matT m++sg zt::r) u:=h;obtain ⟨v,a1,a2,a3,a4,a5⟩:=st_one (hm m cW) h;have b1:=a4.no (k:=5) (ts:=[zA]) (.inr (by decide)) (by decide);refine⟨v,?_,a4,a5⟩;unfold zY;rw[if_neg (by rw[h.b];decide),a1];simp only;rw[a2];simp only;rw[a3];simp only;rw[b1,if_neg (by simp),(sign_op (hm m cW)).1]
 | m::y::l,_,hm,F+1,o,u,r,hF,h=>by
  have e:comT ((m::y::l).map matT)++sg zt::r=matT m++sg zA::(comT ((y::l).map matT)++sg zt::r):=by simp only[jQ,comT,dQ,jA]
  rw[e] at h;obtain ⟨v,a1,a2,a3,a4,a5⟩:=st_one (hm m cW) h;obtain ⟨b1,b2⟩:=a4.yes (k:=5) (ts:=[zA]) rfl (by decide);have hl:=h.len;have hl2:=b2.len;obtain ⟨z,e1,e2,e3⟩:=st_bracesF (y::l) (List.cons_ne_nil _ _) (λm hq=>hm m (c7 _ hq)) F (o++[m]) _ r (by rw[hl2];rw[hl] at hF;simp only[dA,dC] at hF;simp only[dA,dC];omega) b2;refine⟨z,?_,e2,e3.trans a5⟩;unfold zY;rw[if_neg (by rw[h.b];decide),a1];simp only;rw[a2];simp only;rw[a3];simp only;rw[b1,if_pos rfl,(sign_op (hm m cW)).1];simp only;rw[e1,dQ];rfl
section
variable {rm:List MatD->Bool}
theorem st_braces {l:List MatD} {u:Rd} {r:List TokD} (hm:∀ m∈l,1<=m.op/\m.op<=4) (hr:l=[]\/rm l=true) (h:St (sg zE::(comT (l.map matT)++sg zt::r)) u):∃ v,u.braces rm=(l,v)/\St r v/\v.n=u.n:=by
 obtain ⟨a1,a2⟩:=h.must;unfold Rd.braces;by_cases hl:l=[]
 · subst hl;have a1:St (sg zt::r) (u.must zE):=a1;rw[if_pos (by rw[a1.is];decide)];obtain ⟨b1,b2⟩:=a1.must;exact⟨_,O,b1,b2.trans a2⟩
 have hi:(u.must zE).is 5 [zt]=false:=by
  obtain ⟨y,l',rfl⟩:=uP hl;have:∃ V,comT ((y::l').map matT)++sg zt::r=wk y.n::V:=by
   cases l' with
   | nil=>exact⟨_,rfl⟩
   | cons y2 l'=>exact⟨_,rfl⟩
  obtain ⟨V,e⟩:=this;rw[e] at a1;rw[a1.is];rfl
 rw[if_neg (by rw[hi];decide)];obtain ⟨v,e1,e2,e3⟩:=st_bracesF l hl hm _ [] _ r (jK _) a1;simp only[e1,jI];obtain ⟨b1,b2⟩:=e2.must;refine⟨_,O,⟨b1.l,?_⟩,b2.trans (e3.trans a2)⟩;show ((v.must zt).b||!rm l)=false;rw[b1.b,hr.resolve_left hl];rfl
def Hz (r:List TokD):Prop:=r=[]\/∃ z r',r=z::r'/\(z.k≠5\/hasN [zE] z.t=false/\hasN [tSq] z.t=false)
theorem Hz.l {r:List TokD} (h:Hz r):r=[]\/∃ z r',r=z::r'/\(z.k≠5\/hasN [zE] z.t=false):=by
 rcases h with h | ⟨z,r',e,h⟩
 · exact .inl h
 exact .inr ⟨z,r',e,h.imp_right And.left⟩
theorem Hz.r {r:List TokD} (h:Hz r):r=[]\/∃ z r',r=z::r'/\(z.k≠5\/hasN [tSq] z.t=false):=by
 rcases h with h | ⟨z,r',e,h⟩
 · exact .inl h
 exact .inr ⟨z,r',e,h.imp_right And.right⟩
theorem not_is {u:Rd} {ts:List ByteArray} (h:u.take 5 ts=(ByteArray.empty,false,u)) (hb:u.b=false):u.is 5 ts=false:=by
 cases e:u.is 5 ts with
 | false=>rfl
 | true=>unfold Rd.take at h;rw[if_neg (by rw[hb,e];simp)] at h;injection h with _ h;injection h with h _
theorem st_node {r:List TokD} {u:Rd} (h:St r u) (hn:u.n+1<=200):St r u.node/\u.node.n=u.n+1:=by
 refine⟨⟨h.l,?_⟩,O⟩;show (u.b||decide (200<u.n+1))=false;rw[h.b,decide_eq_false (by omega)];rfl
theorem zfr {ex:Rd->Nd×Rd} {F:Nat} {z:TokD} {r:List TokD} {t:Rd} (h:St (z::r) t) (hz:z.k≠5\/hasN [zal] z.t=false):zai rm ex (F+1) t=t.prim rm ex:=by
 unfold zai;rw[h.no (k:=5) (ts:=[zal]) hz (by decide)];rfl
def PU (rm:List MatD->Bool) (x:Nd):Prop:=∀ (r:List TokD) (t:Rd) (f F:Nat),Hz r->St (zgf x.two x.tk++r) t->t.n+(x.cnt:Int)<=200->t.l.length<=f->∃ u,zai rm (zaA rm f) (F+1) t=(x,u)/\St r u/\u.n=t.n+(x.cnt:Int)
theorem lev3 {f:Nat} {t u:Rd} {q:Nd} {r:List TokD} (hr:Hq r) (e:zai rm (zaA rm f) (t.l.length+1) t=(q,u)) (hu:u.l.map er=r.map er):zaA rm (f+1) t=(q,u):=by
 have hp:zeE rm (zaA rm f) t=(q,u):=lev_stop hr (qt_5 (by decide)) e hu;have hs:sumP rm (zaA rm f) t=(q,u):=lev_stop hr (qt_5 (by decide)) hp hu;exact lev_stop hr (qt_5 (by decide)) hs hu
theorem pu_sel {text:ByteArray} {n:Nat} {ms:List MatD} (ht:text=ByteArray.empty\/FW text/\zcE text=false) (hm:∀ m∈ms,1<=m.op/\m.op<=4) (hrm:ms=[]\/rm ms=true):PU rm (.mk nSel text (n:Int) 0 [] ms []):=λr t f F hr h hn hf=>by
 rw[tk_sel] at h;have hcn:(Nd.mk nSel text (n:Int) 0 [] ms []).cnt=1:=rfl;rw[hcn] at hn ⊢;obtain ⟨C,hC⟩:∃ C,C=(if 0<n then [sg tSq,⟨4,0,digB n⟩,sg tSqE] else [])++r:=⟨_,rfl⟩;have hw:∀ u,St C u->∃ v,u.selWin=((n:Int),v)/\St r v/\v.n=u.n:=λu hu=>by
  rw[hC] at hu;unfold Rd.selWin;by_cases h0:0<n
  · rw[if_pos h0] at hu;have hu:St (sg tSq::⟨4,0,digB n⟩::sg tSqE::r) u:=hu;obtain ⟨a1,a2⟩:=hu.yes (k:=5) (ts:=[tSq]) rfl (by decide);obtain ⟨b1,b2⟩:=a2.num;obtain ⟨c1,c2⟩:=b2.must;rw[a1,if_pos rfl];simp only;rw[b1];exact⟨_,O,c1,c2⟩
  rw[if_neg h0] at hu;have hu:St r u:=hu;rw[hu.not hr.r (by decide),if_neg (by simp),show n=0 by omega];exact⟨u,O,hu,O⟩
 have hCz:C=[]\/∃ z r',C=z::r'/\(z.k≠5\/hasN [zE] z.t=false):=by
  rw[hC];by_cases h0:0<n
  · rw[if_pos h0];exact .inr ⟨sg tSq,_,rfl,.inr (by decide)⟩
  rw[if_neg h0];exact hr.l
 have hb:∀ u,St ((if text=ByteArray.empty\/0<ms.length then sg zE::comT (ms.map matT)++[sg zt] else [])++C) u->∃ v,u.selMs rm text=(ms,v)/\St C v/\v.n=u.n:=λu hu=>by
  unfold Rd.selMs;by_cases h0:text=ByteArray.empty\/0<ms.length
  · rw[if_pos h0] at hu;have hu:St (sg zE::(comT (ms.map matT)++sg zt::C)) u:=by
     have e:(sg zE::comT (ms.map matT)++[sg zt])++C=sg zE::(comT (ms.map matT)++sg zt::C):=(by simp);rw[<-e];exact hu
    rw[if_pos (by rw[hu.is];decide)];exact st_braces hm hrm hu
  rw[if_neg h0] at hu;have hu:St C u:=hu;rw[if_neg (by rw[not_is (hu.not hCz (by decide)) hu.b];decide)];have e:ms=[]:=by
   cases ms with
   | nil=>rfl
   | cons m ms=>exact absurd (.inr (by simp)) h0
  subst e;refine⟨_,O,⟨hu.l,?_⟩,O⟩;show (u.b||decide (text=ByteArray.empty))=false;rw[hu.b,decide_eq_false (λe=>h0 (.inl e))];rfl
 have h:St ((if text=ByteArray.empty then [] else [wk text])++((if text=ByteArray.empty\/0<ms.length then sg zE::comT (ms.map matT)++[sg zt] else [])++C)) t:=by
  have e:zgf false (selT text n ms)++r=(if text=ByteArray.empty then [] else [wk text])++((if text=ByteArray.empty\/0<ms.length then sg zE::comT (ms.map matT)++[sg zt] else [])++C):=by
   unfold zgf selT;rw[if_neg (by decide),hC];simp only[dQ]
  rw[<-e];exact h
 have hN:∃ u,t.selName=(text,u)/\St ((if text=ByteArray.empty\/0<ms.length then sg zE::comT (ms.map matT)++[sg zt] else [])++C) u/\u.n=t.n/\zai rm (zaA rm f) (F+1) t=t.selector rm:=by
  by_cases h0:text=ByteArray.empty
  · rw[if_pos h0,if_pos (.inl h0)] at h;have h':St (sg zE::(comT (ms.map matT)++([sg zt]++C))) t:=by
     have e:[]++((sg zE::comT (ms.map matT)++[sg zt])++C)=sg zE::(comT (ms.map matT)++([sg zt]++C)):=(by simp);rw[<-e];exact h
    have p1:t.pk.k=5:=h'.pk.1;refine⟨t,?_,?_,O,?_⟩
    · unfold Rd.selName;rw[if_neg (by rw[p1];rintro ⟨a,_⟩;exact absurd a (by decide)),h0]
    · rw[if_pos (.inl h0)];exact h
    rw[zfr h' (.inr (by decide))];unfold Rd.prim;rw[if_neg (by rw[h.b];decide),if_neg (by rw[p1];decide),if_neg (by rw[h'.is];decide),if_neg (by rw[p1];rintro ⟨a,_⟩;exact absurd a (by decide)),if_neg (by rw[p1];rintro ⟨a,_⟩;exact absurd a (by decide))]
  rw[if_neg h0] at h;have hk:=(ht.resolve_left h0).2;have h:St (wk text::((if text=ByteArray.empty\/0<ms.length then sg zE::comT (ms.map matT)++[sg zt] else [])++C)) t:=h;have p1:t.pk.k=1:=h.pk.1;have p2:t.pk.t=text:=h.pk.2;obtain ⟨a1,a2⟩:=h.any (k:=1) rfl;have hk2:=hk;unfold zcE at hk2;simp only[dT] at hk2;refine⟨_,?_,a2,O,?_⟩
  · unfold Rd.selName;rw[if_pos ⟨p1,by rw[p2];exact hk⟩,a1]
  rw[zfr h (.inl (show (1:Int)≠5 from by decide))];unfold Rd.prim;rw[if_neg (by rw[h.b];decide),if_neg (by rw[p1];decide),if_neg (by rw[h.is];simp),if_neg (by rw[p2,hk2.1.1];simp),if_neg (by rw[p2,hk2.1.2];simp)]
 obtain ⟨u,n1,n2,n3,n4⟩:=hN;obtain ⟨v,m1,m2,m3⟩:=hb u n2;obtain ⟨z,w1,w2,w3⟩:=hw v m2;obtain ⟨c1,c2⟩:=st_node w2 (by omega);refine⟨z.node,?_,c1,by omega⟩;rw[n4];unfold Rd.selector;simp only[n1,m1,w1]
end
end Lp
set_option linter.unusedSimpArgs false
set_option maxHeartbeats 4000000
set_option maxRecDepth 100000
namespace Lp
open Go Go.RowKit Go.Proofs
theorem node_q {s:ByteArray} (h:zcb s=0) {op text:ByteArray} {n mode:Int} {names:List ByteArray} {ms:List MatD} {kids:List Nd} {o a b:Int} (e:(⟨Nd.mk op text n mode names ms kids,o,a,b⟩:QryD)=zaW s):CD Tryz.prog 34 [HPow] [.agg [.s op,.s text,dI n,dI mode,.sh 1 (names.map D.s),.sh 3 (ms.map MatD.d),.sh 7 (Nd.ds kids)]] (PrT (zaW s).root.pr):=by
 have h1:=read_wf h;have h2:=read_wt h;have h4:=node_p h1 h2;rw[<-e] at h2 h4 ⊢;exact h4
end Lp
namespace Lp
open Go
theorem lx_sel' {text:ByteArray} {n:Nat} {ms:List MatD} (ht:text=ByteArray.empty\/FW text) (hs:n=0\/FitT ⟨4,0,digB n⟩) (hm:∀ m∈ms,FW m.n/\1<=m.op/\m.op<=4):Lx (selP text n ms) (selT text n ms)/\Hd (selP text n ms):=by
 have hb:=lx_brc hm;have sb:Stop (bl8 (zE++za2 zA (ms.map matP)++zt)):=by rw[dH];exact stop_sg (b:=123) (r:=[]) rfl (by decide) _
 have hdb:Hd (zE++za2 zA (ms.map matP)++zt):=by
  rw[dH];exact⟨123,_,by rw[zeB];rfl,by decide,by decide⟩
 have hA:Lx (selA text ms) ((if text=ByteArray.empty then [] else [wk text])++(if text=ByteArray.empty\/0<ms.length then sg zE::comT (ms.map matT)++[sg zt] else []))/\Hd (selA text ms):=by
  unfold selA;by_cases h0:text=ByteArray.empty
  · rw[if_pos (.inl h0),if_pos h0,if_pos (.inl h0),h0,ByteArray.empty_append,jI];exact⟨hb,hdb⟩
  have hw:=(ht.resolve_left h0);rw[if_neg h0];by_cases h1:0<ms.length
  · rw[if_pos (.inr h1),if_pos (.inr h1)];exact⟨(lx_word hw).cat hb sb,(hd_word hw).app _⟩
  rw[if_neg (by rintro (k | k);exact h0 k;exact h1 k),if_neg (by rintro (k | k);exact h0 k;exact h1 k),jO];exact⟨lx_word hw,hd_word hw⟩
 unfold selP selT;by_cases hn:0<n
 · rw[if_pos hn,if_pos hn,<-dQ];refine⟨hA.1.cat (lx_win (hs.resolve_left (by omega))) ?_,hA.2.app _⟩;rw[dH];exact stop_sg (b:=91) (r:=[]) rfl (by decide) _
 rw[if_neg hn,if_neg hn,jO];exact hA
section
variable {rm:List MatD->Bool} {s u:Rd}
theorem zeC (h:s.b=true) (k:Int) (ts:List ByteArray):s.take k ts=(ByteArray.empty,false,s):=by unfold Rd.take;rw[if_pos (.inl h)]
theorem bd_must (h:s.b=true) (t:ByteArray):(s.must t).b=true:=by unfold Rd.must;rw[zeC h];simp
theorem bd_any (h:s.b=true) (k:Int):(s.any k).2.b=true:=by unfold Rd.any;rw[if_pos (.inl h)]
theorem bd_node (h:s.b=true):s.node.b=true:=by unfold Rd.node;simp[h]
theorem bd_unary {ex:Rd->Nd×Rd} (h:s.b=true):∀ F,zai rm ex F s=(noNd,s)
 | 0=>rfl
 | F+1=>by unfold zai;rw[zeC h,if_neg (by simp)];simp only;unfold Rd.prim;rw[if_pos h]
theorem bd_level {part:Rd->Nd×Rd} {ts:List ByteArray} {x:Nd} (hp:part s=(x,u)) (hu:u.b=true):s.level part ts=(x,u):=by
 unfold Rd.level;rw[hp];simp only[zaH];rw[zeC hu,if_pos rfl]
theorem bd_of {f:Nat} {x:Nd} (e:zai rm (zaA rm f) (s.l.length+1) s=(x,u)) (hu:u.b=true):zaA rm (f+1) s=(x,u):=by
 have h1:zeE rm (zaA rm f) s=(x,u):=bd_level (part:=λs=>zai rm (zaA rm f) (s.l.length+1) s) e hu;have h2:sumP rm (zaA rm f) s=(x,u):=bd_level h1 hu;exact bd_level h2 hu
theorem bd_expr (h:s.b=true):∀ f,zaA rm f s=(noNd,s)
 | 0=>rfl
 | f+1=>bd_of (bd_unary h _) h
theorem bd_parse {L:List TokD} {x:Nd} (e:zaA rm (L.length+1) ⟨L,0,false⟩=(x,u)) (hu:u.b=true):zbJ rm L=none:=by
 rw[parse_endQ rm e];have h1:u.order.2=u:=by unfold Rd.order;rw[zeC hu];rfl
 have h2:∀ w,(u.bound w).2=u:=λw=>by unfold Rd.bound;rw[zeC hu];rfl
 unfold endQ;simp only[h1,h2];rw[if_pos (.inl hu)]
theorem braces_bad' {ms:List MatD} {v:Rd} (h:u.braces (λ_=>true)=(ms,v)) (hne:ms≠[]) (hr:rm ms=false):(u.braces rm).1=ms/\(u.braces rm).2.b=true:=by
 unfold Rd.braces at h ⊢;split at h
 · injection h with h _;exact absurd h.symm hne
 rename_i h1;rw[if_neg h1];injection h with h _;exact⟨h,by simp only;rw[h,hr];simp⟩
theorem sel_back {text:ByteArray} {n:Nat} {ms:List MatD} {L:List TokD} {q:QryD} (hF:text=ByteArray.empty\/FW text) (hm:∀ m∈ms,1<=m.op/\m.op<=4) (hL:L.map er=(selT text n ms).map er) (h:zbJ rm L=some q):q.root=.mk nSel text (n:Int) 0 [] ms []:=by
 have h0:St (selT text n ms) ⟨L,0,false⟩:=⟨hL,rfl⟩;obtain ⟨B,hB⟩:∃ B,B=(if text=ByteArray.empty\/0<ms.length then sg zE::comT (ms.map matT)++[sg zt] else [])++(if 0<n then [sg tSq,⟨4,0,digB n⟩,sg tSqE] else []):=⟨_,rfl⟩;have hS:selT text n ms=(if text=ByteArray.empty then [] else [wk text])++B:=by rw[hB];rfl
 have hBz:B=[]\/∃ z r',B=z::r'/\z.k=5/\hasN [zn] z.t=false:=by
  rw[hB];by_cases h1:text=ByteArray.empty\/0<ms.length
  · rw[if_pos h1];exact .inr ⟨sg zE,_,rfl,rfl,by decide⟩
  rw[if_neg h1];by_cases h2:0<n
  · rw[if_pos h2];exact .inr ⟨sg tSq,_,rfl,rfl,by decide⟩
  rw[if_neg h2];exact .inl rfl
 have bad:∀ {x:Nd} {u:Rd},zai rm (zaA rm L.length) (L.length+1) ⟨L,0,false⟩=(x,u)->u.b=true->False:=λe hu=>by
  rw[bd_parse (bd_of (s:=⟨L,0,false⟩) e hu) hu] at h;cases h
 by_cases hk:text≠ByteArray.empty/\zcE text=true
 · -- a word that the language keeps:nothing
   exfalso;rw[hS,if_neg hk.1] at h0;have h0:St (wk text::B) ⟨L,0,false⟩:=h0;have p1:(⟨L,0,false⟩:Rd).pk.k=1:=h0.pk.1;have p2:(⟨L,0,false⟩:Rd).pk.t=text:=h0.pk.2;obtain ⟨a1,a2⟩:=h0.any (k:=1) rfl;have noM:∀ {u:Rd},St B u->u.take 1 [tBy,zr]=(ByteArray.empty,false,u):=λhu=>hu.not (by
    rcases hBz with e | ⟨z,r',e,e5,_⟩
    · exact .inl e
    exact .inr ⟨z,r',e,.inl (by rw[e5];decide)⟩) (by decide)
   have noO:∀ {u:Rd},St B u->(u.must zn).b=true:=λ{u} hu=>by
    have e:=hu.not (k:=5) (ts:=[zn]) (by
     rcases hBz with e | ⟨z,r',e,e5,e6⟩
     · exact .inl e
     exact .inr ⟨z,r',e,.inr e6⟩) (by decide)
    unfold Rd.must;rw[e];simp
   have hp:=zfr (rm:=rm) (ex:=zaA rm L.length) (F:=L.length) h0 (.inl (show (1:Int)≠5 from by decide));unfold Rd.prim at hp;rw[if_neg (by simp),if_neg (by rw[p1];decide),if_neg (by rw[h0.is];simp)] at hp;by_cases hg:hasN aggN text=true
   · rw[if_pos ⟨p1,by rw[p2];exact hg⟩] at hp;refine bad (x:=(Rd.aggr _ _).1) (u:=(Rd.aggr ⟨L,0,false⟩ (zaA rm L.length)).2) hp ?_;unfold Rd.aggr;rw[a1];simp only;have hmo:Rd.mode ⟨L.tail,0,false⟩ tBy zr=(0,[],⟨L.tail,0,false⟩):=(by unfold Rd.mode;rw[noM a2,if_pos rfl]);rw[show (⟨(⟨L,0,false⟩:Rd).l.tail,0,false⟩:Rd)=⟨L.tail,0,false⟩ from rfl,hmo];simp only;have hb:(Rd.must ⟨L.tail,0,false⟩ zn).b=true:=noO a2;refine bd_node (bd_must ?_ _);split
     · rw[bd_expr (bd_must (by exact bd_any hb _) _)];exact bd_must (bd_any hb _) _
     rw[bd_expr hb];exact hb
   rw[if_neg (by rw[p2];exact λk=>hg k.2)] at hp;by_cases hf:hasN fnN text=true
   · rw[if_pos ⟨p1,by rw[p2];exact hf⟩,a1] at hp;refine bad hp ?_;simp only;have hb:(Rd.must ⟨L.tail,0,false⟩ zn).b=true:=noO a2;rw[show (⟨(⟨L,0,false⟩:Rd).l.tail,0,false⟩:Rd)=⟨L.tail,0,false⟩ from rfl,bd_expr hb];exact bd_must (bd_node hb) _
   rw[if_neg (by rw[p2];exact λk=>hf k.2)] at hp;refine bad (x:=(Rd.selector _ _).1) (u:=(Rd.selector rm ⟨L,0,false⟩).2) hp ?_;unfold Rd.selector;have hn:Rd.selName ⟨L,0,false⟩=(ByteArray.empty,⟨L,0,false⟩):=(by unfold Rd.selName;rw[if_neg (by rw[p2,hk.2];simp)]);have hs:Rd.selMs rm ⟨L,0,false⟩ ByteArray.empty=([],⟨L,0,true⟩):=(by unfold Rd.selMs;rw[if_neg (by rw[h0.is];simp)];simp);simp only[hn,hs];refine bd_node ?_;unfold Rd.selWin;rw[zeC rfl];rfl
 have ht:text=ByteArray.empty\/zcE text=false:=by
  by_cases e:text=ByteArray.empty
  · exact .inl e
  right;cases hq:zcE text with
  | false=>rfl
  | true=>exact absurd ⟨e,hq⟩ hk
 have hN:∃ u,Rd.selName ⟨L,0,false⟩=(text,u)/\St B u/\u.n=0/\zai rm (zaA rm L.length) (L.length+1) ⟨L,0,false⟩=Rd.selector rm ⟨L,0,false⟩:=by
  by_cases h1:text=ByteArray.empty
  · rw[hS,if_pos h1,jI] at h0;have h':St (sg zE::((comT (ms.map matT)++[sg zt])++(if 0<n then [sg tSq,⟨4,0,digB n⟩,sg tSqE] else []))) ⟨L,0,false⟩:=by
     rw[hB,if_pos (.inl h1)] at h0;exact h0
    have p1:(⟨L,0,false⟩:Rd).pk.k=5:=h'.pk.1;refine⟨_,?_,h0,O,?_⟩
    · unfold Rd.selName;rw[if_neg (by rw[p1];rintro ⟨a,_⟩;exact absurd a (by decide)),h1]
    rw[zfr h' (.inr (by decide))];unfold Rd.prim;rw[if_neg (by simp),if_neg (by rw[p1];decide),if_neg (by rw[h'.is];decide),if_neg (by rw[p1];rintro ⟨a,_⟩;exact absurd a (by decide)),if_neg (by rw[p1];rintro ⟨a,_⟩;exact absurd a (by decide))]
  have hk1:=ht.resolve_left h1;rw[hS,if_neg h1] at h0;have h0:St (wk text::B) ⟨L,0,false⟩:=h0;have p1:(⟨L,0,false⟩:Rd).pk.k=1:=h0.pk.1;have p2:(⟨L,0,false⟩:Rd).pk.t=text:=h0.pk.2;obtain ⟨a1,a2⟩:=h0.any (k:=1) rfl;have hk2:=hk1;unfold zcE at hk2;simp only[dT] at hk2;refine⟨_,?_,a2,O,?_⟩
  · unfold Rd.selName;rw[if_pos ⟨p1,by rw[p2];exact hk1⟩,a1]
  rw[zfr h0 (.inl (show (1:Int)≠5 from by decide))];unfold Rd.prim;rw[if_neg (by simp),if_neg (by rw[p1];decide),if_neg (by rw[h0.is];simp),if_neg (by rw[p2,hk2.1.1];simp),if_neg (by rw[p2,hk2.1.2];simp)]
 obtain ⟨u,n1,n2,n3,n4⟩:=hN;by_cases hr:ms=[]\/rm ms=true
 · -- its matchers may be
   have hw:text=ByteArray.empty\/FW text/\zcE text=false:=by
    rcases ht with e | e
    · exact .inl e
    exact hF.imp id λk=>⟨k,e⟩
   have hpu:=pu_sel (rm:=rm) (text:=text) (n:=n) (ms:=ms) hw hm hr [] ⟨L,0,false⟩ L.length L.length (.inl O) (by rw[tk_sel,jO];exact⟨hL,O⟩) (by show (0:Int)+1<=200;decide) (cU _);obtain ⟨v,v1,v2,v3⟩:=hpu;have e1:=lev3 (rm:=rm) (t:=⟨L,0,false⟩) (r:=[]) (λy e=>by cases e) v1 (by rw[v2.l]);have e2:=parse_endQ rm e1;rw[h] at e2;split at e2
   · cases e2
   injection e2 with e2;rw[e2]
 · -- they may not:nothing
   exfalso;have hne:ms≠[]:=λe=>hr (.inl e)
   have hr2:rm ms=false:=by
    cases e:rm ms with
    | false=>rfl
    | true=>exact absurd (.inr e) hr
   have hlen:0<ms.length:=by
    cases ms with
    | nil=>exact absurd rfl hne
    | cons a b=>simp
   refine bad (x:=(Rd.selector _ _).1) (u:=(Rd.selector rm ⟨L,0,false⟩).2) n4 ?_;rw[hB,if_pos (.inr hlen)] at n2;have n2:St (sg zE::(comT (ms.map matT)++sg zt::(if 0<n then [sg tSq,⟨4,0,digB n⟩,sg tSqE] else []))) u:=by
    have e:(sg zE::comT (ms.map matT)++[sg zt])++(if 0<n then [sg tSq,⟨4,0,digB n⟩,sg tSqE] else [])=sg zE::(comT (ms.map matT)++sg zt::(if 0<n then [sg tSq,⟨4,0,digB n⟩,sg tSqE] else [])):=(by simp);rw[<-e];exact n2
   obtain ⟨v,v1,_,_⟩:=st_braces (rm:=λ_=>true) hm (.inr rfl) n2;have hb:=(braces_bad' v1 hne hr2).2;have hs:(u.selMs rm text).2.b=true:=(by unfold Rd.selMs;rw[if_pos (by rw[n2.is];decide)];exact hb);unfold Rd.selector;simp only[n1];refine bd_node ?_;unfold Rd.selWin;rw[zeC hs];exact hs
theorem read_sel {text:ByteArray} {n:Nat} {ms:List MatD} (hF:text=ByteArray.empty\/zba text=true) (hn:n<=1000000000) (hm:∀ m∈ms,zba m.n=true/\1<=m.op/\m.op<=4) (h:zcb (selP text n ms)=0):(zaW (selP text n ms)).root=.mk nSel text (n:Int) 0 [] ms []:=by
 have hF':text=ByteArray.empty\/FW text:=hF.imp id good_word;obtain ⟨ts,h1,h2,h3⟩:=readE_w h;obtain ⟨vs,a1,a2⟩:=(lx_sel' (n:=n) hF' (.inr (good_dur hn)) λm hq=>⟨good_word (hm m hq).1,(hm m hq).2⟩).1;rw[h1] at a1;injection a1 with a1;subst a1;exact sel_back hF' (λm hq=>(hm m hq).2) a2 h2
end
theorem decL_4 (l:List UInt8):(decL l).2<=4:=by
 unfold decL
 repeat' split
 all_goals (show _<=_;simp)
theorem runes_4 (s:ByteArray):∀ (n p:Nat),s.size-p=n->s.size-p<=4*(zaF s p).length:=by
 intro n
 induction n using Nat.strongRecOn with
 | _ n ih=>
  intro p hp;rcases c8 p s.size with h | h
  · have h1:=zz s p;have h2:=zZ s p h;have h3:decW s p<=4:=(by rw[zbT];exact decL_4 _);have h4:=ih _ (by omega) (p+decW s p) O;rw[zan h,dC];omega
  omega
theorem nameB_120 {s:ByteArray} (h:zba s=true):s.size<=120:=by
 have h':=h;unfold zba at h';rw[zbX] at h';simp only[cY,decide_eq_true_eq] at h';have h1:(zu s).length<=30:=h'.1.1.2;have h2:=runes_4 s _ 0 O;have h3:(zaF s 0).length=(zu s).length:=rfl;omega
theorem sumSz_mat {ms:List MatD} (h:∀ m∈ms,zba m.n=true/\m.v.size<=60/\1<=m.op/\m.op<=4):zX (ms.map matP)<=400*ms.length:=by
 induction ms with
 | nil=>simp[zX]
 | cons m r ih=>
  have h1:=ih λx hx=>h x (c7 _ hx)
  obtain ⟨a,b,c⟩:=h m cW;have h2:=nameB_120 a;have h3:=(zeb m.v).1;have h4:=matP_eq m;have h5:(zb1 m.op).size<=2:=by
   obtain e | e | e | e:m.op=1\/m.op=2\/m.op=3\/m.op=4:=(by omega);all_goals (rw[e];decide)
  simp only[zX,jQ,List.sum_cons,dC] at*;omega
theorem wtSel {name:ByteArray} {ms:List MatD} (hF:name=ByteArray.empty\/zba name=true) (hl:ms.length<=10) (h:∀ m∈ms,zba m.n=true/\m.v.size<=60/\1<=m.op/\m.op<=4):name.size<=120/\wtOf name [] ms<=10000:=by
 have h1:=sumSz_mat h;have h2:name.size<=120:=by
  rcases hF with rfl | k
  · decide
  exact nameB_120 k
 refine⟨h2,?_⟩;unfold wtOf;simp only[zX,wC,List.sum_nil,d7] at*;omega
theorem all_next {α:Type} {l:List α} {k:Nat} {x:α} {φ:α->Prop} (h:l[k]?=some x) (ha:∀ y∈l.take k,φ y) (hx:φ x):∀ y∈l.take (k+1),φ y:=by
 rw[zaT h];intro y hy;rcases jX.1 hy with e | e
 · exact ha y e
 rw[jF.1 e];exact hx
end Lp
namespace Lp
open Go Go.RowKit
variable {P:Program} {ty:TypeId} {K:Kd} {H:List Hp}
theorem qu_callt {f:FuncId} {args:Array Operand} {ats:Array TypeId} {tg:Nat} {cs:Array Value} {ds0 ds:List D} {R:D->List Hp->Prop} {d:D} (hargs:opsD K args.toList=some ds0) (ha:CvL ds0 ds) (hL:∀ h∈[Hp.tab tg cs],h∈H)
 (hc:∀ args w,(callFunc f args).run P w=.ok (.enter f args) w) (hcall:CD P f [.tab tg cs] ds R) (hd:∀ d' H',R d' H'->d'=d) (hfl:d.flat=true):Qu P (.call { callee:=.value (.func f),args:=args,argTypes:=ats }) ty K H d:=
 ⟨λρ w F hk hF hH=>by
  have hok:=hH _ (hL _ cW);have hno:∀ b,¬blks [Hp.tab tg cs] b:=λb ⟨x,hx,e⟩=>by (rw[jF.1 hx] at e;exact e)
  refine e_call (zl ρ args.toList) (zcC ρ args.toList args.toList (λ_ h=>h)) hc (R:=λu w'=>Ext w w'/\D.rep w' (FN F w w') d u) ?_ (λ_ _ h=>h);refine(hcall.out w F _ (ha.repA (zcD hk hargs)) hF ⟨List.pairwise_singleton _ _,λh hh=>by (rw[jF.1 hh];exact hok),λb hb=>absurd hb (hno b)⟩).mono ?_;rintro e w' ⟨u,rfl,F',d',H',hR,hrep,g⟩;refine⟨u,O,⟨g.os,g.tape,g.output,g.size,λb hb _=>g.frame b hb (hno b),g.drawn⟩,?_⟩;rw[hd d' H' hR] at hrep;exact wV d u hfl hrep⟩
end Lp
