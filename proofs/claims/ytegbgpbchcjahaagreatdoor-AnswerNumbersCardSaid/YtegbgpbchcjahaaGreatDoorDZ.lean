import Derived.Test.YtegbgpbchcjahaaGreatDoorRows
import Derived.ProofKit
import Derived.LaidMore
import Derived.OpenShut
import Derived.Stop.Joined
import Derived.Test.YtegbgpbchcjahaaGreatDoorProg
import Derived.Test.YtegbgpbchcjahaaGreatDoorPLexT
set_option linter.all false
namespace Lp
open Go
structure TkOk (x:TokD):Prop where
 z:x.t.size<=1000
 d:x.k=2\/x.k=4->∃ v:Nat,v<=1000000000000/\x.t=digB v
 nb:¬(x.k=5/\x.t=zaq)
def TOk (l:List TokD):Prop:=∀ x∈l,TkOk x
def aV8 {s:Ba} {l:List TokD} (h:lexL s=l/\lexE s=0) (hd:(l.all λx=>!(decide (x.k=5)&&decide (x.t=zaq)))=true):∀ x∈lexL s,¬(x.k=5/\x.t=zaq):=by
 rw[h.1];intro x hx;have:=c8.1 hd x hx;intro ⟨e1,e2⟩;rw[e1,e2] at this;exact aH this (by decide)
def TOk.suf {l m:List TokD} (h:TOk l) (k:m <:+l):TOk m:=λx hx=>h x (k.subset hx)
def Stp.out {c:Int} {s t:Rd} (h:Stp c s t) (hT:TOk s.l):t.l.length<=s.l.length/\t.n+2*(t.l.length:Int)<=s.n+2*(s.l.length:Int)+c/\s.n<=t.n/\TOk t.l:=⟨h.len,h.w,h.n,hT.suf h.l⟩
def pk_z {s:Rd} (hT:TOk s.l):s.pk.t.size<=1000:=by
 unfold Rd.pk;cases e:s.l with
 | nil=>exact cT _
 | cons x l=>exact(hT x (e ▸ cR)).z
section
variable {s s':Rd} {k:Int} {ts:List Ba} {t a b:Ba} {q:Bool}
def zeV (e:(t,q,s')=s.take k ts):Stp 0 s s':=by have h:=z8 s k ts;rw[<-e] at h;exact h
def zeU (e:(t,q,s')=s.take k ts) (hT:TOk s.l):t.size<=1000:=by
 have h:t=(s.take k ts).1:=aG Prod.fst e;rw[h];unfold Rd.take;split
 · exact cT _
 exact pk_z hT
def aQe (e:(t,q,s')=s.take k ts) (hk:k≠0) (hq:q=true):s'.l.length+1=s.l.length/\Stp (-2) s s'/\s.b=false/\s'.b=false/\s.is k ts=true:=by
 have h:=za3 (s:=s) (k:=k) (ts:=ts) hk (by rw[<-e];exact hq);rw[<-e] at h;exact h
def zen (e:(t,s')=s.any k):Stp 0 s s':=by have h:=zco s k;rw[<-e] at h;exact h
def zek (e:(t,s')=s.any k) (hT:TOk s.l):t.size<=1000:=by
 have h:t=(s.any k).1:=aG Prod.fst e;rw[h];unfold Rd.any;split
 · exact cT _
 exact pk_z hT
def aU8 (e:(t,s')=s.any k) (hk:k≠0) (hb:s.b=false) (h:s.pk.k=k):s'.l.length+1=s.l.length/\Stp (-2) s s'/\t=s.pk.t/\s'.b=false:=by
 have h:=zf4 hk hb h;rw[<-e] at h;exact h
def za9 (e:s'=s.must t):Stp 0 s s':=by rw[e];exact zaa s t
def aIn {l:List Ba} (e:(l,s')=s.names):Stp 0 s s':=by have h:=kZ s;rw[<-e] at h;exact h
def aOj {m:Int} {l:List Ba} (e:(m,l,s')=s.mode a b):Stp 0 s s':=by have h:=zcg s a b;rw[<-e] at h;exact h
def iU {v:Int} (e:(v,s')=s.number k):Stp 0 s s':=by have h:=zbu s k;rw[<-e] at h;exact h
end
def kE (l:List UInt8) (b:UInt8):digV (l++[b])=10*digV l+(b.toNat-48):=by unfold digV;rw[vA];rfl
def gC:∀ n:Nat,digV (digL n)=n:=by
 intro n
 induction n using Nat.strongRecOn with
 | _ n ih=>
  unfold digL;split
  · show 10*0+((UInt8.ofNat (48+n)).toNat-48)=n;rw[on8 (by omega)];omega
  rw[kE,ih (n / 10) (by omega),on8 (by omega)];omega
def kN:∀ n:Nat,∀ b∈digL n,48<=b.toNat/\b.toNat<=57:=by
 intro n
 induction n using Nat.strongRecOn with
 | _ n ih=>
  intro b hb;unfold digL at hb;split at hb
  · rw[dQ.1 hb,on8 (by omega)];omega
  rcases jO.1 hb with h | h
  · exact ih (n / 10) (by omega) b h
  rw[dQ.1 h,on8 (by omega)];omega
def yZ (n:Nat):digL n≠[]:=by unfold digL;split<;>simp
def zdC (n:Nat):bl8 (digB n)=digL n:=zdv _
def pZ (n:Nat):numV (digB n)=(n:Int):=by unfold numV;rw[zdC,gC]
def aL6:numV ByteArray.empty=0:=rfl
def zfz {s s':Rd} {k:Int} {t:Ba} (e:(t,s')=s.any k) (hk:k=2\/k=4) (hT:TOk s.l):t=ByteArray.empty\/∃ v:Nat,v<=1000000000000/\t=digB v:=by
 have h:t=(s.any k).1:=aG Prod.fst e;unfold Rd.any at h;split at h
 · exact .inl h
 rename_i hc;have hk':s.pk.k=k:=Decidable.byContradiction λh=>hc (.inr h)
 refine .inr ?_;unfold Rd.pk at h hk';cases el:s.l with
 | nil=>rw[el] at hk';exact aH hk' (by show ¬(0:Int)=k;omega)
 | cons x l=>
  rw[el] at h hk';have h:t=x.t:=h;have hk':x.k=k:=hk';obtain ⟨v,h1,h2⟩:=(hT x (el ▸ cR)).d (by omega);exact⟨v,h1,h.trans h2⟩
def fY {s s':Rd} {k v:Int} (e:(v,s')=s.number k) (hk:k=2\/k=4) (hT:TOk s.l):0<=v/\v<=1000000000000:=by
 have h:v=numV (s.any k).1:=aG Prod.fst e;rcases zfz (s:=s) (k:=k) (t:=(s.any k).1) (s':=(s.any k).2) rfl hk hT with h1 | ⟨n,h1,h2⟩
 · rw[h,h1,aL6];omega
 rw[h,h2,pZ];omega
mutual
def Nd.cnt:Nd->Nat
 | .mk _ _ _ _ _ _ kids=>Nd.cntL kids+1
def Nd.cntL:List Nd->Nat
 | []=>0
 | x::r=>Nd.cnt x+Nd.cntL r
end
section
variable (rm:List MatD->Bool)
end
end Lp
namespace Lp
open Go
def aGo (p:TokD->Prop) (hp:∀ (l:List UInt8) (a:Nat),(zj l).2≠0->p ((zj l).1.put a)):∀ (n:Nat) (l:List UInt8) (a:Nat) (ts:List TokD),l.length=n->zO l a=some ts->∀ x∈ts,p x:=by
 intro n
 induction n using Nat.strongRecOn with
 | _ n ih=>
  intro l a ts hn h;have hrl:=zbY isB l;generalize hm:l.drop (runL isB l)=m at*;have hml:m.length=l.length-runL isB l:=by rw[<-hm,c7]
  unfold zO at h;rw[hm] at h;by_cases hne:m=[]
  · subst hne;rw[zaR] at h;injection h with h;subst h;exact λx hx=>aH hx (by simp)
  by_cases h0:(zj m).2=0
  · rw[zbD hne h0] at h;cases h
  have hpos:=dW.2 hne;have hfl:=kI (l:=m);rw[zbi hne h0 (by omega)] at h;cases e:zO (m.drop (zj m).2) (a+runL isB l+(zj m).2) with
  | none=>rw[e] at h;cases h
  | some t2=>
   rw[e] at h;have h:(zj m).1.put (a+runL isB l)::t2=ts:=(by injection h);have hi:=ih (m.drop (zj m).2).length (by rw[c7];omega) _ _ t2 rfl e;subst h;intro x hx;rcases dD.1 hx with rfl | hx
   · exact hp _ _ h0
   exact hi x hx
def aE9 {l:List UInt8} (h:(zj l).2≠0):(zj l).1.k=2\/(zj l).1.k=4->∃ v:Nat,v<=1000000000000/\(zj l).1.t=digB v:=by
 unfold zj at h ⊢;split
 · rename_i h1;rw[aB h1] at h;unfold zca at h ⊢;split
   · intro k;rcases k with k | k<;>exact aH k (by show ¬(1:Int)=_;decide)
   rename_i h2;rw[aA h2] at h;exact aH rfl h
 rename_i h1;rw[aA h1] at h;split
 · rename_i h2;rw[aB h2] at h;unfold numT at h ⊢;split
   · rename_i h3;rw[aB h3] at h;exact aH rfl h
   rename_i h3;rw[aA h3] at h;split
   · exact λ_=>⟨_,by omega,rfl⟩
   rename_i h4;rw[aA h4] at h;split
   · rename_i h5;rw[aB h5] at h;exact aH rfl h
   rename_i h5;obtain ⟨c,hc⟩:∃ c,secB (mkB ((l.take (runL isLD l)).drop (runL isD l)))=c:=⟨_,rfl⟩;rw[hc] at h5 ⊢;have hm:digV (l.take (runL isD l))*c<=1000000000:=(vO (by omega)).1 (by omega);exact λ_=>⟨_,by omega,rfl⟩
 rename_i h2;rw[aA h2] at h;split
 · rename_i h3;rw[aB h3] at h;cases e:zaz true l with
   | none=>unfold strT at h;rw[e] at h;exact aH rfl h
   | some i=>
    cases e2:unqB (mkB (l.take (i+1))) with
    | none=>
     unfold strT at h;rw[e] at h;have h:(match unqB (mkB (l.take (i+1))) with | none=>(zbo,0) | some t=>((⟨3,0,t⟩:TokD),i+1)).2≠0:=h;rw[e2] at h;exact aH rfl h
    | some t=>
     have e3:strT l=(⟨3,0,t⟩,i+1):=by
      unfold strT;rw[e];show (match unqB (mkB (l.take (i+1))) with | none=>(zbo,0) | some t=>((⟨3,0,t⟩:TokD),i+1))=_;rw[e2]
     rw[e3];intro k;rcases k with k | k<;>exact aH k (by show ¬(3:Int)=_;decide)
 rename_i h3;rw[aA h3] at h;obtain ⟨x,hx,e⟩:=gJ zam l h;have e:(zbI l).1=⟨5,0,x⟩:=e;rw[e];intro k;rcases k with k | k<;>exact aH k (by show ¬(5:Int)=_;decide)
def aCm (s:Ba) (hnb:∀ x∈lexL s,¬(x.k=5/\x.t=zaq)):TOk (lexL s):=λx hx=>by
 by_cases hE:lexE s=0
 · obtain ⟨h1,h2⟩:=zgw hE;refine⟨aFn (by omega) x hx,?_,hnb x hx⟩;exact aGo (λx=>x.k=2\/x.k=4->∃ v:Nat,v<=1000000000000/\x.t=digB v) (λl a h=>aE9 h) _ _ _ _ rfl h2 x hx
 rw[qV hE] at hx;exact aH hx (by simp)
def aE4 {s:Rd} (hT:TOk s.l) (h:s.is 5 [zaq]=true):False:=by
 unfold Rd.is at h;simp only[cU,aI] at h;obtain ⟨h1,h2⟩:=h;have h2:s.pk.t=zaq:=by simpa [hasN,eq_comm] using h2
 unfold Rd.pk at h1 h2;cases e:s.l with
 | nil=>rw[e] at h1;exact aH h1 (by decide)
 | cons x l=>rw[e] at h1 h2;exact(hT x (e ▸ cR)).nb ⟨h1,h2⟩
def rmD (ms:List MatD):Bool:=true
def noQ:QryD:=⟨noNd,0,0,0⟩
noncomputable def zdz (s:Ba):Int:=if lexE s=0 then(if (zda rmD (lexL s)).isSome=true then 0 else 2) else lexE s
noncomputable def zdy (s:Ba):QryD:=if lexE s=0 then(zda rmD (lexL s)).getD noQ else noQ
end Lp
namespace Lp
open Go Go.RowKit Go.Proofs
abbrev HSyn (ev:Value):Hp:=.tab 1 #[ev]
def aXv (s:Ba) (ev es:Value) (hev:EvOk ev) (hes:EvOk es) (hd:s=ByteArray.empty\/∃ v:Nat,v<=1000000000000/\s=digB v):CD Tryz.prog 101 [HErr ev,HSyn es] [.s s] (λr H'=>∃ x,r=.tup [dI (numV s),x]/\H'=[HErr ev,HSyn es]):=
 aFy λw F vs hvs hok=>by
  obtain ⟨u,us,rfl,hu,hus⟩:=hvs;obtain ⟨hu,hm⟩:=hu;have hus:us=[]:=hus;subst hu;subst hus;rcases hd with rfl | ⟨n,hn,rfl⟩
  · obtain ⟨hF,T,fr,hh⟩:=hok _ (cV _ cR);have hcell:w.cell? ⟨1,0,none⟩=some es:=by
     unfold World.cell?;rw[hh];rfl
    refine(Any.strconv_Atoi_syntax wR ByteArray.empty (by decide) rfl es w hcell hes).mono λe w' he=>?_
    obtain ⟨N,rfl,_,_,hbel⟩:=he;exact⟨_,rfl,zeP hbel,.tup [dI 0,.any],⟨_,rfl,rfl⟩,⟨_,rfl,_,_,rfl,rfl,_,_,rfl,rfl,rfl⟩⟩
  have h13:=zfX hn;have ha:Lib.atoiAll (bl8 (digB n))=.ok (digV (bl8 (digB n)):Int):=by
   rw[zdC];exact yS (kN n) (yZ n) h13
  rw[zdC,gC] at ha;rw[pZ];refine(Any.strconv_Atoi_ok wR (digB n) (by show (digB n).size<=_;unfold digB;rw[zaB];omega) (n:Int) (by rw[<-zdC] at ha;exact ha) w).mono λe w' he=>?_
  obtain ⟨rfl,hw⟩:=he;refine⟨_,rfl,?_,.tup [dI (n:Int),.v .nilIface],⟨_,rfl,rfl⟩,⟨_,rfl,_,_,rfl,rfl,_,_,rfl,rfl,rfl⟩⟩;rcases hw with rfl | ⟨t,rfl⟩
  · exact Ext.rfl'
  exact zeP (Joins.below_bytesWorld _ w _ t (cW _))
def aFh {H:Type} {enc:TypeId×Value->H} {P:Program} {w:World} {base:Nat} {spare:Nat->Bool} {held:Bool} {fuel n:Nat} {t e:TypeId} {k:IntKind} {cs:List Value} {zs:List Int} {q:List MemPlace}
 (hu:P.underlying t=some (.array n e)) (he:P.underlying e=some (.int k)) (hc:P.cellsOf e=1) (hct:P.cellsOf t=n) (h:DataW.trod enc P w base spare held fuel t cs=some (.agg (zs.map λz=>.lit (.int k z)),q)):cs=zs.map (Value.int k):=by
 obtain ⟨xs,m,rfl,hx,hlen,hn,hel⟩:=DataW.trod_array hu h;have hx1:zs.map (λz=>(DataW.lit (.int k z):DataW H))=xs.map (λx=>x.1):=by
  have:=aG Prod.fst hx;injection this
 have hl:=aG List.length hx1;rw[cN,cN] at hl;apply wD;intro i;rcases cZ i n with hi | hi
 · have h1:=hel i hi;rw[hc,vU,dL (by omega)] at h1;obtain ⟨z,e1,e2,_⟩:=DataW.trod_int he h1;have a1:cs[i]?=some (.int k z):=by
    have:=aG (λl=>l[0]?) e1;simp only[j0,j8] at this;simpa using this
   have a2:zs[i]?=some z:=by
    have:=aG (λl=>l[i]?) hx1;simp only[d9] at this;rw[dL (show i<xs.length by omega),e2] at this;cases e3:zs[i]? with
    | none=>rw[e3] at this;cases this
    | some y=>rw[e3] at this;injection this with this;injection this with this;injection this with _ this;rw[this]
   rw[a1,d9,a2];rfl
 rw[jU (by omega),jU (by rw[cN];omega)]
def lN {H:Type} {enc:TypeId×Value->H} {P:Program} {w:World} {base:Nat} {spare:Nat->Bool} {held:Bool} {fuel:Nat} {t:TypeId} {cs:List Value} {x:DataW H×List MemPlace} {ms:TypeDesc}
 (hu:P.underlying t=some ms) (hm:∃ mm,ms=.interface mm) (h:DataW.trod enc P w base spare held fuel t cs=some x):∃ ev,cs=[ev]/\EvOk ev:=by
 obtain ⟨mm,rfl⟩:=hm;cases fuel with
 | zero=>exact aH h (by show ¬(none=some x);simp)
 | succ fuel=>
  rw[DataW.trod_step] at h;unfold DataW.trodStep at h;rw[hu] at h;split at h<;>simp_all [EvOk]
def pU {P:Program} {w:World} {name:String} {g:Nat} {cs:Array Value} (hg:P.globalNamed name=some g) (h:World.var? P w name=some cs):∃ T fr,w.heap[g]?=some (.cells cs T fr):=by
 unfold World.var? at h;rw[hg] at h;have h:(match w.heap[g]? with | some (.cells cs _ _)=>some cs | _=>none)=some cs:=h;split at h
 · rename_i a b c e;injection h with h;subst h;exact⟨_,_,e⟩
 cases h
def aR5 {W:World} (h:laidMetH Tryz.prog Go.Proofs.YtegbgpbchcjahaaGreatDoor.Rows.answerNumbersRow.laid W):∃ ev es,EvOk ev/\EvOk es/\(∃ T fr,W.heap[3]?=some (.cells zfc T fr))/\(∃ T fr,W.heap[2]?=some (.cells #[ev] T fr))/\(∃ T fr,W.heap[1]?=some (.cells #[es] T fr)):=by
 rw[MakeChecks.laidMetH_plain _ _ _ (by kernel_rfl)] at h;obtain ⟨ps,⟨g0,t0,cs0,f0,p0,q0,hg0,ht0,hv0,hd0,⟨g1,t1,cs1,f1,p1,q1,hg1,ht1,hv1,hd1,⟨g2,t2,cs2,f2,p2,q2,hg2,ht2,hv2,hd2,⟨g3,t3,cs3,f3,p3,q3,hg3,ht3,hv3,hd3,⟨g4,t4,cs4,f4,p4,q4,hg4,ht4,hv4,hd4,_⟩,_⟩,_⟩,_⟩,_⟩,_,_⟩:=h;obtain rfl:3=g2:=uD ((show Tryz.prog.globalNamed _=some 3 by kernel_rfl).symm.trans hg2);obtain rfl:2=g3:=uD ((show Tryz.prog.globalNamed _=some 2 by kernel_rfl).symm.trans hg3);obtain rfl:1=g4:=uD ((show Tryz.prog.globalNamed _=some 1 by kernel_rfl).symm.trans hg4);have a4:Tryz.prog.globals[1]?.map (·.type)=some t4:=ht4;obtain rfl:=uD ((show Tryz.prog.globals[1]?.map (·.type)=some 155 by kernel_rfl).symm.trans a4);obtain ⟨es,e4,hes⟩:=lN Tryz.underlying155 ⟨_,rfl⟩ hd4;have a2:Tryz.prog.globals[3]?.map (·.type)=some t2:=ht2;have a3:Tryz.prog.globals[2]?.map (·.type)=some t3:=ht3;obtain rfl:=uD ((show Tryz.prog.globals[3]?.map (·.type)=some 349 by kernel_rfl).symm.trans a2);obtain rfl:=uD ((show Tryz.prog.globals[2]?.map (·.type)=some 155 by kernel_rfl).symm.trans a3);obtain ⟨ev,e3,hev⟩:=lN Tryz.underlying155 ⟨_,rfl⟩ hd3;have e2:=aFh (n:=20) (e:=270) (zs:=Lib.pow10Tab) (by kernel_rfl) (by kernel_rfl) (by kernel_rfl) (by kernel_rfl) hd2;refine⟨ev,es,hev,hes,?_,?_,?_⟩
 · have:=pU hg2 hv2
   rwa [show cs2=zfc from uZ.1 (by rw[e2];simp[zfc])] at this
 · have:=pU hg3 hv3
   rwa [show cs3=#[ev] from uZ.1 (by rw[e3])] at this
 have:=pU hg4 hv4
 rwa [show cs4=#[es] from uZ.1 (by rw[e4])] at this
def CD.lawT {f:FuncId} {ds:List D} {ev es:Value} (h:CD Tryz.prog f [HPow,HErr ev,HSyn es] ds (λr H'=>r=.v (.bool true)/\H'=[HPow,HErr ev,HSyn es])) {W:World} {vs:List Value} (hr:D.repA W (FA W) ds vs)
 (h1:∃ T fr,W.heap[3]?=some (.cells zfc T fr)) (h2:∃ T fr,W.heap[2]?=some (.cells #[ev] T fr)) (h3:∃ T fr,W.heap[1]?=some (.cells #[es] T fr)):
 Calls Tryz.prog f vs.toArray W (Ret λu w'=>Ext W w'/\u=.bool true):=by
 have hno:∀ b,¬blks [HPow,HErr ev,HSyn es] b:=λb ⟨x,hx,hb⟩=>by
  rcases dD.1 hx with rfl | hx
  · exact hb
  rcases dD.1 hx with rfl | hx
  · exact hb
  rw[dQ.1 hx] at hb;exact hb
 have hlt:∀ {g:Nat} {o:Obj},W.heap[g]?=some o->g<W.heap.size:=λh=>by
  rcases cZ _ W.heap.size with h' | h'
  · exact h'
  rw[vJ h'] at h;cases h
 obtain ⟨T1,f1,e1⟩:=h1;obtain ⟨T2,f2,e2⟩:=h2;obtain ⟨T3,f3,e3⟩:=h3;have hk:HOk W (FA W) (λ_=>True) [HPow,HErr ev,HSyn es]:=⟨by
  refine List.Pairwise.cons (λy _ g hg=>?_) (List.Pairwise.cons (λy _ g hg=>?_) (List.Pairwise.cons (λy hy=>aH hy (by simp)) .nil))
  · exact aH hg (λe=>e)
  · exact aH hg (λe=>e),λx hx=>by
  rcases dD.1 hx with rfl | hx
  · exact⟨hlt e1,T1,f1,e1⟩
  rcases dD.1 hx with rfl | hx
  · exact⟨hlt e2,T2,f2,e2⟩
  rw[dQ.1 hx];exact⟨hlt e3,T3,f3,e3⟩,λg hg=>aH hg (hno g)⟩
 refine(h.out W (FA W) vs hr (λ_ h=>h) hk).mono ?_;rintro e w' ⟨u,rfl,F',d',H',⟨rfl,rfl⟩,hrep,g⟩;have hrep:u=.bool true:=hrep;exact⟨u,rfl,⟨g.os,g.tape,g.output,g.size,λb hb _=>g.frame b hb (hno b),g.drawn⟩,hrep⟩
section
variable {H:Type} {enc:TypeId×Value->H} {w:World} {held:Bool} {sp:Nat->Bool} {n:Nat}
def aGt {cs:List Value} {y:DataW H×List MemPlace} (h:DataW.trod enc Tryz.prog w 0 sp held n 3 cs=some y):∃ d:Int,InD w 1 (.v (.int .i64 d)) cs:=by
 obtain ⟨i,e1,_,_⟩:=DataW.trod_int (by kernel_rfl) h;exact⟨i,by rw[e1];exact InD.one rfl rfl⟩
def aWi {cs:List Value} {y:DataW H×List MemPlace} (h:DataW.trod enc Tryz.prog w 0 sp held n 9 cs=some y):∃ d:Ba,InD w 1 (.s d) cs:=by
 obtain ⟨s0,e0,_,k0⟩:=DataW.trod_string (by kernel_rfl) h;exact⟨s0,by rw[e0];exact InD.one ⟨rfl,k0⟩ rfl⟩
end
end Lp
namespace Lp
open Go Go.RowKit
section
variable {P:Program} {N:Nat} {C:Ctx} {K K2:Kd} {H:List Hp} {ops:List Oper} {i:Nat} {Kt:Env->World->(Nat->Prop)->Prop}
def inL:List Nat->Nat->Bool
 | [],_=>false
 | k::r,t=>bif Nat.beq t k then true else inL r t
def ksK (K:Kd):List Nat:=K.map Prod.fst
def aH0:∀ {K:Kd} {t:Nat},inL (ksK K) t=false->zI K t=none
 | [],_,_=>rfl
 | (d,v)::r,t,h=>by
  have h:(bif Nat.beq t d then true else inL (ksK r) t)=false:=h;show (bif Nat.beq t d then some v else zI r t)=none;cases e:Nat.beq t d with
  | true=>rw[e] at h;cases h
  | false=>rw[e] at h;exact aH0 h
def KX (K K2:Kd):Prop:=∀ t d,zI K t=some d->zI K2 t=some d
def KX.cons {t:Nat} {d:D} (h:KX K K2) (hf:zI K t=none):KX K ((t,d)::K2):=λq x hq=>by
 show (bif Nat.beq q t then some d else zI K2 q)=some x;cases e:Nat.beq q t with
 | true=>rw[dM e] at hq;rw[hf] at hq;cases hq
 | false=>exact h q x hq
def KX.both {t:Nat} {d:D} (h:KX K K2):KX ((t,d)::K) ((t,d)::K2):=λq x hq=>by
 have hq:(bif Nat.beq q t then some d else zI K q)=some x:=hq;show (bif Nat.beq q t then some d else zI K2 q)=some x;cases e:Nat.beq q t with
 | true=>rw[e] at hq;exact hq
 | false=>rw[e] at hq;exact h q x hq
def mU (h:KX K K2) (n:OpsD P N C ops i K H Kt):OpsD P N C ops i K2 H Kt:=⟨λa w F ok hk g=>n.out a w F ok (λt d e=>hk t d (h t d e)) g⟩
def kx:∀ (m:Nat) {K K2:Kd},K2.drop m=K->(K2.take m).all (λx=>!inL (ksK K) x.1)=true->KX K K2
 | 0,K,K2,h,_=>λt d e=>by rw[<-h] at e;exact e
 | m+1,K,[],h,_=>λt d e=>by rw[<-h] at e;cases e
 | m+1,K,(t,d)::K2,h,hf=>by
  rw[vW,List.all_cons,cU] at hf;exact(kx m h hf.2).cons (aH0 (by simpa using hf.1))
def skB (ops:List Oper) (N j:Nat) (want:Bool) (ks:List Nat):Nat->Nat->Bool
 | _,0=>true
 | i,n+1=>(match opAt ops i with
  | some (some t,_,_,some (j',w))=>Nat.beq j' j&&(w==want)&&Nat.blt t N&&!inL ks t
  | _=>false)&&skB ops N j want ks (i+1) n
def qP {j s:Nat} {b want:Bool} (hj:zW ops j=some s) (hs:Nat.blt s N=true) (hb:zI K s=some (.v (.bool b))) (hne:b≠want):∀ (n i:Nat),skB ops N j want (ksK K) i n=true->OpsD P N C ops (i+n) K H Kt->OpsD P N C ops i K H Kt
 | 0,i,_,h=>h
 | n+1,i,hk,h=>by
  unfold skB at hk;rw[cU] at hk;obtain ⟨h1,h2⟩:=hk;split at h1
  · rename_i t op ty j' w ho;simp only[cU,uA,beq_iff_eq] at h1;obtain ⟨⟨⟨a1,a2⟩,a3⟩,a4⟩:=h1;have a1:=dM a1;subst a1;subst a2;exact qG ho a3 hj hs hb (λe=>hne (by injection e)) (mU (KX.cons (λ_ _ e=>e) (aH0 a4)) (qP hj hs hb hne n (i+1) h2 (by rw[show i+1+n=i+(n+1) by omega];exact h)))
  cases h1
def KX.same {s:Nat} {d:D} (h:zI K s=some d):KX ((s,d)::K) K:=λq x hq=>by
 have hq:(bif Nat.beq q s then some d else zI K q)=some x:=hq;cases e:Nat.beq q s with
 | true=>rw[e] at hq;rw[dM e,h];exact hq
 | false=>rw[e] at hq;exact hq
def KX.tail {s:Nat} {d d':D} (h:KX ((s,d)::K) K2) (e:zI K s=some d):KX K K2:=λq x hq=>h q x (by
 show (bif Nat.beq q s then some d else zI K q)=some x;cases e':Nat.beq q s with
 | true=>rw[dM e',e] at hq;exact hq
 | false=>exact hq)
def aYr {b c:Bool} (j n:Nat) {s t:Tmp} {y:Operand} {ty:TypeId} (hp:opAt ops (i+n)=some (some t,.pick (.tmp s) (.const (.bool true)) y,ty,none)) (ht:Nat.blt t N=true) (hj:zW ops j=some s) (hs:Nat.blt s N=true) (hb:zI K s=some (.v (.bool b))) (hk:skB ops N j false (ksK K) i n=true)
 (run:b=false->(∀ K2,zI K2 s=some (.v (.bool false))->opD K2 y=some (.v (.bool c))->KX ((s,.v (.bool false))::K) K2->OpsD P N C ops (i+n) K2 H Kt)->OpsD P N C ops i ((s,.v (.bool false))::K) H Kt)
 (next:OpsD P N C ops (i+n+1) ((t,.v (.bool (b||c)))::K) H Kt):OpsD P N C ops i K H Kt:=by
 cases b with
 | true=>exact qP hj hs hb (by simp) n i hk (zgQ hp ht (zcJ hb rfl) next)
 | false=>exact mU (KX.same hb) (run rfl λK2 h1 h2 hx=>zgQ hp ht (zaY h1 h2) (mU (hx.tail (d':=.any) hb).both next))
def aX2 {b c:Bool} (j n:Nat) {s t:Tmp} {x:Operand} {ty:TypeId} (hp:opAt ops (i+n)=some (some t,.pick (.tmp s) x (.const (.bool false)),ty,none)) (ht:Nat.blt t N=true) (hj:zW ops j=some s) (hs:Nat.blt s N=true) (hb:zI K s=some (.v (.bool b))) (hk:skB ops N j true (ksK K) i n=true)
 (run:b=true->(∀ K2,zI K2 s=some (.v (.bool true))->opD K2 x=some (.v (.bool c))->KX ((s,.v (.bool true))::K) K2->OpsD P N C ops (i+n) K2 H Kt)->OpsD P N C ops i ((s,.v (.bool true))::K) H Kt)
 (next:OpsD P N C ops (i+n+1) ((t,.v (.bool (b&&c)))::K) H Kt):OpsD P N C ops i K H Kt:=by
 cases b with
 | false=>exact qP hj hs hb (by simp) n i hk (zgQ hp ht (zaY hb rfl) next)
 | true=>exact mU (KX.same hb) (run rfl λK2 h1 h2 hx=>zgQ hp ht (zcJ h1 h2) (mU (hx.tail (d':=.any) hb).both next))
end
def orF {a b:Bool} (h:(a||b)=false):a=false/\b=false:=by cases a<;>cases b<;>simp at h ⊢
def andT {a b:Bool} (h:(a&&b)=true):a=true/\b=true:=by cases a<;>cases b<;>simp at h ⊢
def notT {a:Bool} (h:(!a)=true):a=false:=by cases a<;>simp at h ⊢
def notF {a:Bool} (h:(!a)=false):a=true:=by cases a<;>simp at h ⊢
end Lp
namespace Lp
open Go Go.RowKit Go.Proofs
def mixed:Tryz.prog.follows .mixedOrders=true:=by kernel_rfl
abbrev T':Bool:=true
abbrev F':Bool:=false
abbrev dZ:D:=.v (.slice none 0 0)
abbrev dP (g o:Nat):D:=.v (.pointer (some ⟨g,o,none⟩))
abbrev vS (g n c:Nat):Value:=.slice (some ⟨g,0,none⟩) n c
def cpF {α:Type}:List α->Option (List α)
 | []=>some []
 | x::r=>match cpF r with
  | some l=>some (x::l)
  | none=>none
def aPc {α:Type}:∀ {l l':List α},cpF l=some l'->l=l'
 | [],_,h=>by injection h
 | x::r,l',h=>by
  unfold cpF at h;split at h
  · rename_i l hl;injection h with h;rw[<-h,aPc hl]
  cases h
def kpF:List Nat->Kd->Option Kd
 | [],_=>some []
 | t::r,K=>match zI K t with
  | some d=>match kpF r K with
   | some l=>some ((t,d)::l)
   | none=>none
  | none=>none
def aIm:∀ {ts:List Nat} {K K':Kd},kpF ts K=some K'->SubK K' K
 | [],_,_,h=>by injection h with h;subst h;trivial
 | t::r,K,K',h=>by
  unfold kpF at h;split at h
  · rename_i d hd;split at h
    · rename_i l hl;injection h with h;subst h;exact⟨⟨d,hd,w5⟩,aIm hl⟩
    cases h
  cases h
def sa:∀ {K' K:Kd},K'.map (λp=>zI K p.1)=K'.map (λp=>some p.2)->SubK K' K
 | [],_,_=>trivial
 | (t,d)::r,K,h=>by
  simp only[jS,List.cons.injEq] at h;exact⟨⟨d,h.1,w5⟩,sa h.2⟩
def snF:List Bool->Bool->Option (List Bool)
 | [],b=>some [b]
 | x::r,b=>match snF r b with
  | some l=>some (x::l)
  | none=>none
def zer:∀ {p q:List Bool} {b:Bool},snF p b=some q->p++[b]=q
 | [],_,_,h=>by injection h
 | x::r,q,b,h=>by
  unfold snF at h;split at h
  · rename_i l hl;injection h with h;rw[<-h,jX,zer hl]
  cases h
def zgH (K:Kd):Op->Option D
 | .move x=>opD K x
 | .assign x=>opD K x
 | .extract x n=>match opD K x with
  | some (.tup ds)=>nth ds n
  | _=>none
 | .pick c x y=>match opD K c with
  | some (.v (.bool true))=>opD K x
  | some (.v (.bool false))=>opD K y
  | _=>none
 | .unOp .not _ x=>match opD K x with
  | some (.v (.bool true))=>some (.v (.bool false))
  | some (.v (.bool false))=>some (.v (.bool true))
  | _=>none
 | .nilCheck x=>match opD K x with
  | some (.v (.pointer (some a)))=>some (.v (.pointer (some a)))
  | some (.el X o)=>some (.el X o)
  | _=>none
 | _=>none
def aOb {P:Program} {ty:TypeId} {K:Kd} {H:List Hp} {op:Op} {d:D} (h:zgH K op=some d):Pu P op ty K H d:=by
 unfold zgH at h;split at h
 · exact zb h
 · exact zeB h
 · split at h
   · rename_i hx;exact zaT hx h
   cases h
 · split at h
   · rename_i hc;exact zcJ hc h
   · rename_i hc;exact zaY hc h
   cases h
 · split at h
   · rename_i hx;injection h with h;subst h;exact zed (q:=true) hx
   · rename_i hx;injection h with h;subst h;exact zed (q:=false) hx
   cases h
 · split at h
   · rename_i hx;injection h with h;subst h;exact fK hx
   · rename_i hx;injection h with h;subst h;exact pH hx
   cases h
 cases h
def oneC (N:Nat) (t:Tmp):Option D->Option (Tmp×D)
 | some d=>bif Nat.blt t N then some (t,d) else none
 | none=>none
def aWh (K:Kd) (want:Bool) (op:Op):Option D->Option D
 | some (.v u)=>match nb u,want with
  | some true,true=>zgH K op
  | some false,false=>zgH K op
  | some true,false=>some (.v undef)
  | some false,true=>some (.v undef)
  | none,_=>some (.v undef)
 | _=>none
def oneD (ops:List Oper) (i N:Nat) (K:Kd):Option (Tmp×D):=
 match opAt ops i with
 | some (some t,op,_,none)=>oneC N t (zgH K op)
 | some (some t,op,_,some (j,want))=>match zW ops j with
  | some s=>bif Nat.blt s N then oneC N t (aWh K want op (zI K s)) else none
  | none=>none
 | _=>none
def opP (ops:List Oper) (i N:Nat):Option (Tmp×Op×TypeId):=match opAt ops i with
 | some (some t,op,ty,none)=>bif Nat.blt t N then some (t,op,ty) else none
 | _=>none
def opE (ops:List Oper) (i N:Nat):Option (Option Tmp×Op×TypeId):=match opAt ops i with
 | some (t,op,ty,none)=>bif dok N t then some (t,op,ty) else none
 | _=>none
def gdF (ops:List Oper) (N:Nat) (K:Kd) (j:Nat) (want:Bool):Bool:=match zW ops j with
 | some s=>match zI K s with
  | some (.v (.bool b))=>Nat.blt s N&&(b==want)
  | _=>false
 | none=>false
def opG (ops:List Oper) (i N:Nat) (K:Kd):Option (Option Tmp×Op×TypeId):=match opAt ops i with
 | some (t,op,ty,some (j,want))=>match dok N t,gdF ops N K j want with
  | true,true=>some (t,op,ty)
  | _,_=>none
 | _=>none
section
variable {P:Program} {N:Nat} {C:Ctx} {K:Kd} {H:List Hp} {ops:List Oper} {i:Nat} {Kt:Env->World->(Nat->Prop)->Prop}
def nb_b {u:Value} {b:Bool} (h:nb u=some b):u=.bool b:=by cases u<;>simp[nb] at h;rw[h]
def aPv {t:Tmp} {op:Op} {ty:TypeId} (h:opP ops i N=some (t,op,ty)):opAt ops i=some (some t,op,ty,none)/\Nat.blt t N=true:=by
 unfold opP at h;split at h
 · rename_i t' op' ty' ho;cases hb:Nat.blt t' N
   · simp[hb] at h
   simp[hb] at h;obtain ⟨h1,h2,h3⟩:=h;subst h1;subst h2;subst h3;exact⟨ho,hb⟩
 cases h
def aP1 {t:Option Tmp} {op:Op} {ty:TypeId} (h:opE ops i N=some (t,op,ty)):opAt ops i=some (t,op,ty,none)/\dok N t=true:=by
 unfold opE at h;split at h
 · rename_i t' op' ty' ho;cases hb:dok N t'
   · simp[hb] at h
   simp[hb] at h;obtain ⟨h1,h2,h3⟩:=h;subst h1;subst h2;subst h3;exact⟨ho,hb⟩
 cases h
def aVc {t:Option Tmp} {op:Op} {ty:TypeId} (h:opG ops i N K=some (t,op,ty)):∃ j want s,opAt ops i=some (t,op,ty,some (j,want))/\dok N t=true/\zW ops j=some s/\Nat.blt s N=true/\zI K s=some (.v (.bool want)):=by
 unfold opG at h;split at h
 · rename_i t' op' ty' j want ho;split at h
   · rename_i h1 h2;injection h with h;injection h with e1 h;injection h with e2 e3;subst e1;subst e2;subst e3;unfold gdF at h2;split at h2
     · rename_i s hs;split at h2
       · rename_i b hb;simp only[cU,beq_iff_eq] at h2;obtain ⟨h3,h4⟩:=h2;subst h4;exact⟨j,b,s,ho,h1,hs,h3,hb⟩
       cases h2
     cases h2
   cases h
 cases h
def oP {t:Tmp} {op:Op} {ty:TypeId} {d:D} (ho:opP ops i N=some (t,op,ty)) (h:Pu P op ty K H d) (k:OpsD P N C ops (i+1) ((t,d)::K) H Kt):OpsD P N C ops i K H Kt:=zgQ (aPv ho).1 (aPv ho).2 h k
def oE {t:Option Tmp} {op:Op} {ty:TypeId} {R:D->List Hp->Prop} (ho:opE ops i N=some (t,op,ty)) (h:Ef P op ty K H R) (k:∀ d H',R d H'->OpsD P N C ops (i+1) (upK K t d) H' Kt):OpsD P N C ops i K H Kt:=aAc (aP1 ho).1 (aP1 ho).2 h k
def oF {t:Option Tmp} {op:Op} {ty:TypeId} {R:D->List Hp->Prop} (ho:opG ops i N K=some (t,op,ty)) (h:Ef P op ty K H R) (k:∀ d H',R d H'->OpsD P N C ops (i+1) (upK K t d) H' Kt):OpsD P N C ops i K H Kt:=by
 obtain ⟨j,want,s,h1,h2,h3,h4,h5⟩:=aVc ho;exact aEq h1 h2 h3 h4 h5 h k
def oG {t:Tmp} {op:Op} {ty:TypeId} {d:D} (ho:opG ops i N K=some (some t,op,ty)) (h:Pu P op ty K H d) (k:OpsD P N C ops (i+1) ((t,d)::K) H Kt):OpsD P N C ops i K H Kt:=
 oF ho h.ef λ_ _ ⟨e1,e2⟩=>by subst e1;subst e2;exact k
def acs {L:List Hp}:∀ {ds:List D},ArgCs L ds ds
 | []=>.nil
 | _::_=>.cons mJ acs
end
section
variable {P:Program} {N:Nat} {C:Ctx} {K:Kd} {H:List Hp} {ops:List Oper} {i:Nat} {Kt:Env->World->(Nat->Prop)->Prop} {Q:zbB}
end
def cS {b:Ba} (h:b.size<=maxLen:=by first | decide | (unfold maxLen;omega)):Cv (.v (.string b)) (.s b):=Cv.str h
def cB {a b:Bool} (h:a=b):Cv (.v (.bool a)) (.v (.bool b)):=w6 (aG (λb=>D.v (.bool b)) h)
abbrev FaP (P:Program) (t:TypeId) (f k:Nat):Prop:=∀ (b o:Nat) w,(Instr.fieldAt t (.pointer (some ⟨b,o,none⟩)) f).run P w=.ok (.pointer (some ⟨b,o+k,none⟩)) w
abbrev IzP (P:Program) (t:TypeId) (z:Value) (n b:Nat):Prop:=∃ i,P.info? t=some i/\i.zero=some z/\i.size=n/\i.bytes=b
abbrev BdP (P:Program) (fs:Array Field) (l:List (Nat×Nat)):Prop:=∀ w,((fs.mapM λf=>do pure (f.offset,<-Go.sizeOf f.type):Sem (Array (Nat×Nat)))).run P w=.ok l.toArray w
section
variable {P:Program} {N:Nat} {C:Ctx} {K:Kd} {H:List Hp} {Q:zbB} {c:Code} {p pa pb:List Bool}
def cnF (c:Code) (p:List Bool) (K:Kd):Option (List Bool×List Bool×D):=match zgy (cd c p),snF p false,snF p true with
 | some x,some a,some b=>match opD K x with
  | some d=>some (a,b,d)
  | none=>none
 | _,_,_=>none
def jC {t:Bool} (h:cnF c p K=some (pa,pb,.v (.bool t))) (ht:t=true->JD P N C (cd c pa) K H Q) (hf:t=false->JD P N C (cd c pb) K H Q):JD P N C (cd c p) K H Q:=by
 unfold cnF at h;split at h
 · rename_i x a b h1 h2 h3;split at h
   · rename_i d hd;injection h with h;injection h with e1 h;injection h with e2 e3;subst e1;subst e2;subst e3;exact yO _ _ h1 (zer h2) (zer h3) hd ht hf
   cases h
 cases h
def jD {φ:Prop} {_:Decidable φ} (h:cnF c p K=some (pa,pb,.v (.bool (decide φ)))) (ht:φ->JD P N C (cd c pa) K H Q) (hf:¬φ->JD P N C (cd c pb) K H Q):JD P N C (cd c p) K H Q:=
 jC h (λe=>ht (aF e)) (λe=>hf (aC e))
def lpF (c:Code) (p:List Bool):Option (List Bool):=match aBr (cd c p),snF p false with
 | true,some a=>some a
 | _,_=>none
def aOn (h:lpF c p=some pa):aBr (cd c p)=true/\p++[false]=pa:=by
 unfold lpF at h;split at h
 · rename_i h1 h2;injection h with h;subst h;exact⟨h1,zer h2⟩
 cases h
end
def bA (a b:Bool):((a&&b)=true)=(a=true/\b=true):=cU a b
def bB (a b:Bool):((a||b)=true)=(a=true\/b=true):=jJ a b
def bC (b:Bool):((!b)=true)=(b=false):=uA b
def bD (b:Bool):((!b)=false)=(b=true):=Bool.not_eq_false' b
def bE (a b:Bool):((a&&b)=false)=(a=false\/b=false):=by cases a<;>cases b<;>simp
def bF (a b:Bool):((a||b)=false)=(a=false/\b=false):=by cases a<;>cases b<;>simp
def bG (p:Prop) [Decidable p]:(decide p=true)=p:=aI
def bH (p:Prop) [Decidable p]:(decide p=false)=¬p:=by simp
def bI (p:Prop) [Decidable p]:(¬¬p)=p:=by simp
def bJ {α:Sort _} (a b:α):(a≠b)=¬a=b:=rfl
def bX:(∀ a b:Bool,((a&&b)=true)=(a=true/\b=true))/\(∀ a b:Bool,((a||b)=true)=(a=true\/b=true))/\(∀ a:Bool,((!a)=true)=(a=false))/\(∀ a:Bool,((!a)=false)=(a=true))/\(∀ a b:Bool,((a&&b)=false)=(a=false\/b=false))/\(∀ a b:Bool,((a||b)=false)=(a=false/\b=false))/\(∀ (p:Prop) [Decidable p],(decide p=true)=p)/\(∀ (p:Prop) [Decidable p],(decide p=false)=¬p)/\(∀ (p:Prop) [Decidable p],(¬ ¬p)=p):=
 ⟨bA,bB,bC,bD,bE,bF,bG,bH,bI⟩
def la {α:Type} {a b:List α}:(a++b).length=a.length+b.length:=cO
def lc {α:Type} {a:α} {b:List α}:(a::b).length=b.length+1:=dH
def ln {α:Type}:([]:List α).length=0:=uJ
def lm {α β:Type} {a:List α} {f:α->β}:(a.map f).length=a.length:=cN f
def lt' {α:Type} {n:Nat} {a:List α}:(a.take n).length=min n a.length:=cY
def ld {α:Type} {n:Nat} {a:List α}:(a.drop n).length=a.length-n:=c7
def ls {α:Type} {n:Nat} {a:List α} {x:α}:(a.set n x).length=a.length:=uN
def lr {α:Type} {n:Nat} {x:α}:(List.replicate n x).length=n:=uC
def O {α:Sort _} {a:α}:a=a:=rfl
def ga {L:List Hp} {a b:List D} {d:D} (h:ArgCs L a b):ArgCs L (d::a) (d::b):=.cons mJ h
def gc {a b:List D} {d:D} (h:CvL a b):CvL (d::a) (d::b):=.cons w5 h
abbrev cC:D:=.v (.string ByteArray.empty)
abbrev cD:Value:=.agg #[(.int .i64 0),(.int .i64 0),(.string ByteArray.empty)]
abbrev cE:Value:=.agg #[(.string ByteArray.empty),(.string ByteArray.empty),(.int .i64 0),(.int .i64 0),(.slice none 0 0),(.slice none 0 0),(.slice none 0 0),(.int .i64 0),(.int .i64 0),(.int .i64 0)]
abbrev cF:Value:=.agg #[(.int .i64 0),(.int .i64 0)]
abbrev cG:Value:=.agg #[(.slice none 0 0),(.int .i64 0)]
abbrev cH:Value:=.agg #[(.int .i64 0)]
abbrev cI:Value:=.agg #[(.slice none 0 0),(.slice none 0 0)]
abbrev cJ:Value:=.agg #[.nilFunc]
abbrev cK:D:=.agg [cC,cC,dI 0,dI 0,dZ,dZ,dZ,dI 0,dI 0,dI 0]
abbrev cM:D:=.agg [dB false]
abbrev aK:=@Tryz.runUnderlying32
abbrev aL:=@Tryz.sizeOf50
abbrev aM:=@Tryz.runUnderlying40
abbrev aN:=@Tryz.runUnderlying9
abbrev aO:=@Tryz.runUnderlying27
abbrev aP:=@Tryz.sizeOf107
abbrev aQ:=@Tryz.runUnderlying78
abbrev aR:=@Tryz.runUnderlying107
abbrev aS:=@Tryz.zeroValue107
abbrev aT:=@Tryz.runUnderlying147
abbrev aU:=@Tryz.sizeOf48
abbrev aV:=@Tryz.sizeOf70
abbrev aW:=@Tryz.runUnderlying178
abbrev aX:=@Tryz.runUnderlying68
abbrev aY:=@Tryz.sizeOf57
abbrev aZ:=@Tryz.isAgg107
abbrev bK:=@Tryz.runUnderlying45
abbrev bL:=@Tryz.isAgg50
abbrev bM:=@Tryz.runUnderlying55
abbrev bO:=@Tryz.runUnderlying28
abbrev bP:=@Tryz.runUnderlying149
abbrev bQ:=@Tryz.zeroValue50
abbrev bR:=@Tryz.sizeOf32
abbrev bS:=@Tryz.isAgg57
abbrev bT:=@Tryz.isAgg9
abbrev bU:=@Tryz.isAgg3
abbrev bV:=@Tryz.zeroValue57
abbrev bW:=@Tryz.zeroValue9
abbrev bY:=@Tryz.sizeOf3
abbrev bZ:=@Tryz.zeroValue75
abbrev eC:=@Tryz.runUnderlying57
abbrev eD:=@Tryz.runUnderlying50
abbrev eE:=@Tryz.sizeOf9
abbrev eF:=@Tryz.zeroValue70
abbrev eG:=@Tryz.sizeOf75
abbrev eH:=@Tryz.zeroValue3
abbrev eI:=@Tryz.runUnderlying75
abbrev eJ:=@Tryz.runUnderlying54
abbrev eK:=@Tryz.runUnderlying237
abbrev eM:=@Tryz.runUnderlying70
end Lp
