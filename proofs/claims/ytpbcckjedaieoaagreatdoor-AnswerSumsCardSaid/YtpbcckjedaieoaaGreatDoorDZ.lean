import Derived.Test.YtpbcckjedaieoaaGreatDoorRows
import Derived.ProofKit
import Derived.LaidMore
import Derived.OpenShut
import Derived.Stop.Joined
import Derived.Test.YtpbcckjedaieoaaGreatDoorProg
import Derived.Test.YtpbcckjedaieoaaGreatDoorPLexS
set_option linter.unusedSimpArgs false
set_option linter.unusedVariables false
namespace Lp
open Go
def FitT (x:TokD):Prop:=bl8 (zdu x)≠[]/\runL isB (bl8 (zdu x))=0/\zt (bl8 (zdu x))=(⟨x.k,0,x.t⟩,(zdu x).size)
theorem run_word:∀ (n:Nat) (s:ByteArray) (p:Nat),s.size-p=n->zdP (zaB s p)=true->runL isLD (bts s p)=s.size-p:=by
 intro n
 induction n using Nat.strongRecOn with
 | _ n ih=>
  intro s p hp hw;rcases dH p s.size with h | h
  · rw[zav h,wordR_cons,c8,decide_eq_true_eq] at hw;have hk:isLD ((decL (bts s p)).1:Int)=true:=by
     rw[<-zcB];show inK [1,2] _=true;unfold inK;rcases hw.1 with h | h<;>simp[h]
    have h1:=zL s p;have h2:=zai s p h;rw[zdL (zeH h) hk,zc1,<-zcz,ih _ (by omega) s _ rfl hw.2];omega
  rw[zff h,zep];omega
theorem name_first {s:ByteArray} (h:zbu s=true):0<s.size/\zJ ((decR s 0:Nat):Int)=1/\runL isLD (bl8 s)=s.size:=by
 have h':=h;unfold zbu at h';rw[zcb] at h';simp only[c8,decide_eq_true_eq] at h';have hz:0<s.size:=by
  rcases dH 0 s.size with hz | hz
  · exact hz
  have e:zS s=[]:=by show zaB s 0=[];exact zaH hz
  rw[e] at h';simp at h'
 refine⟨hz,?_,?_⟩
 · have e:zS s=((decR s 0:Nat):Int)::zaB s (0+decW s 0):=(by show zaB s 0=_;exact zav hz);have:=h'.1.2;rw[e] at this;exact this
 have:=run_word _ s 0 rfl h'.2;exact this
theorem good_word {s:ByteArray} (h:zbu s=true):FitT ⟨1,0,s⟩:=by
 obtain ⟨h1,h2,h3⟩:=name_first h;have ej:zdu ⟨1,0,s⟩=s:=joinT_o (show ¬(1:Int)=3 by decide) (show ¬(1:Int)=4 by decide);have hb:isB ((decL (bl8 s)).1:Int)=false:=by
  rw[dec0];show inK [3] _=false;unfold inK;simp[h2]
 unfold FitT;rw[ej];refine⟨bl8_ne h1,zeX hb,?_⟩;rw[firstT_w (by rw[dec0];exact h2)];have e:mkB ((bl8 s).take s.size)=s:=by rw[<-zaj,d7,zfL]
 unfold zb8;rw[h3,e,if_pos h]
theorem digL_13 {v:Nat} (h:v<=1000000000000):(digL v).length<=13:=digL_lt 12 v (wA h (by decide))
theorem numD_0 (v:Nat):numD 0 v=digL v:=rfl
theorem good_num {v:Nat} (h:v<=1000000000000):FitT ⟨2,0,digB v⟩:=by
 have h13:=digL_13 h;obtain ⟨h1,h2⟩:=num_first (zdg 0 v) (numD_ne 0 v) [];have hr:=zeo isD_2 (numD 0 v) [] (zdg 0 v);have hr2:=zeo isLD_2 (numD 0 v) [] (zdg 0 v);rw[zep,uP] at hr hr2;rw[j5] at h1 h2 hr hr2;have ej:zdu ⟨2,0,digB v⟩=digB v:=joinT_o (show ¬(2:Int)=3 by decide) (show ¬(2:Int)=4 by decide);have eb:bl8 (digB v)=numD 0 v:=zb4 _;unfold FitT;rw[ej,eb];refine⟨numD_ne 0 v,h2,?_⟩;have hs:(digB v).size=(numD 0 v).length:=zad _;rw[h1,hs];unfold numT;rw[hr,hr2,d7,digV_eq,numD_val,if_neg (by rw[numD_0];omega),if_pos rfl]
theorem good_dur {v:Nat} (h:v<=1000000000):FitT ⟨4,0,digB v⟩:=by
 have h13:=digL_13 (v:=v) (by omega);obtain ⟨h1,h2⟩:=num_first (zdg 0 v) (numD_ne 0 v) [115];have hr:=zeo isD_2 (numD 0 v) [115] (zdg 0 v);have hr2:=zeo isLD_2 (numD 0 v) [115] (zdg 0 v);have e0:runL isD [115]=0:=zeX (by decide);rw[e0,uP] at hr;have e1:runL isLD [115]=1:=by
  rw[zdL (by simp) (by decide)];show 1+runL isLD []=1;rw[zep]
 rw[e1] at hr2;have ej:zdu ⟨4,0,digB v⟩=digB v++(⟨#[115]⟩:ByteArray):=joinT_4 (show ¬(4:Int)=3 by decide) rfl;have eb:bl8 (digB v++(⟨#[115]⟩:ByteArray))=numD 0 v++[115]:=by
  rw[bl8_add,show bl8 (digB v)=numD 0 v from zb4 _]
 have hs:(digB v++(⟨#[115]⟩:ByteArray)).size=(numD 0 v).length+1:=by
  rw[<-zaj,eb,cX];rfl
 unfold FitT;rw[ej,eb,hs];refine⟨by simp[numD_ne],h2,?_⟩;have e2:((numD 0 v++[115]).take ((numD 0 v).length+1)).drop (numD 0 v).length=[115]:=by
  rw[dE (by simp),wB]
 have es:secB (mkB [115])=1:=by decide
 rw[h1];unfold numT;rw[hr,hr2,List.take_left,digV_eq,numD_val,if_neg (by rw[numD_0];omega),if_neg (by omega),e2,es,if_neg (by omega),u6]
theorem good_str (s:ByteArray):FitT ⟨3,0,s⟩:=by
 have h1:=strT_quote s [];have h2:=quote_blank s [];rw[j5] at h1 h2;have ej:zdu ⟨3,0,s⟩=zaJ s:=joinT_3 rfl;unfold FitT;rw[ej,quote_bl8,show (zaJ s).size=(zaI s).length from zad _];exact⟨by unfold zaI;simp,h2,h1⟩
theorem sign_facts:∀ x∈zbK,bl8 x≠[]/\¬zJ ((decL (bl8 x)).1:Int)=1/\¬zJ ((decL (bl8 x)).1:Int)=2/\¬(decL (bl8 x)).1=34/\isB ((decL (bl8 x)).1:Int)=false/\zcn (bl8 x)=(⟨5,0,x⟩,x.size):=by decide
theorem good_sign {x:ByteArray} (hx:x∈zbK):FitT ⟨5,0,x⟩:=by
 obtain ⟨h1,h2,h3,h4,h5,h6⟩:=sign_facts x hx;have ej:zdu ⟨5,0,x⟩=x:=joinT_o (show ¬(5:Int)=3 by decide) (show ¬(5:Int)=4 by decide);unfold FitT;rw[ej];exact⟨h1,zeX h5,by rw[firstT_s h2 h3 h4,h6]⟩
theorem signIn_mem:∀ (xs:List ByteArray) (l:List UInt8),(zaR xs l).2≠0->∃ x∈xs,(zaR xs l).1=⟨5,0,x⟩
 | [],_,h=>absurd rfl h
 | x::xs,l,h=>by
  unfold zaR at h ⊢;split
  · exact⟨x,c6,rfl⟩
  rename_i h2;rw[if_neg h2] at h;obtain ⟨y,hy,e⟩:=signIn_mem xs l h;exact⟨y,dC _ hy,e⟩
theorem sign_small:∀ x∈zbK,x.size<=2:=by decide
theorem first_good {l:List UInt8} (h:(zt l).2≠0):FitT (zt l).1/\(zt l).1.t.size<=l.length+20:=by
 unfold zt at h ⊢;split
 · rename_i h1;rw[if_pos h1] at h;unfold zb8 at h ⊢;split
   · rename_i h2;refine⟨good_word h2,?_⟩;show (mkB _).size<=_;rw[zad,dG];omega
   rename_i h2;rw[if_neg h2] at h;exact absurd rfl h
 rename_i h1;rw[if_neg h1] at h;split
 · rename_i h2;rw[if_pos h2] at h;unfold numT at h ⊢;split
   · rename_i h3;rw[if_pos h3] at h;exact absurd rfl h
   rename_i h3;rw[if_neg h3] at h;split
   · refine⟨good_num (by omega),?_⟩;have:=digB_20 (n:=digV (l.take (runL isD l))) (by omega);show (digB _).size<=_;omega
   rename_i h4;rw[if_neg h4] at h;split
   · rename_i h5;rw[if_pos h5] at h;exact absurd rfl h
   rename_i h5;obtain ⟨c,hc⟩:∃ c,secB (mkB ((l.take (runL isLD l)).drop (runL isD l)))=c:=⟨_,rfl⟩;rw[hc] at h5 ⊢;have hm:digV (l.take (runL isD l))*c<=1000000000:=(vL (by omega)).1 (by omega);refine⟨good_dur hm,?_⟩;have:=digB_20 (n:=digV (l.take (runL isD l))*c) (by omega);show (digB _).size<=_;omega
 rename_i h2;rw[if_neg h2] at h;split
 · rename_i h3;rw[if_pos h3] at h;cases e:zae true l with
   | none=>unfold strT at h;rw[e] at h;exact absurd rfl h
   | some i=>
    have hi:=qscan_lt _ l true i rfl e;cases e2:unqB (mkB (l.take (i+1))) with
    | none=>
     unfold strT at h;rw[e] at h;have h:(match unqB (mkB (l.take (i+1))) with | none=>(zbP,0) | some t=>((⟨3,0,t⟩:TokD),i+1)).2≠0:=h;rw[e2] at h;exact absurd rfl h
    | some t=>
     have e3:strT l=(⟨3,0,t⟩,i+1):=by
      unfold strT;rw[e];show (match unqB (mkB (l.take (i+1))) with | none=>(zbP,0) | some t=>((⟨3,0,t⟩:TokD),i+1))=_;rw[e2]
     rw[e3];refine⟨good_str t,?_⟩;show t.size<=_;have hq:zaJ t=mkB (l.take (i+1)):=by
      unfold unqB at e2;split at e2
      · rename_i hx;injection e2 with e2;rw[<-e2];exact hx.choose_spec
      cases e2
     have h4:=(quoteB_4 t).2;rw[hq,zad,dG] at h4;omega
 rename_i h3;rw[if_neg h3] at h;obtain ⟨x,hx,e⟩:=signIn_mem zbK l h;have e:(zcn l).1=⟨5,0,x⟩:=e;rw[e];refine⟨good_sign hx,?_⟩;have:=sign_small x hx;show x.size<=_;omega
theorem good_put {x:TokD} (a:Nat) (h:FitT x):FitT (x.put a):=h
theorem words_good:∀ (n:Nat) (l:List UInt8) (a:Nat) (ts:List TokD),l.length=n->zaN l a=some ts->∀ x∈ts,FitT x/\x.t.size<=l.length+20:=by
 intro n
 induction n using Nat.strongRecOn with
 | _ n ih=>
  intro l a ts hn h;have hrl:=zbO isB l;generalize hm:l.drop (runL isB l)=m at*;have hml:m.length=l.length-runL isB l:=by rw[<-hm,dL]
  unfold zaN at h;rw[hm] at h;by_cases hne:m=[]
  · subst hne;rw[zbd] at h;injection h with h;subst h;exact λx hx=>absurd hx (by simp)
  by_cases h0:(zt m).2=0
  · rw[zcG hne h0] at h;cases h
  have hpos:=jE.2 hne;have hfl:=firstT_le (l:=m);rw[zcO hne h0 (by omega)] at h;cases e:zaN (m.drop (zt m).2) (a+runL isB l+(zt m).2) with
  | none=>rw[e] at h;cases h
  | some t2=>
   rw[e] at h;have h:(zt m).1.put (a+runL isB l)::t2=ts:=(by injection h);have hi:=ih (m.drop (zt m).2).length (by rw[dL];omega) _ _ t2 rfl e;rw[dL] at hi;subst h;intro x hx;rcases dO.1 hx with rfl | hx
   · obtain ⟨g1,g2⟩:=first_good h0;exact⟨good_put _ g1,by show (zt m).1.t.size<=_;omega⟩
   obtain ⟨g1,g2⟩:=hi x hx;exact⟨g1,by omega⟩
theorem lex_sizes {s:ByteArray} (hs:s.size<=600):∀ x∈lexL s,x.t.size<=1000:=λx hx=>by
 by_cases h:lexE s=0
 · have:=(words_good _ (bl8 s) 0 _ rfl (lexE_0 h).2 x hx).2;rw[zaj] at this;omega
 rw[lex_none h] at hx;exact absurd hx (by simp)
structure TkOk (x:TokD):Prop where
 z:x.t.size<=1000
 d:x.k=2\/x.k=4->∃ v:Nat,v<=1000000000000/\x.t=digB v
def TOk (l:List TokD):Prop:=∀ x∈l,TkOk x
theorem TOk.suf {l m:List TokD} (h:TOk l) (k:m <:+l):TOk m:=λx hx=>h x (k.subset hx)
theorem Stp.out {c:Int} {s t:Rd} (h:Stp c s t) (hT:TOk s.l):t.l.length<=s.l.length/\t.n+2*(t.l.length:Int)<=s.n+2*(s.l.length:Int)+c/\s.n<=t.n/\TOk t.l:=⟨h.len,h.w,h.n,hT.suf h.l⟩
theorem pk_z {s:Rd} (hT:TOk s.l):s.pk.t.size<=1000:=by
 unfold Rd.pk;cases e:s.l with
 | nil=>exact c7 _
 | cons x l=>exact(hT x (e ▸ c6)).z
section
variable {s s':Rd} {k:Int} {ts:List ByteArray} {t a b:ByteArray} {q:Bool}
theorem zdl (e:(t,q,s')=s.take k ts):Stp 0 s s':=by have h:=zao s k ts;rw[<-e] at h;exact h
theorem zdk (e:(t,q,s')=s.take k ts) (hT:TOk s.l):t.size<=1000:=by
 have h:t=(s.take k ts).1:=congrArg Prod.fst e;rw[h];unfold Rd.take;split
 · exact c7 _
 exact pk_z hT
theorem take_y (e:(t,q,s')=s.take k ts) (hk:k≠0) (hq:q=true):s'.l.length+1=s.l.length/\Stp (-2) s s'/\s.b=false/\s'.b=false/\s.is k ts=true:=by
 have h:=take_got (s:=s) (k:=k) (ts:=ts) hk (by rw[<-e];exact hq);rw[<-e] at h;exact h
theorem zfB (e:(t,s')=s.any k):Stp 0 s s':=by have h:=zdH s k;rw[<-e] at h;exact h
theorem zfA (e:(t,s')=s.any k) (hT:TOk s.l):t.size<=1000:=by
 have h:t=(s.any k).1:=congrArg Prod.fst e;rw[h];unfold Rd.any;split
 · exact c7 _
 exact pk_z hT
theorem any_y (e:(t,s')=s.any k) (hk:k≠0) (hb:s.b=false) (h:s.pk.k=k):s'.l.length+1=s.l.length/\Stp (-2) s s'/\t=s.pk.t/\s'.b=false:=by
 have h:=any_got hk hb h;rw[<-e] at h;exact h
theorem zbL (e:s'=s.must t):Stp 0 s s':=by rw[e];exact zar s t
theorem names_e {l:List ByteArray} (e:(l,s')=s.names):Stp 0 s s':=by have h:=names_stp s;rw[<-e] at h;exact h
theorem mode_e {m:Int} {l:List ByteArray} (e:(m,l,s')=s.mode a b):Stp 0 s s':=by have h:=mode_stp s a b;rw[<-e] at h;exact h
theorem number_e {v:Int} (e:(v,s')=s.number k):Stp 0 s s':=by have h:=zb1 s k;rw[<-e] at h;exact h
end
theorem digV_snoc (l:List UInt8) (b:UInt8):digV (l++[b])=10*digV l+(b.toNat-48):=by unfold digV;rw[uZ];rfl
theorem digV_digL:∀ n:Nat,digV (digL n)=n:=by
 intro n
 induction n using Nat.strongRecOn with
 | _ n ih=>
  unfold digL;split
  · show 10*0+((UInt8.ofNat (48+n)).toNat-48)=n;rw[on8 (by omega)];omega
  rw[digV_snoc,ih (n / 10) (by omega),on8 (by omega)];omega
theorem digL_digs:∀ n:Nat,∀ b∈digL n,48<=b.toNat/\b.toNat<=57:=by
 intro n
 induction n using Nat.strongRecOn with
 | _ n ih=>
  intro b hb;unfold digL at hb;split at hb
  · rw[dW.1 hb,on8 (by omega)];omega
  rcases jK.1 hb with h | h
  · exact ih (n / 10) (by omega) b h
  rw[dW.1 h,on8 (by omega)];omega
theorem digL_ne (n:Nat):digL n≠[]:=by unfold digL;split<;>simp
theorem bl8_dig (n:Nat):bl8 (digB n)=digL n:=zb4 _
theorem numV_dig (n:Nat):numV (digB n)=(n:Int):=by unfold numV;rw[bl8_dig,digV_digL]
theorem numV_nil:numV ByteArray.empty=0:=rfl
theorem any_num {s s':Rd} {k:Int} {t:ByteArray} (e:(t,s')=s.any k) (hk:k=2\/k=4) (hT:TOk s.l):t=ByteArray.empty\/∃ v:Nat,v<=1000000000000/\t=digB v:=by
 have h:t=(s.any k).1:=congrArg Prod.fst e;unfold Rd.any at h;split at h
 · exact .inl h
 rename_i hc;have hk':s.pk.k=k:=Decidable.byContradiction λh=>hc (.inr h)
 refine .inr ?_;unfold Rd.pk at h hk';cases el:s.l with
 | nil=>rw[el] at hk';exact absurd hk' (by show ¬(0:Int)=k;omega)
 | cons x l=>
  rw[el] at h hk';have h:t=x.t:=h;have hk':x.k=k:=hk';obtain ⟨v,h1,h2⟩:=(hT x (el ▸ c6)).d (by omega);exact⟨v,h1,h.trans h2⟩
theorem number_bd {s s':Rd} {k v:Int} (e:(v,s')=s.number k) (hk:k=2\/k=4) (hT:TOk s.l):0<=v/\v<=1000000000000:=by
 have h:v=numV (s.any k).1:=congrArg Prod.fst e;rcases any_num (s:=s) (k:=k) (t:=(s.any k).1) (s':=(s.any k).2) rfl hk hT with h1 | ⟨n,h1,h2⟩
 · rw[h,h1,numV_nil];omega
 rw[h,h2,numV_dig];omega
mutual
def Nd.cnt:Nd->Nat
 | .mk _ _ _ _ _ _ kids=>Nd.cntL kids+1
def Nd.cntL:List Nd->Nat
 | []=>0
 | x::r=>Nd.cnt x+Nd.cntL r
end
section
variable (rm:List MatD->Bool)
end
end Lp
namespace Lp
open Go
theorem words_all (p:TokD->Prop) (hp:∀ (l:List UInt8) (a:Nat),(zt l).2≠0->p ((zt l).1.put a)):∀ (n:Nat) (l:List UInt8) (a:Nat) (ts:List TokD),l.length=n->zaN l a=some ts->∀ x∈ts,p x:=by
 intro n
 induction n using Nat.strongRecOn with
 | _ n ih=>
  intro l a ts hn h;have hrl:=zbO isB l;generalize hm:l.drop (runL isB l)=m at*;have hml:m.length=l.length-runL isB l:=by rw[<-hm,dL]
  unfold zaN at h;rw[hm] at h;by_cases hne:m=[]
  · subst hne;rw[zbd] at h;injection h with h;subst h;exact λx hx=>absurd hx (by simp)
  by_cases h0:(zt m).2=0
  · rw[zcG hne h0] at h;cases h
  have hpos:=jE.2 hne;have hfl:=firstT_le (l:=m);rw[zcO hne h0 (by omega)] at h;cases e:zaN (m.drop (zt m).2) (a+runL isB l+(zt m).2) with
  | none=>rw[e] at h;cases h
  | some t2=>
   rw[e] at h;have h:(zt m).1.put (a+runL isB l)::t2=ts:=(by injection h);have hi:=ih (m.drop (zt m).2).length (by rw[dL];omega) _ _ t2 rfl e;subst h;intro x hx;rcases dO.1 hx with rfl | hx
   · exact hp _ _ h0
   exact hi x hx
theorem first_dig {l:List UInt8} (h:(zt l).2≠0):(zt l).1.k=2\/(zt l).1.k=4->∃ v:Nat,v<=1000000000000/\(zt l).1.t=digB v:=by
 unfold zt at h ⊢;split
 · rename_i h1;rw[if_pos h1] at h;unfold zb8 at h ⊢;split
   · intro k;rcases k with k | k<;>exact absurd k (by show ¬(1:Int)=_;decide)
   rename_i h2;rw[if_neg h2] at h;exact absurd rfl h
 rename_i h1;rw[if_neg h1] at h;split
 · rename_i h2;rw[if_pos h2] at h;unfold numT at h ⊢;split
   · rename_i h3;rw[if_pos h3] at h;exact absurd rfl h
   rename_i h3;rw[if_neg h3] at h;split
   · exact λ_=>⟨_,by omega,rfl⟩
   rename_i h4;rw[if_neg h4] at h;split
   · rename_i h5;rw[if_pos h5] at h;exact absurd rfl h
   rename_i h5;obtain ⟨c,hc⟩:∃ c,secB (mkB ((l.take (runL isLD l)).drop (runL isD l)))=c:=⟨_,rfl⟩;rw[hc] at h5 ⊢;have hm:digV (l.take (runL isD l))*c<=1000000000:=(vL (by omega)).1 (by omega);exact λ_=>⟨_,by omega,rfl⟩
 rename_i h2;rw[if_neg h2] at h;split
 · rename_i h3;rw[if_pos h3] at h;cases e:zae true l with
   | none=>unfold strT at h;rw[e] at h;exact absurd rfl h
   | some i=>
    cases e2:unqB (mkB (l.take (i+1))) with
    | none=>
     unfold strT at h;rw[e] at h;have h:(match unqB (mkB (l.take (i+1))) with | none=>(zbP,0) | some t=>((⟨3,0,t⟩:TokD),i+1)).2≠0:=h;rw[e2] at h;exact absurd rfl h
    | some t=>
     have e3:strT l=(⟨3,0,t⟩,i+1):=by
      unfold strT;rw[e];show (match unqB (mkB (l.take (i+1))) with | none=>(zbP,0) | some t=>((⟨3,0,t⟩:TokD),i+1))=_;rw[e2]
     rw[e3];intro k;rcases k with k | k<;>exact absurd k (by show ¬(3:Int)=_;decide)
 rename_i h3;rw[if_neg h3] at h;obtain ⟨x,hx,e⟩:=signIn_mem zbK l h;have e:(zcn l).1=⟨5,0,x⟩:=e;rw[e];intro k;rcases k with k | k<;>exact absurd k (by show ¬(5:Int)=_;decide)
theorem lexL_tok (s:ByteArray):TOk (lexL s):=λx hx=>by
 by_cases hE:lexE s=0
 · obtain ⟨h1,h2⟩:=lexE_0 hE;refine⟨lex_sizes (by omega) x hx,?_⟩;exact words_all (λx=>x.k=2\/x.k=4->∃ v:Nat,v<=1000000000000/\x.t=digB v) (λl a h=>first_dig h) _ _ _ _ rfl h2 x hx
 rw[lex_none hE] at hx;exact absurd hx (by simp)
def zc2 (m:MatD):Bool:=zbu m.n&&decide (1<=m.op/\m.op<=4)&&(decide (m.op<3)||patR (zS m.v))
def rmD (ms:List MatD):Bool:=ms.all zc2&&decide (ms.length<=10)
def noQ:QryD:=⟨noNd,0,0,0⟩
noncomputable def zc7 (s:ByteArray):Int:=if lexE s=0 then(if (ze0 rmD (lexL s)).isSome=true then 0 else 2) else lexE s
noncomputable def zc6 (s:ByteArray):QryD:=if lexE s=0 then(ze0 rmD (lexL s)).getD noQ else noQ
end Lp
namespace Lp
open Go Go.RowKit Go.Proofs
abbrev HSyn (ev:Value):Hp:=.tab 1 #[ev]
theorem atoi_e (s:ByteArray) (ev es:Value) (hev:EvOk ev) (hes:EvOk es) (hd:s=ByteArray.empty\/∃ v:Nat,v<=1000000000000/\s=digB v):CD Tryz.prog 71 [HErr ev,HSyn es] [.s s] (λr H'=>∃ x,r=.tup [dI (numV s),x]/\H'=[HErr ev,HSyn es]):=
 cd_ext λw F vs hvs hok=>by
  obtain ⟨u,us,rfl,hu,hus⟩:=hvs;obtain ⟨hu,hm⟩:=hu;have hus:us=[]:=hus;subst hu;subst hus;rcases hd with rfl | ⟨n,hn,rfl⟩
  · obtain ⟨hF,T,fr,hh⟩:=hok _ (dC _ c6);have hcell:w.cell? ⟨1,0,none⟩=some es:=by
     unfold World.cell?;rw[hh];rfl
    refine(Any.strconv_Atoi_syntax wU ByteArray.empty (by decide) rfl es w hcell hes).mono λe w' he=>?_
    obtain ⟨N,rfl,_,_,hbel⟩:=he;exact⟨_,rfl,zd3 hbel,.tup [dI 0,.any],⟨_,rfl,rfl⟩,⟨_,rfl,_,_,rfl,rfl,_,_,rfl,rfl,rfl⟩⟩
  have h13:=digL_13 hn;have ha:Lib.atoiAll (bl8 (digB n))=.ok (digV (bl8 (digB n)):Int):=by
   rw[bl8_dig];exact atoi_ok (digL_digs n) (digL_ne n) h13
  rw[bl8_dig,digV_digL] at ha;rw[numV_dig];refine(Any.strconv_Atoi_ok wU (digB n) (by show (digB n).size<=_;unfold digB;rw[zad];omega) (n:Int) (by rw[<-bl8_dig] at ha;exact ha) w).mono λe w' he=>?_
  obtain ⟨rfl,hw⟩:=he;refine⟨_,rfl,?_,.tup [dI (n:Int),.v .nilIface],⟨_,rfl,rfl⟩,⟨_,rfl,_,_,rfl,rfl,_,_,rfl,rfl,rfl⟩⟩;rcases hw with rfl | ⟨t,rfl⟩
  · exact wV
  exact zd3 (Joins.below_bytesWorld _ w _ t (dD _))
theorem laid_ints {H:Type} {enc:TypeId×Value->H} {P:Program} {w:World} {base:Nat} {spare:Nat->Bool} {held:Bool} {fuel n:Nat} {t e:TypeId} {k:IntKind} {cs:List Value} {zs:List Int} {q:List MemPlace}
 (hu:P.underlying t=some (.array n e)) (he:P.underlying e=some (.int k)) (hc:P.cellsOf e=1) (hct:P.cellsOf t=n) (h:DataW.trod enc P w base spare held fuel t cs=some (.agg (zs.map λz=>.lit (.int k z)),q)):cs=zs.map (Value.int k):=by
 obtain ⟨xs,m,rfl,hx,hlen,hn,hel⟩:=DataW.trod_array hu h;have hx1:zs.map (λz=>(DataW.lit (.int k z):DataW H))=xs.map (λx=>x.1):=by
  have:=congrArg Prod.fst hx;injection this
 have hl:=congrArg List.length hx1;rw[cW,cW] at hl;apply wC;intro i;rcases dH i n with hi | hi
 · have h1:=hel i hi;rw[hc,u6,dX (by omega)] at h1;obtain ⟨z,e1,e2,_⟩:=DataW.trod_int he h1;have a1:cs[i]?=some (.int k z):=by
    have:=congrArg (λl=>l[0]?) e1;simp only[j8,uC] at this;simpa using this
   have a2:zs[i]?=some z:=by
    have:=congrArg (λl=>l[i]?) hx1;simp only[jB] at this;rw[dX (show i<xs.length by omega),e2] at this;cases e3:zs[i]? with
    | none=>rw[e3] at this;cases this
    | some y=>rw[e3] at this;injection this with this;injection this with this;injection this with _ this;rw[this]
   rw[a1,jB,a2];rfl
 rw[j0 (by omega),j0 (by rw[cW];omega)]
theorem laid_iface {H:Type} {enc:TypeId×Value->H} {P:Program} {w:World} {base:Nat} {spare:Nat->Bool} {held:Bool} {fuel:Nat} {t:TypeId} {cs:List Value} {x:DataW H×List MemPlace} {ms:TypeDesc}
 (hu:P.underlying t=some ms) (hm:∃ mm,ms=.interface mm) (h:DataW.trod enc P w base spare held fuel t cs=some x):∃ ev,cs=[ev]/\EvOk ev:=by
 obtain ⟨mm,rfl⟩:=hm;cases fuel with
 | zero=>exact absurd h (by show ¬(none=some x);simp)
 | succ fuel=>
  rw[DataW.trod_step] at h;unfold DataW.trodStep at h;rw[hu] at h;split at h<;>simp_all [EvOk]
theorem var_heap {P:Program} {w:World} {name:String} {g:Nat} {cs:Array Value} (hg:P.globalNamed name=some g) (h:World.var? P w name=some cs):∃ T fr,w.heap[g]?=some (.cells cs T fr):=by
 unfold World.var? at h;rw[hg] at h;have h:(match w.heap[g]? with | some (.cells cs _ _)=>some cs | _=>none)=some cs:=h;split at h
 · rename_i a b c e;injection h with h;subst h;exact⟨_,_,e⟩
 cases h
theorem of_laid {W:World} (h:laidMetH Tryz.prog Go.Proofs.YtpbcckjedaieoaaGreatDoor.Rows.answerSumsRow.laid W):∃ ev es,EvOk ev/\EvOk es/\(∃ T fr,W.heap[3]?=some (.cells zes T fr))/\(∃ T fr,W.heap[2]?=some (.cells #[ev] T fr))/\(∃ T fr,W.heap[1]?=some (.cells #[es] T fr)):=by
 rw[MakeChecks.laidMetH_plain _ _ _ (by kernel_rfl)] at h;obtain ⟨ps,⟨g0,t0,cs0,f0,p0,q0,hg0,ht0,hv0,hd0,⟨g1,t1,cs1,f1,p1,q1,hg1,ht1,hv1,hd1,⟨g2,t2,cs2,f2,p2,q2,hg2,ht2,hv2,hd2,⟨g3,t3,cs3,f3,p3,q3,hg3,ht3,hv3,hd3,⟨g4,t4,cs4,f4,p4,q4,hg4,ht4,hv4,hd4,_⟩,_⟩,_⟩,_⟩,_⟩,_,_⟩:=h;obtain rfl:3=g2:=uD ((show Tryz.prog.globalNamed _=some 3 by kernel_rfl).symm.trans hg2);obtain rfl:2=g3:=uD ((show Tryz.prog.globalNamed _=some 2 by kernel_rfl).symm.trans hg3);obtain rfl:1=g4:=uD ((show Tryz.prog.globalNamed _=some 1 by kernel_rfl).symm.trans hg4);have a4:Tryz.prog.globals[1]?.map (·.type)=some t4:=ht4;obtain rfl:=uD ((show Tryz.prog.globals[1]?.map (·.type)=some 131 by kernel_rfl).symm.trans a4);obtain ⟨es,e4,hes⟩:=laid_iface Tryz.underlying131 ⟨_,rfl⟩ hd4;have a2:Tryz.prog.globals[3]?.map (·.type)=some t2:=ht2;have a3:Tryz.prog.globals[2]?.map (·.type)=some t3:=ht3;obtain rfl:=uD ((show Tryz.prog.globals[3]?.map (·.type)=some 313 by kernel_rfl).symm.trans a2);obtain rfl:=uD ((show Tryz.prog.globals[2]?.map (·.type)=some 131 by kernel_rfl).symm.trans a3);obtain ⟨ev,e3,hev⟩:=laid_iface Tryz.underlying131 ⟨_,rfl⟩ hd3;have e2:=laid_ints (n:=20) (e:=243) (zs:=Lib.pow10Tab) (by kernel_rfl) (by kernel_rfl) (by kernel_rfl) (by kernel_rfl) hd2;refine⟨ev,es,hev,hes,?_,?_,?_⟩
 · have:=var_heap hg2 hv2
   rwa [show cs2=zes from uQ.1 (by rw[e2];simp[zes])] at this
 · have:=var_heap hg3 hv3
   rwa [show cs3=#[ev] from uQ.1 (by rw[e3])] at this
 have:=var_heap hg4 hv4
 rwa [show cs4=#[es] from uQ.1 (by rw[e4])] at this
theorem CD.lawT {f:FuncId} {ds:List D} {ev es:Value} (h:CD Tryz.prog f [HPow,HErr ev,HSyn es] ds (λr H'=>r=.v (.bool true)/\H'=[HPow,HErr ev,HSyn es])) {W:World} {vs:List Value} (hr:D.repA W (FA W) ds vs)
 (h1:∃ T fr,W.heap[3]?=some (.cells zes T fr)) (h2:∃ T fr,W.heap[2]?=some (.cells #[ev] T fr)) (h3:∃ T fr,W.heap[1]?=some (.cells #[es] T fr)):
 Calls Tryz.prog f vs.toArray W (Ret λu w'=>Ext W w'/\u=.bool true):=by
 have hno:∀ b,¬blks [HPow,HErr ev,HSyn es] b:=λb ⟨x,hx,hb⟩=>by
  rcases dO.1 hx with rfl | hx
  · exact hb
  rcases dO.1 hx with rfl | hx
  · exact hb
  rw[dW.1 hx] at hb;exact hb
 have hlt:∀ {g:Nat} {o:Obj},W.heap[g]?=some o->g<W.heap.size:=λh=>by
  rcases dH _ W.heap.size with h' | h'
  · exact h'
  rw[vF h'] at h;cases h
 obtain ⟨T1,f1,e1⟩:=h1;obtain ⟨T2,f2,e2⟩:=h2;obtain ⟨T3,f3,e3⟩:=h3;have hk:HOk W (FA W) (λ_=>True) [HPow,HErr ev,HSyn es]:=⟨by
  refine List.Pairwise.cons (λy _ g hg=>?_) (List.Pairwise.cons (λy _ g hg=>?_) (List.Pairwise.cons (λy hy=>absurd hy (by simp)) .nil))
  · exact absurd hg (λe=>e)
  · exact absurd hg (λe=>e),λx hx=>by
  rcases dO.1 hx with rfl | hx
  · exact⟨hlt e1,T1,f1,e1⟩
  rcases dO.1 hx with rfl | hx
  · exact⟨hlt e2,T2,f2,e2⟩
  rw[dW.1 hx];exact⟨hlt e3,T3,f3,e3⟩,λg hg=>absurd hg (hno g)⟩
 refine(h.out W (FA W) vs hr (λ_ h=>h) hk).mono ?_;rintro e w' ⟨u,rfl,F',d',H',⟨rfl,rfl⟩,hrep,g⟩;have hrep:u=.bool true:=hrep;exact⟨u,rfl,⟨g.os,g.tape,g.output,g.size,λb hb _=>g.frame b hb (hno b),g.drawn⟩,hrep⟩
section
variable {H:Type} {enc:TypeId×Value->H} {w:World} {held:Bool} {sp:Nat->Bool} {n:Nat}
theorem in_int {cs:List Value} {y:DataW H×List MemPlace} (h:DataW.trod enc Tryz.prog w 0 sp held n 3 cs=some y):∃ d:Int,InD w 1 (.v (.int .i64 d)) cs:=by
 obtain ⟨i,e1,_,_⟩:=DataW.trod_int (by kernel_rfl) h;exact⟨i,by rw[e1];exact InD.one rfl rfl⟩
end
end Lp
namespace Lp
open Go Go.RowKit
section
variable {P:Program} {N:Nat} {C:Ctx} {K K2:Kd} {H:List Hp} {ops:List Oper} {i:Nat} {Kt:Env->World->(Nat->Prop)->Prop}
def inL:List Nat->Nat->Bool
 | [],_=>false
 | k::r,t=>bif Nat.beq t k then true else inL r t
def ksK (K:Kd):List Nat:=K.map Prod.fst
theorem inL_no:∀ {K:Kd} {t:Nat},inL (ksK K) t=false->zI K t=none
 | [],_,_=>rfl
 | (d,v)::r,t,h=>by
  have h:(bif Nat.beq t d then true else inL (ksK r) t)=false:=h;show (bif Nat.beq t d then some v else zI r t)=none;cases e:Nat.beq t d with
  | true=>rw[e] at h;cases h
  | false=>rw[e] at h;exact inL_no h
def KX (K K2:Kd):Prop:=∀ t d,zI K t=some d->zI K2 t=some d
theorem KX.cons {t:Nat} {d:D} (h:KX K K2) (hf:zI K t=none):KX K ((t,d)::K2):=λq x hq=>by
 show (bif Nat.beq q t then some d else zI K2 q)=some x;cases e:Nat.beq q t with
 | true=>rw[dU e] at hq;rw[hf] at hq;cases hq
 | false=>exact h q x hq
theorem KX.both {t:Nat} {d:D} (h:KX K K2):KX ((t,d)::K) ((t,d)::K2):=λq x hq=>by
 have hq:(bif Nat.beq q t then some d else zI K q)=some x:=hq;show (bif Nat.beq q t then some d else zI K2 q)=some x;cases e:Nat.beq q t with
 | true=>rw[e] at hq;exact hq
 | false=>rw[e] at hq;exact h q x hq
theorem m8 (h:KX K K2) (n:OpsD P N C ops i K H Kt):OpsD P N C ops i K2 H Kt:=⟨λa w F ok hk g=>n.out a w F ok (λt d e=>hk t d (h t d e)) g⟩
theorem kx:∀ (m:Nat) {K K2:Kd},K2.drop m=K->(K2.take m).all (λx=>!inL (ksK K) x.1)=true->KX K K2
 | 0,K,K2,h,_=>λt d e=>by rw[<-h] at e;exact e
 | m+1,K,[],h,_=>λt d e=>by rw[<-h] at e;cases e
 | m+1,K,(t,d)::K2,h,hf=>by
  rw[u9,List.all_cons,c8] at hf;exact(kx m h hf.2).cons (inL_no (by simpa using hf.1))
def skB (ops:List Oper) (N j:Nat) (want:Bool) (ks:List Nat):Nat->Nat->Bool
 | _,0=>true
 | i,n+1=>(match opAt ops i with
  | some (some t,_,_,some (j',w))=>Nat.beq j' j&&(w==want)&&Nat.blt t N&&!inL ks t
  | _=>false)&&skB ops N j want ks (i+1) n
theorem od_skips {j s:Nat} {b want:Bool} (hj:zX ops j=some s) (hs:Nat.blt s N=true) (hb:zI K s=some (.v (.bool b))) (hne:b≠want):∀ (n i:Nat),skB ops N j want (ksK K) i n=true->OpsD P N C ops (i+n) K H Kt->OpsD P N C ops i K H Kt
 | 0,i,_,h=>h
 | n+1,i,hk,h=>by
  unfold skB at hk;rw[c8] at hk;obtain ⟨h1,h2⟩:=hk;split at h1
  · rename_i t op ty j' w ho;simp only[c8,uU,beq_iff_eq] at h1;obtain ⟨⟨⟨a1,a2⟩,a3⟩,a4⟩:=h1;have a1:=dU a1;subst a1;subst a2;exact od_skip ho a3 hj hs hb (λe=>hne (by injection e)) (m8 (KX.cons (λ_ _ e=>e) (inL_no a4)) (od_skips hj hs hb hne n (i+1) h2 (by rw[show i+1+n=i+(n+1) by omega];exact h)))
  cases h1
theorem KX.same {s:Nat} {d:D} (h:zI K s=some d):KX ((s,d)::K) K:=λq x hq=>by
 have hq:(bif Nat.beq q s then some d else zI K q)=some x:=hq;cases e:Nat.beq q s with
 | true=>rw[e] at hq;rw[dU e,h];exact hq
 | false=>rw[e] at hq;exact hq
theorem KX.tail {s:Nat} {d d':D} (h:KX ((s,d)::K) K2) (e:zI K s=some d):KX K K2:=λq x hq=>h q x (by
 show (bif Nat.beq q s then some d else zI K q)=some x;cases e':Nat.beq q s with
 | true=>rw[dU e',e] at hq;exact hq
 | false=>exact hq)
theorem od_or {b c:Bool} (j n:Nat) {s t:Tmp} {y:Operand} {ty:TypeId} (hp:opAt ops (i+n)=some (some t,.pick (.tmp s) (.const (.bool true)) y,ty,none)) (ht:Nat.blt t N=true) (hj:zX ops j=some s) (hs:Nat.blt s N=true) (hb:zI K s=some (.v (.bool b))) (hk:skB ops N j false (ksK K) i n=true)
 (run:b=false->(∀ K2,zI K2 s=some (.v (.bool false))->opD K2 y=some (.v (.bool c))->KX ((s,.v (.bool false))::K) K2->OpsD P N C ops (i+n) K2 H Kt)->OpsD P N C ops i ((s,.v (.bool false))::K) H Kt)
 (next:OpsD P N C ops (i+n+1) ((t,.v (.bool (b||c)))::K) H Kt):OpsD P N C ops i K H Kt:=by
 cases b with
 | true=>exact od_skips hj hs hb (by simp) n i hk (zga hp ht (zcp hb rfl) next)
 | false=>exact m8 (KX.same hb) (run rfl λK2 h1 h2 hx=>zga hp ht (zaC h1 h2) (m8 (hx.tail (d':=.any) hb).both next))
theorem od_and {b c:Bool} (j n:Nat) {s t:Tmp} {x:Operand} {ty:TypeId} (hp:opAt ops (i+n)=some (some t,.pick (.tmp s) x (.const (.bool false)),ty,none)) (ht:Nat.blt t N=true) (hj:zX ops j=some s) (hs:Nat.blt s N=true) (hb:zI K s=some (.v (.bool b))) (hk:skB ops N j true (ksK K) i n=true)
 (run:b=true->(∀ K2,zI K2 s=some (.v (.bool true))->opD K2 x=some (.v (.bool c))->KX ((s,.v (.bool true))::K) K2->OpsD P N C ops (i+n) K2 H Kt)->OpsD P N C ops i ((s,.v (.bool true))::K) H Kt)
 (next:OpsD P N C ops (i+n+1) ((t,.v (.bool (b&&c)))::K) H Kt):OpsD P N C ops i K H Kt:=by
 cases b with
 | false=>exact od_skips hj hs hb (by simp) n i hk (zga hp ht (zaC hb rfl) next)
 | true=>exact m8 (KX.same hb) (run rfl λK2 h1 h2 hx=>zga hp ht (zcp h1 h2) (m8 (hx.tail (d':=.any) hb).both next))
end
theorem orF {a b:Bool} (h:(a||b)=false):a=false/\b=false:=by cases a<;>cases b<;>simp at h ⊢
theorem andT {a b:Bool} (h:(a&&b)=true):a=true/\b=true:=by cases a<;>cases b<;>simp at h ⊢
theorem notF {a:Bool} (h:(!a)=false):a=true:=by cases a<;>simp at h ⊢
end Lp
namespace Lp
open Go Go.RowKit Go.Proofs
theorem mixed:Tryz.prog.follows .mixedOrders=true:=by kernel_rfl
abbrev T':Bool:=true
abbrev F':Bool:=false
abbrev dZ:D:=.v (.slice none 0 0)
abbrev dP (g o:Nat):D:=.v (.pointer (some ⟨g,o,none⟩))
abbrev vS (g n c:Nat):Value:=.slice (some ⟨g,0,none⟩) n c
def cpF {α:Type}:List α->Option (List α)
 | []=>some []
 | x::r=>match cpF r with
  | some l=>some (x::l)
  | none=>none
theorem cpF_eq {α:Type}:∀ {l l':List α},cpF l=some l'->l=l'
 | [],_,h=>by injection h
 | x::r,l',h=>by
  unfold cpF at h;split at h
  · rename_i l hl;injection h with h;rw[<-h,cpF_eq hl]
  cases h
def kpF:List Nat->Kd->Option Kd
 | [],_=>some []
 | t::r,K=>match zI K t with
  | some d=>match kpF r K with
   | some l=>some ((t,d)::l)
   | none=>none
  | none=>none
theorem kpF_sub:∀ {ts:List Nat} {K K':Kd},kpF ts K=some K'->SubK K' K
 | [],_,_,h=>by injection h with h;subst h;trivial
 | t::r,K,K',h=>by
  unfold kpF at h;split at h
  · rename_i d hd;split at h
    · rename_i l hl;injection h with h;subst h;exact⟨⟨d,hd,mA⟩,kpF_sub hl⟩
    cases h
  cases h
theorem sa:∀ {K' K:Kd},K'.map (λp=>zI K p.1)=K'.map (λp=>some p.2)->SubK K' K
 | [],_,_=>trivial
 | (t,d)::r,K,h=>by
  simp only[jS,List.cons.injEq] at h;exact⟨⟨d,h.1,mA⟩,sa h.2⟩
def snF:List Bool->Bool->Option (List Bool)
 | [],b=>some [b]
 | x::r,b=>match snF r b with
  | some l=>some (x::l)
  | none=>none
theorem zdK:∀ {p q:List Bool} {b:Bool},snF p b=some q->p++[b]=q
 | [],_,_,h=>by injection h
 | x::r,q,b,h=>by
  unfold snF at h;split at h
  · rename_i l hl;injection h with h;rw[<-h,jJ,zdK hl]
  cases h
def zf1 (K:Kd):Op->Option D
 | .move x=>opD K x
 | .assign x=>opD K x
 | .extract x n=>match opD K x with
  | some (.tup ds)=>nth ds n
  | _=>none
 | .pick c x y=>match opD K c with
  | some (.v (.bool true))=>opD K x
  | some (.v (.bool false))=>opD K y
  | _=>none
 | .unOp .not _ x=>match opD K x with
  | some (.v (.bool true))=>some (.v (.bool false))
  | some (.v (.bool false))=>some (.v (.bool true))
  | _=>none
 | .nilCheck x=>match opD K x with
  | some (.v (.pointer (some a)))=>some (.v (.pointer (some a)))
  | some (.el X o)=>some (.el X o)
  | _=>none
 | _=>none
theorem pureD_ok {P:Program} {ty:TypeId} {K:Kd} {H:List Hp} {op:Op} {d:D} (h:zf1 K op=some d):Pu P op ty K H d:=by
 unfold zf1 at h;split at h
 · exact zc h
 · exact zdY h
 · split at h
   · rename_i hx;exact zam hx h
   cases h
 · split at h
   · rename_i hc;exact zcp hc h
   · rename_i hc;exact zaC hc h
   cases h
 · split at h
   · rename_i hx;injection h with h;subst h;exact zdF (q:=true) hx
   · rename_i hx;injection h with h;subst h;exact zdF (q:=false) hx
   cases h
 · split at h
   · rename_i hx;injection h with h;subst h;exact zb0 hx
   · rename_i hx;injection h with h;subst h;exact p_nilCheck_el hx
   cases h
 cases h
def oneC (N:Nat) (t:Tmp):Option D->Option (Tmp×D)
 | some d=>bif Nat.blt t N then some (t,d) else none
 | none=>none
def guardD (K:Kd) (want:Bool) (op:Op):Option D->Option D
 | some (.v u)=>match nb u,want with
  | some true,true=>zf1 K op
  | some false,false=>zf1 K op
  | some true,false=>some (.v undef)
  | some false,true=>some (.v undef)
  | none,_=>some (.v undef)
 | _=>none
def oneD (ops:List Oper) (i N:Nat) (K:Kd):Option (Tmp×D):=
 match opAt ops i with
 | some (some t,op,_,none)=>oneC N t (zf1 K op)
 | some (some t,op,_,some (j,want))=>match zX ops j with
  | some s=>bif Nat.blt s N then oneC N t (guardD K want op (zI K s)) else none
  | none=>none
 | _=>none
def opP (ops:List Oper) (i N:Nat):Option (Tmp×Op×TypeId):=match opAt ops i with
 | some (some t,op,ty,none)=>bif Nat.blt t N then some (t,op,ty) else none
 | _=>none
def opE (ops:List Oper) (i N:Nat):Option (Option Tmp×Op×TypeId):=match opAt ops i with
 | some (t,op,ty,none)=>bif dok N t then some (t,op,ty) else none
 | _=>none
def gdF (ops:List Oper) (N:Nat) (K:Kd) (j:Nat) (want:Bool):Bool:=match zX ops j with
 | some s=>match zI K s with
  | some (.v (.bool b))=>Nat.blt s N&&(b==want)
  | _=>false
 | none=>false
def opG (ops:List Oper) (i N:Nat) (K:Kd):Option (Option Tmp×Op×TypeId):=match opAt ops i with
 | some (t,op,ty,some (j,want))=>match dok N t,gdF ops N K j want with
  | true,true=>some (t,op,ty)
  | _,_=>none
 | _=>none
section
variable {P:Program} {N:Nat} {C:Ctx} {K:Kd} {H:List Hp} {ops:List Oper} {i:Nat} {Kt:Env->World->(Nat->Prop)->Prop}
theorem nb_b {u:Value} {b:Bool} (h:nb u=some b):u=.bool b:=by cases u<;>simp[nb] at h;rw[h]
theorem opP_ok {t:Tmp} {op:Op} {ty:TypeId} (h:opP ops i N=some (t,op,ty)):opAt ops i=some (some t,op,ty,none)/\Nat.blt t N=true:=by
 unfold opP at h;split at h
 · rename_i t' op' ty' ho;cases hb:Nat.blt t' N
   · simp[hb] at h
   simp[hb] at h;obtain ⟨h1,h2,h3⟩:=h;subst h1;subst h2;subst h3;exact⟨ho,hb⟩
 cases h
theorem opE_ok {t:Option Tmp} {op:Op} {ty:TypeId} (h:opE ops i N=some (t,op,ty)):opAt ops i=some (t,op,ty,none)/\dok N t=true:=by
 unfold opE at h;split at h
 · rename_i t' op' ty' ho;cases hb:dok N t'
   · simp[hb] at h
   simp[hb] at h;obtain ⟨h1,h2,h3⟩:=h;subst h1;subst h2;subst h3;exact⟨ho,hb⟩
 cases h
theorem opG_ok {t:Option Tmp} {op:Op} {ty:TypeId} (h:opG ops i N K=some (t,op,ty)):∃ j want s,opAt ops i=some (t,op,ty,some (j,want))/\dok N t=true/\zX ops j=some s/\Nat.blt s N=true/\zI K s=some (.v (.bool want)):=by
 unfold opG at h;split at h
 · rename_i t' op' ty' j want ho;split at h
   · rename_i h1 h2;injection h with h;injection h with e1 h;injection h with e2 e3;subst e1;subst e2;subst e3;unfold gdF at h2;split at h2
     · rename_i s hs;split at h2
       · rename_i b hb;simp only[c8,beq_iff_eq] at h2;obtain ⟨h3,h4⟩:=h2;subst h4;exact⟨j,b,s,ho,h1,hs,h3,hb⟩
       cases h2
     cases h2
   cases h
 cases h
theorem oP {t:Tmp} {op:Op} {ty:TypeId} {d:D} (ho:opP ops i N=some (t,op,ty)) (h:Pu P op ty K H d) (k:OpsD P N C ops (i+1) ((t,d)::K) H Kt):OpsD P N C ops i K H Kt:=zga (opP_ok ho).1 (opP_ok ho).2 h k
theorem oE {t:Option Tmp} {op:Op} {ty:TypeId} {R:D->List Hp->Prop} (ho:opE ops i N=some (t,op,ty)) (h:Ef P op ty K H R) (k:∀ d H',R d H'->OpsD P N C ops (i+1) (upK K t d) H' Kt):OpsD P N C ops i K H Kt:=od_step (opE_ok ho).1 (opE_ok ho).2 h k
theorem oF {t:Option Tmp} {op:Op} {ty:TypeId} {R:D->List Hp->Prop} (ho:opG ops i N K=some (t,op,ty)) (h:Ef P op ty K H R) (k:∀ d H',R d H'->OpsD P N C ops (i+1) (upK K t d) H' Kt):OpsD P N C ops i K H Kt:=by
 obtain ⟨j,want,s,h1,h2,h3,h4,h5⟩:=opG_ok ho;exact od_run h1 h2 h3 h4 h5 h k
theorem oG {t:Tmp} {op:Op} {ty:TypeId} {d:D} (ho:opG ops i N K=some (some t,op,ty)) (h:Pu P op ty K H d) (k:OpsD P N C ops (i+1) ((t,d)::K) H Kt):OpsD P N C ops i K H Kt:=
 oF ho h.ef λ_ _ ⟨e1,e2⟩=>by subst e1;subst e2;exact k
theorem acs {L:List Hp}:∀ {ds:List D},ArgCs L ds ds
 | []=>.nil
 | _::_=>.cons mO acs
end
section
variable {P:Program} {N:Nat} {C:Ctx} {K:Kd} {H:List Hp} {ops:List Oper} {i:Nat} {Kt:Env->World->(Nat->Prop)->Prop} {Q:za9}
end
theorem cS {b:ByteArray} (h:b.size<=maxLen:=by first | decide | (unfold maxLen;omega)):Cv (.v (.string b)) (.s b):=Cv.str h
theorem cB {a b:Bool} (h:a=b):Cv (.v (.bool a)) (.v (.bool b)):=mB (congrArg (λb=>D.v (.bool b)) h)
abbrev FaP (P:Program) (t:TypeId) (f k:Nat):Prop:=∀ (b o:Nat) w,(Instr.fieldAt t (.pointer (some ⟨b,o,none⟩)) f).run P w=.ok (.pointer (some ⟨b,o+k,none⟩)) w
abbrev IzP (P:Program) (t:TypeId) (z:Value) (n b:Nat):Prop:=∃ i,P.info? t=some i/\i.zero=some z/\i.size=n/\i.bytes=b
abbrev BdP (P:Program) (fs:Array Field) (l:List (Nat×Nat)):Prop:=∀ w,((fs.mapM λf=>do pure (f.offset,<-Go.sizeOf f.type):Sem (Array (Nat×Nat)))).run P w=.ok l.toArray w
section
variable {P:Program} {N:Nat} {C:Ctx} {K:Kd} {H:List Hp} {Q:za9} {c:Code} {p pa pb:List Bool}
def cnF (c:Code) (p:List Bool) (K:Kd):Option (List Bool×List Bool×D):=match zfP (cd c p),snF p false,snF p true with
 | some x,some a,some b=>match opD K x with
  | some d=>some (a,b,d)
  | none=>none
 | _,_,_=>none
theorem jC {t:Bool} (h:cnF c p K=some (pa,pb,.v (.bool t))) (ht:t=true->JD P N C (cd c pa) K H Q) (hf:t=false->JD P N C (cd c pb) K H Q):JD P N C (cd c p) K H Q:=by
 unfold cnF at h;split at h
 · rename_i x a b h1 h2 h3;split at h
   · rename_i d hd;injection h with h;injection h with e1 h;injection h with e2 e3;subst e1;subst e2;subst e3;exact jd_cond _ _ h1 (zdK h2) (zdK h3) hd ht hf
   cases h
 cases h
theorem jD {φ:Prop} {_:Decidable φ} (h:cnF c p K=some (pa,pb,.v (.bool (decide φ)))) (ht:φ->JD P N C (cd c pa) K H Q) (hf:¬φ->JD P N C (cd c pb) K H Q):JD P N C (cd c p) K H Q:=
 jC h (λe=>ht (of_decide_eq_true e)) (λe=>hf (of_decide_eq_false e))
def lpF (c:Code) (p:List Bool):Option (List Bool):=match isLoop (cd c p),snF p false with
 | true,some a=>some a
 | _,_=>none
theorem lpF_ok (h:lpF c p=some pa):isLoop (cd c p)=true/\p++[false]=pa:=by
 unfold lpF at h;split at h
 · rename_i h1 h2;injection h with h;subst h;exact⟨h1,zdK h2⟩
 cases h
end
theorem bA (a b:Bool):((a&&b)=true)=(a=true/\b=true):=c8 a b
theorem bB (a b:Bool):((a||b)=true)=(a=true\/b=true):=uG a b
theorem bC (b:Bool):((!b)=true)=(b=false):=uU b
theorem bD (b:Bool):((!b)=false)=(b=true):=Bool.not_eq_false' b
theorem bE (a b:Bool):((a&&b)=false)=(a=false\/b=false):=by cases a<;>cases b<;>simp
theorem bF (a b:Bool):((a||b)=false)=(a=false/\b=false):=by cases a<;>cases b<;>simp
theorem bG (p:Prop) [Decidable p]:(decide p=true)=p:=decide_eq_true_eq
theorem bH (p:Prop) [Decidable p]:(decide p=false)=¬p:=by simp
theorem bI (p:Prop) [Decidable p]:(¬¬p)=p:=by simp
theorem bJ {α:Sort _} (a b:α):(a≠b)=¬a=b:=rfl
theorem bX:(∀ a b:Bool,((a&&b)=true)=(a=true/\b=true))/\(∀ a b:Bool,((a||b)=true)=(a=true\/b=true))/\(∀ a:Bool,((!a)=true)=(a=false))/\(∀ a:Bool,((!a)=false)=(a=true))/\(∀ a b:Bool,((a&&b)=false)=(a=false\/b=false))/\(∀ a b:Bool,((a||b)=false)=(a=false/\b=false))/\(∀ (p:Prop) [Decidable p],(decide p=true)=p)/\(∀ (p:Prop) [Decidable p],(decide p=false)=¬p)/\(∀ (p:Prop) [Decidable p],(¬ ¬p)=p):=
 ⟨bA,bB,bC,bD,bE,bF,bG,bH,bI⟩
theorem la {α:Type} {a b:List α}:(a++b).length=a.length+b.length:=cX
theorem lc {α:Type} {a:α} {b:List α}:(a::b).length=b.length+1:=dM
theorem ln {α:Type}:([]:List α).length=0:=uO
theorem lm {α β:Type} {a:List α} {f:α->β}:(a.map f).length=a.length:=cW f
theorem lt' {α:Type} {n:Nat} {a:List α}:(a.take n).length=min n a.length:=dG
theorem ld {α:Type} {n:Nat} {a:List α}:(a.drop n).length=a.length-n:=dL
theorem ls {α:Type} {n:Nat} {a:List α} {x:α}:(a.set n x).length=a.length:=uM
theorem lr {α:Type} {n:Nat} {x:α}:(List.replicate n x).length=n:=uF
theorem O {α:Sort _} {a:α}:a=a:=rfl
theorem ga {L:List Hp} {a b:List D} {d:D} (h:ArgCs L a b):ArgCs L (d::a) (d::b):=.cons mO h
theorem gc {a b:List D} {d:D} (h:CvL a b):CvL (d::a) (d::b):=.cons mA h
abbrev cA:D:=.v (.string ByteArray.empty)
abbrev cC:Value:=.agg #[(.bool false),(.bool false),(.slice none 0 0)]
abbrev cD:Value:=.agg #[(.bool false),(.bool false),(.slice none 0 0),(.bool false),(.int .i64 0),(.int .i64 0)]
abbrev cE:Value:=.agg #[(.string ByteArray.empty),(.string ByteArray.empty),(.int .i64 0),(.int .i64 0),(.slice none 0 0),(.slice none 0 0),(.slice none 0 0),(.int .i64 0),(.int .i64 0),(.int .i64 0)]
abbrev cF:Value:=.agg #[(.int .i64 0),(.int .i64 0)]
abbrev cG:Value:=.agg #[(.string ByteArray.empty),(.int .i64 0),(.string ByteArray.empty),(.pointer none)]
abbrev cH:Value:=.agg #[(.int .i64 0),(.int .i64 0),(.string ByteArray.empty)]
abbrev cI:Value:=.agg #[(.int .i64 0)]
abbrev cJ:Value:=.agg #[(.slice none 0 0),(.int .i64 0)]
abbrev cK:Value:=.agg #[(.slice none 0 0),(.slice none 0 0)]
abbrev cM:Value:=.agg #[.nilIface,(.bool false),(.bool false)]
abbrev cN:Value:=.agg #[(.string ByteArray.empty),(.string ByteArray.empty)]
abbrev cO:Value:=.agg #[(.string ByteArray.empty),(.int .i64 0),(.string ByteArray.empty)]
abbrev cP:Value:=.agg #[(.slice none 0 0)]
abbrev cQ:Value:=.agg #[.nilFunc]
abbrev cR:D:=.agg [cA,cA,dI 0,dI 0,dZ,dZ,dZ,dI 0,dI 0,dI 0]
abbrev cT:D:=.agg [dB false,dB false,dZ]
abbrev cU:D:=.agg [dB false]
end Lp
