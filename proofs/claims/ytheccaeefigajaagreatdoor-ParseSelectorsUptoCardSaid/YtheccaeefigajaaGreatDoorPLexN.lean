import Derived.Test.YtheccaeefigajaaGreatDoorPPat
set_option linter.unusedSimpArgs false
set_option linter.unusedVariables false
namespace Lp
open Go
def zf1:List UInt8:=[32,9,10,40,41,44,91,93,123,125,43,45,42,47,37,60,62,33,34]
def Stop (r:List UInt8):Prop:=r=[]\/∃ b t,r=b::t/\b∈zf1
theorem stopL_ok:∀ b∈zf1,b.toNat<128/\¬zy ((b.toNat:Nat):Int)=1/\¬zy ((b.toNat:Nat):Int)=2:=by decide
def Rem (r:List UInt8):Prop:=r=[]\/∃ b t,r=b::t/\b.toNat<128/\¬zy ((b.toNat:Nat):Int)=1/\¬zy ((b.toNat:Nat):Int)=2
theorem Stop.rem {r:List UInt8} (h:Stop r):Rem r:=by
 rcases h with h | ⟨b,t,e,hb⟩
 · exact .inl h
 exact .inr ⟨b,t,e,stopL_ok b hb⟩
theorem zf7 {l r:List UInt8} {k:Nat} (h:k<l.length):gb (l++r) k=gb l k:=by
 unfold gb;rw[dF,dF,vI h]
theorem gb_far {l r:List UInt8} (hr:Rem r):gb (l++r) l.length<128:=by
 unfold gb;rw[dF,uO (cU _),Nat.sub_self];rcases hr with rfl | ⟨b,t,rfl,h⟩
 · simp
 simpa using h.1
theorem cont_app {l r:List UInt8} {k:Nat} (hr:Rem r) (h:k<=l.length):za1 (l++r) k=za1 l k:=by
 rcases c8 k l.length with hk | hk
 · unfold za1;rw[zf7 hk,dA];congr 1;rw[decide_eq_decide];omega
 obtain rfl:k=l.length:=by omega
 have h2:=gb_far (l:=l) hr;have e1:za1 (l++r) l.length=false:=by
  unfold za1;have:¬gb (l++r) l.length / 64=2:=by omega
  simp[this]
 have e2:za1 l l.length=false:=by unfold za1;simp
 rw[e1,e2]
theorem cont_lt' {l:List UInt8} {k:Nat} (h:za1 l k=true):k<l.length:=by unfold za1 at h;simp at h;exact h.1
theorem decL_app {l r:List UInt8} (hl:l≠[]) (hr:Rem r):decL (l++r)=decL l:=by
 have hp:=dD.2 hl;have g0:=zf7 (l:=l) (r:=r) hp;have c1:=cont_app (l:=l) hr (k:=1) (by omega);unfold decL;rw[g0,c1];by_cases h1:za1 l 1=true
 · have l1:=cont_lt' h1;have g1:=zf7 (l:=l) (r:=r) l1;have c2:=cont_app (l:=l) hr (k:=2) (by omega);rw[g1,c2];by_cases h2:za1 l 2=true
   · have l2:=cont_lt' h2;have g2:=zf7 (l:=l) (r:=r) l2;have c3:=cont_app (l:=l) hr (k:=3) (by omega);rw[g2,c3];by_cases h3:za1 l 3=true
     · have l3:=cont_lt' h3;rw[zf7 (l:=l) (r:=r) l3]
     have h3:za1 l 3=false:=(by simpa using h3);simp only[h3,jE,uT,if_false]
   have h2:za1 l 2=false:=(by simpa using h2);simp only[h2,jE,vB,uT,if_false]
 have h1:za1 l 1=false:=by simpa using h1
 simp only[h1,jE,vB,uT,if_false]
theorem zab {b:UInt8} {t:List UInt8} (h:b.toNat<128):decL (b::t)=(b.toNat,1):=by
 unfold decL;have:gb (b::t) 0=b.toNat:=rfl;rw[this,if_pos h]
theorem stop_dec {r:List UInt8} (hr:Rem r) (hn:r≠[]):¬zy ((decL r).1:Int)=1/\¬zy ((decL r).1:Int)=2:=by
 rcases hr with rfl | ⟨b,t,rfl,h⟩
 · exact absurd rfl hn
 rw[zab h.1];exact h.2
theorem stop_run {r:List UInt8} (hr:Rem r) {ks:List Int} (h:∀ k∈ks,k=1\/k=2):runL (inK ks) r=0:=by
 by_cases hn:r=[]
 · rw[hn,zcA]
 refine zc6 ?_;unfold inK;rw[List.any_eq_false];intro k hk;intro e;rw[decide_eq_true_eq] at e;rcases h k hk with rfl | rfl
 · exact(stop_dec hr hn).1 e.symm
 exact(stop_dec hr hn).2 e.symm
theorem runL_app {f:Int->Bool} {r:List UInt8} (hr:Rem r):∀ (n:Nat) (l:List UInt8),l.length=n->runL f (l++r)=runL f l+(if runL f l=l.length then runL f r else 0):=by
 intro n
 induction n using Nat.strongRecOn with
 | _ n ih=>
  intro l hl;by_cases h:l=[]
  · subst h;rw[zcA];simp
  have hd:=decL_app h hr;have hle:=zdu h;have hpos:=zbb l;by_cases hf:f ((decL l).1:Int)=true
  · rw[zcv (by simp[h]) (by rw[hd];exact hf),hd,uG hle,ih (l.length-(decL l).2) (by omega) _ cZ,zcv h hf];have e:(runL f (l.drop (decL l).2)=(l.drop (decL l).2).length)=((decL l).2+runL f (l.drop (decL l).2)=l.length):=by
     rw[cZ,eq_iff_iff];omega
    simp only[e];omega
  have hf:f ((decL l).1:Int)=false:=by simpa using hf
  rw[zc6 (by rw[hd];exact hf),zc6 hf,if_neg (by have:=dD.2 h;omega)]
theorem runL_stop {ks:List Int} {l r:List UInt8} (hr:Rem r) (h:∀ k∈ks,k=1\/k=2):runL (inK ks) (l++r)=runL (inK ks) l:=by
 rw[runL_app hr _ l rfl,stop_run hr h];split<;>rfl
theorem take_run {f:Int->Bool} {l r:List UInt8}:(l++r).take (runL f l)=l.take (runL f l):=u7 (zbz f l)
theorem zbB {b:Bool} {l:List UInt8} (h:l≠[]):zae b l=if b=true then(zae false (l.drop (decL l).2)).map (· +(decL l).2)
 else if (decL l).1=92 then(zae true (l.drop (decL l).2)).map (· +(decL l).2)
 else if (decL l).1=34 then some 0
 else(zae false (l.drop (decL l).2)).map (· +(decL l).2):=by
 conv=>lhs;unfold zae
 rw[dif_neg h]
theorem qscan_nil {b:Bool}:zae b []=none:=by unfold zae;rw[dif_pos rfl]
theorem qscan_lt:∀ (n:Nat) (l:List UInt8) (b:Bool) (i:Nat),l.length=n->zae b l=some i->i<l.length:=by
 intro n
 induction n using Nat.strongRecOn with
 | _ n ih=>
  intro l b i hl h;by_cases hn:l=[]
  · subst hn;rw[qscan_nil] at h;cases h
  have h1:=zbb l;have h2:=zdu hn;have key:∀ (b':Bool),(zae b' (l.drop (decL l).2)).map (· +(decL l).2)=some i->i<l.length:=by
   intro b' h;cases e:zae b' (l.drop (decL l).2) with
   | none=>rw[e] at h;cases h
   | some j=>
    rw[e] at h;injection h with h;have:=ih (l.length-(decL l).2) (by omega) _ b' j cZ e;rw[cZ] at this;have h:j+(decL l).2=i:=h;omega
  rw[zbB hn] at h;split at h
  · exact key _ h
  split at h
  · exact key _ h
  split at h
  · injection h with h;omega
  exact key _ h
theorem qscan_app {r:List UInt8} (hr:Rem r):∀ (n:Nat) (l:List UInt8) (b:Bool) (i:Nat),l.length=n->zae b l=some i->zae b (l++r)=some i:=by
 intro n
 induction n using Nat.strongRecOn with
 | _ n ih=>
  intro l b i hl h;by_cases hn:l=[]
  · subst hn;rw[qscan_nil] at h;cases h
  have hd:=decL_app hn hr;have h1:=zbb l;have h2:=zdu hn;have key:∀ (b':Bool),(zae b' (l.drop (decL l).2)).map (· +(decL l).2)=some i->(zae b' (l.drop (decL l).2++r)).map (· +(decL l).2)=some i:=by
   intro b' h;cases e:zae b' (l.drop (decL l).2) with
   | none=>rw[e] at h;cases h
   | some j=>rw[e] at h;rw[ih (l.length-(decL l).2) (by omega) _ b' j cZ e];exact h
  rw[zbB hn] at h;rw[zbB (by simp[hn]),hd,uG h2];split
  · rw[if_pos (by assumption)] at h;exact key _ h
  rw[if_neg (by assumption)] at h;split
  · rw[if_pos (by assumption)] at h;exact key _ h
  rw[if_neg (by assumption)] at h;split
  · rw[if_pos (by assumption)] at h;exact h
  rw[if_neg (by assumption)] at h;exact key _ h
theorem prefix_app {x l r:List UInt8} (hl:l≠[]) (hr:Stop r) (hx:∀ b∈x.tail,b ∉ zf1):x.isPrefixOf (l++r)=x.isPrefixOf l:=by
 rw[vE,j8,j8];constructor
 · rintro ⟨t,ht⟩;rcases c8 l.length x.length with h | h
   · exfalso;have e:x[l.length]?=(l++r)[l.length]?:=(by rw[<-ht,vI h]);rw[uO (cU _),Nat.sub_self] at e;rw[dK h] at e;rcases hr with rfl | ⟨b,t',rfl,hb⟩
     · simp at e
     have e:x[l.length]=b:=(by simpa using e);have hp:=dD.2 hl;refine hx b ?_ hb;rw[<-e];cases x with
     | nil=>exact absurd h (jU _)
     | cons y x=>
      obtain ⟨k,hk⟩:∃ k,l.length=k+1:=⟨l.length-1,by omega⟩;have h':k<x.length:=(by rw[hk] at h;simpa using h);have:(y::x)[l.length]=x[k]:=(by simp[hk]);rw[this];exact List.getElem_mem h'
   refine⟨l.drop x.length,?_⟩;have e1:x=l.take x.length:=by
    have:=congrArg (List.take x.length) ht;rw[vR,u7 h] at this
    · exact this
    rfl
   conv=>lhs;lhs;rw[e1]
   exact d8 _ _
 rintro ⟨t,rfl⟩;exact⟨t++r,by simp⟩
theorem signs_plain:∀ x∈zV,∀ b∈(bl8 x).tail,b ∉ zf1:=by decide
theorem signIn_app {l r:List UInt8} (hl:l≠[]) (hr:Stop r):∀ (xs:List ByteArray),(∀ x∈xs,∀ b∈(bl8 x).tail,b ∉ zf1)->zac xs (l++r)=zac xs l
 | [],_=>rfl
 | x::xs,h=>by
  unfold zac;rw[prefix_app hl hr (h x cW),signIn_app hl hr xs (λy hy=>h y (c7 _ hy))]
theorem signIn_size:∀ (xs:List ByteArray) (l:List UInt8),(zac xs l).2<=l.length
 | [],l=>cX _
 | x::xs,l=>by
  unfold zac;split
  · rename_i h;rw[j8] at h;have:=h.length_le;rw[zT] at this;exact this
  exact signIn_size xs l
theorem numT_app {l r:List UInt8} (hr:Rem r):numT (l++r)=numT l:=by
 have h1:runL isD (l++r)=runL isD l:=runL_stop hr (by decide);have h2:runL isLD (l++r)=runL isLD l:=runL_stop hr (by decide);have h3:(l++r).take (runL isD l)=l.take (runL isD l):=take_run;have h4:(l++r).take (runL isLD l)=l.take (runL isLD l):=take_run;unfold numT;rw[h1,h2,h3,h4]
theorem strT_app {l r:List UInt8} (hr:Rem r) (h0:(strT l).2≠0):strT (l++r)=strT l:=by
 cases e:zae true l with
 | none=>unfold strT at h0;rw[e] at h0;exact absurd rfl h0
 | some i=>
  have h1:=qscan_app hr _ l true i rfl e;have h2:=qscan_lt _ l true i rfl e;unfold strT;rw[h1,e];simp only[u7 (show i+1<=l.length by omega)]
theorem firstT_app {l r:List UInt8} (hl:l≠[]) (hr:Stop r) (h0:(zg l).2≠0):zg (l++r)=zg l:=by
 have hd:=decL_app hl hr.rem;unfold zg at h0 ⊢;rw[hd];split
 · have h2:runL isLD (l++r)=runL isLD l:=runL_stop hr.rem (by decide);have h4:(l++r).take (runL isLD l)=l.take (runL isLD l):=take_run;unfold zca;rw[h2,h4]
 split
 · exact numT_app hr.rem
 split
 · rename_i a b c;rw[if_neg a,if_neg b,if_pos c] at h0;exact strT_app hr.rem h0
 exact signIn_app hl hr _ signs_plain
theorem firstT_rem {l r:List UInt8} (hl:l≠[]) (hr:Rem r) (h0:(zg l).2≠0) (hk:(zg l).1.k≠5):zg (l++r)=zg l:=by
 have hd:=decL_app hl hr;unfold zg at h0 hk ⊢;rw[hd];split
 · have h2:runL isLD (l++r)=runL isLD l:=runL_stop hr (by decide);have h4:(l++r).take (runL isLD l)=l.take (runL isLD l):=take_run;unfold zca;rw[h2,h4]
 split
 · exact numT_app hr
 split
 · rename_i a b c;rw[if_neg a,if_neg b,if_pos c] at h0;exact strT_app hr h0
 rename_i a b c;rw[if_neg a,if_neg b,if_neg c] at h0 hk;exfalso;have key:∀ xs:List ByteArray,(zac xs l).2≠0->(zac xs l).1.k=5:=by
  intro xs
  induction xs with
  | nil=>intro h;exact absurd rfl h
  | cons x xs ih=>
   unfold zac;split
   · exact λ_=>rfl
   exact ih
 exact hk (key _ h0)
theorem firstT_le {l:List UInt8}:(zg l).2<=l.length:=by
 unfold zg;split
 · unfold zca;split
   · exact zbz _ _
   exact cX _
 split
 · unfold numT;split
   · exact cX _
   split
   · exact zbz _ _
   split
   · exact cX _
   exact zbz _ _
 split
 · cases e:zae true l with
   | none=>unfold strT;rw[e];exact cX _
   | some i=>
    have h2:=qscan_lt _ l true i rfl e;unfold strT;rw[e];show (match unqB (mkB (l.take (i+1))) with | none=>(zbh,0) | some t=>((⟨3,0,t⟩:TokD),i+1)).2<=_;split
    · exact cX _
    exact h2
 exact signIn_size _ _
theorem run_blank_all {g:List UInt8} (hg:∀ b∈g,b=32\/b=9\/b=10) (x:List UInt8):runL isB (g++x)=g.length+runL isB x:=by
 induction g with
 | nil=>simp
 | cons b t ih=>
  have hb:=hg b cW;have hlt:b.toNat<128:=by rcases hb with rfl | rfl | rfl<;>decide
  have hk:isB ((decL (b::(t++x))).1:Int)=true:=by
   rw[zab hlt];rcases hb with rfl | rfl | rfl<;>decide
  rw[jA,zcv (by simp) hk,zab hlt];show 1+runL isB (t++x)=_;rw[ih (λc hc=>hg c (c7 _ hc)),dC];omega
theorem wordsL_blank {g:List UInt8} (hg:∀ b∈g,b=32\/b=9\/b=10) (x:List UInt8) (a:Nat):zM (g++x) a=zM x (a+g.length):=by
 rw[zct (n:=g.length+x.length) (by simp),zct (n:=g.length+x.length) (by simp),run_blank_all hg];rw[<-wD,vL];congr 1;omega
theorem drop_run_app {f:Int->Bool} {l r:List UInt8}:(l++r).drop (runL f l)=l.drop (runL f l)++r:=uG (zbz f l)
theorem wordsL_app {r:List UInt8} (hr:Stop r):∀ (n:Nat) (l:List UInt8) (a:Nat) (ts:List TokD),l.length=n->zM l a=some ts->zM (l++r) a=(zM r (a+l.length)).map (ts++·):=by
 intro n
 induction n using Nat.strongRecOn with
 | _ n ih=>
  intro l a ts hn h;have hb:=runL_app (f:=isB) hr.rem _ l rfl;by_cases hall:runL isB l=l.length
  · rw[if_pos hall,hall] at hb;have e0:l.drop (runL isB l)=[]:=(by rw[jJ];omega);have ht:ts=[]:=by
     unfold zM at h;rw[e0,zaI] at h;injection h with h;exact h.symm
    subst ht;rw[zct (n:=(l++r).length) (cU _),zct (n:=(l++r).length) (l:=r) (by simp),hb];rw[<-wD,vL];rw[show a+(l.length+runL isB r)=a+l.length+runL isB r by omega];simp
  rw[if_neg hall,jY] at hb;have hrl:=zbz isB l;have hne:l.drop (runL isB l)≠[]:=by rw[Ne,jJ];omega
  generalize hm:l.drop (runL isB l)=m at hne;have hml:m.length=l.length-runL isB l:=by rw[<-hm,cZ]
  have e1:zM (l++r) a=zbu (l++r).length (m++r) (a+runL isB l):=by
   rw[zct (n:=(l++r).length) (cU _),hb,drop_run_app,hm]
  have h0:(zg m).2≠0:=by
   intro h0;unfold zM at h;rw[hm,zbF hne h0] at h;cases h
  have hf:=firstT_app hne hr h0;have hfl:=firstT_le (l:=m);have h':zbu l.length m (a+runL isB l)=some ts:=by unfold zM at h;rw[hm] at h;exact h
  rw[zaN hne h0 (by omega)] at h';rw[e1,zaN (by simp[hne]) (by rw[hf];exact h0) (by simp only[dA];omega),hf,uG hfl];cases e2:zM (m.drop (zg m).2) (a+runL isB l+(zg m).2) with
  | none=>rw[e2] at h';cases h'
  | some ts2=>
   rw[e2] at h';have h':(zg m).1.put (a+runL isB l)::ts2=ts:=(by injection h');rw[ih (m.drop (zg m).2).length (by rw[cZ];omega) _ _ ts2 rfl e2,<-h'];have e3:a+runL isB l+(zg m).2+(m.drop (zg m).2).length=a+l.length:=(by rw[cZ];omega);rw[e3];cases zM r (a+l.length)<;>simp
def TokD.by (x:TokD) (c:Nat):TokD:=⟨x.k,x.a+(c:Int),x.t⟩
theorem wordsL_by (c:Nat):∀ (n:Nat) (l:List UInt8) (a:Nat),l.length=n->zM l (a+c)=(zM l a).map (·.map (·.by c)):=by
 intro n
 induction n using Nat.strongRecOn with
 | _ n ih=>
  intro l a hn;have hrl:=zbz isB l;generalize hm:l.drop (runL isB l)=m;have hml:m.length=l.length-runL isB l:=by rw[<-hm,cZ]
  unfold zM;rw[hm];by_cases hne:m=[]
  · subst hne;rw[zaI,zaI];rfl
  by_cases h0:(zg m).2=0
  · rw[zbF hne h0,zbF hne h0];rfl
  have hpos:=dD.2 hne;rw[zaN hne h0 (by omega),zaN hne h0 (by omega)];have e:a+c+runL isB l+(zg m).2=a+runL isB l+(zg m).2+c:=by omega
  rw[e,ih (m.drop (zg m).2).length (by rw[cZ];omega) _ _ rfl];have e2:(zg m).1.put (a+c+runL isB l)=((zg m).1.put (a+runL isB l)).by c:=by
   unfold TokD.put TokD.by;congr 1;show ((a+c+runL isB l:Nat):Int)=((a+runL isB l:Nat):Int)+(c:Int);omega
  rw[e2];cases zM (m.drop (zg m).2) (a+runL isB l+(zg m).2)<;>simp
variable {s:ByteArray} {p:Nat} {f:Int->Bool}
theorem run_start:runL f (bl8 s)=0+runL f (bts s 0):=by rw[dX];rfl
theorem run_next (hf:runL f (bl8 s)=p+runL f (bts s p)) (h:p<s.size) (ht:f ((decR s p:Nat):Int)=true):runL f (bl8 s)=(p+decW s p)+runL f (bts s (p+decW s p)):=by
 rw[zbp] at ht;rw[hf,zcv (zdp h) ht,zbU,<-zbT,vN]
theorem run_stop (hf:runL f (bl8 s)=p+runL f (bts s p)) (ht:f ((decR s p:Nat):Int)=false):p=runL f (bl8 s):=by
 rw[zbp] at ht;rw[hf,zc6 ht];rfl
theorem run_end (hf:runL f (bl8 s)=p+runL f (bts s p)) (h:s.size<=p) (hp:p<=s.size):s.size=runL f (bl8 s):=by
 rw[hf,zde h,zcA];omega
theorem zby (f:Int->Bool) (s:ByteArray):runL f (bl8 s)<=s.size:=by rw[<-zT];exact zbz f _
theorem hasI_inK (ks:List Int) (r:Int):hasI ks (zy r)=inK ks r:=rfl
theorem zcq {n:Nat} (h:n<=s.size):s.extract 0 n=mkB ((bl8 s).take n):=by rw[zcp h,j7]
theorem zcF:s.extract p s.size=mkB ((bl8 s).drop p):=by
 rw[zcp (cU _),dJ (by rw[zT];omega)]
theorem run_mono {f g:Int->Bool} (h:∀ r,f r=true->g r=true):∀ (n:Nat) (l:List UInt8),l.length=n->runL f l<=runL g l:=by
 intro n
 induction n using Nat.strongRecOn with
 | _ n ih=>
  intro l hl;by_cases hf:l≠[]/\f ((decL l).1:Int)=true
  · have h1:=zbb l;have h2:=dD.2 hf.1;rw[zcv hf.1 hf.2,zcv hf.1 (h _ hf.2)];have:=ih (l.length-(decL l).2) (by omega) _ cZ;omega
  have:runL f l=0:=by unfold runL;rw[dif_neg hf]
  omega
theorem nD_le (s:ByteArray):runL (inK [2]) (bl8 s)<=runL (inK [1,2]) (bl8 s):=run_mono (λr hr=>by
 unfold inK at*;simp only[jR,uA,dO,decide_eq_true_eq,d6] at*;exact .inr hr) _ _ rfl
theorem wordT_t (h:zba (s.extract 0 (runL isLD (bl8 s)))=true):zca (bl8 s)=(⟨1,0,s.extract 0 (runL isLD (bl8 s))⟩,runL isLD (bl8 s)):=by
 unfold zca;rw[<-zcq (zby _ s),if_pos h]
theorem wordT_f (h:zba (s.extract 0 (runL isLD (bl8 s)))=false):zca (bl8 s)=(zbh,0):=by
 unfold zca;rw[<-zcq (zby _ s),if_neg (by rw[h];simp)]
abbrev nD (s:ByteArray):Nat:=runL isD (bl8 s)
abbrev nA (s:ByteArray):Nat:=runL isLD (bl8 s)
abbrev vD (s:ByteArray):Nat:=digV ((bl8 s).take (nD s))
theorem zeV (h:13<nD s\/1000000000000<vD s):numT (bl8 s)=(zbh,0):=by unfold numT;rw[if_pos h]
theorem zfM (h:¬(13<nD s\/1000000000000<vD s)) (h2:nA s=nD s):numT (bl8 s)=(⟨2,0,digB (vD s)⟩,nD s):=by unfold numT;rw[if_neg h,if_pos h2]
theorem cut_mid (h:nA s<=s.size):mkB (((bl8 s).take (nA s)).drop (nD s))=s.extract (nD s) (nA s):=(zcp h).symm
theorem zb7 (h:¬(13<nD s\/1000000000000<vD s)) (h2:¬nA s=nD s) (h3:secB (s.extract (nD s) (nA s))=0\/1000000000 / secB (s.extract (nD s) (nA s))<vD s):numT (bl8 s)=(zbh,0):=by
 unfold numT;rw[if_neg h,if_neg h2,cut_mid (zby _ s),if_pos h3]
theorem zcY (h:¬(13<nD s\/1000000000000<vD s)) (h2:¬nA s=nD s) (h3:¬(secB (s.extract (nD s) (nA s))=0\/1000000000 / secB (s.extract (nD s) (nA s))<vD s)):numT (bl8 s)=(⟨4,0,digB (vD s*secB (s.extract (nD s) (nA s)))⟩,nA s):=by
 unfold numT;rw[if_neg h,if_neg h2,cut_mid (zby _ s),if_neg h3]
theorem run_digits:∀ (n:Nat) (l:List UInt8),l.length=n->∀ b∈l.take (runL isD l),48<=b.toNat/\b.toNat<=57:=by
 intro n
 induction n using Nat.strongRecOn with
 | _ n ih=>
  intro l hl b hb;by_cases h:l≠[]/\isD ((decL l).1:Int)=true
  · have h2:zy ((decL l).1:Int)=2:=by
     have h':inK [2] ((decL l).1:Int)=true:=h.2;unfold inK at h';simp only[jR,uA,dO,decide_eq_true_eq] at h';exact h'.symm
    have hr:48<=(decL l).1/\(decL l).1<=57:=(by unfold zy at h2;(repeat (split at h2))<;>omega);cases l with
    | nil=>exact absurd rfl h.1
    | cons c r=>
     have hc:c.toNat=(decL (c::r)).1/\(decL (c::r)).2=1:=by
      have hg:gb (c::r) 0=c.toNat:=rfl;by_cases h1:c.toNat<128
      · unfold decL;rw[hg,if_pos h1];exact⟨rfl,rfl⟩
      exfalso;revert hr;unfold decL;rw[hg,if_neg h1];have l0:c.toNat<256:=uK _
      (repeat (any_goals split))<;>simp_all<;>omega
     rw[zcv h.1 h.2,hc.2,wN,vM,List.drop_one,List.tail_cons] at hb;rcases dW.1 hb with e | e
     · rw[e];omega
     exact ih r.length (by simp only[dC] at hl;omega) r rfl b e
  unfold runL at hb;rw[dif_neg h] at hb;cases hb
theorem vD_le {l:List UInt8} (h:∀ b∈l,48<=b.toNat/\b.toNat<=57) (hl:l.length<=13):digV l<10000000000000:=by
 have key:∀ (l:List UInt8) (acc k:Nat),(∀ b∈l,48<=b.toNat/\b.toNat<=57)->acc<10 ^ k->l.length+k<=13->l.foldl (λn b=>10*n+(b.toNat-48)) acc<10 ^ 13:=by
  intro l
  induction l with
  | nil=>intro acc k _ ha hl;exact jW ha (wO (by omega) (by simpa using hl))
  | cons c r ih=>
   intro acc k h ha hl;have hc:=h c cW;exact ih _ (k+1) (λb hb=>h b (c7 _ hb)) (by show 10*acc+(c.toNat-48)<10 ^ (k+1);rw[Nat.pow_succ];omega) (by simp only[dC] at hl;omega)
 have:=key l 0 0 h (by decide) (by omega);have h13:(10:Nat) ^ 13=10000000000000:=by decide
 unfold digV;omega
theorem secB_cases (s:ByteArray):secB s=0\/secB s=1\/secB s=60\/secB s=3600:=by unfold secB;(repeat (any_goals split))<;>simp
def qInv (s:ByteArray) (p:Nat) (b:Bool):Prop:=zae true (bl8 s)=(zae b (bts s p)).map (· +p)
theorem qInv_zero:qInv s 0 true:=by
 unfold qInv;show _=(zae true (bts s 0)).map (· +0);rw[show bts s 0=bl8 s from rfl];cases zae true (bl8 s)<;>rfl
theorem map_add (o:Option Nat) (a b:Nat):(o.map (· +a)).map (· +b)=o.map (· +(b+a)):=by
 cases o with
 | none=>rfl
 | some x=>show some (x+a+b)=some (x+(b+a));congr 1;omega
theorem zeP {b:Bool} {l:List UInt8} (h:l≠[]):zae b l=if b=true then(zae false (l.drop (decL l).2)).map (· +(decL l).2)
 else if (decL l).1=92 then(zae true (l.drop (decL l).2)).map (· +(decL l).2)
 else if (decL l).1=34 then some 0
 else(zae false (l.drop (decL l).2)).map (· +(decL l).2):=by
 conv=>lhs;unfold zae
 rw[dif_neg h]
theorem qInv_skip (hq:qInv s p true) (h:p<s.size):qInv s (p+decW s p) false:=by
 unfold qInv at*;rw[hq,zeP (zdp h),if_pos rfl,zbU,<-zbT,map_add]
theorem qInv_esc (hq:qInv s p false) (h:p<s.size) (hr:decR s p=92):qInv s (p+decW s p) true:=by
 unfold qInv at*;rw[zbp] at hr;rw[hq,zeP (zdp h),if_neg (by simp),if_pos hr,zbU,<-zbT,map_add]
theorem qInv_next (hq:qInv s p false) (h:p<s.size) (hr:¬decR s p=92) (hr2:¬decR s p=34):qInv s (p+decW s p) false:=by
 unfold qInv at*;rw[zbp] at hr hr2;rw[hq,zeP (zdp h),if_neg (by simp),if_neg hr,if_neg hr2,zbU,<-zbT,map_add]
theorem qInv_found (hq:qInv s p false) (h:p<s.size) (hr:decR s p=34):zae true (bl8 s)=some p:=by
 unfold qInv at*;rw[zbp] at hr;rw[hq,zeP (zdp h),if_neg (by simp),if_neg (by omega),if_pos hr];show some (0+p)=_;rw[dX]
theorem qInv_none {b:Bool} (hq:qInv s p b) (h:s.size<=p):strT (bl8 s)=(zbh,0):=by
 unfold qInv at hq;have e:zae b []=none:=by unfold zae;rw[dif_pos rfl]
 rw[zde h,e] at hq;unfold strT;rw[hq];rfl
theorem strT_f (hq:zae true (bl8 s)=some p) (h:p<s.size) (hu:zcf (s.extract 0 (p+1))=false):strT (bl8 s)=(zbh,0):=by
 unfold strT;rw[hq];simp only[<-zcq (show p+1<=s.size by omega)];unfold zcf at hu;cases e:unqB (s.extract 0 (p+1)) with
 | none=>rfl
 | some t=>rw[e] at hu;cases hu
theorem strT_t (hq:zae true (bl8 s)=some p) (h:p<s.size) (hu:zcf (s.extract 0 (p+1))=true):strT (bl8 s)=(⟨3,0,unqT (s.extract 0 (p+1))⟩,p+1):=by
 unfold strT;rw[hq];simp only[<-zcq (show p+1<=s.size by omega)];unfold zcf at hu;unfold unqT;cases e:unqB (s.extract 0 (p+1)) with
 | none=>rw[e] at hu;cases hu
 | some t=>rfl
theorem hasP_pre (a b:ByteArray):hasP a b=(bl8 b).isPrefixOf (bl8 a):=by
 rw[vE,j8];unfold hasP;rw[cY,decide_eq_true_eq,decide_eq_true_eq];constructor
 · rintro ⟨h1,h2⟩;rw[zcq h1] at h2;have:=congrArg bl8 h2;rw[zbq] at this;exact⟨(bl8 a).drop b.size,by rw[<-this,d8]⟩
 rintro ⟨t,ht⟩;have hl:=congrArg List.length ht;rw[dA,zT,zT] at hl;have h1:b.size<=a.size:=by omega
 refine⟨h1,?_⟩;rw[zcq h1,<-ht,vR (zT b),zew]
theorem signIn_at {xs:List ByteArray} {k:Nat} {x:ByteArray} (hx:xs[k]?=some x) (h:zac xs (bl8 s)=zac (xs.drop k) (bl8 s)) (hp:hasP s x=true):zac xs (bl8 s)=(⟨5,0,x⟩,x.size):=by
 rw[hasP_pre] at hp;rw[h,zez hx];unfold zac;rw[if_pos hp]
theorem signIn_next {xs:List ByteArray} {k:Nat} {x:ByteArray} (hx:xs[k]?=some x) (h:zac xs (bl8 s)=zac (xs.drop k) (bl8 s)) (hp:hasP s x=false):zac xs (bl8 s)=zac (xs.drop (k+1)) (bl8 s):=by
 rw[hasP_pre] at hp;rw[h,zez hx];conv=>lhs;unfold zac
 rw[if_neg (by rw[hp];simp)]
theorem signIn_end {xs:List ByteArray} {k:Nat} (h:zac xs (bl8 s)=zac (xs.drop k) (bl8 s)) (hk:xs.length<=k):zac xs (bl8 s)=(zbh,0):=by
 rw[h,jJ.2 hk];rfl
theorem dec0:(decL (bl8 s)).1=decR s 0:=by rw[zbp];rfl
theorem zek (h:zy ((decR s 0:Nat):Int)=1):zg (bl8 s)=zca (bl8 s):=by unfold zg;rw[dec0,if_pos h]
theorem firstT_2 (h:¬zy ((decR s 0:Nat):Int)=1) (h2:zy ((decR s 0:Nat):Int)=2):zg (bl8 s)=numT (bl8 s):=by unfold zg;rw[dec0,if_neg h,if_pos h2]
theorem zdj (h:¬zy ((decR s 0:Nat):Int)=1) (h2:¬zy ((decR s 0:Nat):Int)=2) (h3:decR s 0=34):zg (bl8 s)=strT (bl8 s):=by unfold zg;rw[dec0,if_neg h,if_neg h2,if_pos h3]
theorem zej (h:¬zy ((decR s 0:Nat):Int)=1) (h2:¬zy ((decR s 0:Nat):Int)=2) (h3:¬decR s 0=34):zg (bl8 s)=zbQ (bl8 s):=by unfold zg;rw[dec0,if_neg h,if_neg h2,if_neg h3]
theorem bl8_ne (h:0<s.size):bl8 s≠[]:=λe=>by
 have:=congrArg List.length e;rw[zT] at this;simp only[d7] at this;omega
theorem run_digit_pos (h:0<s.size) (h2:zy ((decR s 0:Nat):Int)=2):1<=nD s:=by
 have hk:isD ((decL (bl8 s)).1:Int)=true:=by
  rw[dec0];show inK [2] _=true;unfold inK;simp[h2]
 unfold nD;rw[zcv (bl8_ne h) hk];have:=zbb (bl8 s);omega
theorem signIn_le:∀ (xs:List ByteArray) (l:List UInt8),(zac xs l).2<=l.length
 | [],l=>cX _
 | x::xs,l=>by
  unfold zac;split
  · rename_i h;rw[j8] at h;have:=h.length_le;rw[zT] at this;exact this
  exact signIn_le xs l
theorem strT_le {l:List UInt8}:(strT l).2<=l.length:=by
 have key:∀ (n:Nat) (l:List UInt8) (b:Bool) (i:Nat),l.length=n->zae b l=some i->i<l.length:=by
  intro n
  induction n using Nat.strongRecOn with
  | _ n ih=>
   intro l b i hl h;by_cases hn:l=[]
   · subst hn;unfold zae at h;rw[dif_pos rfl] at h;cases h
   have h1:=zbb l;have h2:=zdu hn;have k2:∀ (b':Bool),(zae b' (l.drop (decL l).2)).map (· +(decL l).2)=some i->i<l.length:=by
    intro b' h;cases e:zae b' (l.drop (decL l).2) with
    | none=>rw[e] at h;cases h
    | some j=>
     rw[e] at h;injection h with h;have:=ih (l.length-(decL l).2) (by omega) _ b' j cZ e;rw[cZ] at this;have h:j+(decL l).2=i:=h;omega
   rw[zeP hn] at h;split at h
   · exact k2 _ h
   split at h
   · exact k2 _ h
   split at h
   · injection h with h;omega
   exact k2 _ h
 cases e:zae true l with
 | none=>unfold strT;rw[e];exact cX _
 | some i=>
  have h2:=key _ l true i rfl e;unfold strT;rw[e];show (match unqB (mkB (l.take (i+1))) with | none=>(zbh,0) | some t=>((⟨3,0,t⟩:TokD),i+1)).2<=_;split
  · exact cX _
  exact h2
theorem firstT_le' {l:List UInt8}:(zg l).2<=l.length:=by
 unfold zg;split
 · unfold zca;split
   · exact zbz _ _
   exact cX _
 split
 · unfold numT;split
   · exact cX _
   split
   · exact zbz _ _
   split
   · exact cX _
   exact zbz _ _
 split
 · exact strT_le
 exact signIn_le _ _
def WInv (s:ByteArray) (p:Nat) (o:List TokD):Prop:=zM (bl8 s) 0=(zbu s.size (bts s p) p).map (o++·)
theorem WInv.zero:WInv s (runL isB (bl8 s)) []:=by
 unfold WInv;rw[zct (n:=s.size) (by rw[zT];exact cU _),dX];show zbu s.size (bts s (runL isB (bl8 s))) _=_;cases zbu s.size (bts s (runL isB (bl8 s))) (runL isB (bl8 s))<;>rfl
theorem WInv.next {o:List TokD} (h:WInv s p o) (hp:p<s.size) (h0:¬(zg (bl8 (s.extract p s.size))).2=0):
 WInv s (p+(zg (bl8 (s.extract p s.size))).2+runL isB (bl8 (s.extract (p+(zg (bl8 (s.extract p s.size))).2) s.size))) (o++[(zg (bl8 (s.extract p s.size))).1.put p]):=by
 have e1:bl8 (s.extract p s.size)=bts s p:=zaY;have e2:∀ q,bl8 (s.extract q s.size)=bts s q:=λq=>zaY
 unfold WInv at*;simp only[e2];rw[e1] at h0;rw[h,zaN (zdp hp) h0 (by rw[zeA];omega),zbU,zct (n:=s.size) (by rw[zeA];omega),zbU];cases zbu s.size (bts s (p+(zg (bts s p)).2+runL isB (bts s (p+(zg (bts s p)).2)))) (p+(zg (bts s p)).2+runL isB (bts s (p+(zg (bts s p)).2)))<;>simp
theorem WInv.done {o:List TokD} (h:WInv s p o) (hp:s.size<=p):zM (bl8 s) 0=some o:=by
 unfold WInv at h;rw[h,zde hp,zaI];simp
theorem WInv.bad {o:List TokD} (h:WInv s p o) (hp:p<s.size) (h0:(zg (bl8 (s.extract p s.size))).2=0):zM (bl8 s) 0=none:=by
 unfold WInv at h;rw[show bl8 (s.extract p s.size)=bts s p from zaY] at h0;rw[h,zbF (zdp hp) h0];rfl
theorem zeh (h:600<s.size):[]=lexL s/\1=lexE s:=by unfold lexL lexE;rw[if_pos h,if_pos h];exact⟨rfl,rfl⟩
theorem zfb (h:¬600<s.size) (h2:zM (bl8 s) 0=none):[]=lexL s/\2=lexE s:=by unfold lexL lexE;rw[if_neg h,if_neg h,h2];exact⟨rfl,rfl⟩
theorem zfP {o:List TokD} (h:¬600<s.size) (h2:zM (bl8 s) 0=some o):o=lexL s/\0=lexE s:=by unfold lexL lexE;rw[if_neg h,if_neg h,h2];exact⟨rfl,rfl⟩
theorem first_run_le (h:p<=s.size):p+(zg (bl8 (s.extract p s.size))).2<=s.size/\(zg (bl8 (s.extract p s.size))).2<=s.size:=by
 have h1:=firstT_le' (l:=bl8 (s.extract p s.size));rw[zT,cR] at h1;omega
end Lp
namespace Lp
open Go
variable {l:List UInt8} {s:ByteArray} {o:ByteArray}
theorem firstT_zero_cases {n:Nat}:∀ (l:List UInt8) (a:Nat) (ts:List TokD),l.length=n->zM l a=some ts->ts.length<=l.length/\∀ x∈ts,(a:Int)<=x.a/\x.a<=((a+l.length:Nat):Int):=by
 induction n using Nat.strongRecOn with
 | _ n ih=>
  intro l a ts hn h;have hrl:=zbz isB l;generalize hm:l.drop (runL isB l)=m at*;have hml:m.length=l.length-runL isB l:=by rw[<-hm,cZ]
  unfold zM at h;rw[hm] at h;by_cases hne:m=[]
  · subst hne;rw[zaI] at h;injection h with h;subst h;exact⟨cX _,λx hx=>absurd hx (by simp)⟩
  by_cases h0:(zg m).2=0
  · rw[zbF hne h0] at h;cases h
  have hpos:=dD.2 hne;have hfl:=firstT_le (l:=m);rw[zaN hne h0 (by omega)] at h;cases e:zM (m.drop (zg m).2) (a+runL isB l+(zg m).2) with
  | none=>rw[e] at h;cases h
  | some t2=>
   rw[e] at h;have h:(zg m).1.put (a+runL isB l)::t2=ts:=(by injection h);have:=ih (m.drop (zg m).2).length (by rw[cZ];omega) _ _ t2 rfl e;rw[cZ] at this;subst h;refine⟨by simp only[dC];omega,λx hx=>?_⟩;rcases dW.1 hx with rfl | hx
   · show (a:Int)<=((a+runL isB l:Nat):Int)/\((a+runL isB l:Nat):Int)<=_;omega
   have:=this.2 x hx;omega
theorem zfk (h:lexE s=0):¬600<s.size/\zM (bl8 s) 0=some (lexL s):=by
 unfold lexE at h;by_cases hs:600<s.size
 · rw[if_pos hs] at h;omega
 rw[if_neg hs] at h;refine⟨hs,?_⟩;cases e:zM (bl8 s) 0 with
 | none=>rw[e] at h;simp at h
 | some ts=>unfold lexL;rw[if_neg hs,e];rfl
theorem lex_none (h:¬lexE s=0):lexL s=[]:=by
 unfold lexE at h;unfold lexL;by_cases hs:600<s.size
 · rw[if_pos hs]
 rw[if_neg hs] at h ⊢;cases e:zM (bl8 s) 0 with
 | none=>rfl
 | some ts=>rw[e] at h;simp at h
theorem lexL_len (s:ByteArray):(lexL s).length<=s.size:=by
 by_cases h:lexE s=0
 · have:=(firstT_zero_cases (bl8 s) 0 _ rfl (zfk h).2).1;rw[zT] at this;exact this
 rw[lex_none h];exact cX _
theorem lex_of {ts:List TokD} (h:s.size<=600) (hw:zM (bl8 s) 0=some ts):lexL s=ts/\lexE s=0:=by
 have h':¬600<s.size:=by omega
 unfold lexL lexE;rw[if_neg h',if_neg h',hw];exact⟨rfl,rfl⟩
theorem bl8_add (a b:ByteArray):bl8 (a++b)=bl8 a++bl8 b:=by simp[bl8]
theorem firstT_w (h:zy ((decL l).1:Int)=1):zg l=zca l:=by unfold zg;rw[if_pos h]
theorem firstT_n (h:zy ((decL l).1:Int)=2):zg l=numT l:=by unfold zg;rw[if_neg (by omega),if_pos h]
theorem firstT_q (h:¬zy ((decL l).1:Int)=1) (h2:¬zy ((decL l).1:Int)=2) (h3:(decL l).1=34):zg l=strT l:=by unfold zg;rw[if_neg h,if_neg h2,if_pos h3]
theorem firstT_s (h:¬zy ((decL l).1:Int)=1) (h2:¬zy ((decL l).1:Int)=2) (h3:¬(decL l).1=34):zg l=zbQ l:=by unfold zg;rw[if_neg h,if_neg h2,if_neg h3]
theorem zep (n:Nat):digL n=(if n / 10=0 then [] else digL (n / 10))++[UInt8.ofNat (48+n % 10)]:=by
 conv=>lhs;unfold digL
 by_cases h:n<10
 · rw[dif_pos h,if_pos (by omega),Nat.mod_eq_of_lt h];rfl
 rw[dif_neg h,if_neg (by omega)]
def DigI (v n:Nat) (o:ByteArray):Prop:=(o=ByteArray.empty/\n=v)\/(o≠ByteArray.empty/\digL v=(if n=0 then [] else digL n)++bl8 o)
theorem DigI.zero {v:Nat}:DigI v v ByteArray.empty:=.inl ⟨rfl,rfl⟩
theorem one_add {b:UInt8}:bl8 ((⟨#[b]⟩:ByteArray)++o)=b::bl8 o:=by simp[bl8]
theorem DigI.next {v n:Nat} (h:DigI v n o) (hc:0<n\/o=ByteArray.empty):DigI v (n / 10) ((⟨#[UInt8.ofNat (48+n % 10)]⟩:ByteArray)++o):=by
 refine .inr ⟨λe=>?_,?_⟩
 · have:=congrArg bl8 e;rw[one_add] at this;cases this
 rw[one_add];rcases h with ⟨rfl,rfl⟩ | ⟨hne,h⟩
 · rw[zep];rfl
 have hn:¬n=0:=by rcases hc with hc | hc;omega;exact absurd hc hne
 rw[h,if_neg hn,zep n,dQ];rfl
theorem DigI.done {v n:Nat} (h:DigI v n o) (h0:¬0<n) (h1:¬o=ByteArray.empty):o=digB v:=by
 rcases h with ⟨e,_⟩ | ⟨_,h⟩
 · exact absurd e h1
 rw[if_pos (by omega),jI] at h;unfold digB;rw[h,zew]
def digF (a:Nat) (l:List UInt8):Nat:=l.foldl (λn b=>10*n+(b.toNat-48)) a
theorem digV_eq (l:List UInt8):digV l=digF 0 l:=rfl
theorem digF_app (a:Nat) (l r:List UInt8):digF a (l++r)=digF (digF a l) r:=by unfold digF;rw[List.foldl_append]
theorem digF_dig:∀ n:Nat,digF 0 (digL n)=n:=by
 intro n
 induction n using Nat.strongRecOn with
 | _ n ih=>
  have hb:∀ k,k<10->(UInt8.ofNat (48+k)).toNat=48+k:=λk hk=>by simp;omega
  unfold digL;by_cases h:n<10
  · rw[dif_pos h];show 10*0+((UInt8.ofNat (48+n)).toNat-48)=n;rw[hb n h];omega
  rw[dif_neg h,digF_app,ih (n / 10) (by omega)];show 10*(n / 10)+((UInt8.ofNat (48+n % 10)).toNat-48)=n;rw[hb _ (by omega)];omega
theorem digF_zeros:∀ k:Nat,digF 0 (List.replicate k 48)=0
 | 0=>rfl
 | k+1=>by rw[List.replicate_succ];exact digF_zeros k
def DigsL (l:List UInt8):Prop:=∀ b∈l,48<=b.toNat/\b.toNat<=57
theorem digs_dig:∀ n:Nat,DigsL (digL n):=by
 intro n
 induction n using Nat.strongRecOn with
 | _ n ih=>
  have hb:∀ k,k<10->(UInt8.ofNat (48+k)).toNat=48+k:=λk hk=>by simp;omega
  intro b hb';unfold digL at hb';by_cases h:n<10
  · rw[dif_pos h] at hb';rw[jF.1 hb',hb n h];omega
  rw[dif_neg h] at hb';rcases jX.1 hb' with h2 | h2
  · exact ih (n / 10) (by omega) b h2
  rw[jF.1 h2,hb _ (by omega)];omega
theorem digL_pos (n:Nat):1<=(digL n).length:=by rw[zep,dA];simp
def numD (k v:Nat):List UInt8:=List.replicate k 48++digL v
theorem zdA (k v:Nat):DigsL (numD k v):=λb hb=>by
 rcases jX.1 hb with h | h
 · rw[List.eq_of_mem_replicate h];decide
 exact digs_dig v b h
theorem numD_val (k v:Nat):digF 0 (numD k v)=v:=by unfold numD;rw[digF_app,digF_zeros,digF_dig]
theorem numD_ne (k v:Nat):numD k v≠[]:=λe=>by
 have:=congrArg List.length e;unfold numD at this;rw[dA] at this;have h2:=digL_pos v;simp only[d7] at this;omega
theorem dig_kind {b:UInt8} (hb:48<=b.toNat/\b.toNat<=57) (t:List UInt8):zy ((decL (b::t)).1:Int)=2/\(decL (b::t)).2=1:=by
 rw[zab (by omega)];refine⟨?_,rfl⟩;show zy ((b.toNat:Nat):Int)=2;unfold zy;(repeat (any_goals split))<;>omega
theorem zd9 {f:Int->Bool} (hf:∀ r:Int,zy r=2->f r=true):∀ (l:List UInt8) (x:List UInt8),DigsL l->runL f (l++x)=l.length+runL f x
 | [],x,_=>by simp
 | b::t,x,h=>by
  obtain ⟨h1,h2⟩:=dig_kind (h b cW) (t++x);rw[jA,zcv (by simp) (hf _ h1),h2];show 1+runL f (t++x)=_;rw[zd9 hf t x (λc hc=>h c (c7 _ hc)),dC];omega
theorem isD_2:∀ r:Int,zy r=2->isD r=true:=λr h=>by show inK [2] r=true;unfold inK;simp[h]
theorem isLD_2:∀ r:Int,zy r=2->isLD r=true:=λr h=>by show inK [1,2] r=true;unfold inK;simp[h]
theorem isB_2 {r:Int} (h:zy r=2):isB r=false:=by show inK [3] r=false;unfold inK;simp[h]
theorem num_first (h:DigsL l) (hne:l≠[]) (u:List UInt8):zg (l++u)=numT (l++u)/\runL isB (l++u)=0:=by
 cases l with
 | nil=>exact absurd rfl hne
 | cons b t=>
  obtain ⟨h1,_⟩:=dig_kind (h b cW) (t++u);exact⟨firstT_n h1,zc6 (isB_2 h1)⟩
theorem words_one {x:TokD} (hne:l≠[]) (hb:runL isB l=0) (hf:zg l=(x,l.length)):zM l 0=some [x.put 0]:=by
 have hl:=dD.2 hne;unfold zM;rw[hb];show zbu l.length l 0=_;rw[zaN hne (by rw[hf];show ¬l.length=0;omega) (cU _),hf];show (zM (l.drop l.length) _).map _=_;rw[List.drop_length];unfold zM;rw[zcA,List.drop_nil,zaI];rfl
theorem digL_lt:∀ (k n:Nat),n<10 ^ (k+1)->(digL n).length<=k+1
 | 0,n,h=>by
  have h:n<10:=by simpa using h
  rw[zep,if_pos (by omega)];simp
 | k+1,n,h=>by
  rw[zep];split
  · simp
  have:=digL_lt k (n / 10) (by rw[Nat.pow_succ] at h;omega);rw[dA,cT];omega
theorem digB_20 {n:Nat} (h:n<=9223372036854775807):(digB n).size<=20:=by
 unfold digB;rw[z8];exact digL_lt 19 n (wB h (by decide))
end Lp
