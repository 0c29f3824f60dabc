import Derived.Test.YtheccaeefigajaaGreatDoorPPat
set_option linter.unusedSimpArgs false
set_option linter.unusedVariables false
namespace Lp
open Go
def zgl:List UInt8:=[32,9,10,40,41,44,91,93,123,125,43,45,42,47,37,60,62,33,34]
def Stop (r:List UInt8):Prop:=r=[]\/∃ b t,r=b::t/\b∈zgl
theorem aPf:∀ b∈zgl,b.toNat<128/\¬zD ((b.toNat:Nat):Int)=1/\¬zD ((b.toNat:Nat):Int)=2:=by decide
def Rem (r:List UInt8):Prop:=r=[]\/∃ b t,r=b::t/\b.toNat<128/\¬zD ((b.toNat:Nat):Int)=1/\¬zD ((b.toNat:Nat):Int)=2
theorem Stop.rem {r:List UInt8} (h:Stop r):Rem r:=by
 rcases h with h | ⟨b,t,e,hb⟩
 · exact .inl h
 exact .inr ⟨b,t,e,aPf b hb⟩
theorem zgq {l r:List UInt8} {k:Nat} (h:k<l.length):gb (l++r) k=gb l k:=by
 unfold gb;rw[dF,dF,vI h]
theorem aZ1 {l r:List UInt8} (hr:Rem r):gb (l++r) l.length<128:=by
 unfold gb;rw[dF,uP (cU _),Nat.sub_self];rcases hr with rfl | ⟨b,t,rfl,h⟩
 · simp
 simpa using h.1
theorem oU {l r:List UInt8} {k:Nat} (hr:Rem r) (h:k<=l.length):za8 (l++r) k=za8 l k:=by
 rcases c8 k l.length with hk | hk
 · unfold za8;rw[zgq hk,c7];congr 1;rw[decide_eq_decide];omega
 obtain rfl:k=l.length:=by omega
 have h2:=aZ1 (l:=l) hr;have e1:za8 (l++r) l.length=false:=by
  unfold za8;have:¬gb (l++r) l.length / 64=2:=by omega
  simp[this]
 have e2:za8 l l.length=false:=by unfold za8;simp
 rw[e1,e2]
theorem qE {l:List UInt8} {k:Nat} (h:za8 l k=true):k<l.length:=by unfold za8 at h;simp at h;exact h.1
theorem hO {l r:List UInt8} (hl:l≠[]) (hr:Rem r):decL (l++r)=decL l:=by
 have hp:=dE.2 hl;have g0:=zgq (l:=l) (r:=r) hp;have c1:=oU (l:=l) hr (k:=1) (by omega);unfold decL;rw[g0,c1];by_cases h1:za8 l 1=true
 · have l1:=qE h1;have g1:=zgq (l:=l) (r:=r) l1;have c2:=oU (l:=l) hr (k:=2) (by omega);rw[g1,c2];by_cases h2:za8 l 2=true
   · have l2:=qE h2;have g2:=zgq (l:=l) (r:=r) l2;have c3:=oU (l:=l) hr (k:=3) (by omega);rw[g2,c3];by_cases h3:za8 l 3=true
     · have l3:=qE h3;rw[zgq (l:=l) (r:=r) l3]
     have h3:za8 l 3=false:=(by simpa using h3);simp only[h3,jI,uV,if_false]
   have h2:za8 l 2=false:=(by simpa using h2);simp only[h2,jI,vM,uV,if_false]
 have h1:za8 l 1=false:=by simpa using h1
 simp only[h1,jI,vM,uV,if_false]
theorem zai {b:UInt8} {t:List UInt8} (h:b.toNat<128):decL (b::t)=(b.toNat,1):=by
 unfold decL;have:gb (b::t) 0=b.toNat:=rfl;rw[this,aB h]
theorem aB7 {r:List UInt8} (hr:Rem r) (hn:r≠[]):¬zD ((decL r).1:Int)=1/\¬zD ((decL r).1:Int)=2:=by
 rcases hr with rfl | ⟨b,t,rfl,h⟩
 · exact aH rfl hn
 rw[zai h.1];exact h.2
theorem aO3 {r:List UInt8} (hr:Rem r) {ks:List Int} (h:∀ k∈ks,k=1\/k=2):runL (inK ks) r=0:=by
 by_cases hn:r=[]
 · rw[hn,zcH]
 refine zdc ?_;unfold inK;rw[List.any_eq_false];intro k hk;intro e;rw[aI] at e;rcases h k hk with rfl | rfl
 · exact(aB7 hr hn).1 e.symm
 exact(aB7 hr hn).2 e.symm
theorem qK {f:Int->Bool} {r:List UInt8} (hr:Rem r):∀ (n:Nat) (l:List UInt8),l.length=n->runL f (l++r)=runL f l+(if runL f l=l.length then runL f r else 0):=by
 intro n
 induction n using Nat.strongRecOn with
 | _ n ih=>
  intro l hl;by_cases h:l=[]
  · subst h;rw[zcH];simp
  have hd:=hO h hr;have hle:=zdG h;have hpos:=zbi l;by_cases hf:f ((decL l).1:Int)=true
  · rw[zcD (by simp[h]) (by rw[hd];exact hf),hd,uI hle,ih (l.length-(decL l).2) (by omega) _ cZ,zcD h hf];have e:(runL f (l.drop (decL l).2)=(l.drop (decL l).2).length)=((decL l).2+runL f (l.drop (decL l).2)=l.length):=by
     rw[cZ,eq_iff_iff];omega
    simp only[e];omega
  have hf:f ((decL l).1:Int)=false:=by simpa using hf
  rw[zdc (by rw[hd];exact hf),zdc hf,aA (by have:=dE.2 h;omega)]
theorem fT {ks:List Int} {l r:List UInt8} (hr:Rem r) (h:∀ k∈ks,k=1\/k=2):runL (inK ks) (l++r)=runL (inK ks) l:=by
 rw[qK hr _ l rfl,aO3 hr h];split<;>rfl
theorem iD {f:Int->Bool} {l r:List UInt8}:(l++r).take (runL f l)=l.take (runL f l):=vC (zbE f l)
theorem zbF {b:Bool} {l:List UInt8} (h:l≠[]):zal b l=if b=true then(zal false (l.drop (decL l).2)).map (· +(decL l).2)
 else if (decL l).1=92 then(zal true (l.drop (decL l).2)).map (· +(decL l).2)
 else if (decL l).1=34 then some 0
 else(zal false (l.drop (decL l).2)).map (· +(decL l).2):=by
 conv=>lhs;unfold zal
 rw[dif_neg h]
theorem fQ {b:Bool}:zal b []=none:=by unfold zal;rw[dif_pos rfl]
theorem nZ:∀ (n:Nat) (l:List UInt8) (b:Bool) (i:Nat),l.length=n->zal b l=some i->i<l.length:=by
 intro n
 induction n using Nat.strongRecOn with
 | _ n ih=>
  intro l b i hl h;by_cases hn:l=[]
  · subst hn;rw[fQ] at h;cases h
  have h1:=zbi l;have h2:=zdG hn;have key:∀ (b':Bool),(zal b' (l.drop (decL l).2)).map (· +(decL l).2)=some i->i<l.length:=by
   intro b' h;cases e:zal b' (l.drop (decL l).2) with
   | none=>rw[e] at h;cases h
   | some j=>
    rw[e] at h;injection h with h;have:=ih (l.length-(decL l).2) (by omega) _ b' j cZ e;rw[cZ] at this;have h:j+(decL l).2=i:=h;omega
  rw[zbF hn] at h;split at h
  · exact key _ h
  split at h
  · exact key _ h
  split at h
  · injection h with h;omega
  exact key _ h
theorem aJa {r:List UInt8} (hr:Rem r):∀ (n:Nat) (l:List UInt8) (b:Bool) (i:Nat),l.length=n->zal b l=some i->zal b (l++r)=some i:=by
 intro n
 induction n using Nat.strongRecOn with
 | _ n ih=>
  intro l b i hl h;by_cases hn:l=[]
  · subst hn;rw[fQ] at h;cases h
  have hd:=hO hn hr;have h1:=zbi l;have h2:=zdG hn;have key:∀ (b':Bool),(zal b' (l.drop (decL l).2)).map (· +(decL l).2)=some i->(zal b' (l.drop (decL l).2++r)).map (· +(decL l).2)=some i:=by
   intro b' h;cases e:zal b' (l.drop (decL l).2) with
   | none=>rw[e] at h;cases h
   | some j=>rw[e] at h;rw[ih (l.length-(decL l).2) (by omega) _ b' j cZ e];exact h
  rw[zbF hn] at h;rw[zbF (by simp[hn]),hd,uI h2];split
  · rw[aB (by assumption)] at h;exact key _ h
  rw[aA (by assumption)] at h;split
  · rw[aB (by assumption)] at h;exact key _ h
  rw[aA (by assumption)] at h;split
  · rw[aB (by assumption)] at h;exact h
  rw[aA (by assumption)] at h;exact key _ h
theorem aFf {x l r:List UInt8} (hl:l≠[]) (hr:Stop r) (hx:∀ b∈x.tail,b ∉ zgl):x.isPrefixOf (l++r)=x.isPrefixOf l:=by
 rw[vF,j8,j8];constructor
 · rintro ⟨t,ht⟩;rcases c8 l.length x.length with h | h
   · exfalso;have e:x[l.length]?=(l++r)[l.length]?:=(by rw[<-ht,vI h]);rw[uP (cU _),Nat.sub_self] at e;rw[dO h] at e;rcases hr with rfl | ⟨b,t',rfl,hb⟩
     · simp at e
     have e:x[l.length]=b:=(by simpa using e);have hp:=dE.2 hl;refine hx b ?_ hb;rw[<-e];cases x with
     | nil=>exact aH h (jH _)
     | cons y x=>
      obtain ⟨k,hk⟩:∃ k,l.length=k+1:=⟨l.length-1,by omega⟩;have h':k<x.length:=(by rw[hk] at h;simpa using h);have:(y::x)[l.length]=x[k]:=(by simp[hk]);rw[this];exact List.getElem_mem h'
   refine⟨l.drop x.length,?_⟩;have e1:x=l.take x.length:=by
    have:=aG (List.take x.length) ht;rw[vU,vC h] at this
    · exact this
    rfl
   conv=>lhs;lhs;rw[e1]
   exact d8 _ _
 rintro ⟨t,rfl⟩;exact⟨t++r,by simp⟩
theorem aA0:∀ x∈zY,∀ b∈(bl8 x).tail,b ∉ zgl:=by decide
theorem nT {l r:List UInt8} (hl:l≠[]) (hr:Stop r):∀ (xs:List ByteArray),(∀ x∈xs,∀ b∈(bl8 x).tail,b ∉ zgl)->zaj xs (l++r)=zaj xs l
 | [],_=>rfl
 | x::xs,h=>by
  unfold zaj;rw[aFf hl hr (h x cW),nT hl hr xs (λy hy=>h y (dA _ hy))]
theorem iP:∀ (xs:List ByteArray) (l:List UInt8),(zaj xs l).2<=l.length
 | [],l=>cX _
 | x::xs,l=>by
  unfold zaj;split
  · rename_i h;rw[j8] at h;have:=h.length_le;rw[zV] at this;exact this
  exact iP xs l
theorem aB3 {l r:List UInt8} (hr:Rem r):numT (l++r)=numT l:=by
 have h1:runL isD (l++r)=runL isD l:=fT hr (by decide);have h2:runL isLD (l++r)=runL isLD l:=fT hr (by decide);have h3:(l++r).take (runL isD l)=l.take (runL isD l):=iD;have h4:(l++r).take (runL isLD l)=l.take (runL isLD l):=iD;unfold numT;rw[h1,h2,h3,h4]
theorem aCg {l r:List UInt8} (hr:Rem r) (h0:(strT l).2≠0):strT (l++r)=strT l:=by
 cases e:zal true l with
 | none=>unfold strT at h0;rw[e] at h0;exact aH rfl h0
 | some i=>
  have h1:=aJa hr _ l true i rfl e;have h2:=nZ _ l true i rfl e;unfold strT;rw[h1,e];simp only[vC (show i+1<=l.length by omega)]
theorem aFs {l r:List UInt8} (hl:l≠[]) (hr:Stop r) (h0:(zg l).2≠0):zg (l++r)=zg l:=by
 have hd:=hO hl hr.rem;unfold zg at h0 ⊢;rw[hd];split
 · have h2:runL isLD (l++r)=runL isLD l:=fT hr.rem (by decide);have h4:(l++r).take (runL isLD l)=l.take (runL isLD l):=iD;unfold zcg;rw[h2,h4]
 split
 · exact aB3 hr.rem
 split
 · rename_i a b c;rw[aA a,aA b,aB c] at h0;exact aCg hr.rem h0
 exact nT hl hr _ aA0
theorem aFc {l r:List UInt8} (hl:l≠[]) (hr:Rem r) (h0:(zg l).2≠0) (hk:(zg l).1.k≠5):zg (l++r)=zg l:=by
 have hd:=hO hl hr;unfold zg at h0 hk ⊢;rw[hd];split
 · have h2:runL isLD (l++r)=runL isLD l:=fT hr (by decide);have h4:(l++r).take (runL isLD l)=l.take (runL isLD l):=iD;unfold zcg;rw[h2,h4]
 split
 · exact aB3 hr
 split
 · rename_i a b c;rw[aA a,aA b,aB c] at h0;exact aCg hr h0
 rename_i a b c;rw[aA a,aA b,aA c] at h0 hk;exfalso;have key:∀ xs:List ByteArray,(zaj xs l).2≠0->(zaj xs l).1.k=5:=by
  intro xs
  induction xs with
  | nil=>intro h;exact aH rfl h
  | cons x xs ih=>
   unfold zaj;split
   · exact λ_=>rfl
   exact ih
 exact hk (key _ h0)
theorem fL {l:List UInt8}:(zg l).2<=l.length:=by
 unfold zg;split
 · unfold zcg;split
   · exact zbE _ _
   exact cX _
 split
 · unfold numT;split
   · exact cX _
   split
   · exact zbE _ _
   split
   · exact cX _
   exact zbE _ _
 split
 · cases e:zal true l with
   | none=>unfold strT;rw[e];exact cX _
   | some i=>
    have h2:=nZ _ l true i rfl e;unfold strT;rw[e];show (match unqB (mkB (l.take (i+1))) with | none=>(zbm,0) | some t=>((⟨3,0,t⟩:TokD),i+1)).2<=_;split
    · exact cX _
    exact h2
 exact iP _ _
theorem oC {g:List UInt8} (hg:∀ b∈g,b=32\/b=9\/b=10) (x:List UInt8):runL isB (g++x)=g.length+runL isB x:=by
 induction g with
 | nil=>simp
 | cons b t ih=>
  have hb:=hg b cW;have hlt:b.toNat<128:=by rcases hb with rfl | rfl | rfl<;>decide
  have hk:isB ((decL (b::(t++x))).1:Int)=true:=by
   rw[zai hlt];rcases hb with rfl | rfl | rfl<;>decide
  rw[d9,zcD (by simp) hk,zai hlt];show 1+runL isB (t++x)=_;rw[ih (λc hc=>hg c (dA _ hc)),dD];omega
theorem gN {g:List UInt8} (hg:∀ b∈g,b=32\/b=9\/b=10) (x:List UInt8) (a:Nat):zQ (g++x) a=zQ x (a+g.length):=by
 rw[zcy (n:=g.length+x.length) (by simp),zcy (n:=g.length+x.length) (by simp),oC hg];rw[<-wE,vL];congr 1;omega
theorem sA {f:Int->Bool} {l r:List UInt8}:(l++r).drop (runL f l)=l.drop (runL f l)++r:=uI (zbE f l)
theorem aEl {r:List UInt8} (hr:Stop r):∀ (n:Nat) (l:List UInt8) (a:Nat) (ts:List TokD),l.length=n->zQ l a=some ts->zQ (l++r) a=(zQ r (a+l.length)).map (ts++·):=by
 intro n
 induction n using Nat.strongRecOn with
 | _ n ih=>
  intro l a ts hn h;have hb:=qK (f:=isB) hr.rem _ l rfl;by_cases hall:runL isB l=l.length
  · rw[aB hall,hall] at hb;have e0:l.drop (runL isB l)=[]:=(by rw[jO];omega);have ht:ts=[]:=by
     unfold zQ at h;rw[e0,zaP] at h;injection h with h;exact h.symm
    subst ht;rw[zcy (n:=(l++r).length) (cU _),zcy (n:=(l++r).length) (l:=r) (by simp),hb];rw[<-wE,vL];rw[show a+(l.length+runL isB r)=a+l.length+runL isB r by omega];simp
  rw[aA hall,uB] at hb;have hrl:=zbE isB l;have hne:l.drop (runL isB l)≠[]:=by rw[Ne,jO];omega
  generalize hm:l.drop (runL isB l)=m at hne;have hml:m.length=l.length-runL isB l:=by rw[<-hm,cZ]
  have e1:zQ (l++r) a=zbx (l++r).length (m++r) (a+runL isB l):=by
   rw[zcy (n:=(l++r).length) (cU _),hb,sA,hm]
  have h0:(zg m).2≠0:=by
   intro h0;unfold zQ at h;rw[hm,zbJ hne h0] at h;cases h
  have hf:=aFs hne hr h0;have hfl:=fL (l:=m);have h':zbx l.length m (a+runL isB l)=some ts:=by unfold zQ at h;rw[hm] at h;exact h
  rw[zaT hne h0 (by omega)] at h';rw[e1,zaT (by simp[hne]) (by rw[hf];exact h0) (by simp only[c7];omega),hf,uI hfl];cases e2:zQ (m.drop (zg m).2) (a+runL isB l+(zg m).2) with
  | none=>rw[e2] at h';cases h'
  | some ts2=>
   rw[e2] at h';have h':(zg m).1.put (a+runL isB l)::ts2=ts:=(by injection h');rw[ih (m.drop (zg m).2).length (by rw[cZ];omega) _ _ ts2 rfl e2,<-h'];have e3:a+runL isB l+(zg m).2+(m.drop (zg m).2).length=a+l.length:=(by rw[cZ];omega);rw[e3];cases zQ r (a+l.length)<;>simp
def TokD.by (x:TokD) (c:Nat):TokD:=⟨x.k,x.a+(c:Int),x.t⟩
theorem rM (c:Nat):∀ (n:Nat) (l:List UInt8) (a:Nat),l.length=n->zQ l (a+c)=(zQ l a).map (·.map (·.by c)):=by
 intro n
 induction n using Nat.strongRecOn with
 | _ n ih=>
  intro l a hn;have hrl:=zbE isB l;generalize hm:l.drop (runL isB l)=m;have hml:m.length=l.length-runL isB l:=by rw[<-hm,cZ]
  unfold zQ;rw[hm];by_cases hne:m=[]
  · subst hne;rw[zaP,zaP];rfl
  by_cases h0:(zg m).2=0
  · rw[zbJ hne h0,zbJ hne h0];rfl
  have hpos:=dE.2 hne;rw[zaT hne h0 (by omega),zaT hne h0 (by omega)];have e:a+c+runL isB l+(zg m).2=a+runL isB l+(zg m).2+c:=by omega
  rw[e,ih (m.drop (zg m).2).length (by rw[cZ];omega) _ _ rfl];have e2:(zg m).1.put (a+c+runL isB l)=((zg m).1.put (a+runL isB l)).by c:=by
   unfold TokD.put TokD.by;congr 1;show ((a+c+runL isB l:Nat):Int)=((a+runL isB l:Nat):Int)+(c:Int);omega
  rw[e2];cases zQ (m.drop (zg m).2) (a+runL isB l+(zg m).2)<;>simp
variable {s:ByteArray} {p:Nat} {f:Int->Bool}
theorem sS:runL f (bl8 s)=0+runL f (bts s 0):=by rw[dW];rfl
theorem aDf (hf:runL f (bl8 s)=p+runL f (bts s p)) (h:p<s.size) (ht:f ((decR s p:Nat):Int)=true):runL f (bl8 s)=(p+decW s p)+runL f (bts s (p+decW s p)):=by
 rw[zbs] at ht;rw[hf,zcD (zdz h) ht,zbV,<-zb9,wA]
theorem oD (hf:runL f (bl8 s)=p+runL f (bts s p)) (ht:f ((decR s p:Nat):Int)=false):p=runL f (bl8 s):=by
 rw[zbs] at ht;rw[hf,zdc ht];rfl
theorem xX (hf:runL f (bl8 s)=p+runL f (bts s p)) (h:s.size<=p) (hp:p<=s.size):s.size=runL f (bl8 s):=by
 rw[hf,zdm h,zcH];omega
theorem zbD (f:Int->Bool) (s:ByteArray):runL f (bl8 s)<=s.size:=by rw[<-zV];exact zbE f _
theorem aD2 (ks:List Int) (r:Int):hasI ks (zD r)=inK ks r:=rfl
theorem zcv {n:Nat} (h:n<=s.size):s.extract 0 n=mkB ((bl8 s).take n):=by rw[zcu h,j7]
theorem zcJ:s.extract p s.size=mkB ((bl8 s).drop p):=by
 rw[zcu (cU _),dL (by rw[zV];omega)]
theorem aOc {f g:Int->Bool} (h:∀ r,f r=true->g r=true):∀ (n:Nat) (l:List UInt8),l.length=n->runL f l<=runL g l:=by
 intro n
 induction n using Nat.strongRecOn with
 | _ n ih=>
  intro l hl;by_cases hf:l≠[]/\f ((decL l).1:Int)=true
  · have h1:=zbi l;have h2:=dE.2 hf.1;rw[zcD hf.1 hf.2,zcD hf.1 (h _ hf.2)];have:=ih (l.length-(decL l).2) (by omega) _ cZ;omega
  have:runL f l=0:=by unfold runL;rw[dif_neg hf]
  omega
theorem a3r (s:ByteArray):runL (inK [2]) (bl8 s)<=runL (inK [1,2]) (bl8 s):=aOc (λr hr=>by
 unfold inK at*;simp only[jL,jX,dQ,aI,d7] at*;exact .inr hr) _ _ rfl
theorem aG8 (h:zcC (s.extract 0 (runL isLD (bl8 s)))=true):zcg (bl8 s)=(⟨1,0,s.extract 0 (runL isLD (bl8 s))⟩,runL isLD (bl8 s)):=by
 unfold zcg;rw[<-zcv (zbD _ s),aB h]
theorem aHe (h:zcC (s.extract 0 (runL isLD (bl8 s)))=false):zcg (bl8 s)=(zbm,0):=by
 unfold zcg;rw[<-zcv (zbD _ s),aA (by rw[h];simp)]
abbrev nD (s:ByteArray):Nat:=runL isD (bl8 s)
abbrev nA (s:ByteArray):Nat:=runL isLD (bl8 s)
abbrev vD (s:ByteArray):Nat:=digV ((bl8 s).take (nD s))
theorem ze6 (h:13<nD s\/1000000000000<vD s):numT (bl8 s)=(zbm,0):=by unfold numT;rw[aB h]
theorem zf3 (h:¬(13<nD s\/1000000000000<vD s)) (h2:nA s=nD s):numT (bl8 s)=(⟨2,0,digB (vD s)⟩,nD s):=by unfold numT;rw[aA h,aB h2]
theorem aGs (h:nA s<=s.size):mkB (((bl8 s).take (nA s)).drop (nD s))=s.extract (nD s) (nA s):=(zcu h).symm
theorem zcd (h:¬(13<nD s\/1000000000000<vD s)) (h2:¬nA s=nD s) (h3:secB (s.extract (nD s) (nA s))=0\/1000000000 / secB (s.extract (nD s) (nA s))<vD s):numT (bl8 s)=(zbm,0):=by
 unfold numT;rw[aA h,aA h2,aGs (zbD _ s),aB h3]
theorem zc2 (h:¬(13<nD s\/1000000000000<vD s)) (h2:¬nA s=nD s) (h3:¬(secB (s.extract (nD s) (nA s))=0\/1000000000 / secB (s.extract (nD s) (nA s))<vD s)):numT (bl8 s)=(⟨4,0,digB (vD s*secB (s.extract (nD s) (nA s)))⟩,nA s):=by
 unfold numT;rw[aA h,aA h2,aGs (zbD _ s),aA h3]
theorem lQ:∀ (n:Nat) (l:List UInt8),l.length=n->∀ b∈l.take (runL isD l),48<=b.toNat/\b.toNat<=57:=by
 intro n
 induction n using Nat.strongRecOn with
 | _ n ih=>
  intro l hl b hb;by_cases h:l≠[]/\isD ((decL l).1:Int)=true
  · have h2:zD ((decL l).1:Int)=2:=by
     have h':inK [2] ((decL l).1:Int)=true:=h.2;unfold inK at h';simp only[jL,jX,dQ,aI] at h';exact h'.symm
    have hr:48<=(decL l).1/\(decL l).1<=57:=(by unfold zD at h2;(repeat (split at h2))<;>omega);cases l with
    | nil=>exact aH rfl h.1
    | cons c r=>
     have hc:c.toNat=(decL (c::r)).1/\(decL (c::r)).2=1:=by
      have hg:gb (c::r) 0=c.toNat:=rfl;by_cases h1:c.toNat<128
      · unfold decL;rw[hg,aB h1];exact⟨rfl,rfl⟩
      exfalso;revert hr;unfold decL;rw[hg,aA h1];have l0:c.toNat<256:=uL _
      (repeat (any_goals split))<;>simp_all<;>omega
     rw[zcD h.1 h.2,hc.2,wQ,vO,List.drop_one,List.tail_cons] at hb;rcases dH.1 hb with e | e
     · rw[e];omega
     exact ih r.length (by simp only[dD] at hl;omega) r rfl b e
  unfold runL at hb;rw[dif_neg h] at hb;cases hb
theorem aY3 {l:List UInt8} (h:∀ b∈l,48<=b.toNat/\b.toNat<=57) (hl:l.length<=13):digV l<10000000000000:=by
 have key:∀ (l:List UInt8) (acc k:Nat),(∀ b∈l,48<=b.toNat/\b.toNat<=57)->acc<10 ^ k->l.length+k<=13->l.foldl (λn b=>10*n+(b.toNat-48)) acc<10 ^ 13:=by
  intro l
  induction l with
  | nil=>intro acc k _ ha hl;exact jZ ha (wR (by omega) (by simpa using hl))
  | cons c r ih=>
   intro acc k h ha hl;have hc:=h c cW;exact ih _ (k+1) (λb hb=>h b (dA _ hb)) (by show 10*acc+(c.toNat-48)<10 ^ (k+1);rw[Nat.pow_succ];omega) (by simp only[dD] at hl;omega)
 have:=key l 0 0 h (by decide) (by omega);have h13:(10:Nat) ^ 13=10000000000000:=by decide
 unfold digV;omega
theorem aFm (s:ByteArray):secB s=0\/secB s=1\/secB s=60\/secB s=3600:=by unfold secB;(repeat (any_goals split))<;>simp
def qInv (s:ByteArray) (p:Nat) (b:Bool):Prop:=zal true (bl8 s)=(zal b (bts s p)).map (· +p)
theorem aJn:qInv s 0 true:=by
 unfold qInv;show _=(zal true (bts s 0)).map (· +0);rw[show bts s 0=bl8 s from rfl];cases zal true (bl8 s)<;>rfl
theorem yV (o:Option Nat) (a b:Nat):(o.map (· +a)).map (· +b)=o.map (· +(b+a)):=by
 cases o with
 | none=>rfl
 | some x=>show some (x+a+b)=some (x+(b+a));congr 1;omega
theorem ze0 {b:Bool} {l:List UInt8} (h:l≠[]):zal b l=if b=true then(zal false (l.drop (decL l).2)).map (· +(decL l).2)
 else if (decL l).1=92 then(zal true (l.drop (decL l).2)).map (· +(decL l).2)
 else if (decL l).1=34 then some 0
 else(zal false (l.drop (decL l).2)).map (· +(decL l).2):=by
 conv=>lhs;unfold zal
 rw[dif_neg h]
theorem aF0 (hq:qInv s p true) (h:p<s.size):qInv s (p+decW s p) false:=by
 unfold qInv at*;rw[hq,ze0 (zdz h),aB rfl,zbV,<-zb9,yV]
theorem aOi (hq:qInv s p false) (h:p<s.size) (hr:decR s p=92):qInv s (p+decW s p) true:=by
 unfold qInv at*;rw[zbs] at hr;rw[hq,ze0 (zdz h),aA (by simp),aB hr,zbV,<-zb9,yV]
theorem aHf (hq:qInv s p false) (h:p<s.size) (hr:¬decR s p=92) (hr2:¬decR s p=34):qInv s (p+decW s p) false:=by
 unfold qInv at*;rw[zbs] at hr hr2;rw[hq,ze0 (zdz h),aA (by simp),aA hr,aA hr2,zbV,<-zb9,yV]
theorem aFp (hq:qInv s p false) (h:p<s.size) (hr:decR s p=34):zal true (bl8 s)=some p:=by
 unfold qInv at*;rw[zbs] at hr;rw[hq,ze0 (zdz h),aA (by simp),aA (by omega),aB hr];show some (0+p)=_;rw[dW]
theorem sH {b:Bool} (hq:qInv s p b) (h:s.size<=p):strT (bl8 s)=(zbm,0):=by
 unfold qInv at hq;have e:zal b []=none:=by unfold zal;rw[dif_pos rfl]
 rw[zdm h,e] at hq;unfold strT;rw[hq];rfl
theorem aCu (hq:zal true (bl8 s)=some p) (h:p<s.size) (hu:zcm (s.extract 0 (p+1))=false):strT (bl8 s)=(zbm,0):=by
 unfold strT;rw[hq];simp only[<-zcv (show p+1<=s.size by omega)];unfold zcm at hu;cases e:unqB (s.extract 0 (p+1)) with
 | none=>rfl
 | some t=>rw[e] at hu;cases hu
theorem aCe (hq:zal true (bl8 s)=some p) (h:p<s.size) (hu:zcm (s.extract 0 (p+1))=true):strT (bl8 s)=(⟨3,0,unqT (s.extract 0 (p+1))⟩,p+1):=by
 unfold strT;rw[hq];simp only[<-zcv (show p+1<=s.size by omega)];unfold zcm at hu;unfold unqT;cases e:unqB (s.extract 0 (p+1)) with
 | none=>rw[e] at hu;cases hu
 | some t=>rfl
theorem pB (a b:ByteArray):hasP a b=(bl8 b).isPrefixOf (bl8 a):=by
 rw[vF,j8];unfold hasP;rw[cY,aI,aI];constructor
 · rintro ⟨h1,h2⟩;rw[zcv h1] at h2;have:=aG bl8 h2;rw[zbt] at this;exact⟨(bl8 a).drop b.size,by rw[<-this,d8]⟩
 rintro ⟨t,ht⟩;have hl:=aG List.length ht;rw[c7,zV,zV] at hl;have h1:b.size<=a.size:=by omega
 refine⟨h1,?_⟩;rw[zcv h1,<-ht,vU (zV b),zeJ]
theorem sG {xs:List ByteArray} {k:Nat} {x:ByteArray} (hx:xs[k]?=some x) (h:zaj xs (bl8 s)=zaj (xs.drop k) (bl8 s)) (hp:hasP s x=true):zaj xs (bl8 s)=(⟨5,0,x⟩,x.size):=by
 rw[pB] at hp;rw[h,zeL hx];unfold zaj;rw[aB hp]
theorem aAt {xs:List ByteArray} {k:Nat} {x:ByteArray} (hx:xs[k]?=some x) (h:zaj xs (bl8 s)=zaj (xs.drop k) (bl8 s)) (hp:hasP s x=false):zaj xs (bl8 s)=zaj (xs.drop (k+1)) (bl8 s):=by
 rw[pB] at hp;rw[h,zeL hx];conv=>lhs;unfold zaj
 rw[aA (by rw[hp];simp)]
theorem lR {xs:List ByteArray} {k:Nat} (h:zaj xs (bl8 s)=zaj (xs.drop k) (bl8 s)) (hk:xs.length<=k):zaj xs (bl8 s)=(zbm,0):=by
 rw[h,jO.2 hk];rfl
theorem dec0:(decL (bl8 s)).1=decR s 0:=by rw[zbs];rfl
theorem zex (h:zD ((decR s 0:Nat):Int)=1):zg (bl8 s)=zcg (bl8 s):=by unfold zg;rw[dec0,aB h]
theorem gS (h:¬zD ((decR s 0:Nat):Int)=1) (h2:zD ((decR s 0:Nat):Int)=2):zg (bl8 s)=numT (bl8 s):=by unfold zg;rw[dec0,aA h,aB h2]
theorem zds (h:¬zD ((decR s 0:Nat):Int)=1) (h2:¬zD ((decR s 0:Nat):Int)=2) (h3:decR s 0=34):zg (bl8 s)=strT (bl8 s):=by unfold zg;rw[dec0,aA h,aA h2,aB h3]
theorem zew (h:¬zD ((decR s 0:Nat):Int)=1) (h2:¬zD ((decR s 0:Nat):Int)=2) (h3:¬decR s 0=34):zg (bl8 s)=zbS (bl8 s):=by unfold zg;rw[dec0,aA h,aA h2,aA h3]
theorem aHv (h:0<s.size):bl8 s≠[]:=λe=>by
 have:=aG List.length e;rw[zV] at this;simp only[jE] at this;omega
theorem pE (h:0<s.size) (h2:zD ((decR s 0:Nat):Int)=2):1<=nD s:=by
 have hk:isD ((decL (bl8 s)).1:Int)=true:=by
  rw[dec0];show inK [2] _=true;unfold inK;simp[h2]
 unfold nD;rw[zcD (aHv h) hk];have:=zbi (bl8 s);omega
theorem rE:∀ (xs:List ByteArray) (l:List UInt8),(zaj xs l).2<=l.length
 | [],l=>cX _
 | x::xs,l=>by
  unfold zaj;split
  · rename_i h;rw[j8] at h;have:=h.length_le;rw[zV] at this;exact this
  exact rE xs l
theorem aUe {l:List UInt8}:(strT l).2<=l.length:=by
 have key:∀ (n:Nat) (l:List UInt8) (b:Bool) (i:Nat),l.length=n->zal b l=some i->i<l.length:=by
  intro n
  induction n using Nat.strongRecOn with
  | _ n ih=>
   intro l b i hl h;by_cases hn:l=[]
   · subst hn;unfold zal at h;rw[dif_pos rfl] at h;cases h
   have h1:=zbi l;have h2:=zdG hn;have k2:∀ (b':Bool),(zal b' (l.drop (decL l).2)).map (· +(decL l).2)=some i->i<l.length:=by
    intro b' h;cases e:zal b' (l.drop (decL l).2) with
    | none=>rw[e] at h;cases h
    | some j=>
     rw[e] at h;injection h with h;have:=ih (l.length-(decL l).2) (by omega) _ b' j cZ e;rw[cZ] at this;have h:j+(decL l).2=i:=h;omega
   rw[ze0 hn] at h;split at h
   · exact k2 _ h
   split at h
   · exact k2 _ h
   split at h
   · injection h with h;omega
   exact k2 _ h
 cases e:zal true l with
 | none=>unfold strT;rw[e];exact cX _
 | some i=>
  have h2:=key _ l true i rfl e;unfold strT;rw[e];show (match unqB (mkB (l.take (i+1))) with | none=>(zbm,0) | some t=>((⟨3,0,t⟩:TokD),i+1)).2<=_;split
  · exact cX _
  exact h2
theorem aE4 {l:List UInt8}:(zg l).2<=l.length:=by
 unfold zg;split
 · unfold zcg;split
   · exact zbE _ _
   exact cX _
 split
 · unfold numT;split
   · exact cX _
   split
   · exact zbE _ _
   split
   · exact cX _
   exact zbE _ _
 split
 · exact aUe
 exact rE _ _
def WInv (s:ByteArray) (p:Nat) (o:List TokD):Prop:=zQ (bl8 s) 0=(zbx s.size (bts s p) p).map (o++·)
theorem WInv.zero:WInv s (runL isB (bl8 s)) []:=by
 unfold WInv;rw[zcy (n:=s.size) (by rw[zV];exact cU _),dW];show zbx s.size (bts s (runL isB (bl8 s))) _=_;cases zbx s.size (bts s (runL isB (bl8 s))) (runL isB (bl8 s))<;>rfl
theorem WInv.next {o:List TokD} (h:WInv s p o) (hp:p<s.size) (h0:¬(zg (bl8 (s.extract p s.size))).2=0):
 WInv s (p+(zg (bl8 (s.extract p s.size))).2+runL isB (bl8 (s.extract (p+(zg (bl8 (s.extract p s.size))).2) s.size))) (o++[(zg (bl8 (s.extract p s.size))).1.put p]):=by
 have e1:bl8 (s.extract p s.size)=bts s p:=za5;have e2:∀ q,bl8 (s.extract q s.size)=bts s q:=λq=>za5
 unfold WInv at*;simp only[e2];rw[e1] at h0;rw[h,zaT (zdz hp) h0 (by rw[zeM];omega),zbV,zcy (n:=s.size) (by rw[zeM];omega),zbV];cases zbx s.size (bts s (p+(zg (bts s p)).2+runL isB (bts s (p+(zg (bts s p)).2)))) (p+(zg (bts s p)).2+runL isB (bts s (p+(zg (bts s p)).2)))<;>simp
theorem WInv.done {o:List TokD} (h:WInv s p o) (hp:s.size<=p):zQ (bl8 s) 0=some o:=by
 unfold WInv at h;rw[h,zdm hp,zaP];simp
theorem WInv.bad {o:List TokD} (h:WInv s p o) (hp:p<s.size) (h0:(zg (bl8 (s.extract p s.size))).2=0):zQ (bl8 s) 0=none:=by
 unfold WInv at h;rw[show bl8 (s.extract p s.size)=bts s p from za5] at h0;rw[h,zbJ (zdz hp) h0];rfl
theorem zeu (h:600<s.size):[]=lexL s/\1=lexE s:=by unfold lexL lexE;rw[aB h,aB h];exact⟨rfl,rfl⟩
theorem zfo (h:¬600<s.size) (h2:zQ (bl8 s) 0=none):[]=lexL s/\2=lexE s:=by unfold lexL lexE;rw[aA h,aA h,h2];exact⟨rfl,rfl⟩
theorem zf7 {o:List TokD} (h:¬600<s.size) (h2:zQ (bl8 s) 0=some o):o=lexL s/\0=lexE s:=by unfold lexL lexE;rw[aA h,aA h,h2];exact⟨rfl,rfl⟩
theorem gP (h:p<=s.size):p+(zg (bl8 (s.extract p s.size))).2<=s.size/\(zg (bl8 (s.extract p s.size))).2<=s.size:=by
 have h1:=aE4 (l:=bl8 (s.extract p s.size));rw[zV,cR] at h1;omega
end Lp
namespace Lp
open Go
variable {l:List UInt8} {s:ByteArray} {o:ByteArray}
theorem gF {n:Nat}:∀ (l:List UInt8) (a:Nat) (ts:List TokD),l.length=n->zQ l a=some ts->ts.length<=l.length/\∀ x∈ts,(a:Int)<=x.a/\x.a<=((a+l.length:Nat):Int):=by
 induction n using Nat.strongRecOn with
 | _ n ih=>
  intro l a ts hn h;have hrl:=zbE isB l;generalize hm:l.drop (runL isB l)=m at*;have hml:m.length=l.length-runL isB l:=by rw[<-hm,cZ]
  unfold zQ at h;rw[hm] at h;by_cases hne:m=[]
  · subst hne;rw[zaP] at h;injection h with h;subst h;exact⟨cX _,λx hx=>aH hx (by simp)⟩
  by_cases h0:(zg m).2=0
  · rw[zbJ hne h0] at h;cases h
  have hpos:=dE.2 hne;have hfl:=fL (l:=m);rw[zaT hne h0 (by omega)] at h;cases e:zQ (m.drop (zg m).2) (a+runL isB l+(zg m).2) with
  | none=>rw[e] at h;cases h
  | some t2=>
   rw[e] at h;have h:(zg m).1.put (a+runL isB l)::t2=ts:=(by injection h);have:=ih (m.drop (zg m).2).length (by rw[cZ];omega) _ _ t2 rfl e;rw[cZ] at this;subst h;refine⟨by simp only[dD];omega,λx hx=>?_⟩;rcases dH.1 hx with rfl | hx
   · show (a:Int)<=((a+runL isB l:Nat):Int)/\((a+runL isB l:Nat):Int)<=_;omega
   have:=this.2 x hx;omega
theorem ze8 (h:lexE s=0):¬600<s.size/\zQ (bl8 s) 0=some (lexL s):=by
 unfold lexE at h;by_cases hs:600<s.size
 · rw[aB hs] at h;omega
 rw[aA hs] at h;refine⟨hs,?_⟩;cases e:zQ (bl8 s) 0 with
 | none=>rw[e] at h;simp at h
 | some ts=>unfold lexL;rw[aA hs,e];rfl
theorem pZ (h:¬lexE s=0):lexL s=[]:=by
 unfold lexE at h;unfold lexL;by_cases hs:600<s.size
 · rw[aB hs]
 rw[aA hs] at h ⊢;cases e:zQ (bl8 s) 0 with
 | none=>rfl
 | some ts=>rw[e] at h;simp at h
theorem oZ (s:ByteArray):(lexL s).length<=s.size:=by
 by_cases h:lexE s=0
 · have:=(gF (bl8 s) 0 _ rfl (ze8 h).2).1;rw[zV] at this;exact this
 rw[pZ h];exact cX _
theorem aZd {ts:List TokD} (h:s.size<=600) (hw:zQ (bl8 s) 0=some ts):lexL s=ts/\lexE s=0:=by
 have h':¬600<s.size:=by omega
 unfold lexL lexE;rw[aA h',aA h',hw];exact⟨rfl,rfl⟩
theorem aWe (a b:ByteArray):bl8 (a++b)=bl8 a++bl8 b:=by simp[bl8]
theorem aNx (h:zD ((decL l).1:Int)=1):zg l=zcg l:=by unfold zg;rw[aB h]
theorem aOz (h:zD ((decL l).1:Int)=2):zg l=numT l:=by unfold zg;rw[aA (by omega),aB h]
theorem aPg (h:¬zD ((decL l).1:Int)=1) (h2:¬zD ((decL l).1:Int)=2) (h3:(decL l).1=34):zg l=strT l:=by unfold zg;rw[aA h,aA h2,aB h3]
theorem aMv (h:¬zD ((decL l).1:Int)=1) (h2:¬zD ((decL l).1:Int)=2) (h3:¬(decL l).1=34):zg l=zbS l:=by unfold zg;rw[aA h,aA h2,aA h3]
theorem zeC (n:Nat):digL n=(if n / 10=0 then [] else digL (n / 10))++[UInt8.ofNat (48+n % 10)]:=by
 conv=>lhs;unfold digL
 by_cases h:n<10
 · rw[dif_pos h,aB (by omega),Nat.mod_eq_of_lt h];rfl
 rw[dif_neg h,aA (by omega)]
def DigI (v n:Nat) (o:ByteArray):Prop:=(o=ByteArray.empty/\n=v)\/(o≠ByteArray.empty/\digL v=(if n=0 then [] else digL n)++bl8 o)
theorem DigI.zero {v:Nat}:DigI v v ByteArray.empty:=.inl ⟨rfl,rfl⟩
theorem aG4 {b:UInt8}:bl8 ((⟨#[b]⟩:ByteArray)++o)=b::bl8 o:=by simp[bl8]
theorem DigI.next {v n:Nat} (h:DigI v n o) (hc:0<n\/o=ByteArray.empty):DigI v (n / 10) ((⟨#[UInt8.ofNat (48+n % 10)]⟩:ByteArray)++o):=by
 refine .inr ⟨λe=>?_,?_⟩
 · have:=aG bl8 e;rw[aG4] at this;cases this
 rw[aG4];rcases h with ⟨rfl,rfl⟩ | ⟨hne,h⟩
 · rw[zeC];rfl
 have hn:¬n=0:=by rcases hc with hc | hc;omega;exact aH hc hne
 rw[h,aA hn,zeC n,dM];rfl
theorem DigI.done {v n:Nat} (h:DigI v n o) (h0:¬0<n) (h1:¬o=ByteArray.empty):o=digB v:=by
 rcases h with ⟨e,_⟩ | ⟨_,h⟩
 · exact aH e h1
 rw[aB (by omega),jG] at h;unfold digB;rw[h,zeJ]
def digF (a:Nat) (l:List UInt8):Nat:=l.foldl (λn b=>10*n+(b.toNat-48)) a
theorem qM (l:List UInt8):digV l=digF 0 l:=rfl
theorem nV (a:Nat) (l r:List UInt8):digF a (l++r)=digF (digF a l) r:=by unfold digF;rw[List.foldl_append]
theorem aMk:∀ n:Nat,digF 0 (digL n)=n:=by
 intro n
 induction n using Nat.strongRecOn with
 | _ n ih=>
  have hb:∀ k,k<10->(UInt8.ofNat (48+k)).toNat=48+k:=λk hk=>by simp;omega
  unfold digL;by_cases h:n<10
  · rw[dif_pos h];show 10*0+((UInt8.ofNat (48+n)).toNat-48)=n;rw[hb n h];omega
  rw[dif_neg h,nV,ih (n / 10) (by omega)];show 10*(n / 10)+((UInt8.ofNat (48+n % 10)).toNat-48)=n;rw[hb _ (by omega)];omega
theorem lK:∀ k:Nat,digF 0 (List.replicate k 48)=0
 | 0=>rfl
 | k+1=>by rw[List.replicate_succ];exact lK k
def aOq (l:List UInt8):Prop:=∀ b∈l,48<=b.toNat/\b.toNat<=57
theorem aQm:∀ n:Nat,aOq (digL n):=by
 intro n
 induction n using Nat.strongRecOn with
 | _ n ih=>
  have hb:∀ k,k<10->(UInt8.ofNat (48+k)).toNat=48+k:=λk hk=>by simp;omega
  intro b hb';unfold digL at hb';by_cases h:n<10
  · rw[dif_pos h] at hb';rw[jJ.1 hb',hb n h];omega
  rw[dif_neg h] at hb';rcases jV.1 hb' with h2 | h2
  · exact ih (n / 10) (by omega) b h2
  rw[jJ.1 h2,hb _ (by omega)];omega
theorem aM2 (n:Nat):1<=(digL n).length:=by rw[zeC,c7];simp
def numD (k v:Nat):List UInt8:=List.replicate k 48++digL v
theorem zdM (k v:Nat):aOq (numD k v):=λb hb=>by
 rcases jV.1 hb with h | h
 · rw[List.eq_of_mem_replicate h];decide
 exact aQm v b h
theorem aCi (k v:Nat):digF 0 (numD k v)=v:=by unfold numD;rw[nV,lK,aMk]
theorem qN (k v:Nat):numD k v≠[]:=λe=>by
 have:=aG List.length e;unfold numD at this;rw[c7] at this;have h2:=aM2 v;simp only[jE] at this;omega
theorem qZ {b:UInt8} (hb:48<=b.toNat/\b.toNat<=57) (t:List UInt8):zD ((decL (b::t)).1:Int)=2/\(decL (b::t)).2=1:=by
 rw[zai (by omega)];refine⟨?_,rfl⟩;show zD ((b.toNat:Nat):Int)=2;unfold zD;(repeat (any_goals split))<;>omega
theorem zel {f:Int->Bool} (hf:∀ r:Int,zD r=2->f r=true):∀ (l:List UInt8) (x:List UInt8),aOq l->runL f (l++x)=l.length+runL f x
 | [],x,_=>by simp
 | b::t,x,h=>by
  obtain ⟨h1,h2⟩:=qZ (h b cW) (t++x);rw[d9,zcD (by simp) (hf _ h1),h2];show 1+runL f (t++x)=_;rw[zel hf t x (λc hc=>h c (dA _ hc)),dD];omega
theorem aSx:∀ r:Int,zD r=2->isD r=true:=λr h=>by show inK [2] r=true;unfold inK;simp[h]
theorem aIl:∀ r:Int,zD r=2->isLD r=true:=λr h=>by show inK [1,2] r=true;unfold inK;simp[h]
theorem a1u {r:Int} (h:zD r=2):isB r=false:=by show inK [3] r=false;unfold inK;simp[h]
theorem sE (h:aOq l) (hne:l≠[]) (u:List UInt8):zg (l++u)=numT (l++u)/\runL isB (l++u)=0:=by
 cases l with
 | nil=>exact aH rfl hne
 | cons b t=>
  obtain ⟨h1,_⟩:=qZ (h b cW) (t++u);exact⟨aOz h1,zdc (a1u h1)⟩
theorem aHl {x:TokD} (hne:l≠[]) (hb:runL isB l=0) (hf:zg l=(x,l.length)):zQ l 0=some [x.put 0]:=by
 have hl:=dE.2 hne;unfold zQ;rw[hb];show zbx l.length l 0=_;rw[zaT hne (by rw[hf];show ¬l.length=0;omega) (cU _),hf];show (zQ (l.drop l.length) _).map _=_;rw[List.drop_length];unfold zQ;rw[zcH,List.drop_nil,zaP];rfl
theorem aA5:∀ (k n:Nat),n<10 ^ (k+1)->(digL n).length<=k+1
 | 0,n,h=>by
  have h:n<10:=by simpa using h
  rw[zeC,aB (by omega)];simp
 | k+1,n,h=>by
  rw[zeC];split
  · simp
  have:=aA5 k (n / 10) (by rw[Nat.pow_succ] at h;omega);rw[c7,cT];omega
theorem aHr {n:Nat} (h:n<=9223372036854775807):(digB n).size<=20:=by
 unfold digB;rw[zah];exact aA5 19 n (wC h (by decide))
end Lp
