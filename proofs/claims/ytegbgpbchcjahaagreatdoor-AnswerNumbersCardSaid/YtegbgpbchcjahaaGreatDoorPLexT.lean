import Derived.Laws.Externs
import Derived.Laws.BytesArg
import Derived.Test.YtegbgpbchcjahaaGreatDoorPParse
set_option linter.all false
namespace Lp
open Go
def Rd.w (s:Rd):Int:=s.n+2*(s.l.length:Int)
structure Stp (c:Int) (s t:Rd):Prop where
 l:t.l <:+s.l
 w:t.w<=s.w+c
 n:s.n<=t.n
def mT (s:Rd):Stp 0 s s:=⟨List.suffix_refl _,by omega,u6 _⟩
def Stp.len {c:Int} {s t:Rd} (h:Stp c s t):t.l.length<=s.l.length:=h.l.length_le
def Stp.trans {c d:Int} {s t u:Rd} (h:Stp c s t) (k:Stp d t u):Stp (c+d) s u:=⟨k.l.trans h.l,by have:=h.w;have:=k.w;omega,Int.le_trans h.n k.n⟩
def Stp.le {c d:Int} {s t:Rd} (h:Stp c s t) (hc:c<=d):Stp d s t:=⟨h.l,by have:=h.w;omega,h.n⟩
def Stp.bad {c:Int} {s t:Rd} (h:Stp c s t) (b:Bool):Stp c s ⟨t.l,t.n,b⟩:=⟨h.l,h.w,h.n⟩
def oT {l:List TokD} (h:l≠[]):l.tail.length+1=l.length:=by
 cases l with
 | nil=>exact aH rfl h
 | cons x l=>rfl
def zgt {s:Rd} {k:Int} (hk:k≠0) (h:s.pk.k=k):s.l≠[]:=λe=>by
 unfold Rd.pk at h;rw[e] at h;exact hk h.symm
def z8 (s:Rd) (k:Int) (ts:List Ba):Stp 0 s (s.take k ts).2.2:=by
 unfold Rd.take;split
 · exact mT s
 refine⟨vF _,?_,u6 _⟩;unfold Rd.w;simp only[List.length_tail];omega
def za3 {s:Rd} {k:Int} {ts:List Ba} (hk:k≠0) (h:(s.take k ts).2.1=true):(s.take k ts).2.2.l.length+1=s.l.length/\Stp (-2) s (s.take k ts).2.2/\s.b=false/\(s.take k ts).2.2.b=false/\s.is k ts=true:=by
 unfold Rd.take at h ⊢;split at h
 · cases h
 rename_i hc;rw[aA hc];have hb:s.b=false:=by cases e:s.b with
  | false=>rfl
  | true=>exact aH (Or.inl e) hc
 have hi:s.is k ts=true:=by cases e:s.is k ts with
  | true=>rfl
  | false=>exact aH (Or.inr e) hc
 have hne:s.l≠[]:=zgt hk (by unfold Rd.is at hi;simp only[cU,aI] at hi;exact hi.1);have hl:=oT hne;refine⟨hl,⟨vF _,?_,u6 _⟩,hb,hb,hi⟩;unfold Rd.w;simp only;omega
def zaa (s:Rd) (t:Ba):Stp 0 s (s.must t):=(z8 s 5 [t]).bad _
def zco (s:Rd) (k:Int):Stp 0 s (s.any k).2:=by
 unfold Rd.any;split
 · exact(mT s).bad _
 refine⟨vF _,?_,u6 _⟩;unfold Rd.w;simp only[List.length_tail];omega
def zf4 {s:Rd} {k:Int} (hk:k≠0) (hb:s.b=false) (h:s.pk.k=k):(s.any k).2.l.length+1=s.l.length/\Stp (-2) s (s.any k).2/\(s.any k).1=s.pk.t/\(s.any k).2.b=false:=by
 unfold Rd.any;rw[aA (by rw[hb,h];simp)];have hl:=oT (zgt hk h);refine⟨hl,⟨vF _,?_,u6 _⟩,rfl,hb⟩;unfold Rd.w;simp only;omega
def zdn (s:Rd):Stp 1 s s.node:=⟨List.suffix_refl _,by unfold Rd.node Rd.w;simp only;omega,by unfold Rd.node;simp only;omega⟩
def oH:∀ (f:Nat) (o:List Ba) (s:Rd),Stp 0 s (namesF f o s).2
 | 0,o,s=>mT s
 | f+1,o,s=>by
  unfold namesF;split
  · exact mT s
  have h:=(zco s 1).trans (z8 (s.any 1).2 5 [zV]);split
  · exact(h.trans (oH f _ _)).le (by omega)
  exact h.le (by omega)
def kZ (s:Rd):Stp 0 s s.names.2:=by
 unfold Rd.names;split
 · exact((zaa s _).trans (zaa _ _)).le (by omega)
 exact(((zaa s _).trans (oH _ _ _)).trans (zaa _ _)).le (by omega)
def zcg (s:Rd) (a b:Ba):Stp 0 s (s.mode a b).2.2:=by
 unfold Rd.mode;split
 · exact z8 s 1 _
 split
 · exact((z8 s 1 _).trans (kZ _)).le (by omega)
 exact((z8 s 1 _).trans (kZ _)).le (by omega)
def nV {part:Rd->Nd×Rd} {signs:List Ba} (hp:∀ s,Stp 1 s (part s).2):∀ (f:Nat) (o:Nd) (s:Rd),Stp 0 s (zaO part signs f o s).2
 | 0,o,s=>mT s
 | f+1,o,s=>by
  unfold zaO;split
  · exact z8 s 5 _
  rename_i h;have h:(s.take 5 signs).2.1=true:=by simpa using h
  have h1:=(za3 (by decide) h).2.1;have h2:=h1.trans (zcg (s.take 5 signs).2.2 tOn zQ);have h3:=h2.trans (hp ((s.take 5 signs).2.2.mode tOn zQ).2.2);have h4:=h3.trans (zdn _);exact(h4.trans (nV hp f _ _)).le (by omega)
def kR {part:Rd->Nd×Rd} (hp:∀ s,Stp 1 s (part s).2) (s:Rd) (signs:List Ba):Stp 1 s (s.level part signs).2:=by
 unfold Rd.level;exact((hp s).trans (nV hp _ _ _)).le (by omega)
def iY:∀ (f:Nat) (o:List MatD) (s:Rd),Stp 0 s (bracesF f o s).2
 | 0,o,s=>mT s
 | f+1,o,s=>by
  unfold bracesF;split
  · exact mT s
  have h:=((((zco s 1).trans (z8 (s.any 1).2 5 [tEq,tNe,zbd,zag])).bad (((s.any 1).2.take 5 [tEq,tNe,zbd,zag]).2.2.b||!((s.any 1).2.take 5 [tEq,tNe,zbd,zag]).2.1)).trans (zco _ 3)).trans (z8 _ 5 [zV]);simp only;split
  · exact(h.trans (iY f _ _)).le (by omega)
  exact h.le (by omega)
def zbu (s:Rd) (k:Int):Stp 0 s (s.number k).2:=zco s k
section
variable (rm:List MatD->Bool)
def nZ (s:Rd):Stp 0 s (s.braces rm).2:=by
 unfold Rd.braces;split
 · exact((zaa s _).trans (zaa _ _)).le (by omega)
 exact((((zaa s _).trans (iY _ _ _)).trans (zaa _ _)).bad _).le (by omega)
def hC (s:Rd):Stp 1 s (s.selector rm).2:=by
 have h1:Stp 0 s s.selName.2:=by unfold Rd.selName;split;exact zco s 1;exact mT s
 have h2:∀ (s:Rd) t,Stp 0 s (s.selMs rm t).2:=λs t=>by unfold Rd.selMs;split;exact nZ rm s;exact(mT s).bad _
 have h3:∀ s:Rd,Stp 0 s s.selWin.2:=λs=>by
  unfold Rd.selWin;split
  · exact(((z8 s 5 [tSq]).trans (zbu _ 4)).trans (zaa _ _)).le (by omega)
  exact z8 s 5 _
 exact(((h1.trans (h2 _ _)).trans (h3 _)).trans (zdn _)).le (by omega)
def aBi {s:Rd} {ex:Rd->Nd×Rd} (hp:∀ s,Stp 1 s (ex s).2) (hb:s.b=false) (hk:s.pk.k=1):Stp 1 s (s.aggr ex).2:=by
 have h1:=(zf4 (by decide) hb hk).2.1;have h2:=(h1.trans (zcg (s.any 1).2 tBy zN)).trans (zaa _ zE);unfold Rd.aggr;simp only;split
 · exact(((((h2.trans (zbu _ 2)).trans (zaa _ zV)).trans (hp _)).trans (zaa _ zL)).trans (zdn _)).le (by omega)
 exact(((h2.trans (hp _)).trans (zaa _ zL)).trans (zdn _)).le (by omega)
def aCj {ex:Rd->Nd×Rd} (hp:∀ s,Stp 1 s (ex s).2) (s:Rd):Stp 1 s (s.prim rm ex).2:=by
 unfold Rd.prim;split
 · exact(mT s).le (by omega)
 rename_i hb;have hb:s.b=false:=by simpa using hb
 split
 · exact((zbu s 2).trans (zdn _)).le (by omega)
 split
 · exact(((zaa s zE).trans (hp _)).trans (zaa _ zL)).le (by omega)
 split
 · rename_i h;exact aBi hp hb h.1
 split
 · rename_i h;have h1:=(zf4 (by decide) hb h.1).2.1;exact((((h1.trans (zaa _ zE)).trans (hp _)).trans (zdn _)).trans (zaa _ zL)).le (by omega)
 exact hC rm s
def zbU {ex:Rd->Nd×Rd} (hp:∀ s,Stp 1 s (ex s).2):∀ (f:Nat) (s:Rd),Stp 1 s (zat rm ex f s).2
 | 0,s=>(mT s).le (by omega)
 | f+1,s=>by
  unfold zat;split
  · rename_i h;exact(((za3 (by decide) h).2.1.trans (zbU hp f _)).trans (zdn _)).le (by omega)
  exact((z8 s 5 _).trans (aCj rm hp _)).le (by omega)
def zdH {ex:Rd->Nd×Rd} (hp:∀ s,Stp 1 s (ex s).2) (s:Rd):Stp 1 s (zfb rm ex s).2:=kR (λs=>zbU rm hp _ s) s _
def zbH {ex:Rd->Nd×Rd} (hp:∀ s,Stp 1 s (ex s).2) (s:Rd):Stp 1 s (sumP rm ex s).2:=kR (λs=>zdH rm hp s) s _
def zab:∀ (f:Nat) (s:Rd),Stp 1 s (za5 rm f s).2
 | 0,s=>(mT s).le (by omega)
 | f+1,s=>by unfold za5;exact kR (λs=>zbH rm (zab f) s) s _
end
end Lp
namespace Lp
open Go
def zac {b:UInt8} {t:List UInt8} (h:b.toNat<128):decL (b::t)=(b.toNat,1):=by
 unfold decL;have:gb (b::t) 0=b.toNat:=rfl;rw[this,aB h]
def zdU {b:Bool} {l:List UInt8} (h:l≠[]):zaz b l=if b=true then(zaz false (l.drop (decL l).2)).map (· +(decL l).2)
 else if (decL l).1=92 then(zaz true (l.drop (decL l).2)).map (· +(decL l).2)
 else if (decL l).1=34 then some 0
 else(zaz false (l.drop (decL l).2)).map (· +(decL l).2):=by
 conv=>lhs;unfold zaz
 rw[dif_neg h]
def aI6 {b:Bool}:zaz b []=none:=by unfold zaz;rw[dif_pos rfl]
def aCd:∀ (n:Nat) (l:List UInt8) (b:Bool) (i:Nat),l.length=n->zaz b l=some i->i<l.length:=by
 intro n
 induction n using Nat.strongRecOn with
 | _ n ih=>
  intro l b i hl h;by_cases hn:l=[]
  · subst hn;rw[aI6] at h;cases h
  have h1:=zbL l;have h2:=zfY hn;have key:∀ (b':Bool),(zaz b' (l.drop (decL l).2)).map (· +(decL l).2)=some i->i<l.length:=by
   intro b' h;cases e:zaz b' (l.drop (decL l).2) with
   | none=>rw[e] at h;cases h
   | some j=>
    rw[e] at h;injection h with h;have:=ih (l.length-(decL l).2) (by omega) _ b' j c7 e;rw[c7] at this;have h:j+(decL l).2=i:=h;omega
  rw[zdU hn] at h;split at h
  · exact key _ h
  split at h
  · exact key _ h
  split at h
  · injection h with h;omega
  exact key _ h
def lJ:∀ (xs:List Ba) (l:List UInt8),(zak xs l).2<=l.length
 | [],l=>cT _
 | x::xs,l=>by
  unfold zak;split
  · rename_i h;rw[uR] at h;have:=h.length_le;rw[zar] at this;exact this
  exact lJ xs l
def kI {l:List UInt8}:(zj l).2<=l.length:=by
 unfold zj;split
 · unfold zca;split
   · exact zbY _ _
   exact cT _
 split
 · unfold numT;split
   · exact cT _
   split
   · exact zbY _ _
   split
   · exact cT _
   exact zbY _ _
 split
 · cases e:zaz true l with
   | none=>unfold strT;rw[e];exact cT _
   | some i=>
    have h2:=aCd _ l true i rfl e;unfold strT;rw[e];show (match unqB (mkB (l.take (i+1))) with | none=>(zbo,0) | some t=>((⟨3,0,t⟩:TokD),i+1)).2<=_;split
    · exact cT _
    exact h2
 exact lJ _ _
def oN {g:List UInt8} (hg:∀ b∈g,b=32\/b=9\/b=10) (x:List UInt8):runL isB (g++x)=g.length+runL isB x:=by
 induction g with
 | nil=>simp
 | cons b t ih=>
  have hb:=hg b cR;have hlt:b.toNat<128:=by rcases hb with rfl | rfl | rfl<;>decide
  have hk:isB ((decL (b::(t++x))).1:Int)=true:=by
   rw[zac hlt];rcases hb with rfl | rfl | rfl<;>decide
  rw[jX,zcI (by simp) hk,zac hlt];show 1+runL isB (t++x)=_;rw[ih (λc hc=>hg c (cV _ hc)),dH];omega
def gX {g:List UInt8} (hg:∀ b∈g,b=32\/b=9\/b=10) (x:List UInt8) (a:Nat):zO (g++x) a=zO x (a+g.length):=by
 rw[zdD (n:=g.length+x.length) (by simp),zdD (n:=g.length+x.length) (by simp),oN hg];rw[<-List.drop_drop,uX];congr 1;omega
def TokD.by (x:TokD) (c:Nat):TokD:=⟨x.k,x.a+(c:Int),x.t⟩
def aEj (c:Nat):∀ (n:Nat) (l:List UInt8) (a:Nat),l.length=n->zO l (a+c)=(zO l a).map (·.map (·.by c)):=by
 intro n
 induction n using Nat.strongRecOn with
 | _ n ih=>
  intro l a hn;have hrl:=zbY isB l;generalize hm:l.drop (runL isB l)=m;have hml:m.length=l.length-runL isB l:=by rw[<-hm,c7]
  unfold zO;rw[hm];by_cases hne:m=[]
  · subst hne;rw[zaR,zaR];rfl
  by_cases h0:(zj m).2=0
  · rw[zbD hne h0,zbD hne h0];rfl
  have hpos:=dW.2 hne;rw[zbi hne h0 (by omega),zbi hne h0 (by omega)];have e:a+c+runL isB l+(zj m).2=a+runL isB l+(zj m).2+c:=by omega
  rw[e,ih (m.drop (zj m).2).length (by rw[c7];omega) _ _ rfl];have e2:(zj m).1.put (a+c+runL isB l)=((zj m).1.put (a+runL isB l)).by c:=by
   unfold TokD.put TokD.by;congr 1;show ((a+c+runL isB l:Nat):Int)=((a+runL isB l:Nat):Int)+(c:Int);omega
  rw[e2];cases zO (m.drop (zj m).2) (a+runL isB l+(zj m).2)<;>simp
variable {s:Ba} {p:Nat} {f:Int->Bool}
def tM:runL f (bl8 s)=0+runL f (bts s 0):=by rw[dS];rfl
def aCr (hf:runL f (bl8 s)=p+runL f (bts s p)) (h:p<s.size) (ht:f ((decR s p:Nat):Int)=true):runL f (bl8 s)=(p+decW s p)+runL f (bts s (p+decW s p)):=by
 rw[zbK] at ht;rw[hf,zcI (zfq h) ht,zdr,<-zcV,vH]
def qT (hf:runL f (bl8 s)=p+runL f (bts s p)) (ht:f ((decR s p:Nat):Int)=false):p=runL f (bl8 s):=by
 rw[zbK] at ht;rw[hf,zds ht];rfl
def xV (hf:runL f (bl8 s)=p+runL f (bts s p)) (h:s.size<=p) (hp:p<=s.size):s.size=runL f (bl8 s):=by
 rw[hf,zeZ h,zcf];omega
def zbk (f:Int->Bool) (s:Ba):runL f (bl8 s)<=s.size:=by rw[<-zar];exact zbY f _
def aAn (ks:List Int) (r:Int):hasI ks (zC r)=inK ks r:=rfl
def zcT {n:Nat} (h:n<=s.size):s.extract 0 n=mkB ((bl8 s).take n):=by rw[gL h,d8]
def aBq:s.extract p s.size=mkB ((bl8 s).drop p):=by
 rw[gL (cW _),c6 (by rw[zar];omega)]
def aN3 {f g:Int->Bool} (h:∀ r,f r=true->g r=true):∀ (n:Nat) (l:List UInt8),l.length=n->runL f l<=runL g l:=by
 intro n
 induction n using Nat.strongRecOn with
 | _ n ih=>
  intro l hl;by_cases hf:l≠[]/\f ((decL l).1:Int)=true
  · have h1:=zbL l;have h2:=dW.2 hf.1;rw[zcI hf.1 hf.2,zcI hf.1 (h _ hf.2)];have:=ih (l.length-(decL l).2) (by omega) _ c7;omega
  have:runL f l=0:=by unfold runL;rw[dif_neg hf]
  omega
def aZg (s:Ba):runL (inK [2]) (bl8 s)<=runL (inK [1,2]) (bl8 s):=aN3 (λr hr=>by
 unfold inK at*;simp only[jY,uB,jB,aI,jJ] at*;exact .inr hr) _ _ rfl
def aG8 (h:zbR (s.extract 0 (runL isLD (bl8 s)))=true):zca (bl8 s)=(⟨1,0,s.extract 0 (runL isLD (bl8 s))⟩,runL isLD (bl8 s)):=by
 unfold zca;rw[<-zcT (zbk _ s),aB h]
def aHc (h:zbR (s.extract 0 (runL isLD (bl8 s)))=false):zca (bl8 s)=(zbo,0):=by
 unfold zca;rw[<-zcT (zbk _ s),aA (by rw[h];simp)]
abbrev nD (s:Ba):Nat:=runL isD (bl8 s)
abbrev nA (s:Ba):Nat:=runL isLD (bl8 s)
abbrev vD (s:Ba):Nat:=digV ((bl8 s).take (nD s))
def zfi (h:13<nD s\/1000000000000<vD s):numT (bl8 s)=(zbo,0):=by unfold numT;rw[aB h]
def zgb (h:¬(13<nD s\/1000000000000<vD s)) (h2:nA s=nD s):numT (bl8 s)=(⟨2,0,digB (vD s)⟩,nD s):=by unfold numT;rw[aA h,aB h2]
def aI2 (h:nA s<=s.size):mkB (((bl8 s).take (nA s)).drop (nD s))=s.extract (nD s) (nA s):=(gL h).symm
def zbN (h:¬(13<nD s\/1000000000000<vD s)) (h2:¬nA s=nD s) (h3:secB (s.extract (nD s) (nA s))=0\/1000000000 / secB (s.extract (nD s) (nA s))<vD s):numT (bl8 s)=(zbo,0):=by
 unfold numT;rw[aA h,aA h2,aI2 (zbk _ s),aB h3]
def zcL (h:¬(13<nD s\/1000000000000<vD s)) (h2:¬nA s=nD s) (h3:¬(secB (s.extract (nD s) (nA s))=0\/1000000000 / secB (s.extract (nD s) (nA s))<vD s)):numT (bl8 s)=(⟨4,0,digB (vD s*secB (s.extract (nD s) (nA s)))⟩,nA s):=by
 unfold numT;rw[aA h,aA h2,aI2 (zbk _ s),aA h3]
def oJ:∀ (n:Nat) (l:List UInt8),l.length=n->∀ b∈l.take (runL isD l),48<=b.toNat/\b.toNat<=57:=by
 intro n
 induction n using Nat.strongRecOn with
 | _ n ih=>
  intro l hl b hb;by_cases h:l≠[]/\isD ((decL l).1:Int)=true
  · have h2:zC ((decL l).1:Int)=2:=by
     have h':inK [2] ((decL l).1:Int)=true:=h.2;unfold inK at h';simp only[jY,uB,jB,aI] at h';exact h'.symm
    have hr:48<=(decL l).1/\(decL l).1<=57:=(by unfold zC at h2;(repeat (split at h2))<;>omega);cases l with
    | nil=>exact aH rfl h.1
    | cons c r=>
     have hc:c.toNat=(decL (c::r)).1/\(decL (c::r)).2=1:=by
      have hg:gb (c::r) 0=c.toNat:=rfl;by_cases h1:c.toNat<128
      · unfold decL;rw[hg,aB h1];exact⟨rfl,rfl⟩
      exfalso;revert hr;unfold decL;rw[hg,aA h1];have l0:c.toNat<256:=uY _
      (repeat (any_goals split))<;>simp_all<;>omega
     rw[zcI h.1 h.2,hc.2,Nat.add_comm,vW,List.drop_one,List.tail_cons] at hb;rcases dD.1 hb with e | e
     · rw[e];omega
     exact ih r.length (by simp only[dH] at hl;omega) r rfl b e
  unfold runL at hb;rw[dif_neg h] at hb;cases hb
def aYa {l:List UInt8} (h:∀ b∈l,48<=b.toNat/\b.toNat<=57) (hl:l.length<=13):digV l<10000000000000:=by
 have key:∀ (l:List UInt8) (acc k:Nat),(∀ b∈l,48<=b.toNat/\b.toNat<=57)->acc<10 ^ k->l.length+k<=13->l.foldl (λn b=>10*n+(b.toNat-48)) acc<10 ^ 13:=by
  intro l
  induction l with
  | nil=>intro acc k _ ha hl;exact uF ha (wP (by omega) (by simpa using hl))
  | cons c r ih=>
   intro acc k h ha hl;have hc:=h c cR;exact ih _ (k+1) (λb hb=>h b (cV _ hb)) (by show 10*acc+(c.toNat-48)<10 ^ (k+1);rw[Nat.pow_succ];omega) (by simp only[dH] at hl;omega)
 have:=key l 0 0 h (by decide) (by omega);have h13:(10:Nat) ^ 13=10000000000000:=by decide
 unfold digV;omega
def aD5 (s:Ba):secB s=0\/secB s=1\/secB s=60\/secB s=3600:=by unfold secB;(repeat (any_goals split))<;>simp
def aNs {b:Bool} {l:List UInt8} (h:l≠[]):zaz b l=if b=true then(zaz false (l.drop (decL l).2)).map (· +(decL l).2)
 else if (decL l).1=92 then(zaz true (l.drop (decL l).2)).map (· +(decL l).2)
 else if (decL l).1=34 then some 0
 else(zaz false (l.drop (decL l).2)).map (· +(decL l).2):=by
 conv=>lhs;unfold zaz
 rw[dif_neg h]
def aB0 (a b:Ba):hasP a b=(bl8 b).isPrefixOf (bl8 a):=by
 rw[wO,uR];unfold hasP;rw[cU,aI,aI];constructor
 · rintro ⟨h1,h2⟩;rw[zcT h1] at h2;have:=aG bl8 h2;rw[zdv] at this;exact⟨(bl8 a).drop b.size,by rw[<-this,dF]⟩
 rintro ⟨t,ht⟩;have hl:=aG List.length ht;rw[cO,zar,zar] at hl;have h1:b.size<=a.size:=by omega
 refine⟨h1,?_⟩;rw[zcT h1,<-ht,wQ (zar b),aAk]
def rN {xs:List Ba} {k:Nat} {x:Ba} (hx:xs[k]?=some x) (h:zak xs (bl8 s)=zak (xs.drop k) (bl8 s)) (hp:hasP s x=true):zak xs (bl8 s)=(⟨5,0,x⟩,x.size):=by
 rw[aB0] at hp;rw[h,zb9 hx];unfold zak;rw[aB hp]
def yL {xs:List Ba} {k:Nat} {x:Ba} (hx:xs[k]?=some x) (h:zak xs (bl8 s)=zak (xs.drop k) (bl8 s)) (hp:hasP s x=false):zak xs (bl8 s)=zak (xs.drop (k+1)) (bl8 s):=by
 rw[aB0] at hp;rw[h,zb9 hx];conv=>lhs;unfold zak
 rw[aA (by rw[hp];simp)]
def nU {xs:List Ba} {k:Nat} (h:zak xs (bl8 s)=zak (xs.drop k) (bl8 s)) (hk:xs.length<=k):zak xs (bl8 s)=(zbo,0):=by
 rw[h,jZ.2 hk];rfl
def dec0:(decL (bl8 s)).1=decR s 0:=by rw[zbK];rfl
def zeO (h:zC ((decR s 0:Nat):Int)=1):zj (bl8 s)=zca (bl8 s):=by unfold zj;rw[dec0,aB h]
def iN (h:¬zC ((decR s 0:Nat):Int)=1) (h2:zC ((decR s 0:Nat):Int)=2):zj (bl8 s)=numT (bl8 s):=by unfold zj;rw[dec0,aA h,aB h2]
def zeN (h:¬zC ((decR s 0:Nat):Int)=1) (h2:¬zC ((decR s 0:Nat):Int)=2) (h3:¬decR s 0=34):zj (bl8 s)=zbI (bl8 s):=by unfold zj;rw[dec0,aA h,aA h2,aA h3]
def aPf (h:0<s.size):bl8 s≠[]:=λe=>by
 have:=aG List.length e;rw[zar] at this;simp only[uJ] at this;omega
def qU (h:0<s.size) (h2:zC ((decR s 0:Nat):Int)=2):1<=nD s:=by
 have hk:isD ((decL (bl8 s)).1:Int)=true:=by
  rw[dec0];show inK [2] _=true;unfold inK;simp[h2]
 unfold nD;rw[zcI (aPf h) hk];have:=zbL (bl8 s);omega
def sQ:∀ (xs:List Ba) (l:List UInt8),(zak xs l).2<=l.length
 | [],l=>cT _
 | x::xs,l=>by
  unfold zak;split
  · rename_i h;rw[uR] at h;have:=h.length_le;rw[zar] at this;exact this
  exact sQ xs l
def aRg {l:List UInt8}:(strT l).2<=l.length:=by
 have key:∀ (n:Nat) (l:List UInt8) (b:Bool) (i:Nat),l.length=n->zaz b l=some i->i<l.length:=by
  intro n
  induction n using Nat.strongRecOn with
  | _ n ih=>
   intro l b i hl h;by_cases hn:l=[]
   · subst hn;unfold zaz at h;rw[dif_pos rfl] at h;cases h
   have h1:=zbL l;have h2:=zfY hn;have k2:∀ (b':Bool),(zaz b' (l.drop (decL l).2)).map (· +(decL l).2)=some i->i<l.length:=by
    intro b' h;cases e:zaz b' (l.drop (decL l).2) with
    | none=>rw[e] at h;cases h
    | some j=>
     rw[e] at h;injection h with h;have:=ih (l.length-(decL l).2) (by omega) _ b' j c7 e;rw[c7] at this;have h:j+(decL l).2=i:=h;omega
   rw[aNs hn] at h;split at h
   · exact k2 _ h
   split at h
   · exact k2 _ h
   split at h
   · injection h with h;omega
   exact k2 _ h
 cases e:zaz true l with
 | none=>unfold strT;rw[e];exact cT _
 | some i=>
  have h2:=key _ l true i rfl e;unfold strT;rw[e];show (match unqB (mkB (l.take (i+1))) with | none=>(zbo,0) | some t=>((⟨3,0,t⟩:TokD),i+1)).2<=_;split
  · exact cT _
  exact h2
def aDn {l:List UInt8}:(zj l).2<=l.length:=by
 unfold zj;split
 · unfold zca;split
   · exact zbY _ _
   exact cT _
 split
 · unfold numT;split
   · exact cT _
   split
   · exact zbY _ _
   split
   · exact cT _
   exact zbY _ _
 split
 · exact aRg
 exact sQ _ _
def WInv (s:Ba) (p:Nat) (o:List TokD):Prop:=zO (bl8 s) 0=(zbE s.size (bts s p) p).map (o++·)
def WInv.zero:WInv s (runL isB (bl8 s)) []:=by
 unfold WInv;rw[zdD (n:=s.size) (by rw[zar];exact cW _),dS];show zbE s.size (bts s (runL isB (bl8 s))) _=_;cases zbE s.size (bts s (runL isB (bl8 s))) (runL isB (bl8 s))<;>rfl
def WInv.next {o:List TokD} (h:WInv s p o) (hp:p<s.size) (h0:¬(zj (bl8 (s.extract p s.size))).2=0):
 WInv s (p+(zj (bl8 (s.extract p s.size))).2+runL isB (bl8 (s.extract (p+(zj (bl8 (s.extract p s.size))).2) s.size))) (o++[(zj (bl8 (s.extract p s.size))).1.put p]):=by
 have e1:bl8 (s.extract p s.size)=bts s p:=zbC;have e2:∀ q,bl8 (s.extract q s.size)=bts s q:=λq=>zbC
 unfold WInv at*;simp only[e2];rw[e1] at h0;rw[h,zbi (zfq hp) h0 (by rw[zfZ];omega),zdr,zdD (n:=s.size) (by rw[zfZ];omega),zdr];cases zbE s.size (bts s (p+(zj (bts s p)).2+runL isB (bts s (p+(zj (bts s p)).2)))) (p+(zj (bts s p)).2+runL isB (bts s (p+(zj (bts s p)).2)))<;>simp
def WInv.done {o:List TokD} (h:WInv s p o) (hp:s.size<=p):zO (bl8 s) 0=some o:=by
 unfold WInv at h;rw[h,zeZ hp,zaR];simp
def WInv.bad {o:List TokD} (h:WInv s p o) (hp:p<s.size) (h0:(zj (bl8 (s.extract p s.size))).2=0):zO (bl8 s) 0=none:=by
 unfold WInv at h;rw[show bl8 (s.extract p s.size)=bts s p from zbC] at h0;rw[h,zbD (zfq hp) h0];rfl
def zeH (h:600<s.size):[]=lexL s/\1=lexE s:=by unfold lexL lexE;rw[aB h,aB h];exact⟨rfl,rfl⟩
def zfv (h:¬600<s.size) (h2:zO (bl8 s) 0=none):[]=lexL s/\2=lexE s:=by unfold lexL lexE;rw[aA h,aA h,h2];exact⟨rfl,rfl⟩
def zge {o:List TokD} (h:¬600<s.size) (h2:zO (bl8 s) 0=some o):o=lexL s/\0=lexE s:=by unfold lexL lexE;rw[aA h,aA h,h2];exact⟨rfl,rfl⟩
def gW (h:p<=s.size):p+(zj (bl8 (s.extract p s.size))).2<=s.size/\(zj (bl8 (s.extract p s.size))).2<=s.size:=by
 have h1:=aDn (l:=bl8 (s.extract p s.size));rw[zar,dK] at h1;omega
end Lp
namespace Lp
open Go
variable {l:List UInt8} {s:Ba} {b:UInt8} {o:Ba} {n:Nat} {v:Nat} {t:List UInt8}
def gT:∀ (l:List UInt8) (a:Nat) (ts:List TokD),l.length=n->zO l a=some ts->ts.length<=l.length/\∀ x∈ts,(a:Int)<=x.a/\x.a<=((a+l.length:Nat):Int):=by
 induction n using Nat.strongRecOn with
 | _ n ih=>
  intro l a ts hn h;have hrl:=zbY isB l;generalize hm:l.drop (runL isB l)=m at*;have hml:m.length=l.length-runL isB l:=by rw[<-hm,c7]
  unfold zO at h;rw[hm] at h;by_cases hne:m=[]
  · subst hne;rw[zaR] at h;injection h with h;subst h;exact⟨cT _,λx hx=>aH hx (by simp)⟩
  by_cases h0:(zj m).2=0
  · rw[zbD hne h0] at h;cases h
  have hpos:=dW.2 hne;have hfl:=kI (l:=m);rw[zbi hne h0 (by omega)] at h;cases e:zO (m.drop (zj m).2) (a+runL isB l+(zj m).2) with
  | none=>rw[e] at h;cases h
  | some t2=>
   rw[e] at h;have h:(zj m).1.put (a+runL isB l)::t2=ts:=(by injection h);have:=ih (m.drop (zj m).2).length (by rw[c7];omega) _ _ t2 rfl e;rw[c7] at this;subst h;refine⟨by simp only[dH];omega,λx hx=>?_⟩;rcases dD.1 hx with rfl | hx
   · show (a:Int)<=((a+runL isB l:Nat):Int)/\((a+runL isB l:Nat):Int)<=_;omega
   have:=this.2 x hx;omega
def zgw (h:lexE s=0):¬600<s.size/\zO (bl8 s) 0=some (lexL s):=by
 unfold lexE at h;by_cases hs:600<s.size
 · rw[aB hs] at h;omega
 rw[aA hs] at h;refine⟨hs,?_⟩;cases e:zO (bl8 s) 0 with
 | none=>rw[e] at h;simp at h
 | some ts=>unfold lexL;rw[aA hs,e];rfl
def qV (h:¬lexE s=0):lexL s=[]:=by
 unfold lexE at h;unfold lexL;by_cases hs:600<s.size
 · rw[aB hs]
 rw[aA hs] at h ⊢;cases e:zO (bl8 s) 0 with
 | none=>rfl
 | some ts=>rw[e] at h;simp at h
def aCa (s:Ba):(lexL s).length<=s.size:=by
 by_cases h:lexE s=0
 · have:=(gT (bl8 s) 0 _ rfl (zgw h).2).1;rw[zar] at this;exact this
 rw[qV h];exact cT _
def aWz {ts:List TokD} (h:s.size<=600) (hw:zO (bl8 s) 0=some ts):lexL s=ts/\lexE s=0:=by
 have h':¬600<s.size:=by omega
 unfold lexL lexE;rw[aA h',aA h',hw];exact⟨rfl,rfl⟩
def aQ3 (a b:Ba):bl8 (a++b)=bl8 a++bl8 b:=by simp[bl8]
def aK7 (h:zC ((decL l).1:Int)=1):zj l=zca l:=by unfold zj;rw[aB h]
def aNy (h:zC ((decL l).1:Int)=2):zj l=numT l:=by unfold zj;rw[aA (by omega),aB h]
def aKl (h:¬zC ((decL l).1:Int)=1) (h2:¬zC ((decL l).1:Int)=2) (h3:(decL l).1=34):zj l=strT l:=by unfold zj;rw[aA h,aA h2,aB h3]
def aNv (h:¬zC ((decL l).1:Int)=1) (h2:¬zC ((decL l).1:Int)=2) (h3:¬(decL l).1=34):zj l=zbI l:=by unfold zj;rw[aA h,aA h2,aA h3]
def zeQ (n:Nat):digL n=(if n / 10=0 then [] else digL (n / 10))++[UInt8.ofNat (48+n % 10)]:=by
 conv=>lhs;unfold digL
 by_cases h:n<10
 · rw[dif_pos h,aB (by omega),Nat.mod_eq_of_lt h];rfl
 rw[dif_neg h,aA (by omega)]
def DigI (v n:Nat) (o:Ba):Prop:=(o=ByteArray.empty/\n=v)\/(o≠ByteArray.empty/\digL v=(if n=0 then [] else digL n)++bl8 o)
def DigI.zero:DigI v v ByteArray.empty:=.inl ⟨rfl,rfl⟩
def aIx:bl8 ((⟨#[b]⟩:Ba)++o)=b::bl8 o:=by simp[bl8]
def DigI.next {v n:Nat} (h:DigI v n o) (hc:0<n\/o=ByteArray.empty):DigI v (n / 10) ((⟨#[UInt8.ofNat (48+n % 10)]⟩:Ba)++o):=by
 refine .inr ⟨λe=>?_,?_⟩
 · have:=aG bl8 e;rw[aIx] at this;cases this
 rw[aIx];rcases h with ⟨rfl,rfl⟩ | ⟨hne,h⟩
 · rw[zeQ];rfl
 have hn:¬n=0:=by rcases hc with hc | hc;omega;exact aH hc hne
 rw[h,aA hn,zeQ n,cP];rfl
def DigI.done {v n:Nat} (h:DigI v n o) (h0:¬0<n) (h1:¬o=ByteArray.empty):o=digB v:=by
 rcases h with ⟨e,_⟩ | ⟨_,h⟩
 · exact aH e h1
 rw[aB (by omega),dY] at h;unfold digB;rw[h,aAk]
def digF (a:Nat) (l:List UInt8):Nat:=l.foldl (λn b=>10*n+(b.toNat-48)) a
def oX (l:List UInt8):digV l=digF 0 l:=rfl
def qZ (a:Nat) (l r:List UInt8):digF a (l++r)=digF (digF a l) r:=by unfold digF;rw[vA]
def aLv:∀ n:Nat,digF 0 (digL n)=n:=by
 intro n
 induction n using Nat.strongRecOn with
 | _ n ih=>
  have hb:∀ k,k<10->(UInt8.ofNat (48+k)).toNat=48+k:=λk hk=>by simp;omega
  unfold digL;by_cases h:n<10
  · rw[dif_pos h];show 10*0+((UInt8.ofNat (48+n)).toNat-48)=n;rw[hb n h];omega
  rw[dif_neg h,qZ,ih (n / 10) (by omega)];show 10*(n / 10)+((UInt8.ofNat (48+n % 10)).toNat-48)=n;rw[hb _ (by omega)];omega
def lW:∀ k:Nat,digF 0 (List.replicate k 48)=0
 | 0=>rfl
 | k+1=>by rw[vG];exact lW k
def aJw (l:List UInt8):Prop:=∀ b∈l,48<=b.toNat/\b.toNat<=57
def iQ:∀ n:Nat,aJw (digL n):=by
 intro n
 induction n using Nat.strongRecOn with
 | _ n ih=>
  have hb:∀ k,k<10->(UInt8.ofNat (48+k)).toNat=48+k:=λk hk=>by simp;omega
  intro b hb';unfold digL at hb';by_cases h:n<10
  · rw[dif_pos h] at hb';rw[dQ.1 hb',hb n h];omega
  rw[dif_neg h] at hb';rcases jO.1 hb' with h2 | h2
  · exact ih (n / 10) (by omega) b h2
  rw[dQ.1 h2,hb _ (by omega)];omega
def aMd (n:Nat):1<=(digL n).length:=by rw[zeQ,cO];simp
def numD (k v:Nat):List UInt8:=List.replicate k 48++digL v
def zdK (k v:Nat):aJw (numD k v):=λb hb=>by
 rcases jO.1 hb with h | h
 · rw[List.eq_of_mem_replicate h];decide
 exact iQ v b h
def aCu (k v:Nat):digF 0 (numD k v)=v:=by unfold numD;rw[qZ,lW,aLv]
def qE (k v:Nat):numD k v≠[]:=λe=>by
 have:=aG List.length e;unfold numD at this;rw[cO] at this;have h2:=aMd v;simp only[uJ] at this;omega
def oQ (hb:48<=b.toNat/\b.toNat<=57) (t:List UInt8):zC ((decL (b::t)).1:Int)=2/\(decL (b::t)).2=1:=by
 rw[zac (by omega)];refine⟨?_,rfl⟩;show zC ((b.toNat:Nat):Int)=2;unfold zC;(repeat (any_goals split))<;>omega
def zdj {f:Int->Bool} (hf:∀ r:Int,zC r=2->f r=true):∀ (l:List UInt8) (x:List UInt8),aJw l->runL f (l++x)=l.length+runL f x
 | [],x,_=>by simp
 | b::t,x,h=>by
  obtain ⟨h1,h2⟩:=oQ (h b cR) (t++x);rw[jX,zcI (by simp) (hf _ h1),h2];show 1+runL f (t++x)=_;rw[zdj hf t x (λc hc=>h c (cV _ hc)),dH];omega
def aKa:∀ r:Int,zC r=2->isD r=true:=λr h=>by show inK [2] r=true;unfold inK;simp[h]
def aCt:∀ r:Int,zC r=2->isLD r=true:=λr h=>by show inK [1,2] r=true;unfold inK;simp[h]
def aY1 {r:Int} (h:zC r=2):isB r=false:=by show inK [3] r=false;unfold inK;simp[h]
def kU (h:aJw l) (hne:l≠[]) (u:List UInt8):zj (l++u)=numT (l++u)/\runL isB (l++u)=0:=by
 cases l with
 | nil=>exact aH rfl hne
 | cons b t=>
  obtain ⟨h1,_⟩:=oQ (h b cR) (t++u);exact⟨aNy h1,zds (aY1 h1)⟩
def xJ:∀ (k n:Nat),n<10 ^ (k+1)->(digL n).length<=k+1
 | 0,n,h=>by
  have h:n<10:=by simpa using h
  rw[zeQ,aB (by omega)];simp
 | k+1,n,h=>by
  rw[zeQ];split
  · simp
  have:=xJ k (n / 10) (by rw[Nat.pow_succ] at h;omega);rw[cO,jN];omega
def aF9 (h:n<=9223372036854775807):(digB n).size<=20:=by
 unfold digB;rw[zaB];exact xJ 19 n (Nat.lt_of_le_of_lt h (by decide))
def aNh (h:n<256):strOfNums [((n:Nat):Int)]=mkB [UInt8.ofNat n]:=by rfl
def on8 (h:n<256):(UInt8.ofNat n).toNat=n:=by simp;omega
def gb0 {a:UInt8}:gb (a::l) 0=a.toNat:=rfl
def gb1 {a b:UInt8}:gb (a::b::l) 1=b.toNat:=rfl
def gb2 {a b c:UInt8}:gb (a::b::c::l) 2=c.toNat:=rfl
def gb3 {a b c d:UInt8}:gb (a::b::c::d::l) 3=d.toNat:=rfl
def ct {k:Nat} (h:k<l.length) (h2:gb l k / 64=2):zc4 l k=true:=by unfold zc4;rw[aE h,h2];rfl
def iT (c:Nat) (x:List UInt8) (hc:c<1114112):(decL (encR c++x)).2=(encR c).length/\(decL (encR c++x)).1=(if 55296<=c/\c<=57343 then 65533 else c):=by
 unfold encR;split
 · have e:(UInt8.ofNat (c % 256)).toNat=c:=(by rw[on8 (by omega)];omega);rw[jX,zac (by omega),e];exact⟨rfl,(aA (by omega)).symm⟩
 split
 · generalize ha:UInt8.ofNat (192+c / 64 % 256)=a;generalize hb:UInt8.ofNat (128+c % 256 % 64)=b;have a1:a.toNat=192+c / 64:=(by rw[<-ha,on8 (by omega)];omega);have b1:b.toNat=128+c % 64:=(by rw[<-hb,on8 (by omega)];omega);show (decL (a::b::x)).2=2/\_;have c1:zc4 (a::b::x) 1=true:=ct (by simp) (by rw[gb1,b1];omega);have e:decL (a::b::x)=(c,2):=by
    unfold decL;rw[c1,gb0,gb1,a1,b1,aA (by omega),aB (by simp;omega),aB (by omega)];congr 1;omega
   show (decL (a::b::x)).2=2/\(decL (a::b::x)).1=_;rw[e];exact⟨rfl,(aA (by omega)).symm⟩
 split
 · rename_i h1 h2 h3;generalize ha:UInt8.ofNat (224+c / 4096 % 256)=a;generalize hb:UInt8.ofNat (128+c / 64 % 256 % 64)=b;generalize hd:UInt8.ofNat (128+c % 256 % 64)=d;have a1:a.toNat=224+c / 4096:=(by rw[<-ha,on8 (by omega)];omega);have b1:b.toNat=128+c / 64 % 64:=(by rw[<-hb,on8 (by omega)];omega);have d1:d.toNat=128+c % 64:=(by rw[<-hd,on8 (by omega)];omega);have c1:zc4 (a::b::d::x) 1=true:=ct (by simp) (by rw[gb1,b1];omega);have c2:zc4 (a::b::d::x) 2=true:=ct (by simp) (by rw[gb2,d1];omega);have e:decL (a::b::d::x)=(c,3):=by
    unfold decL;have en:(224+c / 4096) % 16*4096+(128+c / 64 % 64) % 64*64+(128+c % 64) % 64=c:=(by omega);rw[c1,c2,gb0,gb1,gb2,a1,b1,d1,en,aA (by omega),aA (by simp;omega),aB (by simp;omega),aB (by unfold Utf8.valid;simp;omega)]
   show (decL (a::b::d::x)).2=3/\(decL (a::b::d::x)).1=_;rw[e];exact⟨rfl,(aA (by omega)).symm⟩
 split
 · rename_i h1 h2 h3 h4;generalize ha:UInt8.ofNat (240+c / 262144 % 256)=a;generalize hb:UInt8.ofNat (128+c / 4096 % 256 % 64)=b;generalize hd:UInt8.ofNat (128+c / 64 % 256 % 64)=d;generalize hf:UInt8.ofNat (128+c % 256 % 64)=f;have a1:a.toNat=240+c / 262144:=(by rw[<-ha,on8 (by omega)];omega);have b1:b.toNat=128+c / 4096 % 64:=(by rw[<-hb,on8 (by omega)];omega);have d1:d.toNat=128+c / 64 % 64:=(by rw[<-hd,on8 (by omega)];omega);have f1:f.toNat=128+c % 64:=(by rw[<-hf,on8 (by omega)];omega);have c1:zc4 (a::b::d::f::x) 1=true:=ct (by simp) (by rw[gb1,b1];omega);have c2:zc4 (a::b::d::f::x) 2=true:=ct (by simp) (by rw[gb2,d1];omega);have c3:zc4 (a::b::d::f::x) 3=true:=ct (by simp) (by rw[gb3,f1];omega);have e:decL (a::b::d::f::x)=(c,4):=by
    unfold decL;have en:(240+c / 262144) % 8*262144+(128+c / 4096 % 64) % 64*4096+(128+c / 64 % 64) % 64*64+(128+c % 64) % 64=c:=(by omega);rw[c1,c2,c3,gb0,gb1,gb2,gb3,a1,b1,d1,f1,en,aA (by omega),aA (by simp;omega),aA (by simp;omega),aB (by simp;omega),aB (by unfold Utf8.valid;simp;omega)]
   show (decL (a::b::d::f::x)).2=4/\(decL (a::b::d::f::x)).1=_;rw[e];exact⟨rfl,(aA (by omega)).symm⟩
 have c1:zc4 (239::191::189::x) 1=true:=ct (by simp) (by rw[gb1];rfl);have c2:zc4 (239::191::189::x) 2=true:=ct (by simp) (by rw[gb2];rfl);have e:decL (239::191::189::x)=(65533,3):=by
  have n0:(239:UInt8).toNat=239:=by decide
  have n1:(191:UInt8).toNat=191:=by decide
  have n2:(189:UInt8).toNat=189:=by decide
  unfold decL;rw[c1,c2,gb0,gb1,gb2,n0,n1,n2,aA (by omega),aA (by simp),aB (by simp),aB (by unfold Utf8.valid;simp)]
 show (decL (239::191::189::x)).2=3/\(decL (239::191::189::x)).1=_;rw[e];exact⟨rfl,(aB (by omega)).symm⟩
def aTx (c:Nat) (x:List UInt8) (hc:c<1114112):(decL (encR c++x)).2=(encR c).length/\((decL (encR c++x)).1=c\/(decL (encR c++x)).1=65533):=by
 obtain ⟨h1,h2⟩:=iT c x hc;refine⟨h1,?_⟩;split at h2
 · exact .inr h2
 exact .inl h2
def rR (n:Nat):(hexB n).toNat<128/\(hexB n).toNat≠92/\(hexB n).toNat≠34:=by
 rcases cZ n 16 with h | h
 · have:∀ k:Fin 16,(hexB k.1).toNat<128/\(hexB k.1).toNat≠92/\(hexB k.1).toNat≠34:=(by decide);exact this ⟨n,h⟩
 have e:hexB n=0:=by
  unfold hexB;have:hexd[n]?=none:=by
   have hs:hexd.size=16:=rfl;exact getElem?_neg _ _ (by omega)
  rw[this];rfl
 rw[e];decide
def aAy (h:b.toNat<128) (h1:b.toNat≠92) (h2:b.toNat≠34):zaz false (b::t)=(zaz false t).map (· +1):=by
 rw[zdU (by simp),zac h,aA (by simp),aA h1,aA h2];rfl
def aF6 (h:b.toNat<128):zaz false (92::b::t)=(zaz false t).map (· +2):=by
 rw[zdU (by simp),zac (by decide),aA (by simp),aB (by decide)];show (zaz true (b::t)).map _=_;rw[zdU (by simp),zac h,aB rfl];show ((zaz false t).map _).map _=_;cases zaz false t<;>rfl
def aN9 {l src:List UInt8} (h:Tok l src) (x:List UInt8):zaz false (l++x)=(zaz false x).map (· +l.length):=by
 cases h with
 | esc hc=>rcases hc with rfl | rfl<;>exact aF6 (by decide)
 | nl=>exact aF6 (by decide)
 | @hex b=>
  obtain ⟨a1,a2,a3⟩:=rR (b.toNat / 16);obtain ⟨b1,b2,b3⟩:=rR (b.toNat % 16);show zaz false (92::120::hexB (b.toNat / 16)::hexB (b.toNat % 16)::x)=_;rw[aF6 (by decide),aAy a1 a2 a3,aAy b1 b2 b3];cases zaz false x<;>rfl
 | @raw c hc h1 h2 h3=>
  obtain ⟨e1,e2⟩:=aTx c x hc;have hne:encR c++x≠[]:=by
   obtain ⟨b,r,e,_⟩:=gI hc;rw[e];simp
  rw[zdU hne,e1,uX,aA (by simp),aA (by rcases e2 with e2 | e2<;>omega),aA (by rcases e2 with e2 | e2<;>omega)]
def aMv (s:Ba) (r:List UInt8):∀ (n p:Nat),s.size-p=n->zaz false (zaC s p++34::r)=some (zaC s p).length:=by
 intro n
 induction n using Nat.strongRecOn with
 | _ n ih=>
  intro p hp;rcases cZ p s.size with h | h
  · obtain ⟨src,ht,_⟩:=zdJ h;have:=z6 s p;rw[zcq h,cP,aN9 ht,ih _ (by omega) _ rfl,cO];show some ((zaC s (p+decW s p)).length+(zdV s p).length)=some _;congr 1;omega
  rw[zcr h,dY,zdU (by simp),zac (by decide),aA (by simp),aA (by decide),aB (by decide)];rfl
def gN (s:Ba):(zbe s).length=(zaC s 0).length+2:=by unfold zbe;simp
def oD (s:Ba) (r:List UInt8):zj (zbe s++r)=(⟨3,0,s⟩,(zbe s).length):=by
 have e:zbe s++r=34::(zaC s 0++34::r):=by unfold zbe;simp
 have hd:decL (34::(zaC s 0++34::r))=(34,1):=zac (by decide);have hq:zaz true (zbe s++r)=some ((zaC s 0).length+1):=by
  rw[e,zdU (by simp),hd,aB rfl];show (zaz false (zaC s 0++34::r)).map _=_;rw[aMv s r _ 0 rfl];rfl
 have ht:(zbe s++r).take ((zaC s 0).length+1+1)=zbe s:=wQ (gN s);have hu:unqB (mkB (zbe s))=some s:=aFv rfl;rw[aKl (by rw[e,hd];decide) (by rw[e,hd];decide) (by rw[e,hd])];unfold strT;rw[hq];show (match unqB (mkB ((zbe s++r).take ((zaC s 0).length+1+1))) with | none=>(zbo,0) | some t=>((⟨3,0,t⟩:TokD),(zaC s 0).length+1+1))=_;rw[ht,hu,gN]
def aLe {l src:List UInt8} (h:Tok l src):l.length<=4*src.length/\src.length<=l.length:=by
 cases h with
 | esc _=>exact⟨by simp,by simp⟩
 | nl=>exact⟨by decide,by decide⟩
 | hex=>exact⟨by simp,by simp⟩
 | raw _ _ _ _=>exact⟨by omega,cW _⟩
def aIv (s:Ba):∀ (n p:Nat),s.size-p=n->(zaC s p).length<=4*(s.size-p)/\s.size-p<=(zaC s p).length:=by
 intro n
 induction n using Nat.strongRecOn with
 | _ n ih=>
  intro p hp;rcases cZ p s.size with h | h
  · obtain ⟨src,ht,e⟩:=zdJ h;have h1:=z6 s p;have h2:=zaK s p h;have e2:=aG List.length e;rw[cO,zfZ,zfZ] at e2;have h3:=aLe ht;have h4:=ih (s.size-(p+decW s p)) (by omega) (p+decW s p) rfl;rw[zcq h,cO];omega
  rw[zcr h];simp;omega
def aLb (s:Ba):(zcd s).size<=4*s.size+2/\s.size+2<=(zcd s).size:=by
 have h:=aIv s _ 0 rfl;have e:(zcd s).size=(zbe s).length:=zaB _;rw[e,gN];omega
def aFb (s:Ba):bl8 (zcd s)=zbe s:=zdv _
def xS (s:Ba) (r:List UInt8):runL isB (zbe s++r)=0:=by
 have e:zbe s++r=34::(zaC s 0++34::r):=by unfold zbe;simp
 rw[e];refine zds ?_;rw[zac (by decide)];decide
def zdZ (x:TokD):Ba:=if x.k=3 then zcd x.t else if x.k=4 then x.t++(⟨#[115]⟩:Ba) else x.t
def aRx {x:TokD} (h:x.k=3):zdZ x=zcd x.t:=by unfold zdZ;rw[aB h]
def aRk {x:TokD} (h3:¬x.k=3) (h:x.k=4):zdZ x=x.t++(⟨#[115]⟩:Ba):=by unfold zdZ;rw[aA h3,aB h]
def xA {x:TokD} (h3:¬x.k=3) (h:¬x.k=4):zdZ x=x.t:=by unfold zdZ;rw[aA h3,aA h]
def FitT (x:TokD):Prop:=bl8 (zdZ x)≠[]/\runL isB (bl8 (zdZ x))=0/\zj (bl8 (zdZ x))=(⟨x.k,0,x.t⟩,(zdZ x).size)
def aKu:∀ (n:Nat) (s:Ba) (p:Nat),s.size-p=n->zea (za8 s p)=true->runL isLD (bts s p)=s.size-p:=by
 intro n
 induction n using Nat.strongRecOn with
 | _ n ih=>
  intro s p hp hw;rcases cZ p s.size with h | h
  · rw[zaw h,zdP,cU,aI] at hw;have hk:isLD ((decL (bts s p)).1:Int)=true:=by
     rw[<-zbK];show inK [1,2] _=true;unfold inK;rcases hw.1 with h | h<;>simp[h]
    have h1:=z6 s p;have h2:=zaK s p h;rw[zcI (zfq h) hk,zdr,<-zcV,ih _ (by omega) s _ rfl hw.2];omega
  rw[zeZ h,zcf];omega
def aDp (h:zbR s=true):0<s.size/\zC ((decR s 0:Nat):Int)=1/\runL isLD (bl8 s)=s.size:=by
 have h':=h;unfold zbR at h';rw[zb2] at h';simp only[cU,aI] at h';have hz:0<s.size:=by
  rcases cZ 0 s.size with hz | hz
  · exact hz
  have e:zaI s=[]:=by show za8 s 0=[];exact za2 hz
  rw[e] at h';simp at h'
 refine⟨hz,?_,?_⟩
 · have e:zaI s=((decR s 0:Nat):Int)::za8 s (0+decW s 0):=(by show za8 s 0=_;exact zaw hz);have:=h'.1.2;rw[e] at this;exact this
 have:=aKu _ s 0 rfl h'.2;exact this
def aFj (h:zbR s=true):FitT ⟨1,0,s⟩:=by
 obtain ⟨h1,h2,h3⟩:=aDp h;have ej:zdZ ⟨1,0,s⟩=s:=xA (show ¬(1:Int)=3 by decide) (show ¬(1:Int)=4 by decide);have hb:isB ((decL (bl8 s)).1:Int)=false:=by
  rw[dec0];show inK [3] _=false;unfold inK;simp[h2]
 unfold FitT;rw[ej];refine⟨aPf h1,zds hb,?_⟩;rw[aK7 (by rw[dec0];exact h2)];have e:mkB ((bl8 s).take s.size)=s:=by rw[<-zar,dJ,aAk]
 unfold zca;rw[h3,e,aB h]
def zfX (h:v<=1000000000000):(digL v).length<=13:=xJ 12 v (Nat.lt_of_le_of_lt h (by decide))
def aPa (v:Nat):numD 0 v=digL v:=rfl
def aLs (h:v<=1000000000000):FitT ⟨2,0,digB v⟩:=by
 have h13:=zfX h;obtain ⟨h1,h2⟩:=kU (zdK 0 v) (qE 0 v) [];have hr:=zdj aKa (numD 0 v) [] (zdK 0 v);have hr2:=zdj aCt (numD 0 v) [] (zdK 0 v);rw[zcf,j5] at hr hr2;rw[jL] at h1 h2 hr hr2;have ej:zdZ ⟨2,0,digB v⟩=digB v:=xA (show ¬(2:Int)=3 by decide) (show ¬(2:Int)=4 by decide);have eb:bl8 (digB v)=numD 0 v:=zdv _;unfold FitT;rw[ej,eb];refine⟨qE 0 v,h2,?_⟩;have hs:(digB v).size=(numD 0 v).length:=zaB _;rw[h1,hs];unfold numT;rw[hr,hr2,dJ,oX,aCu,aA (by rw[aPa];omega),aB rfl]
def aKg (h:v<=1000000000):FitT ⟨4,0,digB v⟩:=by
 have h13:=zfX (v:=v) (by omega);obtain ⟨h1,h2⟩:=kU (zdK 0 v) (qE 0 v) [115];have hr:=zdj aKa (numD 0 v) [115] (zdK 0 v);have hr2:=zdj aCt (numD 0 v) [115] (zdK 0 v);have e0:runL isD [115]=0:=zds (by decide);rw[e0,j5] at hr;have e1:runL isLD [115]=1:=by
  rw[zcI (by simp) (by decide)];show 1+runL isLD []=1;rw[zcf]
 rw[e1] at hr2;have ej:zdZ ⟨4,0,digB v⟩=digB v++(⟨#[115]⟩:Ba):=aRk (show ¬(4:Int)=3 by decide) rfl;have eb:bl8 (digB v++(⟨#[115]⟩:Ba))=numD 0 v++[115]:=by
  rw[aQ3,show bl8 (digB v)=numD 0 v from zdv _]
 have hs:(digB v++(⟨#[115]⟩:Ba)).size=(numD 0 v).length+1:=by
  rw[<-zar,eb,cO];rfl
 unfold FitT;rw[ej,eb,hs];refine⟨by simp[qE],h2,?_⟩;have e2:((numD 0 v++[115]).take ((numD 0 v).length+1)).drop (numD 0 v).length=[115]:=by
  rw[c6 (by simp),uX]
 have es:secB (mkB [115])=1:=by decide
 rw[h1];unfold numT;rw[hr,hr2,wC,oX,aCu,aA (by rw[aPa];omega),aA (by omega),e2,es,aA (by omega),vU]
def aM1 (s:Ba):FitT ⟨3,0,s⟩:=by
 have h1:=oD s [];have h2:=xS s [];rw[jL] at h1 h2;have ej:zdZ ⟨3,0,s⟩=zcd s:=aRx rfl;unfold FitT;rw[ej,aFb,show (zcd s).size=(zbe s).length from zaB _];exact⟨by unfold zbe;simp,h2,h1⟩
def aC6:∀ x∈zam,bl8 x≠[]/\¬zC ((decL (bl8 x)).1:Int)=1/\¬zC ((decL (bl8 x)).1:Int)=2/\¬(decL (bl8 x)).1=34/\isB ((decL (bl8 x)).1:Int)=false/\zbI (bl8 x)=(⟨5,0,x⟩,x.size):=by decide
def aGm {x:Ba} (hx:x∈zam):FitT ⟨5,0,x⟩:=by
 obtain ⟨h1,h2,h3,h4,h5,h6⟩:=aC6 x hx;have ej:zdZ ⟨5,0,x⟩=x:=xA (show ¬(5:Int)=3 by decide) (show ¬(5:Int)=4 by decide);unfold FitT;rw[ej];exact⟨h1,zds h5,by rw[aNv h2 h3 h4,h6]⟩
def gJ:∀ (xs:List Ba) (l:List UInt8),(zak xs l).2≠0->∃ x∈xs,(zak xs l).1=⟨5,0,x⟩
 | [],_,h=>aH rfl h
 | x::xs,l,h=>by
  unfold zak at h ⊢;split
  · exact⟨x,cR,rfl⟩
  rename_i h2;rw[aA h2] at h;obtain ⟨y,hy,e⟩:=gJ xs l h;exact⟨y,cV _ hy,e⟩
def aC3:∀ x∈zam,x.size<=2:=by decide
def aD8 (h:(zj l).2≠0):FitT (zj l).1/\(zj l).1.t.size<=l.length+20:=by
 unfold zj at h ⊢;split
 · rename_i h1;rw[aB h1] at h;unfold zca at h ⊢;split
   · rename_i h2;refine⟨aFj h2,?_⟩;show (mkB _).size<=_;rw[zaB,cY];omega
   rename_i h2;rw[aA h2] at h;exact aH rfl h
 rename_i h1;rw[aA h1] at h;split
 · rename_i h2;rw[aB h2] at h;unfold numT at h ⊢;split
   · rename_i h3;rw[aB h3] at h;exact aH rfl h
   rename_i h3;rw[aA h3] at h;split
   · refine⟨aLs (by omega),?_⟩;have:=aF9 (n:=digV (l.take (runL isD l))) (by omega);show (digB _).size<=_;omega
   rename_i h4;rw[aA h4] at h;split
   · rename_i h5;rw[aB h5] at h;exact aH rfl h
   rename_i h5;obtain ⟨c,hc⟩:∃ c,secB (mkB ((l.take (runL isLD l)).drop (runL isD l)))=c:=⟨_,rfl⟩;rw[hc] at h5 ⊢;have hm:digV (l.take (runL isD l))*c<=1000000000:=(vO (by omega)).1 (by omega);refine⟨aKg hm,?_⟩;have:=aF9 (n:=digV (l.take (runL isD l))*c) (by omega);show (digB _).size<=_;omega
 rename_i h2;rw[aA h2] at h;split
 · rename_i h3;rw[aB h3] at h;cases e:zaz true l with
   | none=>unfold strT at h;rw[e] at h;exact aH rfl h
   | some i=>
    have hi:=aCd _ l true i rfl e;cases e2:unqB (mkB (l.take (i+1))) with
    | none=>
     unfold strT at h;rw[e] at h;have h:(match unqB (mkB (l.take (i+1))) with | none=>(zbo,0) | some t=>((⟨3,0,t⟩:TokD),i+1)).2≠0:=h;rw[e2] at h;exact aH rfl h
    | some t=>
     have e3:strT l=(⟨3,0,t⟩,i+1):=by
      unfold strT;rw[e];show (match unqB (mkB (l.take (i+1))) with | none=>(zbo,0) | some t=>((⟨3,0,t⟩:TokD),i+1))=_;rw[e2]
     rw[e3];refine⟨aM1 t,?_⟩;show t.size<=_;have hq:zcd t=mkB (l.take (i+1)):=by
      unfold unqB at e2;split at e2
      · rename_i hx;injection e2 with e2;rw[<-e2];exact hx.choose_spec
      cases e2
     have h4:=(aLb t).2;rw[hq,zaB,cY] at h4;omega
 rename_i h3;rw[aA h3] at h;obtain ⟨x,hx,e⟩:=gJ zam l h;have e:(zbI l).1=⟨5,0,x⟩:=e;rw[e];refine⟨aGm hx,?_⟩;have:=aC3 x hx;show x.size<=_;omega
def aL1 {x:TokD} (a:Nat) (h:FitT x):FitT (x.put a):=h
def aEb:∀ (n:Nat) (l:List UInt8) (a:Nat) (ts:List TokD),l.length=n->zO l a=some ts->∀ x∈ts,FitT x/\x.t.size<=l.length+20:=by
 intro n
 induction n using Nat.strongRecOn with
 | _ n ih=>
  intro l a ts hn h;have hrl:=zbY isB l;generalize hm:l.drop (runL isB l)=m at*;have hml:m.length=l.length-runL isB l:=by rw[<-hm,c7]
  unfold zO at h;rw[hm] at h;by_cases hne:m=[]
  · subst hne;rw[zaR] at h;injection h with h;subst h;exact λx hx=>aH hx (by simp)
  by_cases h0:(zj m).2=0
  · rw[zbD hne h0] at h;cases h
  have hpos:=dW.2 hne;have hfl:=kI (l:=m);rw[zbi hne h0 (by omega)] at h;cases e:zO (m.drop (zj m).2) (a+runL isB l+(zj m).2) with
  | none=>rw[e] at h;cases h
  | some t2=>
   rw[e] at h;have h:(zj m).1.put (a+runL isB l)::t2=ts:=(by injection h);have hi:=ih (m.drop (zj m).2).length (by rw[c7];omega) _ _ t2 rfl e;rw[c7] at hi;subst h;intro x hx;rcases dD.1 hx with rfl | hx
   · obtain ⟨g1,g2⟩:=aD8 h0;exact⟨aL1 _ g1,by show (zj m).1.t.size<=_;omega⟩
   obtain ⟨g1,g2⟩:=hi x hx;exact⟨g1,by omega⟩
def aFn (hs:s.size<=600):∀ x∈lexL s,x.t.size<=1000:=λx hx=>by
 by_cases h:lexE s=0
 · have:=(aEb _ (bl8 s) 0 _ rfl (zgw h).2 x hx).2;rw[zar] at this;omega
 rw[qV h] at hx;exact aH hx (by simp)
end Lp
