import Derived.Laws.Externs
import Derived.Laws.BytesArg
import Derived.Test.YtheccaeefigajaaGreatDoorPLexN
set_option linter.unusedSimpArgs false
set_option linter.unusedVariables false
namespace Lp
open Go
def hexI (u:Nat):Int:=firstIdx hexd u.toUInt8
theorem oO:∀ u:Nat,u<256-> -1<=hexI u/\hexI u<=15:=by decide+kernel
theorem sC:∀ a:Nat,a<16->hexI (hexB a).toNat=(a:Int):=by decide+kernel
def escN (s:ByteArray):Nat:=
 if s.size=0 then 0 else if zG s 0=34\/zG s 0=92 then 1 else if zG s 0=110 then 1
 else if zG s 0=120/\3<=s.size/\0<=hexI (zG s 1)/\0<=hexI (zG s 2) then 3 else 0
def escT (s:ByteArray):ByteArray:=
 if s.size=0 then ByteArray.empty else if zG s 0=34\/zG s 0=92 then s.extract 0 1 else if zG s 0=110 then⟨#[10]⟩
 else if zG s 0=120/\3<=s.size/\0<=hexI (zG s 1)/\0<=hexI (zG s 2) then mkB [UInt8.ofNat ((hexI (zG s 1)).toNat*16+(hexI (zG s 2)).toNat)] else ByteArray.empty
theorem aK0 (s:ByteArray):(escT s).size<=1/\(escN s≠0->(escT s).size=1)/\escN s<=s.size:=by
 unfold escT escN;by_cases h0:s.size=0
 · rw[aB h0,aB h0];exact⟨by decide,λh=>aH rfl h,cX _⟩
 rw[aA h0,aA h0];by_cases h1:zG s 0=34\/zG s 0=92
 · rw[aB h1,aB h1];have:(s.extract 0 1).size=1:=(by rw[cR];omega);exact⟨by omega,λ_=>this,by omega⟩
 rw[aA h1,aA h1];by_cases h2:zG s 0=110
 · rw[aB h2,aB h2];exact⟨by decide,λ_=>by decide,by omega⟩
 rw[aA h2,aA h2];by_cases h3:zG s 0=120/\3<=s.size/\0<=hexI (zG s 1)/\0<=hexI (zG s 2)
 · rw[aB h3,aB h3];exact⟨by rw[zah];simp,λ_=>by rw[zah];rfl,h3.2.1⟩
 rw[aA h3,aA h3];exact⟨by decide,λh=>aH rfl h,cX _⟩
def unL:Nat->List UInt8->Option (List UInt8)
 | _,[]=>some []
 | 0,_::_=>none
 | n+1,b::r=>if b≠92 then(unL n r).map (b::·) else if escN (mkB r)=0 then none else(unL n (r.drop (escN (mkB r)))).map (bl8 (escT (mkB r))++·)
theorem zej {n:Nat} {b:UInt8} {r:List UInt8}:unL (n+1) (b::r)=if b≠92 then(unL n r).map (b::·) else if escN (mkB r)=0 then none else(unL n (r.drop (escN (mkB r)))).map (bl8 (escT (mkB r))++·):=by
 conv=>lhs;unfold unL
theorem pX:∀ (n m:Nat) (l:List UInt8),l.length<=n->l.length<=m->unL n l=unL m l:=by
 intro n
 induction n with
 | zero=>
  intro m l h1 _;have:l=[]:=d5 (by omega);subst this;cases m<;>rfl
 | succ n ih=>
  intro m l h1 h2;cases l with
  | nil=>cases m<;>rfl
  | cons b r=>
   simp only[dD] at h1 h2;obtain ⟨m,rfl⟩:∃ k,m=k+1:=⟨m-1,by omega⟩;unfold unL;rw[ih m r (by omega) (by omega),ih m (r.drop (escN (mkB r))) (by rw[cZ];omega) (by rw[cZ];omega)]
def unB (s:ByteArray):Option (List UInt8):=unL s.size (bl8 s)
theorem aBj {s:ByteArray} {n:Nat} (h:s.size<=n):unB s=unL n (bl8 s):=pX _ _ _ (by rw[zV];omega) (by rw[zV];exact h)
theorem aXb {s:ByteArray} (h:s.size=0):unB s=some []:=by
 unfold unB;have:bl8 s=[]:=d5 (by rw[zV];exact h);rw[this];cases s.size<;>rfl
theorem qW {s:ByteArray} {u:UInt8} (h:s[0]?=some u):bl8 s=u::bl8 (s.extract 1 s.size):=by
 have h0:0<s.size:=by
  rcases jT s.size with e | e
  · have:s[0]?=none:=(by simp[e]);rw[this] at h;cases h
  exact e
 have h1:=zaN h0;have e:s.get! 0=u:=by
  have:s[0]?=some (s.get! 0):=by simp[ByteArray.get!,h0];rfl
  rw[this] at h;injection h
 rw[e] at h1;show bl8 s=u::bl8 (s.extract 1 s.size);have e2:bl8 (s.extract 1 s.size)=bts s 1:=za5;rw[e2];exact h1
theorem aW4 {s:ByteArray} {u:UInt8} (h:s[0]?=some u) (h2:¬u=92):unB s=(unB (s.extract 1 s.size)).map ([u]++·):=by
 have hc:=qW h;have hz:(s.extract 1 s.size).size+1=s.size:=by have:=aG List.length hc;simp only[dD,zV] at this;omega
 rw[aBj (s:=s) (n:=(s.extract 1 s.size).size+1) (by omega),hc];rw[zej,aB h2];rfl
theorem aU2 {s:ByteArray} (h:s[0]?=some 92) (h2:¬escN (s.extract 1 s.size)=0):unB s=(unB (s.extract (1+escN (s.extract 1 s.size)) s.size)).map (bl8 (escT (s.extract 1 s.size))++·):=by
 have hc:=qW h;have hz:(s.extract 1 s.size).size+1=s.size:=by have:=aG List.length hc;simp only[dD,zV] at this;omega
 rw[aBj (s:=s) (n:=(s.extract 1 s.size).size+1) (by omega),hc];rw[zej,aA (by simp),zeJ,aA h2];have e:(bl8 (s.extract 1 s.size)).drop (escN (s.extract 1 s.size))=bl8 (s.extract (1+escN (s.extract 1 s.size)) s.size):=by
  rw[show bl8 (s.extract 1 s.size)=bts s 1 from za5,zbV];exact za5.symm
 rw[e,aBj (s:=s.extract (1+escN (s.extract 1 s.size)) s.size) (n:=(s.extract 1 s.size).size) (by simp only[cR];omega)]
theorem aMq {s:ByteArray} (h:s[0]?=some 92) (h2:escN (s.extract 1 s.size)=0):unB s=none:=by
 have hc:=qW h;have hz:(s.extract 1 s.size).size+1=s.size:=by have:=aG List.length hc;simp only[dD,zV] at this;omega
 rw[aBj (s:=s) (n:=(s.extract 1 s.size).size+1) (by omega),hc];rw[zej,aA (by simp),zeJ,aB h2]
theorem aCv {n:Nat} {r:List UInt8}:∀ (l:List UInt8),(∀ b∈l,b≠92)->unL (l.length+n) (l++r)=(unL n r).map (l++·)
 | [],_=>by simp
 | b::l,h=>by
  have ih:=aCv (n:=n) (r:=r) l (λc hc=>h c (dA _ hc));rw[show (b::l).length+n=(l.length+n)+1 by simp only[dD];omega,d9,zej,aB (h b cW),ih];cases unL n r<;>simp
theorem fI {l:List UInt8} {k:Nat} {b:UInt8} (h:l[k]?=some b):zG (mkB l) k=b.toNat:=by
 have hz:k<(mkB l).size:=by rw[zah];exact aXw h
 rw[zdj hz];have h1:=zaN hz;have e:bts (mkB l) k=l.drop k:=by unfold bts;rw[show (mkB l).data.toList=l from zbt l]
 rw[e,zeL h] at h1;injection h1 with h1 _;rw[<-h1]
theorem a0n {o src:List UInt8} (h:Tok o src) (n:Nat) (r:List UInt8) (hn:r.length<=n):unL (o.length+n) (o++r)=(unL n r).map (src++·):=by
 have esc1:∀ (c:UInt8) (s1:List UInt8) (m:Nat),escN (mkB (c::r))=1->bl8 (escT (mkB (c::r)))=s1->unL (2+n) (92::c::r)=(unL n r).map (s1++·):=by
  intro c s1 m h1 h2;rw[show 2+n=(1+n)+1 by omega,zej,aA (by simp),aA (by rw[h1];decide),h1,h2];show (unL (1+n) r).map _=_;rw[pX (1+n) n r (by omega) hn]
 have b0:∀ c:UInt8,zG (mkB (c::r)) 0=c.toNat:=λc=>fI rfl
 have sz:∀ c:UInt8,¬(mkB (c::r)).size=0:=λc=>by rw[zah];simp
 cases h with
 | esc hc=>
  rename_i c;have e1:zG (mkB (c::r)) 0=34\/zG (mkB (c::r)) 0=92:=by rw[b0];rcases hc with rfl | rfl<;>decide
  refine esc1 c [c] 0 (by unfold escN;rw[aA (sz c),aB e1]) ?_;unfold escT;rw[aA (sz c),aB e1,zcu (by rw[zah];simp),zbt,zbt];rfl
 | nl=>
  have e1:zG (mkB (110::r)) 0=110:=by rw[b0];decide
  refine esc1 110 [10] 0 ?_ ?_
  · unfold escN;rw[aA (sz 110),aA (by rw[e1];decide),aB e1]
  unfold escT;rw[aA (sz 110),aA (by rw[e1];decide),aB e1]
 | hex=>
  rename_i b;have hb:b.toNat<256:=uL _;have e1:zG (mkB (120::hexB (b.toNat / 16)::hexB (b.toNat % 16)::r)) 0=120:=by rw[fI (b:=120) rfl];decide
  have e2:zG (mkB (120::hexB (b.toNat / 16)::hexB (b.toNat % 16)::r)) 1=(hexB (b.toNat / 16)).toNat:=fI rfl;have e3:zG (mkB (120::hexB (b.toNat / 16)::hexB (b.toNat % 16)::r)) 2=(hexB (b.toNat % 16)).toNat:=fI rfl;have h1:=sC (b.toNat / 16) (by omega);have h2:=sC (b.toNat % 16) (by omega);have hz:¬(mkB (120::hexB (b.toNat / 16)::hexB (b.toNat % 16)::r)).size=0:=by rw[zah];simp
  have hh:zG (mkB (120::hexB (b.toNat / 16)::hexB (b.toNat % 16)::r)) 0=120/\3<=(mkB (120::hexB (b.toNat / 16)::hexB (b.toNat % 16)::r)).size/\0<=hexI (zG (mkB (120::hexB (b.toNat / 16)::hexB (b.toNat % 16)::r)) 1)/\0<=hexI (zG (mkB (120::hexB (b.toNat / 16)::hexB (b.toNat % 16)::r)) 2):=by
   refine⟨e1,by rw[zah];simp only[dD];omega,?_,?_⟩
   · rw[e2,h1];exact Int.natCast_nonneg _
   rw[e3,h2];exact Int.natCast_nonneg _
  have hN:escN (mkB (120::hexB (b.toNat / 16)::hexB (b.toNat % 16)::r))=3:=by
   unfold escN;rw[aA hz,aA (by rw[e1];decide),aA (by rw[e1];decide),aB hh]
  have hT:bl8 (escT (mkB (120::hexB (b.toNat / 16)::hexB (b.toNat % 16)::r)))=[b]:=by
   unfold escT;rw[aA hz,aA (by rw[e1];decide),aA (by rw[e1];decide),aB hh,zbt,e2,e3,h1,h2];congr 1;have:((b.toNat / 16:Nat):Int).toNat*16+((b.toNat % 16:Nat):Int).toNat=b.toNat:=(by omega);rw[this];simp
  show unL (4+n) (92::120::hexB (b.toNat / 16)::hexB (b.toNat % 16)::r)=_;rw[show 4+n=(3+n)+1 by omega,zej,aA (by simp),aA (by rw[hN];decide),hN,hT];show (unL (3+n) r).map _=_;rw[pX (3+n) n r (by omega) hn]
 | raw hc h1 h2 h3=>
  rename_i c;refine aCv _ (λb hb e=>?_);subst e;exact h2 (aU3 (by decide) hb)
theorem aBg (t:ByteArray):∀ (n p:Nat),t.size-p=n->∀ (m:Nat) (r:List UInt8),r.length<=m->unL ((zT t p).length+m) (zT t p++r)=(unL m r).map (bts t p++·):=by
 intro n
 induction n using Nat.strongRecOn with
 | _ n ih=>
  intro p hp m r hr;rcases c8 p t.size with h | h
  · obtain ⟨src,htok,hb⟩:=zdf h;have hw:=zF t p;have i:=ih (t.size-(p+decW t p)) (by omega) (p+decW t p) rfl m r hr;rw[za1 h,c7,dM,wA,a0n htok _ _ (by rw[c7];omega),i,hb];cases unL m r<;>simp
  rw[zbL h,zdm h];simp
def zdn (s:ByteArray):ByteArray:=if hasP s ⟨#[34]⟩=true then s.extract 1 s.size else s
def zek (s:ByteArray):ByteArray:=if 1<=s.size/\s.extract (s.size-1) s.size=⟨#[34]⟩ then s.extract 0 (s.size-1) else s
theorem aAi (t:ByteArray):bl8 (zdn (zak t))=zT t 0++[34]:=by
 have hl:bl8 (zak t)=34::(zT t 0++[34]):=by show (zaU t).toArray.toList=_;unfold zaU;simp
 have hp:hasP (zak t) ⟨#[34]⟩=true:=by rw[pB,hl];rfl
 unfold zdn;rw[aB hp,zcJ,zbt,hl];rfl
theorem sM {t:ByteArray}:unB (zdn (zak t))=some (bl8 t++[34]):=by
 have h:=aAi t;have hz:(zdn (zak t)).size=(zT t 0).length+1:=by rw[<-zV,h,c7];rfl
 unfold unB;rw[hz,h,aBg t _ 0 rfl 1 [34] (by simp)];show (unL 1 [34]).map _=_;rfl
theorem aI9 (t:ByteArray):zek ⟨(bl8 t++[34]).toArray⟩=t:=by
 have hz:(mkB (bl8 t++[34])).size=t.size+1:=by rw[zah,c7,zV];rfl
 show zek (mkB (bl8 t++[34]))=t;unfold zek;rw[hz,zcu (by rw[hz];omega),zcu (by rw[hz];omega),zbt];have e1:((bl8 t++[34]).take (t.size+1)).drop (t.size+1-1)=[34]:=by
  rw[dL (by rw[c7,zV];simp)];exact List.drop_left' (by rw[zV];omega)
 have e2:((bl8 t++[34]).take (t.size+1-1)).drop 0=bl8 t:=by
  rw[j7];exact vU (by rw[zV];omega)
 rw[e1,e2,aB ⟨by omega,rfl⟩,zeJ]
theorem aIo {s:ByteArray} (h:¬s=ByteArray.empty):0<s.size:=by
 rcases jT s.size with e | e
 · exact aH (uG (jW.1 (d5 (by simpa using e)))) h
 exact e
theorem aWa {s:ByteArray} (h:s=ByteArray.empty):ByteArray.empty=escT s/\0=escN s:=by subst h;exact⟨rfl,rfl⟩
theorem aTy {s:ByteArray} (hz:0<s.size) (h:zG s 0=34\/zG s 0=92):s.extract 0 1=escT s/\1=escN s:=by
 unfold escT escN;rw[aA (by omega),aB h,aA (by omega),aB h];exact⟨rfl,rfl⟩
theorem aWk {s:ByteArray} (hz:0<s.size) (h1:¬(zG s 0=34\/zG s 0=92)) (h:zG s 0=110):(⟨#[10]⟩:ByteArray)=escT s/\1=escN s:=by
 unfold escT escN;rw[aA (by omega),aA h1,aB h,aA (by omega),aA h1,aB h];exact⟨rfl,rfl⟩
theorem aW6 {s:ByteArray} {a b:Nat} (hz:0<s.size) (h1:¬(zG s 0=34\/zG s 0=92)) (h2:¬zG s 0=110) (h:zG s 0=120/\3<=s.size) (ha:hexI (zG s 1)=(a:Int)) (hb:hexI (zG s 2)=(b:Int)):mkB [UInt8.ofNat (a*16+b)]=escT s/\3=escN s:=by
 have hh:zG s 0=120/\3<=s.size/\0<=hexI (zG s 1)/\0<=hexI (zG s 2):=⟨h.1,h.2,by omega,by omega⟩;unfold escT escN;rw[aA (by omega),aA h1,aA h2,aB hh,aA (by omega),aA h1,aA h2,aB hh,ha,hb];exact⟨rfl,rfl⟩
theorem zgP {s:ByteArray} (hz:0<s.size) (h1:¬(zG s 0=34\/zG s 0=92)) (h2:¬zG s 0=110) (h:¬(zG s 0=120/\3<=s.size/\0<=hexI (zG s 1)/\0<=hexI (zG s 2))):ByteArray.empty=escT s/\0=escN s:=by
 unfold escT escN;rw[aA (by omega),aA h1,aA h2,aA h,aA (by omega),aA h1,aA h2,aA h];exact⟨rfl,rfl⟩
theorem pS {n:Nat} (h:n<256):strOfNums [((n:Nat):Int)]=mkB [UInt8.ofNat n]:=by rfl
def UInv (s r:ByteArray) (o:List UInt8):Prop:=unB s=(unB r).map (o++·)
theorem UInv.zero (s:ByteArray):UInv s s []:=by unfold UInv;cases unB s<;>rfl
theorem UInv.raw {s r:ByteArray} {o:List UInt8} {u:UInt8} (h:UInv s r o) (hu:r[0]?=some u) (h2:¬u=92):UInv s (r.extract 1 r.size) (o++[u]):=by
 unfold UInv at*;rw[h,aW4 hu h2];cases unB (r.extract 1 r.size)<;>simp
theorem UInv.esc {s r:ByteArray} {o:List UInt8} (h:UInv s r o) (hu:r[0]?=some 92) (h2:¬escN (r.extract 1 r.size)=0):UInv s (r.extract (1+escN (r.extract 1 r.size)) r.size) (o++(escT (r.extract 1 r.size)).data.toList):=by
 unfold UInv at*;rw[h,aU2 hu h2];cases unB (r.extract (1+escN (r.extract 1 r.size)) r.size)<;>simp
theorem UInv.none {s r:ByteArray} {o:List UInt8} (h:UInv s r o) (hu:r[0]?=some 92) (h2:escN (r.extract 1 r.size)=0):unB s=none:=by
 unfold UInv at*;rw[h,aMq hu h2];rfl
theorem UInv.done {s r:ByteArray} {o:List UInt8} (h:UInv s r o) (hr:r=ByteArray.empty):unB s=some o:=by
 unfold UInv at*;rw[h,hr,aXb rfl];simp
theorem aVq {u:UInt8} (h:((u.toNat:Nat):Int)=92):u=92:=jR.1 (by show u.toNat=92;omega)
theorem aSz {u:UInt8} (h:¬((u.toNat:Nat):Int)=92):¬u=92:=by rintro rfl;exact h rfl
theorem gE (s:ByteArray):s.size<=(zdn s).size+1/\(zdn s).size<=s.size:=by
 unfold zdn;split
 · rw[cR];omega
 omega
theorem aE8 (s:ByteArray):(zek s).size<=s.size:=by
 unfold zek;split
 · rw[cR];omega
 omega
theorem aXx {s:ByteArray} {o:List UInt8} (h:zak (zek ⟨o.toArray⟩)=s):zek ⟨o.toArray⟩=unqT s/\true=zcm s:=by
 have:=lF h;unfold unqT zcm;rw[this];exact⟨rfl,rfl⟩
theorem aX8 {s:ByteArray} {o:List UInt8} (hu:unB (zdn s)=some o) (h:¬zak (zek ⟨o.toArray⟩)=s):ByteArray.empty=unqT s/\false=zcm s:=by
 have:unqB s=none:=kV λt ht=>by
  rw[<-ht,sM] at hu;injection hu with hu;rw[<-hu,aI9] at h;exact h ht
 unfold unqT zcm;rw[this];exact⟨rfl,rfl⟩
theorem aYe {s:ByteArray} (hu:unB (zdn s)=none):ByteArray.empty=unqT s/\false=zcm s:=by
 have:unqB s=none:=kV λt ht=>by
  rw[<-ht,sM] at hu;cases hu
 unfold unqT zcm;rw[this];exact⟨rfl,rfl⟩
theorem on8 {n:Nat} (h:n<256):(UInt8.ofNat n).toNat=n:=by simp;omega
theorem gb0 {a:UInt8} {l:List UInt8}:gb (a::l) 0=a.toNat:=rfl
theorem gb1 {a b:UInt8} {l:List UInt8}:gb (a::b::l) 1=b.toNat:=rfl
theorem gb2 {a b c:UInt8} {l:List UInt8}:gb (a::b::c::l) 2=c.toNat:=rfl
theorem gb3 {a b c d:UInt8} {l:List UInt8}:gb (a::b::c::d::l) 3=d.toNat:=rfl
theorem ct {l:List UInt8} {k:Nat} (h:k<l.length) (h2:gb l k / 64=2):za8 l k=true:=by unfold za8;rw[aE h,h2];rfl
theorem gX (c:Nat) (x:List UInt8) (hc:c<1114112):(decL (encR c++x)).2=(encR c).length/\(decL (encR c++x)).1=(if 55296<=c/\c<=57343 then 65533 else c):=by
 unfold encR;split
 · have e:(UInt8.ofNat (c % 256)).toNat=c:=(by rw[on8 (by omega)];omega);rw[d9,zai (by omega),e];exact⟨rfl,(aA (by omega)).symm⟩
 split
 · generalize ha:UInt8.ofNat (192+c / 64 % 256)=a;generalize hb:UInt8.ofNat (128+c % 256 % 64)=b;have a1:a.toNat=192+c / 64:=(by rw[<-ha,on8 (by omega)];omega);have b1:b.toNat=128+c % 64:=(by rw[<-hb,on8 (by omega)];omega);show (decL (a::b::x)).2=2/\_;have c1:za8 (a::b::x) 1=true:=ct (by simp) (by rw[gb1,b1];omega);have e:decL (a::b::x)=(c,2):=by
    unfold decL;rw[c1,gb0,gb1,a1,b1,aA (by omega),aB (by simp;omega),aB (by omega)];congr 1;omega
   show (decL (a::b::x)).2=2/\(decL (a::b::x)).1=_;rw[e];exact⟨rfl,(aA (by omega)).symm⟩
 split
 · rename_i h1 h2 h3;generalize ha:UInt8.ofNat (224+c / 4096 % 256)=a;generalize hb:UInt8.ofNat (128+c / 64 % 256 % 64)=b;generalize hd:UInt8.ofNat (128+c % 256 % 64)=d;have a1:a.toNat=224+c / 4096:=(by rw[<-ha,on8 (by omega)];omega);have b1:b.toNat=128+c / 64 % 64:=(by rw[<-hb,on8 (by omega)];omega);have d1:d.toNat=128+c % 64:=(by rw[<-hd,on8 (by omega)];omega);have c1:za8 (a::b::d::x) 1=true:=ct (by simp) (by rw[gb1,b1];omega);have c2:za8 (a::b::d::x) 2=true:=ct (by simp) (by rw[gb2,d1];omega);have e:decL (a::b::d::x)=(c,3):=by
    unfold decL;have en:(224+c / 4096) % 16*4096+(128+c / 64 % 64) % 64*64+(128+c % 64) % 64=c:=(by omega);rw[c1,c2,gb0,gb1,gb2,a1,b1,d1,en,aA (by omega),aA (by simp;omega),aB (by simp;omega),aB (by unfold Utf8.valid;simp;omega)]
   show (decL (a::b::d::x)).2=3/\(decL (a::b::d::x)).1=_;rw[e];exact⟨rfl,(aA (by omega)).symm⟩
 split
 · rename_i h1 h2 h3 h4;generalize ha:UInt8.ofNat (240+c / 262144 % 256)=a;generalize hb:UInt8.ofNat (128+c / 4096 % 256 % 64)=b;generalize hd:UInt8.ofNat (128+c / 64 % 256 % 64)=d;generalize hf:UInt8.ofNat (128+c % 256 % 64)=f;have a1:a.toNat=240+c / 262144:=(by rw[<-ha,on8 (by omega)];omega);have b1:b.toNat=128+c / 4096 % 64:=(by rw[<-hb,on8 (by omega)];omega);have d1:d.toNat=128+c / 64 % 64:=(by rw[<-hd,on8 (by omega)];omega);have f1:f.toNat=128+c % 64:=(by rw[<-hf,on8 (by omega)];omega);have c1:za8 (a::b::d::f::x) 1=true:=ct (by simp) (by rw[gb1,b1];omega);have c2:za8 (a::b::d::f::x) 2=true:=ct (by simp) (by rw[gb2,d1];omega);have c3:za8 (a::b::d::f::x) 3=true:=ct (by simp) (by rw[gb3,f1];omega);have e:decL (a::b::d::f::x)=(c,4):=by
    unfold decL;have en:(240+c / 262144) % 8*262144+(128+c / 4096 % 64) % 64*4096+(128+c / 64 % 64) % 64*64+(128+c % 64) % 64=c:=(by omega);rw[c1,c2,c3,gb0,gb1,gb2,gb3,a1,b1,d1,f1,en,aA (by omega),aA (by simp;omega),aA (by simp;omega),aB (by simp;omega),aB (by unfold Utf8.valid;simp;omega)]
   show (decL (a::b::d::f::x)).2=4/\(decL (a::b::d::f::x)).1=_;rw[e];exact⟨rfl,(aA (by omega)).symm⟩
 have c1:za8 (239::191::189::x) 1=true:=ct (by simp) (by rw[gb1];rfl);have c2:za8 (239::191::189::x) 2=true:=ct (by simp) (by rw[gb2];rfl);have e:decL (239::191::189::x)=(65533,3):=by
  have n0:(239:UInt8).toNat=239:=by decide
  have n1:(191:UInt8).toNat=191:=by decide
  have n2:(189:UInt8).toNat=189:=by decide
  unfold decL;rw[c1,c2,gb0,gb1,gb2,n0,n1,n2,aA (by omega),aA (by simp),aB (by simp),aB (by unfold Utf8.valid;simp)]
 show (decL (239::191::189::x)).2=3/\(decL (239::191::189::x)).1=_;rw[e];exact⟨rfl,(aB (by omega)).symm⟩
theorem aV6 (c:Nat) (x:List UInt8) (hc:c<1114112):(decL (encR c++x)).2=(encR c).length/\((decL (encR c++x)).1=c\/(decL (encR c++x)).1=65533):=by
 obtain ⟨h1,h2⟩:=gX c x hc;refine⟨h1,?_⟩;split at h2
 · exact .inr h2
 exact .inl h2
theorem sQ (n:Nat):(hexB n).toNat<128/\(hexB n).toNat≠92/\(hexB n).toNat≠34:=by
 rcases c8 n 16 with h | h
 · have:∀ k:Fin 16,(hexB k.1).toNat<128/\(hexB k.1).toNat≠92/\(hexB k.1).toNat≠34:=(by decide);exact this ⟨n,h⟩
 have e:hexB n=0:=by
  unfold hexB;have:hexd[n]?=none:=by
   have hs:hexd.size=16:=rfl;exact getElem?_neg _ _ (by omega)
  rw[this];rfl
 rw[e];decide
theorem qV {b:UInt8} {t:List UInt8} (h:b.toNat<128) (h1:b.toNat≠92) (h2:b.toNat≠34):zal false (b::t)=(zal false t).map (· +1):=by
 rw[zbF (by simp),zai h,aA (by simp),aA h1,aA h2];rfl
theorem aKe {b:UInt8} {t:List UInt8} (h:b.toNat<128):zal false (92::b::t)=(zal false t).map (· +2):=by
 rw[zbF (by simp),zai (by decide),aA (by simp),aB (by decide)];show (zal true (b::t)).map _=_;rw[zbF (by simp),zai h,aB rfl];show ((zal false t).map _).map _=_;cases zal false t<;>rfl
theorem aL9 {l src:List UInt8} (h:Tok l src) (x:List UInt8):zal false (l++x)=(zal false x).map (· +l.length):=by
 cases h with
 | esc hc=>rcases hc with rfl | rfl<;>exact aKe (by decide)
 | nl=>exact aKe (by decide)
 | @hex b=>
  obtain ⟨a1,a2,a3⟩:=sQ (b.toNat / 16);obtain ⟨b1,b2,b3⟩:=sQ (b.toNat % 16);show zal false (92::120::hexB (b.toNat / 16)::hexB (b.toNat % 16)::x)=_;rw[aKe (by decide),qV a1 a2 a3,qV b1 b2 b3];cases zal false x<;>rfl
 | @raw c hc h1 h2 h3=>
  obtain ⟨e1,e2⟩:=aV6 c x hc;have hne:encR c++x≠[]:=by
   obtain ⟨b,r,e,_⟩:=fS hc;rw[e];simp
  rw[zbF hne,e1,vL,aA (by simp),aA (by rcases e2 with e2 | e2<;>omega),aA (by rcases e2 with e2 | e2<;>omega)]
theorem aOp (s:ByteArray) (r:List UInt8):∀ (n p:Nat),s.size-p=n->zal false (zT s p++34::r)=some (zT s p).length:=by
 intro n
 induction n using Nat.strongRecOn with
 | _ n ih=>
  intro p hp;rcases c8 p s.size with h | h
  · obtain ⟨src,ht,_⟩:=zdf h;have:=zF s p;rw[za1 h,dM,aL9 ht,ih _ (by omega) _ rfl,c7];show some ((zT s (p+decW s p)).length+(zcZ s p).length)=some _;congr 1;omega
  rw[zbL h,jG,zbF (by simp),zai (by decide),aA (by simp),aA (by decide),aB (by decide)];rfl
theorem gB (s:ByteArray):(zaU s).length=(zT s 0).length+2:=by unfold zaU;simp
theorem nP (s:ByteArray) (r:List UInt8):zg (zaU s++r)=(⟨3,0,s⟩,(zaU s).length):=by
 have e:zaU s++r=34::(zT s 0++34::r):=by unfold zaU;simp
 have hd:decL (34::(zT s 0++34::r))=(34,1):=zai (by decide);have hq:zal true (zaU s++r)=some ((zT s 0).length+1):=by
  rw[e,zbF (by simp),hd,aB rfl];show (zal false (zT s 0++34::r)).map _=_;rw[aOp s r _ 0 rfl];rfl
 have ht:(zaU s++r).take ((zT s 0).length+1+1)=zaU s:=vU (gB s);have hu:unqB (mkB (zaU s))=some s:=lF rfl;rw[aPg (by rw[e,hd];decide) (by rw[e,hd];decide) (by rw[e,hd])];unfold strT;rw[hq];show (match unqB (mkB ((zaU s++r).take ((zT s 0).length+1+1))) with | none=>(zbm,0) | some t=>((⟨3,0,t⟩:TokD),(zT s 0).length+1+1))=_;rw[ht,hu,gB]
theorem aPs {l src:List UInt8} (h:Tok l src):l.length<=4*src.length/\src.length<=l.length:=by
 cases h with
 | esc _=>exact⟨by simp,by simp⟩
 | nl=>exact⟨by decide,by decide⟩
 | hex=>exact⟨by simp,by simp⟩
 | raw _ _ _ _=>exact⟨by omega,cU _⟩
theorem aHc (s:ByteArray):∀ (n p:Nat),s.size-p=n->(zT s p).length<=4*(s.size-p)/\s.size-p<=(zT s p).length:=by
 intro n
 induction n using Nat.strongRecOn with
 | _ n ih=>
  intro p hp;rcases c8 p s.size with h | h
  · obtain ⟨src,ht,e⟩:=zdf h;have h1:=zF s p;have h2:=zae s p h;have e2:=aG List.length e;rw[c7,zeM,zeM] at e2;have h3:=aPs ht;have h4:=ih (s.size-(p+decW s p)) (by omega) (p+decW s p) rfl;rw[za1 h,c7];omega
  rw[zbL h];simp;omega
theorem zeZ (s:ByteArray):(zak s).size<=4*s.size+2/\s.size+2<=(zak s).size:=by
 have h:=aHc s _ 0 rfl;have e:(zak s).size=(zaU s).length:=zah _;rw[e,gB];omega
theorem iZ (s:ByteArray):bl8 (zak s)=zaU s:=zbt _
theorem aAx (s:ByteArray) (r:List UInt8):runL isB (zaU s++r)=0:=by
 have e:zaU s++r=34::(zT s 0++34::r):=by unfold zaU;simp
 rw[e];refine zdc ?_;rw[zai (by decide)];decide
theorem zfH (r:List UInt8):Stop (32::r):=.inr ⟨32,r,rfl,by decide⟩
def zcQ (x:TokD):ByteArray:=if x.k=3 then zak x.t else if x.k=4 then x.t++(⟨#[115]⟩:ByteArray) else x.t
theorem aLu {x:TokD} (h:x.k=3):zcQ x=zak x.t:=by unfold zcQ;rw[aB h]
theorem aHk {x:TokD} (h3:¬x.k=3) (h:x.k=4):zcQ x=x.t++(⟨#[115]⟩:ByteArray):=by unfold zcQ;rw[aA h3,aB h]
theorem zd6 {x:TokD} (h3:¬x.k=3) (h:¬x.k=4):zcQ x=x.t:=by unfold zcQ;rw[aA h3,aA h]
def FitT (x:TokD):Prop:=bl8 (zcQ x)≠[]/\runL isB (bl8 (zcQ x))=0/\zg (bl8 (zcQ x))=(⟨x.k,0,x.t⟩,(zcQ x).size)
theorem aM4:∀ (n:Nat) (s:ByteArray) (p:Nat),s.size-p=n->zd4 (zaW s p)=true->runL isLD (bts s p)=s.size-p:=by
 intro n
 induction n using Nat.strongRecOn with
 | _ n ih=>
  intro s p hp hw;rcases c8 p s.size with h | h
  · rw[zaw h,zdQ,cY,aI] at hw;have hk:isLD ((decL (bts s p)).1:Int)=true:=by
     rw[<-zbs];show inK [1,2] _=true;unfold inK;rcases hw.1 with h | h<;>simp[h]
    have h1:=zF s p;have h2:=zae s p h;rw[zcD (zdz h) hk,zbV,<-zb9,ih _ (by omega) s _ rfl hw.2];omega
  rw[zdm h,zcH];omega
theorem aEt {s:ByteArray} (h:zcC s=true):0<s.size/\zD ((decR s 0:Nat):Int)=1/\runL isLD (bl8 s)=s.size:=by
 have h':=h;unfold zcC at h';rw[zcr] at h';simp only[cY,aI] at h';have hz:0<s.size:=by
  rcases c8 0 s.size with hz | hz
  · exact hz
  have e:zB s=[]:=by show zaW s 0=[];exact zaG hz
  rw[e] at h';simp at h'
 refine⟨hz,?_,?_⟩
 · have e:zB s=((decR s 0:Nat):Int)::zaW s (0+decW s 0):=(by show zaW s 0=_;exact zaw hz);have:=h'.1.2;rw[e] at this;exact this
 have:=aM4 _ s 0 rfl h'.2;exact this
theorem aF4 {s:ByteArray} (h:zcC s=true):FitT ⟨1,0,s⟩:=by
 obtain ⟨h1,h2,h3⟩:=aEt h;have ej:zcQ ⟨1,0,s⟩=s:=zd6 (show ¬(1:Int)=3 by decide) (show ¬(1:Int)=4 by decide);have hb:isB ((decL (bl8 s)).1:Int)=false:=by
  rw[dec0];show inK [3] _=false;unfold inK;simp[h2]
 unfold FitT;rw[ej];refine⟨aHv h1,zdc hb,?_⟩;rw[aNx (by rw[dec0];exact h2)];have e:mkB ((bl8 s).take s.size)=s:=by rw[<-zV,uJ,zeJ]
 unfold zcg;rw[h3,e,aB h]
theorem qA {v:Nat} (h:v<=1000000000000):(digL v).length<=13:=aA5 12 v (wC h (by decide))
theorem aRj (v:Nat):numD 0 v=digL v:=rfl
theorem aCj {v:Nat} (h:v<=1000000000000):FitT ⟨2,0,digB v⟩:=by
 have h13:=qA h;obtain ⟨h1,h2⟩:=sE (zdM 0 v) (qN 0 v) [];have hr:=zel aSx (numD 0 v) [] (zdM 0 v);have hr2:=zel aIl (numD 0 v) [] (zdM 0 v);rw[zcH,uB] at hr hr2;rw[jN] at h1 h2 hr hr2;have ej:zcQ ⟨2,0,digB v⟩=digB v:=zd6 (show ¬(2:Int)=3 by decide) (show ¬(2:Int)=4 by decide);have eb:bl8 (digB v)=numD 0 v:=zbt _;unfold FitT;rw[ej,eb];refine⟨qN 0 v,h2,?_⟩;have hs:(digB v).size=(numD 0 v).length:=zah _;rw[h1,hs];unfold numT;rw[hr,hr2,uJ,qM,aCi,aA (by rw[aRj];omega),aB rfl]
theorem aPw {v:Nat} (h:v<=1000000000):FitT ⟨4,0,digB v⟩:=by
 have h13:=qA (v:=v) (by omega);obtain ⟨h1,h2⟩:=sE (zdM 0 v) (qN 0 v) [115];have hr:=zel aSx (numD 0 v) [115] (zdM 0 v);have hr2:=zel aIl (numD 0 v) [115] (zdM 0 v);have e0:runL isD [115]=0:=zdc (by decide);rw[e0,uB] at hr;have e1:runL isLD [115]=1:=by
  rw[zcD (by simp) (by decide)];show 1+runL isLD []=1;rw[zcH]
 rw[e1] at hr2;have ej:zcQ ⟨4,0,digB v⟩=digB v++(⟨#[115]⟩:ByteArray):=aHk (show ¬(4:Int)=3 by decide) rfl;have eb:bl8 (digB v++(⟨#[115]⟩:ByteArray))=numD 0 v++[115]:=by
  rw[aWe,show bl8 (digB v)=numD 0 v from zbt _]
 have hs:(digB v++(⟨#[115]⟩:ByteArray)).size=(numD 0 v).length+1:=by
  rw[<-zV,eb,c7];rfl
 unfold FitT;rw[ej,eb,hs];refine⟨by simp[qN],h2,?_⟩;have e2:((numD 0 v++[115]).take ((numD 0 v).length+1)).drop (numD 0 v).length=[115]:=by
  rw[dL (by simp),vL]
 have es:secB (mkB [115])=1:=by decide
 rw[h1];unfold numT;rw[hr,hr2,List.take_left,qM,aCi,aA (by rw[aRj];omega),aA (by omega),e2,es,aA (by omega),Nat.mul_one]
theorem aCw (s:ByteArray):FitT ⟨3,0,s⟩:=by
 have h1:=nP s [];have h2:=aAx s [];rw[jN] at h1 h2;have ej:zcQ ⟨3,0,s⟩=zak s:=aLu rfl;unfold FitT;rw[ej,iZ,show (zak s).size=(zaU s).length from zah _];exact⟨by unfold zaU;simp,h2,h1⟩
theorem aFo:∀ x∈zY,bl8 x≠[]/\¬zD ((decL (bl8 x)).1:Int)=1/\¬zD ((decL (bl8 x)).1:Int)=2/\¬(decL (bl8 x)).1=34/\isB ((decL (bl8 x)).1:Int)=false/\zbS (bl8 x)=(⟨5,0,x⟩,x.size):=by decide
theorem rZ {x:ByteArray} (hx:x∈zY):FitT ⟨5,0,x⟩:=by
 obtain ⟨h1,h2,h3,h4,h5,h6⟩:=aFo x hx;have ej:zcQ ⟨5,0,x⟩=x:=zd6 (show ¬(5:Int)=3 by decide) (show ¬(5:Int)=4 by decide);unfold FitT;rw[ej];exact⟨h1,zdc h5,by rw[aMv h2 h3 h4,h6]⟩
theorem gA:∀ (xs:List ByteArray) (l:List UInt8),(zaj xs l).2≠0->∃ x∈xs,(zaj xs l).1=⟨5,0,x⟩
 | [],_,h=>aH rfl h
 | x::xs,l,h=>by
  unfold zaj at h ⊢;split
  · exact⟨x,cW,rfl⟩
  rename_i h2;rw[aA h2] at h;obtain ⟨y,hy,e⟩:=gA xs l h;exact⟨y,dA _ hy,e⟩
theorem aE3:∀ x∈zY,x.size<=2:=by decide
theorem aE2 {l:List UInt8} (h:(zg l).2≠0):FitT (zg l).1/\(zg l).1.t.size<=l.length+20:=by
 unfold zg at h ⊢;split
 · rename_i h1;rw[aB h1] at h;unfold zcg at h ⊢;split
   · rename_i h2;refine⟨aF4 h2,?_⟩;show (mkB _).size<=_;rw[zah,d6];omega
   rename_i h2;rw[aA h2] at h;exact aH rfl h
 rename_i h1;rw[aA h1] at h;split
 · rename_i h2;rw[aB h2] at h;unfold numT at h ⊢;split
   · rename_i h3;rw[aB h3] at h;exact aH rfl h
   rename_i h3;rw[aA h3] at h;split
   · refine⟨aCj (by omega),?_⟩;have:=aHr (n:=digV (l.take (runL isD l))) (by omega);show (digB _).size<=_;omega
   rename_i h4;rw[aA h4] at h;split
   · rename_i h5;rw[aB h5] at h;exact aH rfl h
   rename_i h5;obtain ⟨c,hc⟩:∃ c,secB (mkB ((l.take (runL isLD l)).drop (runL isD l)))=c:=⟨_,rfl⟩;rw[hc] at h5 ⊢;have hm:digV (l.take (runL isD l))*c<=1000000000:=(vX (by omega)).1 (by omega);refine⟨aPw hm,?_⟩;have:=aHr (n:=digV (l.take (runL isD l))*c) (by omega);show (digB _).size<=_;omega
 rename_i h2;rw[aA h2] at h;split
 · rename_i h3;rw[aB h3] at h;cases e:zal true l with
   | none=>unfold strT at h;rw[e] at h;exact aH rfl h
   | some i=>
    have hi:=nZ _ l true i rfl e;cases e2:unqB (mkB (l.take (i+1))) with
    | none=>
     unfold strT at h;rw[e] at h;have h:(match unqB (mkB (l.take (i+1))) with | none=>(zbm,0) | some t=>((⟨3,0,t⟩:TokD),i+1)).2≠0:=h;rw[e2] at h;exact aH rfl h
    | some t=>
     have e3:strT l=(⟨3,0,t⟩,i+1):=by
      unfold strT;rw[e];show (match unqB (mkB (l.take (i+1))) with | none=>(zbm,0) | some t=>((⟨3,0,t⟩:TokD),i+1))=_;rw[e2]
     rw[e3];refine⟨aCw t,?_⟩;show t.size<=_;have hq:zak t=mkB (l.take (i+1)):=by
      unfold unqB at e2;split at e2
      · rename_i hx;injection e2 with e2;rw[<-e2];exact hx.choose_spec
      cases e2
     have h4:=(zeZ t).2;rw[hq,zah,d6] at h4;omega
 rename_i h3;rw[aA h3] at h;obtain ⟨x,hx,e⟩:=gA zY l h;have e:(zbS l).1=⟨5,0,x⟩:=e;rw[e];refine⟨rZ hx,?_⟩;have:=aE3 x hx;show x.size<=_;omega
theorem aM7 {x:TokD} (a:Nat) (h:FitT x):FitT (x.put a):=h
theorem nH:∀ (n:Nat) (l:List UInt8) (a:Nat) (ts:List TokD),l.length=n->zQ l a=some ts->∀ x∈ts,FitT x/\x.t.size<=l.length+20:=by
 intro n
 induction n using Nat.strongRecOn with
 | _ n ih=>
  intro l a ts hn h;have hrl:=zbE isB l;generalize hm:l.drop (runL isB l)=m at*;have hml:m.length=l.length-runL isB l:=by rw[<-hm,cZ]
  unfold zQ at h;rw[hm] at h;by_cases hne:m=[]
  · subst hne;rw[zaP] at h;injection h with h;subst h;exact λx hx=>aH hx (by simp)
  by_cases h0:(zg m).2=0
  · rw[zbJ hne h0] at h;cases h
  have hpos:=dE.2 hne;have hfl:=fL (l:=m);rw[zaT hne h0 (by omega)] at h;cases e:zQ (m.drop (zg m).2) (a+runL isB l+(zg m).2) with
  | none=>rw[e] at h;cases h
  | some t2=>
   rw[e] at h;have h:(zg m).1.put (a+runL isB l)::t2=ts:=(by injection h);have hi:=ih (m.drop (zg m).2).length (by rw[cZ];omega) _ _ t2 rfl e;rw[cZ] at hi;subst h;intro x hx;rcases dH.1 hx with rfl | hx
   · obtain ⟨g1,g2⟩:=aE2 h0;exact⟨aM7 _ g1,by show (zg m).1.t.size<=_;omega⟩
   obtain ⟨g1,g2⟩:=hi x hx;exact⟨g1,by omega⟩
theorem kL {x:TokD} (h:FitT x) (a:Nat):zQ (bl8 (zcQ x)) a=some [x.put a]:=by
 obtain ⟨h1,h2,h3⟩:=h;have h4:=aHl (x:=⟨x.k,0,x.t⟩) h1 h2 (by rw[h3,zV]);have h5:=rM a _ (bl8 (zcQ x)) 0 rfl;rw[dW,h4] at h5;rw[h5];show some [TokD.mk x.k (((0:Nat):Int)+(a:Int)) x.t]=some [TokD.mk x.k (a:Int) x.t];rw[show ((0:Nat):Int)+(a:Int)=(a:Int) by omega]
theorem aH7 {s:ByteArray} (hs:s.size<=600):∀ x∈lexL s,x.t.size<=1000:=λx hx=>by
 by_cases h:lexE s=0
 · have:=(nH _ (bl8 s) 0 _ rfl (ze8 h).2 x hx).2;rw[zV] at this;omega
 rw[pZ h] at hx;exact aH hx (by simp)
structure TkOk (x:TokD):Prop where
 z:x.t.size<=1000
 d:x.k=2\/x.k=4->∃ v:Nat,v<=1000000000000/\x.t=digB v
def TOk (l:List TokD):Prop:=∀ x∈l,TkOk x
theorem TOk.suf {l m:List TokD} (h:TOk l) (k:m <:+l):TOk m:=λx hx=>h x (k.subset hx)
theorem Stp.out {c:Int} {s t:Rd} (h:Stp c s t) (hT:TOk s.l):t.l.length<=s.l.length/\t.n+2*(t.l.length:Int)<=s.n+2*(s.l.length:Int)+c/\s.n<=t.n/\TOk t.l:=⟨h.len,h.w,h.n,hT.suf h.l⟩
theorem pk_z {s:Rd} (hT:TOk s.l):s.pk.t.size<=1000:=by
 unfold Rd.pk;cases e:s.l with
 | nil=>exact cX _
 | cons x l=>exact(hT x (e ▸ cW)).z
section
variable {s s':Rd} {k:Int} {ts:List ByteArray} {t a b:ByteArray} {q:Bool}
theorem zdR (e:(t,q,s')=s.take k ts):Stp 0 s s':=by have h:=zC s k ts;rw[<-e] at h;exact h
theorem zdx (e:(t,q,s')=s.take k ts) (hT:TOk s.l):t.size<=1000:=by
 have h:t=(s.take k ts).1:=aG Prod.fst e;rw[h];unfold Rd.take;split
 · exact cX _
 exact pk_z hT
theorem aGb (e:(t,q,s')=s.take k ts) (hk:k≠0) (hq:q=true):s'.l.length+1=s.l.length/\Stp (-2) s s'/\s.b=false/\s'.b=false/\s.is k ts=true:=by
 have h:=zaY (s:=s) (k:=k) (ts:=ts) hk (by rw[<-e];exact hq);rw[<-e] at h;exact h
theorem zc6 (e:(t,s')=s.any k):Stp 0 s s':=by have h:=zav s k;rw[<-e] at h;exact h
theorem zcR (e:(t,s')=s.any k) (hT:TOk s.l):t.size<=1000:=by
 have h:t=(s.any k).1:=aG Prod.fst e;rw[h];unfold Rd.any;split
 · exact cX _
 exact pk_z hT
theorem a0g (e:(t,s')=s.any k) (hk:k≠0) (hb:s.b=false) (h:s.pk.k=k):s'.l.length+1=s.l.length/\Stp (-2) s s'/\t=s.pk.t/\s'.b=false:=by
 have h:=zfS hk hb h;rw[<-e] at h;exact h
theorem zaL (e:s'=s.must t):Stp 0 s s':=by rw[e];exact zr s t
theorem aKs {l:List ByteArray} (e:(l,s')=s.names):Stp 0 s s':=by have h:=iR s;rw[<-e] at h;exact h
theorem aSn {m:Int} {l:List ByteArray} (e:(m,l,s')=s.mode a b):Stp 0 s s':=by have h:=zaK s a b;rw[<-e] at h;exact h
theorem gV {v:Int} (e:(v,s')=s.number k):Stp 0 s s':=by have h:=zaB s k;rw[<-e] at h;exact h
end
theorem iF (l:List UInt8) (b:UInt8):digV (l++[b])=10*digV l+(b.toNat-48):=by unfold digV;rw[List.foldl_append];rfl
theorem iH:∀ n:Nat,digV (digL n)=n:=by
 intro n
 induction n using Nat.strongRecOn with
 | _ n ih=>
  unfold digL;split
  · show 10*0+((UInt8.ofNat (48+n)).toNat-48)=n;rw[on8 (by omega)];omega
  rw[iF,ih (n / 10) (by omega),on8 (by omega)];omega
theorem kT:∀ n:Nat,∀ b∈digL n,48<=b.toNat/\b.toNat<=57:=by
 intro n
 induction n using Nat.strongRecOn with
 | _ n ih=>
  intro b hb;unfold digL at hb;split at hb
  · rw[jJ.1 hb,on8 (by omega)];omega
  rcases jV.1 hb with h | h
  · exact ih (n / 10) (by omega) b h
  rw[jJ.1 h,on8 (by omega)];omega
theorem aH6 (n:Nat):digL n≠[]:=by unfold digL;split<;>simp
theorem zd8 (n:Nat):bl8 (digB n)=digL n:=zbt _
theorem zer (n:Nat):numV (digB n)=(n:Int):=by unfold numV;rw[zd8,iH]
theorem aN2:numV ByteArray.empty=0:=rfl
theorem zft {s s':Rd} {k:Int} {t:ByteArray} (e:(t,s')=s.any k) (hk:k=2\/k=4) (hT:TOk s.l):t=ByteArray.empty\/∃ v:Nat,v<=1000000000000/\t=digB v:=by
 have h:t=(s.any k).1:=aG Prod.fst e;unfold Rd.any at h;split at h
 · exact .inl h
 rename_i hc;have hk':s.pk.k=k:=Decidable.byContradiction λh=>hc (.inr h)
 refine .inr ?_;unfold Rd.pk at h hk';cases el:s.l with
 | nil=>rw[el] at hk';exact aH hk' (by show ¬(0:Int)=k;omega)
 | cons x l=>
  rw[el] at h hk';have h:t=x.t:=h;have hk':x.k=k:=hk';obtain ⟨v,h1,h2⟩:=(hT x (el ▸ cW)).d (by omega);exact⟨v,h1,h.trans h2⟩
theorem zeq {s s':Rd} {k v:Int} (e:(v,s')=s.number k) (hk:k=2\/k=4) (hT:TOk s.l):0<=v/\v<=1000000000000:=by
 have h:v=numV (s.any k).1:=aG Prod.fst e;rcases zft (s:=s) (k:=k) (t:=(s.any k).1) (s':=(s.any k).2) rfl hk hT with h1 | ⟨n,h1,h2⟩
 · rw[h,h1,aN2];omega
 rw[h,h2,zer];omega
mutual
def Nd.cnt:Nd->Nat
 | .mk _ _ _ _ _ _ kids=>Nd.cntL kids+1
def Nd.cntL:List Nd->Nat
 | []=>0
 | x::r=>Nd.cnt x+Nd.cntL r
end
section
variable (rm:List MatD->Bool)
end
end Lp
namespace Lp
open Go
variable {s:ByteArray}
theorem aGm (p:TokD->Prop) (hp:∀ (l:List UInt8) (a:Nat),(zg l).2≠0->p ((zg l).1.put a)):∀ (n:Nat) (l:List UInt8) (a:Nat) (ts:List TokD),l.length=n->zQ l a=some ts->∀ x∈ts,p x:=by
 intro n
 induction n using Nat.strongRecOn with
 | _ n ih=>
  intro l a ts hn h;have hrl:=zbE isB l;generalize hm:l.drop (runL isB l)=m at*;have hml:m.length=l.length-runL isB l:=by rw[<-hm,cZ]
  unfold zQ at h;rw[hm] at h;by_cases hne:m=[]
  · subst hne;rw[zaP] at h;injection h with h;subst h;exact λx hx=>aH hx (by simp)
  by_cases h0:(zg m).2=0
  · rw[zbJ hne h0] at h;cases h
  have hpos:=dE.2 hne;have hfl:=fL (l:=m);rw[zaT hne h0 (by omega)] at h;cases e:zQ (m.drop (zg m).2) (a+runL isB l+(zg m).2) with
  | none=>rw[e] at h;cases h
  | some t2=>
   rw[e] at h;have h:(zg m).1.put (a+runL isB l)::t2=ts:=(by injection h);have hi:=ih (m.drop (zg m).2).length (by rw[cZ];omega) _ _ t2 rfl e;subst h;intro x hx;rcases dH.1 hx with rfl | hx
   · exact hp _ _ h0
   exact hi x hx
theorem aKw {l:List UInt8} (h:(zg l).2≠0):(zg l).1.k=2\/(zg l).1.k=4->∃ v:Nat,v<=1000000000000/\(zg l).1.t=digB v:=by
 unfold zg at h ⊢;split
 · rename_i h1;rw[aB h1] at h;unfold zcg at h ⊢;split
   · intro k;rcases k with k | k<;>exact aH k (by show ¬(1:Int)=_;decide)
   rename_i h2;rw[aA h2] at h;exact aH rfl h
 rename_i h1;rw[aA h1] at h;split
 · rename_i h2;rw[aB h2] at h;unfold numT at h ⊢;split
   · rename_i h3;rw[aB h3] at h;exact aH rfl h
   rename_i h3;rw[aA h3] at h;split
   · exact λ_=>⟨_,by omega,rfl⟩
   rename_i h4;rw[aA h4] at h;split
   · rename_i h5;rw[aB h5] at h;exact aH rfl h
   rename_i h5;obtain ⟨c,hc⟩:∃ c,secB (mkB ((l.take (runL isLD l)).drop (runL isD l)))=c:=⟨_,rfl⟩;rw[hc] at h5 ⊢;have hm:digV (l.take (runL isD l))*c<=1000000000:=(vX (by omega)).1 (by omega);exact λ_=>⟨_,by omega,rfl⟩
 rename_i h2;rw[aA h2] at h;split
 · rename_i h3;rw[aB h3] at h;cases e:zal true l with
   | none=>unfold strT at h;rw[e] at h;exact aH rfl h
   | some i=>
    cases e2:unqB (mkB (l.take (i+1))) with
    | none=>
     unfold strT at h;rw[e] at h;have h:(match unqB (mkB (l.take (i+1))) with | none=>(zbm,0) | some t=>((⟨3,0,t⟩:TokD),i+1)).2≠0:=h;rw[e2] at h;exact aH rfl h
    | some t=>
     have e3:strT l=(⟨3,0,t⟩,i+1):=by
      unfold strT;rw[e];show (match unqB (mkB (l.take (i+1))) with | none=>(zbm,0) | some t=>((⟨3,0,t⟩:TokD),i+1))=_;rw[e2]
     rw[e3];intro k;rcases k with k | k<;>exact aH k (by show ¬(3:Int)=_;decide)
 rename_i h3;rw[aA h3] at h;obtain ⟨x,hx,e⟩:=gA zY l h;have e:(zbS l).1=⟨5,0,x⟩:=e;rw[e];intro k;rcases k with k | k<;>exact aH k (by show ¬(5:Int)=_;decide)
theorem ze7 (s:ByteArray):TOk (lexL s):=λx hx=>by
 by_cases hE:lexE s=0
 · obtain ⟨h1,h2⟩:=ze8 hE;refine⟨aH7 (by omega) x hx,?_⟩;exact aGm (λx=>x.k=2\/x.k=4->∃ v:Nat,v<=1000000000000/\x.t=digB v) (λl a h=>aKw h) _ _ _ _ rfl h2 x hx
 rw[pZ hE] at hx;exact aH hx (by simp)
def zcc (m:MatD):Bool:=zcC m.n&&decide (1<=m.op/\m.op<=4)&&(decide (m.op<3)||patR (zB m.v))
def rmD (ms:List MatD):Bool:=ms.all zcc&&decide (ms.length<=10)
def noQ:QryD:=⟨noNd,0,0,0⟩
noncomputable def zbf (s:ByteArray):Int:=if lexE s=0 then(if (zbN rmD (lexL s)).isSome=true then 0 else 2) else lexE s
noncomputable def zag (s:ByteArray):QryD:=if lexE s=0 then(zbN rmD (lexL s)).getD noQ else noQ
theorem zfJ (h:zbf s=0):lexE s=0/\zbN rmD (lexL s)=some (zag s):=by
 unfold zbf at h;split at h
 · rename_i h1;split at h
   · rename_i h2;obtain ⟨q,hq⟩:=Option.isSome_iff_exists.1 h2;refine⟨h1,?_⟩;unfold zag;rw[aB h1,hq];rfl
   exact aH h (by decide)
 rename_i h1;exact aH h h1
theorem aN1 (h:¬zbf s=0):zag s=noQ:=by
 unfold zbf at h;unfold zag;split
 · rename_i h1;rw[aB h1] at h;split at h
   · exact aH rfl h
   rename_i h2;cases e:zbN rmD (lexL s) with
   | none=>rfl
   | some q=>rw[e] at h2;exact aH rfl h2
 rfl
end Lp
namespace Lp
open Go Go.RowKit Go.Proofs
abbrev HSyn (ev:Value):Hp:=.tab 1 #[ev]
theorem aZt (s:ByteArray) (ev es:Value) (hev:EvOk ev) (hes:EvOk es) (hd:s=ByteArray.empty\/∃ v:Nat,v<=1000000000000/\s=digB v):CD Tryz.prog 160 [HErr ev,HSyn es] [.s s] (λr H'=>∃ x,r=.tup [dI (numV s),x]/\H'=[HErr ev,HSyn es]):=
 aIx λw F vs hvs hok=>by
  obtain ⟨u,us,rfl,hu,hus⟩:=hvs;obtain ⟨hu,hm⟩:=hu;have hus:us=[]:=hus;subst hu;subst hus;rcases hd with rfl | ⟨n,hn,rfl⟩
  · obtain ⟨hF,T,fr,hh⟩:=hok _ (dA _ cW);have hcell:w.cell? ⟨1,0,none⟩=some es:=by
     unfold World.cell?;rw[hh];rfl
    refine(Any.strconv_Atoi_syntax wT ByteArray.empty (by decide) rfl es w hcell hes).mono λe w' he=>?_
    obtain ⟨N,rfl,_,_,hbel⟩:=he;exact⟨_,rfl,zeB hbel,.tup [dI 0,.any],⟨_,rfl,rfl⟩,⟨_,rfl,_,_,rfl,rfl,_,_,rfl,rfl,rfl⟩⟩
  have h13:=qA hn;have ha:Lib.atoiAll (bl8 (digB n))=.ok (digV (bl8 (digB n)):Int):=by
   rw[zd8];exact xQ (kT n) (aH6 n) h13
  rw[zd8,iH] at ha;rw[zer];refine(Any.strconv_Atoi_ok wT (digB n) (by show (digB n).size<=_;unfold digB;rw[zah];omega) (n:Int) (by rw[<-zd8] at ha;exact ha) w).mono λe w' he=>?_
  obtain ⟨rfl,hw⟩:=he;refine⟨_,rfl,?_,.tup [dI (n:Int),.v .nilIface],⟨_,rfl,rfl⟩,⟨_,rfl,_,_,rfl,rfl,_,_,rfl,rfl,rfl⟩⟩;rcases hw with rfl | ⟨t,rfl⟩
  · exact wU
  exact zeB (Joins.below_bytesWorld _ w _ t (cU _))
end Lp
