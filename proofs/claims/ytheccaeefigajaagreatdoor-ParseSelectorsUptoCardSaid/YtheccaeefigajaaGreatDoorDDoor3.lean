import Derived.Laws.Externs
import Derived.Laws.BytesArg
import Derived.Test.YtheccaeefigajaaGreatDoorRows
import Derived.ProofKit
import Derived.LaidMore
import Derived.OpenShut
import Derived.Stop.Joined
import Derived.Test.YtheccaeefigajaaGreatDoorPLexN
set_option linter.unusedSimpArgs false
set_option linter.unusedVariables false
namespace Lp
open Go
def hexI (u:Nat):Int:=firstIdx hexd u.toUInt8
theorem hexI_bd:∀ u:Nat,u<256-> -1<=hexI u/\hexI u<=15:=by decide+kernel
theorem hexI_hexB:∀ a:Nat,a<16->hexI (hexB a).toNat=(a:Int):=by decide+kernel
def escN (s:ByteArray):Nat:=
 if s.size=0 then 0 else if zC s 0=34\/zC s 0=92 then 1 else if zC s 0=110 then 1
 else if zC s 0=120/\3<=s.size/\0<=hexI (zC s 1)/\0<=hexI (zC s 2) then 3 else 0
def escT (s:ByteArray):ByteArray:=
 if s.size=0 then ByteArray.empty else if zC s 0=34\/zC s 0=92 then s.extract 0 1 else if zC s 0=110 then⟨#[10]⟩
 else if zC s 0=120/\3<=s.size/\0<=hexI (zC s 1)/\0<=hexI (zC s 2) then mkB [UInt8.ofNat ((hexI (zC s 1)).toNat*16+(hexI (zC s 2)).toNat)] else ByteArray.empty
theorem escT_size (s:ByteArray):(escT s).size<=1/\(escN s≠0->(escT s).size=1)/\escN s<=s.size:=by
 unfold escT escN;by_cases h0:s.size=0
 · rw[if_pos h0,if_pos h0];exact⟨by decide,λh=>absurd rfl h,cX _⟩
 rw[if_neg h0,if_neg h0];by_cases h1:zC s 0=34\/zC s 0=92
 · rw[if_pos h1,if_pos h1];have:(s.extract 0 1).size=1:=(by rw[cR];omega);exact⟨by omega,λ_=>this,by omega⟩
 rw[if_neg h1,if_neg h1];by_cases h2:zC s 0=110
 · rw[if_pos h2,if_pos h2];exact⟨by decide,λ_=>by decide,by omega⟩
 rw[if_neg h2,if_neg h2];by_cases h3:zC s 0=120/\3<=s.size/\0<=hexI (zC s 1)/\0<=hexI (zC s 2)
 · rw[if_pos h3,if_pos h3];exact⟨by rw[z8];simp,λ_=>by rw[z8];rfl,h3.2.1⟩
 rw[if_neg h3,if_neg h3];exact⟨by decide,λh=>absurd rfl h,cX _⟩
def unL:Nat->List UInt8->Option (List UInt8)
 | _,[]=>some []
 | 0,_::_=>none
 | n+1,b::r=>if b≠92 then(unL n r).map (b::·) else if escN (mkB r)=0 then none else(unL n (r.drop (escN (mkB r)))).map (bl8 (escT (mkB r))++·)
theorem zd6 {n:Nat} {b:UInt8} {r:List UInt8}:unL (n+1) (b::r)=if b≠92 then(unL n r).map (b::·) else if escN (mkB r)=0 then none else(unL n (r.drop (escN (mkB r)))).map (bl8 (escT (mkB r))++·):=by
 conv=>lhs;unfold unL
theorem unL_more:∀ (n m:Nat) (l:List UInt8),l.length<=n->l.length<=m->unL n l=unL m l:=by
 intro n
 induction n with
 | zero=>
  intro m l h1 _;have:l=[]:=d4 (by omega);subst this;cases m<;>rfl
 | succ n ih=>
  intro m l h1 h2;cases l with
  | nil=>cases m<;>rfl
  | cons b r=>
   simp only[dC] at h1 h2;obtain ⟨m,rfl⟩:∃ k,m=k+1:=⟨m-1,by omega⟩;unfold unL;rw[ih m r (by omega) (by omega),ih m (r.drop (escN (mkB r))) (by rw[cZ];omega) (by rw[cZ];omega)]
def unB (s:ByteArray):Option (List UInt8):=unL s.size (bl8 s)
theorem unB_eq {s:ByteArray} {n:Nat} (h:s.size<=n):unB s=unL n (bl8 s):=unL_more _ _ _ (by rw[zT];omega) (by rw[zT];exact h)
theorem unB_nil {s:ByteArray} (h:s.size=0):unB s=some []:=by
 unfold unB;have:bl8 s=[]:=d4 (by rw[zT];exact h);rw[this];cases s.size<;>rfl
theorem bl8_cons {s:ByteArray} {u:UInt8} (h:s[0]?=some u):bl8 s=u::bl8 (s.extract 1 s.size):=by
 have h0:0<s.size:=by
  rcases jN s.size with e | e
  · have:s[0]?=none:=(by simp[e]);rw[this] at h;cases h
  exact e
 have h1:=zaE h0;have e:s.get! 0=u:=by
  have:s[0]?=some (s.get! 0):=by simp[ByteArray.get!,h0];rfl
  rw[this] at h;injection h
 rw[e] at h1;show bl8 s=u::bl8 (s.extract 1 s.size);have e2:bl8 (s.extract 1 s.size)=bts s 1:=zaY;rw[e2];exact h1
theorem unB_raw {s:ByteArray} {u:UInt8} (h:s[0]?=some u) (h2:¬u=92):unB s=(unB (s.extract 1 s.size)).map ([u]++·):=by
 have hc:=bl8_cons h;have hz:(s.extract 1 s.size).size+1=s.size:=by have:=congrArg List.length hc;simp only[dC,zT] at this;omega
 rw[unB_eq (s:=s) (n:=(s.extract 1 s.size).size+1) (by omega),hc];rw[zd6,if_pos h2];rfl
theorem unB_esc {s:ByteArray} (h:s[0]?=some 92) (h2:¬escN (s.extract 1 s.size)=0):unB s=(unB (s.extract (1+escN (s.extract 1 s.size)) s.size)).map (bl8 (escT (s.extract 1 s.size))++·):=by
 have hc:=bl8_cons h;have hz:(s.extract 1 s.size).size+1=s.size:=by have:=congrArg List.length hc;simp only[dC,zT] at this;omega
 rw[unB_eq (s:=s) (n:=(s.extract 1 s.size).size+1) (by omega),hc];rw[zd6,if_neg (by simp),zew,if_neg h2];have e:(bl8 (s.extract 1 s.size)).drop (escN (s.extract 1 s.size))=bl8 (s.extract (1+escN (s.extract 1 s.size)) s.size):=by
  rw[show bl8 (s.extract 1 s.size)=bts s 1 from zaY,zbU];exact zaY.symm
 rw[e,unB_eq (s:=s.extract (1+escN (s.extract 1 s.size)) s.size) (n:=(s.extract 1 s.size).size) (by simp only[cR];omega)]
theorem unB_none {s:ByteArray} (h:s[0]?=some 92) (h2:escN (s.extract 1 s.size)=0):unB s=none:=by
 have hc:=bl8_cons h;have hz:(s.extract 1 s.size).size+1=s.size:=by have:=congrArg List.length hc;simp only[dC,zT] at this;omega
 rw[unB_eq (s:=s) (n:=(s.extract 1 s.size).size+1) (by omega),hc];rw[zd6,if_neg (by simp),zew,if_pos h2]
theorem unL_raws {n:Nat} {r:List UInt8}:∀ (l:List UInt8),(∀ b∈l,b≠92)->unL (l.length+n) (l++r)=(unL n r).map (l++·)
 | [],_=>by simp
 | b::l,h=>by
  have ih:=unL_raws (n:=n) (r:=r) l (λc hc=>h c (c7 _ hc));rw[show (b::l).length+n=(l.length+n)+1 by simp only[dC];omega,jA,zd6,if_pos (h b cW),ih];cases unL n r<;>simp
theorem byteAt_mk {l:List UInt8} {k:Nat} {b:UInt8} (h:l[k]?=some b):zC (mkB l) k=b.toNat:=by
 have hz:k<(mkB l).size:=by rw[z8];exact get_lt h
 rw[zdc hz];have h1:=zaE hz;have e:bts (mkB l) k=l.drop k:=by unfold bts;rw[show (mkB l).data.toList=l from zbq l]
 rw[e,zez h] at h1;injection h1 with h1 _;rw[<-h1]
theorem tok_un {o src:List UInt8} (h:Tok o src) (n:Nat) (r:List UInt8) (hn:r.length<=n):unL (o.length+n) (o++r)=(unL n r).map (src++·):=by
 have esc1:∀ (c:UInt8) (s1:List UInt8) (m:Nat),escN (mkB (c::r))=1->bl8 (escT (mkB (c::r)))=s1->unL (2+n) (92::c::r)=(unL n r).map (s1++·):=by
  intro c s1 m h1 h2;rw[show 2+n=(1+n)+1 by omega,zd6,if_neg (by simp),if_neg (by rw[h1];decide),h1,h2];show (unL (1+n) r).map _=_;rw[unL_more (1+n) n r (by omega) hn]
 have b0:∀ c:UInt8,zC (mkB (c::r)) 0=c.toNat:=λc=>byteAt_mk rfl
 have sz:∀ c:UInt8,¬(mkB (c::r)).size=0:=λc=>by rw[z8];simp
 cases h with
 | esc hc=>
  rename_i c;have e1:zC (mkB (c::r)) 0=34\/zC (mkB (c::r)) 0=92:=by rw[b0];rcases hc with rfl | rfl<;>decide
  refine esc1 c [c] 0 (by unfold escN;rw[if_neg (sz c),if_pos e1]) ?_;unfold escT;rw[if_neg (sz c),if_pos e1,zcp (by rw[z8];simp),zbq,zbq];rfl
 | nl=>
  have e1:zC (mkB (110::r)) 0=110:=by rw[b0];decide
  refine esc1 110 [10] 0 ?_ ?_
  · unfold escN;rw[if_neg (sz 110),if_neg (by rw[e1];decide),if_pos e1]
  unfold escT;rw[if_neg (sz 110),if_neg (by rw[e1];decide),if_pos e1]
 | hex=>
  rename_i b;have hb:b.toNat<256:=uK _;have e1:zC (mkB (120::hexB (b.toNat / 16)::hexB (b.toNat % 16)::r)) 0=120:=by rw[byteAt_mk (b:=120) rfl];decide
  have e2:zC (mkB (120::hexB (b.toNat / 16)::hexB (b.toNat % 16)::r)) 1=(hexB (b.toNat / 16)).toNat:=byteAt_mk rfl;have e3:zC (mkB (120::hexB (b.toNat / 16)::hexB (b.toNat % 16)::r)) 2=(hexB (b.toNat % 16)).toNat:=byteAt_mk rfl;have h1:=hexI_hexB (b.toNat / 16) (by omega);have h2:=hexI_hexB (b.toNat % 16) (by omega);have hz:¬(mkB (120::hexB (b.toNat / 16)::hexB (b.toNat % 16)::r)).size=0:=by rw[z8];simp
  have hh:zC (mkB (120::hexB (b.toNat / 16)::hexB (b.toNat % 16)::r)) 0=120/\3<=(mkB (120::hexB (b.toNat / 16)::hexB (b.toNat % 16)::r)).size/\0<=hexI (zC (mkB (120::hexB (b.toNat / 16)::hexB (b.toNat % 16)::r)) 1)/\0<=hexI (zC (mkB (120::hexB (b.toNat / 16)::hexB (b.toNat % 16)::r)) 2):=by
   refine⟨e1,by rw[z8];simp only[dC];omega,?_,?_⟩
   · rw[e2,h1];exact Int.natCast_nonneg _
   rw[e3,h2];exact Int.natCast_nonneg _
  have hN:escN (mkB (120::hexB (b.toNat / 16)::hexB (b.toNat % 16)::r))=3:=by
   unfold escN;rw[if_neg hz,if_neg (by rw[e1];decide),if_neg (by rw[e1];decide),if_pos hh]
  have hT:bl8 (escT (mkB (120::hexB (b.toNat / 16)::hexB (b.toNat % 16)::r)))=[b]:=by
   unfold escT;rw[if_neg hz,if_neg (by rw[e1];decide),if_neg (by rw[e1];decide),if_pos hh,zbq,e2,e3,h1,h2];congr 1;have:((b.toNat / 16:Nat):Int).toNat*16+((b.toNat % 16:Nat):Int).toNat=b.toNat:=(by omega);rw[this];simp
  show unL (4+n) (92::120::hexB (b.toNat / 16)::hexB (b.toNat % 16)::r)=_;rw[show 4+n=(3+n)+1 by omega,zd6,if_neg (by simp),if_neg (by rw[hN];decide),hN,hT];show (unL (3+n) r).map _=_;rw[unL_more (3+n) n r (by omega) hn]
 | raw hc h1 h2 h3=>
  rename_i c;refine unL_raws _ (λb hb e=>?_);subst e;exact h2 (encR_no (by decide) hb)
theorem quote_un (t:ByteArray):∀ (n p:Nat),t.size-p=n->∀ (m:Nat) (r:List UInt8),r.length<=m->unL ((zR t p).length+m) (zR t p++r)=(unL m r).map (bts t p++·):=by
 intro n
 induction n using Nat.strongRecOn with
 | _ n ih=>
  intro p hp m r hr;rcases c8 p t.size with h | h
  · obtain ⟨src,htok,hb⟩:=zc8 h;have hw:=zz t p;have i:=ih (t.size-(p+decW t p)) (by omega) (p+decW t p) rfl m r hr;rw[zaU h,dA,dQ,vN,tok_un htok _ _ (by rw[dA];omega),i,hb];cases unL m r<;>simp
  rw[zbH h,zde h];simp
def zdf (s:ByteArray):ByteArray:=if hasP s ⟨#[34]⟩=true then s.extract 1 s.size else s
def zd7 (s:ByteArray):ByteArray:=if 1<=s.size/\s.extract (s.size-1) s.size=⟨#[34]⟩ then s.extract 0 (s.size-1) else s
theorem quoteB_trim (t:ByteArray):bl8 (zdf (zad t))=zR t 0++[34]:=by
 have hl:bl8 (zad t)=34::(zR t 0++[34]):=by show (zaO t).toArray.toList=_;unfold zaO;simp
 have hp:hasP (zad t) ⟨#[34]⟩=true:=by rw[hasP_pre,hl];rfl
 unfold zdf;rw[if_pos hp,zcF,zbq,hl];rfl
theorem quote_out {t:ByteArray}:unB (zdf (zad t))=some (bl8 t++[34]):=by
 have h:=quoteB_trim t;have hz:(zdf (zad t)).size=(zR t 0).length+1:=by rw[<-zT,h,dA];rfl
 unfold unB;rw[hz,h,quote_un t _ 0 rfl 1 [34] (by simp)];show (unL 1 [34]).map _=_;rfl
theorem trimS_out (t:ByteArray):zd7 ⟨(bl8 t++[34]).toArray⟩=t:=by
 have hz:(mkB (bl8 t++[34])).size=t.size+1:=by rw[z8,dA,zT];rfl
 show zd7 (mkB (bl8 t++[34]))=t;unfold zd7;rw[hz,zcp (by rw[hz];omega),zcp (by rw[hz];omega),zbq];have e1:((bl8 t++[34]).take (t.size+1)).drop (t.size+1-1)=[34]:=by
  rw[dJ (by rw[dA,zT];simp)];exact List.drop_left' (by rw[zT];omega)
 have e2:((bl8 t++[34]).take (t.size+1-1)).drop 0=bl8 t:=by
  rw[j7];exact vR (by rw[zT];omega)
 rw[e1,e2,if_pos ⟨by omega,rfl⟩,zew]
theorem ne_size {s:ByteArray} (h:¬s=ByteArray.empty):0<s.size:=by
 rcases jN s.size with e | e
 · exact absurd (uE (jV.1 (d4 (by simpa using e)))) h
 exact e
theorem esc_0 {s:ByteArray} (h:s=ByteArray.empty):ByteArray.empty=escT s/\0=escN s:=by subst h;exact⟨rfl,rfl⟩
theorem esc_1 {s:ByteArray} (hz:0<s.size) (h:zC s 0=34\/zC s 0=92):s.extract 0 1=escT s/\1=escN s:=by
 unfold escT escN;rw[if_neg (by omega),if_pos h,if_neg (by omega),if_pos h];exact⟨rfl,rfl⟩
theorem esc_2 {s:ByteArray} (hz:0<s.size) (h1:¬(zC s 0=34\/zC s 0=92)) (h:zC s 0=110):(⟨#[10]⟩:ByteArray)=escT s/\1=escN s:=by
 unfold escT escN;rw[if_neg (by omega),if_neg h1,if_pos h,if_neg (by omega),if_neg h1,if_pos h];exact⟨rfl,rfl⟩
theorem esc_3 {s:ByteArray} {a b:Nat} (hz:0<s.size) (h1:¬(zC s 0=34\/zC s 0=92)) (h2:¬zC s 0=110) (h:zC s 0=120/\3<=s.size) (ha:hexI (zC s 1)=(a:Int)) (hb:hexI (zC s 2)=(b:Int)):mkB [UInt8.ofNat (a*16+b)]=escT s/\3=escN s:=by
 have hh:zC s 0=120/\3<=s.size/\0<=hexI (zC s 1)/\0<=hexI (zC s 2):=⟨h.1,h.2,by omega,by omega⟩;unfold escT escN;rw[if_neg (by omega),if_neg h1,if_neg h2,if_pos hh,if_neg (by omega),if_neg h1,if_neg h2,if_pos hh,ha,hb];exact⟨rfl,rfl⟩
theorem zgx {s:ByteArray} (hz:0<s.size) (h1:¬(zC s 0=34\/zC s 0=92)) (h2:¬zC s 0=110) (h:¬(zC s 0=120/\3<=s.size/\0<=hexI (zC s 1)/\0<=hexI (zC s 2))):ByteArray.empty=escT s/\0=escN s:=by
 unfold escT escN;rw[if_neg (by omega),if_neg h1,if_neg h2,if_neg h,if_neg (by omega),if_neg h1,if_neg h2,if_neg h];exact⟨rfl,rfl⟩
theorem nums_one {n:Nat} (h:n<256):strOfNums [((n:Nat):Int)]=mkB [UInt8.ofNat n]:=by rfl
def UInv (s r:ByteArray) (o:List UInt8):Prop:=unB s=(unB r).map (o++·)
theorem UInv.zero (s:ByteArray):UInv s s []:=by unfold UInv;cases unB s<;>rfl
theorem UInv.raw {s r:ByteArray} {o:List UInt8} {u:UInt8} (h:UInv s r o) (hu:r[0]?=some u) (h2:¬u=92):UInv s (r.extract 1 r.size) (o++[u]):=by
 unfold UInv at*;rw[h,unB_raw hu h2];cases unB (r.extract 1 r.size)<;>simp
theorem UInv.esc {s r:ByteArray} {o:List UInt8} (h:UInv s r o) (hu:r[0]?=some 92) (h2:¬escN (r.extract 1 r.size)=0):UInv s (r.extract (1+escN (r.extract 1 r.size)) r.size) (o++(escT (r.extract 1 r.size)).data.toList):=by
 unfold UInv at*;rw[h,unB_esc hu h2];cases unB (r.extract (1+escN (r.extract 1 r.size)) r.size)<;>simp
theorem UInv.none {s r:ByteArray} {o:List UInt8} (h:UInv s r o) (hu:r[0]?=some 92) (h2:escN (r.extract 1 r.size)=0):unB s=none:=by
 unfold UInv at*;rw[h,unB_none hu h2];rfl
theorem UInv.done {s r:ByteArray} {o:List UInt8} (h:UInv s r o) (hr:r=ByteArray.empty):unB s=some o:=by
 unfold UInv at*;rw[h,hr,unB_nil rfl];simp
theorem u8_92 {u:UInt8} (h:((u.toNat:Nat):Int)=92):u=92:=jP.1 (by show u.toNat=92;omega)
theorem u8_ne92 {u:UInt8} (h:¬((u.toNat:Nat):Int)=92):¬u=92:=by rintro rfl;exact h rfl
theorem trimP_size (s:ByteArray):s.size<=(zdf s).size+1/\(zdf s).size<=s.size:=by
 unfold zdf;split
 · rw[cR];omega
 omega
theorem trimS_size (s:ByteArray):(zd7 s).size<=s.size:=by
 unfold zd7;split
 · rw[cR];omega
 omega
theorem unq_t {s:ByteArray} {o:List UInt8} (h:zad (zd7 ⟨o.toArray⟩)=s):zd7 ⟨o.toArray⟩=unqT s/\true=zcf s:=by
 have:=unqB_some h;unfold unqT zcf;rw[this];exact⟨rfl,rfl⟩
theorem unq_f {s:ByteArray} {o:List UInt8} (hu:unB (zdf s)=some o) (h:¬zad (zd7 ⟨o.toArray⟩)=s):ByteArray.empty=unqT s/\false=zcf s:=by
 have:unqB s=none:=unqB_none λt ht=>by
  rw[<-ht,quote_out] at hu;injection hu with hu;rw[<-hu,trimS_out] at h;exact h ht
 unfold unqT zcf;rw[this];exact⟨rfl,rfl⟩
theorem unq_n {s:ByteArray} (hu:unB (zdf s)=none):ByteArray.empty=unqT s/\false=zcf s:=by
 have:unqB s=none:=unqB_none λt ht=>by
  rw[<-ht,quote_out] at hu;cases hu
 unfold unqT zcf;rw[this];exact⟨rfl,rfl⟩
theorem on8 {n:Nat} (h:n<256):(UInt8.ofNat n).toNat=n:=by simp;omega
theorem gb0 {a:UInt8} {l:List UInt8}:gb (a::l) 0=a.toNat:=rfl
theorem gb1 {a b:UInt8} {l:List UInt8}:gb (a::b::l) 1=b.toNat:=rfl
theorem gb2 {a b c:UInt8} {l:List UInt8}:gb (a::b::c::l) 2=c.toNat:=rfl
theorem gb3 {a b c d:UInt8} {l:List UInt8}:gb (a::b::c::d::l) 3=d.toNat:=rfl
theorem ct {l:List UInt8} {k:Nat} (h:k<l.length) (h2:gb l k / 64=2):za1 l k=true:=by unfold za1;rw[decide_eq_true h,h2];rfl
theorem dec_encS (c:Nat) (x:List UInt8) (hc:c<1114112):(decL (encR c++x)).2=(encR c).length/\(decL (encR c++x)).1=(if 55296<=c/\c<=57343 then 65533 else c):=by
 unfold encR;split
 · have e:(UInt8.ofNat (c % 256)).toNat=c:=(by rw[on8 (by omega)];omega);rw[jA,zab (by omega),e];exact⟨rfl,(if_neg (by omega)).symm⟩
 split
 · generalize ha:UInt8.ofNat (192+c / 64 % 256)=a;generalize hb:UInt8.ofNat (128+c % 256 % 64)=b;have a1:a.toNat=192+c / 64:=(by rw[<-ha,on8 (by omega)];omega);have b1:b.toNat=128+c % 64:=(by rw[<-hb,on8 (by omega)];omega);show (decL (a::b::x)).2=2/\_;have c1:za1 (a::b::x) 1=true:=ct (by simp) (by rw[gb1,b1];omega);have e:decL (a::b::x)=(c,2):=by
    unfold decL;rw[c1,gb0,gb1,a1,b1,if_neg (by omega),if_pos (by simp;omega),if_pos (by omega)];congr 1;omega
   show (decL (a::b::x)).2=2/\(decL (a::b::x)).1=_;rw[e];exact⟨rfl,(if_neg (by omega)).symm⟩
 split
 · rename_i h1 h2 h3;generalize ha:UInt8.ofNat (224+c / 4096 % 256)=a;generalize hb:UInt8.ofNat (128+c / 64 % 256 % 64)=b;generalize hd:UInt8.ofNat (128+c % 256 % 64)=d;have a1:a.toNat=224+c / 4096:=(by rw[<-ha,on8 (by omega)];omega);have b1:b.toNat=128+c / 64 % 64:=(by rw[<-hb,on8 (by omega)];omega);have d1:d.toNat=128+c % 64:=(by rw[<-hd,on8 (by omega)];omega);have c1:za1 (a::b::d::x) 1=true:=ct (by simp) (by rw[gb1,b1];omega);have c2:za1 (a::b::d::x) 2=true:=ct (by simp) (by rw[gb2,d1];omega);have e:decL (a::b::d::x)=(c,3):=by
    unfold decL;have en:(224+c / 4096) % 16*4096+(128+c / 64 % 64) % 64*64+(128+c % 64) % 64=c:=(by omega);rw[c1,c2,gb0,gb1,gb2,a1,b1,d1,en,if_neg (by omega),if_neg (by simp;omega),if_pos (by simp;omega),if_pos (by unfold Utf8.valid;simp;omega)]
   show (decL (a::b::d::x)).2=3/\(decL (a::b::d::x)).1=_;rw[e];exact⟨rfl,(if_neg (by omega)).symm⟩
 split
 · rename_i h1 h2 h3 h4;generalize ha:UInt8.ofNat (240+c / 262144 % 256)=a;generalize hb:UInt8.ofNat (128+c / 4096 % 256 % 64)=b;generalize hd:UInt8.ofNat (128+c / 64 % 256 % 64)=d;generalize hf:UInt8.ofNat (128+c % 256 % 64)=f;have a1:a.toNat=240+c / 262144:=(by rw[<-ha,on8 (by omega)];omega);have b1:b.toNat=128+c / 4096 % 64:=(by rw[<-hb,on8 (by omega)];omega);have d1:d.toNat=128+c / 64 % 64:=(by rw[<-hd,on8 (by omega)];omega);have f1:f.toNat=128+c % 64:=(by rw[<-hf,on8 (by omega)];omega);have c1:za1 (a::b::d::f::x) 1=true:=ct (by simp) (by rw[gb1,b1];omega);have c2:za1 (a::b::d::f::x) 2=true:=ct (by simp) (by rw[gb2,d1];omega);have c3:za1 (a::b::d::f::x) 3=true:=ct (by simp) (by rw[gb3,f1];omega);have e:decL (a::b::d::f::x)=(c,4):=by
    unfold decL;have en:(240+c / 262144) % 8*262144+(128+c / 4096 % 64) % 64*4096+(128+c / 64 % 64) % 64*64+(128+c % 64) % 64=c:=(by omega);rw[c1,c2,c3,gb0,gb1,gb2,gb3,a1,b1,d1,f1,en,if_neg (by omega),if_neg (by simp;omega),if_neg (by simp;omega),if_pos (by simp;omega),if_pos (by unfold Utf8.valid;simp;omega)]
   show (decL (a::b::d::f::x)).2=4/\(decL (a::b::d::f::x)).1=_;rw[e];exact⟨rfl,(if_neg (by omega)).symm⟩
 have c1:za1 (239::191::189::x) 1=true:=ct (by simp) (by rw[gb1];rfl);have c2:za1 (239::191::189::x) 2=true:=ct (by simp) (by rw[gb2];rfl);have e:decL (239::191::189::x)=(65533,3):=by
  have n0:(239:UInt8).toNat=239:=by decide
  have n1:(191:UInt8).toNat=191:=by decide
  have n2:(189:UInt8).toNat=189:=by decide
  unfold decL;rw[c1,c2,gb0,gb1,gb2,n0,n1,n2,if_neg (by omega),if_neg (by simp),if_pos (by simp),if_pos (by unfold Utf8.valid;simp)]
 show (decL (239::191::189::x)).2=3/\(decL (239::191::189::x)).1=_;rw[e];exact⟨rfl,(if_pos (by omega)).symm⟩
theorem dec_enc (c:Nat) (x:List UInt8) (hc:c<1114112):(decL (encR c++x)).2=(encR c).length/\((decL (encR c++x)).1=c\/(decL (encR c++x)).1=65533):=by
 obtain ⟨h1,h2⟩:=dec_encS c x hc;refine⟨h1,?_⟩;split at h2
 · exact .inr h2
 exact .inl h2
theorem hexB_kind (n:Nat):(hexB n).toNat<128/\(hexB n).toNat≠92/\(hexB n).toNat≠34:=by
 rcases c8 n 16 with h | h
 · have:∀ k:Fin 16,(hexB k.1).toNat<128/\(hexB k.1).toNat≠92/\(hexB k.1).toNat≠34:=(by decide);exact this ⟨n,h⟩
 have e:hexB n=0:=by
  unfold hexB;have:hexd[n]?=none:=by
   have hs:hexd.size=16:=rfl;exact getElem?_neg _ _ (by omega)
  rw[this];rfl
 rw[e];decide
theorem qs_plain {b:UInt8} {t:List UInt8} (h:b.toNat<128) (h1:b.toNat≠92) (h2:b.toNat≠34):zae false (b::t)=(zae false t).map (· +1):=by
 rw[zbB (by simp),zab h,if_neg (by simp),if_neg h1,if_neg h2];rfl
theorem qs_esc {b:UInt8} {t:List UInt8} (h:b.toNat<128):zae false (92::b::t)=(zae false t).map (· +2):=by
 rw[zbB (by simp),zab (by decide),if_neg (by simp),if_pos (by decide)];show (zae true (b::t)).map _=_;rw[zbB (by simp),zab h,if_pos rfl];show ((zae false t).map _).map _=_;cases zae false t<;>rfl
theorem qs_piece {l src:List UInt8} (h:Tok l src) (x:List UInt8):zae false (l++x)=(zae false x).map (· +l.length):=by
 cases h with
 | esc hc=>rcases hc with rfl | rfl<;>exact qs_esc (by decide)
 | nl=>exact qs_esc (by decide)
 | @hex b=>
  obtain ⟨a1,a2,a3⟩:=hexB_kind (b.toNat / 16);obtain ⟨b1,b2,b3⟩:=hexB_kind (b.toNat % 16);show zae false (92::120::hexB (b.toNat / 16)::hexB (b.toNat % 16)::x)=_;rw[qs_esc (by decide),qs_plain a1 a2 a3,qs_plain b1 b2 b3];cases zae false x<;>rfl
 | @raw c hc h1 h2 h3=>
  obtain ⟨e1,e2⟩:=dec_enc c x hc;have hne:encR c++x≠[]:=by
   obtain ⟨b,r,e,_⟩:=encR_head hc;rw[e];simp
  rw[zbB hne,e1,vL,if_neg (by simp),if_neg (by rcases e2 with e2 | e2<;>omega),if_neg (by rcases e2 with e2 | e2<;>omega)]
theorem qs_quote (s:ByteArray) (r:List UInt8):∀ (n p:Nat),s.size-p=n->zae false (zR s p++34::r)=some (zR s p).length:=by
 intro n
 induction n using Nat.strongRecOn with
 | _ n ih=>
  intro p hp;rcases c8 p s.size with h | h
  · obtain ⟨src,ht,_⟩:=zc8 h;have:=zz s p;rw[zaU h,dQ,qs_piece ht,ih _ (by omega) _ rfl,dA];show some ((zR s (p+decW s p)).length+(zcX s p).length)=some _;congr 1;omega
  rw[zbH h,jI,zbB (by simp),zab (by decide),if_neg (by simp),if_neg (by decide),if_pos (by decide)];rfl
theorem quoteL_len (s:ByteArray):(zaO s).length=(zR s 0).length+2:=by unfold zaO;simp
theorem strT_quote (s:ByteArray) (r:List UInt8):zg (zaO s++r)=(⟨3,0,s⟩,(zaO s).length):=by
 have e:zaO s++r=34::(zR s 0++34::r):=by unfold zaO;simp
 have hd:decL (34::(zR s 0++34::r))=(34,1):=zab (by decide);have hq:zae true (zaO s++r)=some ((zR s 0).length+1):=by
  rw[e,zbB (by simp),hd,if_pos rfl];show (zae false (zR s 0++34::r)).map _=_;rw[qs_quote s r _ 0 rfl];rfl
 have ht:(zaO s++r).take ((zR s 0).length+1+1)=zaO s:=vR (quoteL_len s);have hu:unqB (mkB (zaO s))=some s:=unqB_some rfl;rw[firstT_q (by rw[e,hd];decide) (by rw[e,hd];decide) (by rw[e,hd])];unfold strT;rw[hq];show (match unqB (mkB ((zaO s++r).take ((zR s 0).length+1+1))) with | none=>(zbh,0) | some t=>((⟨3,0,t⟩:TokD),(zR s 0).length+1+1))=_;rw[ht,hu,quoteL_len]
theorem tokQ_len {l src:List UInt8} (h:Tok l src):l.length<=4*src.length/\src.length<=l.length:=by
 cases h with
 | esc _=>exact⟨by simp,by simp⟩
 | nl=>exact⟨by decide,by decide⟩
 | hex=>exact⟨by simp,by simp⟩
 | raw _ _ _ _=>exact⟨by omega,cU _⟩
theorem quoteAt_4 (s:ByteArray):∀ (n p:Nat),s.size-p=n->(zR s p).length<=4*(s.size-p)/\s.size-p<=(zR s p).length:=by
 intro n
 induction n using Nat.strongRecOn with
 | _ n ih=>
  intro p hp;rcases c8 p s.size with h | h
  · obtain ⟨src,ht,e⟩:=zc8 h;have h1:=zz s p;have h2:=zZ s p h;have e2:=congrArg List.length e;rw[dA,zeA,zeA] at e2;have h3:=tokQ_len ht;have h4:=ih (s.size-(p+decW s p)) (by omega) (p+decW s p) rfl;rw[zaU h,dA];omega
  rw[zbH h];simp;omega
theorem zeb (s:ByteArray):(zad s).size<=4*s.size+2/\s.size+2<=(zad s).size:=by
 have h:=quoteAt_4 s _ 0 rfl;have e:(zad s).size=(zaO s).length:=z8 _;rw[e,quoteL_len];omega
theorem quote_bl8 (s:ByteArray):bl8 (zad s)=zaO s:=zbq _
theorem quote_blank (s:ByteArray) (r:List UInt8):runL isB (zaO s++r)=0:=by
 have e:zaO s++r=34::(zR s 0++34::r):=by unfold zaO;simp
 rw[e];refine zc6 ?_;rw[zab (by decide)];decide
def zcP (x:TokD):ByteArray:=if x.k=3 then zad x.t else if x.k=4 then x.t++(⟨#[115]⟩:ByteArray) else x.t
theorem joinT_3 {x:TokD} (h:x.k=3):zcP x=zad x.t:=by unfold zcP;rw[if_pos h]
theorem joinT_4 {x:TokD} (h3:¬x.k=3) (h:x.k=4):zcP x=x.t++(⟨#[115]⟩:ByteArray):=by unfold zcP;rw[if_neg h3,if_pos h]
theorem zex {x:TokD} (h3:¬x.k=3) (h:¬x.k=4):zcP x=x.t:=by unfold zcP;rw[if_neg h3,if_neg h]
def FitT (x:TokD):Prop:=bl8 (zcP x)≠[]/\runL isB (bl8 (zcP x))=0/\zg (bl8 (zcP x))=(⟨x.k,0,x.t⟩,(zcP x).size)
theorem run_word:∀ (n:Nat) (s:ByteArray) (p:Nat),s.size-p=n->zdT (zaF s p)=true->runL isLD (bts s p)=s.size-p:=by
 intro n
 induction n using Nat.strongRecOn with
 | _ n ih=>
  intro s p hp hw;rcases c8 p s.size with h | h
  · rw[zan h,zdD,cY,decide_eq_true_eq] at hw;have hk:isLD ((decL (bts s p)).1:Int)=true:=by
     rw[<-zbp];show inK [1,2] _=true;unfold inK;rcases hw.1 with h | h<;>simp[h]
    have h1:=zz s p;have h2:=zZ s p h;rw[zcv (zdp h) hk,zbU,<-zbT,ih _ (by omega) s _ rfl hw.2];omega
  rw[zde h,zcA];omega
theorem name_first {s:ByteArray} (h:zba s=true):0<s.size/\zy ((decR s 0:Nat):Int)=1/\runL isLD (bl8 s)=s.size:=by
 have h':=h;unfold zba at h';rw[zbX] at h';simp only[cY,decide_eq_true_eq] at h';have hz:0<s.size:=by
  rcases c8 0 s.size with hz | hz
  · exact hz
  have e:zu s=[]:=by show zaF s 0=[];exact zay hz
  rw[e] at h';simp at h'
 refine⟨hz,?_,?_⟩
 · have e:zu s=((decR s 0:Nat):Int)::zaF s (0+decW s 0):=(by show zaF s 0=_;exact zan hz);have:=h'.1.2;rw[e] at this;exact this
 have:=run_word _ s 0 rfl h'.2;exact this
theorem good_word {s:ByteArray} (h:zba s=true):FitT ⟨1,0,s⟩:=by
 obtain ⟨h1,h2,h3⟩:=name_first h;have ej:zcP ⟨1,0,s⟩=s:=zex (show ¬(1:Int)=3 by decide) (show ¬(1:Int)=4 by decide);have hb:isB ((decL (bl8 s)).1:Int)=false:=by
  rw[dec0];show inK [3] _=false;unfold inK;simp[h2]
 unfold FitT;rw[ej];refine⟨bl8_ne h1,zc6 hb,?_⟩;rw[firstT_w (by rw[dec0];exact h2)];have e:mkB ((bl8 s).take s.size)=s:=by rw[<-zT,uH,zew]
 unfold zca;rw[h3,e,if_pos h]
theorem digL_13 {v:Nat} (h:v<=1000000000000):(digL v).length<=13:=digL_lt 12 v (wB h (by decide))
theorem numD_0 (v:Nat):numD 0 v=digL v:=rfl
theorem good_num {v:Nat} (h:v<=1000000000000):FitT ⟨2,0,digB v⟩:=by
 have h13:=digL_13 h;obtain ⟨h1,h2⟩:=num_first (zdA 0 v) (numD_ne 0 v) [];have hr:=zd9 isD_2 (numD 0 v) [] (zdA 0 v);have hr2:=zd9 isLD_2 (numD 0 v) [] (zdA 0 v);rw[zcA,jY] at hr hr2;rw[jO] at h1 h2 hr hr2;have ej:zcP ⟨2,0,digB v⟩=digB v:=zex (show ¬(2:Int)=3 by decide) (show ¬(2:Int)=4 by decide);have eb:bl8 (digB v)=numD 0 v:=zbq _;unfold FitT;rw[ej,eb];refine⟨numD_ne 0 v,h2,?_⟩;have hs:(digB v).size=(numD 0 v).length:=z8 _;rw[h1,hs];unfold numT;rw[hr,hr2,uH,digV_eq,numD_val,if_neg (by rw[numD_0];omega),if_pos rfl]
theorem good_dur {v:Nat} (h:v<=1000000000):FitT ⟨4,0,digB v⟩:=by
 have h13:=digL_13 (v:=v) (by omega);obtain ⟨h1,h2⟩:=num_first (zdA 0 v) (numD_ne 0 v) [115];have hr:=zd9 isD_2 (numD 0 v) [115] (zdA 0 v);have hr2:=zd9 isLD_2 (numD 0 v) [115] (zdA 0 v);have e0:runL isD [115]=0:=zc6 (by decide);rw[e0,jY] at hr;have e1:runL isLD [115]=1:=by
  rw[zcv (by simp) (by decide)];show 1+runL isLD []=1;rw[zcA]
 rw[e1] at hr2;have ej:zcP ⟨4,0,digB v⟩=digB v++(⟨#[115]⟩:ByteArray):=joinT_4 (show ¬(4:Int)=3 by decide) rfl;have eb:bl8 (digB v++(⟨#[115]⟩:ByteArray))=numD 0 v++[115]:=by
  rw[bl8_add,show bl8 (digB v)=numD 0 v from zbq _]
 have hs:(digB v++(⟨#[115]⟩:ByteArray)).size=(numD 0 v).length+1:=by
  rw[<-zT,eb,dA];rfl
 unfold FitT;rw[ej,eb,hs];refine⟨by simp[numD_ne],h2,?_⟩;have e2:((numD 0 v++[115]).take ((numD 0 v).length+1)).drop (numD 0 v).length=[115]:=by
  rw[dJ (by simp),vL]
 have es:secB (mkB [115])=1:=by decide
 rw[h1];unfold numT;rw[hr,hr2,List.take_left,digV_eq,numD_val,if_neg (by rw[numD_0];omega),if_neg (by omega),e2,es,if_neg (by omega),Nat.mul_one]
theorem good_str (s:ByteArray):FitT ⟨3,0,s⟩:=by
 have h1:=strT_quote s [];have h2:=quote_blank s [];rw[jO] at h1 h2;have ej:zcP ⟨3,0,s⟩=zad s:=joinT_3 rfl;unfold FitT;rw[ej,quote_bl8,show (zad s).size=(zaO s).length from z8 _];exact⟨by unfold zaO;simp,h2,h1⟩
theorem sign_facts:∀ x∈zV,bl8 x≠[]/\¬zy ((decL (bl8 x)).1:Int)=1/\¬zy ((decL (bl8 x)).1:Int)=2/\¬(decL (bl8 x)).1=34/\isB ((decL (bl8 x)).1:Int)=false/\zbQ (bl8 x)=(⟨5,0,x⟩,x.size):=by decide
theorem good_sign {x:ByteArray} (hx:x∈zV):FitT ⟨5,0,x⟩:=by
 obtain ⟨h1,h2,h3,h4,h5,h6⟩:=sign_facts x hx;have ej:zcP ⟨5,0,x⟩=x:=zex (show ¬(5:Int)=3 by decide) (show ¬(5:Int)=4 by decide);unfold FitT;rw[ej];exact⟨h1,zc6 h5,by rw[firstT_s h2 h3 h4,h6]⟩
theorem signIn_mem:∀ (xs:List ByteArray) (l:List UInt8),(zac xs l).2≠0->∃ x∈xs,(zac xs l).1=⟨5,0,x⟩
 | [],_,h=>absurd rfl h
 | x::xs,l,h=>by
  unfold zac at h ⊢;split
  · exact⟨x,cW,rfl⟩
  rename_i h2;rw[if_neg h2] at h;obtain ⟨y,hy,e⟩:=signIn_mem xs l h;exact⟨y,c7 _ hy,e⟩
theorem sign_small:∀ x∈zV,x.size<=2:=by decide
theorem first_good {l:List UInt8} (h:(zg l).2≠0):FitT (zg l).1/\(zg l).1.t.size<=l.length+20:=by
 unfold zg at h ⊢;split
 · rename_i h1;rw[if_pos h1] at h;unfold zca at h ⊢;split
   · rename_i h2;refine⟨good_word h2,?_⟩;show (mkB _).size<=_;rw[z8,d5];omega
   rename_i h2;rw[if_neg h2] at h;exact absurd rfl h
 rename_i h1;rw[if_neg h1] at h;split
 · rename_i h2;rw[if_pos h2] at h;unfold numT at h ⊢;split
   · rename_i h3;rw[if_pos h3] at h;exact absurd rfl h
   rename_i h3;rw[if_neg h3] at h;split
   · refine⟨good_num (by omega),?_⟩;have:=digB_20 (n:=digV (l.take (runL isD l))) (by omega);show (digB _).size<=_;omega
   rename_i h4;rw[if_neg h4] at h;split
   · rename_i h5;rw[if_pos h5] at h;exact absurd rfl h
   rename_i h5;obtain ⟨c,hc⟩:∃ c,secB (mkB ((l.take (runL isLD l)).drop (runL isD l)))=c:=⟨_,rfl⟩;rw[hc] at h5 ⊢;have hm:digV (l.take (runL isD l))*c<=1000000000:=(vW (by omega)).1 (by omega);refine⟨good_dur hm,?_⟩;have:=digB_20 (n:=digV (l.take (runL isD l))*c) (by omega);show (digB _).size<=_;omega
 rename_i h2;rw[if_neg h2] at h;split
 · rename_i h3;rw[if_pos h3] at h;cases e:zae true l with
   | none=>unfold strT at h;rw[e] at h;exact absurd rfl h
   | some i=>
    have hi:=qscan_lt _ l true i rfl e;cases e2:unqB (mkB (l.take (i+1))) with
    | none=>
     unfold strT at h;rw[e] at h;have h:(match unqB (mkB (l.take (i+1))) with | none=>(zbh,0) | some t=>((⟨3,0,t⟩:TokD),i+1)).2≠0:=h;rw[e2] at h;exact absurd rfl h
    | some t=>
     have e3:strT l=(⟨3,0,t⟩,i+1):=by
      unfold strT;rw[e];show (match unqB (mkB (l.take (i+1))) with | none=>(zbh,0) | some t=>((⟨3,0,t⟩:TokD),i+1))=_;rw[e2]
     rw[e3];refine⟨good_str t,?_⟩;show t.size<=_;have hq:zad t=mkB (l.take (i+1)):=by
      unfold unqB at e2;split at e2
      · rename_i hx;injection e2 with e2;rw[<-e2];exact hx.choose_spec
      cases e2
     have h4:=(zeb t).2;rw[hq,z8,d5] at h4;omega
 rename_i h3;rw[if_neg h3] at h;obtain ⟨x,hx,e⟩:=signIn_mem zV l h;have e:(zbQ l).1=⟨5,0,x⟩:=e;rw[e];refine⟨good_sign hx,?_⟩;have:=sign_small x hx;show x.size<=_;omega
theorem good_put {x:TokD} (a:Nat) (h:FitT x):FitT (x.put a):=h
theorem words_good:∀ (n:Nat) (l:List UInt8) (a:Nat) (ts:List TokD),l.length=n->zM l a=some ts->∀ x∈ts,FitT x/\x.t.size<=l.length+20:=by
 intro n
 induction n using Nat.strongRecOn with
 | _ n ih=>
  intro l a ts hn h;have hrl:=zbz isB l;generalize hm:l.drop (runL isB l)=m at*;have hml:m.length=l.length-runL isB l:=by rw[<-hm,cZ]
  unfold zM at h;rw[hm] at h;by_cases hne:m=[]
  · subst hne;rw[zaI] at h;injection h with h;subst h;exact λx hx=>absurd hx (by simp)
  by_cases h0:(zg m).2=0
  · rw[zbF hne h0] at h;cases h
  have hpos:=dD.2 hne;have hfl:=firstT_le (l:=m);rw[zaN hne h0 (by omega)] at h;cases e:zM (m.drop (zg m).2) (a+runL isB l+(zg m).2) with
  | none=>rw[e] at h;cases h
  | some t2=>
   rw[e] at h;have h:(zg m).1.put (a+runL isB l)::t2=ts:=(by injection h);have hi:=ih (m.drop (zg m).2).length (by rw[cZ];omega) _ _ t2 rfl e;rw[cZ] at hi;subst h;intro x hx;rcases dW.1 hx with rfl | hx
   · obtain ⟨g1,g2⟩:=first_good h0;exact⟨good_put _ g1,by show (zg m).1.t.size<=_;omega⟩
   obtain ⟨g1,g2⟩:=hi x hx;exact⟨g1,by omega⟩
theorem words_join1 {x:TokD} (h:FitT x) (a:Nat):zM (bl8 (zcP x)) a=some [x.put a]:=by
 obtain ⟨h1,h2,h3⟩:=h;have h4:=words_one (x:=⟨x.k,0,x.t⟩) h1 h2 (by rw[h3,zT]);have h5:=wordsL_by a _ (bl8 (zcP x)) 0 rfl;rw[dX,h4] at h5;rw[h5];show some [TokD.mk x.k (((0:Nat):Int)+(a:Int)) x.t]=some [TokD.mk x.k (a:Int) x.t];rw[show ((0:Nat):Int)+(a:Int)=(a:Int) by omega]
theorem lex_sizes {s:ByteArray} (hs:s.size<=600):∀ x∈lexL s,x.t.size<=1000:=λx hx=>by
 by_cases h:lexE s=0
 · have:=(words_good _ (bl8 s) 0 _ rfl (zfk h).2 x hx).2;rw[zT] at this;omega
 rw[lex_none h] at hx;exact absurd hx (by simp)
structure TkOk (x:TokD):Prop where
 z:x.t.size<=1000
 d:x.k=2\/x.k=4->∃ v:Nat,v<=1000000000000/\x.t=digB v
def TOk (l:List TokD):Prop:=∀ x∈l,TkOk x
theorem TOk.suf {l m:List TokD} (h:TOk l) (k:m <:+l):TOk m:=λx hx=>h x (k.subset hx)
theorem Stp.out {c:Int} {s t:Rd} (h:Stp c s t) (hT:TOk s.l):t.l.length<=s.l.length/\t.n+2*(t.l.length:Int)<=s.n+2*(s.l.length:Int)+c/\s.n<=t.n/\TOk t.l:=⟨h.len,h.w,h.n,hT.suf h.l⟩
theorem pk_z {s:Rd} (hT:TOk s.l):s.pk.t.size<=1000:=by
 unfold Rd.pk;cases e:s.l with
 | nil=>exact cX _
 | cons x l=>exact(hT x (e ▸ cW)).z
section
variable {s s':Rd} {k:Int} {ts:List ByteArray} {t a b:ByteArray} {q:Bool}
theorem zdE (e:(t,q,s')=s.take k ts):Stp 0 s s':=by have h:=zP s k ts;rw[<-e] at h;exact h
theorem zdn (e:(t,q,s')=s.take k ts) (hT:TOk s.l):t.size<=1000:=by
 have h:t=(s.take k ts).1:=congrArg Prod.fst e;rw[h];unfold Rd.take;split
 · exact cX _
 exact pk_z hT
theorem take_y (e:(t,q,s')=s.take k ts) (hk:k≠0) (hq:q=true):s'.l.length+1=s.l.length/\Stp (-2) s s'/\s.b=false/\s'.b=false/\s.is k ts=true:=by
 have h:=zbx (s:=s) (k:=k) (ts:=ts) hk (by rw[<-e];exact hq);rw[<-e] at h;exact h
theorem zc0 (e:(t,s')=s.any k):Stp 0 s s':=by have h:=za4 s k;rw[<-e] at h;exact h
theorem zcQ (e:(t,s')=s.any k) (hT:TOk s.l):t.size<=1000:=by
 have h:t=(s.any k).1:=congrArg Prod.fst e;rw[h];unfold Rd.any;split
 · exact cX _
 exact pk_z hT
theorem any_y (e:(t,s')=s.any k) (hk:k≠0) (hb:s.b=false) (h:s.pk.k=k):s'.l.length+1=s.l.length/\Stp (-2) s s'/\t=s.pk.t/\s'.b=false:=by
 have h:=zfC hk hb h;rw[<-e] at h;exact h
theorem zaB (e:s'=s.must t):Stp 0 s s':=by rw[e];exact zx s t
theorem names_e {l:List ByteArray} (e:(l,s')=s.names):Stp 0 s s':=by have h:=names_stp s;rw[<-e] at h;exact h
theorem mode_e {m:Int} {l:List ByteArray} (e:(m,l,s')=s.mode a b):Stp 0 s s':=by have h:=zbm s a b;rw[<-e] at h;exact h
theorem number_e {v:Int} (e:(v,s')=s.number k):Stp 0 s s':=by have h:=zaL s k;rw[<-e] at h;exact h
end
theorem digV_snoc (l:List UInt8) (b:UInt8):digV (l++[b])=10*digV l+(b.toNat-48):=by unfold digV;rw[List.foldl_append];rfl
theorem digV_digL:∀ n:Nat,digV (digL n)=n:=by
 intro n
 induction n using Nat.strongRecOn with
 | _ n ih=>
  unfold digL;split
  · show 10*0+((UInt8.ofNat (48+n)).toNat-48)=n;rw[on8 (by omega)];omega
  rw[digV_snoc,ih (n / 10) (by omega),on8 (by omega)];omega
theorem digL_digs:∀ n:Nat,∀ b∈digL n,48<=b.toNat/\b.toNat<=57:=by
 intro n
 induction n using Nat.strongRecOn with
 | _ n ih=>
  intro b hb;unfold digL at hb;split at hb
  · rw[jF.1 hb,on8 (by omega)];omega
  rcases jX.1 hb with h | h
  · exact ih (n / 10) (by omega) b h
  rw[jF.1 h,on8 (by omega)];omega
theorem digL_ne (n:Nat):digL n≠[]:=by unfold digL;split<;>simp
theorem zdZ (n:Nat):bl8 (digB n)=digL n:=zbq _
theorem numV_dig (n:Nat):numV (digB n)=(n:Int):=by unfold numV;rw[zdZ,digV_digL]
theorem numV_nil:numV ByteArray.empty=0:=rfl
theorem zff {s s':Rd} {k:Int} {t:ByteArray} (e:(t,s')=s.any k) (hk:k=2\/k=4) (hT:TOk s.l):t=ByteArray.empty\/∃ v:Nat,v<=1000000000000/\t=digB v:=by
 have h:t=(s.any k).1:=congrArg Prod.fst e;unfold Rd.any at h;split at h
 · exact .inl h
 rename_i hc;have hk':s.pk.k=k:=Decidable.byContradiction λh=>hc (.inr h)
 refine .inr ?_;unfold Rd.pk at h hk';cases el:s.l with
 | nil=>rw[el] at hk';exact absurd hk' (by show ¬(0:Int)=k;omega)
 | cons x l=>
  rw[el] at h hk';have h:t=x.t:=h;have hk':x.k=k:=hk';obtain ⟨v,h1,h2⟩:=(hT x (el ▸ cW)).d (by omega);exact⟨v,h1,h.trans h2⟩
theorem zee {s s':Rd} {k v:Int} (e:(v,s')=s.number k) (hk:k=2\/k=4) (hT:TOk s.l):0<=v/\v<=1000000000000:=by
 have h:v=numV (s.any k).1:=congrArg Prod.fst e;rcases zff (s:=s) (k:=k) (t:=(s.any k).1) (s':=(s.any k).2) rfl hk hT with h1 | ⟨n,h1,h2⟩
 · rw[h,h1,numV_nil];omega
 rw[h,h2,numV_dig];omega
mutual
def Nd.cnt:Nd->Nat
 | .mk _ _ _ _ _ _ kids=>Nd.cntL kids+1
def Nd.cntL:List Nd->Nat
 | []=>0
 | x::r=>Nd.cnt x+Nd.cntL r
end
section
variable (rm:List MatD->Bool)
end
end Lp
namespace Lp
open Go
theorem words_all (p:TokD->Prop) (hp:∀ (l:List UInt8) (a:Nat),(zg l).2≠0->p ((zg l).1.put a)):∀ (n:Nat) (l:List UInt8) (a:Nat) (ts:List TokD),l.length=n->zM l a=some ts->∀ x∈ts,p x:=by
 intro n
 induction n using Nat.strongRecOn with
 | _ n ih=>
  intro l a ts hn h;have hrl:=zbz isB l;generalize hm:l.drop (runL isB l)=m at*;have hml:m.length=l.length-runL isB l:=by rw[<-hm,cZ]
  unfold zM at h;rw[hm] at h;by_cases hne:m=[]
  · subst hne;rw[zaI] at h;injection h with h;subst h;exact λx hx=>absurd hx (by simp)
  by_cases h0:(zg m).2=0
  · rw[zbF hne h0] at h;cases h
  have hpos:=dD.2 hne;have hfl:=firstT_le (l:=m);rw[zaN hne h0 (by omega)] at h;cases e:zM (m.drop (zg m).2) (a+runL isB l+(zg m).2) with
  | none=>rw[e] at h;cases h
  | some t2=>
   rw[e] at h;have h:(zg m).1.put (a+runL isB l)::t2=ts:=(by injection h);have hi:=ih (m.drop (zg m).2).length (by rw[cZ];omega) _ _ t2 rfl e;subst h;intro x hx;rcases dW.1 hx with rfl | hx
   · exact hp _ _ h0
   exact hi x hx
theorem first_dig {l:List UInt8} (h:(zg l).2≠0):(zg l).1.k=2\/(zg l).1.k=4->∃ v:Nat,v<=1000000000000/\(zg l).1.t=digB v:=by
 unfold zg at h ⊢;split
 · rename_i h1;rw[if_pos h1] at h;unfold zca at h ⊢;split
   · intro k;rcases k with k | k<;>exact absurd k (by show ¬(1:Int)=_;decide)
   rename_i h2;rw[if_neg h2] at h;exact absurd rfl h
 rename_i h1;rw[if_neg h1] at h;split
 · rename_i h2;rw[if_pos h2] at h;unfold numT at h ⊢;split
   · rename_i h3;rw[if_pos h3] at h;exact absurd rfl h
   rename_i h3;rw[if_neg h3] at h;split
   · exact λ_=>⟨_,by omega,rfl⟩
   rename_i h4;rw[if_neg h4] at h;split
   · rename_i h5;rw[if_pos h5] at h;exact absurd rfl h
   rename_i h5;obtain ⟨c,hc⟩:∃ c,secB (mkB ((l.take (runL isLD l)).drop (runL isD l)))=c:=⟨_,rfl⟩;rw[hc] at h5 ⊢;have hm:digV (l.take (runL isD l))*c<=1000000000:=(vW (by omega)).1 (by omega);exact λ_=>⟨_,by omega,rfl⟩
 rename_i h2;rw[if_neg h2] at h;split
 · rename_i h3;rw[if_pos h3] at h;cases e:zae true l with
   | none=>unfold strT at h;rw[e] at h;exact absurd rfl h
   | some i=>
    cases e2:unqB (mkB (l.take (i+1))) with
    | none=>
     unfold strT at h;rw[e] at h;have h:(match unqB (mkB (l.take (i+1))) with | none=>(zbh,0) | some t=>((⟨3,0,t⟩:TokD),i+1)).2≠0:=h;rw[e2] at h;exact absurd rfl h
    | some t=>
     have e3:strT l=(⟨3,0,t⟩,i+1):=by
      unfold strT;rw[e];show (match unqB (mkB (l.take (i+1))) with | none=>(zbh,0) | some t=>((⟨3,0,t⟩:TokD),i+1))=_;rw[e2]
     rw[e3];intro k;rcases k with k | k<;>exact absurd k (by show ¬(3:Int)=_;decide)
 rename_i h3;rw[if_neg h3] at h;obtain ⟨x,hx,e⟩:=signIn_mem zV l h;have e:(zbQ l).1=⟨5,0,x⟩:=e;rw[e];intro k;rcases k with k | k<;>exact absurd k (by show ¬(5:Int)=_;decide)
theorem lexL_tok (s:ByteArray):TOk (lexL s):=λx hx=>by
 by_cases hE:lexE s=0
 · obtain ⟨h1,h2⟩:=zfk hE;refine⟨lex_sizes (by omega) x hx,?_⟩;exact words_all (λx=>x.k=2\/x.k=4->∃ v:Nat,v<=1000000000000/\x.t=digB v) (λl a h=>first_dig h) _ _ _ _ rfl h2 x hx
 rw[lex_none hE] at hx;exact absurd hx (by simp)
def zb6 (m:MatD):Bool:=zba m.n&&decide (1<=m.op/\m.op<=4)&&(decide (m.op<3)||patR (zu m.v))
def rmD (ms:List MatD):Bool:=ms.all zb6&&decide (ms.length<=10)
def noQ:QryD:=⟨noNd,0,0,0⟩
noncomputable def zcb (s:ByteArray):Int:=if lexE s=0 then(if (zbJ rmD (lexL s)).isSome=true then 0 else 2) else lexE s
noncomputable def zaW (s:ByteArray):QryD:=if lexE s=0 then(zbJ rmD (lexL s)).getD noQ else noQ
theorem readE_0 {s:ByteArray} (h:zcb s=0):lexE s=0/\zbJ rmD (lexL s)=some (zaW s):=by
 unfold zcb at h;split at h
 · rename_i h1;split at h
   · rename_i h2;obtain ⟨q,hq⟩:=wA.1 h2;refine⟨h1,?_⟩;unfold zaW;rw[if_pos h1,hq];rfl
   exact absurd h (by decide)
 rename_i h1;exact absurd h h1
end Lp
namespace Lp
open Go Go.RowKit Go.Proofs
abbrev HSyn (ev:Value):Hp:=.tab 1 #[ev]
theorem atoi_e (s:ByteArray) (ev es:Value) (hev:EvOk ev) (hes:EvOk es) (hd:s=ByteArray.empty\/∃ v:Nat,v<=1000000000000/\s=digB v):CD Tryz.prog 160 [HErr ev,HSyn es] [.s s] (λr H'=>∃ x,r=.tup [dI (numV s),x]/\H'=[HErr ev,HSyn es]):=
 cd_ext λw F vs hvs hok=>by
  obtain ⟨u,us,rfl,hu,hus⟩:=hvs;obtain ⟨hu,hm⟩:=hu;have hus:us=[]:=hus;subst hu;subst hus;rcases hd with rfl | ⟨n,hn,rfl⟩
  · obtain ⟨hF,T,fr,hh⟩:=hok _ (c7 _ cW);have hcell:w.cell? ⟨1,0,none⟩=some es:=by
     unfold World.cell?;rw[hh];rfl
    refine(Any.strconv_Atoi_syntax wQ ByteArray.empty (by decide) rfl es w hcell hes).mono λe w' he=>?_
    obtain ⟨N,rfl,_,_,hbel⟩:=he;exact⟨_,rfl,zeo hbel,.tup [dI 0,.any],⟨_,rfl,rfl⟩,⟨_,rfl,_,_,rfl,rfl,_,_,rfl,rfl,rfl⟩⟩
  have h13:=digL_13 hn;have ha:Lib.atoiAll (bl8 (digB n))=.ok (digV (bl8 (digB n)):Int):=by
   rw[zdZ];exact atoi_ok (digL_digs n) (digL_ne n) h13
  rw[zdZ,digV_digL] at ha;rw[numV_dig];refine(Any.strconv_Atoi_ok wQ (digB n) (by show (digB n).size<=_;unfold digB;rw[z8];omega) (n:Int) (by rw[<-zdZ] at ha;exact ha) w).mono λe w' he=>?_
  obtain ⟨rfl,hw⟩:=he;refine⟨_,rfl,?_,.tup [dI (n:Int),.v .nilIface],⟨_,rfl,rfl⟩,⟨_,rfl,_,_,rfl,rfl,_,_,rfl,rfl,rfl⟩⟩;rcases hw with rfl | ⟨t,rfl⟩
  · exact wR
  exact zeo (Joins.below_bytesWorld _ w _ t (cU _))
theorem laid_ints {H:Type} {enc:TypeId×Value->H} {P:Program} {w:World} {base:Nat} {spare:Nat->Bool} {held:Bool} {fuel n:Nat} {t e:TypeId} {k:IntKind} {cs:List Value} {zs:List Int} {q:List MemPlace}
 (hu:P.underlying t=some (.array n e)) (he:P.underlying e=some (.int k)) (hc:P.cellsOf e=1) (hct:P.cellsOf t=n) (h:DataW.trod enc P w base spare held fuel t cs=some (.agg (zs.map λz=>.lit (.int k z)),q)):cs=zs.map (Value.int k):=by
 obtain ⟨xs,m,rfl,hx,hlen,hn,hel⟩:=DataW.trod_array hu h;have hx1:zs.map (λz=>(DataW.lit (.int k z):DataW H))=xs.map (λx=>x.1):=by
  have:=congrArg Prod.fst hx;injection this
 have hl:=congrArg List.length hx1;rw[cV,cV] at hl;apply List.ext_getElem?;intro i;rcases c8 i n with hi | hi
 · have h1:=hel i hi;rw[hc,Nat.mul_one,dK (by omega)] at h1;obtain ⟨z,e1,e2,_⟩:=DataW.trod_int he h1;have a1:cs[i]?=some (.int k z):=by
    have:=congrArg (λl=>l[0]?) e1;simp only[List.getElem?_take,uS] at this;simpa using this
   have a2:zs[i]?=some z:=by
    have:=congrArg (λl=>l[i]?) hx1;simp only[j0] at this;rw[dK (show i<xs.length by omega),e2] at this;cases e3:zs[i]? with
    | none=>rw[e3] at this;cases this
    | some y=>rw[e3] at this;injection this with this;injection this with this;injection this with _ this;rw[this]
   rw[a1,j0,a2];rfl
 rw[jT (by omega),jT (by rw[cV];omega)]
theorem laid_iface {H:Type} {enc:TypeId×Value->H} {P:Program} {w:World} {base:Nat} {spare:Nat->Bool} {held:Bool} {fuel:Nat} {t:TypeId} {cs:List Value} {x:DataW H×List MemPlace} {ms:TypeDesc}
 (hu:P.underlying t=some ms) (hm:∃ mm,ms=.interface mm) (h:DataW.trod enc P w base spare held fuel t cs=some x):∃ ev,cs=[ev]/\EvOk ev:=by
 obtain ⟨mm,rfl⟩:=hm;cases fuel with
 | zero=>exact absurd h (by show ¬(none=some x);simp)
 | succ fuel=>
  rw[DataW.trod_step] at h;unfold DataW.trodStep at h;rw[hu] at h;split at h<;>simp_all [EvOk]
theorem var_heap {P:Program} {w:World} {name:String} {g:Nat} {cs:Array Value} (hg:P.globalNamed name=some g) (h:World.var? P w name=some cs):∃ T fr,w.heap[g]?=some (.cells cs T fr):=by
 unfold World.var? at h;rw[hg] at h;have h:(match w.heap[g]? with | some (.cells cs _ _)=>some cs | _=>none)=some cs:=h;split at h
 · rename_i a b c e;injection h with h;subst h;exact⟨_,_,e⟩
 cases h
theorem of_laid {W:World} (h:laidMetH Tryz.prog Go.Proofs.YtheccaeefigajaaGreatDoor.Rows.kindTellsRow.laid W):∃ ev es,EvOk ev/\EvOk es/\(∃ T fr,W.heap[0]?=some (.cells zeQ T fr))/\(∃ T fr,W.heap[2]?=some (.cells #[ev] T fr))/\(∃ T fr,W.heap[1]?=some (.cells #[es] T fr)):=by
 rw[MakeChecks.laidMetH_plain _ _ _ (by kernel_rfl)] at h;obtain ⟨ps,⟨g0,t0,cs0,f0,p0,q0,hg0,ht0,hv0,hd0,⟨g1,t1,cs1,f1,p1,q1,hg1,ht1,hv1,hd1,⟨g2,t2,cs2,f2,p2,q2,hg2,ht2,hv2,hd2,⟨g3,t3,cs3,f3,p3,q3,hg3,ht3,hv3,hd3,⟨g4,t4,cs4,f4,p4,q4,hg4,ht4,hv4,hd4,_⟩,_⟩,_⟩,_⟩,_⟩,_,_⟩:=h;obtain rfl:0=g2:=uY ((show Tryz.prog.globalNamed _=some 0 by kernel_rfl).symm.trans hg2);obtain rfl:2=g3:=uY ((show Tryz.prog.globalNamed _=some 2 by kernel_rfl).symm.trans hg3);obtain rfl:1=g4:=uY ((show Tryz.prog.globalNamed _=some 1 by kernel_rfl).symm.trans hg4);have a4:Tryz.prog.globals[1]?.map (·.type)=some t4:=ht4;obtain rfl:=uY ((show Tryz.prog.globals[1]?.map (·.type)=some 202 by kernel_rfl).symm.trans a4);obtain ⟨es,e4,hes⟩:=laid_iface Tryz.underlying202 ⟨_,rfl⟩ hd4;have a2:Tryz.prog.globals[0]?.map (·.type)=some t2:=ht2;have a3:Tryz.prog.globals[2]?.map (·.type)=some t3:=ht3;obtain rfl:=uY ((show Tryz.prog.globals[0]?.map (·.type)=some 240 by kernel_rfl).symm.trans a2);obtain rfl:=uY ((show Tryz.prog.globals[2]?.map (·.type)=some 202 by kernel_rfl).symm.trans a3);obtain ⟨ev,e3,hev⟩:=laid_iface Tryz.underlying202 ⟨_,rfl⟩ hd3;have e2:=laid_ints (n:=20) (e:=222) (zs:=Lib.pow10Tab) (by kernel_rfl) (by kernel_rfl) (by kernel_rfl) (by kernel_rfl) hd2;refine⟨ev,es,hev,hes,?_,?_,?_⟩
 · have:=var_heap hg2 hv2
   rwa [show cs2=zeQ from jV.1 (by rw[e2];simp[zeQ])] at this
 · have:=var_heap hg3 hv3
   rwa [show cs3=#[ev] from jV.1 (by rw[e3])] at this
 have:=var_heap hg4 hv4
 rwa [show cs4=#[es] from jV.1 (by rw[e4])] at this
theorem CD.lawT {f:FuncId} {ds:List D} {ev es:Value} (h:CD Tryz.prog f [HPow,HErr ev,HSyn es] ds (λr H'=>r=.v (.bool true)/\H'=[HPow,HErr ev,HSyn es])) {W:World} {vs:List Value} (hr:D.repA W (FA W) ds vs)
 (h1:∃ T fr,W.heap[0]?=some (.cells zeQ T fr)) (h2:∃ T fr,W.heap[2]?=some (.cells #[ev] T fr)) (h3:∃ T fr,W.heap[1]?=some (.cells #[es] T fr)):
 Calls Tryz.prog f vs.toArray W (Ret λu w'=>Ext W w'/\u=.bool true):=by
 have hno:∀ b,¬blks [HPow,HErr ev,HSyn es] b:=λb ⟨x,hx,hb⟩=>by
  rcases dW.1 hx with rfl | hx
  · exact hb
  rcases dW.1 hx with rfl | hx
  · exact hb
  rw[jF.1 hx] at hb;exact hb
 have hlt:∀ {g:Nat} {o:Obj},W.heap[g]?=some o->g<W.heap.size:=λh=>by
  rcases c8 _ W.heap.size with h' | h'
  · exact h'
  rw[wF h'] at h;cases h
 obtain ⟨T1,f1,e1⟩:=h1;obtain ⟨T2,f2,e2⟩:=h2;obtain ⟨T3,f3,e3⟩:=h3;have hk:HOk W (FA W) (λ_=>True) [HPow,HErr ev,HSyn es]:=⟨by
  refine List.Pairwise.cons (λy _ g hg=>?_) (List.Pairwise.cons (λy _ g hg=>?_) (List.Pairwise.cons (λy hy=>absurd hy (by simp)) .nil))
  · exact absurd hg (λe=>e)
  · exact absurd hg (λe=>e),λx hx=>by
  rcases dW.1 hx with rfl | hx
  · exact⟨hlt e1,T1,f1,e1⟩
  rcases dW.1 hx with rfl | hx
  · exact⟨hlt e2,T2,f2,e2⟩
  rw[jF.1 hx];exact⟨hlt e3,T3,f3,e3⟩,λg hg=>absurd hg (hno g)⟩
 refine(h.out W (FA W) vs hr (λ_ h=>h) hk).mono ?_;rintro e w' ⟨u,rfl,F',d',H',⟨rfl,rfl⟩,hrep,g⟩;have hrep:u=.bool true:=hrep;exact⟨u,rfl,⟨g.os,g.tape,g.output,g.size,λb hb _=>g.frame b hb (hno b),g.drawn⟩,hrep⟩
section
variable {H:Type} {enc:TypeId×Value->H} {w:World} {held:Bool} {sp:Nat->Bool} {n:Nat}
theorem in_int {cs:List Value} {y:DataW H×List MemPlace} (h:DataW.trod enc Tryz.prog w 0 sp held n 3 cs=some y):∃ d:Int,InD w 1 (.v (.int .i64 d)) cs:=by
 obtain ⟨i,e1,_,_⟩:=DataW.trod_int (by kernel_rfl) h;exact⟨i,by rw[e1];exact InD.one rfl rfl⟩
end
end Lp
