import Derived.Laws.Externs
import Derived.Laws.BytesArg
import Derived.Test.YtheccaeefigajaaGreatDoorPLexN
set_option linter.unusedVariables false
namespace Lp
open Go
def hexI (u:Nat):Int:=firstIdx hexd u.toUInt8
theorem hexI_bd:∀ u:Nat,u<256→ -1≤hexI u∧hexI u≤15:=by decide+kernel
theorem hexI_hexB:∀ a:Nat,a<16→hexI (hexB a).toNat=(a:Int):=by decide+kernel
def escN (s:ByteArray):Nat:=
 if s.size=0 then 0 else if zO s 0=34∨zO s 0=92 then 1 else if zO s 0=110 then 1
 else if zO s 0=120∧3≤s.size∧0≤hexI (zO s 1)∧0≤hexI (zO s 2) then 3 else 0
def escT (s:ByteArray):ByteArray:=
 if s.size=0 then ByteArray.empty else if zO s 0=34∨zO s 0=92 then s.extract 0 1 else if zO s 0=110 then⟨#[10]⟩
 else if zO s 0=120∧3≤s.size∧0≤hexI (zO s 1)∧0≤hexI (zO s 2) then mkB [UInt8.ofNat ((hexI (zO s 1)).toNat*16+(hexI (zO s 2)).toNat)] else ByteArray.empty
theorem escT_size (s:ByteArray):(escT s).size≤1∧(escN s≠0→(escT s).size=1)∧escN s≤s.size:=by
 unfold escT escN
 by_cases h0:s.size=0
 · rw[if_pos h0,if_pos h0];exact⟨by decide,fun h=>absurd rfl h,Nat.zero_le _⟩
 · rw[if_neg h0,if_neg h0]
   by_cases h1:zO s 0=34∨zO s 0=92
   · rw[if_pos h1,if_pos h1]
     have:(s.extract 0 1).size=1:=by rw[ByteArray.size_extract];omega
     exact⟨by omega,fun _=>this,by omega⟩
   · rw[if_neg h1,if_neg h1]
     by_cases h2:zO s 0=110
     · rw[if_pos h2,if_pos h2];exact⟨by decide,fun _=>by decide,by omega⟩
     · rw[if_neg h2,if_neg h2]
       by_cases h3:zO s 0=120∧3≤s.size∧0≤hexI (zO s 1)∧0≤hexI (zO s 2)
       · rw[if_pos h3,if_pos h3];exact⟨by rw[zai];simp,fun _=>by rw[zai];rfl,h3.2.1⟩
       · rw[if_neg h3,if_neg h3];exact⟨by decide,fun h=>absurd rfl h,Nat.zero_le _⟩
def unL:Nat→List UInt8→Option (List UInt8)
 | _,[]=>some []
 | 0,_::_=>none
 | n+1,b::r=>if b≠92 then(unL n r).map (b::·) else if escN (mkB r)=0 then none else(unL n (r.drop (escN (mkB r)))).map (bl8 (escT (mkB r))++·)
theorem zdd {n:Nat} {b:UInt8} {r:List UInt8}:unL (n+1) (b::r)=if b≠92 then(unL n r).map (b::·) else if escN (mkB r)=0 then none else(unL n (r.drop (escN (mkB r)))).map (bl8 (escT (mkB r))++·):=by
 conv=>lhs;unfold unL
theorem unL_more:∀ (n m:Nat) (l:List UInt8),l.length≤n→l.length≤m→unL n l=unL m l:=by
 intro n
 induction n with
 | zero=>
  intro m l h1 _
  have:l=[]:=List.eq_nil_of_length_eq_zero (by omega)
  subst this;cases m<;>rfl
 | succ n ih=>
  intro m l h1 h2
  cases l with
  | nil=>cases m<;>rfl
  | cons b r=>
   simp only[List.length_cons] at h1 h2
   obtain ⟨m,rfl⟩:∃ k,m=k+1:=⟨m-1,by omega⟩
   unfold unL
   rw[ih m r (by omega) (by omega),ih m (r.drop (escN (mkB r))) (by rw[List.length_drop];omega) (by rw[List.length_drop];omega)]
def unB (s:ByteArray):Option (List UInt8):=unL s.size (bl8 s)
theorem unB_eq {s:ByteArray} {n:Nat} (h:s.size≤n):unB s=unL n (bl8 s):=unL_more _ _ _ (by rw[zaq];omega) (by rw[zaq];exact h)
theorem unB_nil {s:ByteArray} (h:s.size=0):unB s=some []:=by
 unfold unB
 have:bl8 s=[]:=List.eq_nil_of_length_eq_zero (by rw[zaq];exact h)
 rw[this];cases s.size<;>rfl
theorem bl8_cons {s:ByteArray} {u:UInt8} (h:s[0]?=some u):bl8 s=u::bl8 (s.extract 1 s.size):=by
 have h0:0<s.size:=by
  rcases Nat.eq_zero_or_pos s.size with e | e
  · have:s[0]?=none:=by simp[e]
    rw[this] at h;cases h
  · exact e
 have h1:=zbs h0
 have e:s.get! 0=u:=by
  have:s[0]?=some (s.get! 0):=by simp[ByteArray.get!,h0];rfl
  rw[this] at h;injection h
 rw[e] at h1
 show bl8 s=u::bl8 (s.extract 1 s.size)
 have e2:bl8 (s.extract 1 s.size)=bts s 1:=zbm
 rw[e2];exact h1
theorem unB_raw {s:ByteArray} {u:UInt8} (h:s[0]?=some u) (h2:¬u=92):unB s=(unB (s.extract 1 s.size)).map ([u]++·):=by
 have hc:=bl8_cons h
 have hz:(s.extract 1 s.size).size+1=s.size:=by have:=congrArg List.length hc;simp only[List.length_cons,zaq] at this;omega
 rw[unB_eq (s:=s) (n:=(s.extract 1 s.size).size+1) (by omega),hc]
 rw[zdd,if_pos h2];rfl
theorem unB_esc {s:ByteArray} (h:s[0]?=some 92) (h2:¬escN (s.extract 1 s.size)=0):unB s=(unB (s.extract (1+escN (s.extract 1 s.size)) s.size)).map (bl8 (escT (s.extract 1 s.size))++·):=by
 have hc:=bl8_cons h
 have hz:(s.extract 1 s.size).size+1=s.size:=by have:=congrArg List.length hc;simp only[List.length_cons,zaq] at this;omega
 rw[unB_eq (s:=s) (n:=(s.extract 1 s.size).size+1) (by omega),hc]
 rw[zdd,if_neg (by simp),zeC,if_neg h2]
 have e:(bl8 (s.extract 1 s.size)).drop (escN (s.extract 1 s.size))=bl8 (s.extract (1+escN (s.extract 1 s.size)) s.size):=by
  rw[show bl8 (s.extract 1 s.size)=bts s 1 from zbm,zcC];exact zbm.symm
 rw[e,unB_eq (s:=s.extract (1+escN (s.extract 1 s.size)) s.size) (n:=(s.extract 1 s.size).size) (by simp only[ByteArray.size_extract];omega)]
theorem unB_none {s:ByteArray} (h:s[0]?=some 92) (h2:escN (s.extract 1 s.size)=0):unB s=none:=by
 have hc:=bl8_cons h
 have hz:(s.extract 1 s.size).size+1=s.size:=by have:=congrArg List.length hc;simp only[List.length_cons,zaq] at this;omega
 rw[unB_eq (s:=s) (n:=(s.extract 1 s.size).size+1) (by omega),hc]
 rw[zdd,if_neg (by simp),zeC,if_pos h2]
theorem unL_raws {n:Nat} {r:List UInt8}:∀ (l:List UInt8),(∀ b∈l,b≠92)→unL (l.length+n) (l++r)=(unL n r).map (l++·)
 | [],_=>by simp
 | b::l,h=>by
  have ih:=unL_raws (n:=n) (r:=r) l (fun c hc=>h c (List.mem_cons_of_mem _ hc))
  rw[show (b::l).length+n=(l.length+n)+1 by simp only[List.length_cons];omega,List.cons_append,zdd,if_pos (h b List.mem_cons_self),ih]
  cases unL n r<;>simp
theorem byteAt_mk {l:List UInt8} {k:Nat} {b:UInt8} (h:l[k]?=some b):zO (mkB l) k=b.toNat:=by
 have hz:k<(mkB l).size:=by rw[zai];exact zeG h
 rw[byteAt_get hz]
 have h1:=zbs hz
 have e:bts (mkB l) k=l.drop k:=by unfold bts;rw[show (mkB l).data.toList=l from zb0 l]
 rw[e,zdv h] at h1
 injection h1 with h1 _
 rw[←h1]
theorem tok_un {o src:List UInt8} (h:Tok o src) (n:Nat) (r:List UInt8) (hn:r.length≤n):unL (o.length+n) (o++r)=(unL n r).map (src++·):=by
 have esc1:∀ (c:UInt8) (s1:List UInt8) (m:Nat),escN (mkB (c::r))=1→bl8 (escT (mkB (c::r)))=s1→unL (2+n) (92::c::r)=(unL n r).map (s1++·):=by
  intro c s1 m h1 h2
  rw[show 2+n=(1+n)+1 by omega,zdd,if_neg (by simp),if_neg (by rw[h1];decide),h1,h2]
  show (unL (1+n) r).map _=_
  rw[unL_more (1+n) n r (by omega) hn]
 have b0:∀ c:UInt8,zO (mkB (c::r)) 0=c.toNat:=fun c=>byteAt_mk rfl
 have sz:∀ c:UInt8,¬(mkB (c::r)).size=0:=fun c=>by rw[zai];simp
 cases h with
 | esc hc=>
  rename_i c
  have e1:zO (mkB (c::r)) 0=34∨zO (mkB (c::r)) 0=92:=by rw[b0];rcases hc with rfl | rfl<;>decide
  refine esc1 c [c] 0 (by unfold escN;rw[if_neg (sz c),if_pos e1]) ?_
  unfold escT
  rw[if_neg (sz c),if_pos e1,zcq (by rw[zai];simp),zb0,zb0];rfl
 | nl=>
  have e1:zO (mkB (110::r)) 0=110:=by rw[b0];decide
  refine esc1 110 [10] 0 ?_ ?_
  · unfold escN;rw[if_neg (sz 110),if_neg (by rw[e1];decide),if_pos e1]
  · unfold escT;rw[if_neg (sz 110),if_neg (by rw[e1];decide),if_pos e1]
 | hex=>
  rename_i b
  have hb:b.toNat<256:=UInt8.toNat_lt _
  have e1:zO (mkB (120::hexB (b.toNat / 16)::hexB (b.toNat % 16)::r)) 0=120:=by rw[byteAt_mk (b:=120) rfl];decide
  have e2:zO (mkB (120::hexB (b.toNat / 16)::hexB (b.toNat % 16)::r)) 1=(hexB (b.toNat / 16)).toNat:=byteAt_mk rfl
  have e3:zO (mkB (120::hexB (b.toNat / 16)::hexB (b.toNat % 16)::r)) 2=(hexB (b.toNat % 16)).toNat:=byteAt_mk rfl
  have h1:=hexI_hexB (b.toNat / 16) (by omega)
  have h2:=hexI_hexB (b.toNat % 16) (by omega)
  have hz:¬(mkB (120::hexB (b.toNat / 16)::hexB (b.toNat % 16)::r)).size=0:=by rw[zai];simp
  have hh:zO (mkB (120::hexB (b.toNat / 16)::hexB (b.toNat % 16)::r)) 0=120∧3≤(mkB (120::hexB (b.toNat / 16)::hexB (b.toNat % 16)::r)).size∧0≤hexI (zO (mkB (120::hexB (b.toNat / 16)::hexB (b.toNat % 16)::r)) 1)∧0≤hexI (zO (mkB (120::hexB (b.toNat / 16)::hexB (b.toNat % 16)::r)) 2):=by
   refine⟨e1,by rw[zai];simp only[List.length_cons];omega,?_,?_⟩
   · rw[e2,h1];exact Int.natCast_nonneg _
   · rw[e3,h2];exact Int.natCast_nonneg _
  have hN:escN (mkB (120::hexB (b.toNat / 16)::hexB (b.toNat % 16)::r))=3:=by
   unfold escN;rw[if_neg hz,if_neg (by rw[e1];decide),if_neg (by rw[e1];decide),if_pos hh]
  have hT:bl8 (escT (mkB (120::hexB (b.toNat / 16)::hexB (b.toNat % 16)::r)))=[b]:=by
   unfold escT;rw[if_neg hz,if_neg (by rw[e1];decide),if_neg (by rw[e1];decide),if_pos hh,zb0,e2,e3,h1,h2]
   congr 1
   have:((b.toNat / 16:Nat):Int).toNat*16+((b.toNat % 16:Nat):Int).toNat=b.toNat:=by omega
   rw[this];simp
  show unL (4+n) (92::120::hexB (b.toNat / 16)::hexB (b.toNat % 16)::r)=_
  rw[show 4+n=(3+n)+1 by omega,zdd,if_neg (by simp),if_neg (by rw[hN];decide),hN,hT]
  show (unL (3+n) r).map _=_
  rw[unL_more (3+n) n r (by omega) hn]
 | raw hc h1 h2 h3=>
  rename_i c
  refine unL_raws _ (fun b hb e=>?_)
  subst e
  exact h2 (encR_no (by decide) hb)
theorem quote_un (t:ByteArray):∀ (n p:Nat),t.size-p=n→∀ (m:Nat) (r:List UInt8),r.length≤m→unL ((zaf t p).length+m) (zaf t p++r)=(unL m r).map (bts t p++·):=by
 intro n
 induction n using Nat.strongRecOn with
 | _ n ih=>
  intro p hp m r hr
  rcases Nat.lt_or_ge p t.size with h | h
  · obtain ⟨src,htok,hb⟩:=zcp h
    have hw:=zY t p
    have i:=ih (t.size-(p+decW t p)) (by omega) (p+decW t p) rfl m r hr
    rw[zaR h,List.length_append,List.append_assoc,Nat.add_assoc,tok_un htok _ _ (by rw[List.length_append];omega),i,hb]
    cases unL m r<;>simp
  · rw[zbp h,zea h];simp
def zcw (s:ByteArray):ByteArray:=if hasP s ⟨#[34]⟩=true then s.extract 1 s.size else s
def zde (s:ByteArray):ByteArray:=if 1≤s.size∧s.extract (s.size-1) s.size=⟨#[34]⟩ then s.extract 0 (s.size-1) else s
theorem quoteB_trim (t:ByteArray):bl8 (zcw (zaQ t))=zaf t 0++[34]:=by
 have hl:bl8 (zaQ t)=34::(zaf t 0++[34]):=by show (zaP t).toArray.toList=_;unfold zaP;simp
 have hp:hasP (zaQ t) ⟨#[34]⟩=true:=by rw[hasP_pre,hl];rfl
 unfold zcw
 rw[if_pos hp,ext_drop,zb0,hl];rfl
theorem quote_out {t:ByteArray}:unB (zcw (zaQ t))=some (bl8 t++[34]):=by
 have h:=quoteB_trim t
 have hz:(zcw (zaQ t)).size=(zaf t 0).length+1:=by rw[←zaq,h,List.length_append];rfl
 unfold unB
 rw[hz,h,quote_un t _ 0 rfl 1 [34] (by simp)]
 show (unL 1 [34]).map _=_
 rfl
theorem trimS_out (t:ByteArray):zde ⟨(bl8 t++[34]).toArray⟩=t:=by
 have hz:(mkB (bl8 t++[34])).size=t.size+1:=by rw[zai,List.length_append,zaq];rfl
 show zde (mkB (bl8 t++[34]))=t
 unfold zde
 rw[hz,zcq (by rw[hz];omega),zcq (by rw[hz];omega),zb0]
 have e1:((bl8 t++[34]).take (t.size+1)).drop (t.size+1-1)=[34]:=by
  rw[List.take_of_length_le (by rw[List.length_append,zaq];simp)]
  exact List.drop_left' (by rw[zaq];omega)
 have e2:((bl8 t++[34]).take (t.size+1-1)).drop 0=bl8 t:=by
  rw[List.drop_zero];exact List.take_left' (by rw[zaq];omega)
 rw[e1,e2,if_pos ⟨by omega,rfl⟩,zeC]
theorem ne_size {s:ByteArray} (h:¬s=ByteArray.empty):0<s.size:=by
 rcases Nat.eq_zero_or_pos s.size with e | e
 · exact absurd (ByteArray.ext (Array.toList_inj.1 (List.eq_nil_of_length_eq_zero (by simpa using e)))) h
 · exact e
theorem esc_0 {s:ByteArray} (h:s=ByteArray.empty):ByteArray.empty=escT s∧0=escN s:=by subst h;exact⟨rfl,rfl⟩
theorem esc_1 {s:ByteArray} (hz:0<s.size) (h:zO s 0=34∨zO s 0=92):s.extract 0 1=escT s∧1=escN s:=by
 unfold escT escN;rw[if_neg (by omega),if_pos h,if_neg (by omega),if_pos h];exact⟨rfl,rfl⟩
theorem esc_2 {s:ByteArray} (hz:0<s.size) (h1:¬(zO s 0=34∨zO s 0=92)) (h:zO s 0=110):(⟨#[10]⟩:ByteArray)=escT s∧1=escN s:=by
 unfold escT escN;rw[if_neg (by omega),if_neg h1,if_pos h,if_neg (by omega),if_neg h1,if_pos h];exact⟨rfl,rfl⟩
theorem esc_3 {s:ByteArray} {a b:Nat} (hz:0<s.size) (h1:¬(zO s 0=34∨zO s 0=92)) (h2:¬zO s 0=110) (h:zO s 0=120∧3≤s.size) (ha:hexI (zO s 1)=(a:Int)) (hb:hexI (zO s 2)=(b:Int)):mkB [UInt8.ofNat (a*16+b)]=escT s∧3=escN s:=by
 have hh:zO s 0=120∧3≤s.size∧0≤hexI (zO s 1)∧0≤hexI (zO s 2):=⟨h.1,h.2,by omega,by omega⟩
 unfold escT escN;rw[if_neg (by omega),if_neg h1,if_neg h2,if_pos hh,if_neg (by omega),if_neg h1,if_neg h2,if_pos hh,ha,hb];exact⟨rfl,rfl⟩
theorem esc_4 {s:ByteArray} (hz:0<s.size) (h1:¬(zO s 0=34∨zO s 0=92)) (h2:¬zO s 0=110) (h:¬(zO s 0=120∧3≤s.size∧0≤hexI (zO s 1)∧0≤hexI (zO s 2))):ByteArray.empty=escT s∧0=escN s:=by
 unfold escT escN;rw[if_neg (by omega),if_neg h1,if_neg h2,if_neg h,if_neg (by omega),if_neg h1,if_neg h2,if_neg h];exact⟨rfl,rfl⟩
theorem nums_one {n:Nat} (h:n<256):strOfNums [((n:Nat):Int)]=mkB [UInt8.ofNat n]:=by rfl
def UInv (s r:ByteArray) (o:List UInt8):Prop:=unB s=(unB r).map (o++·)
theorem UInv.zero (s:ByteArray):UInv s s []:=by unfold UInv;cases unB s<;>rfl
theorem UInv.raw {s r:ByteArray} {o:List UInt8} {u:UInt8} (h:UInv s r o) (hu:r[0]?=some u) (h2:¬u=92):UInv s (r.extract 1 r.size) (o++[u]):=by
 unfold UInv at*
 rw[h,unB_raw hu h2]
 cases unB (r.extract 1 r.size)<;>simp
theorem UInv.esc {s r:ByteArray} {o:List UInt8} (h:UInv s r o) (hu:r[0]?=some 92) (h2:¬escN (r.extract 1 r.size)=0):UInv s (r.extract (1+escN (r.extract 1 r.size)) r.size) (o++(escT (r.extract 1 r.size)).data.toList):=by
 unfold UInv at*
 rw[h,unB_esc hu h2]
 cases unB (r.extract (1+escN (r.extract 1 r.size)) r.size)<;>simp
theorem UInv.none {s r:ByteArray} {o:List UInt8} (h:UInv s r o) (hu:r[0]?=some 92) (h2:escN (r.extract 1 r.size)=0):unB s=none:=by
 unfold UInv at*
 rw[h,unB_none hu h2];rfl
theorem UInv.done {s r:ByteArray} {o:List UInt8} (h:UInv s r o) (hr:r=ByteArray.empty):unB s=some o:=by
 unfold UInv at*
 rw[h,hr,unB_nil rfl];simp
theorem u8_92 {u:UInt8} (h:((u.toNat:Nat):Int)=92):u=92:=UInt8.toNat_inj.1 (by show u.toNat=92;omega)
theorem u8_ne92 {u:UInt8} (h:¬((u.toNat:Nat):Int)=92):¬u=92:=by rintro rfl;exact h rfl
theorem trimP_size (s:ByteArray):s.size≤(zcw s).size+1∧(zcw s).size≤s.size:=by
 unfold zcw;split
 · rw[ByteArray.size_extract];omega
 · omega
theorem trimS_size (s:ByteArray):(zde s).size≤s.size:=by
 unfold zde;split
 · rw[ByteArray.size_extract];omega
 · omega
theorem unq_t {s:ByteArray} {o:List UInt8} (h:zaQ (zde ⟨o.toArray⟩)=s):zde ⟨o.toArray⟩=unqT s∧true=zdA s:=by
 have:=unqB_some h
 unfold unqT zdA;rw[this];exact⟨rfl,rfl⟩
theorem unq_f {s:ByteArray} {o:List UInt8} (hu:unB (zcw s)=some o) (h:¬zaQ (zde ⟨o.toArray⟩)=s):ByteArray.empty=unqT s∧false=zdA s:=by
 have:unqB s=none:=unqB_none fun t ht=>by
  rw[←ht,quote_out] at hu
  injection hu with hu
  rw[←hu,trimS_out] at h
  exact h ht
 unfold unqT zdA;rw[this];exact⟨rfl,rfl⟩
theorem unq_n {s:ByteArray} (hu:unB (zcw s)=none):ByteArray.empty=unqT s∧false=zdA s:=by
 have:unqB s=none:=unqB_none fun t ht=>by
  rw[←ht,quote_out] at hu;cases hu
 unfold unqT zdA;rw[this];exact⟨rfl,rfl⟩
end Lp
set_option linter.unusedVariables false
namespace Lp
open Go
theorem on8 {n:Nat} (h:n<256):(UInt8.ofNat n).toNat=n:=by simp;omega
theorem gb0 {a:UInt8} {l:List UInt8}:gb (a::l) 0=a.toNat:=rfl
theorem gb1 {a b:UInt8} {l:List UInt8}:gb (a::b::l) 1=b.toNat:=rfl
theorem gb2 {a b c:UInt8} {l:List UInt8}:gb (a::b::c::l) 2=c.toNat:=rfl
theorem gb3 {a b c d:UInt8} {l:List UInt8}:gb (a::b::c::d::l) 3=d.toNat:=rfl
theorem ct {l:List UInt8} {k:Nat} (h:k<l.length) (h2:gb l k / 64=2):zcl l k=true:=by unfold zcl;rw[decide_eq_true h,h2];rfl
theorem dec_encS (c:Nat) (x:List UInt8) (hc:c<1114112):(decL (encR c++x)).2=(encR c).length∧(decL (encR c++x)).1=(if 55296≤c∧c≤57343 then 65533 else c):=by
 unfold encR
 split
 · have e:(UInt8.ofNat (c % 256)).toNat=c:=by rw[on8 (by omega)];omega
   rw[List.cons_append,zaT (by omega),e];exact⟨rfl,(if_neg (by omega)).symm⟩
 · split
   · generalize ha:UInt8.ofNat (192+c / 64 % 256)=a
     generalize hb:UInt8.ofNat (128+c % 256 % 64)=b
     have a1:a.toNat=192+c / 64:=by rw[←ha,on8 (by omega)];omega
     have b1:b.toNat=128+c % 64:=by rw[←hb,on8 (by omega)];omega
     show (decL (a::b::x)).2=2∧_
     have c1:zcl (a::b::x) 1=true:=ct (by simp) (by rw[gb1,b1];omega)
     have e:decL (a::b::x)=(c,2):=by
      unfold decL
      rw[c1,gb0,gb1,a1,b1,if_neg (by omega),if_pos (by simp;omega),if_pos (by omega)]
      congr 1;omega
     show (decL (a::b::x)).2=2∧(decL (a::b::x)).1=_
     rw[e];exact⟨rfl,(if_neg (by omega)).symm⟩
   · split
     · rename_i h1 h2 h3
       generalize ha:UInt8.ofNat (224+c / 4096 % 256)=a
       generalize hb:UInt8.ofNat (128+c / 64 % 256 % 64)=b
       generalize hd:UInt8.ofNat (128+c % 256 % 64)=d
       have a1:a.toNat=224+c / 4096:=by rw[←ha,on8 (by omega)];omega
       have b1:b.toNat=128+c / 64 % 64:=by rw[←hb,on8 (by omega)];omega
       have d1:d.toNat=128+c % 64:=by rw[←hd,on8 (by omega)];omega
       have c1:zcl (a::b::d::x) 1=true:=ct (by simp) (by rw[gb1,b1];omega)
       have c2:zcl (a::b::d::x) 2=true:=ct (by simp) (by rw[gb2,d1];omega)
       have e:decL (a::b::d::x)=(c,3):=by
        unfold decL
        have en:(224+c / 4096) % 16*4096+(128+c / 64 % 64) % 64*64+(128+c % 64) % 64=c:=by omega
        rw[c1,c2,gb0,gb1,gb2,a1,b1,d1,en,if_neg (by omega),if_neg (by simp;omega),if_pos (by simp;omega),if_pos (by unfold Utf8.valid;simp;omega)]
       show (decL (a::b::d::x)).2=3∧(decL (a::b::d::x)).1=_
       rw[e];exact⟨rfl,(if_neg (by omega)).symm⟩
     · split
       · rename_i h1 h2 h3 h4
         generalize ha:UInt8.ofNat (240+c / 262144 % 256)=a
         generalize hb:UInt8.ofNat (128+c / 4096 % 256 % 64)=b
         generalize hd:UInt8.ofNat (128+c / 64 % 256 % 64)=d
         generalize hf:UInt8.ofNat (128+c % 256 % 64)=f
         have a1:a.toNat=240+c / 262144:=by rw[←ha,on8 (by omega)];omega
         have b1:b.toNat=128+c / 4096 % 64:=by rw[←hb,on8 (by omega)];omega
         have d1:d.toNat=128+c / 64 % 64:=by rw[←hd,on8 (by omega)];omega
         have f1:f.toNat=128+c % 64:=by rw[←hf,on8 (by omega)];omega
         have c1:zcl (a::b::d::f::x) 1=true:=ct (by simp) (by rw[gb1,b1];omega)
         have c2:zcl (a::b::d::f::x) 2=true:=ct (by simp) (by rw[gb2,d1];omega)
         have c3:zcl (a::b::d::f::x) 3=true:=ct (by simp) (by rw[gb3,f1];omega)
         have e:decL (a::b::d::f::x)=(c,4):=by
          unfold decL
          have en:(240+c / 262144) % 8*262144+(128+c / 4096 % 64) % 64*4096+(128+c / 64 % 64) % 64*64+(128+c % 64) % 64=c:=by omega
          rw[c1,c2,c3,gb0,gb1,gb2,gb3,a1,b1,d1,f1,en,if_neg (by omega),if_neg (by simp;omega),if_neg (by simp;omega),if_pos (by simp;omega),if_pos (by unfold Utf8.valid;simp;omega)]
         show (decL (a::b::d::f::x)).2=4∧(decL (a::b::d::f::x)).1=_
         rw[e];exact⟨rfl,(if_neg (by omega)).symm⟩
       · have c1:zcl (239::191::189::x) 1=true:=ct (by simp) (by rw[gb1];rfl)
         have c2:zcl (239::191::189::x) 2=true:=ct (by simp) (by rw[gb2];rfl)
         have e:decL (239::191::189::x)=(65533,3):=by
          have n0:(239:UInt8).toNat=239:=by decide
          have n1:(191:UInt8).toNat=191:=by decide
          have n2:(189:UInt8).toNat=189:=by decide
          unfold decL
          rw[c1,c2,gb0,gb1,gb2,n0,n1,n2,if_neg (by omega),if_neg (by simp),if_pos (by simp),if_pos (by unfold Utf8.valid;simp)]
         show (decL (239::191::189::x)).2=3∧(decL (239::191::189::x)).1=_
         rw[e];exact⟨rfl,(if_pos (by omega)).symm⟩
theorem dec_enc (c:Nat) (x:List UInt8) (hc:c<1114112):(decL (encR c++x)).2=(encR c).length∧((decL (encR c++x)).1=c∨(decL (encR c++x)).1=65533):=by
 obtain ⟨h1,h2⟩:=dec_encS c x hc
 refine⟨h1,?_⟩
 split at h2
 · exact .inr h2
 · exact .inl h2
theorem hexB_kind (n:Nat):(hexB n).toNat<128∧(hexB n).toNat≠92∧(hexB n).toNat≠34:=by
 rcases Nat.lt_or_ge n 16 with h | h
 · have:∀ k:Fin 16,(hexB k.1).toNat<128∧(hexB k.1).toNat≠92∧(hexB k.1).toNat≠34:=by decide
   exact this ⟨n,h⟩
 · have e:hexB n=0:=by
    unfold hexB
    have:hexd[n]?=none:=by
     have hs:hexd.size=16:=rfl
     exact getElem?_neg _ _ (by omega)
    rw[this];rfl
   rw[e];decide
theorem qs_plain {b:UInt8} {t:List UInt8} (h:b.toNat<128) (h1:b.toNat≠92) (h2:b.toNat≠34):zak false (b::t)=(zak false t).map (· +1):=by
 rw[zcX (by simp),zaT h,if_neg (by simp),if_neg h1,if_neg h2];rfl
theorem qs_esc {b:UInt8} {t:List UInt8} (h:b.toNat<128):zak false (92::b::t)=(zak false t).map (· +2):=by
 rw[zcX (by simp),zaT (by decide),if_neg (by simp),if_pos (by decide)]
 show (zak true (b::t)).map _=_
 rw[zcX (by simp),zaT h,if_pos rfl]
 show ((zak false t).map _).map _=_
 cases zak false t<;>rfl
theorem qs_piece {l src:List UInt8} (h:Tok l src) (x:List UInt8):zak false (l++x)=(zak false x).map (· +l.length):=by
 cases h with
 | esc hc=>rcases hc with rfl | rfl<;>exact qs_esc (by decide)
 | nl=>exact qs_esc (by decide)
 | @hex b=>
  obtain ⟨a1,a2,a3⟩:=hexB_kind (b.toNat / 16)
  obtain ⟨b1,b2,b3⟩:=hexB_kind (b.toNat % 16)
  show zak false (92::120::hexB (b.toNat / 16)::hexB (b.toNat % 16)::x)=_
  rw[qs_esc (by decide),qs_plain a1 a2 a3,qs_plain b1 b2 b3]
  cases zak false x<;>rfl
 | @raw c hc h1 h2 h3=>
  obtain ⟨e1,e2⟩:=dec_enc c x hc
  have hne:encR c++x≠[]:=by
   obtain ⟨b,r,e,_⟩:=encR_head hc
   rw[e];simp
  rw[zcX hne,e1,List.drop_left,if_neg (by simp),if_neg (by rcases e2 with e2 | e2<;>omega),if_neg (by rcases e2 with e2 | e2<;>omega)]
theorem qs_quote (s:ByteArray) (r:List UInt8):∀ (n p:Nat),s.size-p=n→zak false (zaf s p++34::r)=some (zaf s p).length:=by
 intro n
 induction n using Nat.strongRecOn with
 | _ n ih=>
  intro p hp
  rcases Nat.lt_or_ge p s.size with h | h
  · obtain ⟨src,ht,_⟩:=zcp h
    have:=zY s p
    rw[zaR h,List.append_assoc,qs_piece ht,ih _ (by omega) _ rfl,List.length_append]
    show some ((zaf s (p+decW s p)).length+(zcj s p).length)=some _
    congr 1;omega
  · rw[zbp h,List.nil_append,zcX (by simp),zaT (by decide),if_neg (by simp),if_neg (by decide),if_pos (by decide)];rfl
theorem quoteL_len (s:ByteArray):(zaP s).length=(zaf s 0).length+2:=by unfold zaP;simp
theorem strT_quote (s:ByteArray) (r:List UInt8):zz (zaP s++r)=(⟨3,0,s⟩,(zaP s).length):=by
 have e:zaP s++r=34::(zaf s 0++34::r):=by unfold zaP;simp
 have hd:decL (34::(zaf s 0++34::r))=(34,1):=zaT (by decide)
 have hq:zak true (zaP s++r)=some ((zaf s 0).length+1):=by
  rw[e,zcX (by simp),hd,if_pos rfl]
  show (zak false (zaf s 0++34::r)).map _=_
  rw[qs_quote s r _ 0 rfl];rfl
 have ht:(zaP s++r).take ((zaf s 0).length+1+1)=zaP s:=List.take_left' (quoteL_len s)
 have hu:unqB (mkB (zaP s))=some s:=unqB_some rfl
 rw[firstT_q (by rw[e,hd];decide) (by rw[e,hd];decide) (by rw[e,hd])]
 unfold strT;rw[hq]
 show (match unqB (mkB ((zaP s++r).take ((zaf s 0).length+1+1))) with | none=>(zbH,0) | some t=>((⟨3,0,t⟩:TokD),(zaf s 0).length+1+1))=_
 rw[ht,hu,quoteL_len]
theorem tokQ_len {l src:List UInt8} (h:Tok l src):l.length≤4*src.length∧src.length≤l.length:=by
 cases h with
 | esc _=>exact⟨by simp,by simp⟩
 | nl=>exact⟨by decide,by decide⟩
 | hex=>exact⟨by simp,by simp⟩
 | raw _ _ _ _=>exact⟨by omega,Nat.le_refl _⟩
theorem quoteAt_4 (s:ByteArray):∀ (n p:Nat),s.size-p=n→(zaf s p).length≤4*(s.size-p)∧s.size-p≤(zaf s p).length:=by
 intro n
 induction n using Nat.strongRecOn with
 | _ n ih=>
  intro p hp
  rcases Nat.lt_or_ge p s.size with h | h
  · obtain ⟨src,ht,e⟩:=zcp h
    have h1:=zY s p
    have h2:=zaN s p h
    have e2:=congrArg List.length e
    rw[List.length_append,zeb,zeb] at e2
    have h3:=tokQ_len ht
    have h4:=ih (s.size-(p+decW s p)) (by omega) (p+decW s p) rfl
    rw[zaR h,List.length_append];omega
  · rw[zbp h];simp;omega
theorem quoteB_4 (s:ByteArray):(zaQ s).size≤4*s.size+2∧s.size+2≤(zaQ s).size:=by
 have h:=quoteAt_4 s _ 0 rfl
 have e:(zaQ s).size=(zaP s).length:=zai _
 rw[e,quoteL_len];omega
theorem quote_bl8 (s:ByteArray):bl8 (zaQ s)=zaP s:=zb0 _
theorem quote_blank (s:ByteArray) (r:List UInt8):runL isB (zaP s++r)=0:=by
 have e:zaP s++r=34::(zaf s 0++34::r):=by unfold zaP;simp
 rw[e];refine zdY ?_
 rw[zaT (by decide)];decide
def zcZ (x:TokD):ByteArray:=if x.k=3 then zaQ x.t else if x.k=4 then x.t++(⟨#[115]⟩:ByteArray) else x.t
theorem joinT_3 {x:TokD} (h:x.k=3):zcZ x=zaQ x.t:=by unfold zcZ;rw[if_pos h]
theorem joinT_4 {x:TokD} (h3:¬x.k=3) (h:x.k=4):zcZ x=x.t++(⟨#[115]⟩:ByteArray):=by unfold zcZ;rw[if_neg h3,if_pos h]
theorem joinT_o {x:TokD} (h3:¬x.k=3) (h:¬x.k=4):zcZ x=x.t:=by unfold zcZ;rw[if_neg h3,if_neg h]
end Lp
set_option linter.unusedVariables false
namespace Lp
open Go
def FitT (x:TokD):Prop:=bl8 (zcZ x)≠[]∧runL isB (bl8 (zcZ x))=0∧zz (bl8 (zcZ x))=(⟨x.k,0,x.t⟩,(zcZ x).size)
theorem run_word:∀ (n:Nat) (s:ByteArray) (p:Nat),s.size-p=n→zev (zaW s p)=true→runL isLD (bts s p)=s.size-p:=by
 intro n
 induction n using Nat.strongRecOn with
 | _ n ih=>
  intro s p hp hw
  rcases Nat.lt_or_ge p s.size with h | h
  · rw[zaO h,wordR_cons,Bool.and_eq_true,decide_eq_true_eq] at hw
    have hk:isLD ((decL (bts s p)).1:Int)=true:=by
     rw[←zce]
     show inK [1,2] _=true
     unfold inK
     rcases hw.1 with h | h<;>simp[h]
    have h1:=zY s p
    have h2:=zaN s p h
    rw[zda (zdL h) hk,zcC,←zcd,ih _ (by omega) s _ rfl hw.2];omega
  · rw[zea h,zdC];omega
theorem name_first {s:ByteArray} (h:zck s=true):0<s.size∧zM ((decR s 0:Nat):Int)=1∧runL isLD (bl8 s)=s.size:=by
 have h':=h
 unfold zck at h'
 rw[nameR_start] at h'
 simp only[Bool.and_eq_true,decide_eq_true_eq] at h'
 have hz:0<s.size:=by
  rcases Nat.lt_or_ge 0 s.size with hz | hz
  · exact hz
  · have e:zah s=[]:=by show zaW s 0=[];exact zbb hz
    rw[e] at h';simp at h'
 refine⟨hz,?_,?_⟩
 · have e:zah s=((decR s 0:Nat):Int)::zaW s (0+decW s 0):=by show zaW s 0=_;exact zaO hz
   have:=h'.1.2
   rw[e] at this;exact this
 · have:=run_word _ s 0 rfl h'.2
   exact this
theorem good_word {s:ByteArray} (h:zck s=true):FitT ⟨1,0,s⟩:=by
 obtain ⟨h1,h2,h3⟩:=name_first h
 have ej:zcZ ⟨1,0,s⟩=s:=joinT_o (show ¬(1:Int)=3 by decide) (show ¬(1:Int)=4 by decide)
 have hb:isB ((decL (bl8 s)).1:Int)=false:=by
  rw[dec0];show inK [3] _=false;unfold inK;simp[h2]
 unfold FitT;rw[ej]
 refine⟨bl8_ne h1,zdY hb,?_⟩
 rw[firstT_w (by rw[dec0];exact h2)]
 have e:mkB ((bl8 s).take s.size)=s:=by rw[←zaq,List.take_length,zeC]
 unfold zbN;rw[h3,e,if_pos h]
theorem digL_13 {v:Nat} (h:v≤1000000000000):(digL v).length≤13:=digL_lt 12 v (Nat.lt_of_le_of_lt h (by decide))
theorem numD_0 (v:Nat):numD 0 v=digL v:=rfl
theorem good_num {v:Nat} (h:v≤1000000000000):FitT ⟨2,0,digB v⟩:=by
 have h13:=digL_13 h
 obtain ⟨h1,h2⟩:=num_first (zcO 0 v) (numD_ne 0 v) []
 have hr:=zdB isD_2 (numD 0 v) [] (zcO 0 v)
 have hr2:=zdB isLD_2 (numD 0 v) [] (zcO 0 v)
 rw[zdC,Nat.add_zero] at hr hr2
 rw[List.append_nil] at h1 h2 hr hr2
 have ej:zcZ ⟨2,0,digB v⟩=digB v:=joinT_o (show ¬(2:Int)=3 by decide) (show ¬(2:Int)=4 by decide)
 have eb:bl8 (digB v)=numD 0 v:=zb0 _
 unfold FitT;rw[ej,eb]
 refine⟨numD_ne 0 v,h2,?_⟩
 have hs:(digB v).size=(numD 0 v).length:=zai _
 rw[h1,hs];unfold numT
 rw[hr,hr2,List.take_length,digV_eq,numD_val,if_neg (by rw[numD_0];omega),if_pos rfl]
theorem good_dur {v:Nat} (h:v≤1000000000):FitT ⟨4,0,digB v⟩:=by
 have h13:=digL_13 (v:=v) (by omega)
 obtain ⟨h1,h2⟩:=num_first (zcO 0 v) (numD_ne 0 v) [115]
 have hr:=zdB isD_2 (numD 0 v) [115] (zcO 0 v)
 have hr2:=zdB isLD_2 (numD 0 v) [115] (zcO 0 v)
 have e0:runL isD [115]=0:=zdY (by decide)
 rw[e0,Nat.add_zero] at hr
 have e1:runL isLD [115]=1:=by
  rw[zda (by simp) (by decide)]
  show 1+runL isLD []=1
  rw[zdC]
 rw[e1] at hr2
 have ej:zcZ ⟨4,0,digB v⟩=digB v++(⟨#[115]⟩:ByteArray):=joinT_4 (show ¬(4:Int)=3 by decide) rfl
 have eb:bl8 (digB v++(⟨#[115]⟩:ByteArray))=numD 0 v++[115]:=by
  rw[bl8_add,show bl8 (digB v)=numD 0 v from zb0 _]
 have hs:(digB v++(⟨#[115]⟩:ByteArray)).size=(numD 0 v).length+1:=by
  rw[←zaq,eb,List.length_append];rfl
 unfold FitT;rw[ej,eb,hs]
 refine⟨by simp[numD_ne],h2,?_⟩
 have e2:((numD 0 v++[115]).take ((numD 0 v).length+1)).drop (numD 0 v).length=[115]:=by
  rw[List.take_of_length_le (by simp),List.drop_left]
 have es:secB (mkB [115])=1:=by decide
 rw[h1];unfold numT
 rw[hr,hr2,List.take_left,digV_eq,numD_val,if_neg (by rw[numD_0];omega),if_neg (by omega),e2,es,if_neg (by omega),Nat.mul_one]
theorem good_str (s:ByteArray):FitT ⟨3,0,s⟩:=by
 have h1:=strT_quote s []
 have h2:=quote_blank s []
 rw[List.append_nil] at h1 h2
 have ej:zcZ ⟨3,0,s⟩=zaQ s:=joinT_3 rfl
 unfold FitT;rw[ej,quote_bl8,show (zaQ s).size=(zaP s).length from zai _]
 exact⟨by unfold zaP;simp,h2,h1⟩
theorem sign_facts:∀ x∈zbI,bl8 x≠[]∧¬zM ((decL (bl8 x)).1:Int)=1∧¬zM ((decL (bl8 x)).1:Int)=2∧¬(decL (bl8 x)).1=34∧isB ((decL (bl8 x)).1:Int)=false∧zb2 (bl8 x)=(⟨5,0,x⟩,x.size):=by decide
theorem good_sign {x:ByteArray} (hx:x∈zbI):FitT ⟨5,0,x⟩:=by
 obtain ⟨h1,h2,h3,h4,h5,h6⟩:=sign_facts x hx
 have ej:zcZ ⟨5,0,x⟩=x:=joinT_o (show ¬(5:Int)=3 by decide) (show ¬(5:Int)=4 by decide)
 unfold FitT;rw[ej]
 exact⟨h1,zdY h5,by rw[firstT_s h2 h3 h4,h6]⟩
theorem signIn_mem:∀ (xs:List ByteArray) (l:List UInt8),(za1 xs l).2≠0→∃ x∈xs,(za1 xs l).1=⟨5,0,x⟩
 | [],_,h=>absurd rfl h
 | x::xs,l,h=>by
  unfold za1 at h ⊢
  split
  · exact⟨x,List.mem_cons_self,rfl⟩
  · rename_i h2
    rw[if_neg h2] at h
    obtain ⟨y,hy,e⟩:=signIn_mem xs l h
    exact⟨y,List.mem_cons_of_mem _ hy,e⟩
theorem sign_small:∀ x∈zbI,x.size≤2:=by decide
theorem first_good {l:List UInt8} (h:(zz l).2≠0):FitT (zz l).1∧(zz l).1.t.size≤l.length+20:=by
 unfold zz at h ⊢
 split
 · rename_i h1
   rw[if_pos h1] at h
   unfold zbN at h ⊢
   split
   · rename_i h2
     refine⟨good_word h2,?_⟩
     show (mkB _).size≤_
     rw[zai,List.length_take];omega
   · rename_i h2
     rw[if_neg h2] at h;exact absurd rfl h
 · rename_i h1
   rw[if_neg h1] at h
   split
   · rename_i h2
     rw[if_pos h2] at h
     unfold numT at h ⊢
     split
     · rename_i h3;rw[if_pos h3] at h;exact absurd rfl h
     · rename_i h3
       rw[if_neg h3] at h
       split
       · refine⟨good_num (by omega),?_⟩
         have:=digB_20 (n:=digV (l.take (runL isD l))) (by omega)
         show (digB _).size≤_
         omega
       · rename_i h4
         rw[if_neg h4] at h
         split
         · rename_i h5;rw[if_pos h5] at h;exact absurd rfl h
         · rename_i h5
           obtain ⟨c,hc⟩:∃ c,secB (mkB ((l.take (runL isLD l)).drop (runL isD l)))=c:=⟨_,rfl⟩
           rw[hc] at h5 ⊢
           have hm:digV (l.take (runL isD l))*c≤1000000000:=(Nat.le_div_iff_mul_le (by omega)).1 (by omega)
           refine⟨good_dur hm,?_⟩
           have:=digB_20 (n:=digV (l.take (runL isD l))*c) (by omega)
           show (digB _).size≤_
           omega
   · rename_i h2
     rw[if_neg h2] at h
     split
     · rename_i h3
       rw[if_pos h3] at h
       cases e:zak true l with
       | none=>unfold strT at h;rw[e] at h;exact absurd rfl h
       | some i=>
        have hi:=qscan_lt _ l true i rfl e
        cases e2:unqB (mkB (l.take (i+1))) with
        | none=>
         unfold strT at h;rw[e] at h
         have h:(match unqB (mkB (l.take (i+1))) with | none=>(zbH,0) | some t=>((⟨3,0,t⟩:TokD),i+1)).2≠0:=h
         rw[e2] at h;exact absurd rfl h
        | some t=>
         have e3:strT l=(⟨3,0,t⟩,i+1):=by
          unfold strT;rw[e]
          show (match unqB (mkB (l.take (i+1))) with | none=>(zbH,0) | some t=>((⟨3,0,t⟩:TokD),i+1))=_
          rw[e2]
         rw[e3]
         refine⟨good_str t,?_⟩
         show t.size≤_
         have hq:zaQ t=mkB (l.take (i+1)):=by
          unfold unqB at e2
          split at e2
          · rename_i hx
            injection e2 with e2
            rw[←e2];exact hx.choose_spec
          · cases e2
         have h4:=(quoteB_4 t).2
         rw[hq,zai,List.length_take] at h4;omega
     · rename_i h3
       rw[if_neg h3] at h
       obtain ⟨x,hx,e⟩:=signIn_mem zbI l h
       have e:(zb2 l).1=⟨5,0,x⟩:=e
       rw[e]
       refine⟨good_sign hx,?_⟩
       have:=sign_small x hx
       show x.size≤_
       omega
theorem good_put {x:TokD} (a:Nat) (h:FitT x):FitT (x.put a):=h
theorem words_good:∀ (n:Nat) (l:List UInt8) (a:Nat) (ts:List TokD),l.length=n→zaV l a=some ts→∀ x∈ts,FitT x∧x.t.size≤l.length+20:=by
 intro n
 induction n using Nat.strongRecOn with
 | _ n ih=>
  intro l a ts hn h
  have hrl:=zbO isB l
  generalize hm:l.drop (runL isB l)=m at*
  have hml:m.length=l.length-runL isB l:=by rw[←hm,List.length_drop]
  unfold zaV at h
  rw[hm] at h
  by_cases hne:m=[]
  · subst hne;rw[zbn] at h;injection h with h;subst h
    exact fun x hx=>absurd hx (by simp)
  · by_cases h0:(zz m).2=0
    · rw[zcn hne h0] at h;cases h
    · have hpos:=List.length_pos_iff.2 hne
      have hfl:=firstT_le (l:=m)
      rw[zcu hne h0 (by omega)] at h
      cases e:zaV (m.drop (zz m).2) (a+runL isB l+(zz m).2) with
      | none=>rw[e] at h;cases h
      | some t2=>
       rw[e] at h
       have h:(zz m).1.put (a+runL isB l)::t2=ts:=by injection h
       have hi:=ih (m.drop (zz m).2).length (by rw[List.length_drop];omega) _ _ t2 rfl e
       rw[List.length_drop] at hi
       subst h
       intro x hx
       rcases List.mem_cons.1 hx with rfl | hx
       · obtain ⟨g1,g2⟩:=first_good h0
         exact⟨good_put _ g1,by show (zz m).1.t.size≤_;omega⟩
       · obtain ⟨g1,g2⟩:=hi x hx
         exact⟨g1,by omega⟩
theorem lex_sizes {s:ByteArray} (hs:s.size≤600):∀ x∈lexL s,x.t.size≤1000:=fun x hx=>by
 by_cases h:lexE s=0
 · have:=(words_good _ (bl8 s) 0 _ rfl (zeD h).2 x hx).2
   rw[zaq] at this;omega
 · rw[lex_none h] at hx;exact absurd hx (by simp)
end Lp
set_option linter.unusedVariables false
namespace Lp
open Go
structure TkOk (x:TokD):Prop where
 z:x.t.size≤1000
 d:x.k=2∨x.k=4→∃ v:Nat,v≤1000000000000∧x.t=digB v
def TOk (l:List TokD):Prop:=∀ x∈l,TkOk x
theorem TOk.suf {l m:List TokD} (h:TOk l) (k:m <:+l):TOk m:=fun x hx=>h x (k.subset hx)
theorem Stp.out {c:Int} {s t:Rd} (h:Stp c s t) (hT:TOk s.l):t.l.length≤s.l.length∧t.n+2*(t.l.length:Int)≤s.n+2*(s.l.length:Int)+c∧s.n≤t.n∧TOk t.l:=⟨h.len,h.w,h.n,hT.suf h.l⟩
theorem pk_z {s:Rd} (hT:TOk s.l):s.pk.t.size≤1000:=by
 unfold Rd.pk
 cases e:s.l with
 | nil=>exact Nat.zero_le _
 | cons x l=>exact(hT x (e ▸ List.mem_cons_self)).z
section
variable {s s':Rd} {k:Int} {ts:List ByteArray} {t a b:ByteArray} {q:Bool}
theorem zcU (e:(t,q,s')=s.take k ts):Stp 0 s s':=by have h:=z8 s k ts;rw[←e] at h;exact h
theorem zcT (e:(t,q,s')=s.take k ts) (hT:TOk s.l):t.size≤1000:=by
 have h:t=(s.take k ts).1:=congrArg Prod.fst e
 rw[h];unfold Rd.take;split
 · exact Nat.zero_le _
 · exact pk_z hT
theorem take_y (e:(t,q,s')=s.take k ts) (hk:k≠0) (hq:q=true):s'.l.length+1=s.l.length∧Stp (-2) s s'∧s.b=false∧s'.b=false∧s.is k ts=true:=by
 have h:=zbB (s:=s) (k:=k) (ts:=ts) hk (by rw[←e];exact hq)
 rw[←e] at h;exact h
theorem zet (e:(t,s')=s.any k):Stp 0 s s':=by have h:=zbW s k;rw[←e] at h;exact h
theorem zes (e:(t,s')=s.any k) (hT:TOk s.l):t.size≤1000:=by
 have h:t=(s.any k).1:=congrArg Prod.fst e
 rw[h];unfold Rd.any;split
 · exact Nat.zero_le _
 · exact pk_z hT
theorem any_y (e:(t,s')=s.any k) (hk:k≠0) (hb:s.b=false) (h:s.pk.k=k):s'.l.length+1=s.l.length∧Stp (-2) s s'∧t=s.pk.t∧s'.b=false:=by
 have h:=zdS hk hb h
 rw[←e] at h;exact h
theorem zbK (e:s'=s.must t):Stp 0 s s':=by rw[e];exact zV s t
theorem names_e {l:List ByteArray} (e:(l,s')=s.names):Stp 0 s s':=by have h:=names_stp s;rw[←e] at h;exact h
theorem mode_e {m:Int} {l:List ByteArray} (e:(m,l,s')=s.mode a b):Stp 0 s s':=by have h:=zca s a b;rw[←e] at h;exact h
theorem number_e {v:Int} (e:(v,s')=s.number k):Stp 0 s s':=by have h:=za3 s k;rw[←e] at h;exact h
end
theorem digV_snoc (l:List UInt8) (b:UInt8):digV (l++[b])=10*digV l+(b.toNat-48):=by unfold digV;rw[List.foldl_append];rfl
theorem digV_digL:∀ n:Nat,digV (digL n)=n:=by
 intro n
 induction n using Nat.strongRecOn with
 | _ n ih=>
  unfold digL
  split
  · show 10*0+((UInt8.ofNat (48+n)).toNat-48)=n
    rw[on8 (by omega)];omega
  · rw[digV_snoc,ih (n / 10) (by omega),on8 (by omega)];omega
theorem digL_digs:∀ n:Nat,∀ b∈digL n,48≤b.toNat∧b.toNat≤57:=by
 intro n
 induction n using Nat.strongRecOn with
 | _ n ih=>
  intro b hb
  unfold digL at hb
  split at hb
  · rw[List.mem_singleton.1 hb,on8 (by omega)];omega
  · rcases List.mem_append.1 hb with h | h
    · exact ih (n / 10) (by omega) b h
    · rw[List.mem_singleton.1 h,on8 (by omega)];omega
theorem digL_ne (n:Nat):digL n≠[]:=by unfold digL;split<;>simp
theorem bl8_dig (n:Nat):bl8 (digB n)=digL n:=zb0 _
theorem numV_dig (n:Nat):numV (digB n)=(n:Int):=by unfold numV;rw[bl8_dig,digV_digL]
theorem numV_nil:numV ByteArray.empty=0:=rfl
theorem any_num {s s':Rd} {k:Int} {t:ByteArray} (e:(t,s')=s.any k) (hk:k=2∨k=4) (hT:TOk s.l):t=ByteArray.empty∨∃ v:Nat,v≤1000000000000∧t=digB v:=by
 have h:t=(s.any k).1:=congrArg Prod.fst e
 unfold Rd.any at h
 split at h
 · exact .inl h
 · rename_i hc
   have hk':s.pk.k=k:=Decidable.byContradiction fun h=>hc (.inr h)
   refine .inr ?_
   unfold Rd.pk at h hk'
   cases el:s.l with
   | nil=>rw[el] at hk';exact absurd hk' (by show ¬(0:Int)=k;omega)
   | cons x l=>
    rw[el] at h hk'
    have h:t=x.t:=h
    have hk':x.k=k:=hk'
    obtain ⟨v,h1,h2⟩:=(hT x (el ▸ List.mem_cons_self)).d (by omega)
    exact⟨v,h1,h.trans h2⟩
theorem zdk {s s':Rd} {k v:Int} (e:(v,s')=s.number k) (hk:k=2∨k=4) (hT:TOk s.l):0≤v∧v≤1000000000000:=by
 have h:v=numV (s.any k).1:=congrArg Prod.fst e
 rcases any_num (s:=s) (k:=k) (t:=(s.any k).1) (s':=(s.any k).2) rfl hk hT with h1 | ⟨n,h1,h2⟩
 · rw[h,h1,numV_nil];omega
 · rw[h,h2,numV_dig];omega
mutual
def Nd.cnt:Nd→Nat
 | .mk _ _ _ _ _ _ kids=>Nd.cntL kids+1
def Nd.cntL:List Nd→Nat
 | []=>0
 | x::r=>Nd.cnt x+Nd.cntL r
end
def Cnt (p:Rd→Nd×Rd):Prop:=∀ s,(p s).1.cnt+2*(p s).2.l.length≤2*s.l.length+1
theorem levelF_cnt {part:Rd→Nd×Rd} {signs:List ByteArray} (hp:Cnt part):∀ (f:Nat) (o:Nd) (s:Rd),(zbl part signs f o s).1.cnt+2*(zbl part signs f o s).2.l.length≤o.cnt+2*s.l.length
 | 0,o,s=>Nat.le_refl _
 | f+1,o,s=>by
  unfold zbl
  split
  · have:=(z8 s 5 signs).len;simp only;omega
  · rename_i h
    have h:(s.take 5 signs).2.1=true:=by simpa using h
    have h1:=(zbB (by decide) h).1
    have h2:=(zca (s.take 5 signs).2.2 tOn zaE).len
    have h3:=hp ((s.take 5 signs).2.2.mode tOn zaE).2.2
    have h4:=levelF_cnt (signs:=signs) hp f (.mk tBin (s.take 5 signs).1 0 ((s.take 5 signs).2.2.mode tOn zaE).1 ((s.take 5 signs).2.2.mode tOn zaE).2.1 [] [o,(part ((s.take 5 signs).2.2.mode tOn zaE).2.2).1]) (part ((s.take 5 signs).2.2.mode tOn zaE).2.2).2.node
    refine Nat.le_trans h4 ?_
    show (Nd.cntL [o,(part ((s.take 5 signs).2.2.mode tOn zaE).2.2).1]+1)+2*(part ((s.take 5 signs).2.2.mode tOn zaE).2.2).2.l.length≤_
    simp only[Nd.cntL];omega
theorem level_cnt {part:Rd→Nd×Rd} (hp:Cnt part) (signs:List ByteArray):Cnt (fun s=>s.level part signs):=fun s=>by
 have h1:=levelF_cnt (signs:=signs) hp ((part s).2.l.length+1) (part s).1 (part s).2
 have h2:=hp s
 show (s.level part signs).1.cnt+2*(s.level part signs).2.l.length≤_
 unfold Rd.level;omega
section
variable (rm:List MatD→Bool)
theorem selector_cnt:Cnt (fun s=>s.selector rm):=fun s=>by
 have h1:=(selector_stp rm s).len
 show Nd.cntL []+1+2*(s.selector rm).2.l.length≤_
 simp only[Nd.cntL];omega
theorem aggr_cnt {s:Rd} {ex:Rd→Nd×Rd} (hp:Cnt ex) (hb:s.b=false) (hk:s.pk.k=1):(s.aggr ex).1.cnt+2*(s.aggr ex).2.l.length≤2*s.l.length+1:=by
 have h1:=(zdS (by decide) hb hk).1
 have h2:=((zca (s.any 1).2 tBy zau).trans (zV _ zag)).len
 by_cases hn:zbk (s.any 1).1=true
 · have h3:=((za3 (((s.any 1).2.mode tBy zau).2.2.must zag) 2).trans (zV _ za0)).len
   have h4:=hp (((((s.any 1).2.mode tBy zau).2.2.must zag).number 2).2.must za0)
   have h5:=(zV (ex (((((s.any 1).2.mode tBy zau).2.2.must zag).number 2).2.must za0)).2 zaJ).len
   unfold Rd.aggr
   simp only[if_pos hn,Nd.cnt,Nd.cntL]
   show _+2*((ex (((((s.any 1).2.mode tBy zau).2.2.must zag).number 2).2.must za0)).2.must zaJ).l.length≤_
   omega
 · have h4:=hp (((s.any 1).2.mode tBy zau).2.2.must zag)
   have h5:=(zV (ex (((s.any 1).2.mode tBy zau).2.2.must zag)).2 zaJ).len
   unfold Rd.aggr
   simp only[if_neg hn,Nd.cnt,Nd.cntL]
   show _+2*((ex (((s.any 1).2.mode tBy zau).2.2.must zag)).2.must zaJ).l.length≤_
   omega
theorem prim_cnt {ex:Rd→Nd×Rd} (hp:Cnt ex):Cnt (fun s=>s.prim rm ex):=fun s=>by
 show (s.prim rm ex).1.cnt+2*(s.prim rm ex).2.l.length≤_
 unfold Rd.prim
 split
 · show Nd.cntL []+1+_≤_;simp only[Nd.cntL];omega
 · rename_i hb
   have hb:s.b=false:=by simpa using hb
   split
   · have:=(za3 s 2).len
     show Nd.cntL []+1+2*(s.number 2).2.l.length≤_;simp only[Nd.cntL];omega
   · split
     · have h1:=(zV s zag).len
       have h2:=hp (s.must zag)
       have h3:=(zV (ex (s.must zag)).2 zaJ).len
       simp only;omega
     · split
       · rename_i h;exact aggr_cnt hp hb h.1
       · split
         · rename_i h
           have h1:=(zdS (by decide) hb h.1).1
           have h2:=(zV (s.any 1).2 zag).len
           have h3:=hp ((s.any 1).2.must zag)
           have h4:=(zV (ex ((s.any 1).2.must zag)).2.node zaJ).len
           have h5:(ex ((s.any 1).2.must zag)).2.node.l.length=(ex ((s.any 1).2.must zag)).2.l.length:=rfl
           simp only[Nd.cnt,Nd.cntL];omega
         · exact selector_cnt rm s
theorem unaryF_cnt {ex:Rd→Nd×Rd} (hp:Cnt ex):∀ f:Nat,Cnt (za7 rm ex f)
 | 0=>fun s=>by show Nd.cntL []+1+_≤_;simp only[Nd.cntL];show _+2*s.l.length≤_;omega
 | f+1=>fun s=>by
  unfold za7
  split
  · rename_i h
    have h1:=(zbB (by decide) h).1
    have h2:=unaryF_cnt hp f (s.take 5 [zco]).2.2
    show Nd.cntL [_]+1+2*(za7 rm ex f (s.take 5 [zco]).2.2).2.l.length≤_
    simp only[Nd.cntL];omega
  · have h1:=(z8 s 5 [zco]).len
    have h2:=prim_cnt rm hp (s.take 5 [zco]).2.2
    simp only at h2;omega
theorem prodP_cnt {ex:Rd→Nd×Rd} (hp:Cnt ex):Cnt (zeq rm ex):=level_cnt (fun s=>unaryF_cnt rm hp _ s) _
theorem sumP_cnt {ex:Rd→Nd×Rd} (hp:Cnt ex):Cnt (sumP rm ex):=level_cnt (prodP_cnt rm hp) _
theorem exprF_cnt:∀ f:Nat,Cnt (zbR rm f)
 | 0=>fun s=>by show Nd.cntL []+1+_≤_;simp only[Nd.cntL];show _+2*s.l.length≤_;omega
 | f+1=>fun s=>by unfold zbR;exact level_cnt (sumP_cnt rm (exprF_cnt f)) _ s
end
mutual
theorem deep_cnt:∀ q:Nd,q.deep≤q.cnt
 | .mk _ _ _ _ _ _ kids=>by simp only[Nd.deep,Nd.cnt];have:=deepL_cnt kids;omega
theorem deepL_cnt:∀ l:List Nd,Nd.deepL l≤Nd.cntL l
 | []=>Nat.le_refl _
 | x::r=>by simp only[Nd.deepL,Nd.cntL];have:=deep_cnt x;have:=deepL_cnt r;omega
end
end Lp
set_option linter.unusedVariables false
namespace Lp
open Go
theorem words_all (p:TokD→Prop) (hp:∀ (l:List UInt8) (a:Nat),(zz l).2≠0→p ((zz l).1.put a)):∀ (n:Nat) (l:List UInt8) (a:Nat) (ts:List TokD),l.length=n→zaV l a=some ts→∀ x∈ts,p x:=by
 intro n
 induction n using Nat.strongRecOn with
 | _ n ih=>
  intro l a ts hn h
  have hrl:=zbO isB l
  generalize hm:l.drop (runL isB l)=m at*
  have hml:m.length=l.length-runL isB l:=by rw[←hm,List.length_drop]
  unfold zaV at h
  rw[hm] at h
  by_cases hne:m=[]
  · subst hne;rw[zbn] at h;injection h with h;subst h
    exact fun x hx=>absurd hx (by simp)
  · by_cases h0:(zz m).2=0
    · rw[zcn hne h0] at h;cases h
    · have hpos:=List.length_pos_iff.2 hne
      have hfl:=firstT_le (l:=m)
      rw[zcu hne h0 (by omega)] at h
      cases e:zaV (m.drop (zz m).2) (a+runL isB l+(zz m).2) with
      | none=>rw[e] at h;cases h
      | some t2=>
       rw[e] at h
       have h:(zz m).1.put (a+runL isB l)::t2=ts:=by injection h
       have hi:=ih (m.drop (zz m).2).length (by rw[List.length_drop];omega) _ _ t2 rfl e
       subst h
       intro x hx
       rcases List.mem_cons.1 hx with rfl | hx
       · exact hp _ _ h0
       · exact hi x hx
theorem first_dig {l:List UInt8} (h:(zz l).2≠0):(zz l).1.k=2∨(zz l).1.k=4→∃ v:Nat,v≤1000000000000∧(zz l).1.t=digB v:=by
 unfold zz at h ⊢
 split
 · rename_i h1
   rw[if_pos h1] at h
   unfold zbN at h ⊢
   split
   · intro k;rcases k with k | k<;>exact absurd k (by show ¬(1:Int)=_;decide)
   · rename_i h2;rw[if_neg h2] at h;exact absurd rfl h
 · rename_i h1
   rw[if_neg h1] at h
   split
   · rename_i h2
     rw[if_pos h2] at h
     unfold numT at h ⊢
     split
     · rename_i h3;rw[if_pos h3] at h;exact absurd rfl h
     · rename_i h3
       rw[if_neg h3] at h
       split
       · exact fun _=>⟨_,by omega,rfl⟩
       · rename_i h4
         rw[if_neg h4] at h
         split
         · rename_i h5;rw[if_pos h5] at h;exact absurd rfl h
         · rename_i h5
           obtain ⟨c,hc⟩:∃ c,secB (mkB ((l.take (runL isLD l)).drop (runL isD l)))=c:=⟨_,rfl⟩
           rw[hc] at h5 ⊢
           have hm:digV (l.take (runL isD l))*c≤1000000000:=(Nat.le_div_iff_mul_le (by omega)).1 (by omega)
           exact fun _=>⟨_,by omega,rfl⟩
   · rename_i h2
     rw[if_neg h2] at h
     split
     · rename_i h3
       rw[if_pos h3] at h
       cases e:zak true l with
       | none=>unfold strT at h;rw[e] at h;exact absurd rfl h
       | some i=>
        cases e2:unqB (mkB (l.take (i+1))) with
        | none=>
         unfold strT at h;rw[e] at h
         have h:(match unqB (mkB (l.take (i+1))) with | none=>(zbH,0) | some t=>((⟨3,0,t⟩:TokD),i+1)).2≠0:=h
         rw[e2] at h;exact absurd rfl h
        | some t=>
         have e3:strT l=(⟨3,0,t⟩,i+1):=by
          unfold strT;rw[e]
          show (match unqB (mkB (l.take (i+1))) with | none=>(zbH,0) | some t=>((⟨3,0,t⟩:TokD),i+1))=_
          rw[e2]
         rw[e3]
         intro k;rcases k with k | k<;>exact absurd k (by show ¬(3:Int)=_;decide)
     · rename_i h3
       rw[if_neg h3] at h
       obtain ⟨x,hx,e⟩:=signIn_mem zbI l h
       have e:(zb2 l).1=⟨5,0,x⟩:=e
       rw[e]
       intro k;rcases k with k | k<;>exact absurd k (by show ¬(5:Int)=_;decide)
theorem lexL_tok (s:ByteArray):TOk (lexL s):=fun x hx=>by
 by_cases hE:lexE s=0
 · obtain ⟨h1,h2⟩:=zeD hE
   refine⟨lex_sizes (by omega) x hx,?_⟩
   exact words_all (fun x=>x.k=2∨x.k=4→∃ v:Nat,v≤1000000000000∧x.t=digB v) (fun l a h=>first_dig h) _ _ _ _ rfl h2 x hx
 · rw[lex_none hE] at hx;exact absurd hx (by simp)
def zcG (m:MatD):Bool:=zck m.n&&decide (1≤m.op∧m.op≤4)&&(decide (m.op<3)||patR (zah m.v))
def rmD (ms:List MatD):Bool:=ms.all zcG&&decide (ms.length≤10)
def noQ:QryD:=⟨noNd,0,0,0⟩
noncomputable def zci (s:ByteArray):Int:=if lexE s=0 then(if (zbJ rmD (lexL s)).isSome=true then 0 else 2) else lexE s
noncomputable def zcx (s:ByteArray):QryD:=if lexE s=0 then(zbJ rmD (lexL s)).getD noQ else noQ
theorem readE_0 {s:ByteArray} (h:zci s=0):lexE s=0∧zbJ rmD (lexL s)=some (zcx s):=by
 unfold zci at h
 split at h
 · rename_i h1
   split at h
   · rename_i h2
     obtain ⟨q,hq⟩:=Option.isSome_iff_exists.1 h2
     refine⟨h1,?_⟩
     unfold zcx;rw[if_pos h1,hq];rfl
   · exact absurd h (by decide)
 · rename_i h1;exact absurd h h1
theorem read_bad {s:ByteArray} (h:¬zci s=0):zcx s=noQ:=by
 unfold zci at h
 unfold zcx
 split
 · rename_i h1
   rw[if_pos h1] at h
   split at h
   · exact absurd rfl h
   · rename_i h2
     cases e:zbJ rmD (lexL s) with
     | none=>rfl
     | some q=>rw[e] at h2;exact absurd rfl h2
 · rfl
theorem parse_cnt {l:List TokD} {q:QryD} (h:zbJ rmD l=some q):q.root.cnt≤2*l.length+1:=by
 unfold zbJ at h
 have h1:=exprF_cnt rmD (l.length+1) ⟨l,0,false⟩
 simp only at h
 split at h
 · cases h
 · injection h with h
   rw[←h]
   simp only at h1 ⊢;omega
theorem read_cnt (s:ByteArray):(zcx s).root.cnt≤1201:=by
 by_cases h:zci s=0
 · obtain ⟨h1,h2⟩:=readE_0 h
   have h3:=parse_cnt h2
   have h4:=lexL_len s
   have h5:=(zeD h1).1
   omega
 · rw[read_bad h];decide
end Lp
set_option linter.unusedVariables false
namespace Lp
open Go Go.RowKit Go.Proofs
abbrev HSyn (ev:Value):Hp:=.tab 1 #[ev]
theorem atoi_e (s:ByteArray) (ev es:Value) (hev:EvOk ev) (hes:EvOk es) (hd:s=ByteArray.empty∨∃ v:Nat,v≤1000000000000∧s=digB v):CD Tryz.prog 160 [HErr ev,HSyn es] [.s s] (fun r H'=>∃ x,r=.tup [dI (numV s),x]∧H'=[HErr ev,HSyn es]):=
 cd_ext fun w F vs hvs hok=>by
  obtain ⟨u,us,rfl,hu,hus⟩:=hvs
  obtain ⟨hu,hm⟩:=hu
  have hus:us=[]:=hus
  subst hu;subst hus
  rcases hd with rfl | ⟨n,hn,rfl⟩
  · obtain ⟨hF,T,fr,hh⟩:=hok _ (List.mem_cons_of_mem _ List.mem_cons_self)
    have hcell:w.cell? ⟨1,0,none⟩=some es:=by
     unfold World.cell?
     rw[hh];rfl
    refine(Any.strconv_Atoi_syntax Tryz.laysC172 ByteArray.empty (by decide) rfl es w hcell hes).mono fun e w' he=>?_
    obtain ⟨N,rfl,_,_,hbel⟩:=he
    exact⟨_,rfl,zdn hbel,.tup [dI 0,.any],⟨_,rfl,rfl⟩,⟨_,rfl,_,_,rfl,rfl,_,_,rfl,rfl,rfl⟩⟩
  · have h13:=digL_13 hn
    have ha:Lib.atoiAll (bl8 (digB n))=.ok (digV (bl8 (digB n)):Int):=by
     rw[bl8_dig];exact atoi_ok (digL_digs n) (digL_ne n) h13
    rw[bl8_dig,digV_digL] at ha
    rw[numV_dig]
    refine(Any.strconv_Atoi_ok Tryz.laysC172 (digB n) (by show (digB n).size≤_;unfold digB;rw[zai];omega) (n:Int) (by rw[←bl8_dig] at ha;exact ha) w).mono fun e w' he=>?_
    obtain ⟨rfl,hw⟩:=he
    refine⟨_,rfl,?_,.tup [dI (n:Int),.v .nilIface],⟨_,rfl,rfl⟩,⟨_,rfl,_,_,rfl,rfl,_,_,rfl,rfl,rfl⟩⟩
    rcases hw with rfl | ⟨t,rfl⟩
    · exact Ext.rfl'
    · exact zdn (Joins.below_bytesWorld _ w _ t (Nat.le_refl _))
end Lp
