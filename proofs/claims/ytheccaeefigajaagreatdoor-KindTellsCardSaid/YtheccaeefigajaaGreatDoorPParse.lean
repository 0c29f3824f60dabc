import Derived.Lib.QuietBelow
import Derived.Lib.SmallJoins
import Derived.Test.YtheccaeefigajaaGreatDoorPText
set_option linter.unusedVariables false
namespace Lp
open Go
def bts (s:ByteArray) (p:Nat):List UInt8:=s.data.toList.drop p
theorem zbs {s:ByteArray} {p:Nat} (h:p<s.size):bts s p=s.get! p::bts s (p+1):=by
 unfold bts
 have h':p<s.data.toList.length:=by simpa using h
 rw[List.drop_eq_getElem_cons h']
 congr 1
 simp[ByteArray.get!,h]
theorem ofNat_eq {a b:Nat} (h:UInt8.ofNat a=UInt8.ofNat b):a % 256=b % 256:=by
 have:=congrArg UInt8.toNat h;simpa using this
theorem zdT {b:UInt8} {n:Nat} (h:b.toNat=n % 256):b=UInt8.ofNat n:=by
 apply UInt8.toNat_inj.1;simpa using h
theorem zbm {s:ByteArray} {p:Nat}:(s.extract p s.size).data.toList=bts s p:=by
 unfold bts
 simp only[ByteArray.data_extract,Array.toList_extract,List.extract]
 rw[List.take_of_length_le]
 simp
theorem hasP_bts {s:ByteArray} {p:Nat} (h:hasP (s.extract p s.size) wide=true):∃ r,bts s p=239::191::189::r:=by
 unfold hasP at h
 simp only[Bool.and_eq_true,decide_eq_true_eq] at h
 have e:=congrArg (fun b:ByteArray=>b.data.toList) h.2
 simp only[ByteArray.data_extract,Array.toList_extract,List.extract] at e
 have e2:(s.extract p s.size).data.toList.take 3=[239,191,189]:=by
  have e3:List.take wide.size (List.take (s.size-p) (List.drop p s.data.toList))=[239,191,189]:=by simpa [wide] using e
  rw[show wide.size=3 from rfl] at e3
  simpa using e3
 rw[zbm] at e2
 refine⟨(bts s p).drop 3,?_⟩
 have:=(List.take_append_drop 3 (bts s p)).symm
 rw[e2] at this;simpa using this
theorem not_lt_bts {s:ByteArray} {p:Nat} (h:s.size≤p):bts s p=[]:=by unfold bts;rw[List.drop_eq_nil_iff];simpa using h
theorem bts_lt {s:ByteArray} {p:Nat} {a:UInt8} {r:List UInt8} (h:bts s p=a::r):p<s.size:=by
 rcases Nat.lt_or_ge p s.size with h' | h'
 · exact h'
 · rw[not_lt_bts h'] at h;cases h
theorem bts_head {s:ByteArray} {p:Nat} {a:UInt8} {r:List UInt8} (h:bts s p=a::r):s.get! p=a∧bts s (p+1)=r:=by
 rw[zbs (bts_lt h)] at h;injection h with h1 h2;exact⟨h1,h2⟩
theorem dec_cases (s:ByteArray) (p:Nat) (h:p<s.size):
 (bts s p=encR (decR s p)++bts s (p+decW s p))∨(decR s p=65533∧decW s p=1∧hasP (s.extract p s.size) wide=false):=by
 by_cases hw:hasP (s.extract p s.size) wide=true
 · left
   obtain ⟨r,hr⟩:=hasP_bts hw
   obtain ⟨g0,b1⟩:=bts_head hr
   obtain ⟨g1,b2⟩:=bts_head b1
   obtain ⟨g2,b3⟩:=bts_head b2
   have l2:=bts_lt b2
   have hd:Utf8.decode s p=(65533,3):=by
    unfold Utf8.decode
    simp only[Nat.add_zero,g0,g1,show p+2=p+1+1 from rfl,g2,show p+1<s.size by omega,l2,decide_true,Bool.true_and]
    simp[Utf8.valid]
   have e1:decR s p=65533:=by unfold decR;rw[hd]
   have e2:decW s p=3:=by unfold decW;rw[hd]
   rw[e1,e2,hr,show p+3=p+1+1+1 from rfl,b3]
   rfl
 · have hw:hasP (s.extract p s.size) wide=false:=by simpa using hw
   have l0:(s.get! p).toNat<256:=UInt8.toNat_lt _
   have l1:(s.get! (p+1)).toNat<256:=UInt8.toNat_lt _
   have l2:(s.get! (p+2)).toNat<256:=UInt8.toNat_lt _
   have l3:(s.get! (p+3)).toNat<256:=UInt8.toNat_lt _
   have c0:=zbs h
   unfold decR decW
   unfold Utf8.decode
   simp only[Nat.add_zero,Utf8.runeError,Bool.and_eq_true,decide_eq_true_eq,beq_iff_eq]
   by_cases h1:(s.get! p).toNat<128
   · left
     rw[if_pos h1]
     show _=encR (s.get! p).toNat++_
     unfold encR
     rw[if_pos (show (s.get! p).toNat≤127 by omega),c0]
     congr 1;exact zdT (by omega)
   · rw[if_neg h1]
     by_cases h2:(s.get! p).toNat / 32=6∧p+1<s.size∧(s.get! (p+1)).toNat / 64=2
     · rw[if_pos h2]
       have c1:=zbs h2.2.1
       by_cases h3:(s.get! p).toNat % 32*64+(s.get! (p+1)).toNat % 64≥128
       · left
         rw[if_pos h3]
         show _=encR ((s.get! p).toNat % 32*64+(s.get! (p+1)).toNat % 64)++_
         unfold encR
         rw[if_neg (by omega),if_pos (by omega),c0,c1]
         show _=_::_::_
         congr 1
         · exact zdT (by omega)
         · congr 1;exact zdT (by omega)
       · right;rw[if_neg h3];exact⟨rfl,rfl,hw⟩
     · rw[if_neg h2]
       by_cases h4:((s.get! p).toNat / 16=14∧p+1<s.size∧(s.get! (p+1)).toNat / 64=2)∧p+2<s.size∧(s.get! (p+2)).toNat / 64=2
       · rw[if_pos h4]
         have c1:=zbs h4.1.2.1
         have c2:=zbs h4.2.1
         by_cases h3:(s.get! p).toNat % 16*4096+(s.get! (p+1)).toNat % 64*64+(s.get! (p+2)).toNat % 64≥2048∧Utf8.valid (((s.get! p).toNat % 16*4096+(s.get! (p+1)).toNat % 64*64+(s.get! (p+2)).toNat % 64:Nat):Int)=true
         · left
           rw[if_pos h3]
           show _=encR ((s.get! p).toNat % 16*4096+(s.get! (p+1)).toNat % 64*64+(s.get! (p+2)).toNat % 64)++_
           have hv:=h3.2
           unfold Utf8.valid at hv
           simp only[Bool.or_eq_true,Bool.and_eq_true,decide_eq_true_eq] at hv
           unfold encR
           rw[if_neg (by omega),if_neg (by omega),if_pos (by omega),c0,c1,c2]
           show _=_::_::_::_
           congr 1
           · exact zdT (by omega)
           · congr 1
             · exact zdT (by omega)
             · congr 1;exact zdT (by omega)
         · right;rw[if_neg h3];exact⟨rfl,rfl,hw⟩
       · rw[if_neg h4]
         by_cases h5:(((s.get! p).toNat / 8=30∧p+1<s.size∧(s.get! (p+1)).toNat / 64=2)∧p+2<s.size∧(s.get! (p+2)).toNat / 64=2)∧p+3<s.size∧(s.get! (p+3)).toNat / 64=2
         · rw[if_pos h5]
           have c1:=zbs h5.1.1.2.1
           have c2:=zbs h5.1.2.1
           have c3:=zbs h5.2.1
           by_cases h3:(s.get! p).toNat % 8*262144+(s.get! (p+1)).toNat % 64*4096+(s.get! (p+2)).toNat % 64*64+(s.get! (p+3)).toNat % 64≥65536∧Utf8.valid (((s.get! p).toNat % 8*262144+(s.get! (p+1)).toNat % 64*4096+(s.get! (p+2)).toNat % 64*64+(s.get! (p+3)).toNat % 64:Nat):Int)=true
           · left
             rw[if_pos h3]
             show _=encR ((s.get! p).toNat % 8*262144+(s.get! (p+1)).toNat % 64*4096+(s.get! (p+2)).toNat % 64*64+(s.get! (p+3)).toNat % 64)++_
             have hv:=h3.2
             unfold Utf8.valid at hv
             simp only[Bool.or_eq_true,Bool.and_eq_true,decide_eq_true_eq] at hv
             unfold encR
             rw[if_neg (by omega),if_neg (by omega),if_neg (by omega),if_pos (by omega),c0,c1,c2,c3]
             show _=_::_::_::_::_
             congr 1
             · exact zdT (by omega)
             · congr 1
               · exact zdT (by omega)
               · congr 1
                 · exact zdT (by omega)
                 · congr 1;exact zdT (by omega)
           · right;rw[if_neg h3];exact⟨rfl,rfl,hw⟩
         · right;rw[if_neg h5];exact⟨rfl,rfl,hw⟩
theorem encR_no {c:Nat} {x:UInt8} (hx:x.toNat<128) (h:x∈encR c):c=x.toNat:=by
 unfold encR at h
 split at h
 · simp at h;rw[h];simp;omega
 · exfalso
   have key:∀ n:Nat,128≤n % 256→x≠UInt8.ofNat n:=fun n hn e=>by rw[e] at hx;simp at hx;omega
   split at h
   · simp only[List.mem_cons,List.not_mem_nil,or_false] at h
     rcases h with h | h<;>exact key _ (by omega) h
   · split at h
     · simp only[List.mem_cons,List.not_mem_nil,or_false] at h
       rcases h with h | h | h<;>exact key _ (by omega) h
     · split at h
       · simp only[List.mem_cons,List.not_mem_nil,or_false] at h
         rcases h with h | h | h | h<;>exact key _ (by omega) h
       · simp only[List.mem_cons,List.not_mem_nil,or_false] at h
         rcases h with h | h | h<;>(rw[h] at hx;revert hx;decide)
inductive Tok:List UInt8→List UInt8→Prop where
 | esc {c:UInt8}:c=34∨c=92→Tok [92,c] [c]
 | nl:Tok [92,110] [10]
 | hex {b:UInt8}:Tok [92,120,hexB (b.toNat / 16),hexB (b.toNat % 16)] [b]
 | raw {c:Nat}:c<1114112→c≠34→c≠92→c≠10→Tok (encR c) (encR c)
theorem byteAt_get {s:ByteArray} {p:Nat} (h:p<s.size):zO s p=(s.get! p).toNat:=by
 unfold zO;congr 1;simp[ByteArray.get!,h];rfl
theorem zcp {s:ByteArray} {p:Nat} (h:p<s.size):∃ src,Tok (zcj s p) src∧bts s p=src++bts s (p+decW s p):=by
 have hl:=zcM s p
 rcases dec_cases s p h with e | ⟨e1,e2,e3⟩
 · by_cases h1:decR s p=34∨decR s p=92
   · refine⟨encR (decR s p),?_,e⟩
     rw[piece_1 h1]
     rcases h1 with h1 | h1<;>rw[h1]
     · exact .esc (.inl rfl)
     · exact .esc (.inr rfl)
   · by_cases h2:decR s p=10
     · refine⟨encR (decR s p),?_,e⟩
       rw[piece_2 h1 h2,h2];exact .nl
     · by_cases h3:decR s p=65533∧hasP (s.extract p s.size) wide=false
       · exfalso
         have hr:bts s p=239::191::189::bts s (p+decW s p):=by rw[e,h3.1];rfl
         have:hasP (s.extract p s.size) wide=true:=by
          unfold hasP
          have e4:=zbm (s:=s) (p:=p)
          rw[hr] at e4
          have hsz:3≤(s.extract p s.size).size:=by
           have:=congrArg List.length e4
           simp only[Array.length_toList,List.length_cons] at this
           show 3≤(s.extract p s.size).data.size
           omega
          have hx:(s.extract p s.size).extract 0 wide.size=wide:=by
           apply ByteArray.ext
           apply Array.toList_inj.1
           rw[ByteArray.data_extract,Array.toList_extract,List.extract,e4]
           rfl
          rw[hx,show wide.size=3 from rfl,decide_eq_true hsz];simp
         rw[h3.2] at this;cases this
       · refine⟨encR (decR s p),?_,e⟩
         rw[piece_4 h1 h2 h3]
         exact .raw hl (fun e=>h1 (.inl e)) (fun e=>h1 (.inr e)) h2
 · refine⟨[s.get! p],?_,?_⟩
   · rw[piece_3 (by rw[e1];decide) (by rw[e1];decide) ⟨e1,e3⟩,byteAt_get h];exact .hex
   · rw[e2];exact zbs h
def elen (b:UInt8):Nat:=if b.toNat<192 then 1 else if b.toNat<224 then 2 else if b.toNat<240 then 3 else 4
def olen:List UInt8→Nat
 | []=>0
 | b::r=>if b=92 then(if r.head?=some 120 then 4 else 2) else elen b
theorem encR_head {c:Nat} (hc:c<1114112):∃ b r,encR c=b::r∧(encR c).length=elen b∧(b=92→c=92)∧(b=34→c=34):=by
 have ne:∀ n m:Nat,m<128→128≤n % 256→UInt8.ofNat n≠UInt8.ofNat m:=fun n m hm hn e=>by have:=ofNat_eq e;omega
 unfold encR elen
 split
 · refine⟨_,_,rfl,?_,?_,?_⟩
   · have:(UInt8.ofNat (c % 256)).toNat<192:=by simp;omega
     rw[if_pos this];rfl
   · intro e;have:=ofNat_eq (b:=92) e;omega
   · intro e;have:=ofNat_eq (b:=34) e;omega
 · split
   · refine⟨_,_,rfl,?_,?_,?_⟩
     · have h1:¬(UInt8.ofNat (192+c / 64 % 256)).toNat<192:=by simp;omega
       have h2:(UInt8.ofNat (192+c / 64 % 256)).toNat<224:=by simp;omega
       rw[if_neg h1,if_pos h2];rfl
     · intro e;exact absurd e (ne _ 92 (by decide) (by omega))
     · intro e;exact absurd e (ne _ 34 (by decide) (by omega))
   · split
     · refine⟨_,_,rfl,?_,?_,?_⟩
       · have h1:¬(UInt8.ofNat (224+c / 4096 % 256)).toNat<192:=by simp;omega
         have h2:¬(UInt8.ofNat (224+c / 4096 % 256)).toNat<224:=by simp;omega
         have h3:(UInt8.ofNat (224+c / 4096 % 256)).toNat<240:=by simp;omega
         rw[if_neg h1,if_neg h2,if_pos h3];rfl
       · intro e;exact absurd e (ne _ 92 (by decide) (by omega))
       · intro e;exact absurd e (ne _ 34 (by decide) (by omega))
     · split
       · refine⟨_,_,rfl,?_,?_,?_⟩
         · have h1:¬(UInt8.ofNat (240+c / 262144 % 256)).toNat<192:=by simp;omega
           have h2:¬(UInt8.ofNat (240+c / 262144 % 256)).toNat<224:=by simp;omega
           have h3:¬(UInt8.ofNat (240+c / 262144 % 256)).toNat<240:=by simp;omega
           rw[if_neg h1,if_neg h2,if_neg h3];rfl
         · intro e;exact absurd e (ne _ 92 (by decide) (by omega))
         · intro e;exact absurd e (ne _ 34 (by decide) (by omega))
       · refine⟨_,_,rfl,by decide,fun e=>absurd e (by decide),fun e=>absurd e (by decide)⟩
theorem tok_len {o s:List UInt8} (h:Tok o s) (r:List UInt8):olen (o++r)=o.length:=by
 cases h with
 | esc h=>rcases h with h | h<;>rw[h]<;>rfl
 | nl=>rfl
 | hex=>rfl
 | raw hc _ h92 _=>
  obtain ⟨b,t,e,el,hb,_⟩:=encR_head hc
  rw[el,e]
  show (if b=92 then _ else elen b)=_
  rw[if_neg (fun e=>h92 (hb e))]
theorem hexB_inj:∀ a:Nat,a<16→∀ b:Nat,b<16→hexB a=hexB b→a=b:=by decide
theorem tok_src {o s t:List UInt8} (h:Tok o s) (h':Tok o t):s=t:=by
 have hh:∀ {c:Nat} {x:UInt8} {l:List UInt8},c<1114112→c≠92→encR c=92::l→False:=fun {c _ l} hc hn e=>by
  obtain ⟨b,t,e',_,hb,_⟩:=encR_head hc
  rw[e'] at e;injection e with e _;exact hn (hb e)
 generalize ho:o=o' at h'
 cases h with
 | esc h=>
  cases h' with
  | esc _=>cases ho;rfl
  | nl=>injection ho with _ ho;injection ho with ho;rw[ho] at h;exact absurd h (by decide)
  | hex=>cases ho
  | raw hc _ h92 _=>exact(hh (x:=0) hc h92 ho.symm).elim
 | nl=>
  cases h' with
  | esc h=>injection ho with _ ho;injection ho with ho;rw[←ho] at h;exact absurd h (by decide)
  | nl=>rfl
  | hex=>cases ho
  | raw hc _ h92 _=>exact(hh (x:=0) hc h92 ho.symm).elim
 | @hex a=>
  cases h' with
  | esc h=>cases ho
  | nl=>cases ho
  | @hex b=>
   injection ho with _ ho;injection ho with _ ho;injection ho with h1 ho;injection ho with h2 _
   have la:=UInt8.toNat_lt a
   have lb:=UInt8.toNat_lt b
   have e1:=hexB_inj _ (by omega) _ (by omega) h1
   have e2:=hexB_inj _ (by omega) _ (by omega) h2
   have:a=b:=UInt8.toNat_inj.1 (by omega)
   rw[this]
  | raw hc _ h92 _=>exact(hh (x:=0) hc h92 ho.symm).elim
 | raw hc _ h92 _=>
  cases h' with
  | esc h=>exact(hh (x:=0) hc h92 ho).elim
  | nl=>exact(hh (x:=0) hc h92 ho).elim
  | hex=>exact(hh (x:=0) hc h92 ho).elim
  | raw _ _ _ _=>exact ho
theorem tok_no {o s r t:List UInt8} (h:Tok o s):o++r≠34::t:=by
 cases h with
 | esc _=>intro e;injection e with e _;revert e;decide
 | nl=>intro e;injection e with e _;revert e;decide
 | hex=>intro e;injection e with e _;revert e;decide
 | raw hc h34 _ _=>
  obtain ⟨b,u,e,_,_,hb⟩:=encR_head hc
  rw[e];intro e';injection e' with e' _;exact h34 (hb e')
theorem tok_inj {o s o' s' r r':List UInt8} (h:Tok o s) (h':Tok o' s') (e:o++r=o'++r'):s=s'∧r=r':=by
 have hl:o.length=o'.length:=by rw[←tok_len h r,←tok_len h' r',e]
 obtain ⟨e1,e2⟩:=List.append_inj e hl
 subst e1;exact⟨tok_src h h',e2⟩
theorem quote_inj:∀ (n:Nat) (s t:ByteArray) (p q:Nat) (r r':List UInt8),s.size-p=n→zaf s p++34::r=zaf t q++34::r'→bts s p=bts t q∧r=r':=by
 intro n
 induction n using Nat.strongRecOn with
 | _ n ih=>
  intro s t p q r r' hn e
  rcases Nat.lt_or_ge p s.size with h | h<;>rcases Nat.lt_or_ge q t.size with h' | h'
  · obtain ⟨s1,k1,b1⟩:=zcp h
    obtain ⟨s2,k2,b2⟩:=zcp h'
    rw[zaR h,zaR h',List.append_assoc,List.append_assoc] at e
    obtain ⟨e1,e2⟩:=tok_inj k1 k2 e
    have hp:=zY s p
    obtain ⟨e3,e4⟩:=ih _ (by omega) s t _ _ r r' rfl e2
    rw[b1,b2,e1,e3];exact⟨rfl,e4⟩
  · obtain ⟨s1,k1,_⟩:=zcp h
    rw[zaR h,zbp h',List.append_assoc] at e
    exact(tok_no k1 e).elim
  · obtain ⟨s2,k2,_⟩:=zcp h'
    rw[zbp h,zaR h',List.append_assoc] at e
    exact(tok_no k2 e.symm).elim
  · rw[zbp h,zbp h'] at e
    injection e with _ e
    rw[not_lt_bts h,not_lt_bts h'];exact⟨rfl,e⟩
theorem bts_inj {s t:ByteArray} (h:bts s 0=bts t 0):s=t:=by
 unfold bts at h;simp only[List.drop_zero] at h
 exact ByteArray.ext (Array.toList_inj.1 h)
theorem quoteB_inj {s t:ByteArray} (h:zaQ s=zaQ t):s=t:=by
 have e:=congrArg (fun b:ByteArray=>b.data.toList) h
 simp only[zaQ,zaP] at e
 injection e with _ e
 exact bts_inj (quote_inj _ s t 0 0 [] [] rfl e).1
end Lp
set_option linter.unusedVariables false
namespace Lp
open Go
theorem zeb (s:ByteArray) (p:Nat):(bts s p).length=s.size-p:=by unfold bts;simp
theorem hasN_snoc {ns:List ByteArray} {n y:ByteArray} {k:Nat} (h:ns[k]?=some y):hasN (ns.take (k+1)) n=(hasN (ns.take k) n||decide (y=n)):=by
 rw[zaI h];unfold hasN;rw[List.any_append];simp
end Lp
set_option linter.unusedVariables false
namespace Lp
open Go
def gb (l:List UInt8) (k:Nat):Nat:=(l.getD k 0).toNat
def zcl (l:List UInt8) (k:Nat):Bool:=decide (k<l.length)&&gb l k / 64==2
def decL (l:List UInt8):Nat×Nat:=
 if gb l 0<128 then(gb l 0,1)
 else if (gb l 0 / 32==6&&zcl l 1)=true then
  if gb l 0 % 32*64+gb l 1 % 64≥128 then(gb l 0 % 32*64+gb l 1 % 64,2) else(65533,1)
 else if (gb l 0 / 16==14&&zcl l 1&&zcl l 2)=true then
  if (decide (gb l 0 % 16*4096+gb l 1 % 64*64+gb l 2 % 64≥2048)&&Utf8.valid ((gb l 0 % 16*4096+gb l 1 % 64*64+gb l 2 % 64:Nat):Int))=true then(gb l 0 % 16*4096+gb l 1 % 64*64+gb l 2 % 64,3) else(65533,1)
 else if (gb l 0 / 8==30&&zcl l 1&&zcl l 2&&zcl l 3)=true then
  if (decide (gb l 0 % 8*262144+gb l 1 % 64*4096+gb l 2 % 64*64+gb l 3 % 64≥65536)&&Utf8.valid ((gb l 0 % 8*262144+gb l 1 % 64*4096+gb l 2 % 64*64+gb l 3 % 64:Nat):Int))=true then(gb l 0 % 8*262144+gb l 1 % 64*4096+gb l 2 % 64*64+gb l 3 % 64,4) else(65533,1)
 else(65533,1)
theorem gb_bts {s:ByteArray} {p k:Nat}:gb (bts s p) k=(s.get! (p+k)).toNat:=by
 unfold gb bts
 rw[List.getD_eq_getElem?_getD,List.getElem?_drop]
 rcases Nat.lt_or_ge (p+k) s.size with h | h
 · have h':p+k<s.data.toList.length:=by simpa using h
   rw[List.getElem?_eq_getElem h']
   congr 1
   simp[ByteArray.get!,h]
 · rw[List.getElem?_eq_none (by simpa using h)]
   have e2:s.get! (p+k)=default:=by
    show s.data[p+k]! =_
    exact getElem!_neg _ _ (by simpa using h)
   rw[e2];rfl
theorem cont_bts {s:ByteArray} {p k:Nat}:zcl (bts s p) k=(decide (p+k<s.size)&&(s.get! (p+k)).toNat / 64==2):=by
 unfold zcl
 rw[gb_bts,zeb]
 congr 1;rw[decide_eq_decide];omega
theorem decode_bts {s:ByteArray} {p:Nat}:Utf8.decode s p=decL (bts s p):=by
 unfold Utf8.decode decL
 simp only[gb_bts,cont_bts,Nat.add_zero,Utf8.runeError]
theorem zce {s:ByteArray} {p:Nat}:decR s p=(decL (bts s p)).1:=by unfold decR;rw[decode_bts]
theorem zcd {s:ByteArray} {p:Nat}:decW s p=(decL (bts s p)).2:=by unfold decW;rw[decode_bts]
theorem bts_mk (l:List UInt8):bts ⟨l.toArray⟩ 0=l:=by unfold bts;simp
theorem zcC {s:ByteArray} {p k:Nat}:(bts s p).drop k=bts s (p+k):=by unfold bts;rw[List.drop_drop]
theorem zc6 (l:List UInt8):1≤(decL l).2:=by have:=zY ⟨l.toArray⟩ 0;rw[zcd,bts_mk] at this;exact this
theorem decL_le {l:List UInt8} (h:l≠[]):(decL l).2≤l.length:=by
 have:=zaN ⟨l.toArray⟩ 0 (by
  have:=List.length_pos_iff.2 h
  show 0<l.toArray.size;simpa using this)
 rw[zcd,bts_mk] at this
 have e:ByteArray.size ⟨l.toArray⟩=l.length:=by show l.toArray.size=_;simp
 omega
theorem zdL {s:ByteArray} {p:Nat} (h:p<s.size):bts s p≠[]:=by rw[zbs h];simp
theorem zea {s:ByteArray} {p:Nat} (h:s.size≤p):bts s p=[]:=not_lt_bts h
def runL (f:Int→Bool) (l:List UInt8):Nat:=if h:l≠[]∧f ((decL l).1:Int)=true then(decL l).2+runL f (l.drop (decL l).2) else 0
termination_by l.length
decreasing_by
 have h1:=zc6 l
 have h2:=List.length_pos_iff.2 h.1
 rw[List.length_drop];omega
theorem zda {f:Int→Bool} {l:List UInt8} (h:l≠[]) (hf:f ((decL l).1:Int)=true):runL f l=(decL l).2+runL f (l.drop (decL l).2):=by
 conv=>lhs;unfold runL
 rw[dif_pos ⟨h,hf⟩]
theorem zdY {f:Int→Bool} {l:List UInt8} (hf:f ((decL l).1:Int)=false):runL f l=0:=by
 unfold runL;rw[dif_neg (by rw[hf];simp)]
theorem zdC {f:Int→Bool}:runL f []=0:=by unfold runL;rw[dif_neg (by simp)]
theorem runL_le (f:Int→Bool):∀ (n:Nat) (l:List UInt8),l.length=n→runL f l≤l.length:=by
 intro n
 induction n using Nat.strongRecOn with
 | _ n ih=>
  intro l hl
  by_cases h:l≠[]∧f ((decL l).1:Int)=true
  · have h1:=zc6 l
    have h2:=decL_le h.1
    have h3:=ih (l.length-(decL l).2) (by omega) (l.drop (decL l).2) List.length_drop
    rw[List.length_drop] at h3
    rw[zda h.1 h.2];omega
  · unfold runL;rw[dif_neg h];omega
theorem zbO (f:Int→Bool) (l:List UInt8):runL f l≤l.length:=runL_le f _ l rfl
def inK (ks:List Int) (r:Int):Bool:=ks.any (fun k=>decide (k=zM r))
def idxI (n:Int):Nat→List Int→Int
 | _,[]=> -1
 | k,m::r=>if n=m then(k:Int) else idxI n (k+1) r
def hasI (ns:List Int) (n:Int):Bool:=ns.any (fun m=>decide (m=n))
theorem idxI_has (n:Int):∀ (ns:List Int) (k:Nat),decide (0≤idxI n k ns)=hasI ns n
 | [],k=>rfl
 | m::r,k=>by
  unfold idxI hasI
  by_cases h:n=m
  · have h0:(0:Int)≤(k:Nat):=by omega
    simp[h,h0]
  · have h':¬m=n:=fun e=>h e.symm
    have:=idxI_has n r (k+1)
    unfold hasI at this
    rw[if_neg h,this];simp[h']
theorem idxI_at {n m:Int} {ns:List Int} {k:Nat} (hm:ns[k]?=some m) (h:idxI n 0 ns=idxI n k (ns.drop k)) (e:n=m):((k:Nat):Int)=idxI n 0 ns:=by
 rw[h,zdv hm];unfold idxI;rw[if_pos e]
theorem idxI_next {n m:Int} {ns:List Int} {k:Nat} (hm:ns[k]?=some m) (h:idxI n 0 ns=idxI n k (ns.drop k)) (e:¬n=m):idxI n 0 ns=idxI n (k+1) (ns.drop (k+1)):=by
 rw[h,zdv hm];conv=>lhs;unfold idxI
 rw[if_neg e]
theorem idxI_end {n:Int} {ns:List Int} {k:Nat} (hk:ns.length≤k) (h:idxI n 0 ns=idxI n k (ns.drop k)): -1=idxI n 0 ns:=by
 rw[h,List.drop_eq_nil_iff.2 hk];rfl
abbrev isLD:Int→Bool:=inK [1,2]
abbrev isD:Int→Bool:=inK [2]
abbrev isB:Int→Bool:=inK [3]
abbrev bl8 (s:ByteArray):List UInt8:=s.data.toList
def mkB (l:List UInt8):ByteArray:=⟨l.toArray⟩
theorem zb0 (l:List UInt8):bl8 (mkB l)=l:=by simp[bl8,mkB]
theorem zeC (s:ByteArray):mkB (bl8 s)=s:=ByteArray.ext (Array.toList_inj.1 (by simp[bl8,mkB]))
theorem zcq {s:ByteArray} {a b:Nat} (h:b≤s.size):s.extract a b=mkB (((bl8 s).take b).drop a):=by
 apply ByteArray.ext;apply Array.toList_inj.1
 simp only[mkB,ByteArray.data_extract,Array.toList_extract,List.extract,bl8]
 rw[List.drop_take]
theorem zai (l:List UInt8):(mkB l).size=l.length:=by show l.toArray.size=_;simp
theorem zaq (s:ByteArray):(bl8 s).length=s.size:=by simp[bl8]
structure TokD where
 k:Int
 a:Int
 t:ByteArray
deriving DecidableEq
def TokD.d (x:TokD):D:=.agg [.v (.int .i64 x.k),.v (.int .i64 x.a),.s x.t]
def zbH:TokD:=⟨0,0,ByteArray.empty⟩
def zbN (l:List UInt8):TokD×Nat:=if zck (mkB (l.take (runL isLD l)))=true then(⟨1,0,mkB (l.take (runL isLD l))⟩,runL isLD l) else(zbH,0)
def digV (l:List UInt8):Nat:=l.foldl (fun n b=>10*n+(b.toNat-48)) 0
def digL (n:Nat):List UInt8:=if h:n<10 then [UInt8.ofNat (48+n)] else digL (n / 10)++[UInt8.ofNat (48+n % 10)]
termination_by n
decreasing_by omega
def digB (n:Nat):ByteArray:=mkB (digL n)
def secB (s:ByteArray):Nat:=if s=⟨#[115]⟩ then 1 else if s=⟨#[109]⟩ then 60 else if s=⟨#[104]⟩ then 3600 else 0
def numT (l:List UInt8):TokD×Nat:=
 if 13<runL isD l∨1000000000000<digV (l.take (runL isD l)) then(zbH,0)
 else if runL isLD l=runL isD l then(⟨2,0,digB (digV (l.take (runL isD l)))⟩,runL isD l)
 else if secB (mkB ((l.take (runL isLD l)).drop (runL isD l)))=0∨1000000000 / secB (mkB ((l.take (runL isLD l)).drop (runL isD l)))<digV (l.take (runL isD l)) then(zbH,0)
 else(⟨4,0,digB (digV (l.take (runL isD l))*secB (mkB ((l.take (runL isLD l)).drop (runL isD l))))⟩,runL isLD l)
def zak (b:Bool) (l:List UInt8):Option Nat:=
 if h:l=[] then none
 else if b=true then(zak false (l.drop (decL l).2)).map (· +(decL l).2)
 else if (decL l).1=92 then(zak true (l.drop (decL l).2)).map (· +(decL l).2)
 else if (decL l).1=34 then some 0
 else(zak false (l.drop (decL l).2)).map (· +(decL l).2)
termination_by l.length
decreasing_by all_goals (have h1:=zc6 l;have h2:=List.length_pos_iff.2 h;rw[List.length_drop];omega)
noncomputable def unqB (s:ByteArray):Option ByteArray:=open Classical in if h:∃ t,zaQ t=s then some h.choose else none
theorem unqB_some {s t:ByteArray} (h:zaQ t=s):unqB s=some t:=by
 unfold unqB
 have hx:∃ t,zaQ t=s:=⟨t,h⟩
 rw[dif_pos hx]
 congr 1
 exact quoteB_inj (hx.choose_spec.trans h.symm)
theorem unqB_none {s:ByteArray} (h:∀ t,zaQ t≠s):unqB s=none:=by
 unfold unqB;rw[dif_neg];rintro ⟨t,ht⟩;exact h t ht
noncomputable def unqT (s:ByteArray):ByteArray:=(unqB s).getD ByteArray.empty
noncomputable def zdA (s:ByteArray):Bool:=(unqB s).isSome
noncomputable def strT (l:List UInt8):TokD×Nat:=
 match zak true l with
 | none=>(zbH,0)
 | some i=>match unqB (mkB (l.take (i+1))) with
  | none=>(zbH,0)
  | some t=>(⟨3,0,t⟩,i+1)
def zbI:List ByteArray:=[⟨#[61,61]⟩,⟨#[33,61]⟩,⟨#[60,61]⟩,⟨#[62,61]⟩,⟨#[61,126]⟩,⟨#[33,126]⟩,⟨#[43]⟩,⟨#[45]⟩,⟨#[42]⟩,⟨#[47]⟩,⟨#[37]⟩,⟨#[40]⟩,⟨#[41]⟩,⟨#[123]⟩,⟨#[125]⟩,⟨#[91]⟩,⟨#[93]⟩,⟨#[44]⟩,⟨#[61]⟩,⟨#[60]⟩,⟨#[62]⟩]
def za1:List ByteArray→List UInt8→TokD×Nat
 | [],_=>(zbH,0)
 | x::r,l=>if (bl8 x).isPrefixOf l=true then(⟨5,0,x⟩,x.size) else za1 r l
def zb2 (l:List UInt8):TokD×Nat:=za1 zbI l
noncomputable def zz (l:List UInt8):TokD×Nat:=
 if zM ((decL l).1:Int)=1 then zbN l else if zM ((decL l).1:Int)=2 then numT l else if (decL l).1=34 then strT l else zb2 l
def TokD.put (x:TokD) (a:Nat):TokD:=⟨x.k,(a:Int),x.t⟩
noncomputable def zbz:Nat→List UInt8→Nat→Option (List TokD)
 | 0,l,_=>if l=[] then some [] else none
 | n+1,l,a=>if l=[] then some [] else
  if (zz l).2=0 then none
  else(zbz n ((l.drop (zz l).2).drop (runL isB (l.drop (zz l).2))) (a+(zz l).2+runL isB (l.drop (zz l).2))).map (((zz l).1.put a)::·)
noncomputable def zaV (l:List UInt8) (a:Nat):Option (List TokD):=zbz l.length (l.drop (runL isB l)) (a+runL isB l)
theorem zbn {n a:Nat}:zbz n [] a=some []:=by cases n<;>simp[zbz]
theorem zcn {n a:Nat} {l:List UInt8} (h:l≠[]) (h0:(zz l).2=0):zbz n l a=none:=by cases n<;>simp[zbz,h,h0]
theorem wordsF_next {n a:Nat} {l:List UInt8} (h:l≠[]) (h0:(zz l).2≠0):zbz (n+1) l a=(zbz n ((l.drop (zz l).2).drop (runL isB (l.drop (zz l).2))) (a+(zz l).2+runL isB (l.drop (zz l).2))).map (((zz l).1.put a)::·):=by
 conv=>lhs;unfold zbz
 rw[if_neg h,if_neg h0]
theorem wordsF_more:∀ (n m:Nat) (l:List UInt8) (a:Nat),l.length≤n→l.length≤m→zbz n l a=zbz m l a:=by
 intro n
 induction n with
 | zero=>
  intro m l a h1 _
  have:l=[]:=List.eq_nil_of_length_eq_zero (by omega)
  subst this;rw[zbn,zbn]
 | succ n ih=>
  intro m l a h1 h2
  by_cases h:l=[]
  · subst h;rw[zbn,zbn]
  · have hp:=List.length_pos_iff.2 h
    obtain ⟨m,rfl⟩:∃ k,m=k+1:=⟨m-1,by omega⟩
    by_cases h0:(zz l).2=0
    · rw[zcn h h0,zcn h h0]
    · rw[wordsF_next h h0,wordsF_next h h0,ih m _ _ (by simp only[List.length_drop];omega) (by simp only[List.length_drop];omega)]
theorem wordsL_eq {n a:Nat} {l:List UInt8} (h:l.length≤n):zaV l a=zbz n (l.drop (runL isB l)) (a+runL isB l):=wordsF_more _ _ _ _ (by simp only[List.length_drop];omega) (by simp only[List.length_drop];omega)
theorem zcu {n a:Nat} {l:List UInt8} (h:l≠[]) (h0:(zz l).2≠0) (hn:l.length≤n):zbz n l a=(zaV (l.drop (zz l).2) (a+(zz l).2)).map (((zz l).1.put a)::·):=by
 have hp:=List.length_pos_iff.2 h
 obtain ⟨n,rfl⟩:∃ k,n=k+1:=⟨n-1,by omega⟩
 rw[wordsF_next h h0,wordsL_eq (n:=n) (by simp only[List.length_drop];omega)]
noncomputable def lexL (s:ByteArray):List TokD:=if 600<s.size then [] else(zaV (bl8 s) 0).getD []
noncomputable def lexE (s:ByteArray):Int:=if 600<s.size then 1 else if (zaV (bl8 s) 0).isSome then 0 else 2
end Lp
set_option linter.unusedVariables false
namespace Lp
open Go Go.RowKit Go.Proofs
theorem cd_ext {P:Program} {f:FuncId} {H:List Hp} {ds:List D} {R:D→List Hp→Prop} (h:∀ w F vs,D.repA w F ds vs→(∀ x∈H,x.ok w F)→Calls P f vs.toArray w (Ret fun res w'=>Ext w w'∧∃ r,R r H∧D.rep w' F r res)):CD P f H ds R:=
 ⟨fun w F vs hvs hF hH=>(h w F vs hvs hH.ok).mono fun e w' he=>by
  obtain ⟨v,rfl,E,r,hR,hr⟩:=he
  have k:Keep w F w' F:=⟨fun _ h=>h,fun b hb hlt=>E.block b hlt (.inr (Nat.zero_le _))⟩
  refine⟨v,rfl,F,r,H,hR,hr,⟨E.size,E.os,E.tape,E.output,E.drawn,fun b hb _=>E.block b hb (.inr (Nat.zero_le _)),fun _ h=>h,fun _ h=>.inl h,fun b hb=>Nat.lt_of_lt_of_le (hF b hb) E.size,⟨hH.apart,fun x hx=>?_,fun g hg=>⟨.inr hg,(hH.mine g hg).2⟩⟩⟩⟩
  have ok:=hH.ok x hx
  exact Hp.keep ok k (fun g hg=>E.block g (Hp.lt ok hg) (.inr (Nat.zero_le _)))⟩
theorem tab_of {P:Program} {w:World} {name:String} {g:Nat} {k:IntKind} {zs:List Int} {T:TypeId} {fr:Nat×Nat} (hg:P.globalNamed name=some g) (h:w.heap[g]?=some (.cells (zs.map fun z=>Value.int k z).toArray T fr)):Lib.TabIs P w name k zs:=by
 unfold Lib.TabIs World.var?
 rw[hg]
 show (match w.heap[g]? with | some (.cells cs _ _)=>some cs | _=>none)=_
 rw[h]
theorem zdn {w w':World} (h:Below w.heap.size w w'):Ext w w':=⟨h.os,h.tape,h.output,h.size,fun k hk _=>h.block k hk,by unfold Dr;trivial⟩
def zdF:Array Value:=(Lib.pow10Tab.map fun z=>Value.int .u64 z).toArray
abbrev HPow:Hp:=.tab 0 zdF
abbrev HErr (ev:Value):Hp:=.tab 2 #[ev]
def EvOk (ev:Value):Prop:=ev=.nilIface∨∃ te pe,ev=.iface te pe
theorem digL_dec:∀ n:Nat,digL n=Lib.decDigits n:=by
 intro n
 induction n using Nat.strongRecOn with
 | _ n ih=>
  unfold digL Lib.decDigits
  split
  · rfl
  · rw[ih (n / 10) (by omega)]
theorem digL_len:∀ n:Nat,(digL n).length≤n+1:=by
 intro n
 induction n using Nat.strongRecOn with
 | _ n ih=>
  unfold digL
  split
  · simp
  · rw[List.length_append];have:=ih (n / 10) (by omega);simp only[List.length_cons,List.length_nil];omega
theorem digB_size (n:Nat):(digB n).size≤n+1:=by unfold digB;rw[zai];exact digL_len n
theorem itoa_c (n:Nat) (hn:n≤1000000000000):CD Tryz.prog 97 [HPow] [dN n] (fun r H'=>r=.s (digB n)∧H'=[HPow]):=
 cd_ext fun w F vs hvs hok=>by
  obtain ⟨u,us,rfl,hu,hus⟩:=hvs
  have hu:u=_:=hu
  have hus:us=[]:=hus
  subst hu;subst hus
  obtain ⟨hF,T,fr,hh⟩:=hok _ List.mem_cons_self
  refine(Any.strconv_Itoa Tryz.laysM171 (n:Int) (by omega) (by omega) w (tab_of (by kernel_rfl) hh)).mono fun e w' he=>?_
  obtain ⟨rfl,k,os,rfl⟩:=he
  refine⟨_,rfl,zdn (below_regrown w (w.drawn+k) os),.s (digB n),⟨rfl,rfl⟩,?_,?_⟩
  · show Value.string _=Value.string _
    congr 1
    show _=mkB (digL n)
    unfold mkB Lib.itoa
    rw[if_neg (by omega),digL_dec];rfl
  · have:=digB_size n;unfold maxLen;omega
def Digs (l:List UInt8):Prop:=∀ b∈l,48≤b.toNat∧b.toNat≤57
theorem parse_no:∀ (l:List UInt8) (acc:Nat),Digs l→(∃ u,Lib.parseUint10 acc l=.ok u)∨Lib.parseUint10 acc l=.range
 | [],acc,_=>.inl ⟨_,rfl⟩
 | c::r,acc,h=>by
  have hc:=h c List.mem_cons_self
  unfold Lib.parseUint10
  rw[if_pos hc]
  split
  · exact .inr rfl
  · split
    · exact .inr rfl
    · exact parse_no r _ (fun b hb=>h b (List.mem_cons_of_mem _ hb))
theorem parse_ok:∀ (l:List UInt8) (acc k:Nat),Digs l→acc<10 ^ k→l.length+k≤13→Lib.parseUint10 acc l=.ok (l.foldl (fun n b=>10*n+(b.toNat-48)) acc)∧l.foldl (fun n b=>10*n+(b.toNat-48)) acc<10 ^ 13
 | [],acc,k,_,ha,hl=>⟨rfl,Nat.lt_of_lt_of_le ha (Nat.pow_le_pow_right (by omega) (by simpa using hl))⟩
 | c::r,acc,k,h,ha,hl=>by
  have hc:=h c List.mem_cons_self
  have hk:10 ^ k≤10 ^ 13:=Nat.pow_le_pow_right (by omega) (by omega)
  have h13:(10:Nat) ^ 13=10000000000000:=by decide
  have ih:=parse_ok r (10*acc+(c.toNat-48)) (k+1) (fun b hb=>h b (List.mem_cons_of_mem _ hb)) (by rw[Nat.pow_succ];omega) (by simp only[List.length_cons] at hl;omega)
  unfold Lib.parseUint10
  rw[if_pos hc,if_neg (by omega),if_neg (by omega),Nat.mul_comm acc 10]
  exact ih
theorem atoi_ok {l:List UInt8} (h:Digs l) (hne:l≠[]) (hl:l.length≤13):Lib.atoiAll l=.ok (digV l:Int):=by
 cases l with
 | nil=>exact absurd rfl hne
 | cons c r=>
  have hc:=h c List.mem_cons_self
  obtain ⟨h1,h2⟩:=parse_ok (c::r) 0 0 h (by decide) (by omega)
  have h13:(10:Nat) ^ 13=10000000000000:=by decide
  rw[Lib.atoiAll_plain c r (by omega) (by omega)]
  unfold Lib.parseMag
  rw[if_neg (by simp),h1]
  unfold Lib.signless
  simp only[]
  rw[if_neg (by omega)];rfl
theorem atoi_no {l:List UInt8} (h:Digs l) (hne:l≠[]):(∃ v,Lib.atoiAll l=.ok v)∨Lib.atoiAll l=.range:=by
 cases l with
 | nil=>exact absurd rfl hne
 | cons c r=>
  have hc:=h c List.mem_cons_self
  have hp:=parse_no (c::r) 0 h
  rw[Lib.atoiAll_plain c r (by omega) (by omega)]
  unfold Lib.parseMag
  rw[if_neg (by simp)]
  unfold Lib.signless
  rcases hp with ⟨u,e⟩ | e
  · rw[e]
    simp only[]
    split
    · first | exact .inr rfl | exact .inl ⟨_,rfl⟩
    · first | exact .inl ⟨_,rfl⟩ | exact .inr rfl
  · rw[e];exact .inr rfl
theorem atoi_c (s:ByteArray) (ev:Value) (hev:EvOk ev) (hd:Digs (bl8 s)) (hne:bl8 s≠[]) (hs:s.size≤1000000):CD Tryz.prog 160 [HErr ev] [.s s] (fun r H'=>∃ v x,r=.tup [dI v,x]∧H'=[HErr ev]∧(s.size≤13→v=(digV (bl8 s):Int)∧x=.v .nilIface)∧ -9223372036854775808≤v∧v≤9223372036854775807):=
 cd_ext fun w F vs hvs hok=>by
  obtain ⟨u,us,rfl,hu,hus⟩:=hvs
  obtain ⟨hu,hm⟩:=hu
  have hus:us=[]:=hus
  subst hu;subst hus
  rcases atoi_no hd hne with ⟨v,ha⟩ | ha
  · skip
    have hb:=Lib.atoiAll_bounds ha
    refine(Any.strconv_Atoi_ok Tryz.laysC172 s (by omega) v ha w).mono fun e w' he=>?_
    obtain ⟨rfl,hw⟩:=he
    refine⟨_,rfl,?_,.tup [dI v,.v .nilIface],⟨v,_,rfl,rfl,fun h13=>⟨?_,rfl⟩,hb.1,hb.2⟩,⟨_,rfl,_,_,rfl,rfl,_,_,rfl,rfl,rfl⟩⟩
    · rcases hw with rfl | ⟨t,rfl⟩
      · exact Ext.rfl'
      · exact zdn (Joins.below_bytesWorld _ w _ t (Nat.le_refl _))
    · have:=atoi_ok hd hne (by rw[zaq];exact h13)
      rw[this] at ha;injection ha with ha;exact ha.symm
  · skip
    have hb:=Lib.atoiSat_bounds (bl8 s)
    obtain ⟨hF,T,fr,hh⟩:=hok _ List.mem_cons_self
    have hcell:w.cell? ⟨2,0,none⟩=some ev:=by
     unfold World.cell?
     rw[hh];rfl
    refine(Any.strconv_Atoi_range Tryz.laysC172 s (by omega) ha ev w hcell hev).mono fun e w' he=>?_
    obtain ⟨N,rfl,_,_,hbel⟩:=he
    refine⟨_,rfl,zdn hbel,.tup [dI (Lib.atoiSat (bl8 s)),.any],⟨_,_,rfl,rfl,fun h13=>?_,hb.1,hb.2⟩,⟨_,rfl,_,_,rfl,rfl,_,_,rfl,rfl,rfl⟩⟩
    have:=atoi_ok hd hne (by rw[zaq];exact h13)
    rw[this] at ha;cases ha
end Lp
set_option linter.unusedVariables false
namespace Lp
open Go
def rightV (v:Int):Bool:=decide (-1000000000000≤v)&&decide (v≤1000000000000)
end Lp
set_option linter.unusedVariables false
namespace Lp
open Go
section
variable {l:List RowD} {k:Nat} {x:RowD}
end
section
variable {l:List RowD} {i:Nat} {x y:RowD}
end
def metB:ByteArray:=⟨#[109,101,116,114,105,99]⟩
def keyL (mode:Int) (ns:List ByteArray) (l:List Lbl):List Lbl:=
 if mode=1 then pickL l ns true else if mode=2 then pickL (pickL l ns false) [metB] false else pickL l [metB] false
section
variable {f:RowD→Int×Int} {l:List RowD} {k:Nat} {x:RowD}
end
section
variable {op:ByteArray} {v:Int} {left:Bool} {l:List RowD} {k:Nat} {x:RowD}
end
def keyT (mode:Int) (ns:List ByteArray) (r:RowD):ByteArray:=textB (keyL mode ns r.ls)
def keyTs (mode:Int) (ns:List ByteArray) (l:List RowD):List ByteArray:=l.map (keyT mode ns)
def ndT (mode:Int) (ns:List ByteArray) (l:List RowD):Prop:=(keyTs mode ns l).Nodup
instance (mode:Int) (ns:List ByteArray) (l:List RowD):Decidable (ndT mode ns l):=inferInstanceAs (Decidable (List.Nodup _))
section
variable {op:ByteArray} {mode:Int} {ns:List ByteArray} {a b:List RowD} {k:Nat} {x:RowD}
end
end Lp
set_option linter.unusedVariables false
namespace Lp
open Go
structure MatD where
 n:ByteArray
 op:Int
 v:ByteArray
def MatD.d (m:MatD):D:=.agg [.s m.n,.v (.int .i64 m.op),.s m.v]
inductive Nd where
 | mk (op text:ByteArray) (n mode:Int) (names:List ByteArray) (ms:List MatD) (kids:List Nd)
mutual
def Nd.d:Nd→D
 | .mk op text n mode names ms kids=>.agg [.s op,.s text,.v (.int .i64 n),.v (.int .i64 mode),.sh 1 (names.map D.s),.sh 3 (ms.map MatD.d),.sh 7 (Nd.ds kids)]
def Nd.ds:List Nd→List D
 | []=>[]
 | x::r=>Nd.d x::Nd.ds r
end
theorem Nd.ds_eq:∀ l:List Nd,Nd.ds l=l.map Nd.d
 | []=>rfl
 | x::r=>congrArg (Nd.d x::·) (Nd.ds_eq r)
theorem Nd.d_mk (op text:ByteArray) (n mode:Int) (names:List ByteArray) (ms:List MatD) (kids:List Nd):
 Nd.d (.mk op text n mode names ms kids)=.agg [.s op,.s text,.v (.int .i64 n),.v (.int .i64 mode),.sh 1 (names.map D.s),.sh 3 (ms.map MatD.d),.sh 7 (kids.map Nd.d)]:=by
 rw[←Nd.ds_eq];rfl
mutual
def Nd.deep:Nd→Nat
 | .mk _ _ _ _ _ _ kids=>Nd.deepL kids+1
def Nd.deepL:List Nd→Nat
 | []=>0
 | x::r=>max (Nd.deep x) (Nd.deepL r)
end
theorem deepL_app (a b:List Nd):Nd.deepL (a++b)=max (Nd.deepL a) (Nd.deepL b):=by
 induction a with
 | nil=>simp[Nd.deepL]
 | cons x a ih=>simp only[List.cons_append,Nd.deepL,ih];omega
theorem deepL_snoc {l:List Nd} {k:Nat} {x:Nd} (h:l[k]?=some x):Nd.deepL (l.take (k+1))=max (Nd.deepL (l.take k)) (Nd.deep x):=by
 rw[zaI h,deepL_app];simp[Nd.deepL]
def addN (out l:List ByteArray):List ByteArray:=l.foldl (fun o m=>if hasN o m=true then o else o++[m]) out
abbrev nSel:ByteArray:=⟨#[115,101,108]⟩
mutual
def Nd.mets:Nd→List ByteArray
 | .mk op text _ _ _ _ kids=>Nd.metsL (if op=nSel∧text≠ByteArray.empty then [text] else []) kids
def Nd.metsL:List ByteArray→List Nd→List ByteArray
 | out,[]=>out
 | out,x::r=>Nd.metsL (addN out (Nd.mets x)) r
end
theorem metsL_app:∀ (a b:List Nd) (out:List ByteArray),Nd.metsL out (a++b)=Nd.metsL (Nd.metsL out a) b
 | [],b,out=>by simp[Nd.metsL]
 | x::a,b,out=>by simp only[List.cons_append,Nd.metsL];exact metsL_app a b _
theorem metsL_snoc {l:List Nd} {k:Nat} {x:Nd} (h:l[k]?=some x) (out:List ByteArray):Nd.metsL out (l.take (k+1))=addN (Nd.metsL out (l.take k)) (Nd.mets x):=by
 rw[zaI h,metsL_app];simp[Nd.metsL]
theorem addN_snoc {out l:List ByteArray} {k:Nat} {m:ByteArray} (h:l[k]?=some m):addN out (l.take (k+1))=if hasN (addN out (l.take k)) m=true then addN out (l.take k) else addN out (l.take k)++[m]:=by
 unfold addN;rw[zaI h,List.foldl_append];rfl
end Lp
set_option linter.unusedVariables false
namespace Lp
open Go
inductive Way where
 | sums (mean:Bool)
 | least
 | most
 | many
 | rank (p:Int)
 | top (n:Int)
def aggN:List ByteArray:=[⟨#[115,117,109]⟩,⟨#[109,105,110]⟩,⟨#[109,97,120]⟩,⟨#[99,111,117,110,116]⟩,⟨#[97,118,103]⟩,⟨#[116,111,112,107]⟩,⟨#[113,117,97,110,116,105,108,101]⟩]
abbrev nTop:ByteArray:=⟨#[116,111,112,107]⟩
abbrev nQ:ByteArray:=⟨#[113,117,97,110,116,105,108,101]⟩
section
variable {f:List RowD→Int×Int} {gs:List (List RowD)} {k:Nat} {x:List RowD}
end
section
variable {mode:Int} {names:List ByteArray} {l:List RowD} {w:Way}
end
end Lp
set_option linter.unusedVariables false
namespace Lp
open Go
structure Rd where
 l:List TokD
 n:Int
 b:Bool
def Rd.pk (s:Rd):TokD:=s.l.headD zbH
def Rd.is (s:Rd) (k:Int) (ts:List ByteArray):Bool:=decide (s.pk.k=k)&&hasN ts s.pk.t
def Rd.take (s:Rd) (k:Int) (ts:List ByteArray):ByteArray×Bool×Rd:=if s.b=true∨s.is k ts=false then(ByteArray.empty,false,s) else(s.pk.t,true,⟨s.l.tail,s.n,s.b⟩)
def Rd.must (s:Rd) (t:ByteArray):Rd:=⟨(s.take 5 [t]).2.2.l,(s.take 5 [t]).2.2.n,(s.take 5 [t]).2.2.b||!(s.take 5 [t]).2.1⟩
def Rd.any (s:Rd) (k:Int):ByteArray×Rd:=if s.b=true∨s.pk.k≠k then(ByteArray.empty,⟨s.l,s.n,true⟩) else(s.pk.t,⟨s.l.tail,s.n,s.b⟩)
def numV (t:ByteArray):Int:=(digV (bl8 t):Int)
def Rd.number (s:Rd) (k:Int):Int×Rd:=(numV (s.any k).1,(s.any k).2)
def Rd.node (s:Rd):Rd:=⟨s.l,s.n+1,s.b||decide (200<s.n+1)⟩
abbrev zag:ByteArray:=⟨#[40]⟩
abbrev zaJ:ByteArray:=⟨#[41]⟩
abbrev za0:ByteArray:=⟨#[44]⟩
abbrev zcF:ByteArray:=⟨#[123]⟩
abbrev zcs:ByteArray:=⟨#[125]⟩
abbrev tSq:ByteArray:=⟨#[91]⟩
abbrev tSqE:ByteArray:=⟨#[93]⟩
abbrev zaa:ByteArray:=⟨#[43]⟩
abbrev zco:ByteArray:=⟨#[45]⟩
abbrev tTimes:ByteArray:=⟨#[42]⟩
abbrev tOver:ByteArray:=⟨#[47]⟩
abbrev tMod:ByteArray:=⟨#[37]⟩
abbrev tEqq:ByteArray:=⟨#[61,61]⟩
abbrev tNe:ByteArray:=⟨#[33,61]⟩
abbrev tLt:ByteArray:=⟨#[60]⟩
abbrev tLe:ByteArray:=⟨#[60,61]⟩
abbrev tGt:ByteArray:=⟨#[62]⟩
abbrev tGe:ByteArray:=⟨#[62,61]⟩
abbrev tEq:ByteArray:=⟨#[61]⟩
abbrev zbe:ByteArray:=⟨#[61,126]⟩
abbrev zao:ByteArray:=⟨#[33,126]⟩
abbrev tOn:ByteArray:=⟨#[111,110]⟩
abbrev zaE:ByteArray:=⟨#[105,103,110,111,114,105,110,103]⟩
abbrev tBy:ByteArray:=⟨#[98,121]⟩
abbrev zau:ByteArray:=⟨#[119,105,116,104,111,117,116]⟩
abbrev tBin:ByteArray:=⟨#[98,105,110]⟩
abbrev tNeg:ByteArray:=⟨#[110,101,103]⟩
abbrev tNum:ByteArray:=⟨#[110,117,109]⟩
abbrev tAgg:ByteArray:=⟨#[97,103,103]⟩
abbrev tFn:ByteArray:=⟨#[102,110]⟩
abbrev zcW:ByteArray:=⟨#[111,114,100,101,114]⟩
abbrev tAsc:ByteArray:=⟨#[97,115,99]⟩
abbrev zeL:ByteArray:=⟨#[100,101,115,99]⟩
abbrev zds:ByteArray:=⟨#[108,105,109,105,116]⟩
abbrev zcK:ByteArray:=⟨#[111,102,102,115,101,116]⟩
def zbY:Nat→List ByteArray→Rd→List ByteArray×Rd
 | 0,o,s=>(o,s)
 | f+1,o,s=>
  if s.b=true then(o,s)
  else if ((s.any 1).2.take 5 [za0]).2.1=true then zbY f (o++[(s.any 1).1]) ((s.any 1).2.take 5 [za0]).2.2
  else(o++[(s.any 1).1],((s.any 1).2.take 5 [za0]).2.2)
def Rd.names (s:Rd):List ByteArray×Rd:=
 if (s.must zag).is 5 [zaJ]=true then([],(s.must zag).must zaJ)
 else((zbY ((s.must zag).l.length+1) [] (s.must zag)).1,(zbY ((s.must zag).l.length+1) [] (s.must zag)).2.must zaJ)
def Rd.mode (s:Rd) (a b:ByteArray):Int×List ByteArray×Rd:=
 if (s.take 1 [a,b]).2.1=false then(0,[],(s.take 1 [a,b]).2.2)
 else if (s.take 1 [a,b]).1=a then(1,(s.take 1 [a,b]).2.2.names) else(2,(s.take 1 [a,b]).2.2.names)
def zbl (part:Rd→Nd×Rd) (signs:List ByteArray):Nat→Nd→Rd→Nd×Rd
 | 0,o,s=>(o,s)
 | f+1,o,s=>
  if (s.take 5 signs).2.1=false then(o,(s.take 5 signs).2.2)
  else
   let m:=(s.take 5 signs).2.2.mode tOn zaE
   let q:=part m.2.2
   zbl part signs f (.mk tBin (s.take 5 signs).1 0 m.1 m.2.1 [] [o,q.1]) q.2.node
def Rd.level (s:Rd) (part:Rd→Nd×Rd) (signs:List ByteArray):Nd×Rd:=zbl part signs ((part s).2.l.length+1) (part s).1 (part s).2
def noNd:Nd:=.mk ByteArray.empty ByteArray.empty 0 0 [] [] []
def fnN:List ByteArray:=[⟨#[115,117,109,95,111,118,101,114]⟩,⟨#[97,118,103,95,111,118,101,114]⟩,⟨#[109,105,110,95,111,118,101,114]⟩,⟨#[109,97,120,95,111,118,101,114]⟩,⟨#[99,111,117,110,116,95,111,118,101,114]⟩,⟨#[108,97,115,116,95,111,118,101,114]⟩,⟨#[105,110,99,114,101,97,115,101]⟩,⟨#[114,97,116,101]⟩]
def zd9 (t:ByteArray):Bool:=hasN aggN t||hasN fnN t||hasN [⟨#[111,114,100,101,114]⟩,⟨#[108,105,109,105,116]⟩,⟨#[111,102,102,115,101,116]⟩,⟨#[97,115,99]⟩,⟨#[100,101,115,99]⟩,⟨#[111,110]⟩,⟨#[105,103,110,111,114,105,110,103]⟩,⟨#[98,121]⟩,⟨#[119,105,116,104,111,117,116]⟩] t
def zbk (t:ByteArray):Bool:=decide (t=nTop)||decide (t=nQ)
def opM (t:ByteArray):Int:=if t=tEq then 1 else if t=tNe then 2 else if t=zbe then 3 else if t=zao then 4 else 0
def za6:Nat→List MatD→Rd→List MatD×Rd
 | 0,o,s=>(o,s)
 | f+1,o,s=>
  if s.b=true then(o,s)
  else
   let a:=s.any 1
   let c:=a.2.take 5 [tEq,tNe,zbe,zao]
   let v:=Rd.any ⟨c.2.2.l,c.2.2.n,c.2.2.b||!c.2.1⟩ 3
   let d:=v.2.take 5 [za0]
   if d.2.1=true then za6 f (o++[⟨a.1,opM c.1,v.1⟩]) d.2.2 else(o++[⟨a.1,opM c.1,v.1⟩],d.2.2)
section
variable (rm:List MatD→Bool)
def Rd.braces (s:Rd):List MatD×Rd:=
 if (s.must zcF).is 5 [zcs]=true then([],(s.must zcF).must zcs)
 else
  let r:=za6 ((s.must zcF).l.length+1) [] (s.must zcF)
  (r.1,⟨(r.2.must zcs).l,(r.2.must zcs).n,(r.2.must zcs).b||!rm r.1⟩)
def Rd.selName (s:Rd):ByteArray×Rd:=if s.pk.k=1∧zd9 s.pk.t=false then s.any 1 else(ByteArray.empty,s)
def Rd.selMs (s:Rd) (text:ByteArray):List MatD×Rd:=if s.is 5 [zcF]=true then s.braces rm else([],⟨s.l,s.n,s.b||decide (text=ByteArray.empty)⟩)
def Rd.selWin (s:Rd):Int×Rd:=if (s.take 5 [tSq]).2.1=true then((Rd.number (s.take 5 [tSq]).2.2 4).1,(Rd.number (s.take 5 [tSq]).2.2 4).2.must tSqE) else(0,(s.take 5 [tSq]).2.2)
def Rd.selector (s:Rd):Nd×Rd:=
 let a:=s.selName
 let m:=a.2.selMs rm a.1
 let w:=m.2.selWin
 (.mk nSel a.1 w.1 0 [] m.1 [],w.2.node)
def Rd.aggr (s:Rd) (ex:Rd→Nd×Rd):Nd×Rd:=
 let a:=s.any 1
 let m:=a.2.mode tBy zau
 let p:=m.2.2.must zag
 let k:=if zbk a.1=true then(p.number 2) else(0,p)
 let p2:=if zbk a.1=true then k.2.must za0 else k.2
 let q:=ex p2
 (.mk tAgg a.1 k.1 m.1 m.2.1 [] [q.1],(q.2.must zaJ).node)
def Rd.prim (s:Rd) (ex:Rd→Nd×Rd):Nd×Rd:=
 if s.b=true then(noNd,s)
 else if s.pk.k=2 then(.mk tNum ByteArray.empty (s.number 2).1 0 [] [] [],(s.number 2).2.node)
 else if s.is 5 [zag]=true then((ex (s.must zag)).1,(ex (s.must zag)).2.must zaJ)
 else if s.pk.k=1∧hasN aggN s.pk.t=true then s.aggr ex
 else if s.pk.k=1∧hasN fnN s.pk.t=true then
  let a:=s.any 1
  let q:=ex (a.2.must zag)
  (.mk tFn a.1 0 0 [] [] [q.1],q.2.node.must zaJ)
 else s.selector rm
def za7 (ex:Rd→Nd×Rd):Nat→Rd→Nd×Rd
 | 0,s=>(noNd,s)
 | f+1,s=>
  if (s.take 5 [zco]).2.1=true then
   let q:=za7 ex f (s.take 5 [zco]).2.2
   (.mk tNeg ByteArray.empty 0 0 [] [] [q.1],q.2.node)
  else Rd.prim rm (s.take 5 [zco]).2.2 ex
def zeq (ex:Rd→Nd×Rd) (s:Rd):Nd×Rd:=s.level (fun s=>za7 rm ex (s.l.length+1) s) [tTimes,tOver,tMod]
def sumP (ex:Rd→Nd×Rd) (s:Rd):Nd×Rd:=s.level (zeq rm ex) [zaa,zco]
def zbR:Nat→Rd→Nd×Rd
 | 0,s=>(noNd,s)
 | f+1,s=>s.level (sumP rm (zbR f)) [tEqq,tNe,tLt,tLe,tGt,tGe]
def Rd.bound (s:Rd) (w:ByteArray):Int×Rd:=
 if (s.take 1 [w]).2.1=false then(-1,(s.take 1 [w]).2.2)
 else(((s.take 1 [w]).2.2.number 2).1,⟨((s.take 1 [w]).2.2.number 2).2.l,((s.take 1 [w]).2.2.number 2).2.n,((s.take 1 [w]).2.2.number 2).2.b||decide (2000<((s.take 1 [w]).2.2.number 2).1)⟩)
def Rd.order (s:Rd):Int×Rd:=
 let a:=s.take 1 [zcW]
 if a.2.1=false then(0,a.2.2)
 else
  let d:=a.2.2.take 1 [zeL]
  if d.2.1=true then(2,d.2.2)
  else(1,⟨(d.2.2.any 1).2.l,(d.2.2.any 1).2.n,(d.2.2.any 1).2.b||decide ((d.2.2.any 1).1≠tAsc)⟩)
structure QryD where
 root:Nd
 order:Int
 limit:Int
 offset:Int
def zbJ (l:List TokD):Option QryD:=
 let e:=zbR rm (l.length+1) ⟨l,0,false⟩
 let o:=e.2.order
 let a:=o.2.bound zds
 let b:=a.2.bound zcK
 if b.2.b=true∨0<b.2.l.length then none else some ⟨e.1,o.1,a.1,b.1⟩
end
end Lp
