import Derived.Lib.QuietBelow
import Derived.Lib.SmallJoins
import Derived.Test.YtpbcckjedaieoaaGreatDoorPLaw2
set_option linter.unusedSimpArgs false
set_option linter.unusedVariables false
namespace Lp
open Go
variable {s:ByteArray} {p:Nat} {l:List UInt8} {n a:Nat} {f:Int->Bool} {ns:List Int} {r:List UInt8} {k:Nat}
def NSrt (l:List Lbl):Prop:=l.Pairwise (λa b=>cmpS a.n b.n<0)
theorem cmpLbl_n {a b:Lbl} (h:zz a b<=0):cmpS a.n b.n<=0:=by
 unfold zz or2 at h;split at h<;>omega
theorem tidyFrom_n:∀ (l:List Lbl) (p:Option ByteArray),Srt zz l->zcR p l=true->NSrt l/\∀ x∈l,okL x=true
 | [],_,_,_=>⟨List.Pairwise.nil,λ_ h=>by cases h⟩
 | x::r,p,hs,ht=>by
  have hs':=dS.1 hs;unfold zcR at ht;simp only[c8] at ht;obtain ⟨h1,h2,h3⟩:=ht;have ih:=tidyFrom_n r (some x.n) hs'.2 h3;refine⟨dS.2 ⟨?_,ih.1⟩,?_⟩
  · intro y hy;cases r with
    | nil=>cases hy
    | cons z r=>
     have hxz:cmpS x.n z.n<0:=by
      have h4:=cmpLbl_n (hs'.1 z c6);have h5:¬x.n=z.n:=by
       unfold zcR at h3;simp only[c8,uU,decide_eq_false_iff_not] at h3;intro e;exact h3.2.1 (congrArg some e)
      have h6:cmpS x.n z.n≠0:=λe=>h5 ((zcD _ _).1 e)
      omega
     rcases dO.1 hy with e | e
     · rw[e];exact hxz
     have h7:=(dS.1 ih.1).1 y e;exact(cmpS_tr x.n z.n y.n).lt1 hxz (by omega)
  intro y hy;rcases dO.1 hy with e | e
  · rw[e];exact h1
  exact ih.2 y e
theorem tidy_n {l:List Lbl} (h:zbI l=0):NSrt (zY l)/\∀ x∈zY l,okL x=true:=by
 rcases tidyE_cases l with ⟨_,h2,h3⟩ | ⟨h2,_⟩
 · have hs:=tidy_srt l;rw[h3] at hs ⊢;exact tidyFrom_n _ none hs (tidy_ok_b h2)
 omega
def bts (s:ByteArray) (p:Nat):List UInt8:=s.data.toList.drop p
theorem zbn (h:p<s.size):bts s p=s.get! p::bts s (p+1):=by
 unfold bts;have h':p<s.data.toList.length:=by simpa using h
 rw[uS h'];congr 1;simp[ByteArray.get!,h]
theorem ofNat_eq {a b:Nat} (h:UInt8.ofNat a=UInt8.ofNat b):a % 256=b % 256:=by
 have:=congrArg UInt8.toNat h;simpa using this
theorem zeQ {b:UInt8} {n:Nat} (h:b.toNat=n % 256):b=UInt8.ofNat n:=by
 apply wQ.1;simpa using h
theorem zbc:(s.extract p s.size).data.toList=bts s p:=by
 unfold bts;simp only[vE,vN,List.extract];rw[dE];simp
theorem hasP_bts (h:hasP (s.extract p s.size) wide=true):∃ r,bts s p=239::191::189::r:=by
 unfold hasP at h;simp only[c8,decide_eq_true_eq] at h;have e:=congrArg (λb:ByteArray=>b.data.toList) h.2;simp only[vE,vN,List.extract] at e;have e2:(s.extract p s.size).data.toList.take 3=[239,191,189]:=by
  have e3:List.take wide.size (List.take (s.size-p) (List.drop p s.data.toList))=[239,191,189]:=by simpa [wide] using e
  rw[show wide.size=3 from rfl] at e3;simpa using e3
 rw[zbc] at e2;refine⟨(bts s p).drop 3,?_⟩;have:=(dQ 3 (bts s p)).symm;rw[e2] at this;simpa using this
theorem not_lt_bts (h:s.size<=p):bts s p=[]:=by unfold bts;rw[j7];simpa using h
theorem bts_lt {a:UInt8} (h:bts s p=a::r):p<s.size:=by
 rcases dH p s.size with h' | h'
 · exact h'
 rw[not_lt_bts h'] at h;cases h
theorem bts_head {a:UInt8} (h:bts s p=a::r):s.get! p=a/\bts s (p+1)=r:=by
 rw[zbn (bts_lt h)] at h;injection h with h1 h2;exact⟨h1,h2⟩
theorem dec_cases (s:ByteArray) (p:Nat) (h:p<s.size):
 (bts s p=encR (decR s p)++bts s (p+decW s p))\/(decR s p=65533/\decW s p=1/\hasP (s.extract p s.size) wide=false):=by
 by_cases hw:hasP (s.extract p s.size) wide=true
 · left;obtain ⟨r,hr⟩:=hasP_bts hw;obtain ⟨g0,b1⟩:=bts_head hr;obtain ⟨g1,b2⟩:=bts_head b1;obtain ⟨g2,b3⟩:=bts_head b2;have l2:=bts_lt b2;have hd:Utf8.decode s p=(65533,3):=by
    unfold Utf8.decode;simp only[uP,g0,g1,show p+2=p+1+1 from rfl,g2,show p+1<s.size by omega,l2,decide_true,uY];simp[Utf8.valid]
   have e1:decR s p=65533:=(by unfold decR;rw[hd]);have e2:decW s p=3:=(by unfold decW;rw[hd]);rw[e1,e2,hr,show p+3=p+1+1+1 from rfl,b3];rfl
 have hw:hasP (s.extract p s.size) wide=false:=by simpa using hw
 have l0:(s.get! p).toNat<256:=uV _;have l1:(s.get! (p+1)).toNat<256:=uV _;have l2:(s.get! (p+2)).toNat<256:=uV _;have l3:(s.get! (p+3)).toNat<256:=uV _;have c0:=zbn h;unfold decR decW;unfold Utf8.decode;simp only[uP,Utf8.runeError,c8,decide_eq_true_eq,beq_iff_eq];by_cases h1:(s.get! p).toNat<128
 · left;rw[if_pos h1];show _=encR (s.get! p).toNat++_;unfold encR;rw[if_pos (show (s.get! p).toNat<=127 by omega),c0];congr 1;exact zeQ (by omega)
 rw[if_neg h1];by_cases h2:(s.get! p).toNat / 32=6/\p+1<s.size/\(s.get! (p+1)).toNat / 64=2
 · rw[if_pos h2];have c1:=zbn h2.2.1;by_cases h3:(s.get! p).toNat % 32*64+(s.get! (p+1)).toNat % 64>=128
   · left;rw[if_pos h3];show _=encR ((s.get! p).toNat % 32*64+(s.get! (p+1)).toNat % 64)++_;unfold encR;rw[if_neg (by omega),if_pos (by omega),c0,c1];show _=_::_::_;congr 1
     · exact zeQ (by omega)
     congr 1;exact zeQ (by omega)
   right;rw[if_neg h3];exact⟨rfl,rfl,hw⟩
 rw[if_neg h2];by_cases h4:((s.get! p).toNat / 16=14/\p+1<s.size/\(s.get! (p+1)).toNat / 64=2)/\p+2<s.size/\(s.get! (p+2)).toNat / 64=2
 · rw[if_pos h4];have c1:=zbn h4.1.2.1;have c2:=zbn h4.2.1;by_cases h3:(s.get! p).toNat % 16*4096+(s.get! (p+1)).toNat % 64*64+(s.get! (p+2)).toNat % 64>=2048/\Utf8.valid (((s.get! p).toNat % 16*4096+(s.get! (p+1)).toNat % 64*64+(s.get! (p+2)).toNat % 64:Nat):Int)=true
   · left;rw[if_pos h3];show _=encR ((s.get! p).toNat % 16*4096+(s.get! (p+1)).toNat % 64*64+(s.get! (p+2)).toNat % 64)++_;have hv:=h3.2;unfold Utf8.valid at hv;simp only[uG,c8,decide_eq_true_eq] at hv;unfold encR;rw[if_neg (by omega),if_neg (by omega),if_pos (by omega),c0,c1,c2];show _=_::_::_::_;congr 1
     · exact zeQ (by omega)
     congr 1
     · exact zeQ (by omega)
     congr 1;exact zeQ (by omega)
   right;rw[if_neg h3];exact⟨rfl,rfl,hw⟩
 rw[if_neg h4];by_cases h5:(((s.get! p).toNat / 8=30/\p+1<s.size/\(s.get! (p+1)).toNat / 64=2)/\p+2<s.size/\(s.get! (p+2)).toNat / 64=2)/\p+3<s.size/\(s.get! (p+3)).toNat / 64=2
 · rw[if_pos h5];have c1:=zbn h5.1.1.2.1;have c2:=zbn h5.1.2.1;have c3:=zbn h5.2.1;by_cases h3:(s.get! p).toNat % 8*262144+(s.get! (p+1)).toNat % 64*4096+(s.get! (p+2)).toNat % 64*64+(s.get! (p+3)).toNat % 64>=65536/\Utf8.valid (((s.get! p).toNat % 8*262144+(s.get! (p+1)).toNat % 64*4096+(s.get! (p+2)).toNat % 64*64+(s.get! (p+3)).toNat % 64:Nat):Int)=true
   · left;rw[if_pos h3];show _=encR ((s.get! p).toNat % 8*262144+(s.get! (p+1)).toNat % 64*4096+(s.get! (p+2)).toNat % 64*64+(s.get! (p+3)).toNat % 64)++_;have hv:=h3.2;unfold Utf8.valid at hv;simp only[uG,c8,decide_eq_true_eq] at hv;unfold encR;rw[if_neg (by omega),if_neg (by omega),if_neg (by omega),if_pos (by omega),c0,c1,c2,c3];show _=_::_::_::_::_;congr 1
     · exact zeQ (by omega)
     congr 1
     · exact zeQ (by omega)
     congr 1
     · exact zeQ (by omega)
     congr 1;exact zeQ (by omega)
   right;rw[if_neg h3];exact⟨rfl,rfl,hw⟩
 right;rw[if_neg h5];exact⟨rfl,rfl,hw⟩
theorem encR_no {c:Nat} {x:UInt8} (hx:x.toNat<128) (h:x∈encR c):c=x.toNat:=by
 unfold encR at h;split at h
 · simp at h;rw[h];simp;omega
 exfalso;have key:∀ n:Nat,128<=n % 256->x≠UInt8.ofNat n:=λn hn e=>by rw[e] at hx;simp at hx;omega
 split at h
 · simp only[dO,wL,or_false] at h;rcases h with h | h<;>exact key _ (by omega) h
 split at h
 · simp only[dO,wL,or_false] at h;rcases h with h | h | h<;>exact key _ (by omega) h
 split at h
 · simp only[dO,wL,or_false] at h;rcases h with h | h | h | h<;>exact key _ (by omega) h
 simp only[dO,wL,or_false] at h;rcases h with h | h | h<;>(rw[h] at hx;revert hx;decide)
inductive Tok:List UInt8->List UInt8->Prop where
 | esc {c:UInt8}:c=34\/c=92->Tok [92,c] [c]
 | nl:Tok [92,110] [10]
 | hex {b:UInt8}:Tok [92,120,hexB (b.toNat / 16),hexB (b.toNat % 16)] [b]
 | raw {c:Nat}:c<1114112->c≠34->c≠92->c≠10->Tok (encR c) (encR c)
theorem byteAt_get (h:p<s.size):zM s p=(s.get! p).toNat:=by
 unfold zM;congr 1;simp[ByteArray.get!,h];rfl
theorem zcI (h:p<s.size):∃ src,Tok (zdW s p) src/\bts s p=src++bts s (p+decW s p):=by
 have hl:=zcA s p;rcases dec_cases s p h with e | ⟨e1,e2,e3⟩
 · by_cases h1:decR s p=34\/decR s p=92
   · refine⟨encR (decR s p),?_,e⟩;rw[piece_1 h1];rcases h1 with h1 | h1<;>rw[h1]
     · exact .esc (.inl rfl)
     exact .esc (.inr rfl)
   by_cases h2:decR s p=10
   · refine⟨encR (decR s p),?_,e⟩;rw[piece_2 h1 h2,h2];exact .nl
   by_cases h3:decR s p=65533/\hasP (s.extract p s.size) wide=false
   · exfalso;have hr:bts s p=239::191::189::bts s (p+decW s p):=(by rw[e,h3.1];rfl);have:hasP (s.extract p s.size) wide=true:=by
      unfold hasP;have e4:=zbc (s:=s) (p:=p);rw[hr] at e4;have hsz:3<=(s.extract p s.size).size:=by
       have:=congrArg List.length e4;simp only[Array.length_toList,dM] at this;show 3<=(s.extract p s.size).data.size;omega
      have hx:(s.extract p s.size).extract 0 wide.size=wide:=by
       apply vP;apply uQ.1;rw[vE,vN,List.extract,e4];rfl
      rw[hx,show wide.size=3 from rfl,decide_eq_true hsz];simp
     rw[h3.2] at this;cases this
   refine⟨encR (decR s p),?_,e⟩;rw[piece_4 h1 h2 h3];exact .raw hl (λe=>h1 (.inl e)) (λe=>h1 (.inr e)) h2
 refine⟨[s.get! p],?_,?_⟩
 · rw[piece_3 (by rw[e1];decide) (by rw[e1];decide) ⟨e1,e3⟩,byteAt_get h];exact .hex
 rw[e2];exact zbn h
def elen (b:UInt8):Nat:=if b.toNat<192 then 1 else if b.toNat<224 then 2 else if b.toNat<240 then 3 else 4
def olen:List UInt8->Nat
 | []=>0
 | b::r=>if b=92 then(if r.head?=some 120 then 4 else 2) else elen b
theorem encR_head {c:Nat} (hc:c<1114112):∃ b r,encR c=b::r/\(encR c).length=elen b/\(b=92->c=92)/\(b=34->c=34):=by
 have ne:∀ n m:Nat,m<128->128<=n % 256->UInt8.ofNat n≠UInt8.ofNat m:=λn m hm hn e=>by have:=ofNat_eq e;omega
 unfold encR elen;split
 · refine⟨_,_,rfl,?_,?_,?_⟩
   · have:(UInt8.ofNat (c % 256)).toNat<192:=(by simp;omega);rw[if_pos this];rfl
   · intro e;have:=ofNat_eq (b:=92) e;omega
   intro e;have:=ofNat_eq (b:=34) e;omega
 split
 · refine⟨_,_,rfl,?_,?_,?_⟩
   · have h1:¬(UInt8.ofNat (192+c / 64 % 256)).toNat<192:=(by simp;omega);have h2:(UInt8.ofNat (192+c / 64 % 256)).toNat<224:=(by simp;omega);rw[if_neg h1,if_pos h2];rfl
   · intro e;exact absurd e (ne _ 92 (by decide) (by omega))
   intro e;exact absurd e (ne _ 34 (by decide) (by omega))
 split
 · refine⟨_,_,rfl,?_,?_,?_⟩
   · have h1:¬(UInt8.ofNat (224+c / 4096 % 256)).toNat<192:=(by simp;omega);have h2:¬(UInt8.ofNat (224+c / 4096 % 256)).toNat<224:=(by simp;omega);have h3:(UInt8.ofNat (224+c / 4096 % 256)).toNat<240:=(by simp;omega);rw[if_neg h1,if_neg h2,if_pos h3];rfl
   · intro e;exact absurd e (ne _ 92 (by decide) (by omega))
   intro e;exact absurd e (ne _ 34 (by decide) (by omega))
 split
 · refine⟨_,_,rfl,?_,?_,?_⟩
   · have h1:¬(UInt8.ofNat (240+c / 262144 % 256)).toNat<192:=(by simp;omega);have h2:¬(UInt8.ofNat (240+c / 262144 % 256)).toNat<224:=(by simp;omega);have h3:¬(UInt8.ofNat (240+c / 262144 % 256)).toNat<240:=(by simp;omega);rw[if_neg h1,if_neg h2,if_neg h3];rfl
   · intro e;exact absurd e (ne _ 92 (by decide) (by omega))
   intro e;exact absurd e (ne _ 34 (by decide) (by omega))
 refine⟨_,_,rfl,by decide,λe=>absurd e (by decide),λe=>absurd e (by decide)⟩
theorem tok_len {o s:List UInt8} (h:Tok o s) (r:List UInt8):olen (o++r)=o.length:=by
 cases h with
 | esc h=>rcases h with h | h<;>rw[h]<;>rfl
 | nl=>rfl
 | hex=>rfl
 | raw hc _ h92 _=>
  obtain ⟨b,t,e,el,hb,_⟩:=encR_head hc;rw[el,e];show (if b=92 then _ else elen b)=_;rw[if_neg (λe=>h92 (hb e))]
theorem hexB_inj:∀ a:Nat,a<16->∀ b:Nat,b<16->hexB a=hexB b->a=b:=by decide
theorem tok_src {o s t:List UInt8} (h:Tok o s) (h':Tok o t):s=t:=by
 have hh:∀ {c:Nat} {x:UInt8} {l:List UInt8},c<1114112->c≠92->encR c=92::l->False:=λ{c _ l} hc hn e=>by
  obtain ⟨b,t,e',_,hb,_⟩:=encR_head hc;rw[e'] at e;injection e with e _;exact hn (hb e)
 generalize ho:o=o' at h';cases h with
 | esc h=>
  cases h' with
  | esc _=>cases ho;rfl
  | nl=>injection ho with _ ho;injection ho with ho;rw[ho] at h;exact absurd h (by decide)
  | hex=>cases ho
  | raw hc _ h92 _=>exact(hh (x:=0) hc h92 ho.symm).elim
 | nl=>
  cases h' with
  | esc h=>injection ho with _ ho;injection ho with ho;rw[<-ho] at h;exact absurd h (by decide)
  | nl=>rfl
  | hex=>cases ho
  | raw hc _ h92 _=>exact(hh (x:=0) hc h92 ho.symm).elim
 | @hex a=>
  cases h' with
  | esc h=>cases ho
  | nl=>cases ho
  | @hex b=>
   injection ho with _ ho;injection ho with _ ho;injection ho with h1 ho;injection ho with h2 _;have la:=uV a;have lb:=uV b;have e1:=hexB_inj _ (by omega) _ (by omega) h1;have e2:=hexB_inj _ (by omega) _ (by omega) h2;have:a=b:=wQ.1 (by omega);rw[this]
  | raw hc _ h92 _=>exact(hh (x:=0) hc h92 ho.symm).elim
 | raw hc _ h92 _=>
  cases h' with
  | esc h=>exact(hh (x:=0) hc h92 ho).elim
  | nl=>exact(hh (x:=0) hc h92 ho).elim
  | hex=>exact(hh (x:=0) hc h92 ho).elim
  | raw _ _ _ _=>exact ho
theorem tok_no {o s r t:List UInt8} (h:Tok o s):o++r≠34::t:=by
 cases h with
 | esc _=>intro e;injection e with e _;revert e;decide
 | nl=>intro e;injection e with e _;revert e;decide
 | hex=>intro e;injection e with e _;revert e;decide
 | raw hc h34 _ _=>
  obtain ⟨b,u,e,_,_,hb⟩:=encR_head hc;rw[e];intro e';injection e' with e' _;exact h34 (hb e')
theorem tok_inj {o s o' s' r r':List UInt8} (h:Tok o s) (h':Tok o' s') (e:o++r=o'++r'):s=s'/\r=r':=by
 have hl:o.length=o'.length:=by rw[<-tok_len h r,<-tok_len h' r',e]
 obtain ⟨e1,e2⟩:=List.append_inj e hl;subst e1;exact⟨tok_src h h',e2⟩
theorem quote_inj:∀ (n:Nat) (s t:ByteArray) (p q:Nat) (r r':List UInt8),s.size-p=n->zab s p++34::r=zab t q++34::r'->bts s p=bts t q/\r=r':=by
 intro n
 induction n using Nat.strongRecOn with
 | _ n ih=>
  intro s t p q r r' hn e;rcases dH p s.size with h | h<;>rcases dH q t.size with h' | h'
  · obtain ⟨s1,k1,b1⟩:=zcI h;obtain ⟨s2,k2,b2⟩:=zcI h';rw[zaK h,zaK h',cY,cY] at e;obtain ⟨e1,e2⟩:=tok_inj k1 k2 e;have hp:=zL s p;obtain ⟨e3,e4⟩:=ih _ (by omega) s t _ _ r r' rfl e2;rw[b1,b2,e1,e3];exact⟨rfl,e4⟩
  · obtain ⟨s1,k1,_⟩:=zcI h;rw[zaK h,zbf h',cY] at e;exact(tok_no k1 e).elim
  · obtain ⟨s2,k2,_⟩:=zcI h';rw[zbf h,zaK h',cY] at e;exact(tok_no k2 e.symm).elim
  rw[zbf h,zbf h'] at e;injection e with _ e;rw[not_lt_bts h,not_lt_bts h'];exact⟨rfl,e⟩
theorem bts_inj {s t:ByteArray} (h:bts s 0=bts t 0):s=t:=by
 unfold bts at h;simp only[jF] at h;exact vP (uQ.1 h)
theorem quoteB_inj {s t:ByteArray} (h:zaJ s=zaJ t):s=t:=by
 have e:=congrArg (λb:ByteArray=>b.data.toList) h;simp only[zaJ,zaI] at e;injection e with _ e;exact bts_inj (quote_inj _ s t 0 0 [] [] rfl e).1
theorem zfg (s:ByteArray) (p:Nat):(bts s p).length=s.size-p:=by unfold bts;simp
def gb (l:List UInt8) (k:Nat):Nat:=(l.getD k 0).toNat
def zcF (l:List UInt8) (k:Nat):Bool:=decide (k<l.length)&&gb l k / 64==2
def decL (l:List UInt8):Nat×Nat:=
 if gb l 0<128 then(gb l 0,1)
 else if (gb l 0 / 32==6&&zcF l 1)=true then
  if gb l 0 % 32*64+gb l 1 % 64>=128 then(gb l 0 % 32*64+gb l 1 % 64,2) else(65533,1)
 else if (gb l 0 / 16==14&&zcF l 1&&zcF l 2)=true then
  if (decide (gb l 0 % 16*4096+gb l 1 % 64*64+gb l 2 % 64>=2048)&&Utf8.valid ((gb l 0 % 16*4096+gb l 1 % 64*64+gb l 2 % 64:Nat):Int))=true then(gb l 0 % 16*4096+gb l 1 % 64*64+gb l 2 % 64,3) else(65533,1)
 else if (gb l 0 / 8==30&&zcF l 1&&zcF l 2&&zcF l 3)=true then
  if (decide (gb l 0 % 8*262144+gb l 1 % 64*4096+gb l 2 % 64*64+gb l 3 % 64>=65536)&&Utf8.valid ((gb l 0 % 8*262144+gb l 1 % 64*4096+gb l 2 % 64*64+gb l 3 % 64:Nat):Int))=true then(gb l 0 % 8*262144+gb l 1 % 64*4096+gb l 2 % 64*64+gb l 3 % 64,4) else(65533,1)
 else(65533,1)
theorem gb_bts {p k:Nat}:gb (bts s p) k=(s.get! (p+k)).toNat:=by
 unfold gb bts;rw[jI,uC];rcases dH (p+k) s.size with h | h
 · have h':p+k<s.data.toList.length:=(by simpa using h);rw[dX h'];congr 1;simp[ByteArray.get!,h]
 rw[j0 (by simpa using h)];have e2:s.get! (p+k)=default:=by
  show s.data[p+k]! =_;exact getElem!_neg _ _ (by simpa using h)
 rw[e2];rfl
theorem cont_bts {p k:Nat}:zcF (bts s p) k=(decide (p+k<s.size)&&(s.get! (p+k)).toNat / 64==2):=by
 unfold zcF;rw[gb_bts,zfg];congr 1;rw[decide_eq_decide];omega
theorem decode_bts:Utf8.decode s p=decL (bts s p):=by
 unfold Utf8.decode decL;simp only[gb_bts,cont_bts,uP,Utf8.runeError]
theorem zcB:decR s p=(decL (bts s p)).1:=by unfold decR;rw[decode_bts]
theorem zcz:decW s p=(decL (bts s p)).2:=by unfold decW;rw[decode_bts]
theorem bts_mk (l:List UInt8):bts ⟨l.toArray⟩ 0=l:=by unfold bts;simp
theorem zc1 {p k:Nat}:(bts s p).drop k=bts s (p+k):=by unfold bts;rw[List.drop_drop]
theorem zdB (l:List UInt8):1<=(decL l).2:=by have:=zL ⟨l.toArray⟩ 0;rw[zcz,bts_mk] at this;exact this
theorem decL_le (h:l≠[]):(decL l).2<=l.length:=by
 have:=zai ⟨l.toArray⟩ 0 (by
  have:=jE.2 h;show 0<l.toArray.size;simpa using this)
 rw[zcz,bts_mk] at this;have e:ByteArray.size ⟨l.toArray⟩=l.length:=by show l.toArray.size=_;simp
 omega
theorem zeH (h:p<s.size):bts s p≠[]:=by rw[zbn h];simp
theorem zff (h:s.size<=p):bts s p=[]:=not_lt_bts h
def runL (f:Int->Bool) (l:List UInt8):Nat:=if h:l≠[]/\f ((decL l).1:Int)=true then(decL l).2+runL f (l.drop (decL l).2) else 0
termination_by l.length
decreasing_by
 have h1:=zdB l;have h2:=jE.2 h.1;rw[dL];omega
theorem zdL (h:l≠[]) (hf:f ((decL l).1:Int)=true):runL f l=(decL l).2+runL f (l.drop (decL l).2):=by
 conv=>lhs;unfold runL
 rw[dif_pos ⟨h,hf⟩]
theorem zeX (hf:f ((decL l).1:Int)=false):runL f l=0:=by
 unfold runL;rw[dif_neg (by rw[hf];simp)]
theorem zep:runL f []=0:=by unfold runL;rw[dif_neg (by simp)]
theorem runL_le (f:Int->Bool):∀ (n:Nat) (l:List UInt8),l.length=n->runL f l<=l.length:=by
 intro n
 induction n using Nat.strongRecOn with
 | _ n ih=>
  intro l hl;by_cases h:l≠[]/\f ((decL l).1:Int)=true
  · have h1:=zdB l;have h2:=decL_le h.1;have h3:=ih (l.length-(decL l).2) (by omega) (l.drop (decL l).2) dL;rw[dL] at h3;rw[zdL h.1 h.2];omega
  unfold runL;rw[dif_neg h];omega
theorem zbO (f:Int->Bool) (l:List UInt8):runL f l<=l.length:=runL_le f _ l rfl
def inK (ks:List Int) (r:Int):Bool:=ks.any (λk=>decide (k=zJ r))
def idxI (n:Int):Nat->List Int->Int
 | _,[]=> -1
 | k,m::r=>if n=m then(k:Int) else idxI n (k+1) r
def hasI (ns:List Int) (n:Int):Bool:=ns.any (λm=>decide (m=n))
theorem idxI_has (n:Int):∀ (ns:List Int) (k:Nat),decide (0<=idxI n k ns)=hasI ns n
 | [],k=>rfl
 | m::r,k=>by
  unfold idxI hasI;by_cases h:n=m
  · have h0:(0:Int)<=(k:Nat):=(by omega);simp[h,h0]
  have h':¬m=n:=λe=>h e.symm
  have:=idxI_has n r (k+1);unfold hasI at this;rw[if_neg h,this];simp[h']
theorem idxI_at {n m:Int} (hm:ns[k]?=some m) (h:idxI n 0 ns=idxI n k (ns.drop k)) (e:n=m):((k:Nat):Int)=idxI n 0 ns:=by
 rw[h,zbv hm];unfold idxI;rw[if_pos e]
theorem idxI_next {n m:Int} (hm:ns[k]?=some m) (h:idxI n 0 ns=idxI n k (ns.drop k)) (e:¬n=m):idxI n 0 ns=idxI n (k+1) (ns.drop (k+1)):=by
 rw[h,zbv hm];conv=>lhs;unfold idxI
 rw[if_neg e]
theorem idxI_end {n:Int} (hk:ns.length<=k) (h:idxI n 0 ns=idxI n k (ns.drop k)): -1=idxI n 0 ns:=by
 rw[h,j7.2 hk];rfl
abbrev isLD:Int->Bool:=inK [1,2]
abbrev isD:Int->Bool:=inK [2]
abbrev isB:Int->Bool:=inK [3]
abbrev bl8 (s:ByteArray):List UInt8:=s.data.toList
def mkB (l:List UInt8):ByteArray:=⟨l.toArray⟩
theorem zb4 (l:List UInt8):bl8 (mkB l)=l:=by simp[bl8,mkB]
theorem zfL (s:ByteArray):mkB (bl8 s)=s:=vP (uQ.1 (by simp[bl8,mkB]))
theorem zcK {a b:Nat} (h:b<=s.size):s.extract a b=mkB (((bl8 s).take b).drop a):=by
 apply vP;apply uQ.1;simp only[mkB,vE,vN,List.extract,bl8];rw[List.drop_take]
theorem zad (l:List UInt8):(mkB l).size=l.length:=by show l.toArray.size=_;simp
theorem zaj (s:ByteArray):(bl8 s).length=s.size:=by simp[bl8]
structure TokD where
 k:Int
 a:Int
 t:ByteArray
deriving DecidableEq
def TokD.d (x:TokD):D:=.agg [.v (.int .i64 x.k),.v (.int .i64 x.a),.s x.t]
def zbP:TokD:=⟨0,0,ByteArray.empty⟩
def zb8 (l:List UInt8):TokD×Nat:=if zbu (mkB (l.take (runL isLD l)))=true then(⟨1,0,mkB (l.take (runL isLD l))⟩,runL isLD l) else(zbP,0)
def digV (l:List UInt8):Nat:=l.foldl (λn b=>10*n+(b.toNat-48)) 0
def digL (n:Nat):List UInt8:=if h:n<10 then [UInt8.ofNat (48+n)] else digL (n / 10)++[UInt8.ofNat (48+n % 10)]
termination_by n
decreasing_by omega
def digB (n:Nat):ByteArray:=mkB (digL n)
def secB (s:ByteArray):Nat:=if s=⟨#[115]⟩ then 1 else if s=⟨#[109]⟩ then 60 else if s=⟨#[104]⟩ then 3600 else 0
def numT (l:List UInt8):TokD×Nat:=
 if 13<runL isD l\/1000000000000<digV (l.take (runL isD l)) then(zbP,0)
 else if runL isLD l=runL isD l then(⟨2,0,digB (digV (l.take (runL isD l)))⟩,runL isD l)
 else if secB (mkB ((l.take (runL isLD l)).drop (runL isD l)))=0\/1000000000 / secB (mkB ((l.take (runL isLD l)).drop (runL isD l)))<digV (l.take (runL isD l)) then(zbP,0)
 else(⟨4,0,digB (digV (l.take (runL isD l))*secB (mkB ((l.take (runL isLD l)).drop (runL isD l))))⟩,runL isLD l)
def zae (b:Bool) (l:List UInt8):Option Nat:=
 if h:l=[] then none
 else if b=true then(zae false (l.drop (decL l).2)).map (· +(decL l).2)
 else if (decL l).1=92 then(zae true (l.drop (decL l).2)).map (· +(decL l).2)
 else if (decL l).1=34 then some 0
 else(zae false (l.drop (decL l).2)).map (· +(decL l).2)
termination_by l.length
decreasing_by all_goals (have h1:=zdB l;have h2:=jE.2 h;rw[dL];omega)
noncomputable def unqB (s:ByteArray):Option ByteArray:=open Classical in if h:∃ t,zaJ t=s then some h.choose else none
theorem unqB_some {s t:ByteArray} (h:zaJ t=s):unqB s=some t:=by
 unfold unqB;have hx:∃ t,zaJ t=s:=⟨t,h⟩;rw[dif_pos hx];congr 1;exact quoteB_inj (hx.choose_spec.trans h.symm)
theorem unqB_none (h:∀ t,zaJ t≠s):unqB s=none:=by
 unfold unqB;rw[dif_neg];rintro ⟨t,ht⟩;exact h t ht
noncomputable def unqT (s:ByteArray):ByteArray:=(unqB s).getD ByteArray.empty
noncomputable def zeg (s:ByteArray):Bool:=(unqB s).isSome
noncomputable def strT (l:List UInt8):TokD×Nat:=
 match zae true l with
 | none=>(zbP,0)
 | some i=>match unqB (mkB (l.take (i+1))) with
  | none=>(zbP,0)
  | some t=>(⟨3,0,t⟩,i+1)
def zbK:List ByteArray:=[⟨#[61,61]⟩,⟨#[33,61]⟩,⟨#[60,61]⟩,⟨#[62,61]⟩,⟨#[61,126]⟩,⟨#[33,126]⟩,⟨#[43]⟩,⟨#[45]⟩,⟨#[42]⟩,⟨#[47]⟩,⟨#[37]⟩,⟨#[40]⟩,⟨#[41]⟩,⟨#[123]⟩,⟨#[125]⟩,⟨#[91]⟩,⟨#[93]⟩,⟨#[44]⟩,⟨#[61]⟩,⟨#[60]⟩,⟨#[62]⟩]
def zaR:List ByteArray->List UInt8->TokD×Nat
 | [],_=>(zbP,0)
 | x::r,l=>if (bl8 x).isPrefixOf l=true then(⟨5,0,x⟩,x.size) else zaR r l
def zcn (l:List UInt8):TokD×Nat:=zaR zbK l
noncomputable def zt (l:List UInt8):TokD×Nat:=
 if zJ ((decL l).1:Int)=1 then zb8 l else if zJ ((decL l).1:Int)=2 then numT l else if (decL l).1=34 then strT l else zcn l
def TokD.put (x:TokD) (a:Nat):TokD:=⟨x.k,(a:Int),x.t⟩
noncomputable def zby:Nat->List UInt8->Nat->Option (List TokD)
 | 0,l,_=>if l=[] then some [] else none
 | n+1,l,a=>if l=[] then some [] else
  if (zt l).2=0 then none
  else(zby n ((l.drop (zt l).2).drop (runL isB (l.drop (zt l).2))) (a+(zt l).2+runL isB (l.drop (zt l).2))).map (((zt l).1.put a)::·)
noncomputable def zaN (l:List UInt8) (a:Nat):Option (List TokD):=zby l.length (l.drop (runL isB l)) (a+runL isB l)
theorem zbd:zby n [] a=some []:=by cases n<;>simp[zby]
theorem zcG (h:l≠[]) (h0:(zt l).2=0):zby n l a=none:=by cases n<;>simp[zby,h,h0]
theorem wordsF_next (h:l≠[]) (h0:(zt l).2≠0):zby (n+1) l a=(zby n ((l.drop (zt l).2).drop (runL isB (l.drop (zt l).2))) (a+(zt l).2+runL isB (l.drop (zt l).2))).map (((zt l).1.put a)::·):=by
 conv=>lhs;unfold zby
 rw[if_neg h,if_neg h0]
theorem wordsF_more:∀ (n m:Nat) (l:List UInt8) (a:Nat),l.length<=n->l.length<=m->zby n l a=zby m l a:=by
 intro n
 induction n with
 | zero=>
  intro m l a h1 _;have:l=[]:=dJ (by omega);subst this;rw[zbd,zbd]
 | succ n ih=>
  intro m l a h1 h2;by_cases h:l=[]
  · subst h;rw[zbd,zbd]
  have hp:=jE.2 h;obtain ⟨m,rfl⟩:∃ k,m=k+1:=⟨m-1,by omega⟩;by_cases h0:(zt l).2=0
  · rw[zcG h h0,zcG h h0]
  rw[wordsF_next h h0,wordsF_next h h0,ih m _ _ (by simp only[dL];omega) (by simp only[dL];omega)]
theorem wordsL_eq (h:l.length<=n):zaN l a=zby n (l.drop (runL isB l)) (a+runL isB l):=wordsF_more _ _ _ _ (by simp only[dL];omega) (by simp only[dL];omega)
theorem zcO (h:l≠[]) (h0:(zt l).2≠0) (hn:l.length<=n):zby n l a=(zaN (l.drop (zt l).2) (a+(zt l).2)).map (((zt l).1.put a)::·):=by
 have hp:=jE.2 h;obtain ⟨n,rfl⟩:∃ k,n=k+1:=⟨n-1,by omega⟩;rw[wordsF_next h h0,wordsL_eq (n:=n) (by simp only[dL];omega)]
noncomputable def lexL (s:ByteArray):List TokD:=if 600<s.size then [] else(zaN (bl8 s) 0).getD []
noncomputable def lexE (s:ByteArray):Int:=if 600<s.size then 1 else if (zaN (bl8 s) 0).isSome then 0 else 2
end Lp
namespace Lp
open Go Go.RowKit Go.Proofs
variable {l:List UInt8}
theorem cd_ext {P:Program} {f:FuncId} {H:List Hp} {ds:List D} {R:D->List Hp->Prop} (h:∀ w F vs,D.repA w F ds vs->(∀ x∈H,x.ok w F)->Calls P f vs.toArray w (Ret λres w'=>Ext w w'/\∃ r,R r H/\D.rep w' F r res)):CD P f H ds R:=
 ⟨λw F vs hvs hF hH=>(h w F vs hvs hH.ok).mono λe w' he=>by
  obtain ⟨v,rfl,E,r,hR,hr⟩:=he;have k:Keep w F w' F:=⟨λ_ h=>h,λb hb hlt=>E.block b hlt (.inr (c7 _))⟩;refine⟨v,rfl,F,r,H,hR,hr,⟨E.size,E.os,E.tape,E.output,E.drawn,λb hb _=>E.block b hb (.inr (c7 _)),λ_ h=>h,λ_ h=>.inl h,λb hb=>j9 (hF b hb) E.size,⟨hH.apart,λx hx=>?_,λg hg=>⟨.inr hg,(hH.mine g hg).2⟩⟩⟩⟩;have ok:=hH.ok x hx;exact Hp.keep ok k (λg hg=>E.block g (Hp.lt ok hg) (.inr (c7 _)))⟩
theorem tab_of {P:Program} {w:World} {name:String} {g:Nat} {k:IntKind} {zs:List Int} {T:TypeId} {fr:Nat×Nat} (hg:P.globalNamed name=some g) (h:w.heap[g]?=some (.cells (zs.map λz=>Value.int k z).toArray T fr)):Lib.TabIs P w name k zs:=by
 unfold Lib.TabIs World.var?;rw[hg];show (match w.heap[g]? with | some (.cells cs _ _)=>some cs | _=>none)=_;rw[h]
theorem zd3 {w w':World} (h:Below w.heap.size w w'):Ext w w':=⟨h.os,h.tape,h.output,h.size,λk hk _=>h.block k hk,by unfold Dr;trivial⟩
def zes:Array Value:=(Lib.pow10Tab.map λz=>Value.int .u64 z).toArray
abbrev HPow:Hp:=.tab 3 zes
abbrev HErr (ev:Value):Hp:=.tab 2 #[ev]
def EvOk (ev:Value):Prop:=ev=.nilIface\/∃ te pe,ev=.iface te pe
theorem digL_dec:∀ n:Nat,digL n=Lib.decDigits n:=by
 intro n
 induction n using Nat.strongRecOn with
 | _ n ih=>
  unfold digL Lib.decDigits;split
  · rfl
  rw[ih (n / 10) (by omega)]
theorem digL_len:∀ n:Nat,(digL n).length<=n+1:=by
 intro n
 induction n using Nat.strongRecOn with
 | _ n ih=>
  unfold digL;split
  · simp
  rw[cX];have:=ih (n / 10) (by omega);simp only[dM,uO];omega
theorem digB_size (n:Nat):(digB n).size<=n+1:=by unfold digB;rw[zad];exact digL_len n
theorem itoa_c (n:Nat) (hn:n<=1000000000000):CD Tryz.prog 91 [HPow] [dN n] (λr H'=>r=.s (digB n)/\H'=[HPow]):=
 cd_ext λw F vs hvs hok=>by
  obtain ⟨u,us,rfl,hu,hus⟩:=hvs;have hu:u=_:=hu;have hus:us=[]:=hus;subst hu;subst hus;obtain ⟨hF,T,fr,hh⟩:=hok _ c6;refine(Any.strconv_Itoa Tryz.laysM171 (n:Int) (by omega) (by omega) w (tab_of (by kernel_rfl) hh)).mono λe w' he=>?_
  obtain ⟨rfl,k,os,rfl⟩:=he;refine⟨_,rfl,zd3 (below_regrown w (w.drawn+k) os),.s (digB n),⟨rfl,rfl⟩,?_,?_⟩
  · show Value.string _=Value.string _;congr 1;show _=mkB (digL n);unfold mkB Lib.itoa;rw[if_neg (by omega),digL_dec];rfl
  have:=digB_size n;unfold maxLen;omega
def Digs (l:List UInt8):Prop:=∀ b∈l,48<=b.toNat/\b.toNat<=57
theorem parse_no:∀ (l:List UInt8) (acc:Nat),Digs l->(∃ u,Lib.parseUint10 acc l=.ok u)\/Lib.parseUint10 acc l=.range
 | [],acc,_=>.inl ⟨_,rfl⟩
 | c::r,acc,h=>by
  have hc:=h c c6;unfold Lib.parseUint10;rw[if_pos hc];split
  · exact .inr rfl
  split
  · exact .inr rfl
  exact parse_no r _ (λb hb=>h b (dC _ hb))
theorem parse_ok:∀ (l:List UInt8) (acc k:Nat),Digs l->acc<10 ^ k->l.length+k<=13->Lib.parseUint10 acc l=.ok (l.foldl (λn b=>10*n+(b.toNat-48)) acc)/\l.foldl (λn b=>10*n+(b.toNat-48)) acc<10 ^ 13
 | [],acc,k,_,ha,hl=>⟨rfl,j9 ha (wR (by omega) (by simpa using hl))⟩
 | c::r,acc,k,h,ha,hl=>by
  have hc:=h c c6;have hk:10 ^ k<=10 ^ 13:=wR (by omega) (by omega);have h13:(10:Nat) ^ 13=10000000000000:=by decide
  have ih:=parse_ok r (10*acc+(c.toNat-48)) (k+1) (λb hb=>h b (dC _ hb)) (by rw[Nat.pow_succ];omega) (by simp only[dM] at hl;omega);unfold Lib.parseUint10;rw[if_pos hc,if_neg (by omega),if_neg (by omega),wS acc 10];exact ih
theorem atoi_ok (h:Digs l) (hne:l≠[]) (hl:l.length<=13):Lib.atoiAll l=.ok (digV l:Int):=by
 cases l with
 | nil=>exact absurd rfl hne
 | cons c r=>
  have hc:=h c c6;obtain ⟨h1,h2⟩:=parse_ok (c::r) 0 0 h (by decide) (by omega);have h13:(10:Nat) ^ 13=10000000000000:=by decide
  rw[Lib.atoiAll_plain c r (by omega) (by omega)];unfold Lib.parseMag;rw[if_neg (by simp),h1];unfold Lib.signless;simp only[];rw[if_neg (by omega)];rfl
theorem atoi_no (h:Digs l) (hne:l≠[]):(∃ v,Lib.atoiAll l=.ok v)\/Lib.atoiAll l=.range:=by
 cases l with
 | nil=>exact absurd rfl hne
 | cons c r=>
  have hc:=h c c6;have hp:=parse_no (c::r) 0 h;rw[Lib.atoiAll_plain c r (by omega) (by omega)];unfold Lib.parseMag;rw[if_neg (by simp)];unfold Lib.signless;rcases hp with ⟨u,e⟩ | e
  · rw[e];simp only[];split
    · first | exact .inr rfl | exact .inl ⟨_,rfl⟩
    first | exact .inl ⟨_,rfl⟩ | exact .inr rfl
  rw[e];exact .inr rfl
theorem atoi_c (s:ByteArray) (ev:Value) (hev:EvOk ev) (hd:Digs (bl8 s)) (hne:bl8 s≠[]) (hs:s.size<=1000000):CD Tryz.prog 71 [HErr ev] [.s s] (λr H'=>∃ v x,r=.tup [dI v,x]/\H'=[HErr ev]/\(s.size<=13->v=(digV (bl8 s):Int)/\x=.v .nilIface)/\ -9223372036854775808<=v/\v<=9223372036854775807):=
 cd_ext λw F vs hvs hok=>by
  obtain ⟨u,us,rfl,hu,hus⟩:=hvs;obtain ⟨hu,hm⟩:=hu;have hus:us=[]:=hus;subst hu;subst hus;rcases atoi_no hd hne with ⟨v,ha⟩ | ha
  · have hb:=Lib.atoiAll_bounds ha;refine(Any.strconv_Atoi_ok wU s (by omega) v ha w).mono λe w' he=>?_
    obtain ⟨rfl,hw⟩:=he;refine⟨_,rfl,?_,.tup [dI v,.v .nilIface],⟨v,_,rfl,rfl,λh13=>⟨?_,rfl⟩,hb.1,hb.2⟩,⟨_,rfl,_,_,rfl,rfl,_,_,rfl,rfl,rfl⟩⟩
    · rcases hw with rfl | ⟨t,rfl⟩
      · exact wV
      exact zd3 (Joins.below_bytesWorld _ w _ t (dD _))
    have:=atoi_ok hd hne (by rw[zaj];exact h13);rw[this] at ha;injection ha with ha;exact ha.symm
  have hb:=Lib.atoiSat_bounds (bl8 s);obtain ⟨hF,T,fr,hh⟩:=hok _ c6;have hcell:w.cell? ⟨2,0,none⟩=some ev:=by
   unfold World.cell?;rw[hh];rfl
  refine(Any.strconv_Atoi_range wU s (by omega) ha ev w hcell hev).mono λe w' he=>?_
  obtain ⟨N,rfl,_,_,hbel⟩:=he;refine⟨_,rfl,zd3 hbel,.tup [dI (Lib.atoiSat (bl8 s)),.any],⟨_,_,rfl,rfl,λh13=>?_,hb.1,hb.2⟩,⟨_,rfl,_,_,rfl,rfl,_,_,rfl,rfl,rfl⟩⟩;have:=atoi_ok hd hne (by rw[zaj];exact h13);rw[this] at ha;cases ha
end Lp
namespace Lp
open Go
def zQ (v:Int):Bool:=decide (-1000000000000<=v)&&decide (v<=1000000000000)
def cmpOps:List ByteArray:=[⟨#[61,61]⟩,⟨#[33,61]⟩,⟨#[60]⟩,⟨#[60,61]⟩,⟨#[62]⟩,⟨#[62,61]⟩]
def cmpB (op:ByteArray):Bool:=hasN cmpOps op
def zfH (ne:Bool) (a b:Int) (out:Bool) (r:Int):Bool:=
 if r=60 then decide (a<b) else if r=62 then decide (b<a) else if r=61/\ne=true then decide (a≠b) else if r=61 then(out||decide (a=b)) else out
def cmpF (op:ByteArray) (a b:Int):Bool:=(zS op).foldl (zfH (decide (op=⟨#[33,61]⟩)) a b) (decide (op=⟨#[33,61]⟩))
def zcg (v:Int):Int×Int:=if zQ v=true then(v,0) else(0,4)
def zeW (a b:Int):Int×Int:=if a≠0/\b≠0/\(1000000000000:Int).tdiv (max b (-b))<max a (-a) then(0,4) else(a*b,0)
def divE (op:ByteArray) (a b:Int):Int×Int:=if b=0 then(0,5) else if op=⟨#[47]⟩ then(a.tdiv b,0) else(a.tmod b,0)
theorem tdiv_le (a b:Int):(a.tdiv b).natAbs<=a.natAbs:=by rw[Int.natAbs_tdiv];exact Nat.div_le_self _ _
theorem times_bd {a b:Int} (h:a=0\/b=0\/¬(1000000000000:Int).tdiv (max b (-b))<max a (-a)): -1000000000000<=a*b/\a*b<=1000000000000:=by
 rcases Int.lt_or_eq_of_le (vZ b.natAbs) with hb | hb
 · have h2:a.natAbs*b.natAbs<=1000000000000:=by
    rcases h with h | h | h
    · subst h;simp
    · subst h;simp
    have e1:max b (-b)=((b.natAbs:Nat):Int):=(by omega);have e2:max a (-a)=((a.natAbs:Nat):Int):=(by omega);rw[e1,e2,Int.tdiv_eq_ediv_of_nonneg (by omega)] at h;have e3:(1000000000000:Int) / ((b.natAbs:Nat):Int)=((1000000000000 / b.natAbs:Nat):Int):=(wM _ _).symm;rw[e3] at h;exact(vL (by omega)).1 (by omega)
   have e:(a*b).natAbs=a.natAbs*b.natAbs:=Int.natAbs_mul a b;omega
 have hb0:b=0:=by omega
 subst hb0;simp
def doE (op:ByteArray) (a b:Int):Int×Int:=
 if zQ a=false\/zQ b=false then(0,1)
 else if cmpB op=true then(if cmpF op a b=true then 1 else 0,0)
 else if op=⟨#[43]⟩ then zcg (a+b)
 else if op=⟨#[45]⟩ then zcg (a-b)
 else if op=⟨#[42]⟩ then zeW a b
 else if op=⟨#[47]⟩\/op=⟨#[37]⟩ then divE op a b
 else(0,1)
end Lp
