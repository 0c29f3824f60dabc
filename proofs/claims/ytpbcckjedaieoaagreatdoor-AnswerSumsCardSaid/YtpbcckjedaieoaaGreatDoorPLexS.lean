import Derived.Laws.Externs
import Derived.Laws.BytesArg
import Derived.Test.YtpbcckjedaieoaaGreatDoorPLexL
set_option linter.unusedSimpArgs false
set_option linter.unusedVariables false
namespace Lp
open Go
variable {s:ByteArray} {p:Nat} {f:Int->Bool}
theorem run_start:runL f (bl8 s)=0+runL f (bts s 0):=by rw[d6];rfl
theorem run_next (hf:runL f (bl8 s)=p+runL f (bts s p)) (h:p<s.size) (ht:f ((decR s p:Nat):Int)=true):runL f (bl8 s)=(p+decW s p)+runL f (bts s (p+decW s p)):=by
 rw[zcB] at ht;rw[hf,zdL (zeH h) ht,zc1,<-zcz,vO]
theorem run_stop (hf:runL f (bl8 s)=p+runL f (bts s p)) (ht:f ((decR s p:Nat):Int)=false):p=runL f (bl8 s):=by
 rw[zcB] at ht;rw[hf,zeX ht];rfl
theorem run_end (hf:runL f (bl8 s)=p+runL f (bts s p)) (h:s.size<=p) (hp:p<=s.size):s.size=runL f (bl8 s):=by
 rw[hf,zff h,zep];omega
theorem zco (f:Int->Bool) (s:ByteArray):runL f (bl8 s)<=s.size:=by rw[<-zaj];exact zbO f _
theorem hasI_inK (ks:List Int) (r:Int):hasI ks (zJ r)=inK ks r:=rfl
theorem zdz {n:Nat} (h:n<=s.size):s.extract 0 n=mkB ((bl8 s).take n):=by rw[zcK h,jF]
theorem ext_drop:s.extract p s.size=mkB ((bl8 s).drop p):=by
 rw[zcK (dD _),dE (by rw[zaj];omega)]
theorem run_mono {f g:Int->Bool} (h:∀ r,f r=true->g r=true):∀ (n:Nat) (l:List UInt8),l.length=n->runL f l<=runL g l:=by
 intro n
 induction n using Nat.strongRecOn with
 | _ n ih=>
  intro l hl;by_cases hf:l≠[]/\f ((decL l).1:Int)=true
  · have h1:=zdB l;have h2:=jE.2 hf.1;rw[zdL hf.1 hf.2,zdL hf.1 (h _ hf.2)];have:=ih (l.length-(decL l).2) (by omega) _ dL;omega
  have:runL f l=0:=by unfold runL;rw[dif_neg hf]
  omega
theorem nD_le (s:ByteArray):runL (inK [2]) (bl8 s)<=runL (inK [1,2]) (bl8 s):=run_mono (λr hr=>by
 unfold inK at*;simp only[List.any_cons,List.any_nil,vB,decide_eq_true_eq,uG] at*;exact .inr hr) _ _ rfl
theorem wordT_t (h:zbu (s.extract 0 (runL isLD (bl8 s)))=true):zb8 (bl8 s)=(⟨1,0,s.extract 0 (runL isLD (bl8 s))⟩,runL isLD (bl8 s)):=by
 unfold zb8;rw[<-zdz (zco _ s),if_pos h]
theorem wordT_f (h:zbu (s.extract 0 (runL isLD (bl8 s)))=false):zb8 (bl8 s)=(zbP,0):=by
 unfold zb8;rw[<-zdz (zco _ s),if_neg (by rw[h];simp)]
abbrev nD (s:ByteArray):Nat:=runL isD (bl8 s)
abbrev nA (s:ByteArray):Nat:=runL isLD (bl8 s)
abbrev vD (s:ByteArray):Nat:=digV ((bl8 s).take (nD s))
theorem numT_1 (h:13<nD s\/1000000000000<vD s):numT (bl8 s)=(zbP,0):=by unfold numT;rw[if_pos h]
theorem numT_2 (h:¬(13<nD s\/1000000000000<vD s)) (h2:nA s=nD s):numT (bl8 s)=(⟨2,0,digB (vD s)⟩,nD s):=by unfold numT;rw[if_neg h,if_pos h2]
theorem cut_mid (h:nA s<=s.size):mkB (((bl8 s).take (nA s)).drop (nD s))=s.extract (nD s) (nA s):=(zcK h).symm
theorem numT_3 (h:¬(13<nD s\/1000000000000<vD s)) (h2:¬nA s=nD s) (h3:secB (s.extract (nD s) (nA s))=0\/1000000000 / secB (s.extract (nD s) (nA s))<vD s):numT (bl8 s)=(zbP,0):=by
 unfold numT;rw[if_neg h,if_neg h2,cut_mid (zco _ s),if_pos h3]
theorem numT_4 (h:¬(13<nD s\/1000000000000<vD s)) (h2:¬nA s=nD s) (h3:¬(secB (s.extract (nD s) (nA s))=0\/1000000000 / secB (s.extract (nD s) (nA s))<vD s)):numT (bl8 s)=(⟨4,0,digB (vD s*secB (s.extract (nD s) (nA s)))⟩,nA s):=by
 unfold numT;rw[if_neg h,if_neg h2,cut_mid (zco _ s),if_neg h3]
theorem run_digits:∀ (n:Nat) (l:List UInt8),l.length=n->∀ b∈l.take (runL isD l),48<=b.toNat/\b.toNat<=57:=by
 intro n
 induction n using Nat.strongRecOn with
 | _ n ih=>
  intro l hl b hb;by_cases h:l≠[]/\isD ((decL l).1:Int)=true
  · have h2:zJ ((decL l).1:Int)=2:=by
     have h':inK [2] ((decL l).1:Int)=true:=h.2;unfold inK at h';simp only[List.any_cons,List.any_nil,vB,decide_eq_true_eq] at h';exact h'.symm
    have hr:48<=(decL l).1/\(decL l).1<=57:=(by unfold zJ at h2;(repeat (split at h2))<;>omega);cases l with
    | nil=>exact absurd rfl h.1
    | cons c r=>
     have hc:c.toNat=(decL (c::r)).1/\(decL (c::r)).2=1:=by
      have hg:gb (c::r) 0=c.toNat:=rfl;by_cases h1:c.toNat<128
      · unfold decL;rw[hg,if_pos h1];exact⟨rfl,rfl⟩
      exfalso;revert hr;unfold decL;rw[hg,if_neg h1];have l0:c.toNat<256:=uV _
      (repeat (any_goals split))<;>simp_all<;>omega
     rw[zdL h.1 h.2,hc.2,Nat.add_comm,u9,List.drop_one,List.tail_cons] at hb;rcases dO.1 hb with e | e
     · rw[e];omega
     exact ih r.length (by simp only[dM] at hl;omega) r rfl b e
  unfold runL at hb;rw[dif_neg h] at hb;cases hb
theorem vD_le {l:List UInt8} (h:∀ b∈l,48<=b.toNat/\b.toNat<=57) (hl:l.length<=13):digV l<10000000000000:=by
 have key:∀ (l:List UInt8) (acc k:Nat),(∀ b∈l,48<=b.toNat/\b.toNat<=57)->acc<10 ^ k->l.length+k<=13->l.foldl (λn b=>10*n+(b.toNat-48)) acc<10 ^ 13:=by
  intro l
  induction l with
  | nil=>intro acc k _ ha hl;exact j9 ha (wR (by omega) (by simpa using hl))
  | cons c r ih=>
   intro acc k h ha hl;have hc:=h c c6;exact ih _ (k+1) (λb hb=>h b (dC _ hb)) (by show 10*acc+(c.toNat-48)<10 ^ (k+1);rw[Nat.pow_succ];omega) (by simp only[dM] at hl;omega)
 have:=key l 0 0 h (by decide) (by omega);have h13:(10:Nat) ^ 13=10000000000000:=by decide
 unfold digV;omega
theorem secB_cases (s:ByteArray):secB s=0\/secB s=1\/secB s=60\/secB s=3600:=by unfold secB;(repeat (any_goals split))<;>simp
def qInv (s:ByteArray) (p:Nat) (b:Bool):Prop:=zae true (bl8 s)=(zae b (bts s p)).map (· +p)
theorem qInv_zero:qInv s 0 true:=by
 unfold qInv;show _=(zae true (bts s 0)).map (· +0);rw[show bts s 0=bl8 s from rfl];cases zae true (bl8 s)<;>rfl
theorem map_add (o:Option Nat) (a b:Nat):(o.map (· +a)).map (· +b)=o.map (· +(b+a)):=by
 cases o with
 | none=>rfl
 | some x=>show some (x+a+b)=some (x+(b+a));congr 1;omega
theorem zer {b:Bool} {l:List UInt8} (h:l≠[]):zae b l=if b=true then(zae false (l.drop (decL l).2)).map (· +(decL l).2)
 else if (decL l).1=92 then(zae true (l.drop (decL l).2)).map (· +(decL l).2)
 else if (decL l).1=34 then some 0
 else(zae false (l.drop (decL l).2)).map (· +(decL l).2):=by
 conv=>lhs;unfold zae
 rw[dif_neg h]
theorem qInv_skip (hq:qInv s p true) (h:p<s.size):qInv s (p+decW s p) false:=by
 unfold qInv at*;rw[hq,zer (zeH h),if_pos rfl,zc1,<-zcz,map_add]
theorem qInv_esc (hq:qInv s p false) (h:p<s.size) (hr:decR s p=92):qInv s (p+decW s p) true:=by
 unfold qInv at*;rw[zcB] at hr;rw[hq,zer (zeH h),if_neg (by simp),if_pos hr,zc1,<-zcz,map_add]
theorem qInv_next (hq:qInv s p false) (h:p<s.size) (hr:¬decR s p=92) (hr2:¬decR s p=34):qInv s (p+decW s p) false:=by
 unfold qInv at*;rw[zcB] at hr hr2;rw[hq,zer (zeH h),if_neg (by simp),if_neg hr,if_neg hr2,zc1,<-zcz,map_add]
theorem qInv_found (hq:qInv s p false) (h:p<s.size) (hr:decR s p=34):zae true (bl8 s)=some p:=by
 unfold qInv at*;rw[zcB] at hr;rw[hq,zer (zeH h),if_neg (by simp),if_neg (by omega),if_pos hr];show some (0+p)=_;rw[d6]
theorem qInv_none {b:Bool} (hq:qInv s p b) (h:s.size<=p):strT (bl8 s)=(zbP,0):=by
 unfold qInv at hq;have e:zae b []=none:=by unfold zae;rw[dif_pos rfl]
 rw[zff h,e] at hq;unfold strT;rw[hq];rfl
theorem strT_f (hq:zae true (bl8 s)=some p) (h:p<s.size) (hu:zeg (s.extract 0 (p+1))=false):strT (bl8 s)=(zbP,0):=by
 unfold strT;rw[hq];simp only[<-zdz (show p+1<=s.size by omega)];unfold zeg at hu;cases e:unqB (s.extract 0 (p+1)) with
 | none=>rfl
 | some t=>rw[e] at hu;cases hu
theorem strT_t (hq:zae true (bl8 s)=some p) (h:p<s.size) (hu:zeg (s.extract 0 (p+1))=true):strT (bl8 s)=(⟨3,0,unqT (s.extract 0 (p+1))⟩,p+1):=by
 unfold strT;rw[hq];simp only[<-zdz (show p+1<=s.size by omega)];unfold zeg at hu;unfold unqT;cases e:unqB (s.extract 0 (p+1)) with
 | none=>rw[e] at hu;cases hu
 | some t=>rfl
theorem hasP_pre (a b:ByteArray):hasP a b=(bl8 b).isPrefixOf (bl8 a):=by
 rw[wP,vQ];unfold hasP;rw[c8,decide_eq_true_eq,decide_eq_true_eq];constructor
 · rintro ⟨h1,h2⟩;rw[zdz h1] at h2;have:=congrArg bl8 h2;rw[zb4] at this;exact⟨(bl8 a).drop b.size,by rw[<-this,dQ]⟩
 rintro ⟨t,ht⟩;have hl:=congrArg List.length ht;rw[cX,zaj,zaj] at hl;have h1:b.size<=a.size:=by omega
 refine⟨h1,?_⟩;rw[zdz h1,<-ht,wT (zaj b),zfL]
theorem signIn_at {xs:List ByteArray} {k:Nat} {x:ByteArray} (hx:xs[k]?=some x) (h:zaR xs (bl8 s)=zaR (xs.drop k) (bl8 s)) (hp:hasP s x=true):zaR xs (bl8 s)=(⟨5,0,x⟩,x.size):=by
 rw[hasP_pre] at hp;rw[h,zbv hx];unfold zaR;rw[if_pos hp]
theorem signIn_next {xs:List ByteArray} {k:Nat} {x:ByteArray} (hx:xs[k]?=some x) (h:zaR xs (bl8 s)=zaR (xs.drop k) (bl8 s)) (hp:hasP s x=false):zaR xs (bl8 s)=zaR (xs.drop (k+1)) (bl8 s):=by
 rw[hasP_pre] at hp;rw[h,zbv hx];conv=>lhs;unfold zaR
 rw[if_neg (by rw[hp];simp)]
theorem signIn_end {xs:List ByteArray} {k:Nat} (h:zaR xs (bl8 s)=zaR (xs.drop k) (bl8 s)) (hk:xs.length<=k):zaR xs (bl8 s)=(zbP,0):=by
 rw[h,j7.2 hk];rfl
theorem dec0:(decL (bl8 s)).1=decR s 0:=by rw[zcB];rfl
theorem firstT_1 (h:zJ ((decR s 0:Nat):Int)=1):zt (bl8 s)=zb8 (bl8 s):=by unfold zt;rw[dec0,if_pos h]
theorem firstT_2 (h:¬zJ ((decR s 0:Nat):Int)=1) (h2:zJ ((decR s 0:Nat):Int)=2):zt (bl8 s)=numT (bl8 s):=by unfold zt;rw[dec0,if_neg h,if_pos h2]
theorem firstT_3 (h:¬zJ ((decR s 0:Nat):Int)=1) (h2:¬zJ ((decR s 0:Nat):Int)=2) (h3:decR s 0=34):zt (bl8 s)=strT (bl8 s):=by unfold zt;rw[dec0,if_neg h,if_neg h2,if_pos h3]
theorem firstT_4 (h:¬zJ ((decR s 0:Nat):Int)=1) (h2:¬zJ ((decR s 0:Nat):Int)=2) (h3:¬decR s 0=34):zt (bl8 s)=zcn (bl8 s):=by unfold zt;rw[dec0,if_neg h,if_neg h2,if_neg h3]
theorem bl8_ne (h:0<s.size):bl8 s≠[]:=λe=>by
 have:=congrArg List.length e;rw[zaj] at this;simp only[uO] at this;omega
theorem run_digit_pos (h:0<s.size) (h2:zJ ((decR s 0:Nat):Int)=2):1<=nD s:=by
 have hk:isD ((decL (bl8 s)).1:Int)=true:=by
  rw[dec0];show inK [2] _=true;unfold inK;simp[h2]
 unfold nD;rw[zdL (bl8_ne h) hk];have:=zdB (bl8 s);omega
theorem signIn_le:∀ (xs:List ByteArray) (l:List UInt8),(zaR xs l).2<=l.length
 | [],l=>c7 _
 | x::xs,l=>by
  unfold zaR;split
  · rename_i h;rw[vQ] at h;have:=h.length_le;rw[zaj] at this;exact this
  exact signIn_le xs l
theorem strT_le {l:List UInt8}:(strT l).2<=l.length:=by
 have key:∀ (n:Nat) (l:List UInt8) (b:Bool) (i:Nat),l.length=n->zae b l=some i->i<l.length:=by
  intro n
  induction n using Nat.strongRecOn with
  | _ n ih=>
   intro l b i hl h;by_cases hn:l=[]
   · subst hn;unfold zae at h;rw[dif_pos rfl] at h;cases h
   have h1:=zdB l;have h2:=decL_le hn;have k2:∀ (b':Bool),(zae b' (l.drop (decL l).2)).map (· +(decL l).2)=some i->i<l.length:=by
    intro b' h;cases e:zae b' (l.drop (decL l).2) with
    | none=>rw[e] at h;cases h
    | some j=>
     rw[e] at h;injection h with h;have:=ih (l.length-(decL l).2) (by omega) _ b' j dL e;rw[dL] at this;have h:j+(decL l).2=i:=h;omega
   rw[zer hn] at h;split at h
   · exact k2 _ h
   split at h
   · exact k2 _ h
   split at h
   · injection h with h;omega
   exact k2 _ h
 cases e:zae true l with
 | none=>unfold strT;rw[e];exact c7 _
 | some i=>
  have h2:=key _ l true i rfl e;unfold strT;rw[e];show (match unqB (mkB (l.take (i+1))) with | none=>(zbP,0) | some t=>((⟨3,0,t⟩:TokD),i+1)).2<=_;split
  · exact c7 _
  exact h2
theorem firstT_le' {l:List UInt8}:(zt l).2<=l.length:=by
 unfold zt;split
 · unfold zb8;split
   · exact zbO _ _
   exact c7 _
 split
 · unfold numT;split
   · exact c7 _
   split
   · exact zbO _ _
   split
   · exact c7 _
   exact zbO _ _
 split
 · exact strT_le
 exact signIn_le _ _
def WInv (s:ByteArray) (p:Nat) (o:List TokD):Prop:=zaN (bl8 s) 0=(zby s.size (bts s p) p).map (o++·)
theorem WInv.zero:WInv s (runL isB (bl8 s)) []:=by
 unfold WInv;rw[wordsL_eq (n:=s.size) (by rw[zaj];exact dD _),d6];show zby s.size (bts s (runL isB (bl8 s))) _=_;cases zby s.size (bts s (runL isB (bl8 s))) (runL isB (bl8 s))<;>rfl
theorem WInv.next {o:List TokD} (h:WInv s p o) (hp:p<s.size) (h0:¬(zt (bl8 (s.extract p s.size))).2=0):
 WInv s (p+(zt (bl8 (s.extract p s.size))).2+runL isB (bl8 (s.extract (p+(zt (bl8 (s.extract p s.size))).2) s.size))) (o++[(zt (bl8 (s.extract p s.size))).1.put p]):=by
 have e1:bl8 (s.extract p s.size)=bts s p:=zbc;have e2:∀ q,bl8 (s.extract q s.size)=bts s q:=λq=>zbc
 unfold WInv at*;simp only[e2];rw[e1] at h0;rw[h,zcO (zeH hp) h0 (by rw[zfg];omega),zc1,wordsL_eq (n:=s.size) (by rw[zfg];omega),zc1];cases zby s.size (bts s (p+(zt (bts s p)).2+runL isB (bts s (p+(zt (bts s p)).2)))) (p+(zt (bts s p)).2+runL isB (bts s (p+(zt (bts s p)).2)))<;>simp
theorem WInv.done {o:List TokD} (h:WInv s p o) (hp:s.size<=p):zaN (bl8 s) 0=some o:=by
 unfold WInv at h;rw[h,zff hp,zbd];simp
theorem WInv.bad {o:List TokD} (h:WInv s p o) (hp:p<s.size) (h0:(zt (bl8 (s.extract p s.size))).2=0):zaN (bl8 s) 0=none:=by
 unfold WInv at h;rw[show bl8 (s.extract p s.size)=bts s p from zbc] at h0;rw[h,zcG (zeH hp) h0];rfl
theorem lex_long (h:600<s.size):[]=lexL s/\1=lexE s:=by unfold lexL lexE;rw[if_pos h,if_pos h];exact⟨rfl,rfl⟩
theorem lex_bad (h:¬600<s.size) (h2:zaN (bl8 s) 0=none):[]=lexL s/\2=lexE s:=by unfold lexL lexE;rw[if_neg h,if_neg h,h2];exact⟨rfl,rfl⟩
theorem lex_ok {o:List TokD} (h:¬600<s.size) (h2:zaN (bl8 s) 0=some o):o=lexL s/\0=lexE s:=by unfold lexL lexE;rw[if_neg h,if_neg h,h2];exact⟨rfl,rfl⟩
theorem first_run_le (h:p<=s.size):p+(zt (bl8 (s.extract p s.size))).2<=s.size/\(zt (bl8 (s.extract p s.size))).2<=s.size:=by
 have h1:=firstT_le' (l:=bl8 (s.extract p s.size));rw[zaj,dT] at h1;omega
end Lp
namespace Lp
open Go
variable {s:ByteArray} {l:List UInt8} {o:List UInt8} {b:UInt8} {u:UInt8} {n:Nat} {t:List UInt8}
theorem firstT_zero_cases:∀ (l:List UInt8) (a:Nat) (ts:List TokD),l.length=n->zaN l a=some ts->ts.length<=l.length/\∀ x∈ts,(a:Int)<=x.a/\x.a<=((a+l.length:Nat):Int):=by
 induction n using Nat.strongRecOn with
 | _ n ih=>
  intro l a ts hn h;have hrl:=zbO isB l;generalize hm:l.drop (runL isB l)=m at*;have hml:m.length=l.length-runL isB l:=by rw[<-hm,dL]
  unfold zaN at h;rw[hm] at h;by_cases hne:m=[]
  · subst hne;rw[zbd] at h;injection h with h;subst h;exact⟨c7 _,λx hx=>absurd hx (by simp)⟩
  by_cases h0:(zt m).2=0
  · rw[zcG hne h0] at h;cases h
  have hpos:=jE.2 hne;have hfl:=firstT_le (l:=m);rw[zcO hne h0 (by omega)] at h;cases e:zaN (m.drop (zt m).2) (a+runL isB l+(zt m).2) with
  | none=>rw[e] at h;cases h
  | some t2=>
   rw[e] at h;have h:(zt m).1.put (a+runL isB l)::t2=ts:=(by injection h);have:=ih (m.drop (zt m).2).length (by rw[dL];omega) _ _ t2 rfl e;rw[dL] at this;subst h;refine⟨by simp only[dM];omega,λx hx=>?_⟩;rcases dO.1 hx with rfl | hx
   · show (a:Int)<=((a+runL isB l:Nat):Int)/\((a+runL isB l:Nat):Int)<=_;omega
   have:=this.2 x hx;omega
theorem lexE_0 (h:lexE s=0):¬600<s.size/\zaN (bl8 s) 0=some (lexL s):=by
 unfold lexE at h;by_cases hs:600<s.size
 · rw[if_pos hs] at h;omega
 rw[if_neg hs] at h;refine⟨hs,?_⟩;cases e:zaN (bl8 s) 0 with
 | none=>rw[e] at h;simp at h
 | some ts=>unfold lexL;rw[if_neg hs,e];rfl
theorem lex_none (h:¬lexE s=0):lexL s=[]:=by
 unfold lexE at h;unfold lexL;by_cases hs:600<s.size
 · rw[if_pos hs]
 rw[if_neg hs] at h ⊢;cases e:zaN (bl8 s) 0 with
 | none=>rfl
 | some ts=>rw[e] at h;simp at h
theorem lexL_len (s:ByteArray):(lexL s).length<=s.size:=by
 by_cases h:lexE s=0
 · have:=(firstT_zero_cases (bl8 s) 0 _ rfl (lexE_0 h).2).1;rw[zaj] at this;exact this
 rw[lex_none h];exact c7 _
theorem lex_of {ts:List TokD} (h:s.size<=600) (hw:zaN (bl8 s) 0=some ts):lexL s=ts/\lexE s=0:=by
 have h':¬600<s.size:=by omega
 unfold lexL lexE;rw[if_neg h',if_neg h',hw];exact⟨rfl,rfl⟩
theorem bl8_add (a b:ByteArray):bl8 (a++b)=bl8 a++bl8 b:=by simp[bl8]
theorem firstT_w (h:zJ ((decL l).1:Int)=1):zt l=zb8 l:=by unfold zt;rw[if_pos h]
theorem firstT_n (h:zJ ((decL l).1:Int)=2):zt l=numT l:=by unfold zt;rw[if_neg (by omega),if_pos h]
theorem firstT_q (h:¬zJ ((decL l).1:Int)=1) (h2:¬zJ ((decL l).1:Int)=2) (h3:(decL l).1=34):zt l=strT l:=by unfold zt;rw[if_neg h,if_neg h2,if_pos h3]
theorem firstT_s (h:¬zJ ((decL l).1:Int)=1) (h2:¬zJ ((decL l).1:Int)=2) (h3:¬(decL l).1=34):zt l=zcn l:=by unfold zt;rw[if_neg h,if_neg h2,if_neg h3]
theorem digL_step (n:Nat):digL n=(if n / 10=0 then [] else digL (n / 10))++[UInt8.ofNat (48+n % 10)]:=by
 conv=>lhs;unfold digL
 by_cases h:n<10
 · rw[dif_pos h,if_pos (by omega),Nat.mod_eq_of_lt h];rfl
 rw[dif_neg h,if_neg (by omega)]
def digF (a:Nat) (l:List UInt8):Nat:=l.foldl (λn b=>10*n+(b.toNat-48)) a
theorem digV_eq (l:List UInt8):digV l=digF 0 l:=rfl
theorem digF_app (a:Nat) (l r:List UInt8):digF a (l++r)=digF (digF a l) r:=by unfold digF;rw[uZ]
theorem digF_dig:∀ n:Nat,digF 0 (digL n)=n:=by
 intro n
 induction n using Nat.strongRecOn with
 | _ n ih=>
  have hb:∀ k,k<10->(UInt8.ofNat (48+k)).toNat=48+k:=λk hk=>by simp;omega
  unfold digL;by_cases h:n<10
  · rw[dif_pos h];show 10*0+((UInt8.ofNat (48+n)).toNat-48)=n;rw[hb n h];omega
  rw[dif_neg h,digF_app,ih (n / 10) (by omega)];show 10*(n / 10)+((UInt8.ofNat (48+n % 10)).toNat-48)=n;rw[hb _ (by omega)];omega
theorem digF_zeros:∀ k:Nat,digF 0 (List.replicate k 48)=0
 | 0=>rfl
 | k+1=>by rw[vT];exact digF_zeros k
def DigsL (l:List UInt8):Prop:=∀ b∈l,48<=b.toNat/\b.toNat<=57
theorem digs_dig:∀ n:Nat,DigsL (digL n):=by
 intro n
 induction n using Nat.strongRecOn with
 | _ n ih=>
  have hb:∀ k,k<10->(UInt8.ofNat (48+k)).toNat=48+k:=λk hk=>by simp;omega
  intro b hb';unfold digL at hb';by_cases h:n<10
  · rw[dif_pos h] at hb';rw[dW.1 hb',hb n h];omega
  rw[dif_neg h] at hb';rcases jK.1 hb' with h2 | h2
  · exact ih (n / 10) (by omega) b h2
  rw[dW.1 h2,hb _ (by omega)];omega
theorem digL_pos (n:Nat):1<=(digL n).length:=by rw[digL_step,cX];simp
def numD (k v:Nat):List UInt8:=List.replicate k 48++digL v
theorem zdg (k v:Nat):DigsL (numD k v):=λb hb=>by
 rcases jK.1 hb with h | h
 · rw[List.eq_of_mem_replicate h];decide
 exact digs_dig v b h
theorem numD_val (k v:Nat):digF 0 (numD k v)=v:=by unfold numD;rw[digF_app,digF_zeros,digF_dig]
theorem numD_ne (k v:Nat):numD k v≠[]:=λe=>by
 have:=congrArg List.length e;unfold numD at this;rw[cX] at this;have h2:=digL_pos v;simp only[uO] at this;omega
theorem dig_kind (hb:48<=b.toNat/\b.toNat<=57) (t:List UInt8):zJ ((decL (b::t)).1:Int)=2/\(decL (b::t)).2=1:=by
 rw[zaL (by omega)];refine⟨?_,rfl⟩;show zJ ((b.toNat:Nat):Int)=2;unfold zJ;(repeat (any_goals split))<;>omega
theorem zeo {f:Int->Bool} (hf:∀ r:Int,zJ r=2->f r=true):∀ (l:List UInt8) (x:List UInt8),DigsL l->runL f (l++x)=l.length+runL f x
 | [],x,_=>by simp
 | b::t,x,h=>by
  obtain ⟨h1,h2⟩:=dig_kind (h b c6) (t++x);rw[jJ,zdL (by simp) (hf _ h1),h2];show 1+runL f (t++x)=_;rw[zeo hf t x (λc hc=>h c (dC _ hc)),dM];omega
theorem isD_2:∀ r:Int,zJ r=2->isD r=true:=λr h=>by show inK [2] r=true;unfold inK;simp[h]
theorem isLD_2:∀ r:Int,zJ r=2->isLD r=true:=λr h=>by show inK [1,2] r=true;unfold inK;simp[h]
theorem isB_2 {r:Int} (h:zJ r=2):isB r=false:=by show inK [3] r=false;unfold inK;simp[h]
theorem num_first (h:DigsL l) (hne:l≠[]) (u:List UInt8):zt (l++u)=numT (l++u)/\runL isB (l++u)=0:=by
 cases l with
 | nil=>exact absurd rfl hne
 | cons b t=>
  obtain ⟨h1,_⟩:=dig_kind (h b c6) (t++u);exact⟨firstT_n h1,zeX (isB_2 h1)⟩
theorem digL_lt:∀ (k n:Nat),n<10 ^ (k+1)->(digL n).length<=k+1
 | 0,n,h=>by
  have h:n<10:=by simpa using h
  rw[digL_step,if_pos (by omega)];simp
 | k+1,n,h=>by
  rw[digL_step];split
  · simp
  have:=digL_lt k (n / 10) (by rw[Nat.pow_succ] at h;omega);rw[cX,dA];omega
theorem digB_20 (h:n<=9223372036854775807):(digB n).size<=20:=by
 unfold digB;rw[zad];exact digL_lt 19 n (wA h (by decide))
def hexI (u:Nat):Int:=firstIdx hexd u.toUInt8
theorem hexI_bd:∀ u:Nat,u<256-> -1<=hexI u/\hexI u<=15:=by decide+kernel
theorem hexI_hexB:∀ a:Nat,a<16->hexI (hexB a).toNat=(a:Int):=by decide+kernel
def escN (s:ByteArray):Nat:=
 if s.size=0 then 0 else if zM s 0=34\/zM s 0=92 then 1 else if zM s 0=110 then 1
 else if zM s 0=120/\3<=s.size/\0<=hexI (zM s 1)/\0<=hexI (zM s 2) then 3 else 0
def escT (s:ByteArray):ByteArray:=
 if s.size=0 then ByteArray.empty else if zM s 0=34\/zM s 0=92 then s.extract 0 1 else if zM s 0=110 then⟨#[10]⟩
 else if zM s 0=120/\3<=s.size/\0<=hexI (zM s 1)/\0<=hexI (zM s 2) then mkB [UInt8.ofNat ((hexI (zM s 1)).toNat*16+(hexI (zM s 2)).toNat)] else ByteArray.empty
theorem escT_size (s:ByteArray):(escT s).size<=1/\(escN s≠0->(escT s).size=1)/\escN s<=s.size:=by
 unfold escT escN;by_cases h0:s.size=0
 · rw[if_pos h0,if_pos h0];exact⟨by decide,λh=>absurd rfl h,c7 _⟩
 rw[if_neg h0,if_neg h0];by_cases h1:zM s 0=34\/zM s 0=92
 · rw[if_pos h1,if_pos h1];have:(s.extract 0 1).size=1:=(by rw[dT];omega);exact⟨by omega,λ_=>this,by omega⟩
 rw[if_neg h1,if_neg h1];by_cases h2:zM s 0=110
 · rw[if_pos h2,if_pos h2];exact⟨by decide,λ_=>by decide,by omega⟩
 rw[if_neg h2,if_neg h2];by_cases h3:zM s 0=120/\3<=s.size/\0<=hexI (zM s 1)/\0<=hexI (zM s 2)
 · rw[if_pos h3,if_pos h3];exact⟨by rw[zad];simp,λ_=>by rw[zad];rfl,h3.2.1⟩
 rw[if_neg h3,if_neg h3];exact⟨by decide,λh=>absurd rfl h,c7 _⟩
def unL:Nat->List UInt8->Option (List UInt8)
 | _,[]=>some []
 | 0,_::_=>none
 | n+1,b::r=>if b≠92 then(unL n r).map (b::·) else if escN (mkB r)=0 then none else(unL n (r.drop (escN (mkB r)))).map (bl8 (escT (mkB r))++·)
theorem zdQ {r:List UInt8}:unL (n+1) (b::r)=if b≠92 then(unL n r).map (b::·) else if escN (mkB r)=0 then none else(unL n (r.drop (escN (mkB r)))).map (bl8 (escT (mkB r))++·):=by
 conv=>lhs;unfold unL
theorem unL_more:∀ (n m:Nat) (l:List UInt8),l.length<=n->l.length<=m->unL n l=unL m l:=by
 intro n
 induction n with
 | zero=>
  intro m l h1 _;have:l=[]:=dJ (by omega);subst this;cases m<;>rfl
 | succ n ih=>
  intro m l h1 h2;cases l with
  | nil=>cases m<;>rfl
  | cons b r=>
   simp only[dM] at h1 h2;obtain ⟨m,rfl⟩:∃ k,m=k+1:=⟨m-1,by omega⟩;unfold unL;rw[ih m r (by omega) (by omega),ih m (r.drop (escN (mkB r))) (by rw[dL];omega) (by rw[dL];omega)]
def unB (s:ByteArray):Option (List UInt8):=unL s.size (bl8 s)
theorem unB_eq (h:s.size<=n):unB s=unL n (bl8 s):=unL_more _ _ _ (by rw[zaj];omega) (by rw[zaj];exact h)
theorem unB_nil (h:s.size=0):unB s=some []:=by
 unfold unB;have:bl8 s=[]:=dJ (by rw[zaj];exact h);rw[this];cases s.size<;>rfl
theorem bl8_cons (h:s[0]?=some u):bl8 s=u::bl8 (s.extract 1 s.size):=by
 have h0:0<s.size:=by
  rcases uK s.size with e | e
  · have:s[0]?=none:=(by simp[e]);rw[this] at h;cases h
  exact e
 have h1:=zbn h0;have e:s.get! 0=u:=by
  have:s[0]?=some (s.get! 0):=by simp[ByteArray.get!,h0];rfl
  rw[this] at h;injection h
 rw[e] at h1;show bl8 s=u::bl8 (s.extract 1 s.size);have e2:bl8 (s.extract 1 s.size)=bts s 1:=zbc;rw[e2];exact h1
theorem unB_raw (h:s[0]?=some u) (h2:¬u=92):unB s=(unB (s.extract 1 s.size)).map ([u]++·):=by
 have hc:=bl8_cons h;have hz:(s.extract 1 s.size).size+1=s.size:=by have:=congrArg List.length hc;simp only[dM,zaj] at this;omega
 rw[unB_eq (s:=s) (n:=(s.extract 1 s.size).size+1) (by omega),hc];rw[zdQ,if_pos h2];rfl
theorem unB_esc (h:s[0]?=some 92) (h2:¬escN (s.extract 1 s.size)=0):unB s=(unB (s.extract (1+escN (s.extract 1 s.size)) s.size)).map (bl8 (escT (s.extract 1 s.size))++·):=by
 have hc:=bl8_cons h;have hz:(s.extract 1 s.size).size+1=s.size:=by have:=congrArg List.length hc;simp only[dM,zaj] at this;omega
 rw[unB_eq (s:=s) (n:=(s.extract 1 s.size).size+1) (by omega),hc];rw[zdQ,if_neg (by simp),zfL,if_neg h2];have e:(bl8 (s.extract 1 s.size)).drop (escN (s.extract 1 s.size))=bl8 (s.extract (1+escN (s.extract 1 s.size)) s.size):=by
  rw[show bl8 (s.extract 1 s.size)=bts s 1 from zbc,zc1];exact zbc.symm
 rw[e,unB_eq (s:=s.extract (1+escN (s.extract 1 s.size)) s.size) (n:=(s.extract 1 s.size).size) (by simp only[dT];omega)]
theorem unB_none (h:s[0]?=some 92) (h2:escN (s.extract 1 s.size)=0):unB s=none:=by
 have hc:=bl8_cons h;have hz:(s.extract 1 s.size).size+1=s.size:=by have:=congrArg List.length hc;simp only[dM,zaj] at this;omega
 rw[unB_eq (s:=s) (n:=(s.extract 1 s.size).size+1) (by omega),hc];rw[zdQ,if_neg (by simp),zfL,if_pos h2]
theorem unL_raws {n:Nat} {r:List UInt8}:∀ (l:List UInt8),(∀ b∈l,b≠92)->unL (l.length+n) (l++r)=(unL n r).map (l++·)
 | [],_=>by simp
 | b::l,h=>by
  have ih:=unL_raws (n:=n) (r:=r) l (λc hc=>h c (dC _ hc));rw[show (b::l).length+n=(l.length+n)+1 by simp only[dM];omega,jJ,zdQ,if_pos (h b c6),ih];cases unL n r<;>simp
theorem byteAt_mk {k:Nat} (h:l[k]?=some b):zM (mkB l) k=b.toNat:=by
 have hz:k<(mkB l).size:=by rw[zad];exact get_lt h
 rw[byteAt_get hz];have h1:=zbn hz;have e:bts (mkB l) k=l.drop k:=by unfold bts;rw[show (mkB l).data.toList=l from zb4 l]
 rw[e,zbv h] at h1;injection h1 with h1 _;rw[<-h1]
theorem tok_un {o src:List UInt8} (h:Tok o src) (n:Nat) (r:List UInt8) (hn:r.length<=n):unL (o.length+n) (o++r)=(unL n r).map (src++·):=by
 have esc1:∀ (c:UInt8) (s1:List UInt8) (m:Nat),escN (mkB (c::r))=1->bl8 (escT (mkB (c::r)))=s1->unL (2+n) (92::c::r)=(unL n r).map (s1++·):=by
  intro c s1 m h1 h2;rw[show 2+n=(1+n)+1 by omega,zdQ,if_neg (by simp),if_neg (by rw[h1];decide),h1,h2];show (unL (1+n) r).map _=_;rw[unL_more (1+n) n r (by omega) hn]
 have b0:∀ c:UInt8,zM (mkB (c::r)) 0=c.toNat:=λc=>byteAt_mk rfl
 have sz:∀ c:UInt8,¬(mkB (c::r)).size=0:=λc=>by rw[zad];simp
 cases h with
 | esc hc=>
  rename_i c;have e1:zM (mkB (c::r)) 0=34\/zM (mkB (c::r)) 0=92:=by rw[b0];rcases hc with rfl | rfl<;>decide
  refine esc1 c [c] 0 (by unfold escN;rw[if_neg (sz c),if_pos e1]) ?_;unfold escT;rw[if_neg (sz c),if_pos e1,zcK (by rw[zad];simp),zb4,zb4];rfl
 | nl=>
  have e1:zM (mkB (110::r)) 0=110:=by rw[b0];decide
  refine esc1 110 [10] 0 ?_ ?_
  · unfold escN;rw[if_neg (sz 110),if_neg (by rw[e1];decide),if_pos e1]
  unfold escT;rw[if_neg (sz 110),if_neg (by rw[e1];decide),if_pos e1]
 | hex=>
  rename_i b;have hb:b.toNat<256:=uV _;have e1:zM (mkB (120::hexB (b.toNat / 16)::hexB (b.toNat % 16)::r)) 0=120:=by rw[byteAt_mk (b:=120) rfl];decide
  have e2:zM (mkB (120::hexB (b.toNat / 16)::hexB (b.toNat % 16)::r)) 1=(hexB (b.toNat / 16)).toNat:=byteAt_mk rfl;have e3:zM (mkB (120::hexB (b.toNat / 16)::hexB (b.toNat % 16)::r)) 2=(hexB (b.toNat % 16)).toNat:=byteAt_mk rfl;have h1:=hexI_hexB (b.toNat / 16) (by omega);have h2:=hexI_hexB (b.toNat % 16) (by omega);have hz:¬(mkB (120::hexB (b.toNat / 16)::hexB (b.toNat % 16)::r)).size=0:=by rw[zad];simp
  have hh:zM (mkB (120::hexB (b.toNat / 16)::hexB (b.toNat % 16)::r)) 0=120/\3<=(mkB (120::hexB (b.toNat / 16)::hexB (b.toNat % 16)::r)).size/\0<=hexI (zM (mkB (120::hexB (b.toNat / 16)::hexB (b.toNat % 16)::r)) 1)/\0<=hexI (zM (mkB (120::hexB (b.toNat / 16)::hexB (b.toNat % 16)::r)) 2):=by
   refine⟨e1,by rw[zad];simp only[dM];omega,?_,?_⟩
   · rw[e2,h1];exact vZ _
   rw[e3,h2];exact vZ _
  have hN:escN (mkB (120::hexB (b.toNat / 16)::hexB (b.toNat % 16)::r))=3:=by
   unfold escN;rw[if_neg hz,if_neg (by rw[e1];decide),if_neg (by rw[e1];decide),if_pos hh]
  have hT:bl8 (escT (mkB (120::hexB (b.toNat / 16)::hexB (b.toNat % 16)::r)))=[b]:=by
   unfold escT;rw[if_neg hz,if_neg (by rw[e1];decide),if_neg (by rw[e1];decide),if_pos hh,zb4,e2,e3,h1,h2];congr 1;have:((b.toNat / 16:Nat):Int).toNat*16+((b.toNat % 16:Nat):Int).toNat=b.toNat:=(by omega);rw[this];simp
  show unL (4+n) (92::120::hexB (b.toNat / 16)::hexB (b.toNat % 16)::r)=_;rw[show 4+n=(3+n)+1 by omega,zdQ,if_neg (by simp),if_neg (by rw[hN];decide),hN,hT];show (unL (3+n) r).map _=_;rw[unL_more (3+n) n r (by omega) hn]
 | raw hc h1 h2 h3=>
  rename_i c;refine unL_raws _ (λb hb e=>?_);subst e;exact h2 (encR_no (by decide) hb)
theorem quote_un (t:ByteArray):∀ (n p:Nat),t.size-p=n->∀ (m:Nat) (r:List UInt8),r.length<=m->unL ((zab t p).length+m) (zab t p++r)=(unL m r).map (bts t p++·):=by
 intro n
 induction n using Nat.strongRecOn with
 | _ n ih=>
  intro p hp m r hr;rcases dH p t.size with h | h
  · obtain ⟨src,htok,hb⟩:=zcI h;have hw:=zL t p;have i:=ih (t.size-(p+decW t p)) (by omega) (p+decW t p) rfl m r hr;rw[zaK h,cX,cY,vO,tok_un htok _ _ (by rw[cX];omega),i,hb];cases unL m r<;>simp
  rw[zbf h,zff h];simp
def zcQ (s:ByteArray):ByteArray:=if hasP s ⟨#[34]⟩=true then s.extract 1 s.size else s
def zdR (s:ByteArray):ByteArray:=if 1<=s.size/\s.extract (s.size-1) s.size=⟨#[34]⟩ then s.extract 0 (s.size-1) else s
theorem quoteB_trim (t:ByteArray):bl8 (zcQ (zaJ t))=zab t 0++[34]:=by
 have hl:bl8 (zaJ t)=34::(zab t 0++[34]):=by show (zaI t).toArray.toList=_;unfold zaI;simp
 have hp:hasP (zaJ t) ⟨#[34]⟩=true:=by rw[hasP_pre,hl];rfl
 unfold zcQ;rw[if_pos hp,ext_drop,zb4,hl];rfl
theorem quote_out {t:ByteArray}:unB (zcQ (zaJ t))=some (bl8 t++[34]):=by
 have h:=quoteB_trim t;have hz:(zcQ (zaJ t)).size=(zab t 0).length+1:=by rw[<-zaj,h,cX];rfl
 unfold unB;rw[hz,h,quote_un t _ 0 rfl 1 [34] (by simp)];show (unL 1 [34]).map _=_;rfl
theorem trimS_out (t:ByteArray):zdR ⟨(bl8 t++[34]).toArray⟩=t:=by
 have hz:(mkB (bl8 t++[34])).size=t.size+1:=by rw[zad,cX,zaj];rfl
 show zdR (mkB (bl8 t++[34]))=t;unfold zdR;rw[hz,zcK (by rw[hz];omega),zcK (by rw[hz];omega),zb4];have e1:((bl8 t++[34]).take (t.size+1)).drop (t.size+1-1)=[34]:=by
  rw[dE (by rw[cX,zaj];simp)];exact List.drop_left' (by rw[zaj];omega)
 have e2:((bl8 t++[34]).take (t.size+1-1)).drop 0=bl8 t:=by
  rw[jF];exact wT (by rw[zaj];omega)
 rw[e1,e2,if_pos ⟨by omega,rfl⟩,zfL]
theorem ne_size (h:¬s=ByteArray.empty):0<s.size:=by
 rcases uK s.size with e | e
 · exact absurd (vP (uQ.1 (dJ (by simpa using e)))) h
 exact e
theorem esc_0 (h:s=ByteArray.empty):ByteArray.empty=escT s/\0=escN s:=by subst h;exact⟨rfl,rfl⟩
theorem esc_1 (hz:0<s.size) (h:zM s 0=34\/zM s 0=92):s.extract 0 1=escT s/\1=escN s:=by
 unfold escT escN;rw[if_neg (by omega),if_pos h,if_neg (by omega),if_pos h];exact⟨rfl,rfl⟩
theorem esc_2 (hz:0<s.size) (h1:¬(zM s 0=34\/zM s 0=92)) (h:zM s 0=110):(⟨#[10]⟩:ByteArray)=escT s/\1=escN s:=by
 unfold escT escN;rw[if_neg (by omega),if_neg h1,if_pos h,if_neg (by omega),if_neg h1,if_pos h];exact⟨rfl,rfl⟩
theorem esc_3 {a b:Nat} (hz:0<s.size) (h1:¬(zM s 0=34\/zM s 0=92)) (h2:¬zM s 0=110) (h:zM s 0=120/\3<=s.size) (ha:hexI (zM s 1)=(a:Int)) (hb:hexI (zM s 2)=(b:Int)):mkB [UInt8.ofNat (a*16+b)]=escT s/\3=escN s:=by
 have hh:zM s 0=120/\3<=s.size/\0<=hexI (zM s 1)/\0<=hexI (zM s 2):=⟨h.1,h.2,by omega,by omega⟩;unfold escT escN;rw[if_neg (by omega),if_neg h1,if_neg h2,if_pos hh,if_neg (by omega),if_neg h1,if_neg h2,if_pos hh,ha,hb];exact⟨rfl,rfl⟩
theorem esc_4 (hz:0<s.size) (h1:¬(zM s 0=34\/zM s 0=92)) (h2:¬zM s 0=110) (h:¬(zM s 0=120/\3<=s.size/\0<=hexI (zM s 1)/\0<=hexI (zM s 2))):ByteArray.empty=escT s/\0=escN s:=by
 unfold escT escN;rw[if_neg (by omega),if_neg h1,if_neg h2,if_neg h,if_neg (by omega),if_neg h1,if_neg h2,if_neg h];exact⟨rfl,rfl⟩
theorem nums_one (h:n<256):strOfNums [((n:Nat):Int)]=mkB [UInt8.ofNat n]:=by rfl
def UInv (s r:ByteArray) (o:List UInt8):Prop:=unB s=(unB r).map (o++·)
theorem UInv.zero (s:ByteArray):UInv s s []:=by unfold UInv;cases unB s<;>rfl
theorem UInv.raw {s r:ByteArray} (h:UInv s r o) (hu:r[0]?=some u) (h2:¬u=92):UInv s (r.extract 1 r.size) (o++[u]):=by
 unfold UInv at*;rw[h,unB_raw hu h2];cases unB (r.extract 1 r.size)<;>simp
theorem UInv.esc {s r:ByteArray} (h:UInv s r o) (hu:r[0]?=some 92) (h2:¬escN (r.extract 1 r.size)=0):UInv s (r.extract (1+escN (r.extract 1 r.size)) r.size) (o++(escT (r.extract 1 r.size)).data.toList):=by
 unfold UInv at*;rw[h,unB_esc hu h2];cases unB (r.extract (1+escN (r.extract 1 r.size)) r.size)<;>simp
theorem UInv.none {s r:ByteArray} (h:UInv s r o) (hu:r[0]?=some 92) (h2:escN (r.extract 1 r.size)=0):unB s=none:=by
 unfold UInv at*;rw[h,unB_none hu h2];rfl
theorem UInv.done {s r:ByteArray} (h:UInv s r o) (hr:r=ByteArray.empty):unB s=some o:=by
 unfold UInv at*;rw[h,hr,unB_nil rfl];simp
theorem u8_92 (h:((u.toNat:Nat):Int)=92):u=92:=wQ.1 (by show u.toNat=92;omega)
theorem u8_ne92 (h:¬((u.toNat:Nat):Int)=92):¬u=92:=by rintro rfl;exact h rfl
theorem trimP_size (s:ByteArray):s.size<=(zcQ s).size+1/\(zcQ s).size<=s.size:=by
 unfold zcQ;split
 · rw[dT];omega
 omega
theorem trimS_size (s:ByteArray):(zdR s).size<=s.size:=by
 unfold zdR;split
 · rw[dT];omega
 omega
theorem unq_t (h:zaJ (zdR ⟨o.toArray⟩)=s):zdR ⟨o.toArray⟩=unqT s/\true=zeg s:=by
 have:=unqB_some h;unfold unqT zeg;rw[this];exact⟨rfl,rfl⟩
theorem unq_f (hu:unB (zcQ s)=some o) (h:¬zaJ (zdR ⟨o.toArray⟩)=s):ByteArray.empty=unqT s/\false=zeg s:=by
 have:unqB s=none:=unqB_none λt ht=>by
  rw[<-ht,quote_out] at hu;injection hu with hu;rw[<-hu,trimS_out] at h;exact h ht
 unfold unqT zeg;rw[this];exact⟨rfl,rfl⟩
theorem unq_n (hu:unB (zcQ s)=none):ByteArray.empty=unqT s/\false=zeg s:=by
 have:unqB s=none:=unqB_none λt ht=>by
  rw[<-ht,quote_out] at hu;cases hu
 unfold unqT zeg;rw[this];exact⟨rfl,rfl⟩
theorem on8 (h:n<256):(UInt8.ofNat n).toNat=n:=by simp;omega
theorem gb0 {a:UInt8}:gb (a::l) 0=a.toNat:=rfl
theorem gb1 {a b:UInt8}:gb (a::b::l) 1=b.toNat:=rfl
theorem gb2 {a b c:UInt8}:gb (a::b::c::l) 2=c.toNat:=rfl
theorem gb3 {a b c d:UInt8}:gb (a::b::c::d::l) 3=d.toNat:=rfl
theorem ct {k:Nat} (h:k<l.length) (h2:gb l k / 64=2):zcF l k=true:=by unfold zcF;rw[decide_eq_true h,h2];rfl
theorem dec_encS (c:Nat) (x:List UInt8) (hc:c<1114112):(decL (encR c++x)).2=(encR c).length/\(decL (encR c++x)).1=(if 55296<=c/\c<=57343 then 65533 else c):=by
 unfold encR;split
 · have e:(UInt8.ofNat (c % 256)).toNat=c:=(by rw[on8 (by omega)];omega);rw[jJ,zaL (by omega),e];exact⟨rfl,(if_neg (by omega)).symm⟩
 split
 · generalize ha:UInt8.ofNat (192+c / 64 % 256)=a;generalize hb:UInt8.ofNat (128+c % 256 % 64)=b;have a1:a.toNat=192+c / 64:=(by rw[<-ha,on8 (by omega)];omega);have b1:b.toNat=128+c % 64:=(by rw[<-hb,on8 (by omega)];omega);show (decL (a::b::x)).2=2/\_;have c1:zcF (a::b::x) 1=true:=ct (by simp) (by rw[gb1,b1];omega);have e:decL (a::b::x)=(c,2):=by
    unfold decL;rw[c1,gb0,gb1,a1,b1,if_neg (by omega),if_pos (by simp;omega),if_pos (by omega)];congr 1;omega
   show (decL (a::b::x)).2=2/\(decL (a::b::x)).1=_;rw[e];exact⟨rfl,(if_neg (by omega)).symm⟩
 split
 · rename_i h1 h2 h3;generalize ha:UInt8.ofNat (224+c / 4096 % 256)=a;generalize hb:UInt8.ofNat (128+c / 64 % 256 % 64)=b;generalize hd:UInt8.ofNat (128+c % 256 % 64)=d;have a1:a.toNat=224+c / 4096:=(by rw[<-ha,on8 (by omega)];omega);have b1:b.toNat=128+c / 64 % 64:=(by rw[<-hb,on8 (by omega)];omega);have d1:d.toNat=128+c % 64:=(by rw[<-hd,on8 (by omega)];omega);have c1:zcF (a::b::d::x) 1=true:=ct (by simp) (by rw[gb1,b1];omega);have c2:zcF (a::b::d::x) 2=true:=ct (by simp) (by rw[gb2,d1];omega);have e:decL (a::b::d::x)=(c,3):=by
    unfold decL;have en:(224+c / 4096) % 16*4096+(128+c / 64 % 64) % 64*64+(128+c % 64) % 64=c:=(by omega);rw[c1,c2,gb0,gb1,gb2,a1,b1,d1,en,if_neg (by omega),if_neg (by simp;omega),if_pos (by simp;omega),if_pos (by unfold Utf8.valid;simp;omega)]
   show (decL (a::b::d::x)).2=3/\(decL (a::b::d::x)).1=_;rw[e];exact⟨rfl,(if_neg (by omega)).symm⟩
 split
 · rename_i h1 h2 h3 h4;generalize ha:UInt8.ofNat (240+c / 262144 % 256)=a;generalize hb:UInt8.ofNat (128+c / 4096 % 256 % 64)=b;generalize hd:UInt8.ofNat (128+c / 64 % 256 % 64)=d;generalize hf:UInt8.ofNat (128+c % 256 % 64)=f;have a1:a.toNat=240+c / 262144:=(by rw[<-ha,on8 (by omega)];omega);have b1:b.toNat=128+c / 4096 % 64:=(by rw[<-hb,on8 (by omega)];omega);have d1:d.toNat=128+c / 64 % 64:=(by rw[<-hd,on8 (by omega)];omega);have f1:f.toNat=128+c % 64:=(by rw[<-hf,on8 (by omega)];omega);have c1:zcF (a::b::d::f::x) 1=true:=ct (by simp) (by rw[gb1,b1];omega);have c2:zcF (a::b::d::f::x) 2=true:=ct (by simp) (by rw[gb2,d1];omega);have c3:zcF (a::b::d::f::x) 3=true:=ct (by simp) (by rw[gb3,f1];omega);have e:decL (a::b::d::f::x)=(c,4):=by
    unfold decL;have en:(240+c / 262144) % 8*262144+(128+c / 4096 % 64) % 64*4096+(128+c / 64 % 64) % 64*64+(128+c % 64) % 64=c:=(by omega);rw[c1,c2,c3,gb0,gb1,gb2,gb3,a1,b1,d1,f1,en,if_neg (by omega),if_neg (by simp;omega),if_neg (by simp;omega),if_pos (by simp;omega),if_pos (by unfold Utf8.valid;simp;omega)]
   show (decL (a::b::d::f::x)).2=4/\(decL (a::b::d::f::x)).1=_;rw[e];exact⟨rfl,(if_neg (by omega)).symm⟩
 have c1:zcF (239::191::189::x) 1=true:=ct (by simp) (by rw[gb1];rfl);have c2:zcF (239::191::189::x) 2=true:=ct (by simp) (by rw[gb2];rfl);have e:decL (239::191::189::x)=(65533,3):=by
  have n0:(239:UInt8).toNat=239:=by decide
  have n1:(191:UInt8).toNat=191:=by decide
  have n2:(189:UInt8).toNat=189:=by decide
  unfold decL;rw[c1,c2,gb0,gb1,gb2,n0,n1,n2,if_neg (by omega),if_neg (by simp),if_pos (by simp),if_pos (by unfold Utf8.valid;simp)]
 show (decL (239::191::189::x)).2=3/\(decL (239::191::189::x)).1=_;rw[e];exact⟨rfl,(if_pos (by omega)).symm⟩
theorem dec_enc (c:Nat) (x:List UInt8) (hc:c<1114112):(decL (encR c++x)).2=(encR c).length/\((decL (encR c++x)).1=c\/(decL (encR c++x)).1=65533):=by
 obtain ⟨h1,h2⟩:=dec_encS c x hc;refine⟨h1,?_⟩;split at h2
 · exact .inr h2
 exact .inl h2
theorem hexB_kind (n:Nat):(hexB n).toNat<128/\(hexB n).toNat≠92/\(hexB n).toNat≠34:=by
 rcases dH n 16 with h | h
 · have:∀ k:Fin 16,(hexB k.1).toNat<128/\(hexB k.1).toNat≠92/\(hexB k.1).toNat≠34:=(by decide);exact this ⟨n,h⟩
 have e:hexB n=0:=by
  unfold hexB;have:hexd[n]?=none:=by
   have hs:hexd.size=16:=rfl;exact getElem?_neg _ _ (by omega)
  rw[this];rfl
 rw[e];decide
theorem qs_plain (h:b.toNat<128) (h1:b.toNat≠92) (h2:b.toNat≠34):zae false (b::t)=(zae false t).map (· +1):=by
 rw[zdq (by simp),zaL h,if_neg (by simp),if_neg h1,if_neg h2];rfl
theorem qs_esc (h:b.toNat<128):zae false (92::b::t)=(zae false t).map (· +2):=by
 rw[zdq (by simp),zaL (by decide),if_neg (by simp),if_pos (by decide)];show (zae true (b::t)).map _=_;rw[zdq (by simp),zaL h,if_pos rfl];show ((zae false t).map _).map _=_;cases zae false t<;>rfl
theorem qs_piece {l src:List UInt8} (h:Tok l src) (x:List UInt8):zae false (l++x)=(zae false x).map (· +l.length):=by
 cases h with
 | esc hc=>rcases hc with rfl | rfl<;>exact qs_esc (by decide)
 | nl=>exact qs_esc (by decide)
 | @hex b=>
  obtain ⟨a1,a2,a3⟩:=hexB_kind (b.toNat / 16);obtain ⟨b1,b2,b3⟩:=hexB_kind (b.toNat % 16);show zae false (92::120::hexB (b.toNat / 16)::hexB (b.toNat % 16)::x)=_;rw[qs_esc (by decide),qs_plain a1 a2 a3,qs_plain b1 b2 b3];cases zae false x<;>rfl
 | @raw c hc h1 h2 h3=>
  obtain ⟨e1,e2⟩:=dec_enc c x hc;have hne:encR c++x≠[]:=by
   obtain ⟨b,r,e,_⟩:=encR_head hc;rw[e];simp
  rw[zdq hne,e1,wB,if_neg (by simp),if_neg (by rcases e2 with e2 | e2<;>omega),if_neg (by rcases e2 with e2 | e2<;>omega)]
theorem qs_quote (s:ByteArray) (r:List UInt8):∀ (n p:Nat),s.size-p=n->zae false (zab s p++34::r)=some (zab s p).length:=by
 intro n
 induction n using Nat.strongRecOn with
 | _ n ih=>
  intro p hp;rcases dH p s.size with h | h
  · obtain ⟨src,ht,_⟩:=zcI h;have:=zL s p;rw[zaK h,cY,qs_piece ht,ih _ (by omega) _ rfl,cX];show some ((zab s (p+decW s p)).length+(zdW s p).length)=some _;congr 1;omega
  rw[zbf h,d9,zdq (by simp),zaL (by decide),if_neg (by simp),if_neg (by decide),if_pos (by decide)];rfl
theorem quoteL_len (s:ByteArray):(zaI s).length=(zab s 0).length+2:=by unfold zaI;simp
theorem strT_quote (s:ByteArray) (r:List UInt8):zt (zaI s++r)=(⟨3,0,s⟩,(zaI s).length):=by
 have e:zaI s++r=34::(zab s 0++34::r):=by unfold zaI;simp
 have hd:decL (34::(zab s 0++34::r))=(34,1):=zaL (by decide);have hq:zae true (zaI s++r)=some ((zab s 0).length+1):=by
  rw[e,zdq (by simp),hd,if_pos rfl];show (zae false (zab s 0++34::r)).map _=_;rw[qs_quote s r _ 0 rfl];rfl
 have ht:(zaI s++r).take ((zab s 0).length+1+1)=zaI s:=wT (quoteL_len s);have hu:unqB (mkB (zaI s))=some s:=unqB_some rfl;rw[firstT_q (by rw[e,hd];decide) (by rw[e,hd];decide) (by rw[e,hd])];unfold strT;rw[hq];show (match unqB (mkB ((zaI s++r).take ((zab s 0).length+1+1))) with | none=>(zbP,0) | some t=>((⟨3,0,t⟩:TokD),(zab s 0).length+1+1))=_;rw[ht,hu,quoteL_len]
theorem tokQ_len {l src:List UInt8} (h:Tok l src):l.length<=4*src.length/\src.length<=l.length:=by
 cases h with
 | esc _=>exact⟨by simp,by simp⟩
 | nl=>exact⟨by decide,by decide⟩
 | hex=>exact⟨by simp,by simp⟩
 | raw _ _ _ _=>exact⟨by omega,dD _⟩
theorem quoteAt_4 (s:ByteArray):∀ (n p:Nat),s.size-p=n->(zab s p).length<=4*(s.size-p)/\s.size-p<=(zab s p).length:=by
 intro n
 induction n using Nat.strongRecOn with
 | _ n ih=>
  intro p hp;rcases dH p s.size with h | h
  · obtain ⟨src,ht,e⟩:=zcI h;have h1:=zL s p;have h2:=zai s p h;have e2:=congrArg List.length e;rw[cX,zfg,zfg] at e2;have h3:=tokQ_len ht;have h4:=ih (s.size-(p+decW s p)) (by omega) (p+decW s p) rfl;rw[zaK h,cX];omega
  rw[zbf h];simp;omega
theorem quoteB_4 (s:ByteArray):(zaJ s).size<=4*s.size+2/\s.size+2<=(zaJ s).size:=by
 have h:=quoteAt_4 s _ 0 rfl;have e:(zaJ s).size=(zaI s).length:=zad _;rw[e,quoteL_len];omega
theorem quote_bl8 (s:ByteArray):bl8 (zaJ s)=zaI s:=zb4 _
theorem quote_blank (s:ByteArray) (r:List UInt8):runL isB (zaI s++r)=0:=by
 have e:zaI s++r=34::(zab s 0++34::r):=by unfold zaI;simp
 rw[e];refine zeX ?_;rw[zaL (by decide)];decide
def zdu (x:TokD):ByteArray:=if x.k=3 then zaJ x.t else if x.k=4 then x.t++(⟨#[115]⟩:ByteArray) else x.t
theorem joinT_3 {x:TokD} (h:x.k=3):zdu x=zaJ x.t:=by unfold zdu;rw[if_pos h]
theorem joinT_4 {x:TokD} (h3:¬x.k=3) (h:x.k=4):zdu x=x.t++(⟨#[115]⟩:ByteArray):=by unfold zdu;rw[if_neg h3,if_pos h]
theorem joinT_o {x:TokD} (h3:¬x.k=3) (h:¬x.k=4):zdu x=x.t:=by unfold zdu;rw[if_neg h3,if_neg h]
end Lp
