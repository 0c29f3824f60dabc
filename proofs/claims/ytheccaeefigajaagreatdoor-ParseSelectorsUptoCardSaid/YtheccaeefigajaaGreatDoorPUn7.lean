import Derived.Test.YtheccaeefigajaaGreatDoorPSev3
set_option linter.unusedVariables false
namespace Lp
open Go
def zdm:List UInt8->Option Nat
 | []=>none
 | [b]=>if b=92 then none else if b=34 then some 0 else none
 | b::c::t=>if b=92 then(zdm t).map (· +2) else if b=34 then some 0 else(zdm (c::t)).map (· +1)
theorem bscan_esc {t:List UInt8}:zdm (92::t)=(zdm (t.drop 1)).map (· +2):=by
 cases t with
 | nil=>rfl
 | cons c t=>show (if (92:UInt8)=92 then _ else _)=_;rw[if_pos rfl];rfl
theorem bscan_raw {b:UInt8} {t:List UInt8} (h:b≠92) (h2:b≠34):zdm (b::t)=(zdm t).map (· +1):=by
 cases t with
 | nil=>show (if b=92 then none else if b=34 then some 0 else none)=_;rw[if_neg h,if_neg h2];rfl
 | cons c t=>show (if b=92 then _ else if b=34 then some 0 else _)=_;rw[if_neg h,if_neg h2]
theorem bscan_end {t:List UInt8}:zdm (34::t)=some 0:=by
 cases t with
 | nil=>rfl
 | cons c t=>rfl
theorem bscan_high:∀ (j:Nat) (l:List UInt8),j<=l.length->(∀ k,k<j->128<=gb l k)->zdm l=(zdm (l.drop j)).map (· +j)
 | 0,l,_,_=>by simp
 | j+1,[],h,_=>by simp at h
 | j+1,b::t,h,hk=>by
  have h0:128<=b.toNat:=hk 0 (by omega);rw[bscan_raw (by rintro rfl;exact absurd h0 (by decide)) (by rintro rfl;exact absurd h0 (by decide))];rw[bscan_high j t (by simpa using h) (λk hk2=>hk (k+1) (by omega))];show _=(zdm (t.drop j)).map _;cases zdm (t.drop j) with
  | none=>rfl
  | some i=>show some (i+j+1)=some (i+(j+1));congr 1
theorem dec_high {l:List UInt8} {k:Nat} (h1:1<=k) (h2:k<(decL l).2):128<=gb l k:=by
 have c:∀ {j:Nat},za1 l j=true->128<=gb l j:=λ{j} h=>by
  unfold za1 at h;simp only[cY,beq_iff_eq] at h;omega
 revert h2;unfold decL;split
 · intro h2;have h2:k<1:=h2;omega
 split
 · rename_i h;simp only[cY] at h;split
   · intro h2;have h2:k<2:=h2;obtain rfl:k=1:=(by omega);exact c h.2
   intro h2;have h2:k<1:=h2;omega
 split
 · rename_i h;simp only[cY] at h;split
   · intro h2;have h2:k<3:=h2;rcases (show k=1\/k=2 by omega) with rfl | rfl
     · exact c h.1.2
     exact c h.2
   intro h2;have h2:k<1:=h2;omega
 split
 · rename_i h;simp only[cY] at h;split
   · intro h2;have h2:k<4:=h2;rcases (show k=1\/k=2\/k=3 by omega) with rfl | rfl | rfl
     · exact c h.1.1.2
     · exact c h.1.2
     exact c h.2
   intro h2;have h2:k<1:=h2;omega
 intro h2;have h2:k<1:=h2;omega
theorem dec_first_high {b:UInt8} {t:List UInt8} (h:¬b.toNat<128):128<=(decL (b::t)).1/\128<=b.toNat:=by
 have h0:gb (b::t) 0=b.toNat:=rfl;have hb:b.toNat<256:=uK _;refine⟨?_,by omega⟩;unfold decL;rw[h0,if_neg h];split
 · split
   · show 128<=_;omega
   show 128<=65533;omega
 split
 · split
   · rename_i h3;simp only[cY,decide_eq_true_eq] at h3;show 128<=_;have:=h3.1;omega
   show 128<=65533;omega
 split
 · split
   · rename_i h3;simp only[cY,decide_eq_true_eq] at h3;show 128<=_;have:=h3.1;omega
   show 128<=65533;omega
 show 128<=65533;omega
theorem map_map_add (o:Option Nat) (a b:Nat):(o.map (· +a)).map (· +b)=o.map (· +(a+b)):=by
 cases o with
 | none=>rfl
 | some i=>show some (i+a+b)=some (i+(a+b));congr 1;omega
theorem bscan_qscan:∀ (n:Nat) (l:List UInt8),l.length=n->zae false l=zdm l:=by
 intro n
 induction n using Nat.strongRecOn with
 | _ n ih=>
  intro l hl;cases l with
  | nil=>rw[qscan_nil];rfl
  | cons b t=>
   have hd:=zbb (b::t);have hle:=zdu (l:=b::t) (by simp);by_cases hb:b.toNat<128
   · by_cases h92:b=92
     · subst h92;rw[zbB (by simp),zab hb,if_neg (by simp),if_pos (by decide),bscan_esc];show (zae true t).map _=_;cases t with
       | nil=>rw[qscan_nil];rfl
       | cons c t=>
        have hw:=zbb (c::t);have hwl:=zdu (l:=c::t) (by simp);simp only[dC] at hl hwl;rw[zbB (by simp),if_pos rfl];rw[ih ((c::t).drop (decL (c::t)).2).length (by rw[cZ,dC];omega) _ rfl,map_map_add];show _=(zdm t).map _;have e:=bscan_high ((decL (c::t)).2-1) t (by omega) (λk hk=>by
         have:=dec_high (l:=c::t) (k:=k+1) (by omega) (by omega);exact this)
        have e2:(c::t).drop (decL (c::t)).2=t.drop ((decL (c::t)).2-1):=by
         obtain ⟨m,hm⟩:∃ m,(decL (c::t)).2=m+1:=⟨(decL (c::t)).2-1,by omega⟩;rw[hm];rfl
        rw[e,map_map_add,e2];congr 1
        funext i
        show i+_=i+_;omega
     by_cases h34:b=34
     · subst h34;rw[zbB (by simp),zab hb,if_neg (by simp),if_neg (by decide),if_pos (by decide),bscan_end]
     have n1:b.toNat≠92:=λe=>h92 (jP.1 e)
     have n2:b.toNat≠34:=λe=>h34 (jP.1 e)
     simp only[dC] at hl;rw[qs_plain hb n1 n2,bscan_raw h92 h34,ih t.length (by omega) t rfl]
   obtain ⟨g1,g2⟩:=dec_first_high (t:=t) hb;simp only[dC] at hl;rw[zbB (by simp),if_neg (by simp),if_neg (by omega),if_neg (by omega)];rw[ih ((b::t).drop (decL (b::t)).2).length (by rw[cZ,dC];omega) _ rfl];exact(bscan_high _ _ hle (λk hk=>by
    rcases jN k with rfl | h0
    · exact g2
    exact dec_high h0 hk)).symm
theorem signIn_k:∀ (xs:List ByteArray) (k:Nat) (l:List UInt8),(∀ x∈xs,x.size=k)->zac xs l=if k<=l.length/\hasN xs (mkB (l.take k))=true then(⟨5,0,mkB (l.take k)⟩,k) else(zbh,0)
 | [],k,l,_=>by simp[zac,hasN]
 | x::xs,k,l,h=>by
  have hx:=h x cW;have ih:=signIn_k xs k l (λy hy=>h y (c7 _ hy));unfold zac;by_cases hp:(bl8 x).isPrefixOf l=true
  · rw[if_pos hp];rw[j8] at hp;have hl:=hp.length_le;rw[zT,hx] at hl;have e:mkB (l.take k)=x:=by
     obtain ⟨t,rfl⟩:=hp;rw[vR (by rw[zT,hx]),zew]
    rw[if_pos ⟨hl,by rw[e];simp[hasN]⟩,e,hx]
  rw[if_neg hp,ih];have hn:k<=l.length->¬mkB (l.take k)=x:=λhl e=>hp (by
   rw[j8];refine⟨l.drop k,?_⟩;rw[<-e,zbq,d8])
  have e:(k<=l.length/\hasN (x::xs) (mkB (l.take k))=true)↔(k<=l.length/\hasN xs (mkB (l.take k))=true):=by
   constructor
   · rintro ⟨h1,h2⟩;refine⟨h1,?_⟩;have h3:=hn h1;simp only[hasN,jR,d6,decide_eq_true_eq] at h2 ⊢;rcases h2 with h2 | h2
     · first | exact absurd h2 h3 | exact absurd h2.symm h3
     exact h2
   rintro ⟨h1,h2⟩;refine⟨h1,?_⟩;simp only[hasN,jR,d6,decide_eq_true_eq] at h2 ⊢;exact .inr h2
  simp only[e]
theorem signIn_cons {x:ByteArray} {xs:List ByteArray} {l:List UInt8}:zac (x::xs) l=if (bl8 x).isPrefixOf l=true then(⟨5,0,x⟩,x.size) else zac xs l:=by
 conv=>lhs;unfold zac
theorem signIn_cat:∀ (xs ys:List ByteArray) (l:List UInt8),(∀ x∈xs,0<x.size)->zac (xs++ys) l=if (zac xs l).2=0 then zac ys l else zac xs l
 | [],ys,l,_=>by
  have e:(zac [] l).2=0:=rfl;show zac ys l=_;rw[if_pos e]
 | x::xs,ys,l,h=>by
  have hx:=h x cW;have ih:=signIn_cat xs ys l (λy hy=>h y (c7 _ hy));show zac (x::(xs++ys)) l=_;rw[signIn_cons,signIn_cons];by_cases hp:(bl8 x).isPrefixOf l=true
  · rw[if_pos hp,if_pos hp,if_neg (by show ¬x.size=0;omega)]
  rw[if_neg hp,if_neg hp,ih]
def zfI:List ByteArray:=zV.take 6
def zfJ:List ByteArray:=zV.drop 6
theorem signT_two {l:List UInt8}:zbQ l=if 2<=l.length/\hasN zV (mkB (l.take 2))=true then(⟨5,0,mkB (l.take 2)⟩,2) else if 1<=l.length/\hasN zV (mkB (l.take 1))=true then(⟨5,0,mkB (l.take 1)⟩,1) else(zbh,0):=by
 have h2:∀ x∈zfI,x.size=2:=by decide
 have h1:∀ x∈zfJ,x.size=1:=by decide
 have e:zV=zfI++zfJ:=rfl;have hh:∀ (y:ByteArray),hasN zV y=(hasN zfI y||hasN zfJ y):=λy=>by rw[e];simp[hasN]
 have no:∀ (xs:List ByteArray) (k:Nat) (y:ByteArray),(∀ x∈xs,x.size=k)->y.size≠k->hasN xs y=false:=λxs k y h hy=>by
  unfold hasN;rw[List.any_eq_false];intro x hx e;rw[decide_eq_true_eq] at e;exact hy (by first | (rw[e];exact h x hx) | (rw[<-e];exact h x hx))
 have k2:2<=l.length->hasN zV (mkB (l.take 2))=hasN zfI (mkB (l.take 2)):=λh=>by
  rw[hh,no zfJ 1 _ h1 (by rw[z8,d5];omega),dO]
 have k1:1<=l.length->hasN zV (mkB (l.take 1))=hasN zfJ (mkB (l.take 1)):=λh=>by
  rw[hh,no zfI 2 _ h2 (by rw[z8,d5];omega),uI]
 unfold zbQ;rw[e,signIn_cat _ _ _ (λx hx=>by have:=h2 x hx;omega),signIn_k _ 2 l h2,signIn_k _ 1 l h1,<-e];by_cases a:2<=l.length/\hasN zfI (mkB (l.take 2))=true
 · rw[if_pos a,if_neg (by show ¬(2:Nat)=0;omega),if_pos ⟨a.1,by rw[k2 a.1];exact a.2⟩]
 have na:¬(2<=l.length/\hasN zV (mkB (l.take 2))=true):=λe=>a ⟨e.1,by rw[<-k2 e.1];exact e.2⟩
 rw[if_neg a,if_pos rfl,if_neg na];by_cases b:1<=l.length/\hasN zfJ (mkB (l.take 1))=true
 · rw[if_pos b,if_pos ⟨b.1,by rw[k1 b.1];exact b.2⟩]
 rw[if_neg b,if_neg (λe=>b ⟨e.1,by rw[<-k1 e.1];exact e.2⟩)]
def wcL (l:List UInt8):Nat:=if h:l≠[]/\isLD ((decL l).1:Int)=true then 1+wcL (l.drop (decL l).2) else 0
termination_by l.length
decreasing_by
 have h1:=zbb l;have h2:=dD.2 h.1;rw[cZ];omega
theorem wcL_t {l:List UInt8} (h:l≠[]) (hf:isLD ((decL l).1:Int)=true):wcL l=1+wcL (l.drop (decL l).2):=by
 conv=>lhs;unfold wcL
 rw[dif_pos ⟨h,hf⟩]
theorem wcL_f {l:List UInt8} (hf:isLD ((decL l).1:Int)=false):wcL l=0:=by
 unfold wcL;rw[dif_neg (by rw[hf];simp)]
theorem wcL_nil:wcL []=0:=by unfold wcL;rw[dif_neg (by simp)]
def rL (l:List UInt8):List Int:=if h:l=[] then [] else((decL l).1:Int)::rL (l.drop (decL l).2)
termination_by l.length
decreasing_by
 have h1:=zbb l;have h2:=dD.2 h;rw[cZ];omega
theorem rL_nil:rL []=[]:=by unfold rL;rw[dif_pos rfl]
theorem rL_cons {l:List UInt8} (h:l≠[]):rL l=((decL l).1:Int)::rL (l.drop (decL l).2):=by
 conv=>lhs;unfold rL
 rw[dif_neg h]
theorem runes_rL:∀ (n:Nat) (s:ByteArray) (p:Nat),s.size-p=n->zaF s p=rL (bts s p):=by
 intro n
 induction n using Nat.strongRecOn with
 | _ n ih=>
  intro s p hp;rcases c8 p s.size with h | h
  · have h1:=zz s p;rw[zan h,rL_cons (zdp h),zbU,<-zbp,<-zbT,ih _ (by omega) s _ rfl]
  rw[zay h,zde h,rL_nil]
theorem zei {r:Int}:isLD r=true↔(zy r=1\/zy r=2):=by
 show inK [1,2] r=true↔_;unfold inK;simp only[jR,uA,dO,d6,decide_eq_true_eq];constructor
 · rintro (h | h)
   · exact .inl h.symm
   exact .inr h.symm
 rintro (h | h)
 · exact .inl h.symm
 exact .inr h.symm
theorem dec_own {l:List UInt8} (h:l≠[]) (hf:isLD ((decL l).1:Int)=true):l=encR (decL l).1++l.drop (decL l).2/\(encR (decL l).1).length=(decL l).2/\∀ x,(decL (encR (decL l).1++x)).1=(decL l).1:=by
 have hs:0<(mkB l).size:=by rw[z8];exact dD.2 h
 have hb:bts (mkB l) 0=l:=zf9 l;have hd:decR (mkB l) 0=(decL l).1:=by rw[zbp,hb]
 have hw:decW (mkB l) 0=(decL l).2:=by rw[zbT,hb]
 have hlt:=decL_lt l;rcases dec_cases (mkB l) 0 hs with e | ⟨e,_,_⟩
 · have e2:bts (mkB l) (0+decW (mkB l) 0)=l.drop (decL l).2:=(by rw[<-zbU,hb,hw]);rw[e2,hb,hd] at e;have hc:=congrArg decL e;have hS:=dec_encS (decL l).1 (l.drop (decL l).2) hlt;rw[<-e] at hS;have hn:¬(55296<=(decL l).1/\(decL l).1<=57343):=λhh=>by
    have:=hS.2;rw[if_pos hh] at this;omega
   exact⟨e,hS.1.symm,λx=>by rw[(dec_encS (decL l).1 x hlt).2,if_neg hn]⟩
 exfalso;rw[hd] at e;rw[zei,e] at hf;revert hf;decide
theorem word_take:∀ (n:Nat) (l:List UInt8),l.length=n->(rL (l.take (runL isLD l))).length=wcL l/\zdT (rL (l.take (runL isLD l)))=true:=by
 intro n
 induction n using Nat.strongRecOn with
 | _ n ih=>
  intro l hl;by_cases h:l≠[]/\isLD ((decL l).1:Int)=true
  · obtain ⟨e1,e2,e3⟩:=dec_own h.1 h.2;have hp:=zbb l;have hle:=zdu h.1;obtain ⟨i1,i2⟩:=ih (l.length-(decL l).2) (by omega) (l.drop (decL l).2) cZ;have ht:l.take (runL isLD l)=encR (decL l).1++(l.drop (decL l).2).take (runL isLD (l.drop (decL l).2)):=by
     rw[zcv h.1 h.2]
     conv=>lhs;arg 2;rw[e1]
     rw[<-e2,List.take_length_add_append]
    have hne:encR (decL l).1++(l.drop (decL l).2).take (runL isLD (l.drop (decL l).2))≠[]:=λe=>by
     have:=congrArg List.length e;rw[dA,e2] at this;simp only[d7] at this;omega
    have hd1:=e3 ((l.drop (decL l).2).take (runL isLD (l.drop (decL l).2)));have hd2:=(dec_encS (decL l).1 ((l.drop (decL l).2).take (runL isLD (l.drop (decL l).2))) (decL_lt l)).1;have hr:rL (l.take (runL isLD l))=((decL l).1:Int)::rL ((l.drop (decL l).2).take (runL isLD (l.drop (decL l).2))):=by
     rw[ht,rL_cons hne,hd1,hd2,vL]
    rw[hr,wcL_t h.1 h.2];refine⟨by rw[dC,i1];omega,?_⟩;rw[zdD,i2,vG,decide_eq_true_eq];exact zei.1 h.2
  have h0:runL isLD l=0:=by unfold runL;rw[dif_neg h]
  have h1:wcL l=0:=by unfold wcL;rw[dif_neg h]
  rw[h0,h1,vU,rL_nil];exact⟨rfl,rfl⟩
theorem name_count {l:List UInt8} (h:zy ((decL l).1:Int)=1):zba (mkB (l.take (runL isLD l)))=decide (wcL l<=30):=by
 obtain ⟨h1,h2⟩:=word_take _ l rfl;have hne:l≠[]:=by
  rintro rfl;revert h;decide
 have hf:isLD ((decL l).1:Int)=true:=zei.2 (.inl h);obtain ⟨e1,e2,e3⟩:=dec_own hne hf;have hp:=zbb l;have hr:zu (mkB (l.take (runL isLD l)))=rL (l.take (runL isLD l)):=by
  have:=runes_rL _ (mkB (l.take (runL isLD l))) 0 rfl;rw[show bts (mkB (l.take (runL isLD l))) 0=l.take (runL isLD l) from zf9 _] at this;exact this
 have hd:(rL (l.take (runL isLD l))).getD 0 0=((decL l).1:Int):=by
  have ht:l.take (runL isLD l)=encR (decL l).1++(l.drop (decL l).2).take (runL isLD (l.drop (decL l).2)):=by
   rw[zcv hne hf]
   conv=>lhs;arg 2;rw[e1]
   rw[<-e2,List.take_length_add_append]
  have hn2:l.take (runL isLD l)≠[]:=λe=>by
   have:=congrArg List.length e;rw[ht,dA,e2] at this;simp only[d7] at this;omega
  rw[rL_cons hn2,ht,e3];rfl
 have hw:=wcL_t hne hf;unfold zba;rw[zbX,hr,hd,h2,h1,h];have:1<=wcL l:=by omega
 simp[this]
theorem wordT_count {l:List UInt8} (h:zy ((decL l).1:Int)=1):zca l=if wcL l<=30 then(⟨1,0,mkB (l.take (runL isLD l))⟩,runL isLD l) else(zbh,0):=by
 unfold zca;rw[name_count h];simp only[decide_eq_true_eq]
section
variable {s:ByteArray} {p:Nat}
theorem wc_start:wcL (bl8 s)=0+wcL (bts s 0):=by rw[dX];rfl
theorem wc_next {k:Nat} (hf:wcL (bl8 s)=k+wcL (bts s p)) (h:p<s.size) (ht:isLD ((decR s p:Nat):Int)=true):wcL (bl8 s)=(k+1)+wcL (bts s (p+decW s p)):=by
 rw[zbp] at ht;rw[hf,wcL_t (zdp h) ht,zbU,<-zbT,vN]
theorem wc_stop {k:Nat} (hf:wcL (bl8 s)=k+wcL (bts s p)) (ht:isLD ((decR s p:Nat):Int)=false):k=wcL (bl8 s):=by
 rw[zbp] at ht;rw[hf,wcL_f ht];rfl
theorem wc_end {k:Nat} (hf:wcL (bl8 s)=k+wcL (bts s p)) (h:s.size<=p):k=wcL (bl8 s):=by rw[hf,zde h,wcL_nil];rfl
theorem wc_le:∀ (n:Nat) (l:List UInt8),l.length=n->wcL l<=l.length:=by
 intro n
 induction n using Nat.strongRecOn with
 | _ n ih=>
  intro l hl;by_cases h:l≠[]/\isLD ((decL l).1:Int)=true
  · have h1:=zbb l;have h2:=zdu h.1;have:=ih (l.length-(decL l).2) (by omega) _ cZ;rw[cZ] at this;rw[wcL_t h.1 h.2];omega
  unfold wcL;rw[dif_neg h];omega
theorem dig_byte {u:UInt8} (h:s[p]?=some u) (hd:48<=u.toNat/\u.toNat<=57) (hf:runL isD (bl8 s)=p+runL isD (bts s p)) (hp:p<s.size):runL isD (bl8 s)=(p+1)+runL isD (bts s (p+1)):=by
 have e:bts s p=u::bts s (p+1):=by rw[zaE hp,show s.get! p=u from jP.1 (by rw[<-zdc hp,zJ h])]
 obtain ⟨h1,h2⟩:=dig_kind hd (bts s (p+1));rw[hf,e,zcv (by simp) (isD_2 _ h1),h2];show p+(1+runL isD (bts s (p+1)))=_;omega
end
end Lp
set_option linter.unusedSimpArgs false
set_option maxHeartbeats 4000000
set_option maxRecDepth 100000
namespace Lp
open Go Go.RowKit Go.Proofs
theorem hasN_no {l:List ByteArray} {s:ByteArray} (h:∀ m∈l,¬s=m):hasN l s=false:=by
 unfold hasN;rw[List.any_eq_false];intro m hm e;rw[decide_eq_true_eq] at e;exact h m hm e.symm
theorem rfirst_c (s:ByteArray) (hz:0<s.size):
 CD Tryz.prog 137 [] [.s s] (isR (dR ((decR s 0:Nat):Int))):=by
 refine tZ Tryz.func137 O O (λC=>?_);refine T.bd 0 O (λbd0=>?_);have sz0:s.size<=9223372036854775807:=bd0;refine g' 9 O (tE O (zcr O Tryz.runUnderlying9) ?_);rintro _ _ ⟨g1,rfl,rfl⟩;refine g' 3 O (tl1 (λ(a_:Nat)=>[(6,dP g1 0)]) (λa_=>[.it g1 s a_]) (λa_=>(a_<=s.size)/\(a_=0)) (λa_=>s.size-a_) 0 O (sa O) w7 ⟨cX _,O⟩ ?_);rintro p ⟨hp,hp0⟩;rcases c8 p s.size with hlt | hge
 · have hrune:=zan hlt;have hrl:=zbN s p;have hdw:=zZ s p hlt;have hdp:=zz s p;refine g' 2 O (tE O (zbv (i:=0) O O hlt) ?_);rintro _ _ ⟨rfl,rfl⟩;refine g' 25 O ?_;exact tRs O Tryz.results137 (.cons (zd (zc O) (w5 (congrArg dR (by rw[hp0])))) .nil) O mM ⟨O,O⟩
 have hrune:=zay hge;refine g' 2 O (tP O (zcj (i:=0) O O hge) (g' 16 O ?_));exact tRs O Tryz.results137 (.cons (zd (zc O) (w5 (congrArg dR (by exfalso;omega)))) .nil) O mM ⟨O,O⟩
theorem rwide_c (s:ByteArray) (hz:0<s.size):
 CD Tryz.prog 184 [] [.s s] (isR (dN (decW s 0))):=by
 refine tZ Tryz.func184 O O (λC=>?_);refine T.bd 0 O (λbd0=>?_);have sz0:s.size<=9223372036854775807:=bd0;have hw0:=zZ s 0 hz;have hw1:=zz s 0;refine g' 9 O (tE O (zcr O Tryz.runUnderlying9) ?_);rintro _ _ ⟨g1,rfl,rfl⟩;refine g' 3 O (tl1 (λ(a_:Nat)=>[(0,.s s),(5,dP g1 0)]) (λa_=>[.it g1 s a_]) (λa_=>(a_<=s.size)/\(a_=0\/a_=decW s 0)) (λa_=>s.size-a_) 0 O (sa O) w7 ⟨cX _,.inl O⟩ ?_);rintro p ⟨hp,hp0⟩;rcases c8 p s.size with hlt | hge
 · have hrune:=zan hlt;have hrl:=zbN s p;have hdw:=zZ s p hlt;have hdp:=zz s p;refine g' 2 O (tE O (zbv (i:=0) O O hlt) ?_);rintro _ _ ⟨rfl,rfl⟩;refine g' 20 O ?_;refine tD O (λhc2=>?_) (λhc2=>?_)
   · refine g' 11 O ?_;exact tRs O Tryz.results184 (.cons (zd (zc O) (w5 (congrArg dN (by omega)))) .nil) O mM ⟨O,O⟩
   refine g' 2 O ?_;exact tp1 (p+decW s p) (sa O) w7 ⟨by have:=zZ s p hlt;omega,.inr (by have hp1:p=0:=(by omega);rw[hp1,dX])⟩ (by have:=zz s p;omega)
 have hrune:=zay hge;refine g' 2 O (tP O (zcj (i:=0) O O hge) (g' 13 O (tP O (zw O Tryz.runUnderlying9) (g' 4 O ?_))));exact tRs O Tryz.results184 (.cons (zd (zc O) (w5 (congrArg dN (by have hw0:=zZ s 0 hz;have hw1:=zz s 0;omega)))) .nil) O mM ⟨O,O⟩
theorem rSign_c (s:ByteArray) :
 CD Tryz.prog 165 [] [.s s] (isR (dB (hasN zV s))):=by
 refine tZ Tryz.func165 O O (λC=>?_);refine T.bd 0 O (λbd0=>?_);have sz0:s.size<=9223372036854775807:=bd0;refine g' 13 O ?_;refine tJ (λ(jg:Bool)=>[(2,dB false),(4,dB jg)]) (λ(jg:Bool)=>[]) (λ(jg:Bool)=>(jg=hasN zV s)) (λ_ hQ1=>?_) ?_
 · refine g' 6 O ?_;refine tD O (λhc2=>?_) (λhc2=>?_)
   · refine g' 1 O ?_;exact tqe (hQ1 (decide (s=(⟨#[43]⟩:ByteArray))) (by rw[hc2];decide)) O
   refine g' 6 O ?_;refine tD O (λhc3=>?_) (λhc3=>?_)
   · refine g' 1 O ?_;exact tqe (hQ1 (decide (s=(⟨#[45]⟩:ByteArray))) (by rw[hc3];decide)) O
   refine g' 6 O ?_;refine tD O (λhc4=>?_) (λhc4=>?_)
   · refine g' 1 O ?_;exact tqe (hQ1 (decide (s=(⟨#[42]⟩:ByteArray))) (by rw[hc4];decide)) O
   refine g' 6 O ?_;refine tD O (λhc5=>?_) (λhc5=>?_)
   · refine g' 1 O ?_;exact tqe (hQ1 (decide (s=(⟨#[47]⟩:ByteArray))) (by rw[hc5];decide)) O
   refine g' 6 O ?_;refine tD O (λhc6=>?_) (λhc6=>?_)
   · refine g' 1 O ?_;exact tqe (hQ1 (decide (s=(⟨#[37]⟩:ByteArray))) (by rw[hc6];decide)) O
   refine g' 6 O ?_;refine tD O (λhc7=>?_) (λhc7=>?_)
   · refine g' 1 O ?_;exact tqe (hQ1 (decide (s=(⟨#[40]⟩:ByteArray))) (by rw[hc7];decide)) O
   refine g' 6 O ?_;refine tD O (λhc8=>?_) (λhc8=>?_)
   · refine g' 1 O ?_;exact tqe (hQ1 (decide (s=(⟨#[41]⟩:ByteArray))) (by rw[hc8];decide)) O
   refine g' 6 O ?_;refine tD O (λhc9=>?_) (λhc9=>?_)
   · refine g' 1 O ?_;exact tqe (hQ1 (decide (s=(⟨#[123]⟩:ByteArray))) (by rw[hc9];decide)) O
   refine g' 6 O ?_;refine tD O (λhc10=>?_) (λhc10=>?_)
   · refine g' 1 O ?_;exact tqe (hQ1 (decide (s=(⟨#[125]⟩:ByteArray))) (by rw[hc10];decide)) O
   refine g' 6 O ?_;refine tD O (λhc11=>?_) (λhc11=>?_)
   · refine g' 1 O ?_;exact tqe (hQ1 (decide (s=(⟨#[91]⟩:ByteArray))) (by rw[hc11];decide)) O
   refine g' 6 O ?_;refine tD O (λhc12=>?_) (λhc12=>?_)
   · refine g' 1 O ?_;exact tqe (hQ1 (decide (s=(⟨#[93]⟩:ByteArray))) (by rw[hc12];decide)) O
   refine g' 6 O ?_;refine tD O (λhc13=>?_) (λhc13=>?_)
   · refine g' 1 O ?_;exact tqe (hQ1 (decide (s=(⟨#[44]⟩:ByteArray))) (by rw[hc13];decide)) O
   refine g' 6 O ?_;refine tD O (λhc14=>?_) (λhc14=>?_)
   · refine g' 1 O ?_;exact tqe (hQ1 (decide (s=(⟨#[61]⟩:ByteArray))) (by rw[hc14];decide)) O
   refine g' 6 O ?_;refine tD O (λhc15=>?_) (λhc15=>?_)
   · refine g' 1 O ?_;exact tqe (hQ1 (decide (s=(⟨#[61,61]⟩:ByteArray))) (by rw[hc15];decide)) O
   refine g' 6 O ?_;refine tD O (λhc16=>?_) (λhc16=>?_)
   · refine g' 1 O ?_;exact tqe (hQ1 (decide (s=(⟨#[33,61]⟩:ByteArray))) (by rw[hc16];decide)) O
   refine g' 6 O ?_;refine tD O (λhc17=>?_) (λhc17=>?_)
   · refine g' 1 O ?_;exact tqe (hQ1 (decide (s=(⟨#[60]⟩:ByteArray))) (by rw[hc17];decide)) O
   refine g' 6 O ?_;refine tD O (λhc18=>?_) (λhc18=>?_)
   · refine g' 1 O ?_;exact tqe (hQ1 (decide (s=(⟨#[60,61]⟩:ByteArray))) (by rw[hc18];decide)) O
   refine g' 6 O ?_;refine tD O (λhc19=>?_) (λhc19=>?_)
   · refine g' 1 O ?_;exact tqe (hQ1 (decide (s=(⟨#[62]⟩:ByteArray))) (by rw[hc19];decide)) O
   refine g' 6 O ?_;refine tD O (λhc20=>?_) (λhc20=>?_)
   · refine g' 1 O ?_;exact tqe (hQ1 (decide (s=(⟨#[62,61]⟩:ByteArray))) (by rw[hc20];decide)) O
   refine g' 6 O ?_;refine tD O (λhc21=>?_) (λhc21=>?_)
   · refine g' 1 O ?_;exact tqe (hQ1 (decide (s=(⟨#[61,126]⟩:ByteArray))) (by rw[hc21];decide)) O
   refine g' 4 O ?_;exact tqe (hQ1 (decide (s=(⟨#[33,126]⟩:ByteArray))) (by by_cases hz:s=(⟨#[33,126]⟩:ByteArray);(rw[hz];decide);rw[decide_eq_false hz];exact(hasN_no (by simp only[zV,List.forall_mem_cons];exact⟨by assumption,by assumption,by assumption,by assumption,by assumption,by assumption,by assumption,by assumption,by assumption,by assumption,by assumption,by assumption,by assumption,by assumption,by assumption,by assumption,by assumption,by assumption,by assumption,by assumption,by assumption,by simp⟩)).symm)) O
 rintro sb hsb;refine g' 1 O ?_;refine tC O (λhc22=>?_) (λhc22=>?_)
 · refine g' 8 O ?_;exact tRs O Tryz.results165 (.cons (zd (zc O) (cB ((by exact hc22.symm.trans hsb)))) .nil) O mM ⟨O,O⟩
 refine g' 9 O ?_;exact tRs O Tryz.results165 (.cons (zd (zc O) (cB ((by exact hc22.symm.trans hsb)))) .nil) O mM ⟨O,O⟩
end Lp
namespace Lp
open Go
theorem hexI_eq:∀ c:Nat,c<256->hexI c=if 48<=c/\c<=57 then(c:Int)-48 else if 97<=c/\c<=102 then(c:Int)-87 else -1:=by decide+kernel
section
variable {b:ByteArray} {i:Nat} {o:List UInt8}
theorem ext_ext {k:Nat}:(b.extract i b.size).extract k (b.extract i b.size).size=b.extract (i+k) b.size:=by
 rw[zcF,zcF,zcF,zbq,wD]
theorem ext_at {k:Nat}:(b.extract i b.size)[k]?=b[i+k]?:=by
 have e:∀ (s:ByteArray) (j:Nat),s[j]?=(bl8 s)[j]?:=λs j=>by
  by_cases h:j<s.size
  · have h':j<(bl8 s).length:=(by rw[zT];exact h);rw[getElem?_pos s j h,dK h'];rfl
  rw[getElem?_neg s j h,jT (by rw[zT];omega)]
 rw[e,e,zcF,zbq,uS]
theorem zen {k:Nat} {v:UInt8} (h:b[i+k]?=some v):zC (b.extract i b.size) k=v.toNat:=(zJ (by rw[ext_at];exact h)).symm
theorem zeY {k:Nat} {v:UInt8} (h:b[k]?=some v):k<b.size:=by
 by_cases hk:k<b.size
 · exact hk
 rw[getElem?_neg b k hk] at h;cases h
def EInv (b:ByteArray) (i:Nat) (o:List UInt8):Prop:=UInv b (b.extract i b.size) o
theorem EInv.zero:EInv b 0 []:=by
 unfold EInv;have e:b.extract 0 b.size=b:=by rw[zcF,j7,zew]
 rw[e];exact UInv.zero b
theorem EInv.raw {u:UInt8} (h:EInv b i o) (hu:b[i]?=some u) (h2:¬u.toNat=92):EInv b (i+1) (o++[u]):=by
 have:=UInv.raw h (by rw[ext_at];exact hu) (λe=>h2 (by rw[e];rfl));rw[ext_ext] at this;exact this
theorem escd {u v:UInt8} (hu:b[i]?=some u) (h92:u.toNat=92):(b.extract i b.size)[0]?=some 92:=by
 rw[ext_at,jY,hu,show u=92 from jP.1 h92]
theorem EInv.esc {u:UInt8} {n:Nat} {t:ByteArray} (h:EInv b i o) (hu:b[i]?=some u) (h92:u.toNat=92) (ht:t=escT (b.extract (i+1) b.size)) (hn:n=escN (b.extract (i+1) b.size)) (h0:n≠0):EInv b (i+(1+n)) (o++bl8 t):=by
 have e:(b.extract i b.size).extract 1 (b.extract i b.size).size=b.extract (i+1) b.size:=ext_ext;have:=UInv.esc h (escd (v:=0) hu h92) (by rw[e,<-hn];exact h0);rw[e,<-hn,<-ht,ext_ext] at this;exact this
theorem zfz {v:UInt8} (hv:b[i+1]?=some v):0<(b.extract (i+1) b.size).size:=by have:=zeY hv;rw[cR];omega
theorem EInv.e1 {u v:UInt8} (h:EInv b i o) (hu:b[i]?=some u) (h92:u.toNat=92) (hv:b[i+1]?=some v) (hc:v.toNat=34\/v.toNat=92):EInv b (i+2) (o++[v]):=by
 have hb:zC (b.extract (i+1) b.size) 0=v.toNat:=zen hv;obtain ⟨t1,t2⟩:=esc_1 (zfz hv) (by rw[hb];exact hc);have e:bl8 ((b.extract (i+1) b.size).extract 0 1)=[v]:=by
  rw[zcp (by have:=zfz hv;omega),zbq,j7];have hx:(bl8 (b.extract (i+1) b.size))[0]?=some v:=by
   rw[zcF,zbq,uS];have e2:b[i+1]?=(bl8 b)[i+1]?:=by
    have hl:=zeY hv;rw[getElem?_pos b (i+1) hl,dK (by rw[zT];exact hl)];rfl
   rw[jY,<-e2];exact hv
  cases e3:bl8 (b.extract (i+1) b.size) with
  | nil=>rw[e3] at hx;cases hx
  | cons c r=>rw[e3] at hx;injection hx with hx;subst hx;rfl
 have:=EInv.esc h hu h92 t1 t2 (by omega);rw[e] at this;exact this
theorem EInv.e2 {u v:UInt8} (h:EInv b i o) (hu:b[i]?=some u) (h92:u.toNat=92) (hv:b[i+1]?=some v) (hn:¬(v.toNat=34\/v.toNat=92)) (hc:v.toNat=110):EInv b (i+2) (o++[10]):=by
 have hb:zC (b.extract (i+1) b.size) 0=v.toNat:=zen hv;obtain ⟨t1,t2⟩:=esc_2 (zfz hv) (by rw[hb];exact hn) (by rw[hb];exact hc);have:=EInv.esc h hu h92 t1 t2 (by omega);have e:bl8 (⟨#[10]⟩:ByteArray)=[10]:=by decide
 rw[e] at this;exact this
theorem EInv.e3 {u v x y:UInt8} {p q:Nat} (h:EInv b i o) (hu:b[i]?=some u) (h92:u.toNat=92) (hv:b[i+1]?=some v) (hn:¬(v.toNat=34\/v.toNat=92)) (hn2:¬v.toNat=110) (hc:v.toNat=120) (hx:b[i+2]?=some x) (hy:b[i+3]?=some y) (hp:hexI x.toNat=(p:Int)) (hq:hexI y.toNat=(q:Int)):EInv b (i+4) (o++[UInt8.ofNat (p*16+q)]):=by
 have hb:zC (b.extract (i+1) b.size) 0=v.toNat:=zen hv;have hb1:zC (b.extract (i+1) b.size) 1=x.toNat:=zen hx;have hb2:zC (b.extract (i+1) b.size) 2=y.toNat:=zen hy;have hl:=zeY hy;obtain ⟨t1,t2⟩:=esc_3 (a:=p) (b:=q) (zfz hv) (by rw[hb];exact hn) (by rw[hb];exact hn2) ⟨by rw[hb];exact hc,by rw[cR];omega⟩ (by rw[hb1];exact hp) (by rw[hb2];exact hq);have:=EInv.esc h hu h92 t1 t2 (by omega);rw[zbq] at this;exact this
theorem EInv.bad {u:UInt8} (h:EInv b i o) (hu:b[i]?=some u) (h92:u.toNat=92) (h0:escN (b.extract (i+1) b.size)=0):unB b=none:=
 UInv.none h (escd (v:=0) hu h92) (by rw[ext_ext];exact h0)
theorem EInv.n0 {u:UInt8} (h:EInv b i o) (hu:b[i]?=some u) (h92:u.toNat=92) (hl:¬i+1<b.size):unB b=none:=by
 refine h.bad hu h92 ?_;have e:b.extract (i+1) b.size=ByteArray.empty:=by rw[zcF,jJ.2 (by rw[zT];omega)];rfl
 exact(esc_0 e).2.symm
theorem EInv.n1 {u v:UInt8} (h:EInv b i o) (hu:b[i]?=some u) (h92:u.toNat=92) (hv:b[i+1]?=some v) (hn:¬(v.toNat=34\/v.toNat=92)) (hn2:¬v.toNat=110)
 (hc:¬(v.toNat=120/\i+3<b.size/\0<=hexI (zC b (i+2))/\0<=hexI (zC b (i+3)))):unB b=none:=by
 have hb:zC (b.extract (i+1) b.size) 0=v.toNat:=zen hv;have hk:∀ k,zC (b.extract (i+1) b.size) k=zC b (i+1+k):=λk=>by unfold zC;rw[ext_at]
 refine h.bad hu h92 ?_;exact(zgx (zfz hv) (by rw[hb];exact hn) (by rw[hb];exact hn2) (λe=>hc ⟨by rw[<-hb];exact e.1,by have:=e.2.1;rw[cR] at this;omega,by have:=e.2.2.1;rw[hk] at this;exact this,by have:=e.2.2.2;rw[hk] at this;exact this⟩)).2.symm
theorem EInv.done (h:EInv b i o) (hi:b.size<=i):unB b=some o:=UInv.done h (by rw[zcF,jJ.2 (by rw[zT];omega)];rfl)
end
theorem zea {s t:ByteArray} (h:zad t=s):2<=s.size/\zC s 0=34/\zC s (s.size-1)=34/\unB (s.extract 1 (s.size-1))=some (bl8 t):=by
 subst h;have hq:=zeb t;have hl:bl8 (zad t)=34::(zR t 0++[34]):=by rw[quote_bl8];rfl
 have hz:(zad t).size=(zR t 0).length+2:=by rw[<-zT,hl];simp
 have e:∀ (s:ByteArray) (j:Nat),s[j]?=(bl8 s)[j]?:=λs j=>by
  by_cases h:j<s.size
  · have h':j<(bl8 s).length:=(by rw[zT];exact h);rw[getElem?_pos s j h,dK h'];rfl
  rw[getElem?_neg s j h,jT (by rw[zT];omega)]
 refine⟨by omega,?_,?_,?_⟩
 · unfold zC;rw[e,hl];rfl
 · unfold zC;rw[e,hl,hz];show ((34::(zR t 0++[34]))[(zR t 0).length+1]?.getD 0).toNat=34;rw[List.getElem?_cons_succ,uO (cU _),Nat.sub_self];rfl
 have em:(zad t).extract 1 ((zad t).size-1)=mkB (zR t 0):=by
  rw[zcp (by omega),hl,hz];congr 1;show ((34::(zR t 0++[34])).take ((zR t 0).length+1)).drop 1=_;rw[vM];show (zR t 0++[34]).take (zR t 0).length=_;rw[List.take_left]
 rw[em];unfold unB;rw[z8,zbq];have:=quote_un t _ 0 rfl 0 [] (cU _);rw[jO] at this;rw[show (zR t 0).length=(zR t 0).length+0 from rfl,this];show some (bts t 0++[])=some (bl8 t);rw[jO];rfl
theorem zfY {s:ByteArray} (h:∀ t,zad t≠s):ByteArray.empty=unqT s/\false=zcf s:=by
 unfold unqT zcf;rw[unqB_none h];exact⟨rfl,rfl⟩
theorem unq_short {s:ByteArray} (h:s.size<2):ByteArray.empty=unqT s/\false=zcf s:=zfY λt e=>by have:=(zea e).1;omega
theorem unq_head {s:ByteArray} {u:UInt8} (hu:s[0]?=some u) (h:¬u.toNat=34):ByteArray.empty=unqT s/\false=zcf s:=zfY λt e=>h (by rw[zJ hu];exact(zea e).2.1)
theorem unq_last {s:ByteArray} {u:UInt8} (hu:s[s.size-1]?=some u) (h:¬u.toNat=34):ByteArray.empty=unqT s/\false=zcf s:=zfY λt e=>h (by rw[zJ hu];exact(zea e).2.2.1)
theorem ze6 {s:ByteArray} (h:unB (s.extract 1 (s.size-1))=none):ByteArray.empty=unqT s/\false=zcf s:=zfY λt e=>by rw[(zea e).2.2.2] at h;cases h
theorem unq_off {s:ByteArray} {o:List UInt8} (h:unB (s.extract 1 (s.size-1))=some o) (hq:¬zad (mkB o)=s):ByteArray.empty=unqT s/\false=zcf s:=zfY λt e=>by
 rw[(zea e).2.2.2] at h;injection h with h;rw[<-h,zew] at hq;exact hq e
theorem unq_yes {s:ByteArray} {o:List UInt8} (hq:zad (mkB o)=s):mkB o=unqT s/\true=zcf s:=by
 unfold unqT zcf;rw[unqB_some hq];exact⟨rfl,rfl⟩
end Lp
