import Derived.Test.YtheccaeefigajaaGreatDoorPSev3
set_option linter.unusedVariables false
namespace Lp
open Go
def zcB:List UInt8→Option Nat
 | []=>none
 | [b]=>if b=92 then none else if b=34 then some 0 else none
 | b::c::t=>if b=92 then(zcB t).map (· +2) else if b=34 then some 0 else(zcB (c::t)).map (· +1)
theorem bscan_esc {t:List UInt8}:zcB (92::t)=(zcB (t.drop 1)).map (· +2):=by
 cases t with
 | nil=>rfl
 | cons c t=>show (if (92:UInt8)=92 then _ else _)=_;rw[if_pos rfl];rfl
theorem bscan_raw {b:UInt8} {t:List UInt8} (h:b≠92) (h2:b≠34):zcB (b::t)=(zcB t).map (· +1):=by
 cases t with
 | nil=>show (if b=92 then none else if b=34 then some 0 else none)=_;rw[if_neg h,if_neg h2];rfl
 | cons c t=>show (if b=92 then _ else if b=34 then some 0 else _)=_;rw[if_neg h,if_neg h2]
theorem bscan_end {t:List UInt8}:zcB (34::t)=some 0:=by
 cases t with
 | nil=>rfl
 | cons c t=>rfl
theorem bscan_high:∀ (j:Nat) (l:List UInt8),j≤l.length→(∀ k,k<j→128≤gb l k)→zcB l=(zcB (l.drop j)).map (· +j)
 | 0,l,_,_=>by simp
 | j+1,[],h,_=>by simp at h
 | j+1,b::t,h,hk=>by
  have h0:128≤b.toNat:=hk 0 (by omega)
  rw[bscan_raw (by rintro rfl;exact absurd h0 (by decide)) (by rintro rfl;exact absurd h0 (by decide))]
  rw[bscan_high j t (by simpa using h) (fun k hk2=>hk (k+1) (by omega))]
  show _=(zcB (t.drop j)).map _
  cases zcB (t.drop j) with
  | none=>rfl
  | some i=>show some (i+j+1)=some (i+(j+1));congr 1
theorem dec_high {l:List UInt8} {k:Nat} (h1:1≤k) (h2:k<(decL l).2):128≤gb l k:=by
 have c:∀ {j:Nat},zb3 l j=true→128≤gb l j:=fun {j} h=>by
  unfold zb3 at h
  simp only[Bool.and_eq_true,beq_iff_eq] at h
  omega
 revert h2
 unfold decL
 split
 · intro h2;have h2:k<1:=h2;omega
 · split
   · rename_i h
     simp only[Bool.and_eq_true] at h
     split
     · intro h2;have h2:k<2:=h2
       obtain rfl:k=1:=by omega
       exact c h.2
     · intro h2;have h2:k<1:=h2;omega
   · split
     · rename_i h
       simp only[Bool.and_eq_true] at h
       split
       · intro h2;have h2:k<3:=h2
         rcases (show k=1∨k=2 by omega) with rfl | rfl
         · exact c h.1.2
         · exact c h.2
       · intro h2;have h2:k<1:=h2;omega
     · split
       · rename_i h
         simp only[Bool.and_eq_true] at h
         split
         · intro h2;have h2:k<4:=h2
           rcases (show k=1∨k=2∨k=3 by omega) with rfl | rfl | rfl
           · exact c h.1.1.2
           · exact c h.1.2
           · exact c h.2
         · intro h2;have h2:k<1:=h2;omega
       · intro h2;have h2:k<1:=h2;omega
theorem dec_first_high {b:UInt8} {t:List UInt8} (h:¬b.toNat<128):128≤(decL (b::t)).1∧128≤b.toNat:=by
 have h0:gb (b::t) 0=b.toNat:=rfl
 have hb:b.toNat<256:=UInt8.toNat_lt _
 refine⟨?_,by omega⟩
 unfold decL
 rw[h0,if_neg h]
 split
 · split
   · show 128≤_;omega
   · show 128≤65533;omega
 · split
   · split
     · rename_i h3
       simp only[Bool.and_eq_true,decide_eq_true_eq] at h3
       show 128≤_
       have:=h3.1;omega
     · show 128≤65533;omega
   · split
     · split
       · rename_i h3
         simp only[Bool.and_eq_true,decide_eq_true_eq] at h3
         show 128≤_
         have:=h3.1;omega
       · show 128≤65533;omega
     · show 128≤65533;omega
theorem map_map_add (o:Option Nat) (a b:Nat):(o.map (· +a)).map (· +b)=o.map (· +(a+b)):=by
 cases o with
 | none=>rfl
 | some i=>show some (i+a+b)=some (i+(a+b));congr 1;omega
theorem bscan_qscan:∀ (n:Nat) (l:List UInt8),l.length=n→zS false l=zcB l:=by
 intro n
 induction n using Nat.strongRecOn with
 | _ n ih=>
  intro l hl
  cases l with
  | nil=>rw[qscan_nil];rfl
  | cons b t=>
   have hd:=zaZ (b::t)
   have hle:=zdM (l:=b::t) (by simp)
   by_cases hb:b.toNat<128
   · by_cases h92:b=92
     · subst h92
       rw[zbm (by simp),zR hb,if_neg (by simp),if_pos (by decide),bscan_esc]
       show (zS true t).map _=_
       cases t with
       | nil=>rw[qscan_nil];rfl
       | cons c t=>
        have hw:=zaZ (c::t)
        have hwl:=zdM (l:=c::t) (by simp)
        simp only[List.length_cons] at hl hwl
        rw[zbm (by simp),if_pos rfl]
        rw[ih ((c::t).drop (decL (c::t)).2).length (by rw[List.length_drop,List.length_cons];omega) _ rfl,map_map_add]
        show _=(zcB t).map _
        have e:=bscan_high ((decL (c::t)).2-1) t (by omega) (fun k hk=>by
         have:=dec_high (l:=c::t) (k:=k+1) (by omega) (by omega)
         exact this)
        have e2:(c::t).drop (decL (c::t)).2=t.drop ((decL (c::t)).2-1):=by
         obtain ⟨m,hm⟩:∃ m,(decL (c::t)).2=m+1:=⟨(decL (c::t)).2-1,by omega⟩
         rw[hm];rfl
        rw[e,map_map_add,e2]
        congr 1
        funext i
        show i+_=i+_
        omega
     · by_cases h34:b=34
       · subst h34
         rw[zbm (by simp),zR hb,if_neg (by simp),if_neg (by decide),if_pos (by decide),bscan_end]
       · have n1:b.toNat≠92:=fun e=>h92 (UInt8.toNat_inj.1 e)
         have n2:b.toNat≠34:=fun e=>h34 (UInt8.toNat_inj.1 e)
         simp only[List.length_cons] at hl
         rw[qs_plain hb n1 n2,bscan_raw h92 h34,ih t.length (by omega) t rfl]
   · obtain ⟨g1,g2⟩:=dec_first_high (t:=t) hb
     simp only[List.length_cons] at hl
     rw[zbm (by simp),if_neg (by simp),if_neg (by omega),if_neg (by omega)]
     rw[ih ((b::t).drop (decL (b::t)).2).length (by rw[List.length_drop,List.length_cons];omega) _ rfl]
     exact(bscan_high _ _ hle (fun k hk=>by
      rcases Nat.eq_zero_or_pos k with rfl | h0
      · exact g2
      · exact dec_high h0 hk)).symm
theorem signIn_k:∀ (xs:List ByteArray) (k:Nat) (l:List UInt8),(∀ x∈xs,x.size=k)→z7 xs l=if k≤l.length∧hasN xs (mkB (l.take k))=true then(⟨5,0,mkB (l.take k)⟩,k) else(zaS,0)
 | [],k,l,_=>by simp[z7,hasN]
 | x::xs,k,l,h=>by
  have hx:=h x List.mem_cons_self
  have ih:=signIn_k xs k l (fun y hy=>h y (List.mem_cons_of_mem _ hy))
  unfold z7
  by_cases hp:(bl8 x).isPrefixOf l=true
  · rw[if_pos hp]
    rw[List.isPrefixOf_iff_prefix] at hp
    have hl:=hp.length_le
    rw[zF,hx] at hl
    have e:mkB (l.take k)=x:=by
     obtain ⟨t,rfl⟩:=hp
     rw[List.take_left' (by rw[zF,hx]),zdK]
    rw[if_pos ⟨hl,by rw[e];simp[hasN]⟩,e,hx]
  · rw[if_neg hp,ih]
    have hn:k≤l.length→¬mkB (l.take k)=x:=fun hl e=>hp (by
     rw[List.isPrefixOf_iff_prefix]
     refine⟨l.drop k,?_⟩
     rw[←e,zaP,List.take_append_drop])
    have e:(k≤l.length∧hasN (x::xs) (mkB (l.take k))=true)↔(k≤l.length∧hasN xs (mkB (l.take k))=true):=by
     constructor
     · rintro ⟨h1,h2⟩
       refine⟨h1,?_⟩
       have h3:=hn h1
       simp only[hasN,List.any_cons,Bool.or_eq_true,decide_eq_true_eq] at h2 ⊢
       rcases h2 with h2 | h2
       · first | exact absurd h2 h3 | exact absurd h2.symm h3
       · exact h2
     · rintro ⟨h1,h2⟩
       refine⟨h1,?_⟩
       simp only[hasN,List.any_cons,Bool.or_eq_true,decide_eq_true_eq] at h2 ⊢
       exact .inr h2
    simp only[e]
theorem signIn_cons {x:ByteArray} {xs:List ByteArray} {l:List UInt8}:z7 (x::xs) l=if (bl8 x).isPrefixOf l=true then(⟨5,0,x⟩,x.size) else z7 xs l:=by
 conv=>lhs;unfold z7
theorem signIn_cat:∀ (xs ys:List ByteArray) (l:List UInt8),(∀ x∈xs,0<x.size)→z7 (xs++ys) l=if (z7 xs l).2=0 then z7 ys l else z7 xs l
 | [],ys,l,_=>by
  have e:(z7 [] l).2=0:=rfl
  show z7 ys l=_
  rw[if_pos e]
 | x::xs,ys,l,h=>by
  have hx:=h x List.mem_cons_self
  have ih:=signIn_cat xs ys l (fun y hy=>h y (List.mem_cons_of_mem _ hy))
  show z7 (x::(xs++ys)) l=_
  rw[signIn_cons,signIn_cons]
  by_cases hp:(bl8 x).isPrefixOf l=true
  · rw[if_pos hp,if_pos hp,if_neg (by show ¬x.size=0;omega)]
  · rw[if_neg hp,if_neg hp,ih]
def zeJ:List ByteArray:=zaa.take 6
def zeK:List ByteArray:=zaa.drop 6
theorem signT_two {l:List UInt8}:zbz l=if 2≤l.length∧hasN zaa (mkB (l.take 2))=true then(⟨5,0,mkB (l.take 2)⟩,2) else if 1≤l.length∧hasN zaa (mkB (l.take 1))=true then(⟨5,0,mkB (l.take 1)⟩,1) else(zaS,0):=by
 have h2:∀ x∈zeJ,x.size=2:=by decide
 have h1:∀ x∈zeK,x.size=1:=by decide
 have e:zaa=zeJ++zeK:=rfl
 have hh:∀ (y:ByteArray),hasN zaa y=(hasN zeJ y||hasN zeK y):=fun y=>by rw[e];simp[hasN]
 have no:∀ (xs:List ByteArray) (k:Nat) (y:ByteArray),(∀ x∈xs,x.size=k)→y.size≠k→hasN xs y=false:=fun xs k y h hy=>by
  unfold hasN
  rw[List.any_eq_false]
  intro x hx e
  rw[decide_eq_true_eq] at e
  exact hy (by first | (rw[e];exact h x hx) | (rw[←e];exact h x hx))
 have k2:2≤l.length→hasN zaa (mkB (l.take 2))=hasN zeJ (mkB (l.take 2)):=fun h=>by
  rw[hh,no zeK 1 _ h1 (by rw[zM,List.length_take];omega),Bool.or_false]
 have k1:1≤l.length→hasN zaa (mkB (l.take 1))=hasN zeK (mkB (l.take 1)):=fun h=>by
  rw[hh,no zeJ 2 _ h2 (by rw[zM,List.length_take];omega),Bool.false_or]
 unfold zbz
 rw[e,signIn_cat _ _ _ (fun x hx=>by have:=h2 x hx;omega),signIn_k _ 2 l h2,signIn_k _ 1 l h1,←e]
 by_cases a:2≤l.length∧hasN zeJ (mkB (l.take 2))=true
 · rw[if_pos a,if_neg (by show ¬(2:Nat)=0;omega),if_pos ⟨a.1,by rw[k2 a.1];exact a.2⟩]
 · have na:¬(2≤l.length∧hasN zaa (mkB (l.take 2))=true):=fun e=>a ⟨e.1,by rw[←k2 e.1];exact e.2⟩
   rw[if_neg a,if_pos rfl,if_neg na]
   by_cases b:1≤l.length∧hasN zeK (mkB (l.take 1))=true
   · rw[if_pos b,if_pos ⟨b.1,by rw[k1 b.1];exact b.2⟩]
   · rw[if_neg b,if_neg (fun e=>b ⟨e.1,by rw[←k1 e.1];exact e.2⟩)]
def wcL (l:List UInt8):Nat:=if h:l≠[]∧isLD ((decL l).1:Int)=true then 1+wcL (l.drop (decL l).2) else 0
termination_by l.length
decreasing_by
 have h1:=zaZ l
 have h2:=List.length_pos_iff.2 h.1
 rw[List.length_drop];omega
theorem wcL_t {l:List UInt8} (h:l≠[]) (hf:isLD ((decL l).1:Int)=true):wcL l=1+wcL (l.drop (decL l).2):=by
 conv=>lhs;unfold wcL
 rw[dif_pos ⟨h,hf⟩]
theorem wcL_f {l:List UInt8} (hf:isLD ((decL l).1:Int)=false):wcL l=0:=by
 unfold wcL;rw[dif_neg (by rw[hf];simp)]
theorem wcL_nil:wcL []=0:=by unfold wcL;rw[dif_neg (by simp)]
def rL (l:List UInt8):List Int:=if h:l=[] then [] else((decL l).1:Int)::rL (l.drop (decL l).2)
termination_by l.length
decreasing_by
 have h1:=zaZ l
 have h2:=List.length_pos_iff.2 h
 rw[List.length_drop];omega
theorem rL_nil:rL []=[]:=by unfold rL;rw[dif_pos rfl]
theorem rL_cons {l:List UInt8} (h:l≠[]):rL l=((decL l).1:Int)::rL (l.drop (decL l).2):=by
 conv=>lhs;unfold rL
 rw[dif_neg h]
theorem runes_rL:∀ (n:Nat) (s:ByteArray) (p:Nat),s.size-p=n→zao s p=rL (bts s p):=by
 intro n
 induction n using Nat.strongRecOn with
 | _ n ih=>
  intro s p hp
  rcases Nat.lt_or_ge p s.size with h | h
  · have h1:=zp s p
    rw[zX h,rL_cons (zcG h),zbe,←zaO,←zbq,ih _ (by omega) s _ rfl]
  · rw[zaf h,zct h,rL_nil]
theorem zdz {r:Int}:isLD r=true↔(zt r=1∨zt r=2):=by
 show inK [1,2] r=true↔_
 unfold inK
 simp only[List.any_cons,List.any_nil,Bool.or_false,Bool.or_eq_true,decide_eq_true_eq]
 constructor
 · rintro (h | h)
   · exact .inl h.symm
   · exact .inr h.symm
 · rintro (h | h)
   · exact .inl h.symm
   · exact .inr h.symm
theorem dec_own {l:List UInt8} (h:l≠[]) (hf:isLD ((decL l).1:Int)=true):l=encR (decL l).1++l.drop (decL l).2∧(encR (decL l).1).length=(decL l).2∧∀ x,(decL (encR (decL l).1++x)).1=(decL l).1:=by
 have hs:0<(mkB l).size:=by rw[zM];exact List.length_pos_iff.2 h
 have hb:bts (mkB l) 0=l:=ze8 l
 have hd:decR (mkB l) 0=(decL l).1:=by rw[zaO,hb]
 have hw:decW (mkB l) 0=(decL l).2:=by rw[zbq,hb]
 have hlt:=decL_lt l
 rcases dec_cases (mkB l) 0 hs with e | ⟨e,_,_⟩
 · have e2:bts (mkB l) (0+decW (mkB l) 0)=l.drop (decL l).2:=by rw[←zbe,hb,hw]
   rw[e2,hb,hd] at e
   have hc:=congrArg decL e
   have hS:=dec_encS (decL l).1 (l.drop (decL l).2) hlt
   rw[←e] at hS
   have hn:¬(55296≤(decL l).1∧(decL l).1≤57343):=fun hh=>by
    have:=hS.2
    rw[if_pos hh] at this;omega
   exact⟨e,hS.1.symm,fun x=>by rw[(dec_encS (decL l).1 x hlt).2,if_neg hn]⟩
 · exfalso
   rw[hd] at e
   rw[zdz,e] at hf
   revert hf;decide
theorem word_take:∀ (n:Nat) (l:List UInt8),l.length=n→(rL (l.take (runL isLD l))).length=wcL l∧zc9 (rL (l.take (runL isLD l)))=true:=by
 intro n
 induction n using Nat.strongRecOn with
 | _ n ih=>
  intro l hl
  by_cases h:l≠[]∧isLD ((decL l).1:Int)=true
  · obtain ⟨e1,e2,e3⟩:=dec_own h.1 h.2
    have hp:=zaZ l
    have hle:=zdM h.1
    obtain ⟨i1,i2⟩:=ih (l.length-(decL l).2) (by omega) (l.drop (decL l).2) List.length_drop
    have ht:l.take (runL isLD l)=encR (decL l).1++(l.drop (decL l).2).take (runL isLD (l.drop (decL l).2)):=by
     rw[zb8 h.1 h.2]
     conv=>lhs;arg 2;rw[e1]
     rw[←e2,List.take_length_add_append]
    have hne:encR (decL l).1++(l.drop (decL l).2).take (runL isLD (l.drop (decL l).2))≠[]:=fun e=>by
     have:=congrArg List.length e
     rw[List.length_append,e2] at this
     simp only[List.length_nil] at this;omega
    have hd1:=e3 ((l.drop (decL l).2).take (runL isLD (l.drop (decL l).2)))
    have hd2:=(dec_encS (decL l).1 ((l.drop (decL l).2).take (runL isLD (l.drop (decL l).2))) (decL_lt l)).1
    have hr:rL (l.take (runL isLD l))=((decL l).1:Int)::rL ((l.drop (decL l).2).take (runL isLD (l.drop (decL l).2))):=by
     rw[ht,rL_cons hne,hd1,hd2,List.drop_left]
    rw[hr,wcL_t h.1 h.2]
    refine⟨by rw[List.length_cons,i1];omega,?_⟩
    rw[zcT,i2,Bool.and_true,decide_eq_true_eq]
    exact zdz.1 h.2
  · have h0:runL isLD l=0:=by unfold runL;rw[dif_neg h]
    have h1:wcL l=0:=by unfold wcL;rw[dif_neg h]
    rw[h0,h1,List.take_zero,rL_nil];exact⟨rfl,rfl⟩
theorem name_count {l:List UInt8} (h:zt ((decL l).1:Int)=1):zbN (mkB (l.take (runL isLD l)))=decide (wcL l≤30):=by
 obtain ⟨h1,h2⟩:=word_take _ l rfl
 have hne:l≠[]:=by
  rintro rfl
  revert h;decide
 have hf:isLD ((decL l).1:Int)=true:=zdz.2 (.inl h)
 obtain ⟨e1,e2,e3⟩:=dec_own hne hf
 have hp:=zaZ l
 have hr:zo (mkB (l.take (runL isLD l)))=rL (l.take (runL isLD l)):=by
  have:=runes_rL _ (mkB (l.take (runL isLD l))) 0 rfl
  rw[show bts (mkB (l.take (runL isLD l))) 0=l.take (runL isLD l) from ze8 _] at this
  exact this
 have hd:(rL (l.take (runL isLD l))).getD 0 0=((decL l).1:Int):=by
  have ht:l.take (runL isLD l)=encR (decL l).1++(l.drop (decL l).2).take (runL isLD (l.drop (decL l).2)):=by
   rw[zb8 hne hf]
   conv=>lhs;arg 2;rw[e1]
   rw[←e2,List.take_length_add_append]
  have hn2:l.take (runL isLD l)≠[]:=fun e=>by
   have:=congrArg List.length e
   rw[ht,List.length_append,e2] at this
   simp only[List.length_nil] at this;omega
  rw[rL_cons hn2,ht,e3];rfl
 have hw:=wcL_t hne hf
 unfold zbN
 rw[zbE,hr,hd,h2,h1,h]
 have:1≤wcL l:=by omega
 simp[this]
theorem wordT_count {l:List UInt8} (h:zt ((decL l).1:Int)=1):zbM l=if wcL l≤30 then(⟨1,0,mkB (l.take (runL isLD l))⟩,runL isLD l) else(zaS,0):=by
 unfold zbM
 rw[name_count h]
 simp only[decide_eq_true_eq]
section
variable {s:ByteArray} {p:Nat}
theorem wc_start:wcL (bl8 s)=0+wcL (bts s 0):=by rw[Nat.zero_add];rfl
theorem wc_next {k:Nat} (hf:wcL (bl8 s)=k+wcL (bts s p)) (h:p<s.size) (ht:isLD ((decR s p:Nat):Int)=true):wcL (bl8 s)=(k+1)+wcL (bts s (p+decW s p)):=by
 rw[zaO] at ht
 rw[hf,wcL_t (zcG h) ht,zbe,←zbq,Nat.add_assoc]
theorem wc_stop {k:Nat} (hf:wcL (bl8 s)=k+wcL (bts s p)) (ht:isLD ((decR s p:Nat):Int)=false):k=wcL (bl8 s):=by
 rw[zaO] at ht
 rw[hf,wcL_f ht];rfl
theorem wc_end {k:Nat} (hf:wcL (bl8 s)=k+wcL (bts s p)) (h:s.size≤p):k=wcL (bl8 s):=by rw[hf,zct h,wcL_nil];rfl
theorem wc_le:∀ (n:Nat) (l:List UInt8),l.length=n→wcL l≤l.length:=by
 intro n
 induction n using Nat.strongRecOn with
 | _ n ih=>
  intro l hl
  by_cases h:l≠[]∧isLD ((decL l).1:Int)=true
  · have h1:=zaZ l
    have h2:=zdM h.1
    have:=ih (l.length-(decL l).2) (by omega) _ List.length_drop
    rw[List.length_drop] at this
    rw[wcL_t h.1 h.2];omega
  · unfold wcL;rw[dif_neg h];omega
theorem dig_byte {u:UInt8} (h:s[p]?=some u) (hd:48≤u.toNat∧u.toNat≤57) (hf:runL isD (bl8 s)=p+runL isD (bts s p)) (hp:p<s.size):runL isD (bl8 s)=(p+1)+runL isD (bts s (p+1)):=by
 have e:bts s p=u::bts s (p+1):=by rw[zaj hp,show s.get! p=u from UInt8.toNat_inj.1 (by rw[←zcq hp,zx h])]
 obtain ⟨h1,h2⟩:=dig_kind hd (bts s (p+1))
 rw[hf,e,zb8 (by simp) (isD_2 _ h1),h2]
 show p+(1+runL isD (bts s (p+1)))=_
 omega
end
end Lp
set_option linter.unusedSimpArgs false
set_option linter.unusedVariables false
set_option maxHeartbeats 4000000
set_option maxRecDepth 100000
namespace Lp
open Go Go.RowKit Go.Proofs
theorem hasN_no {l:List ByteArray} {s:ByteArray} (h:∀ m∈l,¬s=m):hasN l s=false:=by
 unfold hasN
 rw[List.any_eq_false]
 intro m hm e
 rw[decide_eq_true_eq] at e
 exact h m hm e.symm
theorem rfirst_c (s:ByteArray) (hz:0<s.size):
 CD Tryz.prog 137 [] [.s s] (isR (dR ((decR s 0:Nat):Int))):=by
 refine tZ Tryz.func137 O O (fun C=>?_)
 refine T.bd 0 O (fun bd0=>?_)
 have sz0:s.size≤9223372036854775807:=bd0
 refine g' 9 O (tE O (zbJ O Tryz.runUnderlying9) ?_)
 rintro _ _ ⟨g1,rfl,rfl⟩
 refine g' 3 O (tl1 (fun (a_:Nat)=>[(6,dP g1 0)]) (fun a_=>[.it g1 s a_]) (fun a_=>(a_≤s.size)∧(a_=0)) (fun a_=>s.size-a_) 0 O (sa O) HSub.rfl' ⟨Nat.zero_le _,O⟩ ?_)
 rintro p ⟨hp,hp0⟩
 rcases Nat.lt_or_ge p s.size with hlt | hge
 · skip
   have hrune:=zX hlt
   have hrl:=za9 s p
   have hdw:=zJ s p hlt
   have hdp:=zp s p
   refine g' 2 O (tE O (zaU (i:=0) O O hlt) ?_)
   rintro _ _ ⟨rfl,rfl⟩
   refine g' 25 O ?_
   exact tRs O Tryz.results137 (.cons (zd (zc O) (Cv.eq (congrArg dR (by rw[hp0])))) .nil) O HSub.none ⟨O,O⟩
 · skip
   have hrune:=zaf hge
   refine g' 2 O (tP O (zbA (i:=0) O O hge) (g' 16 O ?_))
   exact tRs O Tryz.results137 (.cons (zd (zc O) (Cv.eq (congrArg dR (by exfalso;omega)))) .nil) O HSub.none ⟨O,O⟩
theorem rwide_c (s:ByteArray) (hz:0<s.size):
 CD Tryz.prog 184 [] [.s s] (isR (dN (decW s 0))):=by
 refine tZ Tryz.func184 O O (fun C=>?_)
 refine T.bd 0 O (fun bd0=>?_)
 have sz0:s.size≤9223372036854775807:=bd0
 have hw0:=zJ s 0 hz
 have hw1:=zp s 0
 refine g' 9 O (tE O (zbJ O Tryz.runUnderlying9) ?_)
 rintro _ _ ⟨g1,rfl,rfl⟩
 refine g' 3 O (tl1 (fun (a_:Nat)=>[(0,.s s),(5,dP g1 0)]) (fun a_=>[.it g1 s a_]) (fun a_=>(a_≤s.size)∧(a_=0∨a_=decW s 0)) (fun a_=>s.size-a_) 0 O (sa O) HSub.rfl' ⟨Nat.zero_le _,.inl O⟩ ?_)
 rintro p ⟨hp,hp0⟩
 rcases Nat.lt_or_ge p s.size with hlt | hge
 · skip
   have hrune:=zX hlt
   have hrl:=za9 s p
   have hdw:=zJ s p hlt
   have hdp:=zp s p
   refine g' 2 O (tE O (zaU (i:=0) O O hlt) ?_)
   rintro _ _ ⟨rfl,rfl⟩
   refine g' 20 O ?_
   refine tD O (fun hc2=>?_) (fun hc2=>?_)
   · skip
     refine g' 11 O ?_
     exact tRs O Tryz.results184 (.cons (zd (zc O) (Cv.eq (congrArg dN (by omega)))) .nil) O HSub.none ⟨O,O⟩
   · skip
     refine g' 2 O ?_
     exact tp1 (p+decW s p) (sa O) HSub.rfl' ⟨by have:=zJ s p hlt;omega,.inr (by have hp1:p=0:=(by omega);rw[hp1,Nat.zero_add])⟩ (by have:=zp s p;omega)
 · skip
   have hrune:=zaf hge
   refine g' 2 O (tP O (zbA (i:=0) O O hge) (g' 13 O (tP O (zu O Tryz.runUnderlying9) (g' 4 O ?_))))
   exact tRs O Tryz.results184 (.cons (zd (zc O) (Cv.eq (congrArg dN (by have hw0:=zJ s 0 hz;have hw1:=zp s 0;omega)))) .nil) O HSub.none ⟨O,O⟩
theorem rSign_c (s:ByteArray) :
 CD Tryz.prog 165 [] [.s s] (isR (dB (hasN zaa s))):=by
 refine tZ Tryz.func165 O O (fun C=>?_)
 refine T.bd 0 O (fun bd0=>?_)
 have sz0:s.size≤9223372036854775807:=bd0
 refine g' 13 O ?_
 refine tJ (fun (jg:Bool)=>[(2,dB false),(4,dB jg)]) (fun (jg:Bool)=>[]) (fun (jg:Bool)=>(jg=hasN zaa s)) (fun _ hQ1=>?_) ?_
 · skip
   refine g' 6 O ?_
   refine tD O (fun hc2=>?_) (fun hc2=>?_)
   · skip
     refine g' 1 O ?_
     exact tqe (hQ1 (decide (s=(⟨#[43]⟩:ByteArray))) (by rw[hc2];decide)) O
   · skip
     refine g' 6 O ?_
     refine tD O (fun hc3=>?_) (fun hc3=>?_)
     · skip
       refine g' 1 O ?_
       exact tqe (hQ1 (decide (s=(⟨#[45]⟩:ByteArray))) (by rw[hc3];decide)) O
     · skip
       refine g' 6 O ?_
       refine tD O (fun hc4=>?_) (fun hc4=>?_)
       · skip
         refine g' 1 O ?_
         exact tqe (hQ1 (decide (s=(⟨#[42]⟩:ByteArray))) (by rw[hc4];decide)) O
       · skip
         refine g' 6 O ?_
         refine tD O (fun hc5=>?_) (fun hc5=>?_)
         · skip
           refine g' 1 O ?_
           exact tqe (hQ1 (decide (s=(⟨#[47]⟩:ByteArray))) (by rw[hc5];decide)) O
         · skip
           refine g' 6 O ?_
           refine tD O (fun hc6=>?_) (fun hc6=>?_)
           · skip
             refine g' 1 O ?_
             exact tqe (hQ1 (decide (s=(⟨#[37]⟩:ByteArray))) (by rw[hc6];decide)) O
           · skip
             refine g' 6 O ?_
             refine tD O (fun hc7=>?_) (fun hc7=>?_)
             · skip
               refine g' 1 O ?_
               exact tqe (hQ1 (decide (s=(⟨#[40]⟩:ByteArray))) (by rw[hc7];decide)) O
             · skip
               refine g' 6 O ?_
               refine tD O (fun hc8=>?_) (fun hc8=>?_)
               · skip
                 refine g' 1 O ?_
                 exact tqe (hQ1 (decide (s=(⟨#[41]⟩:ByteArray))) (by rw[hc8];decide)) O
               · skip
                 refine g' 6 O ?_
                 refine tD O (fun hc9=>?_) (fun hc9=>?_)
                 · skip
                   refine g' 1 O ?_
                   exact tqe (hQ1 (decide (s=(⟨#[123]⟩:ByteArray))) (by rw[hc9];decide)) O
                 · skip
                   refine g' 6 O ?_
                   refine tD O (fun hc10=>?_) (fun hc10=>?_)
                   · skip
                     refine g' 1 O ?_
                     exact tqe (hQ1 (decide (s=(⟨#[125]⟩:ByteArray))) (by rw[hc10];decide)) O
                   · skip
                     refine g' 6 O ?_
                     refine tD O (fun hc11=>?_) (fun hc11=>?_)
                     · skip
                       refine g' 1 O ?_
                       exact tqe (hQ1 (decide (s=(⟨#[91]⟩:ByteArray))) (by rw[hc11];decide)) O
                     · skip
                       refine g' 6 O ?_
                       refine tD O (fun hc12=>?_) (fun hc12=>?_)
                       · skip
                         refine g' 1 O ?_
                         exact tqe (hQ1 (decide (s=(⟨#[93]⟩:ByteArray))) (by rw[hc12];decide)) O
                       · skip
                         refine g' 6 O ?_
                         refine tD O (fun hc13=>?_) (fun hc13=>?_)
                         · skip
                           refine g' 1 O ?_
                           exact tqe (hQ1 (decide (s=(⟨#[44]⟩:ByteArray))) (by rw[hc13];decide)) O
                         · skip
                           refine g' 6 O ?_
                           refine tD O (fun hc14=>?_) (fun hc14=>?_)
                           · skip
                             refine g' 1 O ?_
                             exact tqe (hQ1 (decide (s=(⟨#[61]⟩:ByteArray))) (by rw[hc14];decide)) O
                           · skip
                             refine g' 6 O ?_
                             refine tD O (fun hc15=>?_) (fun hc15=>?_)
                             · skip
                               refine g' 1 O ?_
                               exact tqe (hQ1 (decide (s=(⟨#[61,61]⟩:ByteArray))) (by rw[hc15];decide)) O
                             · skip
                               refine g' 6 O ?_
                               refine tD O (fun hc16=>?_) (fun hc16=>?_)
                               · skip
                                 refine g' 1 O ?_
                                 exact tqe (hQ1 (decide (s=(⟨#[33,61]⟩:ByteArray))) (by rw[hc16];decide)) O
                               · skip
                                 refine g' 6 O ?_
                                 refine tD O (fun hc17=>?_) (fun hc17=>?_)
                                 · skip
                                   refine g' 1 O ?_
                                   exact tqe (hQ1 (decide (s=(⟨#[60]⟩:ByteArray))) (by rw[hc17];decide)) O
                                 · skip
                                   refine g' 6 O ?_
                                   refine tD O (fun hc18=>?_) (fun hc18=>?_)
                                   · skip
                                     refine g' 1 O ?_
                                     exact tqe (hQ1 (decide (s=(⟨#[60,61]⟩:ByteArray))) (by rw[hc18];decide)) O
                                   · skip
                                     refine g' 6 O ?_
                                     refine tD O (fun hc19=>?_) (fun hc19=>?_)
                                     · skip
                                       refine g' 1 O ?_
                                       exact tqe (hQ1 (decide (s=(⟨#[62]⟩:ByteArray))) (by rw[hc19];decide)) O
                                     · skip
                                       refine g' 6 O ?_
                                       refine tD O (fun hc20=>?_) (fun hc20=>?_)
                                       · skip
                                         refine g' 1 O ?_
                                         exact tqe (hQ1 (decide (s=(⟨#[62,61]⟩:ByteArray))) (by rw[hc20];decide)) O
                                       · skip
                                         refine g' 6 O ?_
                                         refine tD O (fun hc21=>?_) (fun hc21=>?_)
                                         · skip
                                           refine g' 1 O ?_
                                           exact tqe (hQ1 (decide (s=(⟨#[61,126]⟩:ByteArray))) (by rw[hc21];decide)) O
                                         · skip
                                           refine g' 4 O ?_
                                           exact tqe (hQ1 (decide (s=(⟨#[33,126]⟩:ByteArray))) (by by_cases hz:s=(⟨#[33,126]⟩:ByteArray);(rw[hz];decide);rw[decide_eq_false hz];exact(hasN_no (by simp only[zaa,List.forall_mem_cons];exact⟨by assumption,by assumption,by assumption,by assumption,by assumption,by assumption,by assumption,by assumption,by assumption,by assumption,by assumption,by assumption,by assumption,by assumption,by assumption,by assumption,by assumption,by assumption,by assumption,by assumption,by assumption,by simp⟩)).symm)) O
 · skip
   rintro sb hsb
   refine g' 1 O ?_
   refine tC O (fun hc22=>?_) (fun hc22=>?_)
   · skip
     refine g' 8 O ?_
     exact tRs O Tryz.results165 (.cons (zd (zc O) (cB ((by exact hc22.symm.trans hsb)))) .nil) O HSub.none ⟨O,O⟩
   · skip
     refine g' 9 O ?_
     exact tRs O Tryz.results165 (.cons (zd (zc O) (cB ((by exact hc22.symm.trans hsb)))) .nil) O HSub.none ⟨O,O⟩
end Lp
set_option linter.unusedVariables false
namespace Lp
open Go
theorem hexI_eq:∀ c:Nat,c<256→hexI c=if 48≤c∧c≤57 then(c:Int)-48 else if 97≤c∧c≤102 then(c:Int)-87 else -1:=by decide+kernel
section
variable {b:ByteArray} {i:Nat} {o:List UInt8}
theorem ext_ext {k:Nat}:(b.extract i b.size).extract k (b.extract i b.size).size=b.extract (i+k) b.size:=by
 rw[zbT,zbT,zbT,zaP,List.drop_drop]
theorem ext_at {k:Nat}:(b.extract i b.size)[k]?=b[i+k]?:=by
 have e:∀ (s:ByteArray) (j:Nat),s[j]?=(bl8 s)[j]?:=fun s j=>by
  by_cases h:j<s.size
  · have h':j<(bl8 s).length:=by rw[zF];exact h
    rw[getElem?_pos s j h,List.getElem?_eq_getElem h'];rfl
  · rw[getElem?_neg s j h,List.getElem?_eq_none (by rw[zF];omega)]
 rw[e,e,zbT,zaP,List.getElem?_drop]
theorem zdC {k:Nat} {v:UInt8} (h:b[i+k]?=some v):zq (b.extract i b.size) k=v.toNat:=(zx (by rw[ext_at];exact h)).symm
theorem zd8 {k:Nat} {v:UInt8} (h:b[k]?=some v):k<b.size:=by
 by_cases hk:k<b.size
 · exact hk
 · rw[getElem?_neg b k hk] at h;cases h
def EInv (b:ByteArray) (i:Nat) (o:List UInt8):Prop:=UInv b (b.extract i b.size) o
theorem EInv.zero:EInv b 0 []:=by
 unfold EInv
 have e:b.extract 0 b.size=b:=by rw[zbT,List.drop_zero,zdK]
 rw[e];exact UInv.zero b
theorem EInv.raw {u:UInt8} (h:EInv b i o) (hu:b[i]?=some u) (h2:¬u.toNat=92):EInv b (i+1) (o++[u]):=by
 have:=UInv.raw h (by rw[ext_at];exact hu) (fun e=>h2 (by rw[e];rfl))
 rw[ext_ext] at this;exact this
theorem escd {u v:UInt8} (hu:b[i]?=some u) (h92:u.toNat=92):(b.extract i b.size)[0]?=some 92:=by
 rw[ext_at,Nat.add_zero,hu,show u=92 from UInt8.toNat_inj.1 h92]
theorem EInv.esc {u:UInt8} {n:Nat} {t:ByteArray} (h:EInv b i o) (hu:b[i]?=some u) (h92:u.toNat=92) (ht:t=escT (b.extract (i+1) b.size)) (hn:n=escN (b.extract (i+1) b.size)) (h0:n≠0):EInv b (i+(1+n)) (o++bl8 t):=by
 have e:(b.extract i b.size).extract 1 (b.extract i b.size).size=b.extract (i+1) b.size:=ext_ext
 have:=UInv.esc h (escd (v:=0) hu h92) (by rw[e,←hn];exact h0)
 rw[e,←hn,←ht,ext_ext] at this;exact this
theorem zeC {v:UInt8} (hv:b[i+1]?=some v):0<(b.extract (i+1) b.size).size:=by have:=zd8 hv;rw[ByteArray.size_extract];omega
theorem EInv.e1 {u v:UInt8} (h:EInv b i o) (hu:b[i]?=some u) (h92:u.toNat=92) (hv:b[i+1]?=some v) (hc:v.toNat=34∨v.toNat=92):EInv b (i+2) (o++[v]):=by
 have hb:zq (b.extract (i+1) b.size) 0=v.toNat:=zdC hv
 obtain ⟨t1,t2⟩:=esc_1 (zeC hv) (by rw[hb];exact hc)
 have e:bl8 ((b.extract (i+1) b.size).extract 0 1)=[v]:=by
  rw[zbH (by have:=zeC hv;omega),zaP,List.drop_zero]
  have hx:(bl8 (b.extract (i+1) b.size))[0]?=some v:=by
   rw[zbT,zaP,List.getElem?_drop]
   have e2:b[i+1]?=(bl8 b)[i+1]?:=by
    have hl:=zd8 hv
    rw[getElem?_pos b (i+1) hl,List.getElem?_eq_getElem (by rw[zF];exact hl)];rfl
   rw[Nat.add_zero,←e2];exact hv
  cases e3:bl8 (b.extract (i+1) b.size) with
  | nil=>rw[e3] at hx;cases hx
  | cons c r=>rw[e3] at hx;injection hx with hx;subst hx;rfl
 have:=EInv.esc h hu h92 t1 t2 (by omega)
 rw[e] at this;exact this
theorem EInv.e2 {u v:UInt8} (h:EInv b i o) (hu:b[i]?=some u) (h92:u.toNat=92) (hv:b[i+1]?=some v) (hn:¬(v.toNat=34∨v.toNat=92)) (hc:v.toNat=110):EInv b (i+2) (o++[10]):=by
 have hb:zq (b.extract (i+1) b.size) 0=v.toNat:=zdC hv
 obtain ⟨t1,t2⟩:=esc_2 (zeC hv) (by rw[hb];exact hn) (by rw[hb];exact hc)
 have:=EInv.esc h hu h92 t1 t2 (by omega)
 have e:bl8 (⟨#[10]⟩:ByteArray)=[10]:=by decide
 rw[e] at this;exact this
theorem EInv.e3 {u v x y:UInt8} {p q:Nat} (h:EInv b i o) (hu:b[i]?=some u) (h92:u.toNat=92) (hv:b[i+1]?=some v) (hn:¬(v.toNat=34∨v.toNat=92)) (hn2:¬v.toNat=110) (hc:v.toNat=120) (hx:b[i+2]?=some x) (hy:b[i+3]?=some y) (hp:hexI x.toNat=(p:Int)) (hq:hexI y.toNat=(q:Int)):EInv b (i+4) (o++[UInt8.ofNat (p*16+q)]):=by
 have hb:zq (b.extract (i+1) b.size) 0=v.toNat:=zdC hv
 have hb1:zq (b.extract (i+1) b.size) 1=x.toNat:=zdC hx
 have hb2:zq (b.extract (i+1) b.size) 2=y.toNat:=zdC hy
 have hl:=zd8 hy
 obtain ⟨t1,t2⟩:=esc_3 (a:=p) (b:=q) (zeC hv) (by rw[hb];exact hn) (by rw[hb];exact hn2) ⟨by rw[hb];exact hc,by rw[ByteArray.size_extract];omega⟩ (by rw[hb1];exact hp) (by rw[hb2];exact hq)
 have:=EInv.esc h hu h92 t1 t2 (by omega)
 rw[zaP] at this;exact this
theorem EInv.bad {u:UInt8} (h:EInv b i o) (hu:b[i]?=some u) (h92:u.toNat=92) (h0:escN (b.extract (i+1) b.size)=0):unB b=none:=
 UInv.none h (escd (v:=0) hu h92) (by rw[ext_ext];exact h0)
theorem EInv.n0 {u:UInt8} (h:EInv b i o) (hu:b[i]?=some u) (h92:u.toNat=92) (hl:¬i+1<b.size):unB b=none:=by
 refine h.bad hu h92 ?_
 have e:b.extract (i+1) b.size=ByteArray.empty:=by rw[zbT,List.drop_eq_nil_iff.2 (by rw[zF];omega)];rfl
 exact(esc_0 e).2.symm
theorem EInv.n1 {u v:UInt8} (h:EInv b i o) (hu:b[i]?=some u) (h92:u.toNat=92) (hv:b[i+1]?=some v) (hn:¬(v.toNat=34∨v.toNat=92)) (hn2:¬v.toNat=110)
 (hc:¬(v.toNat=120∧i+3<b.size∧0≤hexI (zq b (i+2))∧0≤hexI (zq b (i+3)))):unB b=none:=by
 have hb:zq (b.extract (i+1) b.size) 0=v.toNat:=zdC hv
 have hk:∀ k,zq (b.extract (i+1) b.size) k=zq b (i+1+k):=fun k=>by unfold zq;rw[ext_at]
 refine h.bad hu h92 ?_
 exact(zft (zeC hv) (by rw[hb];exact hn) (by rw[hb];exact hn2) (fun e=>hc ⟨by rw[←hb];exact e.1,by have:=e.2.1;rw[ByteArray.size_extract] at this;omega,by have:=e.2.2.1;rw[hk] at this;exact this,by have:=e.2.2.2;rw[hk] at this;exact this⟩)).2.symm
theorem EInv.done (h:EInv b i o) (hi:b.size≤i):unB b=some o:=UInv.done h (by rw[zbT,List.drop_eq_nil_iff.2 (by rw[zF];omega)];rfl)
end
theorem zds {s t:ByteArray} (h:zab t=s):2≤s.size∧zq s 0=34∧zq s (s.size-1)=34∧unB (s.extract 1 (s.size-1))=some (bl8 t):=by
 subst h
 have hq:=quoteB_4 t
 have hl:bl8 (zab t)=34::(zD t 0++[34]):=by rw[quote_bl8];rfl
 have hz:(zab t).size=(zD t 0).length+2:=by rw[←zF,hl];simp
 have e:∀ (s:ByteArray) (j:Nat),s[j]?=(bl8 s)[j]?:=fun s j=>by
  by_cases h:j<s.size
  · have h':j<(bl8 s).length:=by rw[zF];exact h
    rw[getElem?_pos s j h,List.getElem?_eq_getElem h'];rfl
  · rw[getElem?_neg s j h,List.getElem?_eq_none (by rw[zF];omega)]
 refine⟨by omega,?_,?_,?_⟩
 · unfold zq;rw[e,hl];rfl
 · unfold zq;rw[e,hl,hz]
   show ((34::(zD t 0++[34]))[(zD t 0).length+1]?.getD 0).toNat=34
   rw[List.getElem?_cons_succ,List.getElem?_append_right (Nat.le_refl _),Nat.sub_self];rfl
 · have em:(zab t).extract 1 ((zab t).size-1)=mkB (zD t 0):=by
    rw[zbH (by omega),hl,hz]
    congr 1
    show ((34::(zD t 0++[34])).take ((zD t 0).length+1)).drop 1=_
    rw[List.take_succ_cons]
    show (zD t 0++[34]).take (zD t 0).length=_
    rw[List.take_left]
   rw[em];unfold unB
   rw[zM,zaP]
   have:=quote_un t _ 0 rfl 0 [] (Nat.le_refl _)
   rw[List.append_nil] at this
   rw[show (zD t 0).length=(zD t 0).length+0 from rfl,this]
   show some (bts t 0++[])=some (bl8 t)
   rw[List.append_nil];rfl
theorem zeZ {s:ByteArray} (h:∀ t,zab t≠s):ByteArray.empty=unqT s∧false=zbx s:=by
 unfold unqT zbx;rw[unqB_none h];exact⟨rfl,rfl⟩
theorem unq_short {s:ByteArray} (h:s.size<2):ByteArray.empty=unqT s∧false=zbx s:=zeZ fun t e=>by have:=(zds e).1;omega
theorem unq_head {s:ByteArray} {u:UInt8} (hu:s[0]?=some u) (h:¬u.toNat=34):ByteArray.empty=unqT s∧false=zbx s:=zeZ fun t e=>h (by rw[zx hu];exact(zds e).2.1)
theorem unq_last {s:ByteArray} {u:UInt8} (hu:s[s.size-1]?=some u) (h:¬u.toNat=34):ByteArray.empty=unqT s∧false=zbx s:=zeZ fun t e=>h (by rw[zx hu];exact(zds e).2.2.1)
theorem zef {s:ByteArray} (h:unB (s.extract 1 (s.size-1))=none):ByteArray.empty=unqT s∧false=zbx s:=zeZ fun t e=>by rw[(zds e).2.2.2] at h;cases h
theorem unq_off {s:ByteArray} {o:List UInt8} (h:unB (s.extract 1 (s.size-1))=some o) (hq:¬zab (mkB o)=s):ByteArray.empty=unqT s∧false=zbx s:=zeZ fun t e=>by
 rw[(zds e).2.2.2] at h
 injection h with h
 rw[←h,zdK] at hq
 exact hq e
theorem unq_yes {s:ByteArray} {o:List UInt8} (hq:zab (mkB o)=s):mkB o=unqT s∧true=zbx s:=by
 unfold unqT zbx;rw[unqB_some hq];exact⟨rfl,rfl⟩
end Lp
