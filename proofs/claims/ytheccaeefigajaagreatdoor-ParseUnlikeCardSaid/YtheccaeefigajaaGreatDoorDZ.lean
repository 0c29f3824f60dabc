import Derived.Test.YtheccaeefigajaaGreatDoorRows
import Derived.ProofKit
import Derived.LaidMore
import Derived.OpenShut
import Derived.Stop.Joined
import Derived.Test.YtheccaeefigajaaGreatDoorProg
import Derived.Test.YtheccaeefigajaaGreatDoorPLexS
set_option linter.unusedVariables false
namespace Lp
open Go
def FitT (x:TokD):Prop:=bl8 (zcq x)≠[]∧runL isB (bl8 (zcq x))=0∧zu (bl8 (zcq x))=(⟨x.k,0,x.t⟩,(zcq x).size)
theorem run_word:∀ (n:Nat) (s:ByteArray) (p:Nat),s.size-p=n→zfi (zbq s p)=true→runL isLD (bts s p)=s.size-p:=by
 intro n
 induction n using Nat.strongRecOn with
 | _ n ih=>
  intro s p hp hw
  rcases Nat.lt_or_ge p s.size with h | h
  · rw[zbl h,wordR_cons,Bool.and_eq_true,decide_eq_true_eq] at hw
    have hk:isLD ((decL (bts s p)).1:Int)=true:=by
     rw[←zcD]
     show inK [1,2] _=true
     unfold inK
     rcases hw.1 with h | h<;>simp[h]
    have h1:=zag s p
    have h2:=zbj s p h
    rw[zcN (zen h) hk,zc5,←zcC,ih _ (by omega) s _ rfl hw.2];omega
  · rw[zeV h,zcZ];omega
theorem name_first {s:ByteArray} (h:zcK s=true):0<s.size∧zN ((decR s 0:Nat):Int)=1∧runL isLD (bl8 s)=s.size:=by
 have h':=h
 unfold zcK at h'
 rw[nameR_start] at h'
 simp only[Bool.and_eq_true,decide_eq_true_eq] at h'
 have hz:0<s.size:=by
  rcases Nat.lt_or_ge 0 s.size with hz | hz
  · exact hz
  · have e:zaE s=[]:=by show zbq s 0=[];exact zbz hz
    rw[e] at h';simp at h'
 refine⟨hz,?_,?_⟩
 · have e:zaE s=((decR s 0:Nat):Int)::zbq s (0+decW s 0):=by show zbq s 0=_;exact zbl hz
   have:=h'.1.2
   rw[e] at this;exact this
 · have:=run_word _ s 0 rfl h'.2
   exact this
theorem good_word {s:ByteArray} (h:zcK s=true):FitT ⟨1,0,s⟩:=by
 obtain ⟨h1,h2,h3⟩:=name_first h
 have ej:zcq ⟨1,0,s⟩=s:=zdB (show ¬(1:Int)=3 by decide) (show ¬(1:Int)=4 by decide)
 have hb:isB ((decL (bl8 s)).1:Int)=false:=by
  rw[dec0];show inK [3] _=false;unfold inK;simp[h2]
 unfold FitT;rw[ej]
 refine⟨bl8_ne h1,zdo hb,?_⟩
 rw[firstT_w (by rw[dec0];exact h2)]
 have e:mkB ((bl8 s).take s.size)=s:=by rw[←zav,List.take_length,zfp]
 unfold zb5;rw[h3,e,if_pos h]
theorem digL_13 {v:Nat} (h:v≤1000000000000):(digL v).length≤13:=digL_lt 12 v (Nat.lt_of_le_of_lt h (by decide))
theorem numD_0 (v:Nat):numD 0 v=digL v:=rfl
theorem good_num {v:Nat} (h:v≤1000000000000):FitT ⟨2,0,digB v⟩:=by
 have h13:=digL_13 h
 obtain ⟨h1,h2⟩:=num_first (zdi 0 v) (numD_ne 0 v) []
 have hr:=zeb isD_2 (numD 0 v) [] (zdi 0 v)
 have hr2:=zeb isLD_2 (numD 0 v) [] (zdi 0 v)
 rw[zcZ,Nat.add_zero] at hr hr2
 rw[List.append_nil] at h1 h2 hr hr2
 have ej:zcq ⟨2,0,digB v⟩=digB v:=zdB (show ¬(2:Int)=3 by decide) (show ¬(2:Int)=4 by decide)
 have eb:bl8 (digB v)=numD 0 v:=zcn _
 unfold FitT;rw[ej,eb]
 refine⟨numD_ne 0 v,h2,?_⟩
 have hs:(digB v).size=(numD 0 v).length:=zax _
 rw[h1,hs];unfold numT
 rw[hr,hr2,List.take_length,digV_eq,numD_val,if_neg (by rw[numD_0];omega),if_pos rfl]
theorem good_dur {v:Nat} (h:v≤1000000000):FitT ⟨4,0,digB v⟩:=by
 have h13:=digL_13 (v:=v) (by omega)
 obtain ⟨h1,h2⟩:=num_first (zdi 0 v) (numD_ne 0 v) [115]
 have hr:=zeb isD_2 (numD 0 v) [115] (zdi 0 v)
 have hr2:=zeb isLD_2 (numD 0 v) [115] (zdi 0 v)
 have e0:runL isD [115]=0:=zdo (by decide)
 rw[e0,Nat.add_zero] at hr
 have e1:runL isLD [115]=1:=by
  rw[zcN (by simp) (by decide)]
  show 1+runL isLD []=1
  rw[zcZ]
 rw[e1] at hr2
 have ej:zcq ⟨4,0,digB v⟩=digB v++(⟨#[115]⟩:ByteArray):=joinT_4 (show ¬(4:Int)=3 by decide) rfl
 have eb:bl8 (digB v++(⟨#[115]⟩:ByteArray))=numD 0 v++[115]:=by
  rw[bl8_add,show bl8 (digB v)=numD 0 v from zcn _]
 have hs:(digB v++(⟨#[115]⟩:ByteArray)).size=(numD 0 v).length+1:=by
  rw[←zav,eb,List.length_append];rfl
 unfold FitT;rw[ej,eb,hs]
 refine⟨by simp[numD_ne],h2,?_⟩
 have e2:((numD 0 v++[115]).take ((numD 0 v).length+1)).drop (numD 0 v).length=[115]:=by
  rw[List.take_of_length_le (by simp),List.drop_left]
 have es:secB (mkB [115])=1:=by decide
 rw[h1];unfold numT
 rw[hr,hr2,List.take_left,digV_eq,numD_val,if_neg (by rw[numD_0];omega),if_neg (by omega),e2,es,if_neg (by omega),Nat.mul_one]
theorem good_str (s:ByteArray):FitT ⟨3,0,s⟩:=by
 have h1:=strT_quote s []
 have h2:=quote_blank s []
 rw[List.append_nil] at h1 h2
 have ej:zcq ⟨3,0,s⟩=zaO s:=joinT_3 rfl
 unfold FitT;rw[ej,quote_bl8,show (zaO s).size=(zbe s).length from zax _]
 exact⟨by unfold zbe;simp,h2,h1⟩
theorem sign_facts:∀ x∈zaC,bl8 x≠[]∧¬zN ((decL (bl8 x)).1:Int)=1∧¬zN ((decL (bl8 x)).1:Int)=2∧¬(decL (bl8 x)).1=34∧isB ((decL (bl8 x)).1:Int)=false∧zb0 (bl8 x)=(⟨5,0,x⟩,x.size):=by decide
theorem good_sign {x:ByteArray} (hx:x∈zaC):FitT ⟨5,0,x⟩:=by
 obtain ⟨h1,h2,h3,h4,h5,h6⟩:=sign_facts x hx
 have ej:zcq ⟨5,0,x⟩=x:=zdB (show ¬(5:Int)=3 by decide) (show ¬(5:Int)=4 by decide)
 unfold FitT;rw[ej]
 exact⟨h1,zdo h5,by rw[firstT_s h2 h3 h4,h6]⟩
theorem signIn_mem:∀ (xs:List ByteArray) (l:List UInt8),(zaT xs l).2≠0→∃ x∈xs,(zaT xs l).1=⟨5,0,x⟩
 | [],_,h=>absurd rfl h
 | x::xs,l,h=>by
  unfold zaT at h ⊢
  split
  · exact⟨x,List.mem_cons_self,rfl⟩
  · rename_i h2
    rw[if_neg h2] at h
    obtain ⟨y,hy,e⟩:=signIn_mem xs l h
    exact⟨y,List.mem_cons_of_mem _ hy,e⟩
theorem sign_small:∀ x∈zaC,x.size≤2:=by decide
theorem first_good {l:List UInt8} (h:(zu l).2≠0):FitT (zu l).1∧(zu l).1.t.size≤l.length+20:=by
 unfold zu at h ⊢
 split
 · rename_i h1
   rw[if_pos h1] at h
   unfold zb5 at h ⊢
   split
   · rename_i h2
     refine⟨good_word h2,?_⟩
     show (mkB _).size≤_
     rw[zax,List.length_take];omega
   · rename_i h2
     rw[if_neg h2] at h;exact absurd rfl h
 · rename_i h1
   rw[if_neg h1] at h
   split
   · rename_i h2
     rw[if_pos h2] at h
     unfold numT at h ⊢
     split
     · rename_i h3;rw[if_pos h3] at h;exact absurd rfl h
     · rename_i h3
       rw[if_neg h3] at h
       split
       · refine⟨good_num (by omega),?_⟩
         have:=digB_20 (n:=digV (l.take (runL isD l))) (by omega)
         show (digB _).size≤_
         omega
       · rename_i h4
         rw[if_neg h4] at h
         split
         · rename_i h5;rw[if_pos h5] at h;exact absurd rfl h
         · rename_i h5
           obtain ⟨c,hc⟩:∃ c,secB (mkB ((l.take (runL isLD l)).drop (runL isD l)))=c:=⟨_,rfl⟩
           rw[hc] at h5 ⊢
           have hm:digV (l.take (runL isD l))*c≤1000000000:=(Nat.le_div_iff_mul_le (by omega)).1 (by omega)
           refine⟨good_dur hm,?_⟩
           have:=digB_20 (n:=digV (l.take (runL isD l))*c) (by omega)
           show (digB _).size≤_
           omega
   · rename_i h2
     rw[if_neg h2] at h
     split
     · rename_i h3
       rw[if_pos h3] at h
       cases e:zar true l with
       | none=>unfold strT at h;rw[e] at h;exact absurd rfl h
       | some i=>
        have hi:=qscan_lt _ l true i rfl e
        cases e2:unqB (mkB (l.take (i+1))) with
        | none=>
         unfold strT at h;rw[e] at h
         have h:(match unqB (mkB (l.take (i+1))) with | none=>(zbO,0) | some t=>((⟨3,0,t⟩:TokD),i+1)).2≠0:=h
         rw[e2] at h;exact absurd rfl h
        | some t=>
         have e3:strT l=(⟨3,0,t⟩,i+1):=by
          unfold strT;rw[e]
          show (match unqB (mkB (l.take (i+1))) with | none=>(zbO,0) | some t=>((⟨3,0,t⟩:TokD),i+1))=_
          rw[e2]
         rw[e3]
         refine⟨good_str t,?_⟩
         show t.size≤_
         have hq:zaO t=mkB (l.take (i+1)):=by
          unfold unqB at e2
          split at e2
          · rename_i hx
            injection e2 with e2
            rw[←e2];exact hx.choose_spec
          · cases e2
         have h4:=(quoteB_4 t).2
         rw[hq,zax,List.length_take] at h4;omega
     · rename_i h3
       rw[if_neg h3] at h
       obtain ⟨x,hx,e⟩:=signIn_mem zaC l h
       have e:(zb0 l).1=⟨5,0,x⟩:=e
       rw[e]
       refine⟨good_sign hx,?_⟩
       have:=sign_small x hx
       show x.size≤_
       omega
theorem good_put {x:TokD} (a:Nat) (h:FitT x):FitT (x.put a):=h
theorem words_good:∀ (n:Nat) (l:List UInt8) (a:Nat) (ts:List TokD),l.length=n→zZ l a=some ts→∀ x∈ts,FitT x∧x.t.size≤l.length+20:=by
 intro n
 induction n using Nat.strongRecOn with
 | _ n ih=>
  intro l a ts hn h
  have hrl:=zbv isB l
  generalize hm:l.drop (runL isB l)=m at*
  have hml:m.length=l.length-runL isB l:=by rw[←hm,List.length_drop]
  unfold zZ at h
  rw[hm] at h
  by_cases hne:m=[]
  · subst hne;rw[za9] at h;injection h with h;subst h
    exact fun x hx=>absurd hx (by simp)
  · by_cases h0:(zu m).2=0
    · rw[zbK hne h0] at h;cases h
    · have hpos:=List.length_pos_iff.2 hne
      have hfl:=firstT_le (l:=m)
      rw[zbd hne h0 (by omega)] at h
      cases e:zZ (m.drop (zu m).2) (a+runL isB l+(zu m).2) with
      | none=>rw[e] at h;cases h
      | some t2=>
       rw[e] at h
       have h:(zu m).1.put (a+runL isB l)::t2=ts:=by injection h
       have hi:=ih (m.drop (zu m).2).length (by rw[List.length_drop];omega) _ _ t2 rfl e
       rw[List.length_drop] at hi
       subst h
       intro x hx
       rcases List.mem_cons.1 hx with rfl | hx
       · obtain ⟨g1,g2⟩:=first_good h0
         exact⟨good_put _ g1,by show (zu m).1.t.size≤_;omega⟩
       · obtain ⟨g1,g2⟩:=hi x hx
         exact⟨g1,by omega⟩
theorem words_join1 {x:TokD} (h:FitT x) (a:Nat):zZ (bl8 (zcq x)) a=some [x.put a]:=by
 obtain ⟨h1,h2,h3⟩:=h
 have h4:=words_one (x:=⟨x.k,0,x.t⟩) h1 h2 (by rw[h3,zav])
 have h5:=wordsL_by a _ (bl8 (zcq x)) 0 rfl
 rw[Nat.zero_add,h4] at h5
 rw[h5]
 show some [TokD.mk x.k (((0:Nat):Int)+(a:Int)) x.t]=some [TokD.mk x.k (a:Int) x.t]
 rw[show ((0:Nat):Int)+(a:Int)=(a:Int) by omega]
theorem lex_sizes {s:ByteArray} (hs:s.size≤600):∀ x∈lexL s,x.t.size≤1000:=fun x hx=>by
 by_cases h:lexE s=0
 · have:=(words_good _ (bl8 s) 0 _ rfl (zeF h).2 x hx).2
   rw[zav] at this;omega
 · rw[lex_none h] at hx;exact absurd hx (by simp)
end Lp
set_option linter.unusedVariables false
namespace Lp
open Go
structure TkOk (x:TokD):Prop where
 z:x.t.size≤1000
 d:x.k=2∨x.k=4→∃ v:Nat,v≤1000000000000∧x.t=digB v
def TOk (l:List TokD):Prop:=∀ x∈l,TkOk x
theorem TOk.suf {l m:List TokD} (h:TOk l) (k:m <:+l):TOk m:=fun x hx=>h x (k.subset hx)
theorem Stp.out {c:Int} {s t:Rd} (h:Stp c s t) (hT:TOk s.l):t.l.length≤s.l.length∧t.n+2*(t.l.length:Int)≤s.n+2*(s.l.length:Int)+c∧s.n≤t.n∧TOk t.l:=⟨h.len,h.w,h.n,hT.suf h.l⟩
theorem pk_z {s:Rd} (hT:TOk s.l):s.pk.t.size≤1000:=by
 unfold Rd.pk
 cases e:s.l with
 | nil=>exact Nat.zero_le _
 | cons x l=>exact(hT x (e ▸ List.mem_cons_self)).z
section
variable {s s':Rd} {k:Int} {ts:List ByteArray} {t a b:ByteArray} {q:Bool}
theorem zdm (e:(t,q,s')=s.take k ts):Stp 0 s s':=by have h:=zG s k ts;rw[←e] at h;exact h
theorem zc8 (e:(t,q,s')=s.take k ts) (hT:TOk s.l):t.size≤1000:=by
 have h:t=(s.take k ts).1:=congrArg Prod.fst e
 rw[h];unfold Rd.take;split
 · exact Nat.zero_le _
 · exact pk_z hT
theorem take_y (e:(t,q,s')=s.take k ts) (hk:k≠0) (hq:q=true):s'.l.length+1=s.l.length∧Stp (-2) s s'∧s.b=false∧s'.b=false∧s.is k ts=true:=by
 have h:=za5 (s:=s) (k:=k) (ts:=ts) hk (by rw[←e];exact hq)
 rw[←e] at h;exact h
theorem zfg (e:(t,s')=s.any k):Stp 0 s s':=by have h:=zaK s k;rw[←e] at h;exact h
theorem ze0 (e:(t,s')=s.any k) (hT:TOk s.l):t.size≤1000:=by
 have h:t=(s.any k).1:=congrArg Prod.fst e
 rw[h];unfold Rd.any;split
 · exact Nat.zero_le _
 · exact pk_z hT
theorem any_y (e:(t,s')=s.any k) (hk:k≠0) (hb:s.b=false) (h:s.pk.k=k):s'.l.length+1=s.l.length∧Stp (-2) s s'∧t=s.pk.t∧s'.b=false:=by
 have h:=any_got hk hb h
 rw[←e] at h;exact h
theorem zcg (e:s'=s.must t):Stp 0 s s':=by rw[e];exact zB s t
theorem names_e {l:List ByteArray} (e:(l,s')=s.names):Stp 0 s s':=by have h:=names_stp s;rw[←e] at h;exact h
theorem mode_e {m:Int} {l:List ByteArray} (e:(m,l,s')=s.mode a b):Stp 0 s s':=by have h:=za3 s a b;rw[←e] at h;exact h
theorem number_e {v:Int} (e:(v,s')=s.number k):Stp 0 s s':=by have h:=zaU s k;rw[←e] at h;exact h
end
theorem digV_snoc (l:List UInt8) (b:UInt8):digV (l++[b])=10*digV l+(b.toNat-48):=by unfold digV;rw[List.foldl_append];rfl
theorem digV_digL:∀ n:Nat,digV (digL n)=n:=by
 intro n
 induction n using Nat.strongRecOn with
 | _ n ih=>
  unfold digL
  split
  · show 10*0+((UInt8.ofNat (48+n)).toNat-48)=n
    rw[on8 (by omega)];omega
  · rw[digV_snoc,ih (n / 10) (by omega),on8 (by omega)];omega
theorem digL_digs:∀ n:Nat,∀ b∈digL n,48≤b.toNat∧b.toNat≤57:=by
 intro n
 induction n using Nat.strongRecOn with
 | _ n ih=>
  intro b hb
  unfold digL at hb
  split at hb
  · rw[List.mem_singleton.1 hb,on8 (by omega)];omega
  · rcases List.mem_append.1 hb with h | h
    · exact ih (n / 10) (by omega) b h
    · rw[List.mem_singleton.1 h,on8 (by omega)];omega
theorem digL_ne (n:Nat):digL n≠[]:=by unfold digL;split<;>simp
theorem zeY (n:Nat):bl8 (digB n)=digL n:=zcn _
theorem zdR (n:Nat):numV (digB n)=(n:Int):=by unfold numV;rw[zeY,digV_digL]
theorem numV_nil:numV ByteArray.empty=0:=rfl
theorem any_num {s s':Rd} {k:Int} {t:ByteArray} (e:(t,s')=s.any k) (hk:k=2∨k=4) (hT:TOk s.l):t=ByteArray.empty∨∃ v:Nat,v≤1000000000000∧t=digB v:=by
 have h:t=(s.any k).1:=congrArg Prod.fst e
 unfold Rd.any at h
 split at h
 · exact .inl h
 · rename_i hc
   have hk':s.pk.k=k:=Decidable.byContradiction fun h=>hc (.inr h)
   refine .inr ?_
   unfold Rd.pk at h hk'
   cases el:s.l with
   | nil=>rw[el] at hk';exact absurd hk' (by show ¬(0:Int)=k;omega)
   | cons x l=>
    rw[el] at h hk'
    have h:t=x.t:=h
    have hk':x.k=k:=hk'
    obtain ⟨v,h1,h2⟩:=(hT x (el ▸ List.mem_cons_self)).d (by omega)
    exact⟨v,h1,h.trans h2⟩
theorem zdQ {s s':Rd} {k v:Int} (e:(v,s')=s.number k) (hk:k=2∨k=4) (hT:TOk s.l):0≤v∧v≤1000000000000:=by
 have h:v=numV (s.any k).1:=congrArg Prod.fst e
 rcases any_num (s:=s) (k:=k) (t:=(s.any k).1) (s':=(s.any k).2) rfl hk hT with h1 | ⟨n,h1,h2⟩
 · rw[h,h1,numV_nil];omega
 · rw[h,h2,zdR];omega
mutual
def Nd.cnt:Nd→Nat
 | .mk _ _ _ _ _ _ kids=>Nd.cntL kids+1
def Nd.cntL:List Nd→Nat
 | []=>0
 | x::r=>Nd.cnt x+Nd.cntL r
end
section
variable (rm:List MatD→Bool)
end
end Lp
set_option linter.unusedVariables false
namespace Lp
open Go
theorem words_all (p:TokD→Prop) (hp:∀ (l:List UInt8) (a:Nat),(zu l).2≠0→p ((zu l).1.put a)):∀ (n:Nat) (l:List UInt8) (a:Nat) (ts:List TokD),l.length=n→zZ l a=some ts→∀ x∈ts,p x:=by
 intro n
 induction n using Nat.strongRecOn with
 | _ n ih=>
  intro l a ts hn h
  have hrl:=zbv isB l
  generalize hm:l.drop (runL isB l)=m at*
  have hml:m.length=l.length-runL isB l:=by rw[←hm,List.length_drop]
  unfold zZ at h
  rw[hm] at h
  by_cases hne:m=[]
  · subst hne;rw[za9] at h;injection h with h;subst h
    exact fun x hx=>absurd hx (by simp)
  · by_cases h0:(zu m).2=0
    · rw[zbK hne h0] at h;cases h
    · have hpos:=List.length_pos_iff.2 hne
      have hfl:=firstT_le (l:=m)
      rw[zbd hne h0 (by omega)] at h
      cases e:zZ (m.drop (zu m).2) (a+runL isB l+(zu m).2) with
      | none=>rw[e] at h;cases h
      | some t2=>
       rw[e] at h
       have h:(zu m).1.put (a+runL isB l)::t2=ts:=by injection h
       have hi:=ih (m.drop (zu m).2).length (by rw[List.length_drop];omega) _ _ t2 rfl e
       subst h
       intro x hx
       rcases List.mem_cons.1 hx with rfl | hx
       · exact hp _ _ h0
       · exact hi x hx
theorem first_dig {l:List UInt8} (h:(zu l).2≠0):(zu l).1.k=2∨(zu l).1.k=4→∃ v:Nat,v≤1000000000000∧(zu l).1.t=digB v:=by
 unfold zu at h ⊢
 split
 · rename_i h1
   rw[if_pos h1] at h
   unfold zb5 at h ⊢
   split
   · intro k;rcases k with k | k<;>exact absurd k (by show ¬(1:Int)=_;decide)
   · rename_i h2;rw[if_neg h2] at h;exact absurd rfl h
 · rename_i h1
   rw[if_neg h1] at h
   split
   · rename_i h2
     rw[if_pos h2] at h
     unfold numT at h ⊢
     split
     · rename_i h3;rw[if_pos h3] at h;exact absurd rfl h
     · rename_i h3
       rw[if_neg h3] at h
       split
       · exact fun _=>⟨_,by omega,rfl⟩
       · rename_i h4
         rw[if_neg h4] at h
         split
         · rename_i h5;rw[if_pos h5] at h;exact absurd rfl h
         · rename_i h5
           obtain ⟨c,hc⟩:∃ c,secB (mkB ((l.take (runL isLD l)).drop (runL isD l)))=c:=⟨_,rfl⟩
           rw[hc] at h5 ⊢
           have hm:digV (l.take (runL isD l))*c≤1000000000:=(Nat.le_div_iff_mul_le (by omega)).1 (by omega)
           exact fun _=>⟨_,by omega,rfl⟩
   · rename_i h2
     rw[if_neg h2] at h
     split
     · rename_i h3
       rw[if_pos h3] at h
       cases e:zar true l with
       | none=>unfold strT at h;rw[e] at h;exact absurd rfl h
       | some i=>
        cases e2:unqB (mkB (l.take (i+1))) with
        | none=>
         unfold strT at h;rw[e] at h
         have h:(match unqB (mkB (l.take (i+1))) with | none=>(zbO,0) | some t=>((⟨3,0,t⟩:TokD),i+1)).2≠0:=h
         rw[e2] at h;exact absurd rfl h
        | some t=>
         have e3:strT l=(⟨3,0,t⟩,i+1):=by
          unfold strT;rw[e]
          show (match unqB (mkB (l.take (i+1))) with | none=>(zbO,0) | some t=>((⟨3,0,t⟩:TokD),i+1))=_
          rw[e2]
         rw[e3]
         intro k;rcases k with k | k<;>exact absurd k (by show ¬(3:Int)=_;decide)
     · rename_i h3
       rw[if_neg h3] at h
       obtain ⟨x,hx,e⟩:=signIn_mem zaC l h
       have e:(zb0 l).1=⟨5,0,x⟩:=e
       rw[e]
       intro k;rcases k with k | k<;>exact absurd k (by show ¬(5:Int)=_;decide)
theorem lexL_tok (s:ByteArray):TOk (lexL s):=fun x hx=>by
 by_cases hE:lexE s=0
 · obtain ⟨h1,h2⟩:=zeF hE
   refine⟨lex_sizes (by omega) x hx,?_⟩
   exact words_all (fun x=>x.k=2∨x.k=4→∃ v:Nat,v≤1000000000000∧x.t=digB v) (fun l a h=>first_dig h) _ _ _ _ rfl h2 x hx
 · rw[lex_none hE] at hx;exact absurd hx (by simp)
def zc9 (m:MatD):Bool:=zcK m.n&&decide (1≤m.op∧m.op≤4)&&(decide (m.op<3)||patR (zaE m.v))
def rmD (ms:List MatD):Bool:=ms.all zc9&&decide (ms.length≤10)
def noQ:QryD:=⟨noNd,0,0,0⟩
noncomputable def zba (s:ByteArray):Int:=if lexE s=0 then(if (zcf rmD (lexL s)).isSome=true then 0 else 2) else lexE s
noncomputable def z8 (s:ByteArray):QryD:=if lexE s=0 then(zcf rmD (lexL s)).getD noQ else noQ
theorem zeO {s:ByteArray} (h:zba s=0):lexE s=0∧zcf rmD (lexL s)=some (z8 s):=by
 unfold zba at h
 split at h
 · rename_i h1
   split at h
   · rename_i h2
     obtain ⟨q,hq⟩:=Option.isSome_iff_exists.1 h2
     refine⟨h1,?_⟩
     unfold z8;rw[if_pos h1,hq];rfl
   · exact absurd h (by decide)
 · rename_i h1;exact absurd h h1
end Lp
set_option linter.unusedVariables false
namespace Lp
open Go Go.RowKit Go.Proofs
abbrev HSyn (ev:Value):Hp:=.tab 1 #[ev]
theorem atoi_e (s:ByteArray) (ev es:Value) (hev:EvOk ev) (hes:EvOk es) (hd:s=ByteArray.empty∨∃ v:Nat,v≤1000000000000∧s=digB v):CD Tryz.prog 160 [HErr ev,HSyn es] [.s s] (fun r H'=>∃ x,r=.tup [dI (numV s),x]∧H'=[HErr ev,HSyn es]):=
 cd_ext fun w F vs hvs hok=>by
  obtain ⟨u,us,rfl,hu,hus⟩:=hvs
  obtain ⟨hu,hm⟩:=hu
  have hus:us=[]:=hus
  subst hu;subst hus
  rcases hd with rfl | ⟨n,hn,rfl⟩
  · obtain ⟨hF,T,fr,hh⟩:=hok _ (List.mem_cons_of_mem _ List.mem_cons_self)
    have hcell:w.cell? ⟨1,0,none⟩=some es:=by
     unfold World.cell?
     rw[hh];rfl
    refine(Any.strconv_Atoi_syntax Tryz.laysC172 ByteArray.empty (by decide) rfl es w hcell hes).mono fun e w' he=>?_
    obtain ⟨N,rfl,_,_,hbel⟩:=he
    exact⟨_,rfl,zdW hbel,.tup [dI 0,.any],⟨_,rfl,rfl⟩,⟨_,rfl,_,_,rfl,rfl,_,_,rfl,rfl,rfl⟩⟩
  · have h13:=digL_13 hn
    have ha:Lib.atoiAll (bl8 (digB n))=.ok (digV (bl8 (digB n)):Int):=by
     rw[zeY];exact atoi_ok (digL_digs n) (digL_ne n) h13
    rw[zeY,digV_digL] at ha
    rw[zdR]
    refine(Any.strconv_Atoi_ok Tryz.laysC172 (digB n) (by show (digB n).size≤_;unfold digB;rw[zax];omega) (n:Int) (by rw[←zeY] at ha;exact ha) w).mono fun e w' he=>?_
    obtain ⟨rfl,hw⟩:=he
    refine⟨_,rfl,?_,.tup [dI (n:Int),.v .nilIface],⟨_,rfl,rfl⟩,⟨_,rfl,_,_,rfl,rfl,_,_,rfl,rfl,rfl⟩⟩
    rcases hw with rfl | ⟨t,rfl⟩
    · exact Ext.rfl'
    · exact zdW (Joins.below_bytesWorld _ w _ t (Nat.le_refl _))
end Lp
set_option linter.unusedVariables false
namespace Lp
open Go Go.RowKit Go.Proofs
theorem laid_ints {H:Type} {enc:TypeId×Value→H} {P:Program} {w:World} {base:Nat} {spare:Nat→Bool} {held:Bool} {fuel n:Nat} {t e:TypeId} {k:IntKind} {cs:List Value} {zs:List Int} {q:List MemPlace}
 (hu:P.underlying t=some (.array n e)) (he:P.underlying e=some (.int k)) (hc:P.cellsOf e=1) (hct:P.cellsOf t=n) (h:DataW.trod enc P w base spare held fuel t cs=some (.agg (zs.map fun z=>.lit (.int k z)),q)):cs=zs.map (Value.int k):=by
 obtain ⟨xs,m,rfl,hx,hlen,hn,hel⟩:=DataW.trod_array hu h
 have hx1:zs.map (fun z=>(DataW.lit (.int k z):DataW H))=xs.map (fun x=>x.1):=by
  have:=congrArg Prod.fst hx
  injection this
 have hl:=congrArg List.length hx1
 rw[List.length_map,List.length_map] at hl
 apply List.ext_getElem?
 intro i
 rcases Nat.lt_or_ge i n with hi | hi
 · have h1:=hel i hi
   rw[hc,Nat.mul_one,List.getElem?_eq_getElem (by omega)] at h1
   obtain ⟨z,e1,e2,_⟩:=DataW.trod_int he h1
   have a1:cs[i]?=some (.int k z):=by
    have:=congrArg (fun l=>l[0]?) e1
    simp only[List.getElem?_take,List.getElem?_drop] at this
    simpa using this
   have a2:zs[i]?=some z:=by
    have:=congrArg (fun l=>l[i]?) hx1
    simp only[List.getElem?_map] at this
    rw[List.getElem?_eq_getElem (show i<xs.length by omega),e2] at this
    cases e3:zs[i]? with
    | none=>rw[e3] at this;cases this
    | some y=>rw[e3] at this;injection this with this;injection this with this;injection this with _ this;rw[this]
   rw[a1,List.getElem?_map,a2];rfl
 · rw[List.getElem?_eq_none (by omega),List.getElem?_eq_none (by rw[List.length_map];omega)]
theorem laid_iface {H:Type} {enc:TypeId×Value→H} {P:Program} {w:World} {base:Nat} {spare:Nat→Bool} {held:Bool} {fuel:Nat} {t:TypeId} {cs:List Value} {x:DataW H×List MemPlace} {ms:TypeDesc}
 (hu:P.underlying t=some ms) (hm:∃ mm,ms=.interface mm) (h:DataW.trod enc P w base spare held fuel t cs=some x):∃ ev,cs=[ev]∧EvOk ev:=by
 obtain ⟨mm,rfl⟩:=hm
 cases fuel with
 | zero=>exact absurd h (by show ¬(none=some x);simp)
 | succ fuel=>
  rw[DataW.trod_step] at h
  unfold DataW.trodStep at h
  rw[hu] at h
  split at h<;>simp_all [EvOk]
theorem var_heap {P:Program} {w:World} {name:String} {g:Nat} {cs:Array Value} (hg:P.globalNamed name=some g) (h:World.var? P w name=some cs):∃ T fr,w.heap[g]?=some (.cells cs T fr):=by
 unfold World.var? at h
 rw[hg] at h
 have h:(match w.heap[g]? with | some (.cells cs _ _)=>some cs | _=>none)=some cs:=h
 split at h
 · rename_i a b c e;injection h with h;subst h;exact⟨_,_,e⟩
 · cases h
theorem of_laid {W:World} (h:laidMetH Tryz.prog Go.Proofs.YtheccaeefigajaaGreatDoor.Rows.kindTellsRow.laid W):∃ ev es,EvOk ev∧EvOk es∧(∃ T fr,W.heap[0]?=some (.cells zee T fr))∧(∃ T fr,W.heap[2]?=some (.cells #[ev] T fr))∧(∃ T fr,W.heap[1]?=some (.cells #[es] T fr)):=by
 rw[MakeChecks.laidMetH_plain _ _ _ (by kernel_rfl)] at h
 obtain ⟨ps,⟨g0,t0,cs0,f0,p0,q0,hg0,ht0,hv0,hd0,⟨g1,t1,cs1,f1,p1,q1,hg1,ht1,hv1,hd1,⟨g2,t2,cs2,f2,p2,q2,hg2,ht2,hv2,hd2,⟨g3,t3,cs3,f3,p3,q3,hg3,ht3,hv3,hd3,⟨g4,t4,cs4,f4,p4,q4,hg4,ht4,hv4,hd4,_⟩,_⟩,_⟩,_⟩,_⟩,_,_⟩:=h
 obtain rfl:0=g2:=Option.some.inj ((show Tryz.prog.globalNamed _=some 0 by kernel_rfl).symm.trans hg2)
 obtain rfl:2=g3:=Option.some.inj ((show Tryz.prog.globalNamed _=some 2 by kernel_rfl).symm.trans hg3)
 obtain rfl:1=g4:=Option.some.inj ((show Tryz.prog.globalNamed _=some 1 by kernel_rfl).symm.trans hg4)
 have a4:Tryz.prog.globals[1]?.map (·.type)=some t4:=ht4
 obtain rfl:=Option.some.inj ((show Tryz.prog.globals[1]?.map (·.type)=some 202 by kernel_rfl).symm.trans a4)
 obtain ⟨es,e4,hes⟩:=laid_iface Tryz.underlying202 ⟨_,rfl⟩ hd4
 have a2:Tryz.prog.globals[0]?.map (·.type)=some t2:=ht2
 have a3:Tryz.prog.globals[2]?.map (·.type)=some t3:=ht3
 obtain rfl:=Option.some.inj ((show Tryz.prog.globals[0]?.map (·.type)=some 240 by kernel_rfl).symm.trans a2)
 obtain rfl:=Option.some.inj ((show Tryz.prog.globals[2]?.map (·.type)=some 202 by kernel_rfl).symm.trans a3)
 obtain ⟨ev,e3,hev⟩:=laid_iface Tryz.underlying202 ⟨_,rfl⟩ hd3
 have e2:=laid_ints (n:=20) (e:=222) (zs:=Lib.pow10Tab) (by kernel_rfl) (by kernel_rfl) (by kernel_rfl) (by kernel_rfl) hd2
 refine⟨ev,es,hev,hes,?_,?_,?_⟩
 · have:=var_heap hg2 hv2
   rwa [show cs2=zee from Array.toList_inj.1 (by rw[e2];simp[zee])] at this
 · have:=var_heap hg3 hv3
   rwa [show cs3=#[ev] from Array.toList_inj.1 (by rw[e3])] at this
 · have:=var_heap hg4 hv4
   rwa [show cs4=#[es] from Array.toList_inj.1 (by rw[e4])] at this
theorem CD.lawT {f:FuncId} {ds:List D} {ev es:Value} (h:CD Tryz.prog f [HPow,HErr ev,HSyn es] ds (fun r H'=>r=.v (.bool true)∧H'=[HPow,HErr ev,HSyn es])) {W:World} {vs:List Value} (hr:D.repA W (FA W) ds vs)
 (h1:∃ T fr,W.heap[0]?=some (.cells zee T fr)) (h2:∃ T fr,W.heap[2]?=some (.cells #[ev] T fr)) (h3:∃ T fr,W.heap[1]?=some (.cells #[es] T fr)):
 Calls Tryz.prog f vs.toArray W (Ret fun u w'=>Ext W w'∧u=.bool true):=by
 have hno:∀ b,¬blks [HPow,HErr ev,HSyn es] b:=fun b ⟨x,hx,hb⟩=>by
  rcases List.mem_cons.1 hx with rfl | hx
  · exact hb
  · rcases List.mem_cons.1 hx with rfl | hx
    · exact hb
    · rw[List.mem_singleton.1 hx] at hb;exact hb
 have hlt:∀ {g:Nat} {o:Obj},W.heap[g]?=some o→g<W.heap.size:=fun h=>by
  rcases Nat.lt_or_ge _ W.heap.size with h' | h'
  · exact h'
  · rw[Array.getElem?_eq_none h'] at h;cases h
 obtain ⟨T1,f1,e1⟩:=h1
 obtain ⟨T2,f2,e2⟩:=h2
 obtain ⟨T3,f3,e3⟩:=h3
 have hk:HOk W (FA W) (fun _=>True) [HPow,HErr ev,HSyn es]:=⟨by
  refine List.Pairwise.cons (fun y _ g hg=>?_) (List.Pairwise.cons (fun y _ g hg=>?_) (List.Pairwise.cons (fun y hy=>absurd hy (by simp)) .nil))
  · exact absurd hg (fun e=>e)
  · exact absurd hg (fun e=>e),fun x hx=>by
  rcases List.mem_cons.1 hx with rfl | hx
  · exact⟨hlt e1,T1,f1,e1⟩
  · rcases List.mem_cons.1 hx with rfl | hx
    · exact⟨hlt e2,T2,f2,e2⟩
    · rw[List.mem_singleton.1 hx];exact⟨hlt e3,T3,f3,e3⟩,fun g hg=>absurd hg (hno g)⟩
 refine(h.out W (FA W) vs hr (fun _ h=>h) hk).mono ?_
 rintro e w' ⟨u,rfl,F',d',H',⟨rfl,rfl⟩,hrep,g⟩
 have hrep:u=.bool true:=hrep
 exact⟨u,rfl,⟨g.os,g.tape,g.output,g.size,fun b hb _=>g.frame b hb (hno b),g.drawn⟩,hrep⟩
section
variable {H:Type} {enc:TypeId×Value→H} {w:World} {held:Bool} {sp:Nat→Bool} {n:Nat}
theorem in_str {cs:List Value} {y:DataW H×List MemPlace} (h:DataW.trod enc Tryz.prog w 0 sp held n 9 cs=some y):∃ d:ByteArray,InD w 1 (.s d) cs:=by
 obtain ⟨s0,e0,_,k0⟩:=DataW.trod_string (by kernel_rfl) h
 exact⟨s0,by rw[e0];exact InD.one ⟨rfl,k0⟩ rfl⟩
end
end Lp
namespace Lp
open Go Go.RowKit Go.Proofs
theorem mixed:Tryz.prog.follows .mixedOrders=true:=by kernel_rfl
abbrev T':Bool:=true
abbrev F':Bool:=false
abbrev dZ:D:=.v (.slice none 0 0)
abbrev dP (g o:Nat):D:=.v (.pointer (some ⟨g,o,none⟩))
abbrev vS (g n c:Nat):Value:=.slice (some ⟨g,0,none⟩) n c
end Lp
set_option linter.unusedVariables false
namespace Lp
open Go Go.RowKit Go.Proofs
def cpF {α:Type}:List α→Option (List α)
 | []=>some []
 | x::r=>match cpF r with
  | some l=>some (x::l)
  | none=>none
theorem zfr {α:Type}:∀ {l l':List α},cpF l=some l'→l=l'
 | [],_,h=>by injection h
 | x::r,l',h=>by
  unfold cpF at h
  split at h
  · rename_i l hl;injection h with h;rw[←h,zfr hl]
  · cases h
def kpF:List Nat→Kd→Option Kd
 | [],_=>some []
 | t::r,K=>match zaX K t with
  | some d=>match kpF r K with
   | some l=>some ((t,d)::l)
   | none=>none
  | none=>none
theorem kpF_sub:∀ {ts:List Nat} {K K':Kd},kpF ts K=some K'→SubK K' K
 | [],_,_,h=>by injection h with h;subst h;trivial
 | t::r,K,K',h=>by
  unfold kpF at h
  split at h
  · rename_i d hd
    split at h
    · rename_i l hl;injection h with h;subst h;exact⟨⟨d,hd,Cv.rfl'⟩,kpF_sub hl⟩
    · cases h
  · cases h
theorem sa:∀ {K' K:Kd},K'.map (fun p=>zaX K p.1)=K'.map (fun p=>some p.2)→SubK K' K
 | [],_,_=>trivial
 | (t,d)::r,K,h=>by
  simp only[List.map_cons,List.cons.injEq] at h
  exact⟨⟨d,h.1,Cv.rfl'⟩,sa h.2⟩
def snF:List Bool→Bool→Option (List Bool)
 | [],b=>some [b]
 | x::r,b=>match snF r b with
  | some l=>some (x::l)
  | none=>none
theorem zeC:∀ {p q:List Bool} {b:Bool},snF p b=some q→p++[b]=q
 | [],_,_,h=>by injection h
 | x::r,q,b,h=>by
  unfold snF at h
  split at h
  · rename_i l hl;injection h with h;rw[←h,List.cons_append,zeC hl]
  · cases h
def zfA (K:Kd):Op→Option D
 | .move x=>opD K x
 | .assign x=>opD K x
 | .extract x n=>match opD K x with
  | some (.tup ds)=>nth ds n
  | _=>none
 | .pick c x y=>match opD K c with
  | some (.v (.bool true))=>opD K x
  | some (.v (.bool false))=>opD K y
  | _=>none
 | .unOp .not _ x=>match opD K x with
  | some (.v (.bool true))=>some (.v (.bool false))
  | some (.v (.bool false))=>some (.v (.bool true))
  | _=>none
 | .nilCheck x=>match opD K x with
  | some (.v (.pointer (some a)))=>some (.v (.pointer (some a)))
  | some (.el X o)=>some (.el X o)
  | _=>none
 | _=>none
theorem pureD_ok {P:Program} {ty:TypeId} {K:Kd} {H:List Hp} {op:Op} {d:D} (h:zfA K op=some d):Pu P op ty K H d:=by
 unfold zfA at h
 split at h
 · exact z7 h
 · exact p_assign h
 · split at h
   · rename_i hx;exact p_extract hx h
   · cases h
 · split at h
   · rename_i hc;exact p_pick_t hc h
   · rename_i hc;exact p_pick_f hc h
   · cases h
 · split at h
   · rename_i hx;injection h with h;subst h;exact zbE (q:=true) hx
   · rename_i hx;injection h with h;subst h;exact zbE (q:=false) hx
   · cases h
 · split at h
   · rename_i hx;injection h with h;subst h;exact zb8 hx
   · rename_i hx;injection h with h;subst h;exact p_nilCheck_el hx
   · cases h
 · cases h
def oneC (N:Nat) (t:Tmp):Option D→Option (Tmp×D)
 | some d=>bif Nat.blt t N then some (t,d) else none
 | none=>none
theorem oneC_ok {N:Nat} {t u:Tmp} {x:Option D} {d:D} (h:oneC N t x=some (u,d)):t=u∧x=some d∧Nat.blt t N=true:=by
 unfold oneC at h
 cases x with
 | none=>cases h
 | some e=>
  cases hb:Nat.blt t N
  · simp[hb] at h
  · simp[hb] at h;exact⟨h.1,by rw[h.2],rfl⟩
def guardD (K:Kd) (want:Bool) (op:Op):Option D→Option D
 | some (.v u)=>match nb u,want with
  | some true,true=>zfA K op
  | some false,false=>zfA K op
  | some true,false=>some (.v undef)
  | some false,true=>some (.v undef)
  | none,_=>some (.v undef)
 | _=>none
def oneD (ops:List Oper) (i N:Nat) (K:Kd):Option (Tmp×D):=
 match opAt ops i with
 | some (some t,op,_,none)=>oneC N t (zfA K op)
 | some (some t,op,_,some (j,want))=>match zbo ops j with
  | some s=>bif Nat.blt s N then oneC N t (guardD K want op (zaX K s)) else none
  | none=>none
 | _=>none
def runD (ops:List Oper) (N:Nat):Nat→Nat→Kd→Option (Nat×Kd)
 | 0,i,K=>some (i,K)
 | n+1,i,K=>match oneD ops i N K with
  | some (t,d)=>runD ops N n (i+1) ((t,d)::K)
  | none=>none
def opP (ops:List Oper) (i N:Nat):Option (Tmp×Op×TypeId):=match opAt ops i with
 | some (some t,op,ty,none)=>bif Nat.blt t N then some (t,op,ty) else none
 | _=>none
def opE (ops:List Oper) (i N:Nat):Option (Option Tmp×Op×TypeId):=match opAt ops i with
 | some (t,op,ty,none)=>bif dok N t then some (t,op,ty) else none
 | _=>none
def gdF (ops:List Oper) (N:Nat) (K:Kd) (j:Nat) (want:Bool):Bool:=match zbo ops j with
 | some s=>match zaX K s with
  | some (.v (.bool b))=>Nat.blt s N&&(b==want)
  | _=>false
 | none=>false
def opG (ops:List Oper) (i N:Nat) (K:Kd):Option (Option Tmp×Op×TypeId):=match opAt ops i with
 | some (t,op,ty,some (j,want))=>match dok N t,gdF ops N K j want with
  | true,true=>some (t,op,ty)
  | _,_=>none
 | _=>none
section
variable {P:Program} {N:Nat} {C:Ctx} {K:Kd} {H:List Hp} {ops:List Oper} {i:Nat} {Kt:Env→World→(Nat→Prop)→Prop}
theorem nb_b {u:Value} {b:Bool} (h:nb u=some b):u=.bool b:=by cases u<;>simp[nb] at h;rw[h]
theorem o1 {t:Tmp} {d:D} (h:oneD ops i N K=some (t,d)) (k:OpsD P N C ops (i+1) ((t,d)::K) H Kt):OpsD P N C ops i K H Kt:=by
 unfold oneD at h
 split at h
 · rename_i t' op ty ho
   obtain ⟨e1,e2,e3⟩:=oneC_ok h
   subst e1
   exact od_pu ho e3 (pureD_ok e2) k
 · rename_i t' op ty j want ho
   split at h
   · rename_i s hs
     cases hb:Nat.blt s N
     · simp[hb] at h
     · simp only[hb,cond_true] at h
       obtain ⟨e1,e2,e3⟩:=oneC_ok h
       subst e1
       unfold guardD at e2
       split at e2
       · rename_i u hl
         split at e2
         · rename_i hn;rw[nb_b hn] at hl;exact od_runp ho e3 hs hb hl (pureD_ok e2) k
         · rename_i hn;rw[nb_b hn] at hl;exact od_runp ho e3 hs hb hl (pureD_ok e2) k
         · rename_i hn;injection e2 with e2;subst e2;exact od_skip ho e3 hs hb hl (by rw[hn];decide) k
         · rename_i hn;injection e2 with e2;subst e2;exact od_skip ho e3 hs hb hl (by rw[hn];decide) k
         · rename_i hn;injection e2 with e2;subst e2;exact od_skip ho e3 hs hb hl (by rw[hn];simp) k
       · cases e2
   · cases h
 · cases h
theorem oR (n:Nat) {j:Nat} {K':Kd} (h:runD ops N n i K=some (j,K')) (k:OpsD P N C ops j K' H Kt):OpsD P N C ops i K H Kt:=by
 induction n generalizing i K with
 | zero=>injection h with h;injection h with h1 h2;subst h1;subst h2;exact k
 | succ n ih=>
  unfold runD at h
  split at h
  · rename_i t d he;exact o1 he (ih h)
  · cases h
theorem opP_ok {t:Tmp} {op:Op} {ty:TypeId} (h:opP ops i N=some (t,op,ty)):opAt ops i=some (some t,op,ty,none)∧Nat.blt t N=true:=by
 unfold opP at h
 split at h
 · rename_i t' op' ty' ho
   cases hb:Nat.blt t' N
   · simp[hb] at h
   · simp[hb] at h;obtain ⟨h1,h2,h3⟩:=h;subst h1;subst h2;subst h3;exact⟨ho,hb⟩
 · cases h
theorem opE_ok {t:Option Tmp} {op:Op} {ty:TypeId} (h:opE ops i N=some (t,op,ty)):opAt ops i=some (t,op,ty,none)∧dok N t=true:=by
 unfold opE at h
 split at h
 · rename_i t' op' ty' ho
   cases hb:dok N t'
   · simp[hb] at h
   · simp[hb] at h;obtain ⟨h1,h2,h3⟩:=h;subst h1;subst h2;subst h3;exact⟨ho,hb⟩
 · cases h
theorem opG_ok {t:Option Tmp} {op:Op} {ty:TypeId} (h:opG ops i N K=some (t,op,ty)):∃ j want s,opAt ops i=some (t,op,ty,some (j,want))∧dok N t=true∧zbo ops j=some s∧Nat.blt s N=true∧zaX K s=some (.v (.bool want)):=by
 unfold opG at h
 split at h
 · rename_i t' op' ty' j want ho
   split at h
   · rename_i h1 h2
     injection h with h;injection h with e1 h;injection h with e2 e3
     subst e1;subst e2;subst e3
     unfold gdF at h2
     split at h2
     · rename_i s hs
       split at h2
       · rename_i b hb
         simp only[Bool.and_eq_true,beq_iff_eq] at h2
         obtain ⟨h3,h4⟩:=h2;subst h4
         exact⟨j,b,s,ho,h1,hs,h3,hb⟩
       · cases h2
     · cases h2
   · cases h
 · cases h
theorem oP {t:Tmp} {op:Op} {ty:TypeId} {d:D} (ho:opP ops i N=some (t,op,ty)) (h:Pu P op ty K H d) (k:OpsD P N C ops (i+1) ((t,d)::K) H Kt):OpsD P N C ops i K H Kt:=od_pu (opP_ok ho).1 (opP_ok ho).2 h k
theorem oE {t:Option Tmp} {op:Op} {ty:TypeId} {R:D→List Hp→Prop} (ho:opE ops i N=some (t,op,ty)) (h:Ef P op ty K H R) (k:∀ d H',R d H'→OpsD P N C ops (i+1) (upK K t d) H' Kt):OpsD P N C ops i K H Kt:=od_step (opE_ok ho).1 (opE_ok ho).2 h k
theorem oF {t:Option Tmp} {op:Op} {ty:TypeId} {R:D→List Hp→Prop} (ho:opG ops i N K=some (t,op,ty)) (h:Ef P op ty K H R) (k:∀ d H',R d H'→OpsD P N C ops (i+1) (upK K t d) H' Kt):OpsD P N C ops i K H Kt:=by
 obtain ⟨j,want,s,h1,h2,h3,h4,h5⟩:=opG_ok ho
 exact od_run h1 h2 h3 h4 h5 h k
theorem oG {t:Tmp} {op:Op} {ty:TypeId} {d:D} (ho:opG ops i N K=some (some t,op,ty)) (h:Pu P op ty K H d) (k:OpsD P N C ops (i+1) ((t,d)::K) H Kt):OpsD P N C ops i K H Kt:=
 oF ho h.ef fun _ _ ⟨e1,e2⟩=>by subst e1;subst e2;exact k
theorem oW {t:Option Tmp} {f:FuncId} {args:Array Operand} {ats:Array TypeId} {ty:TypeId} {ds0 ds:List D} {d:D} (ho:opE ops i N=some (t,.call { callee:=.value (.func f),args:=args,argTypes:=ats },ty)) (hargs:opsD K args.toList=some ds0) (ha:ArgCs [] ds0 ds)
 (hc:∀ args w,(callFunc f args).run P w=.ok (.enter f args) w) (hcall:CD P f [] ds (isR d)) (k:OpsD P N C ops (i+1) (upK K t d) H Kt):OpsD P N C ops i K H Kt:=
 oE ho (zk [] _ [] rfl hargs ha zh hc hcall (.inl rfl)) (by rintro _ _ ⟨_,⟨rfl,rfl⟩,rfl⟩;exact k)
theorem oV {t:Option Tmp} {f:FuncId} {args:Array Operand} {ats:Array TypeId} {ty:TypeId} {ds0 ds:List D} {d:D} (ho:opG ops i N K=some (t,.call { callee:=.value (.func f),args:=args,argTypes:=ats },ty)) (hargs:opsD K args.toList=some ds0) (ha:ArgCs [] ds0 ds)
 (hc:∀ args w,(callFunc f args).run P w=.ok (.enter f args) w) (hcall:CD P f [] ds (isR d)) (k:OpsD P N C ops (i+1) (upK K t d) H Kt):OpsD P N C ops i K H Kt:=
 oF ho (zk [] _ [] rfl hargs ha zh hc hcall (.inl rfl)) (by rintro _ _ ⟨_,⟨rfl,rfl⟩,rfl⟩;exact k)
theorem acs {L:List Hp}:∀ {ds:List D},ArgCs L ds ds
 | []=>.nil
 | _::_=>.cons ArgC.id acs
theorem on {H':List Hp} (h:cpF H=some H') (k:OpsD P N C ops i K H' Kt):OpsD P N C ops i K H Kt:=zfr h ▸ k
theorem ok (ts:List Nat) {K':Kd} (h:kpF ts K=some K') (k:OpsD P N C ops i K' H Kt):OpsD P N C ops i K H Kt:=OpsD.sub K' (kpF_sub h) k
theorem os (t:Nat) {d d':D} (h:zaX K t=some d) (e:d=d') (k:OpsD P N C ops i ((t,d')::K) H Kt):OpsD P N C ops i K H Kt:=by
 subst e
 refine⟨fun a w F ok hk g=>k.out a w F ok (fun s u hu=>?_) g⟩
 simp only[zaX] at hu
 by_cases e:s=t
 · subst e;rw[show Nat.beq s s=true from Nat.beq_refl s] at hu;simp only[cond_true,Option.some.injEq] at hu;subst hu;exact hk s _ h
 · rw[zcv e] at hu;exact hk s u hu
theorem oZ {b:Code} {Q:za8} (hn:Nat.ble ops.length i=true) (h:JD P N C b K H Q):OpsD P N C ops i K H (fun ρ w F=>qseq P N b Q .normal ρ w F):=zr (Q:=qseq P N b Q) hn (zn h)
end
section
variable {P:Program} {N:Nat} {C:Ctx} {K:Kd} {H:List Hp} {Q:za8} {c:Code} {p pa pb:List Bool}
theorem jn {H':List Hp} {b:Code} (h:cpF H=some H') (k:JD P N C b K H' Q):JD P N C b K H Q:=zfr h ▸ k
theorem pn {H':List Hp} {e:Exit} (h:cpF H=some H') (k:PD C Q e K H'):PD C Q e K H:=zfr h ▸ k
theorem jk (ts:List Nat) {K':Kd} {b:Code} (h:kpF ts K=some K') (k:JD P N C b K' H Q):JD P N C b K H Q:=JD.sub K' (kpF_sub h) k
theorem pk (ts:List Nat) {K':Kd} {e:Exit} (h:kpF ts K=some K') (k:PD C Q e K' H):PD C Q e K H:=PD.sub K' (kpF_sub h) k
theorem ja {K':Kd} {b:Code} (h:cpF K=some K') (k:JD P N C b K' H Q):JD P N C b K H Q:=zfr h ▸ k
def sqF (c:Code) (p:List Bool):Option (List Bool×List Bool):=match isSeq (cd c p),snF p false,snF p true with
 | true,some a,some b=>some (a,b)
 | _,_,_=>none
theorem sqF_ok (h:sqF c p=some (pa,pb)):isSeq (cd c p)=true∧p++[false]=pa∧p++[true]=pb:=by
 unfold sqF at h
 split at h
 · rename_i h1 h2 h3;injection h with h;injection h with e1 e2;subst e1;subst e2;exact⟨h1,zeC h2,zeC h3⟩
 · cases h
theorem jS (h:sqF c p=some (pa,pb)) (k:JD P N C (cd c pa) K H (qseq P N (cd c pb) Q)):JD P N C (cd c p) K H Q:=jd_seq _ _ (sqF_ok h).1 (sqF_ok h).2.1 (sqF_ok h).2.2 k
def sgF (c:Code) (p:List Bool):Option (List Bool×List Bool):=match sqF c p with
 | some (a,b)=>match zeH (cd c a) with
  | some false=>some (a,b)
  | _=>none
 | none=>none
theorem jT (h:sgF c p=some (pa,pb)) (k:OpsD P N C (zdA (cd c pa)) 0 K H (fun ρ w F=>qseq P N (cd c pb) Q .normal ρ w F)):JD P N C (cd c p) K H Q:=by
 unfold sgF at h
 split at h
 · rename_i a b h1
   split at h
   · rename_i h2;injection h with h;injection h with e1 e2;subst e1;subst e2;exact jS h1 (zf h2 k)
   · cases h
 · cases h
def cnF (c:Code) (p:List Bool) (K:Kd):Option (List Bool×List Bool×D):=match condOf (cd c p),snF p false,snF p true with
 | some x,some a,some b=>match opD K x with
  | some d=>some (a,b,d)
  | none=>none
 | _,_,_=>none
theorem jC {t:Bool} (h:cnF c p K=some (pa,pb,.v (.bool t))) (ht:t=true→JD P N C (cd c pa) K H Q) (hf:t=false→JD P N C (cd c pb) K H Q):JD P N C (cd c p) K H Q:=by
 unfold cnF at h
 split at h
 · rename_i x a b h1 h2 h3
   split at h
   · rename_i d hd;injection h with h;injection h with e1 h;injection h with e2 e3
     subst e1;subst e2;subst e3
     exact jd_cond _ _ h1 (zeC h2) (zeC h3) hd ht hf
   · cases h
 · cases h
theorem jD {φ:Prop} {_:Decidable φ} (h:cnF c p K=some (pa,pb,.v (.bool (decide φ)))) (ht:φ→JD P N C (cd c pa) K H Q) (hf:¬φ→JD P N C (cd c pb) K H Q):JD P N C (cd c p) K H Q:=
 jC h (fun e=>ht (of_decide_eq_true e)) (fun e=>hf (of_decide_eq_false e))
theorem jCt (h:cnF c p K=some (pa,pb,.v (.bool true))) (ht:JD P N C (cd c pa) K H Q):JD P N C (cd c p) K H Q:=jC h (fun _=>ht) (fun e=>by cases e)
theorem jCf (h:cnF c p K=some (pa,pb,.v (.bool false))) (hf:JD P N C (cd c pb) K H Q):JD P N C (cd c p) K H Q:=jC h (fun e=>by cases e) (fun _=>hf)
def blF (c:Code) (p:List Bool):Option (List Bool×Nat):=match blockOf (cd c p),snF p false with
 | some n,some a=>some (a,n)
 | _,_=>none
theorem jB {id:Nat} (h:blF c p=some (pa,id)) (k:JD P N C (cd c pa) K H (zeD id Q)):JD P N C (cd c p) K H Q:=by
 unfold blF at h
 split at h
 · rename_i h1 h2;injection h with h;injection h with e1 e2;subst e1;subst e2;exact jd_block _ h1 (zeC h2) k
 · cases h
def lpF (c:Code) (p:List Bool):Option (List Bool):=match isLoop (cd c p),snF p false with
 | true,some a=>some a
 | _,_=>none
theorem zei (h:lpF c p=some pa):isLoop (cd c p)=true∧p++[false]=pa:=by
 unfold lpF at h
 split at h
 · rename_i h1 h2;injection h with h;subst h;exact⟨h1,zeC h2⟩
 · cases h
abbrev ql1 {A0:Type} (C:Ctx) (L:A0→Kd) (HI:A0→List Hp) (I:A0→Prop) (μ:A0→Nat) (a0:A0) (Q:za8):za8:=zfe C (fun g:A0=>L g) (fun g:A0=>HI g) (fun g:A0=>I g) (fun g:A0=>μ g) a0 Q
theorem jl1 {A0:Type} (L:A0→Kd) (HI:A0→List Hp) (I:A0→Prop) (μ:A0→Nat) (a0:A0) (hk:lpF c p=some pa) (hs:SubK (L a0) K) (hH:HSub H (HI a0)) (hI:I a0) (h:∀ b0,I b0→JD P N C (cd c pa) (L b0) (HI b0) (ql1 C L HI I μ b0 Q)):JD P N C (cd c p) K H Q:=
 jd_loop (fun g:A0=>L g) (fun g:A0=>HI g) (fun g:A0=>I g) (fun g:A0=>μ g) pa a0 (zei hk).1 (zei hk).2 hs hH hI (fun g hg=>h g hg)
theorem pl1 {A0:Type} {L:A0→Kd} {HI:A0→List Hp} {I:A0→Prop} {μ:A0→Nat} {a0:A0} (b0:A0) (hs:SubK (L b0) K) (hH:HSub H (HI b0)) (hI:I b0) (hμ:μ b0<μ a0):PD C (ql1 C L HI I μ a0 Q) .normal K H:=pd_loop b0 hs hH hI hμ
abbrev ql2 {A0 A1:Type} (C:Ctx) (L:A0→A1→Kd) (HI:A0→A1→List Hp) (I:A0→A1→Prop) (μ:A0→A1→Nat) (a0:A0) (a1:A1) (Q:za8):za8:=zfe C (fun g:A0×A1=>L g.1 g.2) (fun g:A0×A1=>HI g.1 g.2) (fun g:A0×A1=>I g.1 g.2) (fun g:A0×A1=>μ g.1 g.2) (a0,a1) Q
theorem jl2 {A0 A1:Type} (L:A0→A1→Kd) (HI:A0→A1→List Hp) (I:A0→A1→Prop) (μ:A0→A1→Nat) (a0:A0) (a1:A1) (hk:lpF c p=some pa) (hs:SubK (L a0 a1) K) (hH:HSub H (HI a0 a1)) (hI:I a0 a1) (h:∀ b0 b1,I b0 b1→JD P N C (cd c pa) (L b0 b1) (HI b0 b1) (ql2 C L HI I μ b0 b1 Q)):JD P N C (cd c p) K H Q:=
 jd_loop (fun g:A0×A1=>L g.1 g.2) (fun g:A0×A1=>HI g.1 g.2) (fun g:A0×A1=>I g.1 g.2) (fun g:A0×A1=>μ g.1 g.2) pa (a0,a1) (zei hk).1 (zei hk).2 hs hH hI (fun g hg=>h g.1 g.2 hg)
theorem pl2 {A0 A1:Type} {L:A0→A1→Kd} {HI:A0→A1→List Hp} {I:A0→A1→Prop} {μ:A0→A1→Nat} {a0:A0} {a1:A1} (b0:A0) (b1:A1) (hs:SubK (L b0 b1) K) (hH:HSub H (HI b0 b1)) (hI:I b0 b1) (hμ:μ b0 b1<μ a0 a1):PD C (ql2 C L HI I μ a0 a1 Q) .normal K H:=pd_loop (b0,b1) hs hH hI hμ
abbrev ql3 {A0 A1 A2:Type} (C:Ctx) (L:A0→A1→A2→Kd) (HI:A0→A1→A2→List Hp) (I:A0→A1→A2→Prop) (μ:A0→A1→A2→Nat) (a0:A0) (a1:A1) (a2:A2) (Q:za8):za8:=zfe C (fun g:A0×A1×A2=>L g.1 g.2.1 g.2.2) (fun g:A0×A1×A2=>HI g.1 g.2.1 g.2.2) (fun g:A0×A1×A2=>I g.1 g.2.1 g.2.2) (fun g:A0×A1×A2=>μ g.1 g.2.1 g.2.2) (a0,a1,a2) Q
theorem jl3 {A0 A1 A2:Type} (L:A0→A1→A2→Kd) (HI:A0→A1→A2→List Hp) (I:A0→A1→A2→Prop) (μ:A0→A1→A2→Nat) (a0:A0) (a1:A1) (a2:A2) (hk:lpF c p=some pa) (hs:SubK (L a0 a1 a2) K) (hH:HSub H (HI a0 a1 a2)) (hI:I a0 a1 a2) (h:∀ b0 b1 b2,I b0 b1 b2→JD P N C (cd c pa) (L b0 b1 b2) (HI b0 b1 b2) (ql3 C L HI I μ b0 b1 b2 Q)):JD P N C (cd c p) K H Q:=
 jd_loop (fun g:A0×A1×A2=>L g.1 g.2.1 g.2.2) (fun g:A0×A1×A2=>HI g.1 g.2.1 g.2.2) (fun g:A0×A1×A2=>I g.1 g.2.1 g.2.2) (fun g:A0×A1×A2=>μ g.1 g.2.1 g.2.2) pa (a0,a1,a2) (zei hk).1 (zei hk).2 hs hH hI (fun g hg=>h g.1 g.2.1 g.2.2 hg)
theorem pl3 {A0 A1 A2:Type} {L:A0→A1→A2→Kd} {HI:A0→A1→A2→List Hp} {I:A0→A1→A2→Prop} {μ:A0→A1→A2→Nat} {a0:A0} {a1:A1} {a2:A2} (b0:A0) (b1:A1) (b2:A2) (hs:SubK (L b0 b1 b2) K) (hH:HSub H (HI b0 b1 b2)) (hI:I b0 b1 b2) (hμ:μ b0 b1 b2<μ a0 a1 a2):PD C (ql3 C L HI I μ a0 a1 a2 Q) .normal K H:=pd_loop (b0,b1,b2) hs hH hI hμ
abbrev ql4 {A0 A1 A2 A3:Type} (C:Ctx) (L:A0→A1→A2→A3→Kd) (HI:A0→A1→A2→A3→List Hp) (I:A0→A1→A2→A3→Prop) (μ:A0→A1→A2→A3→Nat) (a0:A0) (a1:A1) (a2:A2) (a3:A3) (Q:za8):za8:=zfe C (fun g:A0×A1×A2×A3=>L g.1 g.2.1 g.2.2.1 g.2.2.2) (fun g:A0×A1×A2×A3=>HI g.1 g.2.1 g.2.2.1 g.2.2.2) (fun g:A0×A1×A2×A3=>I g.1 g.2.1 g.2.2.1 g.2.2.2) (fun g:A0×A1×A2×A3=>μ g.1 g.2.1 g.2.2.1 g.2.2.2) (a0,a1,a2,a3) Q
theorem jl4 {A0 A1 A2 A3:Type} (L:A0→A1→A2→A3→Kd) (HI:A0→A1→A2→A3→List Hp) (I:A0→A1→A2→A3→Prop) (μ:A0→A1→A2→A3→Nat) (a0:A0) (a1:A1) (a2:A2) (a3:A3) (hk:lpF c p=some pa) (hs:SubK (L a0 a1 a2 a3) K) (hH:HSub H (HI a0 a1 a2 a3)) (hI:I a0 a1 a2 a3) (h:∀ b0 b1 b2 b3,I b0 b1 b2 b3→JD P N C (cd c pa) (L b0 b1 b2 b3) (HI b0 b1 b2 b3) (ql4 C L HI I μ b0 b1 b2 b3 Q)):JD P N C (cd c p) K H Q:=
 jd_loop (fun g:A0×A1×A2×A3=>L g.1 g.2.1 g.2.2.1 g.2.2.2) (fun g:A0×A1×A2×A3=>HI g.1 g.2.1 g.2.2.1 g.2.2.2) (fun g:A0×A1×A2×A3=>I g.1 g.2.1 g.2.2.1 g.2.2.2) (fun g:A0×A1×A2×A3=>μ g.1 g.2.1 g.2.2.1 g.2.2.2) pa (a0,a1,a2,a3) (zei hk).1 (zei hk).2 hs hH hI (fun g hg=>h g.1 g.2.1 g.2.2.1 g.2.2.2 hg)
theorem pl4 {A0 A1 A2 A3:Type} {L:A0→A1→A2→A3→Kd} {HI:A0→A1→A2→A3→List Hp} {I:A0→A1→A2→A3→Prop} {μ:A0→A1→A2→A3→Nat} {a0:A0} {a1:A1} {a2:A2} {a3:A3} (b0:A0) (b1:A1) (b2:A2) (b3:A3) (hs:SubK (L b0 b1 b2 b3) K) (hH:HSub H (HI b0 b1 b2 b3)) (hI:I b0 b1 b2 b3) (hμ:μ b0 b1 b2 b3<μ a0 a1 a2 a3):PD C (ql4 C L HI I μ a0 a1 a2 a3 Q) .normal K H:=pd_loop (b0,b1,b2,b3) hs hH hI hμ
end
theorem bA (a b:Bool):((a&&b)=true)=(a=true∧b=true):=Bool.and_eq_true a b
theorem bB (a b:Bool):((a||b)=true)=(a=true∨b=true):=Bool.or_eq_true a b
theorem bC (b:Bool):((!b)=true)=(b=false):=Bool.not_eq_true' b
theorem bD (b:Bool):((!b)=false)=(b=true):=Bool.not_eq_false' b
theorem bE (a b:Bool):((a&&b)=false)=(a=false∨b=false):=by cases a<;>cases b<;>simp
theorem bF (a b:Bool):((a||b)=false)=(a=false∧b=false):=by cases a<;>cases b<;>simp
theorem bG (p:Prop) [Decidable p]:(decide p=true)=p:=decide_eq_true_eq
theorem bH (p:Prop) [Decidable p]:(decide p=false)=¬p:=by simp
theorem bI (p:Prop) [Decidable p]:(¬¬p)=p:=by simp
theorem bJ {α:Sort _} (a b:α):(a≠b)=¬a=b:=rfl
theorem la {α:Type} {a b:List α}:(a++b).length=a.length+b.length:=List.length_append
theorem lc {α:Type} {a:α} {b:List α}:(a::b).length=b.length+1:=List.length_cons
theorem ln {α:Type}:([]:List α).length=0:=List.length_nil
theorem lm {α β:Type} {a:List α} {f:α→β}:(a.map f).length=a.length:=List.length_map f
theorem lt' {α:Type} {n:Nat} {a:List α}:(a.take n).length=min n a.length:=List.length_take
theorem ld {α:Type} {n:Nat} {a:List α}:(a.drop n).length=a.length-n:=List.length_drop
theorem ls {α:Type} {n:Nat} {a:List α} {x:α}:(a.set n x).length=a.length:=List.length_set
theorem lr {α:Type} {n:Nat} {x:α}:(List.replicate n x).length=n:=List.length_replicate
theorem J {α:Sort _} {a:α}:a=a:=rfl
end Lp
