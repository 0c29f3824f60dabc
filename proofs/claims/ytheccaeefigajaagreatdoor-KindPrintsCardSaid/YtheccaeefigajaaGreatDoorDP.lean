import Derived.Test.YtheccaeefigajaaGreatDoorRows
import Derived.ProofKit
import Derived.LaidMore
import Derived.OpenShut
import Derived.Stop.Joined
import Derived.Test.YtheccaeefigajaaGreatDoorProg
import Derived.Test.YtheccaeefigajaaGreatDoorPLexS
set_option linter.unusedVariables false
namespace Lp
open Go
def FitT (x:TokD):Prop:=bl8 (zcv x)≠[]∧runL isB (bl8 (zcv x))=0∧zw (bl8 (zcv x))=(⟨x.k,0,x.t⟩,(zcv x).size)
theorem run_word:∀ (n:Nat) (s:ByteArray) (p:Nat),s.size-p=n→zfo (zbo s p)=true→runL isLD (bts s p)=s.size-p:=by
 intro n
 induction n using Nat.strongRecOn with
 | _ n ih=>
  intro s p hp hw
  rcases Nat.lt_or_ge p s.size with h | h
  · rw[zbk h,wordR_cons,Bool.and_eq_true,decide_eq_true_eq] at hw
    have hk:isLD ((decL (bts s p)).1:Int)=true:=by
     rw[←zcJ]
     show inK [1,2] _=true
     unfold inK
     rcases hw.1 with h | h<;>simp[h]
    have h1:=zah s p
    have h2:=zbi s p h
    rw[zcR (zer h) hk,zc5,←zcI,ih _ (by omega) s _ rfl hw.2];omega
  · rw[zeZ h,zcZ];omega
theorem name_first {s:ByteArray} (h:zcO s=true):0<s.size∧zP ((decR s 0:Nat):Int)=1∧runL isLD (bl8 s)=s.size:=by
 have h':=h
 unfold zcO at h'
 rw[nameR_start] at h'
 simp only[Bool.and_eq_true,decide_eq_true_eq] at h'
 have hz:0<s.size:=by
  rcases Nat.lt_or_ge 0 s.size with hz | hz
  · exact hz
  · have e:zaC s=[]:=by show zbo s 0=[];exact zby hz
    rw[e] at h';simp at h'
 refine⟨hz,?_,?_⟩
 · have e:zaC s=((decR s 0:Nat):Int)::zbo s (0+decW s 0):=by show zbo s 0=_;exact zbk hz
   have:=h'.1.2
   rw[e] at this;exact this
 · have:=run_word _ s 0 rfl h'.2
   exact this
theorem good_word {s:ByteArray} (h:zcO s=true):FitT ⟨1,0,s⟩:=by
 obtain ⟨h1,h2,h3⟩:=name_first h
 have ej:zcv ⟨1,0,s⟩=s:=zdB (show ¬(1:Int)=3 by decide) (show ¬(1:Int)=4 by decide)
 have hb:isB ((decL (bl8 s)).1:Int)=false:=by
  rw[dec0];show inK [3] _=false;unfold inK;simp[h2]
 unfold FitT;rw[ej]
 refine⟨bl8_ne h1,zdn hb,?_⟩
 rw[firstT_w (by rw[dec0];exact h2)]
 have e:mkB ((bl8 s).take s.size)=s:=by rw[←zat,List.take_length,zfv]
 unfold zb3;rw[h3,e,if_pos h]
theorem digL_13 {v:Nat} (h:v≤1000000000000):(digL v).length≤13:=digL_lt 12 v (Nat.lt_of_le_of_lt h (by decide))
theorem numD_0 (v:Nat):numD 0 v=digL v:=rfl
theorem good_num {v:Nat} (h:v≤1000000000000):FitT ⟨2,0,digB v⟩:=by
 have h13:=digL_13 h
 obtain ⟨h1,h2⟩:=num_first (zdg 0 v) (numD_ne 0 v) []
 have hr:=zed isD_2 (numD 0 v) [] (zdg 0 v)
 have hr2:=zed isLD_2 (numD 0 v) [] (zdg 0 v)
 rw[zcZ,Nat.add_zero] at hr hr2
 rw[List.append_nil] at h1 h2 hr hr2
 have ej:zcv ⟨2,0,digB v⟩=digB v:=zdB (show ¬(2:Int)=3 by decide) (show ¬(2:Int)=4 by decide)
 have eb:bl8 (digB v)=numD 0 v:=zcs _
 unfold FitT;rw[ej,eb]
 refine⟨numD_ne 0 v,h2,?_⟩
 have hs:(digB v).size=(numD 0 v).length:=zav _
 rw[h1,hs];unfold numT
 rw[hr,hr2,List.take_length,digV_eq,numD_val,if_neg (by rw[numD_0];omega),if_pos rfl]
theorem good_dur {v:Nat} (h:v≤1000000000):FitT ⟨4,0,digB v⟩:=by
 have h13:=digL_13 (v:=v) (by omega)
 obtain ⟨h1,h2⟩:=num_first (zdg 0 v) (numD_ne 0 v) [115]
 have hr:=zed isD_2 (numD 0 v) [115] (zdg 0 v)
 have hr2:=zed isLD_2 (numD 0 v) [115] (zdg 0 v)
 have e0:runL isD [115]=0:=zdn (by decide)
 rw[e0,Nat.add_zero] at hr
 have e1:runL isLD [115]=1:=by
  rw[zcR (by simp) (by decide)]
  show 1+runL isLD []=1
  rw[zcZ]
 rw[e1] at hr2
 have ej:zcv ⟨4,0,digB v⟩=digB v++(⟨#[115]⟩:ByteArray):=joinT_4 (show ¬(4:Int)=3 by decide) rfl
 have eb:bl8 (digB v++(⟨#[115]⟩:ByteArray))=numD 0 v++[115]:=by
  rw[bl8_add,show bl8 (digB v)=numD 0 v from zcs _]
 have hs:(digB v++(⟨#[115]⟩:ByteArray)).size=(numD 0 v).length+1:=by
  rw[←zat,eb,List.length_append];rfl
 unfold FitT;rw[ej,eb,hs]
 refine⟨by simp[numD_ne],h2,?_⟩
 have e2:((numD 0 v++[115]).take ((numD 0 v).length+1)).drop (numD 0 v).length=[115]:=by
  rw[List.take_of_length_le (by simp),List.drop_left]
 have es:secB (mkB [115])=1:=by decide
 rw[h1];unfold numT
 rw[hr,hr2,List.take_left,digV_eq,numD_val,if_neg (by rw[numD_0];omega),if_neg (by omega),e2,es,if_neg (by omega),Nat.mul_one]
theorem good_str (s:ByteArray):FitT ⟨3,0,s⟩:=by
 have h1:=strT_quote s []
 have h2:=quote_blank s []
 rw[List.append_nil] at h1 h2
 have ej:zcv ⟨3,0,s⟩=zaP s:=joinT_3 rfl
 unfold FitT;rw[ej,quote_bl8,show (zaP s).size=(zbc s).length from zav _]
 exact⟨by unfold zbc;simp,h2,h1⟩
theorem sign_facts:∀ x∈zaz,bl8 x≠[]∧¬zP ((decL (bl8 x)).1:Int)=1∧¬zP ((decL (bl8 x)).1:Int)=2∧¬(decL (bl8 x)).1=34∧isB ((decL (bl8 x)).1:Int)=false∧zb1 (bl8 x)=(⟨5,0,x⟩,x.size):=by decide
theorem good_sign {x:ByteArray} (hx:x∈zaz):FitT ⟨5,0,x⟩:=by
 obtain ⟨h1,h2,h3,h4,h5,h6⟩:=sign_facts x hx
 have ej:zcv ⟨5,0,x⟩=x:=zdB (show ¬(5:Int)=3 by decide) (show ¬(5:Int)=4 by decide)
 unfold FitT;rw[ej]
 exact⟨h1,zdn h5,by rw[firstT_s h2 h3 h4,h6]⟩
theorem signIn_mem:∀ (xs:List ByteArray) (l:List UInt8),(zaS xs l).2≠0→∃ x∈xs,(zaS xs l).1=⟨5,0,x⟩
 | [],_,h=>absurd rfl h
 | x::xs,l,h=>by
  unfold zaS at h ⊢
  split
  · exact⟨x,List.mem_cons_self,rfl⟩
  · rename_i h2
    rw[if_neg h2] at h
    obtain ⟨y,hy,e⟩:=signIn_mem xs l h
    exact⟨y,List.mem_cons_of_mem _ hy,e⟩
theorem sign_small:∀ x∈zaz,x.size≤2:=by decide
theorem first_good {l:List UInt8} (h:(zw l).2≠0):FitT (zw l).1∧(zw l).1.t.size≤l.length+20:=by
 unfold zw at h ⊢
 split
 · rename_i h1
   rw[if_pos h1] at h
   unfold zb3 at h ⊢
   split
   · rename_i h2
     refine⟨good_word h2,?_⟩
     show (mkB _).size≤_
     rw[zav,List.length_take];omega
   · rename_i h2
     rw[if_neg h2] at h;exact absurd rfl h
 · rename_i h1
   rw[if_neg h1] at h
   split
   · rename_i h2
     rw[if_pos h2] at h
     unfold numT at h ⊢
     split
     · rename_i h3;rw[if_pos h3] at h;exact absurd rfl h
     · rename_i h3
       rw[if_neg h3] at h
       split
       · refine⟨good_num (by omega),?_⟩
         have:=digB_20 (n:=digV (l.take (runL isD l))) (by omega)
         show (digB _).size≤_
         omega
       · rename_i h4
         rw[if_neg h4] at h
         split
         · rename_i h5;rw[if_pos h5] at h;exact absurd rfl h
         · rename_i h5
           obtain ⟨c,hc⟩:∃ c,secB (mkB ((l.take (runL isLD l)).drop (runL isD l)))=c:=⟨_,rfl⟩
           rw[hc] at h5 ⊢
           have hm:digV (l.take (runL isD l))*c≤1000000000:=(Nat.le_div_iff_mul_le (by omega)).1 (by omega)
           refine⟨good_dur hm,?_⟩
           have:=digB_20 (n:=digV (l.take (runL isD l))*c) (by omega)
           show (digB _).size≤_
           omega
   · rename_i h2
     rw[if_neg h2] at h
     split
     · rename_i h3
       rw[if_pos h3] at h
       cases e:zao true l with
       | none=>unfold strT at h;rw[e] at h;exact absurd rfl h
       | some i=>
        have hi:=qscan_lt _ l true i rfl e
        cases e2:unqB (mkB (l.take (i+1))) with
        | none=>
         unfold strT at h;rw[e] at h
         have h:(match unqB (mkB (l.take (i+1))) with | none=>(zbR,0) | some t=>((⟨3,0,t⟩:TokD),i+1)).2≠0:=h
         rw[e2] at h;exact absurd rfl h
        | some t=>
         have e3:strT l=(⟨3,0,t⟩,i+1):=by
          unfold strT;rw[e]
          show (match unqB (mkB (l.take (i+1))) with | none=>(zbR,0) | some t=>((⟨3,0,t⟩:TokD),i+1))=_
          rw[e2]
         rw[e3]
         refine⟨good_str t,?_⟩
         show t.size≤_
         have hq:zaP t=mkB (l.take (i+1)):=by
          unfold unqB at e2
          split at e2
          · rename_i hx
            injection e2 with e2
            rw[←e2];exact hx.choose_spec
          · cases e2
         have h4:=(quoteB_4 t).2
         rw[hq,zav,List.length_take] at h4;omega
     · rename_i h3
       rw[if_neg h3] at h
       obtain ⟨x,hx,e⟩:=signIn_mem zaz l h
       have e:(zb1 l).1=⟨5,0,x⟩:=e
       rw[e]
       refine⟨good_sign hx,?_⟩
       have:=sign_small x hx
       show x.size≤_
       omega
theorem good_put {x:TokD} (a:Nat) (h:FitT x):FitT (x.put a):=h
theorem words_good:∀ (n:Nat) (l:List UInt8) (a:Nat) (ts:List TokD),l.length=n→z6 l a=some ts→∀ x∈ts,FitT x∧x.t.size≤l.length+20:=by
 intro n
 induction n using Nat.strongRecOn with
 | _ n ih=>
  intro l a ts hn h
  have hrl:=zbv isB l
  generalize hm:l.drop (runL isB l)=m at*
  have hml:m.length=l.length-runL isB l:=by rw[←hm,List.length_drop]
  unfold z6 at h
  rw[hm] at h
  by_cases hne:m=[]
  · subst hne;rw[za8] at h;injection h with h;subst h
    exact fun x hx=>absurd hx (by simp)
  · by_cases h0:(zw m).2=0
    · rw[zbO hne h0] at h;cases h
    · have hpos:=List.length_pos_iff.2 hne
      have hfl:=firstT_le (l:=m)
      rw[zbb hne h0 (by omega)] at h
      cases e:z6 (m.drop (zw m).2) (a+runL isB l+(zw m).2) with
      | none=>rw[e] at h;cases h
      | some t2=>
       rw[e] at h
       have h:(zw m).1.put (a+runL isB l)::t2=ts:=by injection h
       have hi:=ih (m.drop (zw m).2).length (by rw[List.length_drop];omega) _ _ t2 rfl e
       rw[List.length_drop] at hi
       subst h
       intro x hx
       rcases List.mem_cons.1 hx with rfl | hx
       · obtain ⟨g1,g2⟩:=first_good h0
         exact⟨good_put _ g1,by show (zw m).1.t.size≤_;omega⟩
       · obtain ⟨g1,g2⟩:=hi x hx
         exact⟨g1,by omega⟩
theorem words_join1 {x:TokD} (h:FitT x) (a:Nat):z6 (bl8 (zcv x)) a=some [x.put a]:=by
 obtain ⟨h1,h2,h3⟩:=h
 have h4:=words_one (x:=⟨x.k,0,x.t⟩) h1 h2 (by rw[h3,zat])
 have h5:=wordsL_by a _ (bl8 (zcv x)) 0 rfl
 rw[Nat.zero_add,h4] at h5
 rw[h5]
 show some [TokD.mk x.k (((0:Nat):Int)+(a:Int)) x.t]=some [TokD.mk x.k (a:Int) x.t]
 rw[show ((0:Nat):Int)+(a:Int)=(a:Int) by omega]
theorem lex_sizes {s:ByteArray} (hs:s.size≤600):∀ x∈lexL s,x.t.size≤1000:=fun x hx=>by
 by_cases h:lexE s=0
 · have:=(words_good _ (bl8 s) 0 _ rfl (zel h).2 x hx).2
   rw[zat] at this;omega
 · rw[lex_none h] at hx;exact absurd hx (by simp)
end Lp
set_option linter.unusedVariables false
namespace Lp
open Go
structure TkOk (x:TokD):Prop where
 z:x.t.size≤1000
 d:x.k=2∨x.k=4→∃ v:Nat,v≤1000000000000∧x.t=digB v
def TOk (l:List TokD):Prop:=∀ x∈l,TkOk x
theorem TOk.suf {l m:List TokD} (h:TOk l) (k:m <:+l):TOk m:=fun x hx=>h x (k.subset hx)
theorem Stp.out {c:Int} {s t:Rd} (h:Stp c s t) (hT:TOk s.l):t.l.length≤s.l.length∧t.n+2*(t.l.length:Int)≤s.n+2*(s.l.length:Int)+c∧s.n≤t.n∧TOk t.l:=⟨h.len,h.w,h.n,hT.suf h.l⟩
theorem pk_z {s:Rd} (hT:TOk s.l):s.pk.t.size≤1000:=by
 unfold Rd.pk
 cases e:s.l with
 | nil=>exact Nat.zero_le _
 | cons x l=>exact(hT x (e ▸ List.mem_cons_self)).z
section
variable {s s':Rd} {k:Int} {ts:List ByteArray} {t a b:ByteArray} {q:Bool}
theorem zdl (e:(t,q,s')=s.take k ts):Stp 0 s s':=by have h:=zH s k ts;rw[←e] at h;exact h
theorem zc7 (e:(t,q,s')=s.take k ts) (hT:TOk s.l):t.size≤1000:=by
 have h:t=(s.take k ts).1:=congrArg Prod.fst e
 rw[h];unfold Rd.take;split
 · exact Nat.zero_le _
 · exact pk_z hT
theorem take_y (e:(t,q,s')=s.take k ts) (hk:k≠0) (hq:q=true):s'.l.length+1=s.l.length∧Stp (-2) s s'∧s.b=false∧s'.b=false∧s.is k ts=true:=by
 have h:=za0 (s:=s) (k:=k) (ts:=ts) hk (by rw[←e];exact hq)
 rw[←e] at h;exact h
theorem zfm (e:(t,s')=s.any k):Stp 0 s s':=by have h:=zaI s k;rw[←e] at h;exact h
theorem ze4 (e:(t,s')=s.any k) (hT:TOk s.l):t.size≤1000:=by
 have h:t=(s.any k).1:=congrArg Prod.fst e
 rw[h];unfold Rd.any;split
 · exact Nat.zero_le _
 · exact pk_z hT
theorem any_y (e:(t,s')=s.any k) (hk:k≠0) (hb:s.b=false) (h:s.pk.k=k):s'.l.length+1=s.l.length∧Stp (-2) s s'∧t=s.pk.t∧s'.b=false:=by
 have h:=zeD hk hb h
 rw[←e] at h;exact h
theorem zck (e:s'=s.must t):Stp 0 s s':=by rw[e];exact zz s t
theorem names_e {l:List ByteArray} (e:(l,s')=s.names):Stp 0 s s':=by have h:=names_stp s;rw[←e] at h;exact h
theorem mode_e {m:Int} {l:List ByteArray} (e:(m,l,s')=s.mode a b):Stp 0 s s':=by have h:=zaW s a b;rw[←e] at h;exact h
theorem number_e {v:Int} (e:(v,s')=s.number k):Stp 0 s s':=by have h:=zaE s k;rw[←e] at h;exact h
end
theorem digV_snoc (l:List UInt8) (b:UInt8):digV (l++[b])=10*digV l+(b.toNat-48):=by unfold digV;rw[List.foldl_append];rfl
theorem digV_digL:∀ n:Nat,digV (digL n)=n:=by
 intro n
 induction n using Nat.strongRecOn with
 | _ n ih=>
  unfold digL
  split
  · show 10*0+((UInt8.ofNat (48+n)).toNat-48)=n
    rw[on8 (by omega)];omega
  · rw[digV_snoc,ih (n / 10) (by omega),on8 (by omega)];omega
theorem digL_digs:∀ n:Nat,∀ b∈digL n,48≤b.toNat∧b.toNat≤57:=by
 intro n
 induction n using Nat.strongRecOn with
 | _ n ih=>
  intro b hb
  unfold digL at hb
  split at hb
  · rw[List.mem_singleton.1 hb,on8 (by omega)];omega
  · rcases List.mem_append.1 hb with h | h
    · exact ih (n / 10) (by omega) b h
    · rw[List.mem_singleton.1 h,on8 (by omega)];omega
theorem digL_ne (n:Nat):digL n≠[]:=by unfold digL;split<;>simp
theorem ze2 (n:Nat):bl8 (digB n)=digL n:=zcs _
theorem zdT (n:Nat):numV (digB n)=(n:Int):=by unfold numV;rw[ze2,digV_digL]
theorem numV_nil:numV ByteArray.empty=0:=rfl
theorem any_num {s s':Rd} {k:Int} {t:ByteArray} (e:(t,s')=s.any k) (hk:k=2∨k=4) (hT:TOk s.l):t=ByteArray.empty∨∃ v:Nat,v≤1000000000000∧t=digB v:=by
 have h:t=(s.any k).1:=congrArg Prod.fst e
 unfold Rd.any at h
 split at h
 · exact .inl h
 · rename_i hc
   have hk':s.pk.k=k:=Decidable.byContradiction fun h=>hc (.inr h)
   refine .inr ?_
   unfold Rd.pk at h hk'
   cases el:s.l with
   | nil=>rw[el] at hk';exact absurd hk' (by show ¬(0:Int)=k;omega)
   | cons x l=>
    rw[el] at h hk'
    have h:t=x.t:=h
    have hk':x.k=k:=hk'
    obtain ⟨v,h1,h2⟩:=(hT x (el ▸ List.mem_cons_self)).d (by omega)
    exact⟨v,h1,h.trans h2⟩
theorem zdS {s s':Rd} {k v:Int} (e:(v,s')=s.number k) (hk:k=2∨k=4) (hT:TOk s.l):0≤v∧v≤1000000000000:=by
 have h:v=numV (s.any k).1:=congrArg Prod.fst e
 rcases any_num (s:=s) (k:=k) (t:=(s.any k).1) (s':=(s.any k).2) rfl hk hT with h1 | ⟨n,h1,h2⟩
 · rw[h,h1,numV_nil];omega
 · rw[h,h2,zdT];omega
mutual
def Nd.cnt:Nd→Nat
 | .mk _ _ _ _ _ _ kids=>Nd.cntL kids+1
def Nd.cntL:List Nd→Nat
 | []=>0
 | x::r=>Nd.cnt x+Nd.cntL r
end
def Cnt (p:Rd→Nd×Rd):Prop:=∀ s,(p s).1.cnt+2*(p s).2.l.length≤2*s.l.length+1
theorem levelF_cnt {part:Rd→Nd×Rd} {signs:List ByteArray} (hp:Cnt part):∀ (f:Nat) (o:Nd) (s:Rd),(zaF part signs f o s).1.cnt+2*(zaF part signs f o s).2.l.length≤o.cnt+2*s.l.length
 | 0,o,s=>Nat.le_refl _
 | f+1,o,s=>by
  unfold zaF
  split
  · have:=(zH s 5 signs).len;simp only;omega
  · rename_i h
    have h:(s.take 5 signs).2.1=true:=by simpa using h
    have h1:=(za0 (by decide) h).1
    have h2:=(zaW (s.take 5 signs).2.2 tOn zJ).len
    have h3:=hp ((s.take 5 signs).2.2.mode tOn zJ).2.2
    have h4:=levelF_cnt (signs:=signs) hp f (.mk tBin (s.take 5 signs).1 0 ((s.take 5 signs).2.2.mode tOn zJ).1 ((s.take 5 signs).2.2.mode tOn zJ).2.1 [] [o,(part ((s.take 5 signs).2.2.mode tOn zJ).2.2).1]) (part ((s.take 5 signs).2.2.mode tOn zJ).2.2).2.node
    refine Nat.le_trans h4 ?_
    show (Nd.cntL [o,(part ((s.take 5 signs).2.2.mode tOn zJ).2.2).1]+1)+2*(part ((s.take 5 signs).2.2.mode tOn zJ).2.2).2.l.length≤_
    simp only[Nd.cntL];omega
theorem level_cnt {part:Rd→Nd×Rd} (hp:Cnt part) (signs:List ByteArray):Cnt (fun s=>s.level part signs):=fun s=>by
 have h1:=levelF_cnt (signs:=signs) hp ((part s).2.l.length+1) (part s).1 (part s).2
 have h2:=hp s
 show (s.level part signs).1.cnt+2*(s.level part signs).2.l.length≤_
 unfold Rd.level;omega
section
variable (rm:List MatD→Bool)
theorem selector_cnt:Cnt (fun s=>s.selector rm):=fun s=>by
 have h1:=(selector_stp rm s).len
 show Nd.cntL []+1+2*(s.selector rm).2.l.length≤_
 simp only[Nd.cntL];omega
theorem aggr_cnt {s:Rd} {ex:Rd→Nd×Rd} (hp:Cnt ex) (hb:s.b=false) (hk:s.pk.k=1):(s.aggr ex).1.cnt+2*(s.aggr ex).2.l.length≤2*s.l.length+1:=by
 have h1:=(zeD (by decide) hb hk).1
 have h2:=((zaW (s.any 1).2 tBy zC).trans (zz _ zA)).len
 by_cases hn:zag (s.any 1).1=true
 · have h3:=((zaE (((s.any 1).2.mode tBy zC).2.2.must zA) 2).trans (zz _ zR)).len
   have h4:=hp (((((s.any 1).2.mode tBy zC).2.2.must zA).number 2).2.must zR)
   have h5:=(zz (ex (((((s.any 1).2.mode tBy zC).2.2.must zA).number 2).2.must zR)).2 zN).len
   unfold Rd.aggr
   simp only[if_pos hn,Nd.cnt,Nd.cntL]
   show _+2*((ex (((((s.any 1).2.mode tBy zC).2.2.must zA).number 2).2.must zR)).2.must zN).l.length≤_
   omega
 · have h4:=hp (((s.any 1).2.mode tBy zC).2.2.must zA)
   have h5:=(zz (ex (((s.any 1).2.mode tBy zC).2.2.must zA)).2 zN).len
   unfold Rd.aggr
   simp only[if_neg hn,Nd.cnt,Nd.cntL]
   show _+2*((ex (((s.any 1).2.mode tBy zC).2.2.must zA)).2.must zN).l.length≤_
   omega
theorem prim_cnt {ex:Rd→Nd×Rd} (hp:Cnt ex):Cnt (fun s=>s.prim rm ex):=fun s=>by
 show (s.prim rm ex).1.cnt+2*(s.prim rm ex).2.l.length≤_
 unfold Rd.prim
 split
 · show Nd.cntL []+1+_≤_;simp only[Nd.cntL];omega
 · rename_i hb
   have hb:s.b=false:=by simpa using hb
   split
   · have:=(zaE s 2).len
     show Nd.cntL []+1+2*(s.number 2).2.l.length≤_;simp only[Nd.cntL];omega
   · split
     · have h1:=(zz s zA).len
       have h2:=hp (s.must zA)
       have h3:=(zz (ex (s.must zA)).2 zN).len
       simp only;omega
     · split
       · rename_i h;exact aggr_cnt hp hb h.1
       · split
         · rename_i h
           have h1:=(zeD (by decide) hb h.1).1
           have h2:=(zz (s.any 1).2 zA).len
           have h3:=hp ((s.any 1).2.must zA)
           have h4:=(zz (ex ((s.any 1).2.must zA)).2.node zN).len
           have h5:(ex ((s.any 1).2.must zA)).2.node.l.length=(ex ((s.any 1).2.must zA)).2.l.length:=rfl
           simp only[Nd.cnt,Nd.cntL];omega
         · exact selector_cnt rm s
theorem unaryF_cnt {ex:Rd→Nd×Rd} (hp:Cnt ex):∀ f:Nat,Cnt (zac rm ex f)
 | 0=>fun s=>by show Nd.cntL []+1+_≤_;simp only[Nd.cntL];show _+2*s.l.length≤_;omega
 | f+1=>fun s=>by
  unfold zac
  split
  · rename_i h
    have h1:=(za0 (by decide) h).1
    have h2:=unaryF_cnt hp f (s.take 5 [zan]).2.2
    show Nd.cntL [_]+1+2*(zac rm ex f (s.take 5 [zan]).2.2).2.l.length≤_
    simp only[Nd.cntL];omega
  · have h1:=(zH s 5 [zan]).len
    have h2:=prim_cnt rm hp (s.take 5 [zan]).2.2
    simp only at h2;omega
theorem prodP_cnt {ex:Rd→Nd×Rd} (hp:Cnt ex):Cnt (zcA rm ex):=level_cnt (fun s=>unaryF_cnt rm hp _ s) _
theorem sumP_cnt {ex:Rd→Nd×Rd} (hp:Cnt ex):Cnt (sumP rm ex):=level_cnt (prodP_cnt rm hp) _
theorem exprF_cnt:∀ f:Nat,Cnt (zaB rm f)
 | 0=>fun s=>by show Nd.cntL []+1+_≤_;simp only[Nd.cntL];show _+2*s.l.length≤_;omega
 | f+1=>fun s=>by unfold zaB;exact level_cnt (sumP_cnt rm (exprF_cnt f)) _ s
end
mutual
theorem deep_cnt:∀ q:Nd,q.deep≤q.cnt
 | .mk _ _ _ _ _ _ kids=>by simp only[Nd.deep,Nd.cnt];have:=deepL_cnt kids;omega
theorem deepL_cnt:∀ l:List Nd,Nd.deepL l≤Nd.cntL l
 | []=>Nat.le_refl _
 | x::r=>by simp only[Nd.deepL,Nd.cntL];have:=deep_cnt x;have:=deepL_cnt r;omega
end
end Lp
set_option linter.unusedVariables false
namespace Lp
open Go
theorem words_all (p:TokD→Prop) (hp:∀ (l:List UInt8) (a:Nat),(zw l).2≠0→p ((zw l).1.put a)):∀ (n:Nat) (l:List UInt8) (a:Nat) (ts:List TokD),l.length=n→z6 l a=some ts→∀ x∈ts,p x:=by
 intro n
 induction n using Nat.strongRecOn with
 | _ n ih=>
  intro l a ts hn h
  have hrl:=zbv isB l
  generalize hm:l.drop (runL isB l)=m at*
  have hml:m.length=l.length-runL isB l:=by rw[←hm,List.length_drop]
  unfold z6 at h
  rw[hm] at h
  by_cases hne:m=[]
  · subst hne;rw[za8] at h;injection h with h;subst h
    exact fun x hx=>absurd hx (by simp)
  · by_cases h0:(zw m).2=0
    · rw[zbO hne h0] at h;cases h
    · have hpos:=List.length_pos_iff.2 hne
      have hfl:=firstT_le (l:=m)
      rw[zbb hne h0 (by omega)] at h
      cases e:z6 (m.drop (zw m).2) (a+runL isB l+(zw m).2) with
      | none=>rw[e] at h;cases h
      | some t2=>
       rw[e] at h
       have h:(zw m).1.put (a+runL isB l)::t2=ts:=by injection h
       have hi:=ih (m.drop (zw m).2).length (by rw[List.length_drop];omega) _ _ t2 rfl e
       subst h
       intro x hx
       rcases List.mem_cons.1 hx with rfl | hx
       · exact hp _ _ h0
       · exact hi x hx
theorem first_dig {l:List UInt8} (h:(zw l).2≠0):(zw l).1.k=2∨(zw l).1.k=4→∃ v:Nat,v≤1000000000000∧(zw l).1.t=digB v:=by
 unfold zw at h ⊢
 split
 · rename_i h1
   rw[if_pos h1] at h
   unfold zb3 at h ⊢
   split
   · intro k;rcases k with k | k<;>exact absurd k (by show ¬(1:Int)=_;decide)
   · rename_i h2;rw[if_neg h2] at h;exact absurd rfl h
 · rename_i h1
   rw[if_neg h1] at h
   split
   · rename_i h2
     rw[if_pos h2] at h
     unfold numT at h ⊢
     split
     · rename_i h3;rw[if_pos h3] at h;exact absurd rfl h
     · rename_i h3
       rw[if_neg h3] at h
       split
       · exact fun _=>⟨_,by omega,rfl⟩
       · rename_i h4
         rw[if_neg h4] at h
         split
         · rename_i h5;rw[if_pos h5] at h;exact absurd rfl h
         · rename_i h5
           obtain ⟨c,hc⟩:∃ c,secB (mkB ((l.take (runL isLD l)).drop (runL isD l)))=c:=⟨_,rfl⟩
           rw[hc] at h5 ⊢
           have hm:digV (l.take (runL isD l))*c≤1000000000:=(Nat.le_div_iff_mul_le (by omega)).1 (by omega)
           exact fun _=>⟨_,by omega,rfl⟩
   · rename_i h2
     rw[if_neg h2] at h
     split
     · rename_i h3
       rw[if_pos h3] at h
       cases e:zao true l with
       | none=>unfold strT at h;rw[e] at h;exact absurd rfl h
       | some i=>
        cases e2:unqB (mkB (l.take (i+1))) with
        | none=>
         unfold strT at h;rw[e] at h
         have h:(match unqB (mkB (l.take (i+1))) with | none=>(zbR,0) | some t=>((⟨3,0,t⟩:TokD),i+1)).2≠0:=h
         rw[e2] at h;exact absurd rfl h
        | some t=>
         have e3:strT l=(⟨3,0,t⟩,i+1):=by
          unfold strT;rw[e]
          show (match unqB (mkB (l.take (i+1))) with | none=>(zbR,0) | some t=>((⟨3,0,t⟩:TokD),i+1))=_
          rw[e2]
         rw[e3]
         intro k;rcases k with k | k<;>exact absurd k (by show ¬(3:Int)=_;decide)
     · rename_i h3
       rw[if_neg h3] at h
       obtain ⟨x,hx,e⟩:=signIn_mem zaz l h
       have e:(zb1 l).1=⟨5,0,x⟩:=e
       rw[e]
       intro k;rcases k with k | k<;>exact absurd k (by show ¬(5:Int)=_;decide)
theorem lexL_tok (s:ByteArray):TOk (lexL s):=fun x hx=>by
 by_cases hE:lexE s=0
 · obtain ⟨h1,h2⟩:=zel hE
   refine⟨lex_sizes (by omega) x hx,?_⟩
   exact words_all (fun x=>x.k=2∨x.k=4→∃ v:Nat,v≤1000000000000∧x.t=digB v) (fun l a h=>first_dig h) _ _ _ _ rfl h2 x hx
 · rw[lex_none hE] at hx;exact absurd hx (by simp)
def zc8 (m:MatD):Bool:=zcO m.n&&decide (1≤m.op∧m.op≤4)&&(decide (m.op<3)||patR (zaC m.v))
def rmD (ms:List MatD):Bool:=ms.all zc8&&decide (ms.length≤10)
def noQ:QryD:=⟨noNd,0,0,0⟩
noncomputable def zbI (s:ByteArray):Int:=if lexE s=0 then(if (zbs rmD (lexL s)).isSome=true then 0 else 2) else lexE s
noncomputable def zaH (s:ByteArray):QryD:=if lexE s=0 then(zbs rmD (lexL s)).getD noQ else noQ
theorem zez {s:ByteArray} (h:zbI s=0):lexE s=0∧zbs rmD (lexL s)=some (zaH s):=by
 unfold zbI at h
 split at h
 · rename_i h1
   split at h
   · rename_i h2
     obtain ⟨q,hq⟩:=Option.isSome_iff_exists.1 h2
     refine⟨h1,?_⟩
     unfold zaH;rw[if_pos h1,hq];rfl
   · exact absurd h (by decide)
 · rename_i h1;exact absurd h h1
theorem read_bad {s:ByteArray} (h:¬zbI s=0):zaH s=noQ:=by
 unfold zbI at h
 unfold zaH
 split
 · rename_i h1
   rw[if_pos h1] at h
   split at h
   · exact absurd rfl h
   · rename_i h2
     cases e:zbs rmD (lexL s) with
     | none=>rfl
     | some q=>rw[e] at h2;exact absurd rfl h2
 · rfl
theorem parse_cnt {l:List TokD} {q:QryD} (h:zbs rmD l=some q):q.root.cnt≤2*l.length+1:=by
 unfold zbs at h
 have h1:=exprF_cnt rmD (l.length+1) ⟨l,0,false⟩
 simp only at h
 split at h
 · cases h
 · injection h with h
   rw[←h]
   simp only at h1 ⊢;omega
theorem read_cnt (s:ByteArray):(zaH s).root.cnt≤1201:=by
 by_cases h:zbI s=0
 · obtain ⟨h1,h2⟩:=zez h
   have h3:=parse_cnt h2
   have h4:=lexL_len s
   have h5:=(zel h1).1
   omega
 · rw[read_bad h];decide
end Lp
set_option linter.unusedVariables false
namespace Lp
open Go Go.RowKit Go.Proofs
abbrev HSyn (ev:Value):Hp:=.tab 1 #[ev]
theorem atoi_e (s:ByteArray) (ev es:Value) (hev:EvOk ev) (hes:EvOk es) (hd:s=ByteArray.empty∨∃ v:Nat,v≤1000000000000∧s=digB v):CD Tryz.prog 160 [HErr ev,HSyn es] [.s s] (fun r H'=>∃ x,r=.tup [dI (numV s),x]∧H'=[HErr ev,HSyn es]):=
 cd_ext fun w F vs hvs hok=>by
  obtain ⟨u,us,rfl,hu,hus⟩:=hvs
  obtain ⟨hu,hm⟩:=hu
  have hus:us=[]:=hus
  subst hu;subst hus
  rcases hd with rfl | ⟨n,hn,rfl⟩
  · obtain ⟨hF,T,fr,hh⟩:=hok _ (List.mem_cons_of_mem _ List.mem_cons_self)
    have hcell:w.cell? ⟨1,0,none⟩=some es:=by
     unfold World.cell?
     rw[hh];rfl
    refine(Any.strconv_Atoi_syntax Tryz.laysC172 ByteArray.empty (by decide) rfl es w hcell hes).mono fun e w' he=>?_
    obtain ⟨N,rfl,_,_,hbel⟩:=he
    exact⟨_,rfl,zdY hbel,.tup [dI 0,.any],⟨_,rfl,rfl⟩,⟨_,rfl,_,_,rfl,rfl,_,_,rfl,rfl,rfl⟩⟩
  · have h13:=digL_13 hn
    have ha:Lib.atoiAll (bl8 (digB n))=.ok (digV (bl8 (digB n)):Int):=by
     rw[ze2];exact atoi_ok (digL_digs n) (digL_ne n) h13
    rw[ze2,digV_digL] at ha
    rw[zdT]
    refine(Any.strconv_Atoi_ok Tryz.laysC172 (digB n) (by show (digB n).size≤_;unfold digB;rw[zav];omega) (n:Int) (by rw[←ze2] at ha;exact ha) w).mono fun e w' he=>?_
    obtain ⟨rfl,hw⟩:=he
    refine⟨_,rfl,?_,.tup [dI (n:Int),.v .nilIface],⟨_,rfl,rfl⟩,⟨_,rfl,_,_,rfl,rfl,_,_,rfl,rfl,rfl⟩⟩
    rcases hw with rfl | ⟨t,rfl⟩
    · exact Ext.rfl'
    · exact zdY (Joins.below_bytesWorld _ w _ t (Nat.le_refl _))
end Lp
set_option linter.unusedVariables false
namespace Lp
open Go Go.RowKit Go.Proofs
theorem laid_ints {H:Type} {enc:TypeId×Value→H} {P:Program} {w:World} {base:Nat} {spare:Nat→Bool} {held:Bool} {fuel n:Nat} {t e:TypeId} {k:IntKind} {cs:List Value} {zs:List Int} {q:List MemPlace}
 (hu:P.underlying t=some (.array n e)) (he:P.underlying e=some (.int k)) (hc:P.cellsOf e=1) (hct:P.cellsOf t=n) (h:DataW.trod enc P w base spare held fuel t cs=some (.agg (zs.map fun z=>.lit (.int k z)),q)):cs=zs.map (Value.int k):=by
 obtain ⟨xs,m,rfl,hx,hlen,hn,hel⟩:=DataW.trod_array hu h
 have hx1:zs.map (fun z=>(DataW.lit (.int k z):DataW H))=xs.map (fun x=>x.1):=by
  have:=congrArg Prod.fst hx
  injection this
 have hl:=congrArg List.length hx1
 rw[List.length_map,List.length_map] at hl
 apply List.ext_getElem?
 intro i
 rcases Nat.lt_or_ge i n with hi | hi
 · have h1:=hel i hi
   rw[hc,Nat.mul_one,List.getElem?_eq_getElem (by omega)] at h1
   obtain ⟨z,e1,e2,_⟩:=DataW.trod_int he h1
   have a1:cs[i]?=some (.int k z):=by
    have:=congrArg (fun l=>l[0]?) e1
    simp only[List.getElem?_take,List.getElem?_drop] at this
    simpa using this
   have a2:zs[i]?=some z:=by
    have:=congrArg (fun l=>l[i]?) hx1
    simp only[List.getElem?_map] at this
    rw[List.getElem?_eq_getElem (show i<xs.length by omega),e2] at this
    cases e3:zs[i]? with
    | none=>rw[e3] at this;cases this
    | some y=>rw[e3] at this;injection this with this;injection this with this;injection this with _ this;rw[this]
   rw[a1,List.getElem?_map,a2];rfl
 · rw[List.getElem?_eq_none (by omega),List.getElem?_eq_none (by rw[List.length_map];omega)]
theorem laid_iface {H:Type} {enc:TypeId×Value→H} {P:Program} {w:World} {base:Nat} {spare:Nat→Bool} {held:Bool} {fuel:Nat} {t:TypeId} {cs:List Value} {x:DataW H×List MemPlace} {ms:TypeDesc}
 (hu:P.underlying t=some ms) (hm:∃ mm,ms=.interface mm) (h:DataW.trod enc P w base spare held fuel t cs=some x):∃ ev,cs=[ev]∧EvOk ev:=by
 obtain ⟨mm,rfl⟩:=hm
 cases fuel with
 | zero=>exact absurd h (by show ¬(none=some x);simp)
 | succ fuel=>
  rw[DataW.trod_step] at h
  unfold DataW.trodStep at h
  rw[hu] at h
  split at h<;>simp_all [EvOk]
theorem var_heap {P:Program} {w:World} {name:String} {g:Nat} {cs:Array Value} (hg:P.globalNamed name=some g) (h:World.var? P w name=some cs):∃ T fr,w.heap[g]?=some (.cells cs T fr):=by
 unfold World.var? at h
 rw[hg] at h
 have h:(match w.heap[g]? with | some (.cells cs _ _)=>some cs | _=>none)=some cs:=h
 split at h
 · rename_i a b c e;injection h with h;subst h;exact⟨_,_,e⟩
 · cases h
theorem of_laid {W:World} (h:laidMetH Tryz.prog Go.Proofs.YtheccaeefigajaaGreatDoor.Rows.kindTellsRow.laid W):∃ ev es,EvOk ev∧EvOk es∧(∃ T fr,W.heap[0]?=some (.cells zeg T fr))∧(∃ T fr,W.heap[2]?=some (.cells #[ev] T fr))∧(∃ T fr,W.heap[1]?=some (.cells #[es] T fr)):=by
 rw[MakeChecks.laidMetH_plain _ _ _ (by kernel_rfl)] at h
 obtain ⟨ps,⟨g0,t0,cs0,f0,p0,q0,hg0,ht0,hv0,hd0,⟨g1,t1,cs1,f1,p1,q1,hg1,ht1,hv1,hd1,⟨g2,t2,cs2,f2,p2,q2,hg2,ht2,hv2,hd2,⟨g3,t3,cs3,f3,p3,q3,hg3,ht3,hv3,hd3,⟨g4,t4,cs4,f4,p4,q4,hg4,ht4,hv4,hd4,_⟩,_⟩,_⟩,_⟩,_⟩,_,_⟩:=h
 obtain rfl:0=g2:=Option.some.inj ((show Tryz.prog.globalNamed _=some 0 by kernel_rfl).symm.trans hg2)
 obtain rfl:2=g3:=Option.some.inj ((show Tryz.prog.globalNamed _=some 2 by kernel_rfl).symm.trans hg3)
 obtain rfl:1=g4:=Option.some.inj ((show Tryz.prog.globalNamed _=some 1 by kernel_rfl).symm.trans hg4)
 have a4:Tryz.prog.globals[1]?.map (·.type)=some t4:=ht4
 obtain rfl:=Option.some.inj ((show Tryz.prog.globals[1]?.map (·.type)=some 202 by kernel_rfl).symm.trans a4)
 obtain ⟨es,e4,hes⟩:=laid_iface Tryz.underlying202 ⟨_,rfl⟩ hd4
 have a2:Tryz.prog.globals[0]?.map (·.type)=some t2:=ht2
 have a3:Tryz.prog.globals[2]?.map (·.type)=some t3:=ht3
 obtain rfl:=Option.some.inj ((show Tryz.prog.globals[0]?.map (·.type)=some 240 by kernel_rfl).symm.trans a2)
 obtain rfl:=Option.some.inj ((show Tryz.prog.globals[2]?.map (·.type)=some 202 by kernel_rfl).symm.trans a3)
 obtain ⟨ev,e3,hev⟩:=laid_iface Tryz.underlying202 ⟨_,rfl⟩ hd3
 have e2:=laid_ints (n:=20) (e:=222) (zs:=Lib.pow10Tab) (by kernel_rfl) (by kernel_rfl) (by kernel_rfl) (by kernel_rfl) hd2
 refine⟨ev,es,hev,hes,?_,?_,?_⟩
 · have:=var_heap hg2 hv2
   rwa [show cs2=zeg from Array.toList_inj.1 (by rw[e2];simp[zeg])] at this
 · have:=var_heap hg3 hv3
   rwa [show cs3=#[ev] from Array.toList_inj.1 (by rw[e3])] at this
 · have:=var_heap hg4 hv4
   rwa [show cs4=#[es] from Array.toList_inj.1 (by rw[e4])] at this
theorem CD.lawT {f:FuncId} {ds:List D} {ev es:Value} (h:CD Tryz.prog f [HPow,HErr ev,HSyn es] ds (fun r H'=>r=.v (.bool true)∧H'=[HPow,HErr ev,HSyn es])) {W:World} {vs:List Value} (hr:D.repA W (FA W) ds vs)
 (h1:∃ T fr,W.heap[0]?=some (.cells zeg T fr)) (h2:∃ T fr,W.heap[2]?=some (.cells #[ev] T fr)) (h3:∃ T fr,W.heap[1]?=some (.cells #[es] T fr)):
 Calls Tryz.prog f vs.toArray W (Ret fun u w'=>Ext W w'∧u=.bool true):=by
 have hno:∀ b,¬blks [HPow,HErr ev,HSyn es] b:=fun b ⟨x,hx,hb⟩=>by
  rcases List.mem_cons.1 hx with rfl | hx
  · exact hb
  · rcases List.mem_cons.1 hx with rfl | hx
    · exact hb
    · rw[List.mem_singleton.1 hx] at hb;exact hb
 have hlt:∀ {g:Nat} {o:Obj},W.heap[g]?=some o→g<W.heap.size:=fun h=>by
  rcases Nat.lt_or_ge _ W.heap.size with h' | h'
  · exact h'
  · rw[Array.getElem?_eq_none h'] at h;cases h
 obtain ⟨T1,f1,e1⟩:=h1
 obtain ⟨T2,f2,e2⟩:=h2
 obtain ⟨T3,f3,e3⟩:=h3
 have hk:HOk W (FA W) (fun _=>True) [HPow,HErr ev,HSyn es]:=⟨by
  refine List.Pairwise.cons (fun y _ g hg=>?_) (List.Pairwise.cons (fun y _ g hg=>?_) (List.Pairwise.cons (fun y hy=>absurd hy (by simp)) .nil))
  · exact absurd hg (fun e=>e)
  · exact absurd hg (fun e=>e),fun x hx=>by
  rcases List.mem_cons.1 hx with rfl | hx
  · exact⟨hlt e1,T1,f1,e1⟩
  · rcases List.mem_cons.1 hx with rfl | hx
    · exact⟨hlt e2,T2,f2,e2⟩
    · rw[List.mem_singleton.1 hx];exact⟨hlt e3,T3,f3,e3⟩,fun g hg=>absurd hg (hno g)⟩
 refine(h.out W (FA W) vs hr (fun _ h=>h) hk).mono ?_
 rintro e w' ⟨u,rfl,F',d',H',⟨rfl,rfl⟩,hrep,g⟩
 have hrep:u=.bool true:=hrep
 exact⟨u,rfl,⟨g.os,g.tape,g.output,g.size,fun b hb _=>g.frame b hb (hno b),g.drawn⟩,hrep⟩
section
variable {H:Type} {enc:TypeId×Value→H} {w:World} {held:Bool} {sp:Nat→Bool} {n:Nat}
theorem in_str {cs:List Value} {y:DataW H×List MemPlace} (h:DataW.trod enc Tryz.prog w 0 sp held n 9 cs=some y):∃ d:ByteArray,InD w 1 (.s d) cs:=by
 obtain ⟨s0,e0,_,k0⟩:=DataW.trod_string (by kernel_rfl) h
 exact⟨s0,by rw[e0];exact InD.one ⟨rfl,k0⟩ rfl⟩
end
end Lp
namespace Lp
open Go Go.RowKit Go.Proofs
theorem mixed:Tryz.prog.follows .mixedOrders=true:=by kernel_rfl
abbrev T':Bool:=true
abbrev F':Bool:=false
abbrev dZ:D:=.v (.slice none 0 0)
abbrev dP (g o:Nat):D:=.v (.pointer (some ⟨g,o,none⟩))
abbrev vS (g n c:Nat):Value:=.slice (some ⟨g,0,none⟩) n c
theorem J {α:Sort _} {a:α}:a=a:=rfl
end Lp
