import Derived.Test.YtheccaeefigajaaGreatDoorRows
import Derived.ProofKit
import Derived.LaidMore
import Derived.OpenShut
import Derived.Stop.Joined
import Derived.Test.YtheccaeefigajaaGreatDoorProg
import Derived.Test.YtheccaeefigajaaGreatDoorPLexS
set_option linter.unusedVariables false
namespace Lp
open Go
def FitT (x:TokD):Prop:=bl8 (zc4 x)≠[]∧runL isB (bl8 (zc4 x))=0∧zg (bl8 (zc4 x))=(⟨x.k,0,x.t⟩,(zc4 x).size)
theorem run_word:∀ (n:Nat) (s:ByteArray) (p:Nat),s.size-p=n→zc9 (zao s p)=true→runL isLD (bts s p)=s.size-p:=by
 intro n
 induction n using Nat.strongRecOn with
 | _ n ih=>
  intro s p hp hw
  rcases Nat.lt_or_ge p s.size with h | h
  · rw[zX h,zcT,Bool.and_eq_true,decide_eq_true_eq] at hw
    have hk:isLD ((decL (bts s p)).1:Int)=true:=by
     rw[←zaO]
     show inK [1,2] _=true
     unfold inK
     rcases hw.1 with h | h<;>simp[h]
    have h1:=zp s p
    have h2:=zJ s p h
    rw[zb8 (zcG h) hk,zbe,←zbq,ih _ (by omega) s _ rfl hw.2];omega
  · rw[zct h,zcY];omega
theorem name_first {s:ByteArray} (h:zbN s=true):0<s.size∧zt ((decR s 0:Nat):Int)=1∧runL isLD (bl8 s)=s.size:=by
 have h':=h
 unfold zbN at h'
 rw[zbE] at h'
 simp only[Bool.and_eq_true,decide_eq_true_eq] at h'
 have hz:0<s.size:=by
  rcases Nat.lt_or_ge 0 s.size with hz | hz
  · exact hz
  · have e:zo s=[]:=by show zao s 0=[];exact zaf hz
    rw[e] at h';simp at h'
 refine⟨hz,?_,?_⟩
 · have e:zo s=((decR s 0:Nat):Int)::zao s (0+decW s 0):=by show zao s 0=_;exact zX hz
   have:=h'.1.2
   rw[e] at this;exact this
 · have:=run_word _ s 0 rfl h'.2
   exact this
theorem good_word {s:ByteArray} (h:zbN s=true):FitT ⟨1,0,s⟩:=by
 obtain ⟨h1,h2,h3⟩:=name_first h
 have ej:zc4 ⟨1,0,s⟩=s:=joinT_o (show ¬(1:Int)=3 by decide) (show ¬(1:Int)=4 by decide)
 have hb:isB ((decL (bl8 s)).1:Int)=false:=by
  rw[dec0];show inK [3] _=false;unfold inK;simp[h2]
 unfold FitT;rw[ej]
 refine⟨bl8_ne h1,zdI hb,?_⟩
 rw[firstT_w (by rw[dec0];exact h2)]
 have e:mkB ((bl8 s).take s.size)=s:=by rw[←zF,List.take_length,zdK]
 unfold zbM;rw[h3,e,if_pos h]
theorem digL_13 {v:Nat} (h:v≤1000000000000):(digL v).length≤13:=digL_lt 12 v (Nat.lt_of_le_of_lt h (by decide))
theorem numD_0 (v:Nat):numD 0 v=digL v:=rfl
theorem good_num {v:Nat} (h:v≤1000000000000):FitT ⟨2,0,digB v⟩:=by
 have h13:=digL_13 h
 obtain ⟨h1,h2⟩:=num_first (zcP 0 v) (numD_ne 0 v) []
 have hr:=zdq isD_2 (numD 0 v) [] (zcP 0 v)
 have hr2:=zdq isLD_2 (numD 0 v) [] (zcP 0 v)
 rw[zcY,Nat.add_zero] at hr hr2
 rw[List.append_nil] at h1 h2 hr hr2
 have ej:zc4 ⟨2,0,digB v⟩=digB v:=joinT_o (show ¬(2:Int)=3 by decide) (show ¬(2:Int)=4 by decide)
 have eb:bl8 (digB v)=numD 0 v:=zaP _
 unfold FitT;rw[ej,eb]
 refine⟨numD_ne 0 v,h2,?_⟩
 have hs:(digB v).size=(numD 0 v).length:=zM _
 rw[h1,hs];unfold numT
 rw[hr,hr2,List.take_length,digV_eq,numD_val,if_neg (by rw[numD_0];omega),if_pos rfl]
theorem good_dur {v:Nat} (h:v≤1000000000):FitT ⟨4,0,digB v⟩:=by
 have h13:=digL_13 (v:=v) (by omega)
 obtain ⟨h1,h2⟩:=num_first (zcP 0 v) (numD_ne 0 v) [115]
 have hr:=zdq isD_2 (numD 0 v) [115] (zcP 0 v)
 have hr2:=zdq isLD_2 (numD 0 v) [115] (zcP 0 v)
 have e0:runL isD [115]=0:=zdI (by decide)
 rw[e0,Nat.add_zero] at hr
 have e1:runL isLD [115]=1:=by
  rw[zb8 (by simp) (by decide)]
  show 1+runL isLD []=1
  rw[zcY]
 rw[e1] at hr2
 have ej:zc4 ⟨4,0,digB v⟩=digB v++(⟨#[115]⟩:ByteArray):=joinT_4 (show ¬(4:Int)=3 by decide) rfl
 have eb:bl8 (digB v++(⟨#[115]⟩:ByteArray))=numD 0 v++[115]:=by
  rw[bl8_add,show bl8 (digB v)=numD 0 v from zaP _]
 have hs:(digB v++(⟨#[115]⟩:ByteArray)).size=(numD 0 v).length+1:=by
  rw[←zF,eb,List.length_append];rfl
 unfold FitT;rw[ej,eb,hs]
 refine⟨by simp[numD_ne],h2,?_⟩
 have e2:((numD 0 v++[115]).take ((numD 0 v).length+1)).drop (numD 0 v).length=[115]:=by
  rw[List.take_of_length_le (by simp),List.drop_left]
 have es:secB (mkB [115])=1:=by decide
 rw[h1];unfold numT
 rw[hr,hr2,List.take_left,digV_eq,numD_val,if_neg (by rw[numD_0];omega),if_neg (by omega),e2,es,if_neg (by omega),Nat.mul_one]
theorem good_str (s:ByteArray):FitT ⟨3,0,s⟩:=by
 have h1:=strT_quote s []
 have h2:=quote_blank s []
 rw[List.append_nil] at h1 h2
 have ej:zc4 ⟨3,0,s⟩=zab s:=joinT_3 rfl
 unfold FitT;rw[ej,quote_bl8,show (zab s).size=(zat s).length from zM _]
 exact⟨by unfold zat;simp,h2,h1⟩
theorem sign_facts:∀ x∈zaa,bl8 x≠[]∧¬zt ((decL (bl8 x)).1:Int)=1∧¬zt ((decL (bl8 x)).1:Int)=2∧¬(decL (bl8 x)).1=34∧isB ((decL (bl8 x)).1:Int)=false∧zbz (bl8 x)=(⟨5,0,x⟩,x.size):=by decide
theorem good_sign {x:ByteArray} (hx:x∈zaa):FitT ⟨5,0,x⟩:=by
 obtain ⟨h1,h2,h3,h4,h5,h6⟩:=sign_facts x hx
 have ej:zc4 ⟨5,0,x⟩=x:=joinT_o (show ¬(5:Int)=3 by decide) (show ¬(5:Int)=4 by decide)
 unfold FitT;rw[ej]
 exact⟨h1,zdI h5,by rw[firstT_s h2 h3 h4,h6]⟩
theorem signIn_mem:∀ (xs:List ByteArray) (l:List UInt8),(z7 xs l).2≠0→∃ x∈xs,(z7 xs l).1=⟨5,0,x⟩
 | [],_,h=>absurd rfl h
 | x::xs,l,h=>by
  unfold z7 at h ⊢
  split
  · exact⟨x,List.mem_cons_self,rfl⟩
  · rename_i h2
    rw[if_neg h2] at h
    obtain ⟨y,hy,e⟩:=signIn_mem xs l h
    exact⟨y,List.mem_cons_of_mem _ hy,e⟩
theorem sign_small:∀ x∈zaa,x.size≤2:=by decide
theorem first_good {l:List UInt8} (h:(zg l).2≠0):FitT (zg l).1∧(zg l).1.t.size≤l.length+20:=by
 unfold zg at h ⊢
 split
 · rename_i h1
   rw[if_pos h1] at h
   unfold zbM at h ⊢
   split
   · rename_i h2
     refine⟨good_word h2,?_⟩
     show (mkB _).size≤_
     rw[zM,List.length_take];omega
   · rename_i h2
     rw[if_neg h2] at h;exact absurd rfl h
 · rename_i h1
   rw[if_neg h1] at h
   split
   · rename_i h2
     rw[if_pos h2] at h
     unfold numT at h ⊢
     split
     · rename_i h3;rw[if_pos h3] at h;exact absurd rfl h
     · rename_i h3
       rw[if_neg h3] at h
       split
       · refine⟨good_num (by omega),?_⟩
         have:=digB_20 (n:=digV (l.take (runL isD l))) (by omega)
         show (digB _).size≤_
         omega
       · rename_i h4
         rw[if_neg h4] at h
         split
         · rename_i h5;rw[if_pos h5] at h;exact absurd rfl h
         · rename_i h5
           obtain ⟨c,hc⟩:∃ c,secB (mkB ((l.take (runL isLD l)).drop (runL isD l)))=c:=⟨_,rfl⟩
           rw[hc] at h5 ⊢
           have hm:digV (l.take (runL isD l))*c≤1000000000:=(Nat.le_div_iff_mul_le (by omega)).1 (by omega)
           refine⟨good_dur hm,?_⟩
           have:=digB_20 (n:=digV (l.take (runL isD l))*c) (by omega)
           show (digB _).size≤_
           omega
   · rename_i h2
     rw[if_neg h2] at h
     split
     · rename_i h3
       rw[if_pos h3] at h
       cases e:zS true l with
       | none=>unfold strT at h;rw[e] at h;exact absurd rfl h
       | some i=>
        have hi:=qscan_lt _ l true i rfl e
        cases e2:unqB (mkB (l.take (i+1))) with
        | none=>
         unfold strT at h;rw[e] at h
         have h:(match unqB (mkB (l.take (i+1))) with | none=>(zaS,0) | some t=>((⟨3,0,t⟩:TokD),i+1)).2≠0:=h
         rw[e2] at h;exact absurd rfl h
        | some t=>
         have e3:strT l=(⟨3,0,t⟩,i+1):=by
          unfold strT;rw[e]
          show (match unqB (mkB (l.take (i+1))) with | none=>(zaS,0) | some t=>((⟨3,0,t⟩:TokD),i+1))=_
          rw[e2]
         rw[e3]
         refine⟨good_str t,?_⟩
         show t.size≤_
         have hq:zab t=mkB (l.take (i+1)):=by
          unfold unqB at e2
          split at e2
          · rename_i hx
            injection e2 with e2
            rw[←e2];exact hx.choose_spec
          · cases e2
         have h4:=(quoteB_4 t).2
         rw[hq,zM,List.length_take] at h4;omega
     · rename_i h3
       rw[if_neg h3] at h
       obtain ⟨x,hx,e⟩:=signIn_mem zaa l h
       have e:(zbz l).1=⟨5,0,x⟩:=e
       rw[e]
       refine⟨good_sign hx,?_⟩
       have:=sign_small x hx
       show x.size≤_
       omega
theorem good_put {x:TokD} (a:Nat) (h:FitT x):FitT (x.put a):=h
theorem words_good:∀ (n:Nat) (l:List UInt8) (a:Nat) (ts:List TokD),l.length=n→zT l a=some ts→∀ x∈ts,FitT x∧x.t.size≤l.length+20:=by
 intro n
 induction n using Nat.strongRecOn with
 | _ n ih=>
  intro l a ts hn h
  have hrl:=zbR isB l
  generalize hm:l.drop (runL isB l)=m at*
  have hml:m.length=l.length-runL isB l:=by rw[←hm,List.length_drop]
  unfold zT at h
  rw[hm] at h
  by_cases hne:m=[]
  · subst hne;rw[za0] at h;injection h with h;subst h
    exact fun x hx=>absurd hx (by simp)
  · by_cases h0:(zg m).2=0
    · rw[zbU hne h0] at h;cases h
    · have hpos:=List.length_pos_iff.2 hne
      have hfl:=firstT_le (l:=m)
      rw[zbY hne h0 (by omega)] at h
      cases e:zT (m.drop (zg m).2) (a+runL isB l+(zg m).2) with
      | none=>rw[e] at h;cases h
      | some t2=>
       rw[e] at h
       have h:(zg m).1.put (a+runL isB l)::t2=ts:=by injection h
       have hi:=ih (m.drop (zg m).2).length (by rw[List.length_drop];omega) _ _ t2 rfl e
       rw[List.length_drop] at hi
       subst h
       intro x hx
       rcases List.mem_cons.1 hx with rfl | hx
       · obtain ⟨g1,g2⟩:=first_good h0
         exact⟨good_put _ g1,by show (zg m).1.t.size≤_;omega⟩
       · obtain ⟨g1,g2⟩:=hi x hx
         exact⟨g1,by omega⟩
theorem lex_sizes {s:ByteArray} (hs:s.size≤600):∀ x∈lexL s,x.t.size≤1000:=fun x hx=>by
 by_cases h:lexE s=0
 · have:=(words_good _ (bl8 s) 0 _ rfl (ze5 h).2 x hx).2
   rw[zF] at this;omega
 · rw[lex_none h] at hx;exact absurd hx (by simp)
end Lp
set_option linter.unusedVariables false
namespace Lp
open Go
structure TkOk (x:TokD):Prop where
 z:x.t.size≤1000
 d:x.k=2∨x.k=4→∃ v:Nat,v≤1000000000000∧x.t=digB v
def TOk (l:List TokD):Prop:=∀ x∈l,TkOk x
theorem TOk.suf {l m:List TokD} (h:TOk l) (k:m <:+l):TOk m:=fun x hx=>h x (k.subset hx)
theorem Stp.out {c:Int} {s t:Rd} (h:Stp c s t) (hT:TOk s.l):t.l.length≤s.l.length∧t.n+2*(t.l.length:Int)≤s.n+2*(s.l.length:Int)+c∧s.n≤t.n∧TOk t.l:=⟨h.len,h.w,h.n,hT.suf h.l⟩
theorem pk_z {s:Rd} (hT:TOk s.l):s.pk.t.size≤1000:=by
 unfold Rd.pk
 cases e:s.l with
 | nil=>exact Nat.zero_le _
 | cons x l=>exact(hT x (e ▸ List.mem_cons_self)).z
section
variable {s s':Rd} {k:Int} {ts:List ByteArray} {t a b:ByteArray} {q:Bool}
theorem zcV (e:(t,q,s')=s.take k ts):Stp 0 s s':=by have h:=zZ s k ts;rw[←e] at h;exact h
theorem zcU (e:(t,q,s')=s.take k ts) (hT:TOk s.l):t.size≤1000:=by
 have h:t=(s.take k ts).1:=congrArg Prod.fst e
 rw[h];unfold Rd.take;split
 · exact Nat.zero_le _
 · exact pk_z hT
theorem take_y (e:(t,q,s')=s.take k ts) (hk:k≠0) (hq:q=true):s'.l.length+1=s.l.length∧Stp (-2) s s'∧s.b=false∧s'.b=false∧s.is k ts=true:=by
 have h:=zdn (s:=s) (k:=k) (ts:=ts) hk (by rw[←e];exact hq)
 rw[←e] at h;exact h
theorem zch (e:(t,s')=s.any k):Stp 0 s s':=by have h:=zcu s k;rw[←e] at h;exact h
theorem zcg (e:(t,s')=s.any k) (hT:TOk s.l):t.size≤1000:=by
 have h:t=(s.any k).1:=congrArg Prod.fst e
 rw[h];unfold Rd.any;split
 · exact Nat.zero_le _
 · exact pk_z hT
theorem any_y (e:(t,s')=s.any k) (hk:k≠0) (hb:s.b=false) (h:s.pk.k=k):s'.l.length+1=s.l.length∧Stp (-2) s s'∧t=s.pk.t∧s'.b=false:=by
 have h:=zeF hk hb h
 rw[←e] at h;exact h
theorem zah (e:s'=s.must t):Stp 0 s s':=by rw[e];exact zP s t
theorem names_e {l:List ByteArray} (e:(l,s')=s.names):Stp 0 s s':=by have h:=names_stp s;rw[←e] at h;exact h
theorem mode_e {m:Int} {l:List ByteArray} (e:(m,l,s')=s.mode a b):Stp 0 s s':=by have h:=zc2 s a b;rw[←e] at h;exact h
theorem number_e {v:Int} (e:(v,s')=s.number k):Stp 0 s s':=by have h:=zbj s k;rw[←e] at h;exact h
end
theorem digV_snoc (l:List UInt8) (b:UInt8):digV (l++[b])=10*digV l+(b.toNat-48):=by unfold digV;rw[List.foldl_append];rfl
theorem digV_digL:∀ n:Nat,digV (digL n)=n:=by
 intro n
 induction n using Nat.strongRecOn with
 | _ n ih=>
  unfold digL
  split
  · show 10*0+((UInt8.ofNat (48+n)).toNat-48)=n
    rw[on8 (by omega)];omega
  · rw[digV_snoc,ih (n / 10) (by omega),on8 (by omega)];omega
theorem digL_digs:∀ n:Nat,∀ b∈digL n,48≤b.toNat∧b.toNat≤57:=by
 intro n
 induction n using Nat.strongRecOn with
 | _ n ih=>
  intro b hb
  unfold digL at hb
  split at hb
  · rw[List.mem_singleton.1 hb,on8 (by omega)];omega
  · rcases List.mem_append.1 hb with h | h
    · exact ih (n / 10) (by omega) b h
    · rw[List.mem_singleton.1 h,on8 (by omega)];omega
theorem digL_ne (n:Nat):digL n≠[]:=by unfold digL;split<;>simp
theorem zdO (n:Nat):bl8 (digB n)=digL n:=zaP _
theorem numV_dig (n:Nat):numV (digB n)=(n:Int):=by unfold numV;rw[zdO,digV_digL]
theorem numV_nil:numV ByteArray.empty=0:=rfl
theorem zeo {s s':Rd} {k:Int} {t:ByteArray} (e:(t,s')=s.any k) (hk:k=2∨k=4) (hT:TOk s.l):t=ByteArray.empty∨∃ v:Nat,v≤1000000000000∧t=digB v:=by
 have h:t=(s.any k).1:=congrArg Prod.fst e
 unfold Rd.any at h
 split at h
 · exact .inl h
 · rename_i hc
   have hk':s.pk.k=k:=Decidable.byContradiction fun h=>hc (.inr h)
   refine .inr ?_
   unfold Rd.pk at h hk'
   cases el:s.l with
   | nil=>rw[el] at hk';exact absurd hk' (by show ¬(0:Int)=k;omega)
   | cons x l=>
    rw[el] at h hk'
    have h:t=x.t:=h
    have hk':x.k=k:=hk'
    obtain ⟨v,h1,h2⟩:=(hT x (el ▸ List.mem_cons_self)).d (by omega)
    exact⟨v,h1,h.trans h2⟩
theorem number_bd {s s':Rd} {k v:Int} (e:(v,s')=s.number k) (hk:k=2∨k=4) (hT:TOk s.l):0≤v∧v≤1000000000000:=by
 have h:v=numV (s.any k).1:=congrArg Prod.fst e
 rcases zeo (s:=s) (k:=k) (t:=(s.any k).1) (s':=(s.any k).2) rfl hk hT with h1 | ⟨n,h1,h2⟩
 · rw[h,h1,numV_nil];omega
 · rw[h,h2,numV_dig];omega
mutual
def Nd.cnt:Nd→Nat
 | .mk _ _ _ _ _ _ kids=>Nd.cntL kids+1
def Nd.cntL:List Nd→Nat
 | []=>0
 | x::r=>Nd.cnt x+Nd.cntL r
end
section
variable (rm:List MatD→Bool)
end
end Lp
set_option linter.unusedVariables false
namespace Lp
open Go
theorem words_all (p:TokD→Prop) (hp:∀ (l:List UInt8) (a:Nat),(zg l).2≠0→p ((zg l).1.put a)):∀ (n:Nat) (l:List UInt8) (a:Nat) (ts:List TokD),l.length=n→zT l a=some ts→∀ x∈ts,p x:=by
 intro n
 induction n using Nat.strongRecOn with
 | _ n ih=>
  intro l a ts hn h
  have hrl:=zbR isB l
  generalize hm:l.drop (runL isB l)=m at*
  have hml:m.length=l.length-runL isB l:=by rw[←hm,List.length_drop]
  unfold zT at h
  rw[hm] at h
  by_cases hne:m=[]
  · subst hne;rw[za0] at h;injection h with h;subst h
    exact fun x hx=>absurd hx (by simp)
  · by_cases h0:(zg m).2=0
    · rw[zbU hne h0] at h;cases h
    · have hpos:=List.length_pos_iff.2 hne
      have hfl:=firstT_le (l:=m)
      rw[zbY hne h0 (by omega)] at h
      cases e:zT (m.drop (zg m).2) (a+runL isB l+(zg m).2) with
      | none=>rw[e] at h;cases h
      | some t2=>
       rw[e] at h
       have h:(zg m).1.put (a+runL isB l)::t2=ts:=by injection h
       have hi:=ih (m.drop (zg m).2).length (by rw[List.length_drop];omega) _ _ t2 rfl e
       subst h
       intro x hx
       rcases List.mem_cons.1 hx with rfl | hx
       · exact hp _ _ h0
       · exact hi x hx
theorem first_dig {l:List UInt8} (h:(zg l).2≠0):(zg l).1.k=2∨(zg l).1.k=4→∃ v:Nat,v≤1000000000000∧(zg l).1.t=digB v:=by
 unfold zg at h ⊢
 split
 · rename_i h1
   rw[if_pos h1] at h
   unfold zbM at h ⊢
   split
   · intro k;rcases k with k | k<;>exact absurd k (by show ¬(1:Int)=_;decide)
   · rename_i h2;rw[if_neg h2] at h;exact absurd rfl h
 · rename_i h1
   rw[if_neg h1] at h
   split
   · rename_i h2
     rw[if_pos h2] at h
     unfold numT at h ⊢
     split
     · rename_i h3;rw[if_pos h3] at h;exact absurd rfl h
     · rename_i h3
       rw[if_neg h3] at h
       split
       · exact fun _=>⟨_,by omega,rfl⟩
       · rename_i h4
         rw[if_neg h4] at h
         split
         · rename_i h5;rw[if_pos h5] at h;exact absurd rfl h
         · rename_i h5
           obtain ⟨c,hc⟩:∃ c,secB (mkB ((l.take (runL isLD l)).drop (runL isD l)))=c:=⟨_,rfl⟩
           rw[hc] at h5 ⊢
           have hm:digV (l.take (runL isD l))*c≤1000000000:=(Nat.le_div_iff_mul_le (by omega)).1 (by omega)
           exact fun _=>⟨_,by omega,rfl⟩
   · rename_i h2
     rw[if_neg h2] at h
     split
     · rename_i h3
       rw[if_pos h3] at h
       cases e:zS true l with
       | none=>unfold strT at h;rw[e] at h;exact absurd rfl h
       | some i=>
        cases e2:unqB (mkB (l.take (i+1))) with
        | none=>
         unfold strT at h;rw[e] at h
         have h:(match unqB (mkB (l.take (i+1))) with | none=>(zaS,0) | some t=>((⟨3,0,t⟩:TokD),i+1)).2≠0:=h
         rw[e2] at h;exact absurd rfl h
        | some t=>
         have e3:strT l=(⟨3,0,t⟩,i+1):=by
          unfold strT;rw[e]
          show (match unqB (mkB (l.take (i+1))) with | none=>(zaS,0) | some t=>((⟨3,0,t⟩:TokD),i+1))=_
          rw[e2]
         rw[e3]
         intro k;rcases k with k | k<;>exact absurd k (by show ¬(3:Int)=_;decide)
     · rename_i h3
       rw[if_neg h3] at h
       obtain ⟨x,hx,e⟩:=signIn_mem zaa l h
       have e:(zbz l).1=⟨5,0,x⟩:=e
       rw[e]
       intro k;rcases k with k | k<;>exact absurd k (by show ¬(5:Int)=_;decide)
theorem lexL_tok (s:ByteArray):TOk (lexL s):=fun x hx=>by
 by_cases hE:lexE s=0
 · obtain ⟨h1,h2⟩:=ze5 hE
   refine⟨lex_sizes (by omega) x hx,?_⟩
   exact words_all (fun x=>x.k=2∨x.k=4→∃ v:Nat,v≤1000000000000∧x.t=digB v) (fun l a h=>first_dig h) _ _ _ _ rfl h2 x hx
 · rw[lex_none hE] at hx;exact absurd hx (by simp)
def zbs (m:MatD):Bool:=zbN m.n&&decide (1≤m.op∧m.op≤4)&&(decide (m.op<3)||patR (zo m.v))
def rmD (ms:List MatD):Bool:=ms.all zbs&&decide (ms.length≤10)
def noQ:QryD:=⟨noNd,0,0,0⟩
noncomputable def zaR (s:ByteArray):Int:=if lexE s=0 then(if (zcZ rmD (lexL s)).isSome=true then 0 else 2) else lexE s
noncomputable def zdQ (s:ByteArray):QryD:=if lexE s=0 then(zcZ rmD (lexL s)).getD noQ else noQ
end Lp
set_option linter.unusedVariables false
namespace Lp
open Go Go.RowKit Go.Proofs
abbrev HSyn (ev:Value):Hp:=.tab 1 #[ev]
theorem atoi_e (s:ByteArray) (ev es:Value) (hev:EvOk ev) (hes:EvOk es) (hd:s=ByteArray.empty∨∃ v:Nat,v≤1000000000000∧s=digB v):CD Tryz.prog 160 [HErr ev,HSyn es] [.s s] (fun r H'=>∃ x,r=.tup [dI (numV s),x]∧H'=[HErr ev,HSyn es]):=
 cd_ext fun w F vs hvs hok=>by
  obtain ⟨u,us,rfl,hu,hus⟩:=hvs
  obtain ⟨hu,hm⟩:=hu
  have hus:us=[]:=hus
  subst hu;subst hus
  rcases hd with rfl | ⟨n,hn,rfl⟩
  · obtain ⟨hF,T,fr,hh⟩:=hok _ (List.mem_cons_of_mem _ List.mem_cons_self)
    have hcell:w.cell? ⟨1,0,none⟩=some es:=by
     unfold World.cell?
     rw[hh];rfl
    refine(Any.strconv_Atoi_syntax Tryz.laysC172 ByteArray.empty (by decide) rfl es w hcell hes).mono fun e w' he=>?_
    obtain ⟨N,rfl,_,_,hbel⟩:=he
    exact⟨_,rfl,zdD hbel,.tup [dI 0,.any],⟨_,rfl,rfl⟩,⟨_,rfl,_,_,rfl,rfl,_,_,rfl,rfl,rfl⟩⟩
  · have h13:=digL_13 hn
    have ha:Lib.atoiAll (bl8 (digB n))=.ok (digV (bl8 (digB n)):Int):=by
     rw[zdO];exact atoi_ok (digL_digs n) (digL_ne n) h13
    rw[zdO,digV_digL] at ha
    rw[numV_dig]
    refine(Any.strconv_Atoi_ok Tryz.laysC172 (digB n) (by show (digB n).size≤_;unfold digB;rw[zM];omega) (n:Int) (by rw[←zdO] at ha;exact ha) w).mono fun e w' he=>?_
    obtain ⟨rfl,hw⟩:=he
    refine⟨_,rfl,?_,.tup [dI (n:Int),.v .nilIface],⟨_,rfl,rfl⟩,⟨_,rfl,_,_,rfl,rfl,_,_,rfl,rfl,rfl⟩⟩
    rcases hw with rfl | ⟨t,rfl⟩
    · exact Ext.rfl'
    · exact zdD (Joins.below_bytesWorld _ w _ t (Nat.le_refl _))
end Lp
set_option linter.unusedVariables false
namespace Lp
open Go Go.RowKit Go.Proofs
theorem laid_ints {H:Type} {enc:TypeId×Value→H} {P:Program} {w:World} {base:Nat} {spare:Nat→Bool} {held:Bool} {fuel n:Nat} {t e:TypeId} {k:IntKind} {cs:List Value} {zs:List Int} {q:List MemPlace}
 (hu:P.underlying t=some (.array n e)) (he:P.underlying e=some (.int k)) (hc:P.cellsOf e=1) (hct:P.cellsOf t=n) (h:DataW.trod enc P w base spare held fuel t cs=some (.agg (zs.map fun z=>.lit (.int k z)),q)):cs=zs.map (Value.int k):=by
 obtain ⟨xs,m,rfl,hx,hlen,hn,hel⟩:=DataW.trod_array hu h
 have hx1:zs.map (fun z=>(DataW.lit (.int k z):DataW H))=xs.map (fun x=>x.1):=by
  have:=congrArg Prod.fst hx
  injection this
 have hl:=congrArg List.length hx1
 rw[List.length_map,List.length_map] at hl
 apply List.ext_getElem?
 intro i
 rcases Nat.lt_or_ge i n with hi | hi
 · have h1:=hel i hi
   rw[hc,Nat.mul_one,List.getElem?_eq_getElem (by omega)] at h1
   obtain ⟨z,e1,e2,_⟩:=DataW.trod_int he h1
   have a1:cs[i]?=some (.int k z):=by
    have:=congrArg (fun l=>l[0]?) e1
    simp only[List.getElem?_take,List.getElem?_drop] at this
    simpa using this
   have a2:zs[i]?=some z:=by
    have:=congrArg (fun l=>l[i]?) hx1
    simp only[List.getElem?_map] at this
    rw[List.getElem?_eq_getElem (show i<xs.length by omega),e2] at this
    cases e3:zs[i]? with
    | none=>rw[e3] at this;cases this
    | some y=>rw[e3] at this;injection this with this;injection this with this;injection this with _ this;rw[this]
   rw[a1,List.getElem?_map,a2];rfl
 · rw[List.getElem?_eq_none (by omega),List.getElem?_eq_none (by rw[List.length_map];omega)]
theorem laid_iface {H:Type} {enc:TypeId×Value→H} {P:Program} {w:World} {base:Nat} {spare:Nat→Bool} {held:Bool} {fuel:Nat} {t:TypeId} {cs:List Value} {x:DataW H×List MemPlace} {ms:TypeDesc}
 (hu:P.underlying t=some ms) (hm:∃ mm,ms=.interface mm) (h:DataW.trod enc P w base spare held fuel t cs=some x):∃ ev,cs=[ev]∧EvOk ev:=by
 obtain ⟨mm,rfl⟩:=hm
 cases fuel with
 | zero=>exact absurd h (by show ¬(none=some x);simp)
 | succ fuel=>
  rw[DataW.trod_step] at h
  unfold DataW.trodStep at h
  rw[hu] at h
  split at h<;>simp_all [EvOk]
theorem var_heap {P:Program} {w:World} {name:String} {g:Nat} {cs:Array Value} (hg:P.globalNamed name=some g) (h:World.var? P w name=some cs):∃ T fr,w.heap[g]?=some (.cells cs T fr):=by
 unfold World.var? at h
 rw[hg] at h
 have h:(match w.heap[g]? with | some (.cells cs _ _)=>some cs | _=>none)=some cs:=h
 split at h
 · rename_i a b c e;injection h with h;subst h;exact⟨_,_,e⟩
 · cases h
theorem of_laid {W:World} (h:laidMetH Tryz.prog Go.Proofs.YtheccaeefigajaaGreatDoor.Rows.kindTellsRow.laid W):∃ ev es,EvOk ev∧EvOk es∧(∃ T fr,W.heap[0]?=some (.cells zd0 T fr))∧(∃ T fr,W.heap[2]?=some (.cells #[ev] T fr))∧(∃ T fr,W.heap[1]?=some (.cells #[es] T fr)):=by
 rw[MakeChecks.laidMetH_plain _ _ _ (by kernel_rfl)] at h
 obtain ⟨ps,⟨g0,t0,cs0,f0,p0,q0,hg0,ht0,hv0,hd0,⟨g1,t1,cs1,f1,p1,q1,hg1,ht1,hv1,hd1,⟨g2,t2,cs2,f2,p2,q2,hg2,ht2,hv2,hd2,⟨g3,t3,cs3,f3,p3,q3,hg3,ht3,hv3,hd3,⟨g4,t4,cs4,f4,p4,q4,hg4,ht4,hv4,hd4,_⟩,_⟩,_⟩,_⟩,_⟩,_,_⟩:=h
 obtain rfl:0=g2:=Option.some.inj ((show Tryz.prog.globalNamed _=some 0 by kernel_rfl).symm.trans hg2)
 obtain rfl:2=g3:=Option.some.inj ((show Tryz.prog.globalNamed _=some 2 by kernel_rfl).symm.trans hg3)
 obtain rfl:1=g4:=Option.some.inj ((show Tryz.prog.globalNamed _=some 1 by kernel_rfl).symm.trans hg4)
 have a4:Tryz.prog.globals[1]?.map (·.type)=some t4:=ht4
 obtain rfl:=Option.some.inj ((show Tryz.prog.globals[1]?.map (·.type)=some 202 by kernel_rfl).symm.trans a4)
 obtain ⟨es,e4,hes⟩:=laid_iface Tryz.underlying202 ⟨_,rfl⟩ hd4
 have a2:Tryz.prog.globals[0]?.map (·.type)=some t2:=ht2
 have a3:Tryz.prog.globals[2]?.map (·.type)=some t3:=ht3
 obtain rfl:=Option.some.inj ((show Tryz.prog.globals[0]?.map (·.type)=some 240 by kernel_rfl).symm.trans a2)
 obtain rfl:=Option.some.inj ((show Tryz.prog.globals[2]?.map (·.type)=some 202 by kernel_rfl).symm.trans a3)
 obtain ⟨ev,e3,hev⟩:=laid_iface Tryz.underlying202 ⟨_,rfl⟩ hd3
 have e2:=laid_ints (n:=20) (e:=222) (zs:=Lib.pow10Tab) (by kernel_rfl) (by kernel_rfl) (by kernel_rfl) (by kernel_rfl) hd2
 refine⟨ev,es,hev,hes,?_,?_,?_⟩
 · have:=var_heap hg2 hv2
   rwa [show cs2=zd0 from Array.toList_inj.1 (by rw[e2];simp[zd0])] at this
 · have:=var_heap hg3 hv3
   rwa [show cs3=#[ev] from Array.toList_inj.1 (by rw[e3])] at this
 · have:=var_heap hg4 hv4
   rwa [show cs4=#[es] from Array.toList_inj.1 (by rw[e4])] at this
theorem CD.lawT {f:FuncId} {ds:List D} {ev es:Value} (h:CD Tryz.prog f [HPow,HErr ev,HSyn es] ds (fun r H'=>r=.v (.bool true)∧H'=[HPow,HErr ev,HSyn es])) {W:World} {vs:List Value} (hr:D.repA W (FA W) ds vs)
 (h1:∃ T fr,W.heap[0]?=some (.cells zd0 T fr)) (h2:∃ T fr,W.heap[2]?=some (.cells #[ev] T fr)) (h3:∃ T fr,W.heap[1]?=some (.cells #[es] T fr)):
 Calls Tryz.prog f vs.toArray W (Ret fun u w'=>Ext W w'∧u=.bool true):=by
 have hno:∀ b,¬blks [HPow,HErr ev,HSyn es] b:=fun b ⟨x,hx,hb⟩=>by
  rcases List.mem_cons.1 hx with rfl | hx
  · exact hb
  · rcases List.mem_cons.1 hx with rfl | hx
    · exact hb
    · rw[List.mem_singleton.1 hx] at hb;exact hb
 have hlt:∀ {g:Nat} {o:Obj},W.heap[g]?=some o→g<W.heap.size:=fun h=>by
  rcases Nat.lt_or_ge _ W.heap.size with h' | h'
  · exact h'
  · rw[Array.getElem?_eq_none h'] at h;cases h
 obtain ⟨T1,f1,e1⟩:=h1
 obtain ⟨T2,f2,e2⟩:=h2
 obtain ⟨T3,f3,e3⟩:=h3
 have hk:HOk W (FA W) (fun _=>True) [HPow,HErr ev,HSyn es]:=⟨by
  refine List.Pairwise.cons (fun y _ g hg=>?_) (List.Pairwise.cons (fun y _ g hg=>?_) (List.Pairwise.cons (fun y hy=>absurd hy (by simp)) .nil))
  · exact absurd hg (fun e=>e)
  · exact absurd hg (fun e=>e),fun x hx=>by
  rcases List.mem_cons.1 hx with rfl | hx
  · exact⟨hlt e1,T1,f1,e1⟩
  · rcases List.mem_cons.1 hx with rfl | hx
    · exact⟨hlt e2,T2,f2,e2⟩
    · rw[List.mem_singleton.1 hx];exact⟨hlt e3,T3,f3,e3⟩,fun g hg=>absurd hg (hno g)⟩
 refine(h.out W (FA W) vs hr (fun _ h=>h) hk).mono ?_
 rintro e w' ⟨u,rfl,F',d',H',⟨rfl,rfl⟩,hrep,g⟩
 have hrep:u=.bool true:=hrep
 exact⟨u,rfl,⟨g.os,g.tape,g.output,g.size,fun b hb _=>g.frame b hb (hno b),g.drawn⟩,hrep⟩
section
variable {H:Type} {enc:TypeId×Value→H} {w:World} {held:Bool} {sp:Nat→Bool} {n:Nat}
theorem in_str {cs:List Value} {y:DataW H×List MemPlace} (h:DataW.trod enc Tryz.prog w 0 sp held n 9 cs=some y):∃ d:ByteArray,InD w 1 (.s d) cs:=by
 obtain ⟨s0,e0,_,k0⟩:=DataW.trod_string (by kernel_rfl) h
 exact⟨s0,by rw[e0];exact InD.one ⟨rfl,k0⟩ rfl⟩
end
end Lp
set_option linter.unusedVariables false
namespace Lp
open Go Go.RowKit
section
variable {P:Program} {N:Nat} {C:Ctx} {K K2:Kd} {H:List Hp} {ops:List Oper} {i:Nat} {Kt:Env→World→(Nat→Prop)→Prop}
def inL:List Nat→Nat→Bool
 | [],_=>false
 | k::r,t=>bif Nat.beq t k then true else inL r t
def ksK (K:Kd):List Nat:=K.map Prod.fst
theorem inL_no:∀ {K:Kd} {t:Nat},inL (ksK K) t=false→zG K t=none
 | [],_,_=>rfl
 | (d,v)::r,t,h=>by
  have h:(bif Nat.beq t d then true else inL (ksK r) t)=false:=h
  show (bif Nat.beq t d then some v else zG r t)=none
  cases e:Nat.beq t d with
  | true=>rw[e] at h;cases h
  | false=>rw[e] at h;exact inL_no h
def KX (K K2:Kd):Prop:=∀ t d,zG K t=some d→zG K2 t=some d
theorem KX.cons {t:Nat} {d:D} (h:KX K K2) (hf:zG K t=none):KX K ((t,d)::K2):=fun q x hq=>by
 show (bif Nat.beq q t then some d else zG K2 q)=some x
 cases e:Nat.beq q t with
 | true=>rw[Nat.eq_of_beq_eq_true e] at hq;rw[hf] at hq;cases hq
 | false=>exact h q x hq
theorem KX.both {t:Nat} {d:D} (h:KX K K2):KX ((t,d)::K) ((t,d)::K2):=fun q x hq=>by
 have hq:(bif Nat.beq q t then some d else zG K q)=some x:=hq
 show (bif Nat.beq q t then some d else zG K2 q)=some x
 cases e:Nat.beq q t with
 | true=>rw[e] at hq;exact hq
 | false=>rw[e] at hq;exact h q x hq
theorem OpsD.kx (h:KX K K2) (n:OpsD P N C ops i K H Kt):OpsD P N C ops i K2 H Kt:=⟨fun a w F ok hk g=>n.out a w F ok (fun t d e=>hk t d (h t d e)) g⟩
theorem kx:∀ (m:Nat) {K K2:Kd},K2.drop m=K→(K2.take m).all (fun x=>!inL (ksK K) x.1)=true→KX K K2
 | 0,K,K2,h,_=>fun t d e=>by rw[←h] at e;exact e
 | m+1,K,[],h,_=>fun t d e=>by rw[←h] at e;cases e
 | m+1,K,(t,d)::K2,h,hf=>by
  rw[List.take_succ_cons,List.all_cons,Bool.and_eq_true] at hf
  exact(kx m h hf.2).cons (inL_no (by simpa using hf.1))
def skB (ops:List Oper) (N j:Nat) (want:Bool) (ks:List Nat):Nat→Nat→Bool
 | _,0=>true
 | i,n+1=>(match opAt ops i with
  | some (some t,_,_,some (j',w))=>Nat.beq j' j&&(w==want)&&Nat.blt t N&&!inL ks t
  | _=>false)&&skB ops N j want ks (i+1) n
theorem od_skips {j s:Nat} {b want:Bool} (hj:zax ops j=some s) (hs:Nat.blt s N=true) (hb:zG K s=some (.v (.bool b))) (hne:b≠want):∀ (n i:Nat),skB ops N j want (ksK K) i n=true→OpsD P N C ops (i+n) K H Kt→OpsD P N C ops i K H Kt
 | 0,i,_,h=>h
 | n+1,i,hk,h=>by
  unfold skB at hk
  rw[Bool.and_eq_true] at hk
  obtain ⟨h1,h2⟩:=hk
  split at h1
  · rename_i t op ty j' w ho
    simp only[Bool.and_eq_true,Bool.not_eq_true',beq_iff_eq] at h1
    obtain ⟨⟨⟨a1,a2⟩,a3⟩,a4⟩:=h1
    have a1:=Nat.eq_of_beq_eq_true a1
    subst a1;subst a2
    exact od_skip ho a3 hj hs hb (fun e=>hne (by injection e)) (OpsD.kx (KX.cons (fun _ _ e=>e) (inL_no a4)) (od_skips hj hs hb hne n (i+1) h2 (by rw[show i+1+n=i+(n+1) by omega];exact h)))
  · cases h1
theorem KX.same {s:Nat} {d:D} (h:zG K s=some d):KX ((s,d)::K) K:=fun q x hq=>by
 have hq:(bif Nat.beq q s then some d else zG K q)=some x:=hq
 cases e:Nat.beq q s with
 | true=>rw[e] at hq;rw[Nat.eq_of_beq_eq_true e,h];exact hq
 | false=>rw[e] at hq;exact hq
theorem KX.tail {s:Nat} {d d':D} (h:KX ((s,d)::K) K2) (e:zG K s=some d):KX K K2:=fun q x hq=>h q x (by
 show (bif Nat.beq q s then some d else zG K q)=some x
 cases e':Nat.beq q s with
 | true=>rw[Nat.eq_of_beq_eq_true e',e] at hq;exact hq
 | false=>exact hq)
theorem od_or {b c:Bool} (j n:Nat) {s t:Tmp} {y:Operand} {ty:TypeId} (hp:opAt ops (i+n)=some (some t,.pick (.tmp s) (.const (.bool true)) y,ty,none)) (ht:Nat.blt t N=true) (hj:zax ops j=some s) (hs:Nat.blt s N=true) (hb:zG K s=some (.v (.bool b))) (hk:skB ops N j false (ksK K) i n=true)
 (run:b=false→(∀ K2,zG K2 s=some (.v (.bool false))→opD K2 y=some (.v (.bool c))→KX ((s,.v (.bool false))::K) K2→OpsD P N C ops (i+n) K2 H Kt)→OpsD P N C ops i ((s,.v (.bool false))::K) H Kt)
 (next:OpsD P N C ops (i+n+1) ((t,.v (.bool (b||c)))::K) H Kt):OpsD P N C ops i K H Kt:=by
 cases b with
 | true=>exact od_skips hj hs hb (by simp) n i hk (zfq hp ht (zdt hb rfl) next)
 | false=>exact OpsD.kx (KX.same hb) (run rfl fun K2 h1 h2 hx=>zfq hp ht (zdu h1 h2) (OpsD.kx (hx.tail (d':=.any) hb).both next))
theorem od_and {b c:Bool} (j n:Nat) {s t:Tmp} {x:Operand} {ty:TypeId} (hp:opAt ops (i+n)=some (some t,.pick (.tmp s) x (.const (.bool false)),ty,none)) (ht:Nat.blt t N=true) (hj:zax ops j=some s) (hs:Nat.blt s N=true) (hb:zG K s=some (.v (.bool b))) (hk:skB ops N j true (ksK K) i n=true)
 (run:b=true→(∀ K2,zG K2 s=some (.v (.bool true))→opD K2 x=some (.v (.bool c))→KX ((s,.v (.bool true))::K) K2→OpsD P N C ops (i+n) K2 H Kt)→OpsD P N C ops i ((s,.v (.bool true))::K) H Kt)
 (next:OpsD P N C ops (i+n+1) ((t,.v (.bool (b&&c)))::K) H Kt):OpsD P N C ops i K H Kt:=by
 cases b with
 | false=>exact od_skips hj hs hb (by simp) n i hk (zfq hp ht (zdu hb rfl) next)
 | true=>exact OpsD.kx (KX.same hb) (run rfl fun K2 h1 h2 hx=>zfq hp ht (zdt h1 h2) (OpsD.kx (hx.tail (d':=.any) hb).both next))
end
theorem orF {a b:Bool} (h:(a||b)=false):a=false∧b=false:=by cases a<;>cases b<;>simp at h ⊢
theorem andT {a b:Bool} (h:(a&&b)=true):a=true∧b=true:=by cases a<;>cases b<;>simp at h ⊢
theorem notT {a:Bool} (h:(!a)=true):a=false:=by cases a<;>simp at h ⊢
theorem notF {a:Bool} (h:(!a)=false):a=true:=by cases a<;>simp at h ⊢
end Lp
namespace Lp
open Go Go.RowKit Go.Proofs
theorem mixed:Tryz.prog.follows .mixedOrders=true:=by kernel_rfl
abbrev T':Bool:=true
abbrev F':Bool:=false
abbrev dZ:D:=.v (.slice none 0 0)
abbrev dP (g o:Nat):D:=.v (.pointer (some ⟨g,o,none⟩))
abbrev vS (g n c:Nat):Value:=.slice (some ⟨g,0,none⟩) n c
end Lp
set_option linter.unusedVariables false
namespace Lp
open Go Go.RowKit Go.Proofs
def cpF {α:Type}:List α→Option (List α)
 | []=>some []
 | x::r=>match cpF r with
  | some l=>some (x::l)
  | none=>none
theorem cpF_eq {α:Type}:∀ {l l':List α},cpF l=some l'→l=l'
 | [],_,h=>by injection h
 | x::r,l',h=>by
  unfold cpF at h
  split at h
  · rename_i l hl;injection h with h;rw[←h,cpF_eq hl]
  · cases h
def kpF:List Nat→Kd→Option Kd
 | [],_=>some []
 | t::r,K=>match zG K t with
  | some d=>match kpF r K with
   | some l=>some ((t,d)::l)
   | none=>none
  | none=>none
theorem kpF_sub:∀ {ts:List Nat} {K K':Kd},kpF ts K=some K'→SubK K' K
 | [],_,_,h=>by injection h with h;subst h;trivial
 | t::r,K,K',h=>by
  unfold kpF at h
  split at h
  · rename_i d hd
    split at h
    · rename_i l hl;injection h with h;subst h;exact⟨⟨d,hd,Cv.rfl'⟩,kpF_sub hl⟩
    · cases h
  · cases h
theorem sa:∀ {K' K:Kd},K'.map (fun p=>zG K p.1)=K'.map (fun p=>some p.2)→SubK K' K
 | [],_,_=>trivial
 | (t,d)::r,K,h=>by
  simp only[List.map_cons,List.cons.injEq] at h
  exact⟨⟨d,h.1,Cv.rfl'⟩,sa h.2⟩
def snF:List Bool→Bool→Option (List Bool)
 | [],b=>some [b]
 | x::r,b=>match snF r b with
  | some l=>some (x::l)
  | none=>none
theorem zdh:∀ {p q:List Bool} {b:Bool},snF p b=some q→p++[b]=q
 | [],_,_,h=>by injection h
 | x::r,q,b,h=>by
  unfold snF at h
  split at h
  · rename_i l hl;injection h with h;rw[←h,List.cons_append,zdh hl]
  · cases h
def zfg (K:Kd):Op→Option D
 | .move x=>opD K x
 | .assign x=>opD K x
 | .extract x n=>match opD K x with
  | some (.tup ds)=>nth ds n
  | _=>none
 | .pick c x y=>match opD K c with
  | some (.v (.bool true))=>opD K x
  | some (.v (.bool false))=>opD K y
  | _=>none
 | .unOp .not _ x=>match opD K x with
  | some (.v (.bool true))=>some (.v (.bool false))
  | some (.v (.bool false))=>some (.v (.bool true))
  | _=>none
 | .nilCheck x=>match opD K x with
  | some (.v (.pointer (some a)))=>some (.v (.pointer (some a)))
  | some (.el X o)=>some (.el X o)
  | _=>none
 | _=>none
theorem pureD_ok {P:Program} {ty:TypeId} {K:Kd} {H:List Hp} {op:Op} {d:D} (h:zfg K op=some d):Pu P op ty K H d:=by
 unfold zfg at h
 split at h
 · exact zi h
 · exact p_assign h
 · split at h
   · rename_i hx;exact p_extract hx h
   · cases h
 · split at h
   · rename_i hc;exact zdt hc h
   · rename_i hc;exact zdu hc h
   · cases h
 · split at h
   · rename_i hx;injection h with h;subst h;exact ze4 (q:=true) hx
   · rename_i hx;injection h with h;subst h;exact ze4 (q:=false) hx
   · cases h
 · split at h
   · rename_i hx;injection h with h;subst h;exact zB hx
   · rename_i hx;injection h with h;subst h;exact zbS hx
   · cases h
 · cases h
def oneC (N:Nat) (t:Tmp):Option D→Option (Tmp×D)
 | some d=>bif Nat.blt t N then some (t,d) else none
 | none=>none
def guardD (K:Kd) (want:Bool) (op:Op):Option D→Option D
 | some (.v u)=>match nb u,want with
  | some true,true=>zfg K op
  | some false,false=>zfg K op
  | some true,false=>some (.v undef)
  | some false,true=>some (.v undef)
  | none,_=>some (.v undef)
 | _=>none
def oneD (ops:List Oper) (i N:Nat) (K:Kd):Option (Tmp×D):=
 match opAt ops i with
 | some (some t,op,_,none)=>oneC N t (zfg K op)
 | some (some t,op,_,some (j,want))=>match zax ops j with
  | some s=>bif Nat.blt s N then oneC N t (guardD K want op (zG K s)) else none
  | none=>none
 | _=>none
def opP (ops:List Oper) (i N:Nat):Option (Tmp×Op×TypeId):=match opAt ops i with
 | some (some t,op,ty,none)=>bif Nat.blt t N then some (t,op,ty) else none
 | _=>none
def opE (ops:List Oper) (i N:Nat):Option (Option Tmp×Op×TypeId):=match opAt ops i with
 | some (t,op,ty,none)=>bif dok N t then some (t,op,ty) else none
 | _=>none
def gdF (ops:List Oper) (N:Nat) (K:Kd) (j:Nat) (want:Bool):Bool:=match zax ops j with
 | some s=>match zG K s with
  | some (.v (.bool b))=>Nat.blt s N&&(b==want)
  | _=>false
 | none=>false
def opG (ops:List Oper) (i N:Nat) (K:Kd):Option (Option Tmp×Op×TypeId):=match opAt ops i with
 | some (t,op,ty,some (j,want))=>match dok N t,gdF ops N K j want with
  | true,true=>some (t,op,ty)
  | _,_=>none
 | _=>none
section
variable {P:Program} {N:Nat} {C:Ctx} {K:Kd} {H:List Hp} {ops:List Oper} {i:Nat} {Kt:Env→World→(Nat→Prop)→Prop}
theorem nb_b {u:Value} {b:Bool} (h:nb u=some b):u=.bool b:=by cases u<;>simp[nb] at h;rw[h]
theorem opP_ok {t:Tmp} {op:Op} {ty:TypeId} (h:opP ops i N=some (t,op,ty)):opAt ops i=some (some t,op,ty,none)∧Nat.blt t N=true:=by
 unfold opP at h
 split at h
 · rename_i t' op' ty' ho
   cases hb:Nat.blt t' N
   · simp[hb] at h
   · simp[hb] at h;obtain ⟨h1,h2,h3⟩:=h;subst h1;subst h2;subst h3;exact⟨ho,hb⟩
 · cases h
theorem opE_ok {t:Option Tmp} {op:Op} {ty:TypeId} (h:opE ops i N=some (t,op,ty)):opAt ops i=some (t,op,ty,none)∧dok N t=true:=by
 unfold opE at h
 split at h
 · rename_i t' op' ty' ho
   cases hb:dok N t'
   · simp[hb] at h
   · simp[hb] at h;obtain ⟨h1,h2,h3⟩:=h;subst h1;subst h2;subst h3;exact⟨ho,hb⟩
 · cases h
theorem opG_ok {t:Option Tmp} {op:Op} {ty:TypeId} (h:opG ops i N K=some (t,op,ty)):∃ j want s,opAt ops i=some (t,op,ty,some (j,want))∧dok N t=true∧zax ops j=some s∧Nat.blt s N=true∧zG K s=some (.v (.bool want)):=by
 unfold opG at h
 split at h
 · rename_i t' op' ty' j want ho
   split at h
   · rename_i h1 h2
     injection h with h;injection h with e1 h;injection h with e2 e3
     subst e1;subst e2;subst e3
     unfold gdF at h2
     split at h2
     · rename_i s hs
       split at h2
       · rename_i b hb
         simp only[Bool.and_eq_true,beq_iff_eq] at h2
         obtain ⟨h3,h4⟩:=h2;subst h4
         exact⟨j,b,s,ho,h1,hs,h3,hb⟩
       · cases h2
     · cases h2
   · cases h
 · cases h
theorem oP {t:Tmp} {op:Op} {ty:TypeId} {d:D} (ho:opP ops i N=some (t,op,ty)) (h:Pu P op ty K H d) (k:OpsD P N C ops (i+1) ((t,d)::K) H Kt):OpsD P N C ops i K H Kt:=zfq (opP_ok ho).1 (opP_ok ho).2 h k
theorem oE {t:Option Tmp} {op:Op} {ty:TypeId} {R:D→List Hp→Prop} (ho:opE ops i N=some (t,op,ty)) (h:Ef P op ty K H R) (k:∀ d H',R d H'→OpsD P N C ops (i+1) (upK K t d) H' Kt):OpsD P N C ops i K H Kt:=od_step (opE_ok ho).1 (opE_ok ho).2 h k
theorem oF {t:Option Tmp} {op:Op} {ty:TypeId} {R:D→List Hp→Prop} (ho:opG ops i N K=some (t,op,ty)) (h:Ef P op ty K H R) (k:∀ d H',R d H'→OpsD P N C ops (i+1) (upK K t d) H' Kt):OpsD P N C ops i K H Kt:=by
 obtain ⟨j,want,s,h1,h2,h3,h4,h5⟩:=opG_ok ho
 exact od_run h1 h2 h3 h4 h5 h k
theorem oG {t:Tmp} {op:Op} {ty:TypeId} {d:D} (ho:opG ops i N K=some (some t,op,ty)) (h:Pu P op ty K H d) (k:OpsD P N C ops (i+1) ((t,d)::K) H Kt):OpsD P N C ops i K H Kt:=
 oF ho h.ef fun _ _ ⟨e1,e2⟩=>by subst e1;subst e2;exact k
theorem acs {L:List Hp}:∀ {ds:List D},ArgCs L ds ds
 | []=>.nil
 | _::_=>.cons ArgC.id acs
end
section
variable {P:Program} {N:Nat} {C:Ctx} {K:Kd} {H:List Hp} {ops:List Oper} {i:Nat} {Kt:Env→World→(Nat→Prop)→Prop} {Q:zbr}
end
theorem cS {b:ByteArray} (h:b.size≤maxLen:=by first | decide | (unfold maxLen;omega)):Cv (.v (.string b)) (.s b):=Cv.str h
theorem cB {a b:Bool} (h:a=b):Cv (.v (.bool a)) (.v (.bool b)):=Cv.eq (congrArg (fun b=>D.v (.bool b)) h)
abbrev FaP (P:Program) (t:TypeId) (f k:Nat):Prop:=∀ (b o:Nat) w,(Instr.fieldAt t (.pointer (some ⟨b,o,none⟩)) f).run P w=.ok (.pointer (some ⟨b,o+k,none⟩)) w
abbrev IzP (P:Program) (t:TypeId) (z:Value) (n b:Nat):Prop:=∃ i,P.info? t=some i∧i.zero=some z∧i.size=n∧i.bytes=b
abbrev BdP (P:Program) (fs:Array Field) (l:List (Nat×Nat)):Prop:=∀ w,((fs.mapM fun f=>do pure (f.offset,←Go.sizeOf f.type):Sem (Array (Nat×Nat)))).run P w=.ok l.toArray w
section
variable {P:Program} {N:Nat} {C:Ctx} {K:Kd} {H:List Hp} {Q:zbr} {c:Code} {p pa pb:List Bool}
def cnF (c:Code) (p:List Bool) (K:Kd):Option (List Bool×List Bool×D):=match ze7 (cd c p),snF p false,snF p true with
 | some x,some a,some b=>match opD K x with
  | some d=>some (a,b,d)
  | none=>none
 | _,_,_=>none
theorem jC {t:Bool} (h:cnF c p K=some (pa,pb,.v (.bool t))) (ht:t=true→JD P N C (cd c pa) K H Q) (hf:t=false→JD P N C (cd c pb) K H Q):JD P N C (cd c p) K H Q:=by
 unfold cnF at h
 split at h
 · rename_i x a b h1 h2 h3
   split at h
   · rename_i d hd;injection h with h;injection h with e1 h;injection h with e2 e3
     subst e1;subst e2;subst e3
     exact jd_cond _ _ h1 (zdh h2) (zdh h3) hd ht hf
   · cases h
 · cases h
theorem jD {φ:Prop} {_:Decidable φ} (h:cnF c p K=some (pa,pb,.v (.bool (decide φ)))) (ht:φ→JD P N C (cd c pa) K H Q) (hf:¬φ→JD P N C (cd c pb) K H Q):JD P N C (cd c p) K H Q:=
 jC h (fun e=>ht (of_decide_eq_true e)) (fun e=>hf (of_decide_eq_false e))
def lpF (c:Code) (p:List Bool):Option (List Bool):=match isLoop (cd c p),snF p false with
 | true,some a=>some a
 | _,_=>none
theorem lpF_ok (h:lpF c p=some pa):isLoop (cd c p)=true∧p++[false]=pa:=by
 unfold lpF at h
 split at h
 · rename_i h1 h2;injection h with h;subst h;exact⟨h1,zdh h2⟩
 · cases h
end
theorem bA (a b:Bool):((a&&b)=true)=(a=true∧b=true):=Bool.and_eq_true a b
theorem bB (a b:Bool):((a||b)=true)=(a=true∨b=true):=Bool.or_eq_true a b
theorem bC (b:Bool):((!b)=true)=(b=false):=Bool.not_eq_true' b
theorem bD (b:Bool):((!b)=false)=(b=true):=Bool.not_eq_false' b
theorem bE (a b:Bool):((a&&b)=false)=(a=false∨b=false):=by cases a<;>cases b<;>simp
theorem bF (a b:Bool):((a||b)=false)=(a=false∧b=false):=by cases a<;>cases b<;>simp
theorem bG (p:Prop) [Decidable p]:(decide p=true)=p:=decide_eq_true_eq
theorem bH (p:Prop) [Decidable p]:(decide p=false)=¬p:=by simp
theorem bI (p:Prop) [Decidable p]:(¬¬p)=p:=by simp
theorem bJ {α:Sort _} (a b:α):(a≠b)=¬a=b:=rfl
theorem bX:(∀ a b:Bool,((a&&b)=true)=(a=true∧b=true))∧(∀ a b:Bool,((a||b)=true)=(a=true∨b=true))∧(∀ a:Bool,((!a)=true)=(a=false))∧(∀ a:Bool,((!a)=false)=(a=true))∧(∀ a b:Bool,((a&&b)=false)=(a=false∨b=false))∧(∀ a b:Bool,((a||b)=false)=(a=false∧b=false))∧(∀ (p:Prop) [Decidable p],(decide p=true)=p)∧(∀ (p:Prop) [Decidable p],(decide p=false)=¬p)∧(∀ (p:Prop) [Decidable p],(¬ ¬p)=p):=
 ⟨bA,bB,bC,bD,bE,bF,bG,bH,bI⟩
theorem la {α:Type} {a b:List α}:(a++b).length=a.length+b.length:=List.length_append
theorem lc {α:Type} {a:α} {b:List α}:(a::b).length=b.length+1:=List.length_cons
theorem ln {α:Type}:([]:List α).length=0:=List.length_nil
theorem lm {α β:Type} {a:List α} {f:α→β}:(a.map f).length=a.length:=List.length_map f
theorem lt' {α:Type} {n:Nat} {a:List α}:(a.take n).length=min n a.length:=List.length_take
theorem ld {α:Type} {n:Nat} {a:List α}:(a.drop n).length=a.length-n:=List.length_drop
theorem ls {α:Type} {n:Nat} {a:List α} {x:α}:(a.set n x).length=a.length:=List.length_set
theorem lr {α:Type} {n:Nat} {x:α}:(List.replicate n x).length=n:=List.length_replicate
end Lp
set_option linter.unusedVariables false
namespace Lp
open Go Go.RowKit
abbrev Gh:=Nat→Value
def ug (γ:Gh) (k:Nat) (v:Value):Gh:=fun i=>bif Nat.beq i k then v else γ i
theorem ug_self (γ:Gh) (k:Nat) (v:Value):ug γ k v k=v:=by unfold ug;rw[Nat.beq_refl];rfl
theorem ug_ne (γ:Gh) {k i:Nat} (v:Value) (h:i≠k):ug γ k v i=γ i:=by unfold ug;rw[zce h];rfl
inductive Ex where
 | q (d:D)
  | r (d:D)
  | s (H:Gh→List Hp)
 | e (d:D) (H:Gh→List Hp)
 | o (H:Gh→List Hp)
 | f (m:Value→D) (H:Gh→List Hp)
def freshB' (ops:List Oper) (n N:Nat) (l:Kn):Bool:=
 Nat.ble n ops.length&&(List.range n).all fun i=>match zax ops i with
  | some d=>Nat.blt d N&&!(keys l).contains d&&(List.range i).all fun j=>zax ops j !=some d
  | none=>true
def drawB' (ops:List Oper) (n N:Nat) (l:Kn):Bool:=zeW ops&&zff ops n&&freshB' ops n N l
section
variable {P:Program} {N:Nat} {ops:List Oper} {K:Kd} {Hs H0:List Hp} {γ:Gh} {es:List (Tmp×Ex)} {k:Nat}
end
theorem O {α:Sort _} {a:α}:a=a:=rfl
theorem ga {L:List Hp} {a b:List D} {d:D} (h:ArgCs L a b):ArgCs L (d::a) (d::b):=.cons ArgC.id h
theorem gc {a b:List D} {d:D} (h:CvL a b):CvL (d::a) (d::b):=.cons Cv.rfl' h
end Lp
