import Derived.Test.YtheccaeefigajaaGreatDoorV98
set_option linter.unusedVariables false
namespace Lp
open Go
section
variable (p:List Int)
def nx (a:Nat):Int:=p.getD a (-1)
def zaN (a:Nat) (b:Bool):Int×Nat×Bool:=
 if nx p a=92 then(nx p (a+1),a+1+1,b||decide (nx p (a+1)<0)) else(nx p a,a+1,b||decide (nx p a<0))
def zc5 (a:Nat):Prop:=nx p a=45∧a+1<p.length∧nx p (a+1)≠93
instance (a:Nat):Decidable (zc5 p a):=by unfold zc5;infer_instance
def two7 (a:Nat) (b:Bool):Int×Int×Nat×Bool:=
 let i:=zaN p a b
 if zc5 p i.2.1 then(i.1,(zaN p (i.2.1+1) i.2.2).1,(zaN p (i.2.1+1) i.2.2).2.1,(zaN p (i.2.1+1) i.2.2).2.2) else(i.1,i.1,i.2.1,i.2.2)
def zaB:Nat→Nat→Nat→Bool→Nat×Bool
 | 0,_,a,b=>(a,b)
 | f+1,n,a,b=>
  if b=true∨(nx p a=93∧n≠0) then(a,b)
  else if nx p a=93∨p.length≤a then(a,true)
  else
   let t:=two7 p a b
   zaB f (n+1) t.2.2.1 (t.2.2.2||decide (t.2.1<t.1))
def zc6 (a:Nat) (b:Bool):Nat×Bool:=
 let a0:=if nx p a=94 then a+1 else a
 let r:=zaB p (p.length+1) 0 a0 b
 (r.1+1,r.2)
def zbf (alt:Nat→Bool→Nat×Bool) (a:Nat) (b:Bool):Nat×Bool:=
 if nx p a=40 then((alt (a+1) b).1+1,(alt (a+1) b).2||decide (nx p (alt (a+1) b).1≠41))
 else if nx p a=91 then zc6 p (a+1) b
 else if nx p a=46 then(a+1,b)
 else if nx p a=92 then(a+1+1,b||decide (p.length≤a+1))
 else(a+1,b||decide (nx p a=42∨nx p a=43∨nx p a=63∨nx p a=93))
def zbv (alt:Nat→Bool→Nat×Bool) (a:Nat) (b:Bool):Nat×Bool:=
 let x:=zbf p alt a b
 if nx p x.1=42∨nx p x.1=43∨nx p x.1=63 then(x.1+1,x.2) else x
def zas (alt:Nat→Bool→Nat×Bool):Nat→Nat→Bool→Nat×Bool
 | 0,a,b=>(a,b)
 | f+1,a,b=>if b=true∨p.length≤a∨nx p a=124∨nx p a=41 then(a,b) else zas alt f (zbv p alt a b).1 (zbv p alt a b).2
def zaH (alt:Nat→Bool→Nat×Bool) (a:Nat) (b:Bool):Nat×Bool:=zas p alt (p.length+1-a) a b
def zaz (alt:Nat→Bool→Nat×Bool):Nat→Nat→Bool→Nat×Bool
 | 0,a,b=>(a,b)
 | f+1,a,b=>if nx p a=124∧b=false then zaz alt f (zaH p alt (a+1) b).1 (zaH p alt (a+1) b).2 else(a,b)
def alt7:Nat→Nat→Bool→Nat×Bool
 | 0,a,b=>(a,b)
 | f+1,a,b=>zaz p (alt7 f) (p.length+1-(zaH p (alt7 f) a b).1) (zaH p (alt7 f) a b).1 (zaH p (alt7 f) a b).2
def pat7:Bool:=!(alt7 p (p.length+1) 0 false).2&&decide (p.length≤(alt7 p (p.length+1) 0 false).1)
structure Rl (u:PR) (t:Nat×Bool):Prop where
 g:u.b=false→t.2=false∧t.1≤p.length∧u.l=p.drop t.1
 d:u.b=true→t.2=true
variable {p}
theorem Rl.no {u:PR} {t:Nat×Bool} (h:u.b=true) (k:t.2=true):Rl p u t:=⟨fun e=>(by rw[h] at e;cases e),fun _=>k⟩
theorem Rl.yes {u:PR} {t:Nat×Bool} (h:u.b=false) (k:t.2=false) (a:t.1≤p.length) (e:u.l=p.drop t.1):Rl p u t:=⟨fun _=>⟨k,a,e⟩,fun e=>(by rw[h] at e;cases e)⟩
theorem nx_head {a:Nat} {x:Int} (h0:0≤x):nx p a=x↔(p.drop a).head?=some x:=by
 unfold nx
 rw[List.getD_eq_getElem?_getD,List.head?_drop]
 cases h:p[a]? with
 | none=>simp;omega
 | some y=>simp
theorem zd6 {a:Nat} {c:Int} {b:Bool} (h0:0≤c):PR.has ⟨p.drop a,b⟩ c=decide (nx p a=c):=by
 unfold PR.has;simp only[nx_head h0]
theorem drop_ne {a:Nat} (h:a<p.length):p.drop a=nx p a::p.drop (a+1):=by
 rw[List.drop_eq_getElem_cons h]
 unfold nx;rw[List.getD_eq_getElem?_getD,List.getElem?_eq_getElem h];rfl
theorem zd4 {a:Nat} {x:Int} (h0:0≤x) (h:nx p a=x):a<p.length:=by
 have:=(nx_head h0).1 h
 rcases Nat.lt_or_ge a p.length with k | k
 · exact k
 · rw[List.drop_eq_nil_of_le k] at this;cases this
theorem zeu {a:Nat} {b:Bool} (h:a<p.length):PR.any ⟨p.drop a,b⟩=(nx p a,⟨p.drop (a+1),b⟩):=by
 unfold PR.any;rw[drop_ne h]
theorem any_end {a:Nat} {b:Bool} (h:p.length≤a):PR.any ⟨p.drop a,b⟩=(0,⟨[],true⟩):=by
 unfold PR.any;rw[List.drop_eq_nil_of_le h]
theorem nx_end {a:Nat} (h:p.length≤a):nx p a= -1:=by
 unfold nx;rw[List.getD_eq_getElem?_getD,List.getElem?_eq_none h];rfl
theorem zdH {a:Nat} {c:Int} {b:Bool} (h0:0≤c):PR.take ⟨p.drop a,b⟩ c=if nx p a=c then(true,⟨p.drop (a+1),b⟩) else(false,⟨p.drop a,b⟩):=by
 unfold PR.take;rw[zd6 h0]
 by_cases e:nx p a=c
 · rw[if_pos e,if_pos (by simpa using e)]
   have:=zd4 h0 e
   simp only[List.tail_drop]
 · rw[if_neg e,if_neg (by simpa using e)]
theorem dash_7 {a:Nat}:(1<(p.drop a).length∧(p.drop a).headD 0=45∧(p.drop a).tail.headD 0≠93)↔zc5 p a:=by
 unfold zc5
 rw[List.length_drop]
 rcases Nat.lt_or_ge (a+1) p.length with k | k
 · rw[drop_ne (show a<p.length by omega),drop_ne k]
   simp only[List.headD_cons,List.tail_cons]
   constructor
   · rintro ⟨_,h1,h2⟩;exact⟨h1,k,h2⟩
   · rintro ⟨h1,_,h2⟩;exact⟨by omega,h1,h2⟩
 · constructor
   · rintro ⟨h,_,_⟩;omega
   · rintro ⟨_,h,_⟩;omega
theorem two_adv {a:Nat} {b:Bool}:a<(two7 p a b).2.2.1:=by
 have h:∀ a b,a<(zaN p a b).2.1:=fun a b=>by unfold zaN;split<;>simp<;>omega
 unfold two7;simp only;split
 · have h1:=h a b;have h2:=h ((zaN p a b).2.1+1) (zaN p a b).2.2;simp only;omega
 · exact h a b
theorem classF_nx {nt:Bool} {F a:Nat} {o:List RngD}:zaG nt (F+1) o ⟨p.drop a,false⟩=if 0<o.length∧nx p a=93 then(⟨false,nt,o⟩,⟨p.drop (a+1),false⟩) else if p.length≤a∨nx p a=93 then(⟨false,nt,o⟩,⟨p.drop a,true⟩)
 else zaG nt F (o++[(PR.item ⟨p.drop a,false⟩).1]) ⟨(PR.item ⟨p.drop a,false⟩).2.l,(PR.item ⟨p.drop a,false⟩).2.b||decide ((PR.item ⟨p.drop a,false⟩).1.hi<(PR.item ⟨p.drop a,false⟩).1.lo)⟩:=by
 conv=>lhs;unfold zaG
 rw[if_neg (show ¬(⟨p.drop a,false⟩:PR).b=true from Bool.false_ne_true),zd6 (c:=93) (by decide)]
 simp only[decide_eq_true_eq]
 by_cases h1:0<o.length∧nx p a=93
 · rw[if_pos h1,if_pos h1,zdH (c:=93) (by decide),if_pos h1.2]
 · rw[if_neg h1,if_neg h1]
   by_cases h2:p.length≤a∨nx p a=93
   · rw[if_pos h2,if_pos (by rcases h2 with k | k;exact .inl (List.drop_eq_nil_of_le k);exact .inr k)]
   · rw[if_neg h2,if_neg (by rintro (k | k);exact h2 (.inl (List.drop_eq_nil_iff.1 k));exact h2 (.inr k))]
theorem classF_bad {nt:Bool} (F:Nat) (o:List RngD) (l:List Int):(zaG nt F o ⟨l,true⟩).2=⟨l,true⟩:=by
 cases F with
 | zero=>rfl
 | succ F=>unfold zaG;rw[if_pos rfl]
theorem class7F_bad (F n a:Nat):zaB p F n a true=(a,true):=by
 cases F with
 | zero=>rfl
 | succ F=>unfold zaB;rw[if_pos (.inl rfl)]
variable (hp:∀ c∈p,0≤c)
include hp
theorem nx_pos {a:Nat} (h:a<p.length):0≤nx p a:=by
 unfold nx;rw[List.getD_eq_getElem?_getD,List.getElem?_eq_getElem h];exact hp _ (List.getElem_mem h)
theorem member_7 {a:Nat} (ha:a<p.length):((PR.member ⟨p.drop a,false⟩).2.b=false→(zaN p a false).2.2=false∧(zaN p a false).2.1≤p.length∧PR.member ⟨p.drop a,false⟩=((zaN p a false).1,⟨p.drop (zaN p a false).2.1,false⟩))∧((PR.member ⟨p.drop a,false⟩).2.b=true→(zaN p a false).2.2=true):=by
 unfold PR.member zaN
 rw[zeu ha]
 by_cases e:nx p a=92
 · rw[if_pos e,if_pos e]
   rcases Nat.lt_or_ge (a+1) p.length with k | k
   · rw[zeu k]
     have:=nx_pos hp k
     refine⟨fun _=>⟨?_,k,O⟩,fun h=>by cases h⟩
     simp;omega
   · rw[any_end k,nx_end k]
     exact⟨fun h=>(by cases h),fun _=>rfl⟩
 · rw[if_neg e,if_neg e]
   have:=nx_pos hp ha
   refine⟨fun _=>⟨?_,ha,O⟩,fun h=>by cases h⟩
   simp;omega
theorem item_7 {a:Nat} (ha:a<p.length):((PR.item ⟨p.drop a,false⟩).2.b=false→(two7 p a false).2.2.2=false∧(two7 p a false).2.2.1≤p.length∧PR.item ⟨p.drop a,false⟩=(⟨(two7 p a false).1,(two7 p a false).2.1⟩,⟨p.drop (two7 p a false).2.2.1,false⟩))∧((PR.item ⟨p.drop a,false⟩).2.b=true→(two7 p a false).2.2.2=true):=by
 obtain ⟨m1,m2⟩:=member_7 hp ha
 unfold PR.item two7
 simp only
 by_cases hb:(PR.member ⟨p.drop a,false⟩).2.b=true
 · -- a backslash at the end:nothing is left
   have hl:(PR.member ⟨p.drop a,false⟩).2.l=[]:=by
    unfold PR.member at hb ⊢
    rw[zeu ha] at hb ⊢
    by_cases e:nx p a=92
    · rw[if_pos e] at hb ⊢
      rcases Nat.lt_or_ge (a+1) p.length with k | k
      · rw[zeu k] at hb;cases hb
      · rw[any_end k]
    · rw[if_neg e] at hb;cases hb
   rw[if_neg (by rw[hl];simp)]
   refine⟨fun h=>(by rw[hb] at h;cases h),fun _=>?_⟩
   have hbad:=m2 hb
   have hd:¬zc5 p (zaN p a false).2.1:=fun h=>by
    have h2:=h.2.1
    unfold zaN at h2 hbad
    by_cases e:nx p a=92
    · rw[if_pos e] at h2 hbad
      simp only at h2
      have:=nx_pos hp (a:=a+1) (by omega)
      simp at hbad;omega
    · rw[if_neg e] at hbad
      have:=nx_pos hp ha
      simp at hbad;omega
   rw[if_neg hd];exact hbad
 · have hb:(PR.member ⟨p.drop a,false⟩).2.b=false:=by simpa using hb
   obtain ⟨g1,g2,g3⟩:=m1 hb
   rw[g3]
   simp only
   by_cases hd:zc5 p (zaN p a false).2.1
   · rw[if_pos ((dash_7).2 hd),if_pos hd]
     have hk:=hd.2.1
     rw[zeu (show (zaN p a false).2.1<p.length by omega),g1]
     simp only
     obtain ⟨n1,n2⟩:=member_7 hp hk
     exact⟨fun h=>by
      obtain ⟨q1,q2,q3⟩:=n1 h
      exact⟨q1,q2,by rw[q3]⟩,n2⟩
   · rw[if_neg (fun h=>hd ((dash_7).1 h)),if_neg hd]
     exact⟨fun _=>⟨g1,g2,O⟩,fun h=>by cases h⟩
theorem class_7 (nt:Bool):∀ (F F' n:Nat) (o:List RngD) (a:Nat),o.length=n→a≤p.length→p.length<F+a→p.length<F'+a→Rl p (zaG nt F o ⟨p.drop a,false⟩).2 ((zaB p F' n a false).1+1,(zaB p F' n a false).2)
 | 0,_,_,_,_,_,h,k,_=>by omega
 | _,0,_,_,_,_,h,_,k=>by omega
 | F+1,F'+1,n,o,a,hn,ha,hF,hF'=>by
  rw[classF_nx]
  unfold zaB
  by_cases h1:0<o.length∧nx p a=93
  · rw[if_pos h1,if_pos (.inr ⟨h1.2,by omega⟩)]
    exact Rl.yes O O (zd4 (by decide) h1.2) O
  · rw[if_neg h1,if_neg (show ¬(false=true∨nx p a=93∧n≠0) from fun h=>by rcases h with k | k;cases k;exact h1 ⟨by omega,k.1⟩)]
    by_cases h2:p.length≤a∨nx p a=93
    · rw[if_pos h2,if_pos h2.symm]
      exact Rl.no O O
    · have hal:a<p.length:=by omega
      rw[if_neg h2,if_neg (fun h=>h2 h.symm)]
      simp only
      obtain ⟨i1,i2⟩:=item_7 hp hal
      have hadv:=two_adv (p:=p) (a:=a) (b:=false)
      by_cases hb:(PR.item ⟨p.drop a,false⟩).2.b=true
      · rw[hb,i2 hb]
        simp only[Bool.true_or]
        rw[classF_bad,class7F_bad]
        exact Rl.no O O
      · obtain ⟨g1,g2,g3⟩:=i1 (by simpa using hb)
        rw[g3,g1]
        simp only[Bool.false_or]
        by_cases hlt:(two7 p a false).2.1<(two7 p a false).1
        · rw[decide_eq_true hlt,classF_bad,class7F_bad]
          exact Rl.no O O
        · rw[decide_eq_false hlt]
          exact class_7 nt F F' (n+1) _ _ (by simp[hn]) g2 (by omega) (by omega)
theorem cls_7 {a:Nat} (ha:a≤p.length):Rl p (PR.cls ⟨p.drop a,false⟩).2 (zc6 p a false):=by
 unfold PR.cls zc6
 rw[zdH (c:=94) (by decide)]
 by_cases h:nx p a=94
 · have hl:=zd4 (by decide) h
   rw[if_pos h,if_pos h]
   simp only
   exact class_7 hp true _ _ 0 [] _ O hl (by rw[List.length_drop];omega) (by omega)
 · rw[if_neg h,if_neg h]
   simp only
   exact class_7 hp false _ _ 0 [] _ O ha (by rw[List.length_drop];omega) (by omega)
def Alt (alt:PR→Pt×PR) (alt':Nat→Bool→Nat×Bool) (m:Nat):Prop:=∀ a,m≤a→a≤p.length→Rl p (alt ⟨p.drop a,false⟩).2 (alt' a false)
omit hp in
theorem sgn_7 {c:Int} (h1:c≠124) (h2:c≠41):sgnN.any (fun x=>decide (x=c))=decide (c=42∨c=43∨c=63∨c=93):=by
 unfold sgnN
 simp only[List.any_cons,List.any_nil,Bool.or_false]
 rw[Bool.eq_iff_iff]
 simp only[Bool.or_eq_true,decide_eq_true_eq]
 omega
theorem atom_7 {alt:PR→Pt×PR} {alt':Nat→Bool→Nat×Bool} {a:Nat} (hal:Alt (p:=p) alt alt' (a+1)) (ha:a<p.length) (h1:nx p a≠124) (h2:nx p a≠41):Rl p ((PR.atom ⟨p.drop a,false⟩ alt).2) (zbf p alt' a false):=by
 unfold PR.atom zbf
 simp only
 rw[zeu ha]
 simp only
 by_cases c1:nx p a=40
 · rw[if_pos c1,if_pos c1]
   have h:=hal (a+1) (Nat.le_refl _) ha
   by_cases hb:(alt ⟨p.drop (a+1),false⟩).2.b=true
   · rw[if_pos hb,h.d hb]
     exact Rl.no hb O
   · obtain ⟨g1,g2,g3⟩:=h.g (by simpa using hb)
     rw[if_neg hb,g1]
     have e:(alt ⟨p.drop (a+1),false⟩).2=⟨p.drop (alt' (a+1) false).1,false⟩:=by
      rw[←g3];cases hx:(alt ⟨p.drop (a+1),false⟩).2 with
      | mk l b=>rw[hx] at hb;simp at hb;rw[hb]
     rw[e,zdH (c:=41) (by decide)]
     by_cases hc:nx p (alt' (a+1) false).1=41
     · rw[if_pos hc]
       have:=zd4 (by decide) hc
       exact Rl.yes O (by simp[hc]) this O
     · rw[if_neg hc]
       exact Rl.no O (by simp[hc])
 · rw[if_neg c1,if_neg c1]
   by_cases c2:nx p a=91
   · rw[if_pos c2,if_pos c2];exact cls_7 hp ha
   · rw[if_neg c2,if_neg c2]
     by_cases c3:nx p a=46
     · rw[if_pos c3,if_pos c3];exact Rl.yes rfl rfl ha rfl
     · rw[if_neg c3,if_neg c3]
       by_cases c4:nx p a=92
       · rw[if_pos c4,if_pos c4]
         rcases Nat.lt_or_ge (a+1) p.length with k | k
         · rw[zeu k];exact Rl.yes rfl (by simp;omega) k rfl
         · rw[any_end k];exact Rl.no rfl (by simp;omega)
       · rw[if_neg c4,if_neg c4,sgn_7 h1 h2]
         by_cases c5:nx p a=42∨nx p a=43∨nx p a=63∨nx p a=93
         · rw[decide_eq_true c5];exact Rl.no rfl rfl
         · rw[decide_eq_false c5];exact Rl.yes rfl rfl ha rfl
theorem again_7 {alt:PR→Pt×PR} {alt':Nat→Bool→Nat×Bool} {a:Nat} (hal:Alt (p:=p) alt alt' (a+1)) (ha:a<p.length) (h1:nx p a≠124) (h2:nx p a≠41):Rl p ((PR.atom ⟨p.drop a,false⟩ alt).2.times (PR.atom ⟨p.drop a,false⟩ alt).1).2 (zbv p alt' a false):=by
 have h:=atom_7 hp hal ha h1 h2
 have hst:∀ (s:PR) (x:Pt),s.b=true→(s.times x).2.b=true:=fun s x h=>by
  have ht:∀ c,(s.take c).2.b=s.b:=fun c=>by unfold PR.take;split<;>rfl
  unfold PR.times;repeat' split
  all_goals first | exact(ht _).trans h | exact h
 by_cases hb:(PR.atom ⟨p.drop a,false⟩ alt).2.b=true
 · refine Rl.no (hst _ _ hb) ?_
   unfold zbv;simp only;split
   · exact h.d hb
   · exact h.d hb
 · obtain ⟨g1,g2,g3⟩:=h.g (by simpa using hb)
   have e:(PR.atom ⟨p.drop a,false⟩ alt).2=⟨p.drop (zbf p alt' a false).1,false⟩:=by
    rw[←g3];cases hx:(PR.atom ⟨p.drop a,false⟩ alt).2 with
    | mk l b=>rw[hx] at hb;simp at hb;rw[hb]
   rw[e]
   unfold PR.times zbv
   rw[zd6 (c:=42) (by decide),zd6 (c:=43) (by decide),zd6 (c:=63) (by decide),zdH (c:=42) (by decide),zdH (c:=43) (by decide),zdH (c:=63) (by decide)]
   simp only[decide_eq_true_eq]
   by_cases c1:nx p (zbf p alt' a false).1=42
   · rw[if_pos c1,if_pos c1,if_pos (.inl c1)];exact Rl.yes rfl g1 (zd4 (by decide) c1) rfl
   · by_cases c2:nx p (zbf p alt' a false).1=43
     · rw[if_neg c1,if_pos c2,if_pos c2,if_pos (.inr (.inl c2))];exact Rl.yes rfl g1 (zd4 (by decide) c2) rfl
     · by_cases c3:nx p (zbf p alt' a false).1=63
       · rw[if_neg c1,if_neg c2,if_pos c3,if_pos c3,if_pos (.inr (.inr c3))];exact Rl.yes rfl g1 (zd4 (by decide) c3) rfl
       · rw[if_neg c1,if_neg c2,if_neg c3,if_neg (by rintro (k | k | k);exact c1 k;exact c2 k;exact c3 k)];exact Rl.yes rfl g1 g2 rfl
omit hp in
theorem st_eq {u:PR} {t:Nat×Bool} (h:Rl p u t) (hb:¬u.b=true):u=⟨p.drop t.1,false⟩∧t.2=false∧t.1≤p.length:=by
 obtain ⟨g1,g2,g3⟩:=h.g (by simpa using hb)
 refine⟨?_,g1,g2⟩
 obtain ⟨l,b⟩:=u
 simp at hb g3;rw[hb,g3]
omit hp in
theorem partsF_bad {alt:PR→Pt×PR} (F:Nat) (o:List Pt) {s:PR} (h:s.b=true):(zam alt F o s).2=s:=by
 cases F with
 | zero=>rfl
 | succ F=>unfold zam;rw[if_pos (.inl h)]
omit hp in
theorem behind7F_bad {alt':Nat→Bool→Nat×Bool} (F a:Nat):zas p alt' F a true=(a,true):=by
 cases F with
 | zero=>rfl
 | succ F=>unfold zas;rw[if_pos (.inl rfl)]
theorem parts_7 {alt:PR→Pt×PR} {alt':Nat→Bool→Nat×Bool} {m:Nat} (hle:∀ s,(alt s).2.l.length≤s.l.length) (hal:Alt (p:=p) alt alt' m):∀ (F F':Nat) (o:List Pt) (a:Nat),m≤a+1→a≤p.length→p.length<F+a→p.length<F'+a→Rl p (zam alt F o ⟨p.drop a,false⟩).2 (zas p alt' F' a false)∧((zam alt F o ⟨p.drop a,false⟩).2.b=false→a≤(zas p alt' F' a false).1)
 | 0,_,_,_,_,h,k,_=>by omega
 | _,0,_,_,_,h,_,k=>by omega
 | F+1,F'+1,o,a,hm,ha,hF,hF'=>by
  unfold zam zas
  have hs:PR.stop ⟨p.drop a,false⟩=decide (p.length≤a∨nx p a=124∨nx p a=41):=by
   unfold PR.stop;rw[zd6 (c:=124) (by decide),zd6 (c:=41) (by decide),Bool.eq_iff_iff]
   simp only[Bool.or_eq_true,decide_eq_true_eq,List.drop_eq_nil_iff,or_assoc]
  rw[hs]
  by_cases h:p.length≤a∨nx p a=124∨nx p a=41
  · rw[if_pos (.inr (decide_eq_true h)),if_pos (.inr h)]
    exact⟨Rl.yes O O ha O,fun _=>Nat.le_refl _⟩
  · rw[if_neg (by rw[decide_eq_false h];simp),if_neg (fun k=>by rcases k with k | k;cases k;exact h k)]
    simp only
    have hla:a<p.length:=by omega
    have hag:=again_7 hp (alt:=alt) (alt':=alt') (fun b hb hb2=>hal b (by omega) hb2) hla (fun e=>h (.inr (.inl e))) (fun e=>h (.inr (.inr e)))
    have hlt:=PR.atom_lt (s:=⟨p.drop a,false⟩) hle (fun e=>by rw[List.drop_eq_nil_iff] at e;omega)
    have htl:=PR.times_le (PR.atom ⟨p.drop a,false⟩ alt).2 (PR.atom ⟨p.drop a,false⟩ alt).1
    by_cases hb:((PR.atom ⟨p.drop a,false⟩ alt).2.times (PR.atom ⟨p.drop a,false⟩ alt).1).2.b=true
    · rw[partsF_bad _ _ hb]
      have h7:=hag.d hb
      rw[h7,behind7F_bad]
      exact⟨Rl.no hb O,fun e=>absurd e (by rw[hb];decide)⟩
    · obtain ⟨e1,e2,e3⟩:=st_eq hag hb
      rw[e1] at htl ⊢
      rw[e2]
      simp only[List.length_drop] at htl hlt
      obtain ⟨r1,r2⟩:=parts_7 hle hal F F' (o++[((PR.atom ⟨p.drop a,false⟩ alt).2.times (PR.atom ⟨p.drop a,false⟩ alt).1).1]) (zbv p alt' a false).1 (by omega) e3 (by omega) (by omega)
      exact⟨r1,fun e=>by have:=r2 e;omega⟩
omit hp in
theorem altsF_bad {alt:PR→Pt×PR}:∀ (F:Nat) (o:List Pt) (s:PR),s.b=true→(zbL alt F o s).2.b=true
 | 0,_,_,h=>h
 | F+1,o,s,h=>by
  unfold zbL;split
  · have ht:(s.take 124).2.b=true:=by unfold PR.take;split<;>exact h
    simp only
    refine altsF_bad F _ _ ?_
    unfold PR.parts;rw[partsF_bad _ _ ht];exact ht
  · exact h
omit hp in
theorem either7F_bad {alt':Nat→Bool→Nat×Bool} (F a:Nat):zaz p alt' F a true=(a,true):=by
 cases F with
 | zero=>rfl
 | succ F=>unfold zaz;rw[if_neg (by simp)]
theorem alts_7 {alt:PR→Pt×PR} {alt':Nat→Bool→Nat×Bool} {m:Nat} (hle:∀ s,(alt s).2.l.length≤s.l.length) (hal:Alt (p:=p) alt alt' m):∀ (F F':Nat) (o:List Pt) (a:Nat),m≤a+1→a≤p.length→p.length<F+a→p.length<F'+a→Rl p (zbL alt F o ⟨p.drop a,false⟩).2 (zaz p alt' F' a false)
 | 0,_,_,_,_,h,k,_=>by omega
 | _,0,_,_,_,h,_,k=>by omega
 | F+1,F'+1,o,a,hm,ha,hF,hF'=>by
  unfold zbL zaz
  rw[zd6 (c:=124) (by decide),zdH (c:=124) (by decide)]
  by_cases h:nx p a=124
  · have hla:=zd4 (by decide) h
    rw[if_pos (decide_eq_true h),if_pos h,if_pos ⟨h,rfl⟩]
    simp only
    unfold PR.parts zaH
    obtain ⟨r1,r2⟩:=parts_7 hp hle hal ((p.drop (a+1)).length+1) (p.length+1-(a+1)) [] (a+1) (by omega) hla (by rw[List.length_drop];omega) (by omega)
    simp only
    by_cases hb:(zam alt ((p.drop (a+1)).length+1) [] ⟨p.drop (a+1),false⟩).2.b=true
    · rw[r1.d hb,either7F_bad]
      exact Rl.no (altsF_bad _ _ _ hb) O
    · obtain ⟨e1,e2,e3⟩:=st_eq r1 hb
      have r2:=r2 (by simpa using hb)
      rw[e1,e2]
      exact alts_7 hle hal F F' _ _ (by omega) e3 (by omega) (by omega)
  · rw[if_neg (by rw[decide_eq_false h];decide),if_neg (fun k=>h k.1)]
    exact Rl.yes O O ha O
theorem alt_7:∀ (f a:Nat),a≤p.length→p.length<f+a→Rl p (altF f ⟨p.drop a,false⟩).2 (alt7 p f a false)
 | 0,_,h,k=>by omega
 | f+1,a,ha,hf=>by
  unfold altF alt7
  simp only
  have hal:Alt (p:=p) (altF f) (alt7 p f) (a+1):=fun b hb hb2=>alt_7 f b hb2 (by omega)
  unfold PR.parts zaH
  obtain ⟨r1,r2⟩:=parts_7 hp (zeG f) hal ((p.drop a).length+1) (p.length+1-a) [] a (Nat.le_refl _) ha (by rw[List.length_drop];omega) (by omega)
  simp only
  by_cases hb:(zam (altF f) ((p.drop a).length+1) [] ⟨p.drop a,false⟩).2.b=true
  · rw[r1.d hb,either7F_bad]
    exact Rl.no (altsF_bad _ _ _ hb) O
  · obtain ⟨e1,e2,e3⟩:=st_eq r1 hb
    have r2:=r2 (by simpa using hb)
    rw[e1,e2]
    exact alts_7 hp (zeG f) hal _ _ _ _ (by omega) e3 (by simp only[List.length_drop];omega) (by omega)
theorem pat_7 (h40:p.length≤40):pat7 p=patR p:=by
 have h:=alt_7 hp (p.length+1) 0 (Nat.zero_le _) (by omega)
 rw[List.drop_zero] at h
 unfold pat7 patR
 rw[decide_eq_true h40,Bool.true_and]
 by_cases hb:(altF (p.length+1) ⟨p,false⟩).2.b=true
 · rw[hb,h.d hb];rfl
 · obtain ⟨g1,g2,g3⟩:=h.g (by simpa using hb)
   rw[show (altF (p.length+1) ⟨p,false⟩).2.b=false by simpa using hb,g1,g3]
   simp only[Bool.not_false,Bool.true_and,List.drop_eq_nil_iff]
end
end Lp
set_option linter.unusedVariables false
namespace Lp
open Go
section
variable {p:List Int}
theorem item7_b (a:Nat) (b:Bool):a<(zaN p a b).2.1∧(zaN p a b).2.1≤a+2:=by
 unfold zaN;split<;>simp only<;>omega
theorem two7_b (a:Nat) (b:Bool):a<(two7 p a b).2.2.1∧(two7 p a b).2.2.1≤a+5:=by
 have h1:=item7_b (p:=p) a b
 unfold two7;simp only;split
 · have h2:=item7_b (p:=p) ((zaN p a b).2.1+1) (zaN p a b).2.2
   simp only;omega
 · simp only;omega
theorem class7F_b:∀ (F n a:Nat) (b:Bool),a≤(zaB p F n a b).1∧(zaB p F n a b).1≤max a (p.length+5)
 | 0,n,a,b=>⟨Nat.le_refl _,Nat.le_max_left _ _⟩
 | F+1,n,a,b=>by
  unfold zaB
  split
  · exact⟨Nat.le_refl _,Nat.le_max_left _ _⟩
  · split
    · exact⟨Nat.le_refl _,Nat.le_max_left _ _⟩
    · rename_i h
      have h1:=two7_b (p:=p) a b
      have h2:=class7F_b F (n+1) (two7 p a b).2.2.1 ((two7 p a b).2.2.2||decide ((two7 p a b).2.1<(two7 p a b).1))
      have h3:a<p.length:=by omega
      simp only;omega
theorem class7_b (a:Nat) (b:Bool):a<(zc6 p a b).1∧(zc6 p a b).1≤max (a+1) (p.length+5)+1:=by
 unfold zc6;simp only
 split
 · have h:=class7F_b (p:=p) (p.length+1) 0 (a+1) b;omega
 · have h:=class7F_b (p:=p) (p.length+1) 0 a b;omega
def Fw (p:List Int) (alt:Nat→Bool→Nat×Bool) (k:Nat):Prop:=∀ a b,a≤(alt a b).1∧(alt a b).1≤max a (p.length+k)
variable {alt:Nat→Bool→Nat×Bool} {k:Nat} (h:Fw p alt k)
include h
theorem atom7_b {a:Nat} {b:Bool} (ha:a<p.length):a<(zbf p alt a b).1∧(zbf p alt a b).1≤p.length+k+6:=by
 have h1:=h (a+1) b
 have h2:=class7_b (p:=p) (a+1) b
 unfold zbf
 repeat' split
 all_goals first | omega | (simp only;omega)
theorem again7_b {a:Nat} {b:Bool} (ha:a<p.length):a<(zbv p alt a b).1∧(zbv p alt a b).1≤p.length+k+7:=by
 have h1:=atom7_b h ha (b:=b)
 unfold zbv;simp only;split<;>first | omega | (simp only;omega)
theorem behind7F_b:∀ (F a:Nat) (b:Bool),a≤(zas p alt F a b).1∧(zas p alt F a b).1≤max a (p.length+k+7)
 | 0,a,b=>⟨Nat.le_refl _,Nat.le_max_left _ _⟩
 | F+1,a,b=>by
  unfold zas
  split
  · exact⟨Nat.le_refl _,Nat.le_max_left _ _⟩
  · rename_i hc
    have h1:=again7_b h (a:=a) (b:=b) (by omega)
    have h2:=behind7F_b F (zbv p alt a b).1 (zbv p alt a b).2
    omega
theorem behind7_b (a:Nat) (b:Bool):a≤(zaH p alt a b).1∧(zaH p alt a b).1≤max a (p.length+k+7):=behind7F_b h _ a b
theorem either7F_b:∀ (F a:Nat) (b:Bool),a≤(zaz p alt F a b).1∧(zaz p alt F a b).1≤max a (p.length+k+7)
 | 0,a,b=>⟨Nat.le_refl _,Nat.le_max_left _ _⟩
 | F+1,a,b=>by
  unfold zaz
  split
  · rename_i hc
    have h0:=zd4 (by decide) hc.1
    have h1:=behind7_b h (a+1) b
    have h2:=either7F_b F (zaH p alt (a+1) b).1 (zaH p alt (a+1) b).2
    omega
  · exact⟨Nat.le_refl _,Nat.le_max_left _ _⟩
end
theorem zeT (p:List Int):∀ f:Nat,Fw p (alt7 p f) (7*f)
 | 0=>fun a b=>⟨Nat.le_refl _,Nat.le_max_left _ _⟩
 | f+1=>fun a b=>by
  have h1:=behind7_b (zeT p f) a b
  have h2:=either7F_b (zeT p f) (p.length+1-(zaH p (alt7 p f) a b).1) (zaH p (alt7 p f) a b).1 (zaH p (alt7 p f) a b).2
  unfold alt7
  omega
end Lp
set_option linter.unusedSimpArgs false
set_option linter.unusedVariables false
set_option maxHeartbeats 4000000
set_option maxRecDepth 100000
namespace Lp
open Go Go.RowKit Go.Proofs
theorem fa_277_0:FaP Tryz.prog 277 0 0:=fun _ _ _=>by kernel_rfl
theorem zbG:FaP Tryz.prog 277 2 2:=fun _ _ _=>by kernel_rfl
theorem zbF:FaP Tryz.prog 277 3 3:=fun _ _ _=>by kernel_rfl
theorem infz_288:IzP Tryz.prog 288 (.agg #[(.int .i64 0),(.int .i32 0),(.slice none 0 0),(.slice none 0 0),(.bool false),(.int .i64 0),(.int .i64 0),(.int .i64 0),(.bool false)]) 9 104:=zcs (by kernel_rfl)
theorem und_275:Tryz.prog.underlying 275=some (.slice 288):=by kernel_rfl
def paD (_:Unit):D:=.agg [.any,.any,.any,.any,.any,.any,.any,.any,.any]
abbrev nB (g:Nat) (v:Value) (r:Int) (p:List Int) (a:Nat) (b:Bool):Hp:=.bx g 277 (.agg [.ov v,dI r,.sh 1 (p.map dR),dN a,dB b])
theorem nx_x {p:List Int} {a:Nat} {x:Int} (h:p[a]?=some x):x=nx p a:=by unfold nx;rw[List.getD_eq_getElem?_getD,h];rfl
theorem nx_o {p:List Int} {a:Nat} (h:p.length≤a):(-1)=nx p a:=(nx_end h).symm
theorem item7_y {p:List Int} {a:Nat} {b:Bool} (h:nx p a=92):(nx p (a+1),a+1+1,b||decide (nx p (a+1)<0))=zaN p a b:=by unfold zaN;rw[if_pos h]
theorem item7_n {p:List Int} {a:Nat} {b:Bool} (h:¬nx p a=92):(nx p a,a+1,b||decide (nx p a<0))=zaN p a b:=by unfold zaN;rw[if_neg h]
structure PatD where
 u:Unit
 rt:Int
 p:List Int
 a:Nat
 b:Bool
def PatD.d (x:PatD):D:=.agg [.any,dI x.rt,.sh 1 (x.p.map dR),dN x.a,dB x.b]
theorem zaF (q:PatD) (hpl:q.p.length≤1000000) (ha:q.a≤2000000):
 CD Tryz.prog 254 [] [.el (PatD.d q) 0] (isR (.v (.int .i32 (nx q.p q.a)))):=by
 refine tZ Tryz.func254 O O (fun C=>?_)
 refine T.bd 0 O (fun bd0=>?_)
 refine g' 7 O (T.keep [0,2] O (tDr 9 [(3,.el (PatD.d q) 0,none),(4,.el (PatD.d q) 0,none),(5,.el (PatD.d q) 3,none),(6,dN q.a,none),(7,.el (PatD.d q) 0,none),(8,.el (PatD.d q) 0,none),(9,.el (PatD.d q) 2,none),(10,.sh 1 (q.p.map dR),none),(11,dN q.p.length,none)] [] (Hn:=[]) mixed O O O O HSub.rfl' O ⟨sa_p O O O (zi O),sa_p O O O (zbS O),sa_p O O O (zbC O zbF O),sa_p O O O (zbW O Tryz.isAgg3 O),sa_p O O O (zi O),sa_p O O O (zbS O),sa_p O O O (zbC O zbG O),sa_p O O O (zbW O Tryz.isAgg130 O),sa_p O O O (z8 (n:=q.p.length) O Tryz.runUnderlying130 (by simp only[lm,lc,ln])),trivial⟩ (tK O (g' 3 O ?_))))
 refine tD O (fun hc1=>?_) (fun hc1=>?_)
 · skip
   refine g' 1 O (T.keep [0,2,3,4,5,6,7,8,9,10,11,12] O (tDr 8 [(13,.el (PatD.d q) 0,none),(14,.el (PatD.d q) 0,none),(15,.el (PatD.d q) 2,none),(16,.sh 1 (q.p.map dR),none),(17,.el (PatD.d q) 0,none),(18,.el (PatD.d q) 0,none),(19,.el (PatD.d q) 3,none),(20,dN q.a,none)] [] (Hn:=[]) mixed O O O O HSub.rfl' O ⟨sa_p O O O (zi O),sa_p O O O (zbS O),sa_p O O O (zbC O zbG O),sa_p O O O (zbW O Tryz.isAgg130 O),sa_p O O O (zi O),sa_p O O O (zbS O),sa_p O O O (zbC O zbF O),sa_p O O O (zbW O Tryz.isAgg3 O),trivial⟩ (tK O ?_)))
   obtain ⟨x1,hx1⟩:=zN q.p q.a (by omega)
   refine tP O (zr (k:=q.a) O O Tryz.runUnderlying130 Tryz.sizeOf21 (by first | rfl | omega) (zI hx1)) (g' 6 O ?_)
   exact tRs O Tryz.results254 (.cons (zd (zc O) (Cv.eq (congrArg dR (by exact nx_x hx1)))) .nil) O HSub.none ⟨O,O⟩
 · skip
   refine g' 8 O ?_
   exact tRs O Tryz.results254 (.cons (zd (zc O) (Cv.eq (congrArg dR (by exact nx_o (by omega))))) .nil) O HSub.none ⟨O,O⟩
theorem item7_c (g:Nat) (pv:Value) (rt:Int) (p:List Int) (a:Nat) (b:Bool) (hpl:p.length≤1000000) (ha:a≤1900000):
 CD Tryz.prog 268 [nB g pv rt p a b] [dP g 0] (fun r H'=>∃ c a' b',(c,a',b')=zaN p a b∧r=.v (.int .i32 c)∧H'=[nB g pv rt p a' b']):=by
 refine tZ Tryz.func268 O O (fun C=>?_)
 refine g' 8 O (tV [0] O O (.cons (ArgC.boxC (j:=0) O (ArgC.agg (.cons (ArgC.cv Cv.oany) (ga (ga (ga (ga .nil))))))) .nil) (zaF (PatD.mk () rt p a b) (by simp only;omega) (by simp only;omega)) O (gQ 9 [0] O O (tP O (zy (c:=((a+1:Nat):Int)) O O (zn (by omega) (by omega))) (gQ 12 [0] O O ?_))))
 refine tD O (fun hc1=>?_) (fun hc1=>?_)
 · skip
   refine g' 3 O (tV [0] O O (.cons (ArgC.boxC (j:=0) O (ArgC.agg (.cons (ArgC.cv Cv.oany) (ga (ga (ga (ga .nil))))))) .nil) (zaF (PatD.mk () rt p (a+1) b) (by simp only;omega) (by simp only;omega)) O (gQ 8 [0] O O (tP O (zy (c:=(((a+1)+1:Nat):Int)) O O (zn (by omega) (by omega))) (gQ 13 [0,0] O O ?_))))
   refine tOr 5 2 (c:=decide (nx p (a+1)<(0:Int))) O O O O O O (fun hb2 nx3=>?_) ?_
   · skip
     refine g' 2 O ?_
     exact nx3 _ O O (kx 2 O O)
   refine gQ 12 [0] O O ?_
   exact tR O (HSub.fst 1 O) ⟨_,_,_,item7_y hc1,O,O⟩
 · skip
   refine gQ 10 [0] O O ?_
   refine tOr 5 2 (c:=decide (nx p a<(0:Int))) O O O O O O (fun hb4 nx5=>?_) ?_
   · skip
     refine g' 2 O ?_
     exact nx5 _ O O (kx 2 O O)
   refine gQ 12 [0] O O ?_
   exact tR O (HSub.fst 1 O) ⟨_,_,_,item7_n hc1,O,O⟩
theorem zc7 (g:Nat) (pv:Value) (rt:Int) (p:List Int) (a:Nat) (b:Bool) (l:List Unit) (hl:l.length≤9000000):
 CD Tryz.prog 255 [nB g pv rt p a b,.sl pv 9 288 (l.map paD)] [dP g 0,.agg [.any,.any,.any,.any,.any,.any,.any,.any,.any]] (fun r H'=>∃ (i:Int) (pv':Value) (l':List Unit),l'.length=l.length+1∧r=dI i∧H'=[nB g pv' rt p a b,.sl pv' 9 288 (l'.map paD)]):=by
 refine tZ Tryz.func255 O O (fun C=>?_)
 refine T.bd 1 O (fun bd1=>?_)
 have hll:(l++[()]).length=l.length+1:=by simp
 refine g' 2 O ?_
 refine tA O (fun g1=>?_)
 refine g' 4 O (T.front 2 O (T.keep [0,1,3,4] O ?_))
 refine tDx 8 [(5,.q (dP g 0)),(6,.q (dP g 0)),(7,.q (dP g 0)),(8,.q (dP g 0)),(9,.q (.ov pv)),(10,.q (.agg [.any,.any,.any,.any,.any,.any,.any,.any,.any])),(11,.q (.sh 9 ([()].map paD))),(12,.f (fun v=>.ov v))] [.bx g1 288 (.agg [.any,.any,.any,.any,.any,.any,.any,.any,.any]),nB g pv rt p a b] (HFr 7 (fun γ=>.sl (γ 7) 9 288 ((l++[()]).map paD)) (.sl pv 9 288 (l.map paD)) (HFb [.bx g1 288 (.agg [.any,.any,.any,.any,.any,.any,.any,.any,.any]),nB g pv rt p a b])) (fun γ=>[.sl (γ 7) 9 288 ((l++[()]).map paD),.bx g1 288 (.agg [.any,.any,.any,.any,.any,.any,.any,.any,.any]),nB g pv rt p a b]) mixed O O (by kernel_rfl) (hrs (fun _ _=>HSub.rfl')) (hr0 rfl (fun _ _ _=>rfl)) (hrn rfl (fun _ _ _=>rfl)) (fun γ=>⟨sx_p rfl rfl rfl (zi rfl) (hrq rfl (fun _=>rfl)),sx_p rfl rfl rfl (zi rfl) (hrq rfl (fun _=>rfl)),sx_p rfl rfl rfl (zB rfl) (hrq rfl (fun _=>rfl)),sx_p rfl rfl rfl (zm rfl fa_277_0 rfl) (hrq rfl (fun _=>rfl)),sx_p rfl rfl rfl (zk rfl (i:=1) rfl Tryz.isAgg275 rfl) (hrq rfl (fun _=>rfl)),sx_p rfl rfl rfl (zdv (d:=.agg [.any,.any,.any,.any,.any,.any,.any,.any,.any]) rfl (i:=0) rfl Tryz.isAgg288 Tryz.sizeOf288 rfl rfl) (hrq rfl (fun _=>rfl)),sx_q rfl rfl rfl (ze [.tmp 10] rfl rfl (.cons CellD.agg .nil) rfl Tryz.runUnderlying275 Tryz.sizeOf288 Tryz.zeroValue288 rfl rfl rfl rfl) (hrq rfl (fun _=>rfl)),sx_r0 rfl rfl rfl (fun _ _=>rfl) (fun _=>(zz (f:=paD) (l:=l) (l':=[()]) (i:=0) rfl rfl rfl (SrcD.sh) und_275 infz_288 rfl rfl (by unfold maxLen;(try simp only[la,lc,ln,lm,lt',ld,ls,lr]);omega) (by (try simp only[la,lc,ln,lm,lt',ld,ls,lr]);omega)).mono (by rintro _ _ ⟨v,rfl,rfl⟩;exact⟨v,rfl,rfl⟩)),trivial⟩) (fun γ=>?_)
 refine tK O (gQ 11 [2,2] O O (tP O (zV (n:=(l++[()]).length) (j:=0) O O Tryz.runUnderlying275 (List.length_map _)) (tP O (zcI (c:=((((l++[()]).length:Nat):Int)-1)) O O (zn (by omega) (by omega))) (g' 4 O (T.front 2 O ?_)))))
 exact tR O (HSub.fst 2 O) ⟨_,_,_,hll,O,O⟩
end Lp
