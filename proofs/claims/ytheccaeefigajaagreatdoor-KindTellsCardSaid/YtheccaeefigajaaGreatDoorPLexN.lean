import Derived.Test.YtheccaeefigajaaGreatDoorPParse
set_option linter.unusedVariables false
namespace Lp
open Go
def Rd.w (s:Rd):Int:=s.n+2*(s.l.length:Int)
structure Stp (c:Int) (s t:Rd):Prop where
 l:t.l <:+s.l
 w:t.w≤s.w+c
 n:s.n≤t.n
theorem Stp.rfl' (s:Rd):Stp 0 s s:=⟨List.suffix_refl _,by omega,Int.le_refl _⟩
theorem Stp.len {c:Int} {s t:Rd} (h:Stp c s t):t.l.length≤s.l.length:=h.l.length_le
theorem Stp.trans {c d:Int} {s t u:Rd} (h:Stp c s t) (k:Stp d t u):Stp (c+d) s u:=⟨k.l.trans h.l,by have:=h.w;have:=k.w;omega,Int.le_trans h.n k.n⟩
theorem Stp.le {c d:Int} {s t:Rd} (h:Stp c s t) (hc:c≤d):Stp d s t:=⟨h.l,by have:=h.w;omega,h.n⟩
theorem Stp.bad {c:Int} {s t:Rd} (h:Stp c s t) (b:Bool):Stp c s ⟨t.l,t.n,b⟩:=⟨h.l,h.w,h.n⟩
theorem tail_len {l:List TokD} (h:l≠[]):l.tail.length+1=l.length:=by
 cases l with
 | nil=>exact absurd rfl h
 | cons x l=>rfl
theorem pk_ne {s:Rd} {k:Int} (hk:k≠0) (h:s.pk.k=k):s.l≠[]:=fun e=>by
 unfold Rd.pk at h;rw[e] at h;exact hk h.symm
theorem z8 (s:Rd) (k:Int) (ts:List ByteArray):Stp 0 s (s.take k ts).2.2:=by
 unfold Rd.take
 split
 · exact Stp.rfl' s
 · refine⟨List.tail_suffix _,?_,Int.le_refl _⟩
   unfold Rd.w;simp only[List.length_tail];omega
theorem zbB {s:Rd} {k:Int} {ts:List ByteArray} (hk:k≠0) (h:(s.take k ts).2.1=true):(s.take k ts).2.2.l.length+1=s.l.length∧Stp (-2) s (s.take k ts).2.2∧s.b=false∧(s.take k ts).2.2.b=false∧s.is k ts=true:=by
 unfold Rd.take at h ⊢
 split at h
 · cases h
 · rename_i hc
   rw[if_neg hc]
   have hb:s.b=false:=by cases e:s.b with
    | false=>rfl
    | true=>exact absurd (Or.inl e) hc
   have hi:s.is k ts=true:=by cases e:s.is k ts with
    | true=>rfl
    | false=>exact absurd (Or.inr e) hc
   have hne:s.l≠[]:=pk_ne hk (by unfold Rd.is at hi;simp only[Bool.and_eq_true,decide_eq_true_eq] at hi;exact hi.1)
   have hl:=tail_len hne
   refine⟨hl,⟨List.tail_suffix _,?_,Int.le_refl _⟩,hb,hb,hi⟩
   unfold Rd.w;simp only;omega
theorem zV (s:Rd) (t:ByteArray):Stp 0 s (s.must t):=(z8 s 5 [t]).bad _
theorem zbW (s:Rd) (k:Int):Stp 0 s (s.any k).2:=by
 unfold Rd.any
 split
 · exact(Stp.rfl' s).bad _
 · refine⟨List.tail_suffix _,?_,Int.le_refl _⟩
   unfold Rd.w;simp only[List.length_tail];omega
theorem zdS {s:Rd} {k:Int} (hk:k≠0) (hb:s.b=false) (h:s.pk.k=k):(s.any k).2.l.length+1=s.l.length∧Stp (-2) s (s.any k).2∧(s.any k).1=s.pk.t∧(s.any k).2.b=false:=by
 unfold Rd.any
 rw[if_neg (by rw[hb,h];simp)]
 have hl:=tail_len (pk_ne hk h)
 refine⟨hl,⟨List.tail_suffix _,?_,Int.le_refl _⟩,rfl,hb⟩
 unfold Rd.w;simp only;omega
theorem zcy (s:Rd):Stp 1 s s.node:=⟨List.suffix_refl _,by unfold Rd.node Rd.w;simp only;omega,by unfold Rd.node;simp only;omega⟩
theorem namesF_stp:∀ (f:Nat) (o:List ByteArray) (s:Rd),Stp 0 s (zbY f o s).2
 | 0,o,s=>Stp.rfl' s
 | f+1,o,s=>by
  unfold zbY
  split
  · exact Stp.rfl' s
  · have h:=(zbW s 1).trans (z8 (s.any 1).2 5 [za0])
    split
    · exact(h.trans (namesF_stp f _ _)).le (by omega)
    · exact h.le (by omega)
theorem names_stp (s:Rd):Stp 0 s s.names.2:=by
 unfold Rd.names
 split
 · exact((zV s _).trans (zV _ _)).le (by omega)
 · exact(((zV s _).trans (namesF_stp _ _ _)).trans (zV _ _)).le (by omega)
theorem zca (s:Rd) (a b:ByteArray):Stp 0 s (s.mode a b).2.2:=by
 unfold Rd.mode
 split
 · exact z8 s 1 _
 · split
   · exact((z8 s 1 _).trans (names_stp _)).le (by omega)
   · exact((z8 s 1 _).trans (names_stp _)).le (by omega)
theorem levelF_stp {part:Rd→Nd×Rd} {signs:List ByteArray} (hp:∀ s,Stp 1 s (part s).2):∀ (f:Nat) (o:Nd) (s:Rd),Stp 0 s (zbl part signs f o s).2
 | 0,o,s=>Stp.rfl' s
 | f+1,o,s=>by
  unfold zbl
  split
  · exact z8 s 5 _
  · rename_i h
    have h:(s.take 5 signs).2.1=true:=by simpa using h
    have h1:=(zbB (by decide) h).2.1
    have h2:=h1.trans (zca (s.take 5 signs).2.2 tOn zaE)
    have h3:=h2.trans (hp ((s.take 5 signs).2.2.mode tOn zaE).2.2)
    have h4:=h3.trans (zcy _)
    exact(h4.trans (levelF_stp hp f _ _)).le (by omega)
theorem level_stp {part:Rd→Nd×Rd} (hp:∀ s,Stp 1 s (part s).2) (s:Rd) (signs:List ByteArray):Stp 1 s (s.level part signs).2:=by
 unfold Rd.level
 exact((hp s).trans (levelF_stp hp _ _ _)).le (by omega)
theorem bracesF_stp:∀ (f:Nat) (o:List MatD) (s:Rd),Stp 0 s (za6 f o s).2
 | 0,o,s=>Stp.rfl' s
 | f+1,o,s=>by
  unfold za6
  split
  · exact Stp.rfl' s
  · have h:=((((zbW s 1).trans (z8 (s.any 1).2 5 [tEq,tNe,zbe,zao])).bad (((s.any 1).2.take 5 [tEq,tNe,zbe,zao]).2.2.b||!((s.any 1).2.take 5 [tEq,tNe,zbe,zao]).2.1)).trans (zbW _ 3)).trans (z8 _ 5 [za0])
    simp only
    split
    · exact(h.trans (bracesF_stp f _ _)).le (by omega)
    · exact h.le (by omega)
theorem za3 (s:Rd) (k:Int):Stp 0 s (s.number k).2:=zbW s k
section
variable (rm:List MatD→Bool)
theorem braces_stp (s:Rd):Stp 0 s (s.braces rm).2:=by
 unfold Rd.braces
 split
 · exact((zV s _).trans (zV _ _)).le (by omega)
 · exact((((zV s _).trans (bracesF_stp _ _ _)).trans (zV _ _)).bad _).le (by omega)
theorem selector_stp (s:Rd):Stp 1 s (s.selector rm).2:=by
 have h1:Stp 0 s s.selName.2:=by unfold Rd.selName;split;exact zbW s 1;exact Stp.rfl' s
 have h2:∀ (s:Rd) t,Stp 0 s (s.selMs rm t).2:=fun s t=>by unfold Rd.selMs;split;exact braces_stp rm s;exact(Stp.rfl' s).bad _
 have h3:∀ s:Rd,Stp 0 s s.selWin.2:=fun s=>by
  unfold Rd.selWin;split
  · exact(((z8 s 5 [tSq]).trans (za3 _ 4)).trans (zV _ _)).le (by omega)
  · exact z8 s 5 _
 exact(((h1.trans (h2 _ _)).trans (h3 _)).trans (zcy _)).le (by omega)
theorem aggr_stp {s:Rd} {ex:Rd→Nd×Rd} (hp:∀ s,Stp 1 s (ex s).2) (hb:s.b=false) (hk:s.pk.k=1):Stp 1 s (s.aggr ex).2:=by
 have h1:=(zdS (by decide) hb hk).2.1
 have h2:=(h1.trans (zca (s.any 1).2 tBy zau)).trans (zV _ zag)
 unfold Rd.aggr
 simp only
 split
 · exact(((((h2.trans (za3 _ 2)).trans (zV _ za0)).trans (hp _)).trans (zV _ zaJ)).trans (zcy _)).le (by omega)
 · exact(((h2.trans (hp _)).trans (zV _ zaJ)).trans (zcy _)).le (by omega)
theorem prim_stp {ex:Rd→Nd×Rd} (hp:∀ s,Stp 1 s (ex s).2) (s:Rd):Stp 1 s (s.prim rm ex).2:=by
 unfold Rd.prim
 split
 · exact(Stp.rfl' s).le (by omega)
 · rename_i hb
   have hb:s.b=false:=by simpa using hb
   split
   · exact((za3 s 2).trans (zcy _)).le (by omega)
   · split
     · exact(((zV s zag).trans (hp _)).trans (zV _ zaJ)).le (by omega)
     · split
       · rename_i h;exact aggr_stp hp hb h.1
       · split
         · rename_i h
           have h1:=(zdS (by decide) hb h.1).2.1
           exact((((h1.trans (zV _ zag)).trans (hp _)).trans (zcy _)).trans (zV _ zaJ)).le (by omega)
         · exact selector_stp rm s
theorem zcS {ex:Rd→Nd×Rd} (hp:∀ s,Stp 1 s (ex s).2):∀ (f:Nat) (s:Rd),Stp 1 s (za7 rm ex f s).2
 | 0,s=>(Stp.rfl' s).le (by omega)
 | f+1,s=>by
  unfold za7
  split
  · rename_i h
    exact(((zbB (by decide) h).2.1.trans (zcS hp f _)).trans (zcy _)).le (by omega)
  · exact((z8 s 5 _).trans (prim_stp rm hp _)).le (by omega)
theorem prodP_stp {ex:Rd→Nd×Rd} (hp:∀ s,Stp 1 s (ex s).2) (s:Rd):Stp 1 s (zeq rm ex s).2:=level_stp (fun s=>zcS rm hp _ s) s _
theorem sumP_stp {ex:Rd→Nd×Rd} (hp:∀ s,Stp 1 s (ex s).2) (s:Rd):Stp 1 s (sumP rm ex s).2:=level_stp (fun s=>prodP_stp rm hp s) s _
theorem zcr:∀ (f:Nat) (s:Rd),Stp 1 s (zbR rm f s).2
 | 0,s=>(Stp.rfl' s).le (by omega)
 | f+1,s=>by unfold zbR;exact level_stp (fun s=>sumP_stp rm (zcr f) s) s _
end
end Lp
set_option linter.unusedVariables false
namespace Lp
open Go
structure RngD where
 lo:Int
 hi:Int
structure SetD where
 all:Bool
 nt:Bool
 items:List RngD
inductive Pt where
 | one (s:SetD)
 | row (l:List Pt)
 | alt (l:List Pt)
 | rep (x:Pt) (none again:Bool)
structure PR where
 l:List Int
 b:Bool
def PR.has (s:PR) (c:Int):Bool:=decide (s.l.head?=some c)
def PR.take (s:PR) (c:Int):Bool×PR:=if s.has c=true then(true,⟨s.l.tail,s.b⟩) else(false,s)
def PR.any (s:PR):Int×PR:=match s.l with
 | []=>(0,⟨[],true⟩)
 | c::r=>(c,⟨r,s.b⟩)
def PR.times (s:PR) (x:Pt):Pt×PR:=
 if s.has 42=true then(.rep x true true,(s.take 42).2)
 else if s.has 43=true then(.rep x false true,(s.take 43).2)
 else if s.has 63=true then(.rep x true false,(s.take 63).2)
 else(x,s)
def PR.member (s:PR):Int×PR:=if s.any.1=92 then s.any.2.any else s.any
def PR.item (s:PR):RngD×PR:=
 let m:=s.member
 if 1<m.2.l.length∧m.2.l.headD 0=45∧m.2.l.tail.headD 0≠93 then(⟨m.1,m.2.any.2.member.1⟩,m.2.any.2.member.2) else(⟨m.1,m.1⟩,m.2)
def zbv (nt:Bool):Nat→List RngD→PR→SetD×PR
 | 0,o,s=>(⟨false,nt,o⟩,s)
 | f+1,o,s=>
  if s.b=true then(⟨false,nt,o⟩,s)
  else if 0<o.length∧s.has 93=true then(⟨false,nt,o⟩,(s.take 93).2)
  else if s.l=[]∨s.has 93=true then(⟨false,nt,o⟩,⟨s.l,true⟩)
  else
   let x:=s.item
   zbv nt f (o++[x.1]) ⟨x.2.l,x.2.b||decide (x.1.hi<x.1.lo)⟩
def PR.cls (s:PR):SetD×PR:=zbv (s.take 94).1 ((s.take 94).2.l.length+2) [] (s.take 94).2
def sgnN:List Int:=[42,43,63,124,41,93]
def PR.atom (s:PR) (alt:PR→Pt×PR):Pt×PR:=
 let c:=s.any
 if c.1=40 then
  let x:=alt c.2
  if x.2.b=true then(x.1,x.2) else(x.1,⟨(x.2.take 41).2.l,!(x.2.take 41).1⟩)
 else if c.1=91 then(.one c.2.cls.1,c.2.cls.2)
 else if c.1=46 then(.one ⟨true,false,[]⟩,c.2)
 else if c.1=92 then(.one ⟨false,false,[⟨c.2.any.1,c.2.any.1⟩]⟩,c.2.any.2)
 else(.one ⟨false,false,[⟨c.1,c.1⟩]⟩,⟨c.2.l,c.2.b||sgnN.any (fun x=>decide (x=c.1))⟩)
def PR.stop (s:PR):Bool:=decide (s.l=[])||s.has 124||s.has 41
def zbd (alt:PR→Pt×PR):Nat→List Pt→PR→List Pt×PR
 | 0,o,s=>(o,s)
 | f+1,o,s=>
  if s.b=true∨s.stop=true then(o,s)
  else
   let a:=s.atom alt
   let t:=a.2.times a.1
   zbd alt f (o++[t.1]) t.2
def PR.parts (s:PR) (alt:PR→Pt×PR):Pt×PR:=(.row (zbd alt (s.l.length+1) [] s).1,(zbd alt (s.l.length+1) [] s).2)
def zcg (alt:PR→Pt×PR):Nat→List Pt→PR→List Pt×PR
 | 0,o,s=>(o,s)
 | f+1,o,s=>
  if s.has 124=true then
   let p:=(s.take 124).2.parts alt
   zcg alt f (o++[p.1]) p.2
  else(o,s)
def altF:Nat→PR→Pt×PR
 | 0,s=>(.row [],s)
 | f+1,s=>
  let p:=s.parts (altF f)
  let r:=zcg (altF f) (p.2.l.length+1) [p.1] p.2
  (.alt r.1,r.2)
def patR (l:List Int):Bool:=decide (l.length≤40)&&!(altF (l.length+1) ⟨l,false⟩).2.b&&decide ((altF (l.length+1) ⟨l,false⟩).2.l=[])
theorem PR.take_le (s:PR) (c:Int):(s.take c).2.l.length≤s.l.length:=by unfold PR.take;split<;>simp
theorem PR.take_lt {s:PR} {c:Int} (h:s.has c=true):(s.take c).2.l.length+1=s.l.length:=by
 unfold PR.take;rw[if_pos h]
 unfold PR.has at h;simp only[decide_eq_true_eq] at h
 cases e:s.l with
 | nil=>rw[e] at h;cases h
 | cons x r=>simp
theorem PR.any_le (s:PR):s.any.2.l.length≤s.l.length:=by unfold PR.any;cases e:s.l<;>simp
theorem PR.any_lt {s:PR} (h:s.l≠[]):s.any.2.l.length+1=s.l.length:=by
 unfold PR.any;cases e:s.l with
 | nil=>exact absurd e h
 | cons x r=>simp
theorem PR.times_le (s:PR) (x:Pt):(s.times x).2.l.length≤s.l.length:=by
 unfold PR.times;repeat' split
 all_goals first | exact PR.take_le _ _ | exact Nat.le_refl _
theorem PR.member_le (s:PR):s.member.2.l.length≤s.l.length:=by
 unfold PR.member;split
 · exact Nat.le_trans (PR.any_le _) (PR.any_le _)
 · exact PR.any_le _
theorem PR.member_lt {s:PR} (h:s.l≠[]):s.member.2.l.length<s.l.length:=by
 have:=PR.any_lt h
 unfold PR.member;split
 · have:=PR.any_le s.any.2;omega
 · omega
theorem PR.item_lt {s:PR} (h:s.l≠[]):s.item.2.l.length<s.l.length:=by
 have h1:=PR.member_lt h
 unfold PR.item;simp only;split
 · have h2:=PR.any_le s.member.2
   have h3:=PR.member_le s.member.2.any.2
   simp only;omega
 · exact h1
theorem classF_le (nt:Bool):∀ (f:Nat) (o:List RngD) (s:PR),(zbv nt f o s).2.l.length≤s.l.length
 | 0,o,s=>Nat.le_refl _
 | f+1,o,s=>by
  unfold zbv
  split
  · exact Nat.le_refl _
  · split
    · exact PR.take_le _ _
    · split
      · exact Nat.le_refl _
      · rename_i h
        have h1:=PR.item_lt (s:=s) (fun e=>h (Or.inl e))
        have h2:=classF_le nt f (o++[s.item.1]) ⟨s.item.2.l,s.item.2.b||decide (s.item.1.hi<s.item.1.lo)⟩
        simp only at h2 ⊢;omega
theorem PR.cls_le (s:PR):s.cls.2.l.length≤s.l.length:=Nat.le_trans (classF_le _ _ _ _) (PR.take_le _ _)
theorem PR.atom_lt {s:PR} {alt:PR→Pt×PR} (ha:∀ s,(alt s).2.l.length≤s.l.length) (h:s.l≠[]):(s.atom alt).2.l.length<s.l.length:=by
 have h1:=PR.any_lt h
 unfold PR.atom;simp only
 split
 · have h2:=ha s.any.2
   have h3:=PR.take_le (alt s.any.2).2 41
   split<;>simp only<;>omega
 · split
   · have:=PR.cls_le s.any.2;simp only;omega
   · split
     · simp only;omega
     · split
       · have:=PR.any_le s.any.2;simp only;omega
       · simp only;omega
theorem partsF_le {alt:PR→Pt×PR} (ha:∀ s,(alt s).2.l.length≤s.l.length):∀ (f:Nat) (o:List Pt) (s:PR),(zbd alt f o s).2.l.length≤s.l.length
 | 0,o,s=>Nat.le_refl _
 | f+1,o,s=>by
  unfold zbd
  split
  · exact Nat.le_refl _
  · rename_i h
    have hne:s.l≠[]:=fun e=>h (Or.inr (by unfold PR.stop;rw[decide_eq_true e];rfl))
    have h1:=PR.atom_lt ha hne
    have h2:=PR.times_le (s.atom alt).2 (s.atom alt).1
    have h3:=partsF_le ha f (o++[((s.atom alt).2.times (s.atom alt).1).1]) ((s.atom alt).2.times (s.atom alt).1).2
    simp only;omega
theorem PR.parts_le {alt:PR→Pt×PR} (ha:∀ s,(alt s).2.l.length≤s.l.length) (s:PR):(s.parts alt).2.l.length≤s.l.length:=partsF_le ha _ _ _
theorem altsF_le {alt:PR→Pt×PR} (ha:∀ s,(alt s).2.l.length≤s.l.length):∀ (f:Nat) (o:List Pt) (s:PR),(zcg alt f o s).2.l.length≤s.l.length
 | 0,o,s=>Nat.le_refl _
 | f+1,o,s=>by
  unfold zcg
  split
  · rename_i h
    have h1:=PR.take_lt h
    have h2:=PR.parts_le ha (s.take 124).2
    have h3:=altsF_le ha f (o++[((s.take 124).2.parts alt).1]) ((s.take 124).2.parts alt).2
    simp only;omega
  · exact Nat.le_refl _
theorem altF_le:∀ (f:Nat) (s:PR),(altF f s).2.l.length≤s.l.length
 | 0,s=>Nat.le_refl _
 | f+1,s=>by
  unfold altF;simp only
  exact Nat.le_trans (altsF_le (altF_le f) _ _ _) (PR.parts_le (altF_le f) s)
end Lp
set_option linter.unusedVariables false
namespace Lp
open Go
theorem zaT {b:UInt8} {t:List UInt8} (h:b.toNat<128):decL (b::t)=(b.toNat,1):=by
 unfold decL
 have:gb (b::t) 0=b.toNat:=rfl
 rw[this,if_pos h]
theorem zcX {b:Bool} {l:List UInt8} (h:l≠[]):zak b l=if b=true then(zak false (l.drop (decL l).2)).map (· +(decL l).2)
 else if (decL l).1=92 then(zak true (l.drop (decL l).2)).map (· +(decL l).2)
 else if (decL l).1=34 then some 0
 else(zak false (l.drop (decL l).2)).map (· +(decL l).2):=by
 conv=>lhs;unfold zak
 rw[dif_neg h]
theorem qscan_nil {b:Bool}:zak b []=none:=by unfold zak;rw[dif_pos rfl]
theorem qscan_lt:∀ (n:Nat) (l:List UInt8) (b:Bool) (i:Nat),l.length=n→zak b l=some i→i<l.length:=by
 intro n
 induction n using Nat.strongRecOn with
 | _ n ih=>
  intro l b i hl h
  by_cases hn:l=[]
  · subst hn;rw[qscan_nil] at h;cases h
  · have h1:=zc6 l
    have h2:=decL_le hn
    have key:∀ (b':Bool),(zak b' (l.drop (decL l).2)).map (· +(decL l).2)=some i→i<l.length:=by
     intro b' h
     cases e:zak b' (l.drop (decL l).2) with
     | none=>rw[e] at h;cases h
     | some j=>
      rw[e] at h;injection h with h
      have:=ih (l.length-(decL l).2) (by omega) _ b' j List.length_drop e
      rw[List.length_drop] at this
      have h:j+(decL l).2=i:=h
      omega
    rw[zcX hn] at h
    split at h
    · exact key _ h
    · split at h
      · exact key _ h
      · split at h
        · injection h with h;omega
        · exact key _ h
theorem signIn_size:∀ (xs:List ByteArray) (l:List UInt8),(za1 xs l).2≤l.length
 | [],l=>Nat.zero_le _
 | x::xs,l=>by
  unfold za1;split
  · rename_i h
    rw[List.isPrefixOf_iff_prefix] at h
    have:=h.length_le
    rw[zaq] at this;exact this
  · exact signIn_size xs l
theorem firstT_le {l:List UInt8}:(zz l).2≤l.length:=by
 unfold zz
 split
 · unfold zbN;split
   · exact zbO _ _
   · exact Nat.zero_le _
 · split
   · unfold numT;split
     · exact Nat.zero_le _
     · split
       · exact zbO _ _
       · split
         · exact Nat.zero_le _
         · exact zbO _ _
   · split
     · cases e:zak true l with
       | none=>unfold strT;rw[e];exact Nat.zero_le _
       | some i=>
        have h2:=qscan_lt _ l true i rfl e
        unfold strT;rw[e]
        show (match unqB (mkB (l.take (i+1))) with | none=>(zbH,0) | some t=>((⟨3,0,t⟩:TokD),i+1)).2≤_
        split
        · exact Nat.zero_le _
        · exact h2
     · exact signIn_size _ _
end Lp
set_option linter.unusedVariables false
namespace Lp
open Go
variable {s:ByteArray} {p:Nat} {f:Int→Bool}
theorem run_start:runL f (bl8 s)=0+runL f (bts s 0):=by rw[Nat.zero_add];rfl
theorem run_next (hf:runL f (bl8 s)=p+runL f (bts s p)) (h:p<s.size) (ht:f ((decR s p:Nat):Int)=true):runL f (bl8 s)=(p+decW s p)+runL f (bts s (p+decW s p)):=by
 rw[zce] at ht
 rw[hf,zda (zdL h) ht,zcC,←zcd,Nat.add_assoc]
theorem run_stop (hf:runL f (bl8 s)=p+runL f (bts s p)) (ht:f ((decR s p:Nat):Int)=false):p=runL f (bl8 s):=by
 rw[zce] at ht
 rw[hf,zdY ht];rfl
theorem run_end (hf:runL f (bl8 s)=p+runL f (bts s p)) (h:s.size≤p) (hp:p≤s.size):s.size=runL f (bl8 s):=by
 rw[hf,zea h,zdC];omega
theorem zb6 (f:Int→Bool) (s:ByteArray):runL f (bl8 s)≤s.size:=by rw[←zaq];exact zbO f _
theorem hasI_inK (ks:List Int) (r:Int):hasI ks (zM r)=inK ks r:=rfl
theorem zc4 {n:Nat} (h:n≤s.size):s.extract 0 n=mkB ((bl8 s).take n):=by rw[zcq h,List.drop_zero]
theorem ext_drop:s.extract p s.size=mkB ((bl8 s).drop p):=by
 rw[zcq (Nat.le_refl _),List.take_of_length_le (by rw[zaq];omega)]
theorem run_mono {f g:Int→Bool} (h:∀ r,f r=true→g r=true):∀ (n:Nat) (l:List UInt8),l.length=n→runL f l≤runL g l:=by
 intro n
 induction n using Nat.strongRecOn with
 | _ n ih=>
  intro l hl
  by_cases hf:l≠[]∧f ((decL l).1:Int)=true
  · have h1:=zc6 l
    have h2:=List.length_pos_iff.2 hf.1
    rw[zda hf.1 hf.2,zda hf.1 (h _ hf.2)]
    have:=ih (l.length-(decL l).2) (by omega) _ List.length_drop
    omega
  · have:runL f l=0:=by unfold runL;rw[dif_neg hf]
    omega
theorem nD_le (s:ByteArray):runL (inK [2]) (bl8 s)≤runL (inK [1,2]) (bl8 s):=run_mono (fun r hr=>by
 unfold inK at*
 simp only[List.any_cons,List.any_nil,Bool.or_false,decide_eq_true_eq,Bool.or_eq_true] at*
 exact .inr hr) _ _ rfl
theorem wordT_t (h:zck (s.extract 0 (runL isLD (bl8 s)))=true):zbN (bl8 s)=(⟨1,0,s.extract 0 (runL isLD (bl8 s))⟩,runL isLD (bl8 s)):=by
 unfold zbN;rw[←zc4 (zb6 _ s),if_pos h]
theorem wordT_f (h:zck (s.extract 0 (runL isLD (bl8 s)))=false):zbN (bl8 s)=(zbH,0):=by
 unfold zbN;rw[←zc4 (zb6 _ s),if_neg (by rw[h];simp)]
abbrev nD (s:ByteArray):Nat:=runL isD (bl8 s)
abbrev nA (s:ByteArray):Nat:=runL isLD (bl8 s)
abbrev vD (s:ByteArray):Nat:=digV ((bl8 s).take (nD s))
theorem numT_1 (h:13<nD s∨1000000000000<vD s):numT (bl8 s)=(zbH,0):=by unfold numT;rw[if_pos h]
theorem numT_2 (h:¬(13<nD s∨1000000000000<vD s)) (h2:nA s=nD s):numT (bl8 s)=(⟨2,0,digB (vD s)⟩,nD s):=by unfold numT;rw[if_neg h,if_pos h2]
theorem cut_mid (h:nA s≤s.size):mkB (((bl8 s).take (nA s)).drop (nD s))=s.extract (nD s) (nA s):=(zcq h).symm
theorem numT_3 (h:¬(13<nD s∨1000000000000<vD s)) (h2:¬nA s=nD s) (h3:secB (s.extract (nD s) (nA s))=0∨1000000000 / secB (s.extract (nD s) (nA s))<vD s):numT (bl8 s)=(zbH,0):=by
 unfold numT;rw[if_neg h,if_neg h2,cut_mid (zb6 _ s),if_pos h3]
theorem numT_4 (h:¬(13<nD s∨1000000000000<vD s)) (h2:¬nA s=nD s) (h3:¬(secB (s.extract (nD s) (nA s))=0∨1000000000 / secB (s.extract (nD s) (nA s))<vD s)):numT (bl8 s)=(⟨4,0,digB (vD s*secB (s.extract (nD s) (nA s)))⟩,nA s):=by
 unfold numT;rw[if_neg h,if_neg h2,cut_mid (zb6 _ s),if_neg h3]
theorem run_digits:∀ (n:Nat) (l:List UInt8),l.length=n→∀ b∈l.take (runL isD l),48≤b.toNat∧b.toNat≤57:=by
 intro n
 induction n using Nat.strongRecOn with
 | _ n ih=>
  intro l hl b hb
  by_cases h:l≠[]∧isD ((decL l).1:Int)=true
  · have h2:zM ((decL l).1:Int)=2:=by
     have h':inK [2] ((decL l).1:Int)=true:=h.2
     unfold inK at h'
     simp only[List.any_cons,List.any_nil,Bool.or_false,decide_eq_true_eq] at h'
     exact h'.symm
    have hr:48≤(decL l).1∧(decL l).1≤57:=by unfold zM at h2;(repeat (split at h2))<;>omega
    cases l with
    | nil=>exact absurd rfl h.1
    | cons c r=>
     have hc:c.toNat=(decL (c::r)).1∧(decL (c::r)).2=1:=by
      have hg:gb (c::r) 0=c.toNat:=rfl
      by_cases h1:c.toNat<128
      · unfold decL;rw[hg,if_pos h1];exact⟨rfl,rfl⟩
      · exfalso
        revert hr
        unfold decL
        rw[hg,if_neg h1]
        have l0:c.toNat<256:=UInt8.toNat_lt _
        (repeat (any_goals split))<;>simp_all<;>omega
     rw[zda h.1 h.2,hc.2,Nat.add_comm,List.take_succ_cons,List.drop_one,List.tail_cons] at hb
     rcases List.mem_cons.1 hb with e | e
     · rw[e];omega
     · exact ih r.length (by simp only[List.length_cons] at hl;omega) r rfl b e
  · unfold runL at hb;rw[dif_neg h] at hb;cases hb
theorem vD_le {l:List UInt8} (h:∀ b∈l,48≤b.toNat∧b.toNat≤57) (hl:l.length≤13):digV l<10000000000000:=by
 have key:∀ (l:List UInt8) (acc k:Nat),(∀ b∈l,48≤b.toNat∧b.toNat≤57)→acc<10 ^ k→l.length+k≤13→l.foldl (fun n b=>10*n+(b.toNat-48)) acc<10 ^ 13:=by
  intro l
  induction l with
  | nil=>intro acc k _ ha hl;exact Nat.lt_of_lt_of_le ha (Nat.pow_le_pow_right (by omega) (by simpa using hl))
  | cons c r ih=>
   intro acc k h ha hl
   have hc:=h c List.mem_cons_self
   exact ih _ (k+1) (fun b hb=>h b (List.mem_cons_of_mem _ hb)) (by show 10*acc+(c.toNat-48)<10 ^ (k+1);rw[Nat.pow_succ];omega) (by simp only[List.length_cons] at hl;omega)
 have:=key l 0 0 h (by decide) (by omega)
 have h13:(10:Nat) ^ 13=10000000000000:=by decide
 unfold digV;omega
theorem secB_cases (s:ByteArray):secB s=0∨secB s=1∨secB s=60∨secB s=3600:=by unfold secB;(repeat (any_goals split))<;>simp
def qInv (s:ByteArray) (p:Nat) (b:Bool):Prop:=zak true (bl8 s)=(zak b (bts s p)).map (· +p)
theorem qInv_zero:qInv s 0 true:=by
 unfold qInv
 show _=(zak true (bts s 0)).map (· +0)
 rw[show bts s 0=bl8 s from rfl]
 cases zak true (bl8 s)<;>rfl
theorem map_add (o:Option Nat) (a b:Nat):(o.map (· +a)).map (· +b)=o.map (· +(b+a)):=by
 cases o with
 | none=>rfl
 | some x=>show some (x+a+b)=some (x+(b+a));congr 1;omega
theorem zdE {b:Bool} {l:List UInt8} (h:l≠[]):zak b l=if b=true then(zak false (l.drop (decL l).2)).map (· +(decL l).2)
 else if (decL l).1=92 then(zak true (l.drop (decL l).2)).map (· +(decL l).2)
 else if (decL l).1=34 then some 0
 else(zak false (l.drop (decL l).2)).map (· +(decL l).2):=by
 conv=>lhs;unfold zak
 rw[dif_neg h]
theorem qInv_skip (hq:qInv s p true) (h:p<s.size):qInv s (p+decW s p) false:=by
 unfold qInv at*
 rw[hq,zdE (zdL h),if_pos rfl,zcC,←zcd,map_add]
theorem qInv_esc (hq:qInv s p false) (h:p<s.size) (hr:decR s p=92):qInv s (p+decW s p) true:=by
 unfold qInv at*
 rw[zce] at hr
 rw[hq,zdE (zdL h),if_neg (by simp),if_pos hr,zcC,←zcd,map_add]
theorem qInv_next (hq:qInv s p false) (h:p<s.size) (hr:¬decR s p=92) (hr2:¬decR s p=34):qInv s (p+decW s p) false:=by
 unfold qInv at*
 rw[zce] at hr hr2
 rw[hq,zdE (zdL h),if_neg (by simp),if_neg hr,if_neg hr2,zcC,←zcd,map_add]
theorem qInv_found (hq:qInv s p false) (h:p<s.size) (hr:decR s p=34):zak true (bl8 s)=some p:=by
 unfold qInv at*
 rw[zce] at hr
 rw[hq,zdE (zdL h),if_neg (by simp),if_neg (by omega),if_pos hr]
 show some (0+p)=_;rw[Nat.zero_add]
theorem qInv_none {b:Bool} (hq:qInv s p b) (h:s.size≤p):strT (bl8 s)=(zbH,0):=by
 unfold qInv at hq
 have e:zak b []=none:=by unfold zak;rw[dif_pos rfl]
 rw[zea h,e] at hq
 unfold strT;rw[hq];rfl
theorem strT_f (hq:zak true (bl8 s)=some p) (h:p<s.size) (hu:zdA (s.extract 0 (p+1))=false):strT (bl8 s)=(zbH,0):=by
 unfold strT;rw[hq]
 simp only[←zc4 (show p+1≤s.size by omega)]
 unfold zdA at hu
 cases e:unqB (s.extract 0 (p+1)) with
 | none=>rfl
 | some t=>rw[e] at hu;cases hu
theorem strT_t (hq:zak true (bl8 s)=some p) (h:p<s.size) (hu:zdA (s.extract 0 (p+1))=true):strT (bl8 s)=(⟨3,0,unqT (s.extract 0 (p+1))⟩,p+1):=by
 unfold strT;rw[hq]
 simp only[←zc4 (show p+1≤s.size by omega)]
 unfold zdA at hu;unfold unqT
 cases e:unqB (s.extract 0 (p+1)) with
 | none=>rw[e] at hu;cases hu
 | some t=>rfl
theorem hasP_pre (a b:ByteArray):hasP a b=(bl8 b).isPrefixOf (bl8 a):=by
 rw[Bool.eq_iff_iff,List.isPrefixOf_iff_prefix]
 unfold hasP
 rw[Bool.and_eq_true,decide_eq_true_eq,decide_eq_true_eq]
 constructor
 · rintro ⟨h1,h2⟩
   rw[zc4 h1] at h2
   have:=congrArg bl8 h2
   rw[zb0] at this
   exact⟨(bl8 a).drop b.size,by rw[←this,List.take_append_drop]⟩
 · rintro ⟨t,ht⟩
   have hl:=congrArg List.length ht
   rw[List.length_append,zaq,zaq] at hl
   have h1:b.size≤a.size:=by omega
   refine⟨h1,?_⟩
   rw[zc4 h1,←ht,List.take_left' (zaq b),zeC]
theorem signIn_at {xs:List ByteArray} {k:Nat} {x:ByteArray} (hx:xs[k]?=some x) (h:za1 xs (bl8 s)=za1 (xs.drop k) (bl8 s)) (hp:hasP s x=true):za1 xs (bl8 s)=(⟨5,0,x⟩,x.size):=by
 rw[hasP_pre] at hp
 rw[h,zdv hx];unfold za1;rw[if_pos hp]
theorem signIn_next {xs:List ByteArray} {k:Nat} {x:ByteArray} (hx:xs[k]?=some x) (h:za1 xs (bl8 s)=za1 (xs.drop k) (bl8 s)) (hp:hasP s x=false):za1 xs (bl8 s)=za1 (xs.drop (k+1)) (bl8 s):=by
 rw[hasP_pre] at hp
 rw[h,zdv hx];conv=>lhs;unfold za1
 rw[if_neg (by rw[hp];simp)]
theorem signIn_end {xs:List ByteArray} {k:Nat} (h:za1 xs (bl8 s)=za1 (xs.drop k) (bl8 s)) (hk:xs.length≤k):za1 xs (bl8 s)=(zbH,0):=by
 rw[h,List.drop_eq_nil_iff.2 hk];rfl
theorem dec0:(decL (bl8 s)).1=decR s 0:=by rw[zce];rfl
theorem firstT_1 (h:zM ((decR s 0:Nat):Int)=1):zz (bl8 s)=zbN (bl8 s):=by unfold zz;rw[dec0,if_pos h]
theorem firstT_2 (h:¬zM ((decR s 0:Nat):Int)=1) (h2:zM ((decR s 0:Nat):Int)=2):zz (bl8 s)=numT (bl8 s):=by unfold zz;rw[dec0,if_neg h,if_pos h2]
theorem firstT_3 (h:¬zM ((decR s 0:Nat):Int)=1) (h2:¬zM ((decR s 0:Nat):Int)=2) (h3:decR s 0=34):zz (bl8 s)=strT (bl8 s):=by unfold zz;rw[dec0,if_neg h,if_neg h2,if_pos h3]
theorem firstT_4 (h:¬zM ((decR s 0:Nat):Int)=1) (h2:¬zM ((decR s 0:Nat):Int)=2) (h3:¬decR s 0=34):zz (bl8 s)=zb2 (bl8 s):=by unfold zz;rw[dec0,if_neg h,if_neg h2,if_neg h3]
theorem bl8_ne (h:0<s.size):bl8 s≠[]:=fun e=>by
 have:=congrArg List.length e
 rw[zaq] at this
 simp only[List.length_nil] at this;omega
theorem run_digit_pos (h:0<s.size) (h2:zM ((decR s 0:Nat):Int)=2):1≤nD s:=by
 have hk:isD ((decL (bl8 s)).1:Int)=true:=by
  rw[dec0];show inK [2] _=true;unfold inK;simp[h2]
 unfold nD
 rw[zda (bl8_ne h) hk]
 have:=zc6 (bl8 s);omega
theorem signIn_le:∀ (xs:List ByteArray) (l:List UInt8),(za1 xs l).2≤l.length
 | [],l=>Nat.zero_le _
 | x::xs,l=>by
  unfold za1;split
  · rename_i h
    rw[List.isPrefixOf_iff_prefix] at h
    have:=h.length_le
    rw[zaq] at this;exact this
  · exact signIn_le xs l
theorem strT_le {l:List UInt8}:(strT l).2≤l.length:=by
 have key:∀ (n:Nat) (l:List UInt8) (b:Bool) (i:Nat),l.length=n→zak b l=some i→i<l.length:=by
  intro n
  induction n using Nat.strongRecOn with
  | _ n ih=>
   intro l b i hl h
   by_cases hn:l=[]
   · subst hn;unfold zak at h;rw[dif_pos rfl] at h;cases h
   · have h1:=zc6 l
     have h2:=decL_le hn
     have k2:∀ (b':Bool),(zak b' (l.drop (decL l).2)).map (· +(decL l).2)=some i→i<l.length:=by
      intro b' h
      cases e:zak b' (l.drop (decL l).2) with
      | none=>rw[e] at h;cases h
      | some j=>
       rw[e] at h;injection h with h
       have:=ih (l.length-(decL l).2) (by omega) _ b' j List.length_drop e
       rw[List.length_drop] at this
       have h:j+(decL l).2=i:=h
       omega
     rw[zdE hn] at h
     split at h
     · exact k2 _ h
     · split at h
       · exact k2 _ h
       · split at h
         · injection h with h;omega
         · exact k2 _ h
 cases e:zak true l with
 | none=>unfold strT;rw[e];exact Nat.zero_le _
 | some i=>
  have h2:=key _ l true i rfl e
  unfold strT;rw[e]
  show (match unqB (mkB (l.take (i+1))) with | none=>(zbH,0) | some t=>((⟨3,0,t⟩:TokD),i+1)).2≤_
  split
  · exact Nat.zero_le _
  · exact h2
theorem firstT_le' {l:List UInt8}:(zz l).2≤l.length:=by
 unfold zz
 split
 · unfold zbN;split
   · exact zbO _ _
   · exact Nat.zero_le _
 · split
   · unfold numT;split
     · exact Nat.zero_le _
     · split
       · exact zbO _ _
       · split
         · exact Nat.zero_le _
         · exact zbO _ _
   · split
     · exact strT_le
     · exact signIn_le _ _
def WInv (s:ByteArray) (p:Nat) (o:List TokD):Prop:=zaV (bl8 s) 0=(zbz s.size (bts s p) p).map (o++·)
theorem WInv.zero:WInv s (runL isB (bl8 s)) []:=by
 unfold WInv
 rw[wordsL_eq (n:=s.size) (by rw[zaq];exact Nat.le_refl _),Nat.zero_add]
 show zbz s.size (bts s (runL isB (bl8 s))) _=_
 cases zbz s.size (bts s (runL isB (bl8 s))) (runL isB (bl8 s))<;>rfl
theorem WInv.next {o:List TokD} (h:WInv s p o) (hp:p<s.size) (h0:¬(zz (bl8 (s.extract p s.size))).2=0):
 WInv s (p+(zz (bl8 (s.extract p s.size))).2+runL isB (bl8 (s.extract (p+(zz (bl8 (s.extract p s.size))).2) s.size))) (o++[(zz (bl8 (s.extract p s.size))).1.put p]):=by
 have e1:bl8 (s.extract p s.size)=bts s p:=zbm
 have e2:∀ q,bl8 (s.extract q s.size)=bts s q:=fun q=>zbm
 unfold WInv at*
 simp only[e2]
 rw[e1] at h0
 rw[h,zcu (zdL hp) h0 (by rw[zeb];omega),zcC,wordsL_eq (n:=s.size) (by rw[zeb];omega),zcC]
 cases zbz s.size (bts s (p+(zz (bts s p)).2+runL isB (bts s (p+(zz (bts s p)).2)))) (p+(zz (bts s p)).2+runL isB (bts s (p+(zz (bts s p)).2)))<;>simp
theorem WInv.done {o:List TokD} (h:WInv s p o) (hp:s.size≤p):zaV (bl8 s) 0=some o:=by
 unfold WInv at h
 rw[h,zea hp,zbn];simp
theorem WInv.bad {o:List TokD} (h:WInv s p o) (hp:p<s.size) (h0:(zz (bl8 (s.extract p s.size))).2=0):zaV (bl8 s) 0=none:=by
 unfold WInv at h
 rw[show bl8 (s.extract p s.size)=bts s p from zbm] at h0
 rw[h,zcn (zdL hp) h0];rfl
theorem lex_long (h:600<s.size):[]=lexL s∧1=lexE s:=by unfold lexL lexE;rw[if_pos h,if_pos h];exact⟨rfl,rfl⟩
theorem lex_bad (h:¬600<s.size) (h2:zaV (bl8 s) 0=none):[]=lexL s∧2=lexE s:=by unfold lexL lexE;rw[if_neg h,if_neg h,h2];exact⟨rfl,rfl⟩
theorem lex_ok {o:List TokD} (h:¬600<s.size) (h2:zaV (bl8 s) 0=some o):o=lexL s∧0=lexE s:=by unfold lexL lexE;rw[if_neg h,if_neg h,h2];exact⟨rfl,rfl⟩
theorem first_run_le (h:p≤s.size):p+(zz (bl8 (s.extract p s.size))).2≤s.size∧(zz (bl8 (s.extract p s.size))).2≤s.size:=by
 have h1:=firstT_le' (l:=bl8 (s.extract p s.size))
 rw[zaq,ByteArray.size_extract] at h1
 omega
end Lp
set_option linter.unusedVariables false
namespace Lp
open Go
theorem firstT_zero_cases {n:Nat}:∀ (l:List UInt8) (a:Nat) (ts:List TokD),l.length=n→zaV l a=some ts→ts.length≤l.length∧∀ x∈ts,(a:Int)≤x.a∧x.a≤((a+l.length:Nat):Int):=by
 induction n using Nat.strongRecOn with
 | _ n ih=>
  intro l a ts hn h
  have hrl:=zbO isB l
  generalize hm:l.drop (runL isB l)=m at*
  have hml:m.length=l.length-runL isB l:=by rw[←hm,List.length_drop]
  unfold zaV at h
  rw[hm] at h
  by_cases hne:m=[]
  · subst hne;rw[zbn] at h;injection h with h;subst h
    exact⟨Nat.zero_le _,fun x hx=>absurd hx (by simp)⟩
  · by_cases h0:(zz m).2=0
    · rw[zcn hne h0] at h;cases h
    · have hpos:=List.length_pos_iff.2 hne
      have hfl:=firstT_le (l:=m)
      rw[zcu hne h0 (by omega)] at h
      cases e:zaV (m.drop (zz m).2) (a+runL isB l+(zz m).2) with
      | none=>rw[e] at h;cases h
      | some t2=>
       rw[e] at h
       have h:(zz m).1.put (a+runL isB l)::t2=ts:=by injection h
       have:=ih (m.drop (zz m).2).length (by rw[List.length_drop];omega) _ _ t2 rfl e
       rw[List.length_drop] at this
       subst h
       refine⟨by simp only[List.length_cons];omega,fun x hx=>?_⟩
       rcases List.mem_cons.1 hx with rfl | hx
       · show (a:Int)≤((a+runL isB l:Nat):Int)∧((a+runL isB l:Nat):Int)≤_
         omega
       · have:=this.2 x hx;omega
theorem zeD {s:ByteArray} (h:lexE s=0):¬600<s.size∧zaV (bl8 s) 0=some (lexL s):=by
 unfold lexE at h
 by_cases hs:600<s.size
 · rw[if_pos hs] at h;omega
 · rw[if_neg hs] at h
   refine⟨hs,?_⟩
   cases e:zaV (bl8 s) 0 with
   | none=>rw[e] at h;simp at h
   | some ts=>unfold lexL;rw[if_neg hs,e];rfl
theorem lex_none {s:ByteArray} (h:¬lexE s=0):lexL s=[]:=by
 unfold lexE at h;unfold lexL
 by_cases hs:600<s.size
 · rw[if_pos hs]
 · rw[if_neg hs] at h ⊢
   cases e:zaV (bl8 s) 0 with
   | none=>rfl
   | some ts=>rw[e] at h;simp at h
theorem lexL_len (s:ByteArray):(lexL s).length≤s.size:=by
 by_cases h:lexE s=0
 · have:=(firstT_zero_cases (bl8 s) 0 _ rfl (zeD h).2).1
   rw[zaq] at this;exact this
 · rw[lex_none h];exact Nat.zero_le _
theorem lex_of {s:ByteArray} {ts:List TokD} (h:s.size≤600) (hw:zaV (bl8 s) 0=some ts):lexL s=ts∧lexE s=0:=by
 have h':¬600<s.size:=by omega
 unfold lexL lexE;rw[if_neg h',if_neg h',hw];exact⟨rfl,rfl⟩
theorem bl8_add (a b:ByteArray):bl8 (a++b)=bl8 a++bl8 b:=by simp[bl8]
end Lp
set_option linter.unusedVariables false
namespace Lp
open Go
theorem firstT_w {l:List UInt8} (h:zM ((decL l).1:Int)=1):zz l=zbN l:=by unfold zz;rw[if_pos h]
theorem firstT_n {l:List UInt8} (h:zM ((decL l).1:Int)=2):zz l=numT l:=by unfold zz;rw[if_neg (by omega),if_pos h]
theorem firstT_q {l:List UInt8} (h:¬zM ((decL l).1:Int)=1) (h2:¬zM ((decL l).1:Int)=2) (h3:(decL l).1=34):zz l=strT l:=by unfold zz;rw[if_neg h,if_neg h2,if_pos h3]
theorem firstT_s {l:List UInt8} (h:¬zM ((decL l).1:Int)=1) (h2:¬zM ((decL l).1:Int)=2) (h3:¬(decL l).1=34):zz l=zb2 l:=by unfold zz;rw[if_neg h,if_neg h2,if_neg h3]
end Lp
set_option linter.unusedVariables false
namespace Lp
open Go
theorem digL_step (n:Nat):digL n=(if n / 10=0 then [] else digL (n / 10))++[UInt8.ofNat (48+n % 10)]:=by
 conv=>lhs;unfold digL
 by_cases h:n<10
 · rw[dif_pos h,if_pos (by omega),Nat.mod_eq_of_lt h];rfl
 · rw[dif_neg h,if_neg (by omega)]
def digF (a:Nat) (l:List UInt8):Nat:=l.foldl (fun n b=>10*n+(b.toNat-48)) a
theorem digV_eq (l:List UInt8):digV l=digF 0 l:=rfl
theorem digF_app (a:Nat) (l r:List UInt8):digF a (l++r)=digF (digF a l) r:=by unfold digF;rw[List.foldl_append]
theorem digF_dig:∀ n:Nat,digF 0 (digL n)=n:=by
 intro n
 induction n using Nat.strongRecOn with
 | _ n ih=>
  have hb:∀ k,k<10→(UInt8.ofNat (48+k)).toNat=48+k:=fun k hk=>by simp;omega
  unfold digL
  by_cases h:n<10
  · rw[dif_pos h]
    show 10*0+((UInt8.ofNat (48+n)).toNat-48)=n
    rw[hb n h];omega
  · rw[dif_neg h,digF_app,ih (n / 10) (by omega)]
    show 10*(n / 10)+((UInt8.ofNat (48+n % 10)).toNat-48)=n
    rw[hb _ (by omega)];omega
theorem digF_zeros:∀ k:Nat,digF 0 (List.replicate k 48)=0
 | 0=>rfl
 | k+1=>by rw[List.replicate_succ];exact digF_zeros k
def DigsL (l:List UInt8):Prop:=∀ b∈l,48≤b.toNat∧b.toNat≤57
theorem digs_dig:∀ n:Nat,DigsL (digL n):=by
 intro n
 induction n using Nat.strongRecOn with
 | _ n ih=>
  have hb:∀ k,k<10→(UInt8.ofNat (48+k)).toNat=48+k:=fun k hk=>by simp;omega
  intro b hb'
  unfold digL at hb'
  by_cases h:n<10
  · rw[dif_pos h] at hb'
    rw[List.mem_singleton.1 hb',hb n h];omega
  · rw[dif_neg h] at hb'
    rcases List.mem_append.1 hb' with h2 | h2
    · exact ih (n / 10) (by omega) b h2
    · rw[List.mem_singleton.1 h2,hb _ (by omega)];omega
theorem digL_pos (n:Nat):1≤(digL n).length:=by rw[digL_step,List.length_append];simp
def numD (k v:Nat):List UInt8:=List.replicate k 48++digL v
theorem zcO (k v:Nat):DigsL (numD k v):=fun b hb=>by
 rcases List.mem_append.1 hb with h | h
 · rw[List.eq_of_mem_replicate h];decide
 · exact digs_dig v b h
theorem numD_val (k v:Nat):digF 0 (numD k v)=v:=by unfold numD;rw[digF_app,digF_zeros,digF_dig]
theorem numD_ne (k v:Nat):numD k v≠[]:=fun e=>by
 have:=congrArg List.length e
 unfold numD at this
 rw[List.length_append] at this
 have h2:=digL_pos v
 simp only[List.length_nil] at this;omega
theorem dig_kind {b:UInt8} (hb:48≤b.toNat∧b.toNat≤57) (t:List UInt8):zM ((decL (b::t)).1:Int)=2∧(decL (b::t)).2=1:=by
 rw[zaT (by omega)]
 refine⟨?_,rfl⟩
 show zM ((b.toNat:Nat):Int)=2
 unfold zM;(repeat (any_goals split))<;>omega
theorem zdB {f:Int→Bool} (hf:∀ r:Int,zM r=2→f r=true):∀ (l:List UInt8) (x:List UInt8),DigsL l→runL f (l++x)=l.length+runL f x
 | [],x,_=>by simp
 | b::t,x,h=>by
  obtain ⟨h1,h2⟩:=dig_kind (h b List.mem_cons_self) (t++x)
  rw[List.cons_append,zda (by simp) (hf _ h1),h2]
  show 1+runL f (t++x)=_
  rw[zdB hf t x (fun c hc=>h c (List.mem_cons_of_mem _ hc)),List.length_cons];omega
theorem isD_2:∀ r:Int,zM r=2→isD r=true:=fun r h=>by show inK [2] r=true;unfold inK;simp[h]
theorem isLD_2:∀ r:Int,zM r=2→isLD r=true:=fun r h=>by show inK [1,2] r=true;unfold inK;simp[h]
theorem isB_2 {r:Int} (h:zM r=2):isB r=false:=by show inK [3] r=false;unfold inK;simp[h]
theorem num_first {l:List UInt8} (h:DigsL l) (hne:l≠[]) (u:List UInt8):zz (l++u)=numT (l++u)∧runL isB (l++u)=0:=by
 cases l with
 | nil=>exact absurd rfl hne
 | cons b t=>
  obtain ⟨h1,_⟩:=dig_kind (h b List.mem_cons_self) (t++u)
  exact⟨firstT_n h1,zdY (isB_2 h1)⟩
theorem digL_lt:∀ (k n:Nat),n<10 ^ (k+1)→(digL n).length≤k+1
 | 0,n,h=>by
  have h:n<10:=by simpa using h
  rw[digL_step,if_pos (by omega)];simp
 | k+1,n,h=>by
  rw[digL_step]
  split
  · simp
  · have:=digL_lt k (n / 10) (by rw[Nat.pow_succ] at h;omega)
    rw[List.length_append,List.length_singleton];omega
theorem digB_20 {n:Nat} (h:n≤9223372036854775807):(digB n).size≤20:=by
 unfold digB;rw[zai]
 exact digL_lt 19 n (Nat.lt_of_le_of_lt h (by decide))
end Lp
