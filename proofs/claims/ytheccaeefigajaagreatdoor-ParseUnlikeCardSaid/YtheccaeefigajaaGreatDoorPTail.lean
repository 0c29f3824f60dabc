import Derived.Test.YtheccaeefigajaaGreatDoorV106
set_option linter.unusedVariables false
namespace Lp
open Go
def asc (l:List UInt8):Bool:=l.all (fun b=>decide (b.toNat<128))
theorem asc_cons {b:UInt8} {l:List UInt8} (h:asc (b::l)=true):b.toNat<128∧asc l=true:=by
 unfold asc at h ⊢;simp only[List.all_cons,Bool.and_eq_true,decide_eq_true_eq] at h;exact h
theorem asc_drop {l:List UInt8} (h:asc l=true) (n:Nat):asc (l.drop n)=true:=by
 unfold asc at h ⊢;rw[List.all_eq_true] at h ⊢;exact fun b hb=>h b (List.mem_of_mem_drop hb)
theorem asc_take {l:List UInt8} (h:asc l=true) (n:Nat):asc (l.take n)=true:=by
 unfold asc at h ⊢;rw[List.all_eq_true] at h ⊢;exact fun b hb=>h b (List.mem_of_mem_take hb)
def runA (f:Int→Bool):List UInt8→Nat
 | []=>0
 | b::r=>if f (b.toNat:Int)=true then 1+runA f r else 0
theorem zeN (f:Int→Bool):∀ (l:List UInt8),asc l=true→runL f l=runA f l
 | [],_=>zcZ
 | b::r,h=>by
  obtain ⟨h1,h2⟩:=asc_cons h
  unfold runA
  have hd:=zaN (t:=r) h1
  by_cases hf:f (b.toNat:Int)=true
  · rw[if_pos hf,zcN (by simp) (by rw[hd];exact hf),hd]
    show 1+runL f r=_
    rw[zeN f r h2]
  · rw[if_neg hf,zdo (by rw[hd];simpa using hf)]
theorem runes_asc {l:List UInt8} (h:asc l=true):zaE (mkB l)=l.map (fun b=>(b.toNat:Int)):=by
 have key:∀ (n p:Nat),(mkB l).size-p=n→zbq (mkB l) p=(l.drop p).map (fun b=>(b.toNat:Int)):=by
  intro n
  induction n using Nat.strongRecOn with
  | _ n ih=>
   intro p hn
   rw[zax] at hn
   rcases Nat.lt_or_ge p l.length with hp | hp
   · have hb:bts (mkB l) p=l.drop p:=by unfold bts;rw[←zcn l];rfl
     obtain ⟨b,hx⟩:∃ b,l[p]?=some b:=⟨l[p],List.getElem?_eq_getElem hp⟩
     have hdr:l.drop p=b::l.drop (p+1):=by
      rw[List.drop_eq_getElem_cons hp];congr 1
      rw[List.getElem?_eq_getElem hp] at hx;injection hx
     have hb1:b.toNat<128:=(asc_cons (by rw[←hdr];exact asc_drop h p)).1
     have hd:decL (bts (mkB l) p)=(b.toNat,1):=by rw[hb,hdr];exact zaN hb1
     rw[zbl (by rw[zax];exact hp),zcD,zcC,hd,hdr]
     rw[ih (l.length-(p+1)) (by omega) (p+1) (by rw[zax])]
     rfl
   · rw[zbz (by rw[zax];exact hp),List.drop_eq_nil_of_le hp];rfl
 rw[show zaE (mkB l)=zbq (mkB l) 0 from rfl,key _ 0 rfl,List.drop_zero]
def digK:Nat→Nat→List UInt8
 | 0,_=>[]
 | f+1,n=>if n<10 then [UInt8.ofNat (48+n)] else digK f (n / 10)++[UInt8.ofNat (48+n % 10)]
theorem digK_eq:∀ (f n:Nat),0<f→n<10 ^ f→digK f n=digL n
 | 0,n,h,_=>absurd h (by omega)
 | f+1,n,_,h=>by
  unfold digK digL
  by_cases hn:n<10
  · rw[if_pos hn,dif_pos hn]
  · rw[if_neg hn,dif_neg hn]
    rw[Nat.pow_succ] at h
    cases f with
    | zero=>simp at h;omega
    | succ f=>rw[digK_eq (f+1) (n / 10) (by omega) (by omega)]
theorem digK_B {n:Nat} (h:n≤1000000000000):mkB (digK 20 n)=digB n:=by
 unfold digB;rw[digK_eq 20 n (by decide) (Nat.lt_of_le_of_lt h (by decide))]
def zbA (b:UInt8):Bool:=decide (b.toNat<128)&&decide (b.toNat≠34)&&decide (b.toNat≠92)&&decide (b.toNat≠10)
theorem enc_asc {c:Nat} (h:c<128):encR c=[UInt8.ofNat c]:=by unfold encR;rw[if_pos (by omega),Nat.mod_eq_of_lt (by omega)]
theorem quote_plain {l:List UInt8} (h:∀ b∈l,zbA b=true):zbe (mkB l)=34::(l++[34]):=by
 have key:∀ (n p:Nat),(mkB l).size-p=n→zaA (mkB l) p=l.drop p:=by
  intro n
  induction n using Nat.strongRecOn with
  | _ n ih=>
   intro p hn
   rw[zax] at hn
   rcases Nat.lt_or_ge p l.length with hp | hp
   · have hb:bts (mkB l) p=l.drop p:=by unfold bts;rw[←zcn l];rfl
     have hdr:l.drop p=l[p]::l.drop (p+1):=List.drop_eq_getElem_cons hp
     have hq:=h l[p] (List.getElem_mem hp)
     unfold zbA at hq;simp only[Bool.and_eq_true,decide_eq_true_eq] at hq
     obtain ⟨⟨⟨h1,h2⟩,h3⟩,h4⟩:=hq
     have hd:decL (bts (mkB l) p)=(l[p].toNat,1):=by rw[hb,hdr];exact zaN h1
     have hr:decR (mkB l) p=l[p].toNat:=by rw[zcD,hd]
     have hw:decW (mkB l) p=1:=by rw[zcC,hd]
     rw[zbm (by rw[zax];exact hp),piece_4 (by rw[hr];omega) (by rw[hr];exact h4) (by rw[hr];omega),hr,hw,enc_asc h1,ih (l.length-(p+1)) (by omega) (p+1) (by rw[zax]),hdr]
     simp
   · rw[zbL (by rw[zax];exact hp),List.drop_eq_nil_of_le hp]
 unfold zbe;rw[key _ 0 rfl,List.drop_zero]
def firstA (l:List UInt8):Option (TokD×Nat):=
 match l with
 | []=>none
 | c::r=>
  if zN (c.toNat:Int)=1 then
   if zdr 0 ((l.take (runA isLD l)).map (fun b=>(b.toNat:Int)))=true∧0<runA isLD l then some (⟨1,0,mkB (l.take (runA isLD l))⟩,runA isLD l) else none
  else if zN (c.toNat:Int)=2 then
   if 13<runA isD l∨1000000000000<digV (l.take (runA isD l))∨runA isD l=0 then none
   else if runA isLD l=runA isD l then some (⟨2,0,mkB (digK 20 (digV (l.take (runA isD l))))⟩,runA isD l)
   else if secB (mkB ((l.take (runA isLD l)).drop (runA isD l)))=0∨1000000000 / secB (mkB ((l.take (runA isLD l)).drop (runA isD l)))<digV (l.take (runA isD l))∨1000000000000<digV (l.take (runA isD l))*secB (mkB ((l.take (runA isLD l)).drop (runA isD l)))∨runA isLD l=0 then none
   else some (⟨4,0,mkB (digK 20 (digV (l.take (runA isD l))*secB (mkB ((l.take (runA isLD l)).drop (runA isD l)))))⟩,runA isLD l)
  else if c.toNat=34 then
   if (r.drop (r.takeWhile zbA).length).head?=some 34 then some (⟨3,0,mkB (r.takeWhile zbA)⟩,(r.takeWhile zbA).length+2) else none
  else if (zb0 l).2=0 then none else some (zb0 l)
theorem firstA_ok {l:List UInt8} (ha:asc l=true) {t:TokD} {n:Nat} (h:firstA l=some (t,n)):zu l=(t,n)∧n≠0:=by
 cases l with
 | nil=>cases h
 | cons c r=>
  have hc:=(asc_cons ha).1
  have hd:=zaN (t:=r) hc
  unfold firstA at h
  simp only at h
  unfold zu;rw[hd]
  by_cases h1:zN (c.toNat:Int)=1
  · rw[if_pos h1] at h ⊢
    split at h
    · rename_i h2
      injection h with h;injection h with e1 e2
      subst e1;subst e2
      refine⟨?_,by omega⟩
      unfold zb5
      rw[zeN _ _ ha]
      have hn:zcK (mkB ((c::r).take (runA isLD (c::r))))=true:=by unfold zcK;rw[runes_asc (asc_take ha _)];exact h2.1
      rw[if_pos hn]
    · cases h
  · rw[if_neg h1] at h ⊢
    by_cases h2:zN (c.toNat:Int)=2
    · rw[if_pos h2] at h ⊢
      unfold numT
      rw[zeN _ _ ha,zeN _ _ ha]
      split at h
      · cases h
      · rename_i h3
        rw[if_neg (by omega)]
        split at h
        · rename_i h4
          injection h with h;injection h with e1 e2
          subst e1;subst e2
          rw[if_pos h4,digK_B (by omega)];exact⟨rfl,by omega⟩
        · rename_i h4
          split at h
          · cases h
          · rename_i h5
            injection h with h;injection h with e1 e2
            subst e1;subst e2
            rw[if_neg h4,if_neg (by omega),digK_B (by omega)];exact⟨rfl,by omega⟩
    · rw[if_neg h2] at h ⊢
      by_cases h3:c.toNat=34
      · rw[if_pos h3] at h
        split at h
        · rename_i h4
          injection h with h;injection h with e1 e2
          subst e1;subst e2
          refine⟨?_,by omega⟩
          have hr:r=r.takeWhile zbA++34::r.drop ((r.takeWhile zbA).length+1):=by
           have e1:r=r.take (r.takeWhile zbA).length++r.drop (r.takeWhile zbA).length:=(List.take_append_drop _ _).symm
           have e2:r.take (r.takeWhile zbA).length=r.takeWhile zbA:=by
            have:=List.takeWhile_prefix (l:=r) zbA
            exact(List.prefix_iff_eq_take.1 this).symm
           have e3:r.drop (r.takeWhile zbA).length=34::r.drop ((r.takeWhile zbA).length+1):=by
            cases hh:r.drop (r.takeWhile zbA).length with
            | nil=>rw[hh] at h4;cases h4
            | cons y z=>
             rw[hh] at h4
             have:y=34:=by simpa using h4
             subst this
             congr 1
             have:=congrArg List.tail hh
             rw[List.tail_drop] at this
             exact this.symm
           rw[←e3,←e2];rw[e2];exact e1.trans (by rw[e2])
          have hq:=quote_plain (l:=r.takeWhile zbA) (fun b hb=>by
           have:=List.all_takeWhile (p:=zbA) (l:=r)
           exact List.all_eq_true.1 this b hb)
          have hc34:c=34:=UInt8.toNat_inj.1 h3
          have hl:c::r=zbe (mkB (r.takeWhile zbA))++r.drop ((r.takeWhile zbA).length+1):=by
           rw[hq,hc34];simp only[List.cons_append,List.append_assoc,List.nil_append];congr 1
          have hs:=strT_quote (mkB (r.takeWhile zbA)) (r.drop ((r.takeWhile zbA).length+1))
          rw[←hl] at hs
          unfold zu at hs
          rw[hd,if_neg h1,if_neg h2] at hs
          rw[hs,hq]
          simp
        · cases h
      · rw[if_neg h3] at h
        have h3':¬(c.toNat,1).1=34:=h3
        rw[if_neg h3']
        split at h
        · cases h
        · rename_i h4;injection h with h;rw[h] at h4 ⊢;exact⟨rfl,h4⟩
def lexA:Nat→List UInt8→Nat→Option (List TokD)
 | 0,_,_=>none
 | f+1,l,a=>
  if l.drop (runA isB l)=[] then some []
  else match firstA (l.drop (runA isB l)) with
   | none=>none
   | some (t,n)=>(lexA f ((l.drop (runA isB l)).drop n) (a+runA isB l+n)).map (t.put (a+runA isB l)::·)
theorem lexA_ok:∀ (f:Nat) (l:List UInt8) (a:Nat) (ts:List TokD),asc l=true→lexA f l a=some ts→zZ l a=some ts
 | 0,l,a,ts,_,h=>by cases h
 | f+1,l,a,ts,ha,h=>by
  unfold lexA at h
  have hb:=zeN isB l ha
  unfold zZ;rw[hb]
  split at h
  · rename_i h0;injection h with h;subst h;rw[h0];exact za9
  · rename_i h0
    cases e:firstA (l.drop (runA isB l)) with
    | none=>rw[e] at h;cases h
    | some p=>
     obtain ⟨t,n⟩:=p
     rw[e] at h
     simp only at h
     obtain ⟨e1,e2⟩:=firstA_ok (asc_drop ha _) e
     cases e3:lexA f ((l.drop (runA isB l)).drop n) (a+runA isB l+n) with
     | none=>rw[e3] at h;cases h
     | some t2=>
      rw[e3] at h
      have h:t.put (a+runA isB l)::t2=ts:=by injection h
      have ih:=lexA_ok f _ _ _ (asc_drop (asc_drop ha _) n) e3
      have hlen:(l.drop (runA isB l)).length≤l.length:=by rw[List.length_drop];omega
      rw[zbd h0 (by rw[e1];exact e2) hlen,e1]
      simp only
      rw[ih]
      show some _=some _
      rw[←h]
theorem zbP {s:ByteArray} {ts:List TokD} (h:lexA (s.size+1) (bl8 s) 0=some ts) (ha:asc (bl8 s)=true) (hs:s.size≤600):lexL s=ts∧lexE s=0:=lex_of hs (lexA_ok _ _ _ _ ha h)
end Lp
set_option linter.unusedVariables false
namespace Lp
open Go
abbrev a8S1:ByteArray:=(⟨#[49,43,50,42,45,51]⟩:ByteArray)
abbrev a8S2:ByteArray:=(⟨#[115,117,109,32,98,121,32,40,104,111,115,116,41,32,40,99,112,117,123,97,61,34,98,34,125,41,32,111,114,100,101,114,32,100,101,115,99,32,108,105,109,105,116,32,51]⟩:ByteArray)
abbrev a8T1:List TokD:=[⟨2,0,(⟨#[49]⟩:ByteArray)⟩,⟨5,1,(⟨#[43]⟩:ByteArray)⟩,⟨2,2,(⟨#[50]⟩:ByteArray)⟩,⟨5,3,(⟨#[42]⟩:ByteArray)⟩,⟨5,4,(⟨#[45]⟩:ByteArray)⟩,⟨2,5,(⟨#[51]⟩:ByteArray)⟩]
abbrev a8T2:List TokD:=[⟨1,0,(⟨#[115,117,109]⟩:ByteArray)⟩,⟨1,4,(⟨#[98,121]⟩:ByteArray)⟩,⟨5,7,(⟨#[40]⟩:ByteArray)⟩,⟨1,8,(⟨#[104,111,115,116]⟩:ByteArray)⟩,⟨5,12,(⟨#[41]⟩:ByteArray)⟩,⟨5,14,(⟨#[40]⟩:ByteArray)⟩,⟨1,15,(⟨#[99,112,117]⟩:ByteArray)⟩,⟨5,18,(⟨#[123]⟩:ByteArray)⟩,⟨1,19,(⟨#[97]⟩:ByteArray)⟩,⟨5,20,(⟨#[61]⟩:ByteArray)⟩,⟨3,21,(⟨#[98]⟩:ByteArray)⟩,⟨5,24,(⟨#[125]⟩:ByteArray)⟩,⟨5,25,(⟨#[41]⟩:ByteArray)⟩,⟨1,27,(⟨#[111,114,100,101,114]⟩:ByteArray)⟩,⟨1,33,(⟨#[100,101,115,99]⟩:ByteArray)⟩,⟨1,38,(⟨#[108,105,109,105,116]⟩:ByteArray)⟩,⟨2,44,(⟨#[51]⟩:ByteArray)⟩]
abbrev a8P:ByteArray:=(⟨#[49,32,43,32,40,50,32,42,32,40,45,51,41,41]⟩:ByteArray)
theorem al8_1:lexL a8S1=a8T1∧lexE a8S1=0:=zbP (by kernel_rfl) (by decide) (by decide)
theorem al8_2:lexL a8S2=a8T2∧lexE a8S2=0:=zbP (by kernel_rfl) (by decide) (by decide)
def a8n (n:Nat):Nd:=.mk tNum ByteArray.empty (n:Int) 0 [] [] []
def a8K1:List Nd:=[a8n 1,.mk tBin zdD 0 0 [] [] [a8n 2,.mk tNeg ByteArray.empty 0 0 [] [] [a8n 3]]]
def a8K2:List Nd:=[.mk nSel (⟨#[99,112,117]⟩:ByteArray) 0 0 [] [⟨(⟨#[97]⟩:ByteArray),1,(⟨#[98]⟩:ByteArray)⟩] []]
theorem rd_is {s:ByteArray} {l:List TokD} {q:QryD} (h:lexL s=l∧lexE s=0) (hp:zcf rmD l=some q):zba s=0∧z8 s=q:=by
 unfold zba z8;rw[if_pos h.2,if_pos h.2,h.1,hp];exact⟨rfl,rfl⟩
theorem al8_r1:zba a8S1=0∧z8 a8S1=⟨.mk tBin zfd 0 0 [] [] a8K1,0,-1,-1⟩:=rd_is al8_1 (by kernel_rfl)
theorem al8_r2:zba a8S2=0∧z8 a8S2=⟨.mk tAgg (⟨#[115,117,109]⟩:ByteArray) 0 1 [(⟨#[104,111,115,116]⟩:ByteArray)] [] a8K2,2,3,-1⟩:=rd_is al8_2 (by kernel_rfl)
end Lp
set_option linter.unusedVariables false
namespace Lp
open Go
abbrev d1:ByteArray:=⟨#[49]⟩
end Lp
set_option linter.unusedVariables false
namespace Lp
open Go
theorem cnt_mem {l:List Nd} {x:Nd} (h:x∈l):x.cnt≤Nd.cntL l:=by
 induction l with
 | nil=>cases h
 | cons y l ih=>
  simp only[Nd.cntL]
  rcases List.mem_cons.1 h with e | e
  · rw[e];omega
  · have:=ih e;omega
theorem Nd.ind {p:Nd→Prop} (h:∀ op text n mode names ms kids,(∀ x∈kids,p x)→p (.mk op text n mode names ms kids)):∀ q,p q:=by
 have key:∀ (n:Nat) (q:Nd),q.cnt=n→p q:=by
  intro n
  induction n using Nat.strongRecOn with
  | _ n ih=>
   intro q hq
   obtain ⟨op,text,n',mode,names,ms,kids⟩:=q
   refine h op text n' mode names ms kids (fun x hx=>ih x.cnt ?_ x rfl)
   have:=cnt_mem hx
   simp only[Nd.cnt] at hq;omega
 exact fun q=>key q.cnt q rfl
inductive Ask where
 | leaf (k:Int)
 | whole (a b:Int)
 | plain
 | pair (m:Int)
 | none
end Lp
set_option linter.unusedVariables false
namespace Lp
open Go
deriving instance DecidableEq for MatD
noncomputable def Nd.eqB (a b:Nd):Bool:=@decide (a=b) (Classical.propDecidable _)
theorem eqB_t {a b:Nd} (h:a=b):true=a.eqB b:=(@decide_eq_true _ (Classical.propDecidable _) h).symm
theorem zfD {a b:Nd} (h:a≠b):false=a.eqB b:=(@decide_eq_false _ (Classical.propDecidable _) h).symm
theorem eqB_is {a b:Nd}:a.eqB b=true↔a=b:=⟨fun h=>@of_decide_eq_true _ (Classical.propDecidable _) h,fun h=>(eqB_t h).symm⟩
theorem eqB_no {a b:Nd}:a.eqB b=false↔a≠b:=⟨fun h=>@of_decide_eq_false _ (Classical.propDecidable _) h,fun h=>(zfD h).symm⟩
noncomputable def zd3 (a b:QryD):Bool:=decide (a.order=b.order)&&decide (a.limit=b.limit)&&decide (a.offset=b.offset)&&a.root.eqB b.root
theorem sameQ_is {a b:QryD}:zd3 a b=true↔a=b:=by
 obtain ⟨a1,a2,a3,a4⟩:=a
 obtain ⟨b1,b2,b3,b4⟩:=b
 unfold zd3
 simp only[Bool.and_eq_true,decide_eq_true_eq,eqB_is,QryD.mk.injEq]
 constructor
 · rintro ⟨⟨⟨h1,h2⟩,h3⟩,h4⟩;exact⟨h4,h1,h2,h3⟩
 · rintro ⟨h4,h1,h2,h3⟩;exact⟨⟨⟨h1,h2⟩,h3⟩,h4⟩
theorem zfu {α:Type} {a b:List α} {k:Nat} {x y:α} (hx:a[k]?=some x) (hy:b[k]?=some y) (h:x≠y):a≠b:=by
 rintro rfl;rw[hx] at hy;injection hy with e;exact h e
theorem zfv {α:Type} {a b:List α} {k:Nat} {x y:α} (hx:a[k]?=some x) (hy:b[k]?=some y) (hf:a.take k=b.take k) (h:x=y):a.take (k+1)=b.take (k+1):=by
 rw[zcL hx,zcL hy,hf,h]
theorem zc7 {α:Type} {a b:List α} {k:Nat} (h1:a.length≤k) (h2:b.length≤k) (hf:a.take k=b.take k):a=b:=by
 rwa [List.take_of_length_le h1,List.take_of_length_le h2] at hf
theorem mk_eq {a1 a2 b1 b2:ByteArray} {a3 a4 b3 b4:Int} {a5 b5:List ByteArray} {a6 b6:List MatD} {a7 b7:List Nd} (h1:a1=b1) (h2:a2=b2) (h3:a3=b3) (h4:a4=b4) (h5:a5=b5) (h6:a6=b6) (h7:a7=b7):Nd.mk a1 a2 a3 a4 a5 a6 a7=Nd.mk b1 b2 b3 b4 b5 b6 b7:=by
 subst h1;subst h2;subst h3;subst h4;subst h5;subst h6;subst h7;rfl
end Lp
set_option linter.unusedVariables false
namespace Lp
open Go
section
variable {s:Rd} {k:Int} {ts:List ByteArray} {x:ByteArray}
theorem zea:(s.take k ts).2.2.b=s.b:=by unfold Rd.take;split<;>rfl
theorem zaM (h:s.b=true):(s.must x).b=true:=by unfold Rd.must;simp only[zea,h,Bool.true_or]
theorem zeo (h:s.b=true):(s.any k).2.b=true:=by unfold Rd.any;rw[if_pos (.inl h)]
theorem zbD (h:s.b=true):s.node.b=true:=by unfold Rd.node;simp only[h,Bool.true_or]
theorem zdJ (h:s.b=true):s.take k ts=(ByteArray.empty,false,s):=zer (.inl h)
theorem namesF_b {F:Nat} {o:List ByteArray} (h:s.b=true):(zaZ F o s).2.b=true:=by
 cases F with
 | zero=>exact h
 | succ F=>unfold zaZ;rw[if_pos h];exact h
theorem mode_b {y:ByteArray} (h:s.b=true):(s.mode x y).2.2.b=true:=by
 unfold Rd.mode;rw[zdJ h];simpa using h
theorem zcx {part:Rd→Nd×Rd} {F:Nat} {o:Nd} (h:s.b=true):(zaP part ts F o s).2.b=true:=by
 cases F with
 | zero=>exact h
 | succ F=>unfold zaP;rw[zdJ h];simpa using h
theorem bracesF_b {F:Nat} {o:List MatD} (h:s.b=true):(zaa F o s).2.b=true:=by
 cases F with
 | zero=>exact h
 | succ F=>unfold zaa;rw[if_pos h];exact h
end
def Bad (p:Rd→Nd×Rd):Prop:=∀ s,s.b=true→(p s).2.b=true
theorem Bad.no {p:Rd→Nd×Rd} (h:Bad p) {s:Rd} (e:(p s).2.b=false):s.b=false:=by
 cases hs:s.b with
 | false=>rfl
 | true=>rw[h s hs] at e;cases e
theorem zR {a b:Bool} (h:a=true→b=true) (e:b=false):a=false:=by
 cases a with
 | false=>rfl
 | true=>rw[h rfl] at e;cases e
theorem level_b {part:Rd→Nd×Rd} (h:Bad part) (ts:List ByteArray):Bad (fun s=>s.level part ts):=fun s hs=>zcx (h s hs)
section
variable (rm:List MatD→Bool)
theorem zfl (ex:Rd→Nd×Rd):Bad (fun s=>s.prim rm ex):=fun s h=>by simp only[Rd.prim];rw[if_pos h];exact h
theorem zd9 (ex:Rd→Nd×Rd):∀ F,Bad (zaf rm ex F)
 | 0,s,h=>h
 | F+1,s,h=>by unfold zaf;rw[zdJ h];simpa using zfl rm ex s h
theorem zfk (ex:Rd→Nd×Rd):Bad (zcH rm ex):=level_b (fun s h=>zd9 rm ex _ s h) _
theorem zeK (ex:Rd→Nd×Rd):Bad (sumP rm ex):=level_b (zfk rm ex) _
theorem zel:∀ F,Bad (zaJ rm F)
 | 0,s,h=>h
 | F+1,s,h=>level_b (zeK rm (zaJ rm F)) _ s h
theorem braces_b {s:Rd} (h:s.b=true):(s.braces rm).2.b=true:=by
 unfold Rd.braces;split
 · exact zaM (zaM h)
 · show (((zaa _ [] (s.must zQ)).2.must zP).b||_)=true
   rw[zaM (bracesF_b (zaM h))];rfl
theorem selMs_b {s:Rd} {x:ByteArray} (h:s.b=true):(s.selMs rm x).2.b=true:=by
 unfold Rd.selMs;split
 · exact braces_b rm h
 · show (s.b||_)=true;rw[h];rfl
end
theorem selWin_b {s:Rd} (h:s.b=true):s.selWin.2.b=true:=by unfold Rd.selWin;rw[zdJ h];simpa using h
def er (t:TokD):TokD:=⟨t.k,0,t.t⟩
theorem zfC {x y:TokD} (h:er x=er y):x.k=y.k∧x.t=y.t:=by
 have a:(er x).k=(er y).k:=congrArg TokD.k h
 have b:(er x).t=(er y).t:=congrArg TokD.t h
 exact⟨a,b⟩
structure R (r:List TokD) (s t:Rd):Prop where
 l:t.l.map er=(s.l++r).map er
 n:t.n=s.n
 b:t.b=s.b
def Hq (r:List TokD):Prop:=∀ h,r.head?=some h→h.k=5∧h.t=zS∨h.k=1∧(h.t=zbk∨h.t=za1∨h.t=zas)
section
variable {r:List TokD} {s t:Rd} {k:Int} {ts:List ByteArray} {x:ByteArray}
theorem zfy {s:Rd}:er s.pk=(s.l.map er).headD zbO:=by
 unfold Rd.pk;cases s.l with
 | nil=>rfl
 | cons y l=>rfl
theorem R.pk (h:R r s t) (hl:s.l≠[]):t.pk.k=s.pk.k∧t.pk.t=s.pk.t:=by
 have e1:=zfy (s:=t);have e2:=zfy (s:=s)
 rw[h.l] at e1
 obtain ⟨y,l,hy⟩:=List.exists_cons_of_ne_nil hl
 rw[hy] at e1 e2
 have e3:er t.pk=er s.pk:=by rw[e1,e2];rfl
 exact zfC e3
theorem R.is (h:R r s t) (hl:s.l≠[]):t.is k ts=s.is k ts:=by
 have e:=h.pk hl;unfold Rd.is;rw[e.1,e.2]
theorem zek (hl:s.l=[]) (hk:k≠0):s.is k ts=false:=by
 unfold Rd.is;rw[pk_0 (by rw[hl];rfl),decide_eq_false (show ¬zbO.k=k from fun e=>hk e.symm)];rfl
structure Qt (k:Int) (ts:List ByteArray):Prop where
 kn:k≠0
 a:k=5→hasN ts zS=false
 b:k=1→hasN ts zbk=false∧hasN ts za1=false∧hasN ts zas=false
theorem R.isq (h:R r s t) (hr:Hq r) (q:Qt k ts):t.is k ts=s.is k ts:=by
 by_cases hl:s.l=[]
 · rw[zek hl q.kn]
   have e1:=zfy (s:=t);rw[h.l,hl,List.nil_append] at e1
   cases r with
   | nil=>exact zek (List.map_eq_nil_iff.1 (by rw[h.l,hl];rfl)) q.kn
   | cons y r=>
    have e3:er t.pk=er y:=e1
    obtain ⟨e4,e5⟩:=zfC e3
    unfold Rd.is;rw[e4,e5]
    rcases hr y rfl with ⟨a,b⟩ | ⟨a,b⟩
    · rw[a,b]
      by_cases hk:k=5
      · rw[q.a hk,Bool.and_false]
      · rw[decide_eq_false (fun e=>hk e.symm)];rfl
    · rw[a]
      by_cases hk:k=1
      · obtain ⟨q1,q2,q3⟩:=q.b hk
        rcases b with b | b | b<;>rw[b]
        · rw[q1,Bool.and_false]
        · rw[q2,Bool.and_false]
        · rw[q3,Bool.and_false]
      · rw[decide_eq_false (fun e=>hk e.symm)];rfl
 · exact h.is hl
theorem is_ne' (hk:k≠0) (h:s.is k ts=true):s.l≠[]:=fun e=>by rw[zek e hk] at h;cases h
theorem qt_5 {ts:List ByteArray} (h:hasN ts zS=false):Qt 5 ts:=⟨by decide,fun _=>h,fun e=>by cases e⟩
end
end Lp
set_option linter.unusedVariables false
namespace Lp
open Go
section
variable {r:List TokD} {s t:Rd} {k:Int} {ts:List ByteArray} {x:ByteArray}
theorem zcw (e:(s.must x).b=false):(s.must x).l.length+1=s.l.length:=by
 have hq:(s.take 5 [x]).2.1=true:=by
  unfold Rd.must at e;simp only[Bool.or_eq_false_iff,Bool.not_eq_false'] at e;exact e.2
 exact(za5 (by decide) hq).1
theorem zcW (hk:k≠0) (e:(s.any k).2.b=false):(s.any k).2.l.length+1=s.l.length:=by
 have hb:s.b=false:=zR zeo e
 have hp:s.pk.k=k:=Decidable.byContradiction fun hn=>by rw[any_no (.inr hn)] at e;cases e
 exact(any_got hk hb hp).1
variable (rm:List MatD→Bool)
theorem sel_nil {s:Rd} (hl:s.l=[]):(s.selector rm).2.b=true:=by
 have hp:s.pk=zbO:=pk_0 (by rw[hl];rfl)
 have e1:s.selName=(ByteArray.empty,s):=by unfold Rd.selName;rw[if_neg (by rw[hp];rintro ⟨a,_⟩;exact absurd a (by decide))]
 unfold Rd.selector
 simp only[e1]
 refine zbD (selWin_b ?_)
 unfold Rd.selMs
 rw[if_neg (by rw[zek hl (by decide)];decide)]
 show (s.b||decide (ByteArray.empty=ByteArray.empty))=true
 rw[decide_eq_true rfl,Bool.or_true]
end
end Lp
set_option linter.unusedVariables false
namespace Lp
open Go
theorem words_er {l:List UInt8} {a:Nat} {ts:List TokD} (h:zZ l 0=some ts):∃ us,zZ l a=some us∧us.map er=ts.map er:=by
 have e:=wordsL_by a _ l 0 rfl
 rw[h,Nat.zero_add] at e
 exact⟨_,e,by simp only[List.map_map];exact List.map_congr_left fun x _=>rfl⟩
theorem words_cat {l r:List UInt8} {ts us:List TokD} (hr:Stop r) (h:zZ l 0=some ts) (h2:zZ r 0=some us):∃ vs,zZ (l++r) 0=some vs∧vs.map er=(ts++us).map er:=by
 obtain ⟨u2,e1,e2⟩:=words_er (a:=0+l.length) h2
 refine⟨ts++u2,?_,?_⟩
 · rw[wordsL_app hr _ l 0 ts rfl h,e1];rfl
 · rw[List.map_append,List.map_append,e2]
theorem words_step {l r:List UInt8} {x:TokD} {us:List TokD} (hne:l≠[]) (hb:runL isB (l++r)=0) (hf:zu (l++r)=(x,l.length)) (h2:zZ r 0=some us):∃ vs,zZ (l++r) 0=some vs∧vs.map er=(x::us).map er:=by
 obtain ⟨u2,e1,e2⟩:=words_er (a:=0+l.length) h2
 have hp:=List.length_pos_iff.2 hne
 refine⟨x.put 0::u2,?_,by rw[List.map_cons,List.map_cons,e2];rfl⟩
 rw[zca (n:=(l++r).length) (Nat.le_refl _),hb,List.drop_zero,zbd (by simp[hne]) (by rw[hf];simp only;omega) (Nat.le_refl _),hf]
 simp only[List.drop_left,Nat.add_zero,e1];rfl
def tkO:TokD:=⟨5,0,zC⟩
def tkC:TokD:=⟨5,0,zS⟩
section
variable {rm:List MatD→Bool}
theorem zcy {part:Rd→Nd×Rd} {t u:Rd} {n:Nd} {ts:List ByteArray} {r:List TokD} (hr:Hq r) (q:Qt 5 ts) (e:part t=(n,u)) (hu:u.l.map er=r.map er):t.level part ts=(n,u):=by
 have hR:R r ⟨[],u.n,u.b⟩ u:=⟨hu,rfl,rfl⟩
 have hi:u.is 5 ts=false:=by rw[hR.isq hr q];exact zek rfl (by decide)
 have ht:u.take 5 ts=(ByteArray.empty,false,u):=zer (.inr hi)
 unfold Rd.level;rw[e];unfold zaP;simp only[ht,if_true]
theorem is_open {t:Rd} {r:List TokD} (h:t.l.map er=(tkO::r).map er):t.pk.k=5∧t.pk.t=zC:=by
 have e1:=zfy (s:=t);rw[h] at e1
 exact zfC (show er t.pk=er tkO from e1)
theorem must_er {t:Rd} {x:ByteArray} {r:List TokD} (hb:t.b=false) (h:t.l.map er=((⟨5,0,x⟩:TokD)::r).map er):(t.must x).l.map er=r.map er∧(t.must x).n=t.n∧(t.must x).b=false:=by
 have e1:=zfy (s:=t);rw[h] at e1
 obtain ⟨e2,e3⟩:=zfC (show er t.pk=er (⟨5,0,x⟩:TokD) from e1)
 have hi:t.is 5 [x]=true:=by unfold Rd.is;rw[e2,e3];simp[hasN]
 have ht:t.take 5 [x]=(t.pk.t,true,⟨t.l.tail,t.n,t.b⟩):=by unfold Rd.take;rw[if_neg (by rw[hb,hi];simp)]
 unfold Rd.must;rw[ht]
 refine⟨?_,rfl,by show (t.b||!true)=false;rw[hb];rfl⟩
 show t.l.tail.map er=_
 rw[List.map_tail,h];rfl
theorem unary_brk {ex:Rd→Nd×Rd} {t:Rd} {r:List TokD} (hb:t.b=false) (h:t.l.map er=(tkO::r).map er) (F:Nat):zaf rm ex (F+1) t=((ex (t.must zC)).1,(ex (t.must zC)).2.must zS):=by
 obtain ⟨e2,e3⟩:=is_open h
 have hm:t.is 5 [zaz]=false:=by unfold Rd.is;rw[e3];rw[show hasN [zaz] zC=false by decide,Bool.and_false]
 have ht:t.take 5 [zaz]=(ByteArray.empty,false,t):=zer (.inr hm)
 unfold zaf;rw[ht]
 show Rd.prim rm t ex=_
 unfold Rd.prim
 rw[if_neg (by rw[hb];decide),if_neg (by rw[e2];decide),if_pos (by unfold Rd.is;rw[e2,e3];decide)]
def brk (n:Nat) (l:List TokD):List TokD:=List.replicate n tkO++l++List.replicate n tkC
theorem hq_close (r:List TokD):Hq (tkC::r):=fun h e=>by injection e with e;subst e;exact .inl ⟨rfl,rfl⟩
end
section
variable (rm:List MatD→Bool)
theorem bound_b {s:Rd} {w:ByteArray} (h:s.b=true):(s.bound w).2.b=true:=by
 unfold Rd.bound;rw[zdJ h];simpa using h
theorem order_b {s:Rd} (h:s.b=true):s.order.2.b=true:=by
 unfold Rd.order;rw[zdJ h];simpa using h
theorem parse_parts {l:List TokD} {q:QryD} (h:zcf rm l=some q):(zaJ rm (l.length+1) ⟨l,0,false⟩).1=q.root∧(zaJ rm (l.length+1) ⟨l,0,false⟩).2.b=false∧
 ((q.order=0∧q.limit= -1∧q.offset= -1∧(zaJ rm (l.length+1) ⟨l,0,false⟩).2.l=[])∨((q.order≠0∨0≤q.limit∨0≤q.offset)∧∃ y m,(zaJ rm (l.length+1) ⟨l,0,false⟩).2.l=y::m∧y.k=1)):=by
 unfold zcf at h
 simp only at h
 split at h
 · cases h
 · rename_i hc
   injection h with h
   have hb:(((zaJ rm (l.length+1) ⟨l,0,false⟩).2.order.2.bound za1).2.bound zas).2.b=false:=by
    cases e:(((zaJ rm (l.length+1) ⟨l,0,false⟩).2.order.2.bound za1).2.bound zas).2.b with
    | false=>rfl
    | true=>exact absurd (.inl e) hc
   have hl:(((zaJ rm (l.length+1) ⟨l,0,false⟩).2.order.2.bound za1).2.bound zas).2.l=[]:=by
    rcases Nat.eq_zero_or_pos (((zaJ rm (l.length+1) ⟨l,0,false⟩).2.order.2.bound za1).2.bound zas).2.l.length with e | e
    · exact List.length_eq_zero_iff.1 e
    · exact absurd (.inr e) hc
   have b1:=zR (fun q=>bound_b q) hb
   have b2:=zR (fun q=>bound_b q) b1
   have b3:=zR (fun q=>order_b q) b2
   subst h
   refine⟨rfl,b3,?_⟩
   generalize (zaJ rm (l.length+1) ⟨l,0,false⟩).2=u at*
   have pos:∀ (x:ByteArray),(0:Int)≤numV x:=fun x=>by unfold numV;omega
   have word:∀ (s:Rd) (ts:List ByteArray),(s.take 1 ts).2.1=true→∃ y m,s.l=y::m∧y.k=1:=fun s ts hq=>by
    have hg:=za5 (by decide) hq
    have hl:s.l≠[]:=is_ne' (k:=1) (by decide) hg.2.2.2.2
    obtain ⟨y,m,e⟩:=List.exists_cons_of_ne_nil hl
    refine⟨y,m,e,?_⟩
    have:=is_k hg.2.2.2.2
    unfold Rd.pk at this;rw[e] at this;exact this
   by_cases ho:(u.take 1 [zbk]).2.1=true
   · refine .inr ⟨.inl ?_,word u _ ho⟩
     show u.order.1≠0
     unfold Rd.order;simp only
     rw[if_neg (by rw[ho];decide)]
     split
     · show (2:Int)≠0;decide
     · show (1:Int)≠0;decide
   · have ho':(u.take 1 [zbk]).2.1=false:=by simpa using ho
     have hu2:(u.take 1 [zbk]).2.2=u:=by
      unfold Rd.take at ho' ⊢;split
      · rfl
      · rename_i hc2;rw[if_neg hc2] at ho';cases ho'
     have eo:u.order=(0,u):=by unfold Rd.order;simp only;rw[if_pos ho',hu2]
     rw[eo] at hl b1 b2 ⊢
     simp only at hl b1 b2 ⊢
     have bd:∀ (s:Rd) (w:ByteArray),(s.take 1 [w]).2.1=false→s.bound w=(-1,s):=fun s w hw=>by
      have:(s.take 1 [w]).2.2=s:=by
       unfold Rd.take at hw ⊢;split
       · rfl
       · rename_i hc2;rw[if_neg hc2] at hw;cases hw
      unfold Rd.bound;rw[if_pos hw,this]
     have bp:∀ (s:Rd) (w:ByteArray),¬(s.take 1 [w]).2.1=false→0≤(s.bound w).1:=fun s w hw=>by
      unfold Rd.bound;rw[if_neg hw];exact pos _
     by_cases h1:(u.take 1 [za1]).2.1=false
     · rw[bd u za1 h1] at hl b1 ⊢
       simp only at hl b1 ⊢
       by_cases h2:(u.take 1 [zas]).2.1=false
       · rw[bd u zas h2] at hl ⊢
         exact .inl ⟨by first | rfl | trivial,by first | rfl | trivial,by first | rfl | trivial,hl⟩
       · exact .inr ⟨.inr (.inr (bp u zas h2)),word u _ (by simpa using h2)⟩
     · exact .inr ⟨.inr (.inl (bp u za1 h1)),word u _ (by simpa using h1)⟩
end
end Lp
set_option linter.unusedVariables false
namespace Lp
open Go
def Lx (s:ByteArray) (W:List TokD):Prop:=∃ vs,zZ (bl8 s) 0=some vs∧vs.map er=W.map er
theorem zcm (a b:ByteArray):bl8 (a++b)=bl8 a++bl8 b:=by simp[bl8]
theorem Lx.cat {s r:ByteArray} {W V:List TokD} (h:Lx s W) (k:Lx r V) (hr:Stop (bl8 r)):Lx (s++r) (W++V):=by
 obtain ⟨vs,e1,e2⟩:=h
 obtain ⟨us,e3,e4⟩:=k
 obtain ⟨ws,e5,e6⟩:=words_cat hr e1 e3
 refine⟨ws,by rw[zcm];exact e5,?_⟩
 rw[e6,List.map_append,List.map_append,e2,e4]
theorem zeA {s:ByteArray} {ts:List TokD} (h:lexL s=ts∧lexE s=0):Lx s ts:=by
 obtain ⟨h1,h2⟩:=zeF h.2
 exact⟨_,h2,by rw[h.1]⟩
abbrev wk (t:ByteArray):TokD:=⟨1,0,t⟩
theorem lx_asc:Lx tOAsc [wk zbk,wk tAsc]:=by
 obtain ⟨vs,a,b⟩:=zeA (s:=tOAsc) (ts:=[⟨1,1,zbk⟩,⟨1,7,tAsc⟩]) (zbP (by kernel_rfl) (by decide) (by decide))
 exact⟨vs,a,b⟩
theorem lx_desc:Lx tODesc [wk zbk,wk zd2]:=by
 obtain ⟨vs,a,b⟩:=zeA (s:=tODesc) (ts:=[⟨1,1,zbk⟩,⟨1,7,zd2⟩]) (zbP (by kernel_rfl) (by decide) (by decide))
 exact⟨vs,a,b⟩
abbrev tLimit0:ByteArray:=⟨#[32,108,105,109,105,116]⟩
abbrev tOffset0:ByteArray:=⟨#[32,111,102,102,115,101,116]⟩
theorem lx_limit:Lx tLimit0 [wk za1]:=by
 obtain ⟨vs,a,b⟩:=zeA (s:=tLimit0) (ts:=[⟨1,1,za1⟩]) (zbP (by kernel_rfl) (by decide) (by decide))
 exact⟨vs,a,b⟩
theorem lx_offset:Lx tOffset0 [wk zas]:=by
 obtain ⟨vs,a,b⟩:=zeA (s:=tOffset0) (ts:=[⟨1,1,zas⟩]) (zbP (by kernel_rfl) (by decide) (by decide))
 exact⟨vs,a,b⟩
theorem lx_dig {v:Nat} (hv:v≤1000000000000):Lx (digB v) [⟨2,0,digB v⟩]:=by
 have h:=words_join1 (good_num hv) 0
 rw[zdB (show ¬(2:Int)=3 by decide) (show ¬(2:Int)=4 by decide)] at h
 exact⟨_,h,rfl⟩
theorem zeR {s:ByteArray} {W:List TokD} (h:Lx s W):Lx (tSp++s) W:=by
 obtain ⟨vs,e1,e2⟩:=h
 obtain ⟨us,e3,e4⟩:=words_er (a:=1) e1
 refine⟨us,?_,e4.trans e2⟩
 rw[zcm]
 rw[show bl8 tSp++bl8 s=[32]++bl8 s from rfl,wordsL_blank (by intro b hb;rw[List.mem_singleton.1 hb];exact .inl rfl)]
 exact e3
theorem lx_num {k k0 x:ByteArray} {v:Nat} (hv:v≤1000000000000) (hk:k=k0++tSp) (h:Lx k0 [wk x]):Lx (k++digB v) [wk x,⟨2,0,digB v⟩]:=by
 rw[hk,ByteArray.append_assoc]
 refine h.cat (zeR (lx_dig hv)) ?_
 rw[zcm];exact zeL _
structure St (r:List TokD) (u:Rd):Prop where
 l:u.l.map er=r.map er
 b:u.b=false
section
variable {r:List TokD} {u:Rd} {x y:TokD} {k:Int} {ts:List ByteArray} {w:ByteArray}
theorem St.pk (h:St (x::r) u):u.pk.k=x.k∧u.pk.t=x.t:=by
 have e1:=zfy (s:=u);rw[h.l] at e1
 exact zfC (show er u.pk=er x from e1)
theorem St.yes (h:St (x::r) u) (hk:x.k=k) (ht:hasN ts x.t=true):u.take k ts=(x.t,true,⟨u.l.tail,u.n,u.b⟩)∧St r ⟨u.l.tail,u.n,u.b⟩:=by
 obtain ⟨e2,e3⟩:=h.pk
 have hi:u.is k ts=true:=by unfold Rd.is;rw[e2,e3,hk,ht];simp
 refine⟨by unfold Rd.take;rw[if_neg (by rw[h.b,hi];simp),e3],?_,h.b⟩
 show u.l.tail.map er=_
 rw[List.map_tail,h.l];rfl
theorem St.not (h:St r u) (hn:r=[]∨∃ z r',r=z::r'∧(z.k≠k∨hasN ts z.t=false)) (hk:k≠0):u.take k ts=(ByteArray.empty,false,u):=by
 refine zer (.inr ?_)
 rcases hn with rfl | ⟨z,r',rfl,hz⟩
 · exact zek (List.map_eq_nil_iff.1 h.l) hk
 · obtain ⟨e2,e3⟩:=h.pk
   unfold Rd.is;rw[e2,e3]
   rcases hz with hz | hz
   · rw[decide_eq_false hz];rfl
   · rw[hz,Bool.and_false]
theorem St.any (h:St (x::r) u) (hk:x.k=k):u.any k=(x.t,⟨u.l.tail,u.n,u.b⟩)∧St r ⟨u.l.tail,u.n,u.b⟩:=by
 obtain ⟨e2,e3⟩:=h.pk
 refine⟨by unfold Rd.any;rw[if_neg (by rw[h.b,e2,hk];simp),e3],?_,h.b⟩
 show u.l.tail.map er=_
 rw[List.map_tail,h.l];rfl
theorem St.asc (h:St (wk zbk::wk tAsc::r) u):∃ v,u.order=(1,v)∧St r v:=by
 obtain ⟨a1,a2⟩:=h.yes (k:=1) (ts:=[zbk]) rfl (by decide)
 have b1:=a2.not (k:=1) (ts:=[zd2]) (.inr ⟨_,_,rfl,.inr (by decide)⟩) (by decide)
 obtain ⟨c1,c2⟩:=a2.any (k:=1) rfl
 refine⟨_,?_,c2⟩
 unfold Rd.order;simp only
 rw[a1];simp only
 rw[b1];simp only
 rw[c1]
 rw[if_neg (by decide),if_neg (by decide)]
 simp only[ne_eq,not_true_eq_false,decide_false,Bool.or_false]
theorem St.desc (h:St (wk zbk::wk zd2::r) u):∃ v,u.order=(2,v)∧St r v:=by
 obtain ⟨a1,a2⟩:=h.yes (k:=1) (ts:=[zbk]) rfl (by decide)
 obtain ⟨b1,b2⟩:=a2.yes (k:=1) (ts:=[zd2]) rfl (by decide)
 refine⟨_,?_,b2⟩
 unfold Rd.order;simp only
 rw[a1];simp only
 rw[b1]
 rw[if_neg (by decide),if_pos rfl]
theorem St.ord0 (h:St r u) (hn:r=[]∨∃ z r',r=z::r'∧(z.k≠1∨hasN [zbk] z.t=false)):u.order=(0,u):=by
 unfold Rd.order;rw[h.not hn (by decide)];simp
theorem St.bnd {v:Nat} (h:St (wk w::⟨2,0,digB v⟩::r) u):∃ z,u.bound w=((v:Int),z)∧z.l.map er=r.map er∧z.b=decide (2000<(v:Int)):=by
 obtain ⟨a1,a2⟩:=h.yes (k:=1) (ts:=[w]) rfl (by simp[hasN])
 obtain ⟨c1,c2⟩:=a2.any (k:=2) rfl
 have hb:u.b=false:=h.b
 refine⟨⟨u.l.tail.tail,u.n,u.b||decide (2000<numV (digB v))⟩,?_,c2.l,?_⟩
 · unfold Rd.bound
   rw[a1,if_neg (by simp)]
   unfold Rd.number;rw[c1]
   show (numV (digB v),_)=_
   rw[zdR]
 · show (u.b||decide (2000<numV (digB v)))=_
   rw[hb,zdR];rfl
theorem St.bnd0 (h:St r u) (hn:r=[]∨∃ z r',r=z::r'∧(z.k≠1∨hasN [w] z.t=false)):u.bound w=(-1,u):=by
 unfold Rd.bound;rw[h.not hn (by decide)];simp
end
def ordW (o:Int):List TokD:=if o=1 then [wk zbk,wk tAsc] else if o=2 then [wk zbk,wk zd2] else []
def numW (x:ByteArray) (n:Int):List TokD:=if 0≤n then [wk x,⟨2,0,digB n.toNat⟩] else []
theorem Lx.ord {s:ByteArray} {W:List TokD} (h:Lx s W) (o:Int):Lx (ordP o s) (W++ordW o):=by
 unfold ordP ordW
 split
 · exact h.cat lx_asc (zeL _)
 · split
   · exact h.cat lx_desc (zeL _)
   · rw[List.append_nil];exact h
theorem Lx.lim {s:ByteArray} {W:List TokD} (h:Lx s W) {n:Int} (hn:n≤1000000000000):Lx (limP zbF n s) (W++numW za1 n):=by
 unfold limP numW
 split
 · exact h.cat (lx_num (k0:=tLimit0) (by omega) rfl lx_limit) (zeL _)
 · rw[List.append_nil];exact h
theorem Lx.off {s:ByteArray} {W:List TokD} (h:Lx s W) {n:Int} (hn:n≤1000000000000):Lx (limP zcj n s) (W++numW zas n):=by
 unfold limP numW
 split
 · exact h.cat (lx_num (k0:=tOffset0) (by omega) rfl lx_offset) (zeL _)
 · rw[List.append_nil];exact h
def endQ (u:Rd):Int×Int×Int×Rd:=(u.order.1,(u.order.2.bound za1).1,((u.order.2.bound za1).2.bound zas).1,((u.order.2.bound za1).2.bound zas).2)
theorem end_is {V:List TokD} (hV:V=[]∨∃ r',V=wk zbk::r') {o l f:Int} (ho:o=0∨o=1∨o=2) (hl: -1≤l) (hf: -1≤f) (hv:V=[]∨0<o∨0≤l∨0≤f) {u:Rd} (h:St (ordW o++(numW za1 l++(numW zas f++V))) u):
 if 2000<l∨2000<f then(endQ u).2.2.2.b=true else(endQ u).1=o∧(endQ u).2.1=l∧(endQ u).2.2.1=f∧(endQ u).2.2.2.l.map er=V.map er∧(endQ u).2.2.2.b=false:=by
 have h1:∃ v,u.order=(o,v)∧St (numW za1 l++(numW zas f++V)) v:=by
  rcases ho with rfl | rfl | rfl
  · refine⟨u,h.ord0 ?_,h⟩
    show numW za1 l++(numW zas f++V)=[]∨∃ z r',numW za1 l++(numW zas f++V)=z::r'∧_
    unfold numW
    split
    · exact .inr ⟨_,_,rfl,.inr (by decide)⟩
    · split
      · exact .inr ⟨_,_,rfl,.inr (by decide)⟩
      · rcases hv with rfl | hv | hv | hv
        · exact .inl rfl
        · omega
        · omega
        · omega
  · exact h.asc
  · exact h.desc
 obtain ⟨v,e1,s1⟩:=h1
 unfold endQ
 rw[e1];simp only
 have hlw:¬0≤l→numW zas f++V=[]∨∃ z r',numW zas f++V=z::r'∧(z.k≠1∨hasN [za1] z.t=false):=fun _=>by
  unfold numW;split
  · exact .inr ⟨_,_,rfl,.inr (by decide)⟩
  · rcases hV with rfl | ⟨r',rfl⟩
    · exact .inl rfl
    · exact .inr ⟨_,_,rfl,.inr (by decide)⟩
 have hfw:¬0≤f→V=[]∨∃ z r',V=z::r'∧(z.k≠1∨hasN [zas] z.t=false):=fun _=>by
  rcases hV with rfl | ⟨r',rfl⟩
  · exact .inl rfl
  · exact .inr ⟨_,_,rfl,.inr (by decide)⟩
 have h2:∃ z,v.bound za1=(l,z)∧z.l.map er=(numW zas f++V).map er∧z.b=decide (2000<l):=by
  by_cases hl0:0≤l
  · unfold numW at s1;rw[if_pos hl0] at s1
    obtain ⟨z,a,b,c⟩:=s1.bnd
    rw[show ((l.toNat:Nat):Int)=l by omega] at a c
    exact⟨z,a,b,c⟩
  · have e:numW za1 l=[]:=by unfold numW;rw[if_neg hl0]
    rw[e,List.nil_append] at s1
    refine⟨v,?_,s1.l,?_⟩
    · rw[s1.bnd0 (hlw hl0),show l= -1 by omega]
    · rw[s1.b,decide_eq_false (by omega)]
 obtain ⟨z,e2,e3,e4⟩:=h2
 rw[e2];simp only
 by_cases hl2:2000<l
 · rw[if_pos (.inl hl2)]
   exact bound_b (by rw[e4,decide_eq_true hl2])
 · rw[decide_eq_false hl2] at e4
   have s2:St (numW zas f++V) z:=⟨e3,e4⟩
   have h3:∃ y,z.bound zas=(f,y)∧y.l.map er=V.map er∧y.b=decide (2000<f):=by
    by_cases hf0:0≤f
    · unfold numW at s2;rw[if_pos hf0] at s2
      obtain ⟨y,a,b,c⟩:=s2.bnd
      rw[show ((f.toNat:Nat):Int)=f by omega] at a c
      exact⟨y,a,b,c⟩
    · have e:numW zas f=[]:=by unfold numW;rw[if_neg hf0]
      rw[e,List.nil_append] at s2
      refine⟨z,?_,s2.l,?_⟩
      · rw[s2.bnd0 (hfw hf0),show f= -1 by omega]
      · rw[s2.b,decide_eq_false (by omega)]
   obtain ⟨y,e5,e6,e7⟩:=h3
   rw[e5];simp only
   by_cases hf2:2000<f
   · rw[if_pos (.inr hf2),e7,decide_eq_true hf2]
   · rw[if_neg (by omega)]
     exact⟨trivial,trivial,trivial,e6,by rw[e7,decide_eq_false hf2]⟩
theorem parse_endQ (rm:List MatD→Bool) {L:List TokD} {n:Nd} {u:Rd} (e:zaJ rm (L.length+1) ⟨L,0,false⟩=(n,u)):zcf rm L=if (endQ u).2.2.2.b=true∨0<(endQ u).2.2.2.l.length then none else some ⟨n,(endQ u).1,(endQ u).2.1,(endQ u).2.2.1⟩:=by
 unfold zcf;simp only
 rw[e];rfl
theorem ordW_hq (o:Int) {V:List TokD} (h:Hq V):Hq (ordW o++V):=by
 unfold ordW;split
 · exact fun y e=>by injection e with e;subst e;exact .inr ⟨rfl,.inl rfl⟩
 · split
   · exact fun y e=>by injection e with e;subst e;exact .inr ⟨rfl,.inl rfl⟩
   · exact h
theorem numW_hq {x:ByteArray} (hx:x=za1∨x=zas) (n:Int) {V:List TokD} (h:Hq V):Hq (numW x n++V):=by
 unfold numW;split
 · exact fun y e=>by injection e with e;subst e;exact .inr ⟨rfl,.inr hx⟩
 · exact h
theorem limP_sz {k t:ByteArray} {n:Int} (hn:n≤1000000000000) (hk:k.size≤8):(limP k n t).size≤t.size+28:=by
 unfold limP;split
 · have:=zbc (show n.toNat≤1000000000000 by omega)
   simp only[ByteArray.size_append];omega
 · omega
theorem ordP_sz (o:Int) (t:ByteArray):(ordP o t).size≤t.size+11:=by
 have h1:tOAsc.size=10:=rfl
 have h2:tODesc.size=11:=rfl
 unfold ordP;split
 · simp only[ByteArray.size_append];omega
 · split
   · simp only[ByteArray.size_append];omega
   · omega
end Lp
