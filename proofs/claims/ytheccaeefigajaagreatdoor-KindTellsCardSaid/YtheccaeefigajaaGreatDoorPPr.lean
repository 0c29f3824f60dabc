import Derived.Test.YtheccaeefigajaaGreatDoorV103
set_option linter.unusedVariables false
namespace Lp
open Go
def asc (l:List UInt8):Bool:=l.all (fun b=>decide (b.toNat<128))
theorem asc_cons {b:UInt8} {l:List UInt8} (h:asc (b::l)=true):b.toNat<128∧asc l=true:=by
 unfold asc at h ⊢;simp only[List.all_cons,Bool.and_eq_true,decide_eq_true_eq] at h;exact h
theorem asc_drop {l:List UInt8} (h:asc l=true) (n:Nat):asc (l.drop n)=true:=by
 unfold asc at h ⊢;rw[List.all_eq_true] at h ⊢;exact fun b hb=>h b (List.mem_of_mem_drop hb)
theorem asc_take {l:List UInt8} (h:asc l=true) (n:Nat):asc (l.take n)=true:=by
 unfold asc at h ⊢;rw[List.all_eq_true] at h ⊢;exact fun b hb=>h b (List.mem_of_mem_take hb)
def runA (f:Int→Bool):List UInt8→Nat
 | []=>0
 | b::r=>if f (b.toNat:Int)=true then 1+runA f r else 0
theorem zd6 (f:Int→Bool):∀ (l:List UInt8),asc l=true→runL f l=runA f l
 | [],_=>zdC
 | b::r,h=>by
  obtain ⟨h1,h2⟩:=asc_cons h
  unfold runA
  have hd:=zaT (t:=r) h1
  by_cases hf:f (b.toNat:Int)=true
  · rw[if_pos hf,zda (by simp) (by rw[hd];exact hf),hd]
    show 1+runL f r=_
    rw[zd6 f r h2]
  · rw[if_neg hf,zdY (by rw[hd];simpa using hf)]
theorem runes_asc {l:List UInt8} (h:asc l=true):zah (mkB l)=l.map (fun b=>(b.toNat:Int)):=by
 have key:∀ (n p:Nat),(mkB l).size-p=n→zaW (mkB l) p=(l.drop p).map (fun b=>(b.toNat:Int)):=by
  intro n
  induction n using Nat.strongRecOn with
  | _ n ih=>
   intro p hn
   rw[zai] at hn
   rcases Nat.lt_or_ge p l.length with hp | hp
   · have hb:bts (mkB l) p=l.drop p:=by unfold bts;rw[←zb0 l];rfl
     obtain ⟨b,hx⟩:∃ b,l[p]?=some b:=⟨l[p],List.getElem?_eq_getElem hp⟩
     have hdr:l.drop p=b::l.drop (p+1):=by
      rw[List.drop_eq_getElem_cons hp];congr 1
      rw[List.getElem?_eq_getElem hp] at hx;injection hx
     have hb1:b.toNat<128:=(asc_cons (by rw[←hdr];exact asc_drop h p)).1
     have hd:decL (bts (mkB l) p)=(b.toNat,1):=by rw[hb,hdr];exact zaT hb1
     rw[zaO (by rw[zai];exact hp),zce,zcd,hd,hdr]
     rw[ih (l.length-(p+1)) (by omega) (p+1) (by rw[zai])]
     rfl
   · rw[zbb (by rw[zai];exact hp),List.drop_eq_nil_of_le hp];rfl
 rw[show zah (mkB l)=zaW (mkB l) 0 from rfl,key _ 0 rfl,List.drop_zero]
def digK:Nat→Nat→List UInt8
 | 0,_=>[]
 | f+1,n=>if n<10 then [UInt8.ofNat (48+n)] else digK f (n / 10)++[UInt8.ofNat (48+n % 10)]
theorem digK_eq:∀ (f n:Nat),0<f→n<10 ^ f→digK f n=digL n
 | 0,n,h,_=>absurd h (by omega)
 | f+1,n,_,h=>by
  unfold digK digL
  by_cases hn:n<10
  · rw[if_pos hn,dif_pos hn]
  · rw[if_neg hn,dif_neg hn]
    rw[Nat.pow_succ] at h
    cases f with
    | zero=>simp at h;omega
    | succ f=>rw[digK_eq (f+1) (n / 10) (by omega) (by omega)]
theorem digK_B {n:Nat} (h:n≤1000000000000):mkB (digK 20 n)=digB n:=by
 unfold digB;rw[digK_eq 20 n (by decide) (Nat.lt_of_le_of_lt h (by decide))]
def zbc (b:UInt8):Bool:=decide (b.toNat<128)&&decide (b.toNat≠34)&&decide (b.toNat≠92)&&decide (b.toNat≠10)
theorem enc_asc {c:Nat} (h:c<128):encR c=[UInt8.ofNat c]:=by unfold encR;rw[if_pos (by omega),Nat.mod_eq_of_lt (by omega)]
theorem quote_plain {l:List UInt8} (h:∀ b∈l,zbc b=true):zaP (mkB l)=34::(l++[34]):=by
 have key:∀ (n p:Nat),(mkB l).size-p=n→zaf (mkB l) p=l.drop p:=by
  intro n
  induction n using Nat.strongRecOn with
  | _ n ih=>
   intro p hn
   rw[zai] at hn
   rcases Nat.lt_or_ge p l.length with hp | hp
   · have hb:bts (mkB l) p=l.drop p:=by unfold bts;rw[←zb0 l];rfl
     have hdr:l.drop p=l[p]::l.drop (p+1):=List.drop_eq_getElem_cons hp
     have hq:=h l[p] (List.getElem_mem hp)
     unfold zbc at hq;simp only[Bool.and_eq_true,decide_eq_true_eq] at hq
     obtain ⟨⟨⟨h1,h2⟩,h3⟩,h4⟩:=hq
     have hd:decL (bts (mkB l) p)=(l[p].toNat,1):=by rw[hb,hdr];exact zaT h1
     have hr:decR (mkB l) p=l[p].toNat:=by rw[zce,hd]
     have hw:decW (mkB l) p=1:=by rw[zcd,hd]
     rw[zaR (by rw[zai];exact hp),piece_4 (by rw[hr];omega) (by rw[hr];exact h4) (by rw[hr];omega),hr,hw,enc_asc h1,ih (l.length-(p+1)) (by omega) (p+1) (by rw[zai]),hdr]
     simp
   · rw[zbp (by rw[zai];exact hp),List.drop_eq_nil_of_le hp]
 unfold zaP;rw[key _ 0 rfl,List.drop_zero]
def firstA (l:List UInt8):Option (TokD×Nat):=
 match l with
 | []=>none
 | c::r=>
  if zM (c.toNat:Int)=1 then
   if zcY 0 ((l.take (runA isLD l)).map (fun b=>(b.toNat:Int)))=true∧0<runA isLD l then some (⟨1,0,mkB (l.take (runA isLD l))⟩,runA isLD l) else none
  else if zM (c.toNat:Int)=2 then
   if 13<runA isD l∨1000000000000<digV (l.take (runA isD l))∨runA isD l=0 then none
   else if runA isLD l=runA isD l then some (⟨2,0,mkB (digK 20 (digV (l.take (runA isD l))))⟩,runA isD l)
   else if secB (mkB ((l.take (runA isLD l)).drop (runA isD l)))=0∨1000000000 / secB (mkB ((l.take (runA isLD l)).drop (runA isD l)))<digV (l.take (runA isD l))∨1000000000000<digV (l.take (runA isD l))*secB (mkB ((l.take (runA isLD l)).drop (runA isD l)))∨runA isLD l=0 then none
   else some (⟨4,0,mkB (digK 20 (digV (l.take (runA isD l))*secB (mkB ((l.take (runA isLD l)).drop (runA isD l)))))⟩,runA isLD l)
  else if c.toNat=34 then
   if (r.drop (r.takeWhile zbc).length).head?=some 34 then some (⟨3,0,mkB (r.takeWhile zbc)⟩,(r.takeWhile zbc).length+2) else none
  else if (zb2 l).2=0 then none else some (zb2 l)
theorem firstA_ok {l:List UInt8} (ha:asc l=true) {t:TokD} {n:Nat} (h:firstA l=some (t,n)):zz l=(t,n)∧n≠0:=by
 cases l with
 | nil=>cases h
 | cons c r=>
  have hc:=(asc_cons ha).1
  have hd:=zaT (t:=r) hc
  unfold firstA at h
  simp only at h
  unfold zz;rw[hd]
  by_cases h1:zM (c.toNat:Int)=1
  · rw[if_pos h1] at h ⊢
    split at h
    · rename_i h2
      injection h with h;injection h with e1 e2
      subst e1;subst e2
      refine⟨?_,by omega⟩
      unfold zbN
      rw[zd6 _ _ ha]
      have hn:zck (mkB ((c::r).take (runA isLD (c::r))))=true:=by unfold zck;rw[runes_asc (asc_take ha _)];exact h2.1
      rw[if_pos hn]
    · cases h
  · rw[if_neg h1] at h ⊢
    by_cases h2:zM (c.toNat:Int)=2
    · rw[if_pos h2] at h ⊢
      unfold numT
      rw[zd6 _ _ ha,zd6 _ _ ha]
      split at h
      · cases h
      · rename_i h3
        rw[if_neg (by omega)]
        split at h
        · rename_i h4
          injection h with h;injection h with e1 e2
          subst e1;subst e2
          rw[if_pos h4,digK_B (by omega)];exact⟨rfl,by omega⟩
        · rename_i h4
          split at h
          · cases h
          · rename_i h5
            injection h with h;injection h with e1 e2
            subst e1;subst e2
            rw[if_neg h4,if_neg (by omega),digK_B (by omega)];exact⟨rfl,by omega⟩
    · rw[if_neg h2] at h ⊢
      by_cases h3:c.toNat=34
      · rw[if_pos h3] at h
        split at h
        · rename_i h4
          injection h with h;injection h with e1 e2
          subst e1;subst e2
          refine⟨?_,by omega⟩
          have hr:r=r.takeWhile zbc++34::r.drop ((r.takeWhile zbc).length+1):=by
           have e1:r=r.take (r.takeWhile zbc).length++r.drop (r.takeWhile zbc).length:=(List.take_append_drop _ _).symm
           have e2:r.take (r.takeWhile zbc).length=r.takeWhile zbc:=by
            have:=List.takeWhile_prefix (l:=r) zbc
            exact(List.prefix_iff_eq_take.1 this).symm
           have e3:r.drop (r.takeWhile zbc).length=34::r.drop ((r.takeWhile zbc).length+1):=by
            cases hh:r.drop (r.takeWhile zbc).length with
            | nil=>rw[hh] at h4;cases h4
            | cons y z=>
             rw[hh] at h4
             have:y=34:=by simpa using h4
             subst this
             congr 1
             have:=congrArg List.tail hh
             rw[List.tail_drop] at this
             exact this.symm
           rw[←e3,←e2];rw[e2];exact e1.trans (by rw[e2])
          have hq:=quote_plain (l:=r.takeWhile zbc) (fun b hb=>by
           have:=List.all_takeWhile (p:=zbc) (l:=r)
           exact List.all_eq_true.1 this b hb)
          have hc34:c=34:=UInt8.toNat_inj.1 h3
          have hl:c::r=zaP (mkB (r.takeWhile zbc))++r.drop ((r.takeWhile zbc).length+1):=by
           rw[hq,hc34];simp only[List.cons_append,List.append_assoc,List.nil_append];congr 1
          have hs:=strT_quote (mkB (r.takeWhile zbc)) (r.drop ((r.takeWhile zbc).length+1))
          rw[←hl] at hs
          unfold zz at hs
          rw[hd,if_neg h1,if_neg h2] at hs
          rw[hs,hq]
          simp
        · cases h
      · rw[if_neg h3] at h
        have h3':¬(c.toNat,1).1=34:=h3
        rw[if_neg h3']
        split at h
        · cases h
        · rename_i h4;injection h with h;rw[h] at h4 ⊢;exact⟨rfl,h4⟩
def lexA:Nat→List UInt8→Nat→Option (List TokD)
 | 0,_,_=>none
 | f+1,l,a=>
  if l.drop (runA isB l)=[] then some []
  else match firstA (l.drop (runA isB l)) with
   | none=>none
   | some (t,n)=>(lexA f ((l.drop (runA isB l)).drop n) (a+runA isB l+n)).map (t.put (a+runA isB l)::·)
theorem lexA_ok:∀ (f:Nat) (l:List UInt8) (a:Nat) (ts:List TokD),asc l=true→lexA f l a=some ts→zaV l a=some ts
 | 0,l,a,ts,_,h=>by cases h
 | f+1,l,a,ts,ha,h=>by
  unfold lexA at h
  have hb:=zd6 isB l ha
  unfold zaV;rw[hb]
  split at h
  · rename_i h0;injection h with h;subst h;rw[h0];exact zbn
  · rename_i h0
    cases e:firstA (l.drop (runA isB l)) with
    | none=>rw[e] at h;cases h
    | some p=>
     obtain ⟨t,n⟩:=p
     rw[e] at h
     simp only at h
     obtain ⟨e1,e2⟩:=firstA_ok (asc_drop ha _) e
     cases e3:lexA f ((l.drop (runA isB l)).drop n) (a+runA isB l+n) with
     | none=>rw[e3] at h;cases h
     | some t2=>
      rw[e3] at h
      have h:t.put (a+runA isB l)::t2=ts:=by injection h
      have ih:=lexA_ok f _ _ _ (asc_drop (asc_drop ha _) n) e3
      have hlen:(l.drop (runA isB l)).length≤l.length:=by rw[List.length_drop];omega
      rw[zcu h0 (by rw[e1];exact e2) hlen,e1]
      simp only
      rw[ih]
      show some _=some _
      rw[←h]
theorem lexA_lex {s:ByteArray} {ts:List TokD} (h:lexA (s.size+1) (bl8 s) 0=some ts) (ha:asc (bl8 s)=true) (hs:s.size≤600):lexL s=ts∧lexE s=0:=lex_of hs (lexA_ok _ _ _ _ ha h)
end Lp
set_option linter.unusedVariables false
namespace Lp
open Go
theorem al9_1:lexL alS1=alT1∧lexE alS1=0:=lexA_lex (by kernel_rfl) (by decide) (by decide)
theorem al9_2:lexL alS2=alT2∧lexE alS2=0:=lexA_lex (by kernel_rfl) (by decide) (by decide)
theorem read_is {s:ByteArray} {l:List TokD} {q:QryD} (h:lexL s=l∧lexE s=0) (hp:zbJ rmD l=some q):zci s=0∧zcx s=q:=by
 unfold zci zcx;rw[if_pos h.2,if_pos h.2,h.1,hp];exact⟨rfl,rfl⟩
theorem al9_r1:zci alS1=0∧zcx alS1=⟨alN1,0,-1,-1⟩:=read_is al9_1 (alP1 rmD)
theorem al9_r2:zci alS2=0∧zcx alS2=⟨alN2,0,-1,-1⟩:=read_is al9_2 (alP2 rmD)
def zae:List Nd:=[.mk tFn zbA 0 0 [] [] [.mk nSel wCpu 300 0 [] [] []],.mk tNum ByteArray.empty 1 0 [] [] []]
def zcm:List Nd:=[.mk nSel wCpu 0 0 [] [] []]
theorem al9_f:(Nd.mk tBin zaa 0 0 [] [] zae).kindE=0∧(Nd.mk tBin zaa 0 0 [] [] zae).kind=2∧(Nd.mk tFn zbA 0 0 [] [] zcm).kindE=3∧(Nd.mk tBin zaa 0 0 [] [] zae).checkE=0∧(Nd.mk tBin zaa 0 0 [] [] zae).deep=3:=by decide
end Lp
set_option linter.unusedSimpArgs false
set_option linter.unusedVariables false
set_option maxHeartbeats 4000000
set_option maxRecDepth 100000
namespace Lp
open Go Go.RowKit Go.Proofs
namespace HdYtheccaeefigajaaGreatDoorV104
theorem zbg (b o:Nat):∀ w,(Instr.fieldAt 29 (.pointer (some ⟨b,o,none⟩)) 0).run Tryz.prog w=.ok (.pointer (some ⟨b,o+0,none⟩)) w:=fun _=>by kernel_rfl
end HdYtheccaeefigajaaGreatDoorV104
open HdYtheccaeefigajaaGreatDoorV104
theorem read_al1 (ev es:Value) (hev:EvOk ev) (hes:EvOk es):CD Tryz.prog 14 [HPow,HErr ev,HSyn es] [.v (.string alS1)] (fun r H'=>r=.tup [.agg [.s tBin,.s zaa,dI 0,dI 0,.sh 1 (([]:List ByteArray).map D.s),.sh 3 (([]:List MatD).map MatD.d),.sh 7 (Nd.ds zae),dI 0,dI (-1),dI (-1)],dI 0]∧H'=[HPow,HErr ev,HSyn es]):=by
 have h:=Read_c alS1 ev es hev hes
 rw[al9_r1.1,al9_r1.2] at h
 refine CD.to ⟨fun w F vs hvs hF hH=>h.out w F vs (by obtain ⟨u,us,e,hu,hus⟩:=hvs;exact⟨u,us,e,⟨hu,by decide⟩,hus⟩) hF hH⟩ ?_
 rintro r H' ⟨op,text,n,mode,names,ms,kids,o,a,b,e,rfl,rfl⟩
 injection e with e1 e2 e3 e4
 subst e2;subst e3;subst e4
 injection e1 with a1 a2 a3 a4 a5 a6 a7
 subst a1;subst a2;subst a3;subst a4;subst a5;subst a6;subst a7
 exact⟨rfl,rfl⟩
theorem read_al2 (ev es:Value) (hev:EvOk ev) (hes:EvOk es):CD Tryz.prog 14 [HPow,HErr ev,HSyn es] [.v (.string alS2)] (fun r H'=>r=.tup [.agg [.s tFn,.s zbA,dI 0,dI 0,.sh 1 (([]:List ByteArray).map D.s),.sh 3 (([]:List MatD).map MatD.d),.sh 7 (Nd.ds zcm),dI 0,dI (-1),dI (-1)],dI 0]∧H'=[HPow,HErr ev,HSyn es]):=by
 have h:=Read_c alS2 ev es hev hes
 rw[al9_r2.1,al9_r2.2] at h
 refine CD.to ⟨fun w F vs hvs hF hH=>h.out w F vs (by obtain ⟨u,us,e,hu,hus⟩:=hvs;exact⟨u,us,e,⟨hu,by decide⟩,hus⟩) hF hH⟩ ?_
 rintro r H' ⟨op,text,n,mode,names,ms,kids,o,a,b,e,rfl,rfl⟩
 injection e with e1 e2 e3 e4
 subst e2;subst e3;subst e4
 injection e1 with a1 a2 a3 a4 a5 a6 a7
 subst a1;subst a2;subst a3;subst a4;subst a5;subst a6;subst a7
 exact⟨rfl,rfl⟩
theorem alive9_c (ev es:Value) (hev:EvOk ev) (hes:EvOk es):
 CD Tryz.prog 13 [HPow,HErr ev,HSyn es] [] (fun r H'=>r=dB true∧H'=[HPow,HErr ev,HSyn es]):=by
 refine zp Tryz.func13 rfl (N:=56) rfl rfl (fun C=>?_)
 refine jk [] rfl ?_
 have hz0:¬((0:Int)≠(0:Int)):=by omega
 refine jT rfl (oR 1 rfl (oZ rfl (jT rfl (oE rfl (zm [HPow,HErr ev,HSyn es] [] [] rfl rfl (.cons ArgC.id .nil) zg Tryz.call14 (read_al1 ev es hev hes) (.inl rfl)) ?_))))
 rintro _ _ ⟨_,⟨rfl,rfl⟩,rfl⟩
 refine on rfl (oR 3 rfl (oE rfl (zC (zv:=(.agg #[(.string ByteArray.empty),(.string ByteArray.empty),(.int .i64 0),(.int .i64 0),(.slice none 0 0),(.slice none 0 0),(.slice none 0 0),(.int .i64 0),(.int .i64 0),(.int .i64 0)])) Tryz.zeroValue29 ⟨rfl,rfl,rfl,rfl,rfl,rfl,rfl,rfl,rfl,rfl,trivial⟩ (Cv.vagg (by decide))) ?_))
 rintro _ _ ⟨g1,rfl,rfl⟩
 refine oE rfl (zi (i:=0) (X':=.agg [.s tBin,.s zaa,dI 0,dI 0,.sh 1 (([]:List ByteArray).map D.s),.sh 3 (([]:List MatD).map MatD.d),.sh 7 (Nd.ds zae),dI 0,dI (-1),dI (-1)]) rfl rfl rfl (CellD.agg) Tryz.sizeOf29 rfl rfl rfl) ?_
 rintro _ _ ⟨rfl,rfl⟩
 refine on rfl (oR 1 rfl (oZ rfl (jT rfl (OpsD.subH (HSub.perm (zc (i:=3) rfl)) (on rfl (OpsD.subH (HSub.perm (zc (i:=3) rfl)) (on rfl (OpsD.subH (HSub.perm (zc (i:=3) rfl)) (on rfl (oE rfl (zm [HPow,HErr ev,HSyn es] [.bx g1 29 (.agg [.s tBin,.s zaa,dI 0,dI 0,.sh 1 (([]:List ByteArray).map D.s),.sh 3 (([]:List MatD).map MatD.d),.sh 7 (Nd.ds zae),dI 0,dI (-1),dI (-1)])] [] rfl rfl (.cons ArgC.id .nil) zg Tryz.call14 (read_al2 ev es hev hes) (.inl rfl)) ?_))))))))))
 rintro _ _ ⟨_,⟨rfl,rfl⟩,rfl⟩
 refine on rfl (oR 3 rfl (oE rfl (zC (zv:=(.agg #[(.string ByteArray.empty),(.string ByteArray.empty),(.int .i64 0),(.int .i64 0),(.slice none 0 0),(.slice none 0 0),(.slice none 0 0),(.int .i64 0),(.int .i64 0),(.int .i64 0)])) Tryz.zeroValue29 ⟨rfl,rfl,rfl,rfl,rfl,rfl,rfl,rfl,rfl,rfl,trivial⟩ (Cv.vagg (by decide))) ?_))
 rintro _ _ ⟨g2,rfl,rfl⟩
 refine oE rfl (zi (i:=0) (X':=.agg [.s tFn,.s zbA,dI 0,dI 0,.sh 1 (([]:List ByteArray).map D.s),.sh 3 (([]:List MatD).map MatD.d),.sh 7 (Nd.ds zcm),dI 0,dI (-1),dI (-1)]) rfl rfl rfl (CellD.agg) Tryz.sizeOf29 rfl rfl rfl) ?_
 rintro _ _ ⟨rfl,rfl⟩
 refine on rfl (oR 1 rfl (oZ rfl (jS rfl (jT rfl (oR 1 rfl (oP rfl (za2 rfl rfl (decide_eq_false hz0)) (oR 2 rfl (oG rfl (za2 rfl rfl (decide_eq_false hz0)) (oR 1 rfl (oZ rfl (jk [0,1,3,22] rfl (jCf rfl (zt rfl (zj (jT rfl (oP rfl (zd rfl zbg rfl) (oP rfl (zH (d:=.agg [.s tBin,.s zaa,dI 0,dI 0,.sh 1 (([]:List ByteArray).map D.s),.sh 3 (([]:List MatD).map MatD.d),.sh 7 (Nd.ds zae)]) rfl (i:=4) rfl Tryz.isAgg27 Tryz.sizeOf27 rfl rfl) (oW rfl rfl acs Tryz.call15 (of_c (Nd.mk tBin zaa 0 0 ([]:List ByteArray) ([]:List MatD) zae) (by decide)) (oR 5 rfl (oZ rfl (jT rfl (oP rfl (zd rfl zbg rfl) (oP rfl (zH (d:=.agg [.s tFn,.s zbA,dI 0,dI 0,.sh 1 (([]:List ByteArray).map D.s),.sh 3 (([]:List MatD).map MatD.d),.sh 7 (Nd.ds zcm)]) rfl (i:=0) rfl Tryz.isAgg27 Tryz.sizeOf27 rfl rfl) (oW rfl rfl acs Tryz.call15 (of_c (Nd.mk tFn zbA 0 0 ([]:List ByteArray) ([]:List MatD) zcm) (by decide)) (oR 5 rfl (oZ rfl (jk [0,1,5,6,8] rfl (jS rfl (jk [1,5,6,8] rfl ?_)))))))))))))))))))))))))))))
 refine zR 0 (((((decide ((Nd.mk tBin zaa 0 0 ([]:List ByteArray) ([]:List MatD) zae).kindE=(0:Int))&&decide ((Nd.mk tBin zaa 0 0 ([]:List ByteArray) ([]:List MatD) zae).kind=(2:Int)))&&decide ((Nd.mk tFn zbA 0 0 ([]:List ByteArray) ([]:List MatD) zcm).kindE=(3:Int)))&&decide ((Nd.mk tBin zaa 0 0 ([]:List ByteArray) ([]:List MatD) zae).checkE=(0:Int)))&&decide ((((Nd.mk tBin zaa 0 0 ([]:List ByteArray) ([]:List MatD) zae).deep:Nat):Int)=(3:Int)))) [.bx g2 29 (.agg [.s tFn,.s zbA,dI 0,dI 0,.sh 1 (([]:List ByteArray).map D.s),.sh 3 (([]:List MatD).map MatD.d),.sh 7 (Nd.ds zcm),dI 0,dI (-1),dI (-1)]),HPow,HErr ev,HSyn es,.bx g1 29 (.agg [.s tBin,.s zaa,dI 0,dI 0,.sh 1 (([]:List ByteArray).map D.s),.sh 3 (([]:List MatD).map MatD.d),.sh 7 (Nd.ds zae),dI 0,dI (-1),dI (-1)])] (fun _ hQ3=>?_) ?_
 · skip
   by_cases hg4:(Nd.mk tBin zaa 0 0 ([]:List ByteArray) ([]:List MatD) zae).kindE=(0:Int)
   · skip
     by_cases hg5:(Nd.mk tBin zaa 0 0 ([]:List ByteArray) ([]:List MatD) zae).kind=(2:Int)
     · skip
       by_cases hg6:(Nd.mk tFn zbA 0 0 ([]:List ByteArray) ([]:List MatD) zcm).kindE=(3:Int)
       · skip
         by_cases hg7:(Nd.mk tBin zaa 0 0 ([]:List ByteArray) ([]:List MatD) zae).checkE=(0:Int)
         · skip
           refine zf rfl (oR 1 rfl (oP rfl (zD rfl rfl (decide_eq_true hg4)) (oR 2 rfl (oG rfl (zD rfl rfl (decide_eq_true hg5)) (oR 3 rfl (oG rfl (zD rfl rfl (decide_eq_true hg6)) (oR 2 rfl (oG rfl (zH (d:=.agg [.s tBin,.s zaa,dI 0,dI 0,.sh 1 (([]:List ByteArray).map D.s),.sh 3 (([]:List MatD).map MatD.d),.sh 7 (Nd.ds zae),dI 0,dI (-1),dI (-1)]) rfl (i:=4) rfl Tryz.isAgg29 Tryz.sizeOf29 rfl rfl) (oV rfl rfl acs Tryz.call23 (check_c tBin zaa 0 0 ([]:List ByteArray) ([]:List MatD) zae 0 (-1) (-1) (by decide)) (oG rfl (zD rfl rfl (decide_eq_true hg7)) (oR 2 rfl (oG rfl (zd rfl zbg rfl) (oG rfl (zH (d:=.agg [.s tBin,.s zaa,dI 0,dI 0,.sh 1 (([]:List ByteArray).map D.s),.sh 3 (([]:List MatD).map MatD.d),.sh 7 (Nd.ds zae)]) rfl (i:=4) rfl Tryz.isAgg27 Tryz.sizeOf27 rfl rfl) (oV rfl rfl acs Tryz.call19 (deep_c (Nd.mk tBin zaa 0 0 ([]:List ByteArray) ([]:List MatD) zae) (by decide)) (oG rfl (zD rfl rfl rfl) (oR 2 rfl (zq rfl ?_)))))))))))))))))
           exact PD.sub ((0,dB ((((decide ((Nd.mk tBin zaa 0 0 ([]:List ByteArray) ([]:List MatD) zae).kindE=(0:Int))&&decide ((Nd.mk tBin zaa 0 0 ([]:List ByteArray) ([]:List MatD) zae).kind=(2:Int)))&&decide ((Nd.mk tFn zbA 0 0 ([]:List ByteArray) ([]:List MatD) zcm).kindE=(3:Int)))&&decide ((Nd.mk tBin zaa 0 0 ([]:List ByteArray) ([]:List MatD) zae).checkE=(0:Int)))&&decide ((((Nd.mk tBin zaa 0 0 ([]:List ByteArray) ([]:List MatD) zae).deep:Nat):Int)=(3:Int))))::[(1,dP g1 0),(5,dI ((Nd.mk tBin zaa 0 0 ([]:List ByteArray) ([]:List MatD) zae).kind)),(6,dI ((Nd.mk tBin zaa 0 0 ([]:List ByteArray) ([]:List MatD) zae).kindE)),(8,dI ((Nd.mk tFn zbA 0 0 ([]:List ByteArray) ([]:List MatD) zcm).kindE))]) ⟨sc rfl (Cv.eq (congrArg (fun b=>D.v (.bool b)) (by first | (simp[hg4,hg5,hg6,hg7,hz0];done) | (simp_all;done)))),sk rfl,sk rfl,sk rfl,sk rfl,trivial⟩ hQ3
         · skip
           refine zf rfl (oR 1 rfl (oP rfl (zD rfl rfl (decide_eq_true hg4)) (oR 2 rfl (oG rfl (zD rfl rfl (decide_eq_true hg5)) (oR 3 rfl (oG rfl (zD rfl rfl (decide_eq_true hg6)) (oR 2 rfl (oG rfl (zH (d:=.agg [.s tBin,.s zaa,dI 0,dI 0,.sh 1 (([]:List ByteArray).map D.s),.sh 3 (([]:List MatD).map MatD.d),.sh 7 (Nd.ds zae),dI 0,dI (-1),dI (-1)]) rfl (i:=4) rfl Tryz.isAgg29 Tryz.sizeOf29 rfl rfl) (oV rfl rfl acs Tryz.call23 (check_c tBin zaa 0 0 ([]:List ByteArray) ([]:List MatD) zae 0 (-1) (-1) (by decide)) (oG rfl (zD rfl rfl (decide_eq_false hg7)) (oR 8 rfl (zq rfl ?_))))))))))))
           exact PD.sub ((0,dB ((((decide ((Nd.mk tBin zaa 0 0 ([]:List ByteArray) ([]:List MatD) zae).kindE=(0:Int))&&decide ((Nd.mk tBin zaa 0 0 ([]:List ByteArray) ([]:List MatD) zae).kind=(2:Int)))&&decide ((Nd.mk tFn zbA 0 0 ([]:List ByteArray) ([]:List MatD) zcm).kindE=(3:Int)))&&decide ((Nd.mk tBin zaa 0 0 ([]:List ByteArray) ([]:List MatD) zae).checkE=(0:Int)))&&decide ((((Nd.mk tBin zaa 0 0 ([]:List ByteArray) ([]:List MatD) zae).deep:Nat):Int)=(3:Int))))::[(1,dP g1 0),(5,dI ((Nd.mk tBin zaa 0 0 ([]:List ByteArray) ([]:List MatD) zae).kind)),(6,dI ((Nd.mk tBin zaa 0 0 ([]:List ByteArray) ([]:List MatD) zae).kindE)),(8,dI ((Nd.mk tFn zbA 0 0 ([]:List ByteArray) ([]:List MatD) zcm).kindE))]) ⟨sc rfl (Cv.eq (congrArg (fun b=>D.v (.bool b)) (by first | (simp[hg4,hg5,hg6,hg7,hz0];done) | (simp_all;done)))),sk rfl,sk rfl,sk rfl,sk rfl,trivial⟩ hQ3
       · skip
         refine zf rfl (oR 1 rfl (oP rfl (zD rfl rfl (decide_eq_true hg4)) (oR 2 rfl (oG rfl (zD rfl rfl (decide_eq_true hg5)) (oR 3 rfl (oG rfl (zD rfl rfl (decide_eq_false hg6)) (oR 13 rfl (zq rfl ?_))))))))
         exact PD.sub ((0,dB ((((decide ((Nd.mk tBin zaa 0 0 ([]:List ByteArray) ([]:List MatD) zae).kindE=(0:Int))&&decide ((Nd.mk tBin zaa 0 0 ([]:List ByteArray) ([]:List MatD) zae).kind=(2:Int)))&&decide ((Nd.mk tFn zbA 0 0 ([]:List ByteArray) ([]:List MatD) zcm).kindE=(3:Int)))&&decide ((Nd.mk tBin zaa 0 0 ([]:List ByteArray) ([]:List MatD) zae).checkE=(0:Int)))&&decide ((((Nd.mk tBin zaa 0 0 ([]:List ByteArray) ([]:List MatD) zae).deep:Nat):Int)=(3:Int))))::[(1,dP g1 0),(5,dI ((Nd.mk tBin zaa 0 0 ([]:List ByteArray) ([]:List MatD) zae).kind)),(6,dI ((Nd.mk tBin zaa 0 0 ([]:List ByteArray) ([]:List MatD) zae).kindE)),(8,dI ((Nd.mk tFn zbA 0 0 ([]:List ByteArray) ([]:List MatD) zcm).kindE))]) ⟨sc rfl (Cv.eq (congrArg (fun b=>D.v (.bool b)) (by first | (simp[hg4,hg5,hg6,hz0];done) | (simp_all;done)))),sk rfl,sk rfl,sk rfl,sk rfl,trivial⟩ hQ3
     · skip
       refine zf rfl (oR 1 rfl (oP rfl (zD rfl rfl (decide_eq_true hg4)) (oR 2 rfl (oG rfl (zD rfl rfl (decide_eq_false hg5)) (oR 17 rfl (zq rfl ?_))))))
       exact PD.sub ((0,dB ((((decide ((Nd.mk tBin zaa 0 0 ([]:List ByteArray) ([]:List MatD) zae).kindE=(0:Int))&&decide ((Nd.mk tBin zaa 0 0 ([]:List ByteArray) ([]:List MatD) zae).kind=(2:Int)))&&decide ((Nd.mk tFn zbA 0 0 ([]:List ByteArray) ([]:List MatD) zcm).kindE=(3:Int)))&&decide ((Nd.mk tBin zaa 0 0 ([]:List ByteArray) ([]:List MatD) zae).checkE=(0:Int)))&&decide ((((Nd.mk tBin zaa 0 0 ([]:List ByteArray) ([]:List MatD) zae).deep:Nat):Int)=(3:Int))))::[(1,dP g1 0),(5,dI ((Nd.mk tBin zaa 0 0 ([]:List ByteArray) ([]:List MatD) zae).kind)),(6,dI ((Nd.mk tBin zaa 0 0 ([]:List ByteArray) ([]:List MatD) zae).kindE)),(8,dI ((Nd.mk tFn zbA 0 0 ([]:List ByteArray) ([]:List MatD) zcm).kindE))]) ⟨sc rfl (Cv.eq (congrArg (fun b=>D.v (.bool b)) (by first | (simp[hg4,hg5,hz0];done) | (simp_all;done)))),sk rfl,sk rfl,sk rfl,sk rfl,trivial⟩ hQ3
   · skip
     refine zf rfl (oR 1 rfl (oP rfl (zD rfl rfl (decide_eq_false hg4)) (oR 20 rfl (zq rfl ?_))))
     exact PD.sub ((0,dB ((((decide ((Nd.mk tBin zaa 0 0 ([]:List ByteArray) ([]:List MatD) zae).kindE=(0:Int))&&decide ((Nd.mk tBin zaa 0 0 ([]:List ByteArray) ([]:List MatD) zae).kind=(2:Int)))&&decide ((Nd.mk tFn zbA 0 0 ([]:List ByteArray) ([]:List MatD) zcm).kindE=(3:Int)))&&decide ((Nd.mk tBin zaa 0 0 ([]:List ByteArray) ([]:List MatD) zae).checkE=(0:Int)))&&decide ((((Nd.mk tBin zaa 0 0 ([]:List ByteArray) ([]:List MatD) zae).deep:Nat):Int)=(3:Int))))::[(1,dP g1 0),(5,dI ((Nd.mk tBin zaa 0 0 ([]:List ByteArray) ([]:List MatD) zae).kind)),(6,dI ((Nd.mk tBin zaa 0 0 ([]:List ByteArray) ([]:List MatD) zae).kindE)),(8,dI ((Nd.mk tFn zbA 0 0 ([]:List ByteArray) ([]:List MatD) zcm).kindE))]) ⟨sc rfl (Cv.eq (congrArg (fun b=>D.v (.bool b)) (by first | (simp[hg4,hz0];done) | (simp_all;done)))),sk rfl,sk rfl,sk rfl,sk rfl,trivial⟩ hQ3
 · skip
   refine zj (zn rfl (PD.subH (HSub.perm (zc (i:=3) rfl)) (pn rfl (PD.subH (HSub.perm (zc (i:=3) rfl)) (pn rfl (PD.subH (HSub.perm (zc (i:=3) rfl)) (pn rfl (pn rfl ?_))))))))
   exact zh Tryz.results13 (.cons (zx (zl rfl) (Cv.eq (congrArg (fun b=>D.v (.bool b)) (by obtain ⟨f1,f2,f3,f4,f5⟩:=al9_f;simp only[f1,f2,f3,f4,f5];decide)))) .nil) rfl (HSub.fst 3 rfl) ⟨rfl,rfl⟩
end Lp
set_option linter.unusedVariables false
namespace Lp
open Go
inductive Wf:Nd→Prop
 | num {n:Nat} (h:n≤1000000000000):Wf (.mk tNum ByteArray.empty (n:Int) 0 [] [] [])
 | neg {x:Nd}:Wf x→Wf (.mk tNeg ByteArray.empty 0 0 [] [] [x])
 | bin {text:ByteArray} {mode:Int} {names:List ByteArray} {x y:Nd} (h:mode=0∧names=[]∨mode=1∨mode=2):Wf x→Wf y→Wf (.mk tBin text 0 mode names [] [x,y])
 | agg {text:ByteArray} {n:Nat} {mode:Int} {names:List ByteArray} {x:Nd} (h:n≤1000000000000) (hn:zbk text=false→n=0) (hm:mode=0∧names=[]∨mode=1∨mode=2):Wf x→Wf (.mk tAgg text (n:Int) mode names [] [x])
 | fn {text:ByteArray} {x:Nd}:Wf x→Wf (.mk tFn text 0 0 [] [] [x])
 | sel {text:ByteArray} {n:Nat} {ms:List MatD} (h:n≤1000000000000) (hm:∀ m∈ms,1≤m.op∧m.op≤4):Wf (.mk nSel text (n:Int) 0 [] ms [])
section
variable {text:ByteArray} {n:Nat} {mode:Int} {names:List ByteArray} {ms:List MatD} {x y:Nd}
end
end Lp
