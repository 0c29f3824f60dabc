import Derived.Test.YtheccaeefigajaaGreatDoorV103
set_option linter.unusedVariables false
namespace Lp
open Go
def asc (l:List UInt8):Bool:=l.all (fun b=>decide (b.toNat<128))
theorem asc_cons {b:UInt8} {l:List UInt8} (h:asc (b::l)=true):b.toNat<128∧asc l=true:=by
 unfold asc at h ⊢;simp only[List.all_cons,Bool.and_eq_true,decide_eq_true_eq] at h;exact h
theorem asc_drop {l:List UInt8} (h:asc l=true) (n:Nat):asc (l.drop n)=true:=by
 unfold asc at h ⊢;rw[List.all_eq_true] at h ⊢;exact fun b hb=>h b (List.mem_of_mem_drop hb)
theorem asc_take {l:List UInt8} (h:asc l=true) (n:Nat):asc (l.take n)=true:=by
 unfold asc at h ⊢;rw[List.all_eq_true] at h ⊢;exact fun b hb=>h b (List.mem_of_mem_take hb)
def runA (f:Int→Bool):List UInt8→Nat
 | []=>0
 | b::r=>if f (b.toNat:Int)=true then 1+runA f r else 0
theorem zeS (f:Int→Bool):∀ (l:List UInt8),asc l=true→runL f l=runA f l
 | [],_=>zcZ
 | b::r,h=>by
  obtain ⟨h1,h2⟩:=asc_cons h
  unfold runA
  have hd:=zaO (t:=r) h1
  by_cases hf:f (b.toNat:Int)=true
  · rw[if_pos hf,zcR (by simp) (by rw[hd];exact hf),hd]
    show 1+runL f r=_
    rw[zeS f r h2]
  · rw[if_neg hf,zdn (by rw[hd];simpa using hf)]
theorem runes_asc {l:List UInt8} (h:asc l=true):zaC (mkB l)=l.map (fun b=>(b.toNat:Int)):=by
 have key:∀ (n p:Nat),(mkB l).size-p=n→zbo (mkB l) p=(l.drop p).map (fun b=>(b.toNat:Int)):=by
  intro n
  induction n using Nat.strongRecOn with
  | _ n ih=>
   intro p hn
   rw[zav] at hn
   rcases Nat.lt_or_ge p l.length with hp | hp
   · have hb:bts (mkB l) p=l.drop p:=by unfold bts;rw[←zcs l];rfl
     obtain ⟨b,hx⟩:∃ b,l[p]?=some b:=⟨l[p],List.getElem?_eq_getElem hp⟩
     have hdr:l.drop p=b::l.drop (p+1):=by
      rw[List.drop_eq_getElem_cons hp];congr 1
      rw[List.getElem?_eq_getElem hp] at hx;injection hx
     have hb1:b.toNat<128:=(asc_cons (by rw[←hdr];exact asc_drop h p)).1
     have hd:decL (bts (mkB l) p)=(b.toNat,1):=by rw[hb,hdr];exact zaO hb1
     rw[zbk (by rw[zav];exact hp),zcJ,zcI,hd,hdr]
     rw[ih (l.length-(p+1)) (by omega) (p+1) (by rw[zav])]
     rfl
   · rw[zby (by rw[zav];exact hp),List.drop_eq_nil_of_le hp];rfl
 rw[show zaC (mkB l)=zbo (mkB l) 0 from rfl,key _ 0 rfl,List.drop_zero]
def digK:Nat→Nat→List UInt8
 | 0,_=>[]
 | f+1,n=>if n<10 then [UInt8.ofNat (48+n)] else digK f (n / 10)++[UInt8.ofNat (48+n % 10)]
theorem digK_eq:∀ (f n:Nat),0<f→n<10 ^ f→digK f n=digL n
 | 0,n,h,_=>absurd h (by omega)
 | f+1,n,_,h=>by
  unfold digK digL
  by_cases hn:n<10
  · rw[if_pos hn,dif_pos hn]
  · rw[if_neg hn,dif_neg hn]
    rw[Nat.pow_succ] at h
    cases f with
    | zero=>simp at h;omega
    | succ f=>rw[digK_eq (f+1) (n / 10) (by omega) (by omega)]
theorem digK_B {n:Nat} (h:n≤1000000000000):mkB (digK 20 n)=digB n:=by
 unfold digB;rw[digK_eq 20 n (by decide) (Nat.lt_of_le_of_lt h (by decide))]
def zbz (b:UInt8):Bool:=decide (b.toNat<128)&&decide (b.toNat≠34)&&decide (b.toNat≠92)&&decide (b.toNat≠10)
theorem enc_asc {c:Nat} (h:c<128):encR c=[UInt8.ofNat c]:=by unfold encR;rw[if_pos (by omega),Nat.mod_eq_of_lt (by omega)]
theorem quote_plain {l:List UInt8} (h:∀ b∈l,zbz b=true):zbc (mkB l)=34::(l++[34]):=by
 have key:∀ (n p:Nat),(mkB l).size-p=n→zay (mkB l) p=l.drop p:=by
  intro n
  induction n using Nat.strongRecOn with
  | _ n ih=>
   intro p hn
   rw[zav] at hn
   rcases Nat.lt_or_ge p l.length with hp | hp
   · have hb:bts (mkB l) p=l.drop p:=by unfold bts;rw[←zcs l];rfl
     have hdr:l.drop p=l[p]::l.drop (p+1):=List.drop_eq_getElem_cons hp
     have hq:=h l[p] (List.getElem_mem hp)
     unfold zbz at hq;simp only[Bool.and_eq_true,decide_eq_true_eq] at hq
     obtain ⟨⟨⟨h1,h2⟩,h3⟩,h4⟩:=hq
     have hd:decL (bts (mkB l) p)=(l[p].toNat,1):=by rw[hb,hdr];exact zaO h1
     have hr:decR (mkB l) p=l[p].toNat:=by rw[zcJ,hd]
     have hw:decW (mkB l) p=1:=by rw[zcI,hd]
     rw[zbl (by rw[zav];exact hp),piece_4 (by rw[hr];omega) (by rw[hr];exact h4) (by rw[hr];omega),hr,hw,enc_asc h1,ih (l.length-(p+1)) (by omega) (p+1) (by rw[zav]),hdr]
     simp
   · rw[zbP (by rw[zav];exact hp),List.drop_eq_nil_of_le hp]
 unfold zbc;rw[key _ 0 rfl,List.drop_zero]
def firstA (l:List UInt8):Option (TokD×Nat):=
 match l with
 | []=>none
 | c::r=>
  if zP (c.toNat:Int)=1 then
   if zdp 0 ((l.take (runA isLD l)).map (fun b=>(b.toNat:Int)))=true∧0<runA isLD l then some (⟨1,0,mkB (l.take (runA isLD l))⟩,runA isLD l) else none
  else if zP (c.toNat:Int)=2 then
   if 13<runA isD l∨1000000000000<digV (l.take (runA isD l))∨runA isD l=0 then none
   else if runA isLD l=runA isD l then some (⟨2,0,mkB (digK 20 (digV (l.take (runA isD l))))⟩,runA isD l)
   else if secB (mkB ((l.take (runA isLD l)).drop (runA isD l)))=0∨1000000000 / secB (mkB ((l.take (runA isLD l)).drop (runA isD l)))<digV (l.take (runA isD l))∨1000000000000<digV (l.take (runA isD l))*secB (mkB ((l.take (runA isLD l)).drop (runA isD l)))∨runA isLD l=0 then none
   else some (⟨4,0,mkB (digK 20 (digV (l.take (runA isD l))*secB (mkB ((l.take (runA isLD l)).drop (runA isD l)))))⟩,runA isLD l)
  else if c.toNat=34 then
   if (r.drop (r.takeWhile zbz).length).head?=some 34 then some (⟨3,0,mkB (r.takeWhile zbz)⟩,(r.takeWhile zbz).length+2) else none
  else if (zb1 l).2=0 then none else some (zb1 l)
theorem firstA_ok {l:List UInt8} (ha:asc l=true) {t:TokD} {n:Nat} (h:firstA l=some (t,n)):zw l=(t,n)∧n≠0:=by
 cases l with
 | nil=>cases h
 | cons c r=>
  have hc:=(asc_cons ha).1
  have hd:=zaO (t:=r) hc
  unfold firstA at h
  simp only at h
  unfold zw;rw[hd]
  by_cases h1:zP (c.toNat:Int)=1
  · rw[if_pos h1] at h ⊢
    split at h
    · rename_i h2
      injection h with h;injection h with e1 e2
      subst e1;subst e2
      refine⟨?_,by omega⟩
      unfold zb3
      rw[zeS _ _ ha]
      have hn:zcO (mkB ((c::r).take (runA isLD (c::r))))=true:=by unfold zcO;rw[runes_asc (asc_take ha _)];exact h2.1
      rw[if_pos hn]
    · cases h
  · rw[if_neg h1] at h ⊢
    by_cases h2:zP (c.toNat:Int)=2
    · rw[if_pos h2] at h ⊢
      unfold numT
      rw[zeS _ _ ha,zeS _ _ ha]
      split at h
      · cases h
      · rename_i h3
        rw[if_neg (by omega)]
        split at h
        · rename_i h4
          injection h with h;injection h with e1 e2
          subst e1;subst e2
          rw[if_pos h4,digK_B (by omega)];exact⟨rfl,by omega⟩
        · rename_i h4
          split at h
          · cases h
          · rename_i h5
            injection h with h;injection h with e1 e2
            subst e1;subst e2
            rw[if_neg h4,if_neg (by omega),digK_B (by omega)];exact⟨rfl,by omega⟩
    · rw[if_neg h2] at h ⊢
      by_cases h3:c.toNat=34
      · rw[if_pos h3] at h
        split at h
        · rename_i h4
          injection h with h;injection h with e1 e2
          subst e1;subst e2
          refine⟨?_,by omega⟩
          have hr:r=r.takeWhile zbz++34::r.drop ((r.takeWhile zbz).length+1):=by
           have e1:r=r.take (r.takeWhile zbz).length++r.drop (r.takeWhile zbz).length:=(List.take_append_drop _ _).symm
           have e2:r.take (r.takeWhile zbz).length=r.takeWhile zbz:=by
            have:=List.takeWhile_prefix (l:=r) zbz
            exact(List.prefix_iff_eq_take.1 this).symm
           have e3:r.drop (r.takeWhile zbz).length=34::r.drop ((r.takeWhile zbz).length+1):=by
            cases hh:r.drop (r.takeWhile zbz).length with
            | nil=>rw[hh] at h4;cases h4
            | cons y z=>
             rw[hh] at h4
             have:y=34:=by simpa using h4
             subst this
             congr 1
             have:=congrArg List.tail hh
             rw[List.tail_drop] at this
             exact this.symm
           rw[←e3,←e2];rw[e2];exact e1.trans (by rw[e2])
          have hq:=quote_plain (l:=r.takeWhile zbz) (fun b hb=>by
           have:=List.all_takeWhile (p:=zbz) (l:=r)
           exact List.all_eq_true.1 this b hb)
          have hc34:c=34:=UInt8.toNat_inj.1 h3
          have hl:c::r=zbc (mkB (r.takeWhile zbz))++r.drop ((r.takeWhile zbz).length+1):=by
           rw[hq,hc34];simp only[List.cons_append,List.append_assoc,List.nil_append];congr 1
          have hs:=strT_quote (mkB (r.takeWhile zbz)) (r.drop ((r.takeWhile zbz).length+1))
          rw[←hl] at hs
          unfold zw at hs
          rw[hd,if_neg h1,if_neg h2] at hs
          rw[hs,hq]
          simp
        · cases h
      · rw[if_neg h3] at h
        have h3':¬(c.toNat,1).1=34:=h3
        rw[if_neg h3']
        split at h
        · cases h
        · rename_i h4;injection h with h;rw[h] at h4 ⊢;exact⟨rfl,h4⟩
def lexA:Nat→List UInt8→Nat→Option (List TokD)
 | 0,_,_=>none
 | f+1,l,a=>
  if l.drop (runA isB l)=[] then some []
  else match firstA (l.drop (runA isB l)) with
   | none=>none
   | some (t,n)=>(lexA f ((l.drop (runA isB l)).drop n) (a+runA isB l+n)).map (t.put (a+runA isB l)::·)
theorem lexA_ok:∀ (f:Nat) (l:List UInt8) (a:Nat) (ts:List TokD),asc l=true→lexA f l a=some ts→z6 l a=some ts
 | 0,l,a,ts,_,h=>by cases h
 | f+1,l,a,ts,ha,h=>by
  unfold lexA at h
  have hb:=zeS isB l ha
  unfold z6;rw[hb]
  split at h
  · rename_i h0;injection h with h;subst h;rw[h0];exact za8
  · rename_i h0
    cases e:firstA (l.drop (runA isB l)) with
    | none=>rw[e] at h;cases h
    | some p=>
     obtain ⟨t,n⟩:=p
     rw[e] at h
     simp only at h
     obtain ⟨e1,e2⟩:=firstA_ok (asc_drop ha _) e
     cases e3:lexA f ((l.drop (runA isB l)).drop n) (a+runA isB l+n) with
     | none=>rw[e3] at h;cases h
     | some t2=>
      rw[e3] at h
      have h:t.put (a+runA isB l)::t2=ts:=by injection h
      have ih:=lexA_ok f _ _ _ (asc_drop (asc_drop ha _) n) e3
      have hlen:(l.drop (runA isB l)).length≤l.length:=by rw[List.length_drop];omega
      rw[zbb h0 (by rw[e1];exact e2) hlen,e1]
      simp only
      rw[ih]
      show some _=some _
      rw[←h]
theorem zbS {s:ByteArray} {ts:List TokD} (h:lexA (s.size+1) (bl8 s) 0=some ts) (ha:asc (bl8 s)=true) (hs:s.size≤600):lexL s=ts∧lexE s=0:=lex_of hs (lexA_ok _ _ _ _ ha h)
end Lp
set_option linter.unusedVariables false
namespace Lp
open Go
theorem al9_1:lexL alS1=alT1∧lexE alS1=0:=zbS (by kernel_rfl) (by decide) (by decide)
theorem al9_2:lexL alS2=alT2∧lexE alS2=0:=zbS (by kernel_rfl) (by decide) (by decide)
theorem read_is {s:ByteArray} {l:List TokD} {q:QryD} (h:lexL s=l∧lexE s=0) (hp:zbs rmD l=some q):zbI s=0∧zaH s=q:=by
 unfold zbI zaH;rw[if_pos h.2,if_pos h.2,h.1,hp];exact⟨rfl,rfl⟩
theorem al9_r1:zbI alS1=0∧zaH alS1=⟨alN1,0,-1,-1⟩:=read_is al9_1 (alP1 rmD)
theorem al9_r2:zbI alS2=0∧zaH alS2=⟨alN2,0,-1,-1⟩:=read_is al9_2 (alP2 rmD)
def zax:List Nd:=[.mk tFn zb4 0 0 [] [] [.mk nSel wCpu 300 0 [] [] []],.mk tNum ByteArray.empty 1 0 [] [] []]
def zcP:List Nd:=[.mk nSel wCpu 0 0 [] [] []]
theorem al9_f:(Nd.mk tBin zal 0 0 [] [] zax).kindE=0∧(Nd.mk tBin zal 0 0 [] [] zax).kind=2∧(Nd.mk tFn zb4 0 0 [] [] zcP).kindE=3∧(Nd.mk tBin zal 0 0 [] [] zax).checkE=0∧(Nd.mk tBin zal 0 0 [] [] zax).deep=3:=by decide
end Lp
set_option linter.unusedSimpArgs false
set_option linter.unusedVariables false
set_option maxHeartbeats 4000000
set_option maxRecDepth 100000
namespace Lp
open Go Go.RowKit Go.Proofs
namespace HdYtheccaeefigajaaGreatDoorV104
theorem zbF (b o:Nat):∀ w,(Instr.fieldAt 29 (.pointer (some ⟨b,o,none⟩)) 0).run Tryz.prog w=.ok (.pointer (some ⟨b,o+0,none⟩)) w:=fun _=>by kernel_rfl
end HdYtheccaeefigajaaGreatDoorV104
open HdYtheccaeefigajaaGreatDoorV104
theorem read_al1 (ev es:Value) (hev:EvOk ev) (hes:EvOk es):CD Tryz.prog 14 [HPow,HErr ev,HSyn es] [.v (.string alS1)] (fun r H'=>r=.tup [.agg [.s tBin,.s zal,dI 0,dI 0,.sh 1 (([]:List ByteArray).map D.s),.sh 3 (([]:List MatD).map MatD.d),.sh 7 (Nd.ds zax),dI 0,dI (-1),dI (-1)],dI 0]∧H'=[HPow,HErr ev,HSyn es]):=by
 have h:=Read_c alS1 ev es hev hes
 rw[al9_r1.1,al9_r1.2] at h
 refine CD.to ⟨fun w F vs hvs hF hH=>h.out w F vs (by obtain ⟨u,us,e,hu,hus⟩:=hvs;exact⟨u,us,e,⟨hu,by decide⟩,hus⟩) hF hH⟩ ?_
 rintro r H' ⟨op,text,n,mode,names,ms,kids,o,a,b,e,rfl,rfl⟩
 injection e with e1 e2 e3 e4
 subst e2;subst e3;subst e4
 injection e1 with a1 a2 a3 a4 a5 a6 a7
 subst a1;subst a2;subst a3;subst a4;subst a5;subst a6;subst a7
 exact⟨rfl,rfl⟩
theorem read_al2 (ev es:Value) (hev:EvOk ev) (hes:EvOk es):CD Tryz.prog 14 [HPow,HErr ev,HSyn es] [.v (.string alS2)] (fun r H'=>r=.tup [.agg [.s tFn,.s zb4,dI 0,dI 0,.sh 1 (([]:List ByteArray).map D.s),.sh 3 (([]:List MatD).map MatD.d),.sh 7 (Nd.ds zcP),dI 0,dI (-1),dI (-1)],dI 0]∧H'=[HPow,HErr ev,HSyn es]):=by
 have h:=Read_c alS2 ev es hev hes
 rw[al9_r2.1,al9_r2.2] at h
 refine CD.to ⟨fun w F vs hvs hF hH=>h.out w F vs (by obtain ⟨u,us,e,hu,hus⟩:=hvs;exact⟨u,us,e,⟨hu,by decide⟩,hus⟩) hF hH⟩ ?_
 rintro r H' ⟨op,text,n,mode,names,ms,kids,o,a,b,e,rfl,rfl⟩
 injection e with e1 e2 e3 e4
 subst e2;subst e3;subst e4
 injection e1 with a1 a2 a3 a4 a5 a6 a7
 subst a1;subst a2;subst a3;subst a4;subst a5;subst a6;subst a7
 exact⟨rfl,rfl⟩
theorem alive9_c (ev es:Value) (hev:EvOk ev) (hes:EvOk es):
 CD Tryz.prog 13 [HPow,HErr ev,HSyn es] [] (fun r H'=>r=dB true∧H'=[HPow,HErr ev,HSyn es]):=by
 refine zr Tryz.func13 rfl (N:=56) rfl rfl (fun C=>?_)
 refine jk [] rfl ?_
 have hz0:¬((0:Int)≠(0:Int)):=by omega
 refine jT rfl (oR 1 rfl (oZ rfl (jT rfl (oE rfl (zn [HPow,HErr ev,HSyn es] [] [] rfl rfl (.cons ArgC.id .nil) zi Tryz.call14 (read_al1 ev es hev hes) (.inl rfl)) ?_))))
 rintro _ _ ⟨_,⟨rfl,rfl⟩,rfl⟩
 refine on rfl (oR 3 rfl (oE rfl (zt (zv:=(.agg #[(.string ByteArray.empty),(.string ByteArray.empty),(.int .i64 0),(.int .i64 0),(.slice none 0 0),(.slice none 0 0),(.slice none 0 0),(.int .i64 0),(.int .i64 0),(.int .i64 0)])) Tryz.zeroValue29 ⟨rfl,rfl,rfl,rfl,rfl,rfl,rfl,rfl,rfl,rfl,trivial⟩ (Cv.vagg (by decide))) ?_))
 rintro _ _ ⟨g1,rfl,rfl⟩
 refine oE rfl (zf (i:=0) (X':=.agg [.s tBin,.s zal,dI 0,dI 0,.sh 1 (([]:List ByteArray).map D.s),.sh 3 (([]:List MatD).map MatD.d),.sh 7 (Nd.ds zax),dI 0,dI (-1),dI (-1)]) rfl rfl rfl (CellD.agg) Tryz.sizeOf29 rfl rfl rfl) ?_
 rintro _ _ ⟨rfl,rfl⟩
 refine on rfl (oR 1 rfl (oZ rfl (jT rfl (OpsD.subH (HSub.perm (zc (i:=3) rfl)) (on rfl (OpsD.subH (HSub.perm (zc (i:=3) rfl)) (on rfl (OpsD.subH (HSub.perm (zc (i:=3) rfl)) (on rfl (oE rfl (zn [HPow,HErr ev,HSyn es] [.bx g1 29 (.agg [.s tBin,.s zal,dI 0,dI 0,.sh 1 (([]:List ByteArray).map D.s),.sh 3 (([]:List MatD).map MatD.d),.sh 7 (Nd.ds zax),dI 0,dI (-1),dI (-1)])] [] rfl rfl (.cons ArgC.id .nil) zi Tryz.call14 (read_al2 ev es hev hes) (.inl rfl)) ?_))))))))))
 rintro _ _ ⟨_,⟨rfl,rfl⟩,rfl⟩
 refine on rfl (oR 3 rfl (oE rfl (zt (zv:=(.agg #[(.string ByteArray.empty),(.string ByteArray.empty),(.int .i64 0),(.int .i64 0),(.slice none 0 0),(.slice none 0 0),(.slice none 0 0),(.int .i64 0),(.int .i64 0),(.int .i64 0)])) Tryz.zeroValue29 ⟨rfl,rfl,rfl,rfl,rfl,rfl,rfl,rfl,rfl,rfl,trivial⟩ (Cv.vagg (by decide))) ?_))
 rintro _ _ ⟨g2,rfl,rfl⟩
 refine oE rfl (zf (i:=0) (X':=.agg [.s tFn,.s zb4,dI 0,dI 0,.sh 1 (([]:List ByteArray).map D.s),.sh 3 (([]:List MatD).map MatD.d),.sh 7 (Nd.ds zcP),dI 0,dI (-1),dI (-1)]) rfl rfl rfl (CellD.agg) Tryz.sizeOf29 rfl rfl rfl) ?_
 rintro _ _ ⟨rfl,rfl⟩
 refine on rfl (oR 1 rfl (oZ rfl (jS rfl (jT rfl (oR 1 rfl (oP rfl (zb8 rfl rfl (decide_eq_false hz0)) (oR 2 rfl (oG rfl (zb8 rfl rfl (decide_eq_false hz0)) (oR 1 rfl (oZ rfl (jk [0,1,3,22] rfl (jCf rfl (zp rfl (zl (jT rfl (oP rfl (zd rfl zbF rfl) (oP rfl (zx (d:=.agg [.s tBin,.s zal,dI 0,dI 0,.sh 1 (([]:List ByteArray).map D.s),.sh 3 (([]:List MatD).map MatD.d),.sh 7 (Nd.ds zax)]) rfl (i:=4) rfl Tryz.isAgg27 Tryz.sizeOf27 rfl rfl) (oW rfl rfl acs Tryz.call15 (of_c (Nd.mk tBin zal 0 0 ([]:List ByteArray) ([]:List MatD) zax) (by decide)) (oR 5 rfl (oZ rfl (jT rfl (oP rfl (zd rfl zbF rfl) (oP rfl (zx (d:=.agg [.s tFn,.s zb4,dI 0,dI 0,.sh 1 (([]:List ByteArray).map D.s),.sh 3 (([]:List MatD).map MatD.d),.sh 7 (Nd.ds zcP)]) rfl (i:=0) rfl Tryz.isAgg27 Tryz.sizeOf27 rfl rfl) (oW rfl rfl acs Tryz.call15 (of_c (Nd.mk tFn zb4 0 0 ([]:List ByteArray) ([]:List MatD) zcP) (by decide)) (oR 5 rfl (oZ rfl (jk [0,1,5,6,8] rfl (jS rfl (jk [1,5,6,8] rfl ?_)))))))))))))))))))))))))))))
 refine zX 0 (((((decide ((Nd.mk tBin zal 0 0 ([]:List ByteArray) ([]:List MatD) zax).kindE=(0:Int))&&decide ((Nd.mk tBin zal 0 0 ([]:List ByteArray) ([]:List MatD) zax).kind=(2:Int)))&&decide ((Nd.mk tFn zb4 0 0 ([]:List ByteArray) ([]:List MatD) zcP).kindE=(3:Int)))&&decide ((Nd.mk tBin zal 0 0 ([]:List ByteArray) ([]:List MatD) zax).checkE=(0:Int)))&&decide ((((Nd.mk tBin zal 0 0 ([]:List ByteArray) ([]:List MatD) zax).deep:Nat):Int)=(3:Int)))) [.bx g2 29 (.agg [.s tFn,.s zb4,dI 0,dI 0,.sh 1 (([]:List ByteArray).map D.s),.sh 3 (([]:List MatD).map MatD.d),.sh 7 (Nd.ds zcP),dI 0,dI (-1),dI (-1)]),HPow,HErr ev,HSyn es,.bx g1 29 (.agg [.s tBin,.s zal,dI 0,dI 0,.sh 1 (([]:List ByteArray).map D.s),.sh 3 (([]:List MatD).map MatD.d),.sh 7 (Nd.ds zax),dI 0,dI (-1),dI (-1)])] (fun _ hQ3=>?_) ?_
 · skip
   by_cases hg4:(Nd.mk tBin zal 0 0 ([]:List ByteArray) ([]:List MatD) zax).kindE=(0:Int)
   · skip
     by_cases hg5:(Nd.mk tBin zal 0 0 ([]:List ByteArray) ([]:List MatD) zax).kind=(2:Int)
     · skip
       by_cases hg6:(Nd.mk tFn zb4 0 0 ([]:List ByteArray) ([]:List MatD) zcP).kindE=(3:Int)
       · skip
         by_cases hg7:(Nd.mk tBin zal 0 0 ([]:List ByteArray) ([]:List MatD) zax).checkE=(0:Int)
         · skip
           refine zg rfl (oR 1 rfl (oP rfl (zG rfl rfl (decide_eq_true hg4)) (oR 2 rfl (oG rfl (zG rfl rfl (decide_eq_true hg5)) (oR 3 rfl (oG rfl (zG rfl rfl (decide_eq_true hg6)) (oR 2 rfl (oG rfl (zx (d:=.agg [.s tBin,.s zal,dI 0,dI 0,.sh 1 (([]:List ByteArray).map D.s),.sh 3 (([]:List MatD).map MatD.d),.sh 7 (Nd.ds zax),dI 0,dI (-1),dI (-1)]) rfl (i:=4) rfl Tryz.isAgg29 Tryz.sizeOf29 rfl rfl) (oV rfl rfl acs Tryz.call23 (check_c tBin zal 0 0 ([]:List ByteArray) ([]:List MatD) zax 0 (-1) (-1) (by decide)) (oG rfl (zG rfl rfl (decide_eq_true hg7)) (oR 2 rfl (oG rfl (zd rfl zbF rfl) (oG rfl (zx (d:=.agg [.s tBin,.s zal,dI 0,dI 0,.sh 1 (([]:List ByteArray).map D.s),.sh 3 (([]:List MatD).map MatD.d),.sh 7 (Nd.ds zax)]) rfl (i:=4) rfl Tryz.isAgg27 Tryz.sizeOf27 rfl rfl) (oV rfl rfl acs Tryz.call19 (zfy (Nd.mk tBin zal 0 0 ([]:List ByteArray) ([]:List MatD) zax) (by decide)) (oG rfl (zG rfl rfl rfl) (oR 2 rfl (zq rfl ?_)))))))))))))))))
           exact PD.sub ((0,dB ((((decide ((Nd.mk tBin zal 0 0 ([]:List ByteArray) ([]:List MatD) zax).kindE=(0:Int))&&decide ((Nd.mk tBin zal 0 0 ([]:List ByteArray) ([]:List MatD) zax).kind=(2:Int)))&&decide ((Nd.mk tFn zb4 0 0 ([]:List ByteArray) ([]:List MatD) zcP).kindE=(3:Int)))&&decide ((Nd.mk tBin zal 0 0 ([]:List ByteArray) ([]:List MatD) zax).checkE=(0:Int)))&&decide ((((Nd.mk tBin zal 0 0 ([]:List ByteArray) ([]:List MatD) zax).deep:Nat):Int)=(3:Int))))::[(1,dP g1 0),(5,dI ((Nd.mk tBin zal 0 0 ([]:List ByteArray) ([]:List MatD) zax).kind)),(6,dI ((Nd.mk tBin zal 0 0 ([]:List ByteArray) ([]:List MatD) zax).kindE)),(8,dI ((Nd.mk tFn zb4 0 0 ([]:List ByteArray) ([]:List MatD) zcP).kindE))]) ⟨sc rfl (Cv.eq (congrArg (fun b=>D.v (.bool b)) (by first | (simp[hg4,hg5,hg6,hg7,hz0];done) | (simp_all;done)))),sk rfl,sk rfl,sk rfl,sk rfl,trivial⟩ hQ3
         · skip
           refine zg rfl (oR 1 rfl (oP rfl (zG rfl rfl (decide_eq_true hg4)) (oR 2 rfl (oG rfl (zG rfl rfl (decide_eq_true hg5)) (oR 3 rfl (oG rfl (zG rfl rfl (decide_eq_true hg6)) (oR 2 rfl (oG rfl (zx (d:=.agg [.s tBin,.s zal,dI 0,dI 0,.sh 1 (([]:List ByteArray).map D.s),.sh 3 (([]:List MatD).map MatD.d),.sh 7 (Nd.ds zax),dI 0,dI (-1),dI (-1)]) rfl (i:=4) rfl Tryz.isAgg29 Tryz.sizeOf29 rfl rfl) (oV rfl rfl acs Tryz.call23 (check_c tBin zal 0 0 ([]:List ByteArray) ([]:List MatD) zax 0 (-1) (-1) (by decide)) (oG rfl (zG rfl rfl (decide_eq_false hg7)) (oR 8 rfl (zq rfl ?_))))))))))))
           exact PD.sub ((0,dB ((((decide ((Nd.mk tBin zal 0 0 ([]:List ByteArray) ([]:List MatD) zax).kindE=(0:Int))&&decide ((Nd.mk tBin zal 0 0 ([]:List ByteArray) ([]:List MatD) zax).kind=(2:Int)))&&decide ((Nd.mk tFn zb4 0 0 ([]:List ByteArray) ([]:List MatD) zcP).kindE=(3:Int)))&&decide ((Nd.mk tBin zal 0 0 ([]:List ByteArray) ([]:List MatD) zax).checkE=(0:Int)))&&decide ((((Nd.mk tBin zal 0 0 ([]:List ByteArray) ([]:List MatD) zax).deep:Nat):Int)=(3:Int))))::[(1,dP g1 0),(5,dI ((Nd.mk tBin zal 0 0 ([]:List ByteArray) ([]:List MatD) zax).kind)),(6,dI ((Nd.mk tBin zal 0 0 ([]:List ByteArray) ([]:List MatD) zax).kindE)),(8,dI ((Nd.mk tFn zb4 0 0 ([]:List ByteArray) ([]:List MatD) zcP).kindE))]) ⟨sc rfl (Cv.eq (congrArg (fun b=>D.v (.bool b)) (by first | (simp[hg4,hg5,hg6,hg7,hz0];done) | (simp_all;done)))),sk rfl,sk rfl,sk rfl,sk rfl,trivial⟩ hQ3
       · skip
         refine zg rfl (oR 1 rfl (oP rfl (zG rfl rfl (decide_eq_true hg4)) (oR 2 rfl (oG rfl (zG rfl rfl (decide_eq_true hg5)) (oR 3 rfl (oG rfl (zG rfl rfl (decide_eq_false hg6)) (oR 13 rfl (zq rfl ?_))))))))
         exact PD.sub ((0,dB ((((decide ((Nd.mk tBin zal 0 0 ([]:List ByteArray) ([]:List MatD) zax).kindE=(0:Int))&&decide ((Nd.mk tBin zal 0 0 ([]:List ByteArray) ([]:List MatD) zax).kind=(2:Int)))&&decide ((Nd.mk tFn zb4 0 0 ([]:List ByteArray) ([]:List MatD) zcP).kindE=(3:Int)))&&decide ((Nd.mk tBin zal 0 0 ([]:List ByteArray) ([]:List MatD) zax).checkE=(0:Int)))&&decide ((((Nd.mk tBin zal 0 0 ([]:List ByteArray) ([]:List MatD) zax).deep:Nat):Int)=(3:Int))))::[(1,dP g1 0),(5,dI ((Nd.mk tBin zal 0 0 ([]:List ByteArray) ([]:List MatD) zax).kind)),(6,dI ((Nd.mk tBin zal 0 0 ([]:List ByteArray) ([]:List MatD) zax).kindE)),(8,dI ((Nd.mk tFn zb4 0 0 ([]:List ByteArray) ([]:List MatD) zcP).kindE))]) ⟨sc rfl (Cv.eq (congrArg (fun b=>D.v (.bool b)) (by first | (simp[hg4,hg5,hg6,hz0];done) | (simp_all;done)))),sk rfl,sk rfl,sk rfl,sk rfl,trivial⟩ hQ3
     · skip
       refine zg rfl (oR 1 rfl (oP rfl (zG rfl rfl (decide_eq_true hg4)) (oR 2 rfl (oG rfl (zG rfl rfl (decide_eq_false hg5)) (oR 17 rfl (zq rfl ?_))))))
       exact PD.sub ((0,dB ((((decide ((Nd.mk tBin zal 0 0 ([]:List ByteArray) ([]:List MatD) zax).kindE=(0:Int))&&decide ((Nd.mk tBin zal 0 0 ([]:List ByteArray) ([]:List MatD) zax).kind=(2:Int)))&&decide ((Nd.mk tFn zb4 0 0 ([]:List ByteArray) ([]:List MatD) zcP).kindE=(3:Int)))&&decide ((Nd.mk tBin zal 0 0 ([]:List ByteArray) ([]:List MatD) zax).checkE=(0:Int)))&&decide ((((Nd.mk tBin zal 0 0 ([]:List ByteArray) ([]:List MatD) zax).deep:Nat):Int)=(3:Int))))::[(1,dP g1 0),(5,dI ((Nd.mk tBin zal 0 0 ([]:List ByteArray) ([]:List MatD) zax).kind)),(6,dI ((Nd.mk tBin zal 0 0 ([]:List ByteArray) ([]:List MatD) zax).kindE)),(8,dI ((Nd.mk tFn zb4 0 0 ([]:List ByteArray) ([]:List MatD) zcP).kindE))]) ⟨sc rfl (Cv.eq (congrArg (fun b=>D.v (.bool b)) (by first | (simp[hg4,hg5,hz0];done) | (simp_all;done)))),sk rfl,sk rfl,sk rfl,sk rfl,trivial⟩ hQ3
   · skip
     refine zg rfl (oR 1 rfl (oP rfl (zG rfl rfl (decide_eq_false hg4)) (oR 20 rfl (zq rfl ?_))))
     exact PD.sub ((0,dB ((((decide ((Nd.mk tBin zal 0 0 ([]:List ByteArray) ([]:List MatD) zax).kindE=(0:Int))&&decide ((Nd.mk tBin zal 0 0 ([]:List ByteArray) ([]:List MatD) zax).kind=(2:Int)))&&decide ((Nd.mk tFn zb4 0 0 ([]:List ByteArray) ([]:List MatD) zcP).kindE=(3:Int)))&&decide ((Nd.mk tBin zal 0 0 ([]:List ByteArray) ([]:List MatD) zax).checkE=(0:Int)))&&decide ((((Nd.mk tBin zal 0 0 ([]:List ByteArray) ([]:List MatD) zax).deep:Nat):Int)=(3:Int))))::[(1,dP g1 0),(5,dI ((Nd.mk tBin zal 0 0 ([]:List ByteArray) ([]:List MatD) zax).kind)),(6,dI ((Nd.mk tBin zal 0 0 ([]:List ByteArray) ([]:List MatD) zax).kindE)),(8,dI ((Nd.mk tFn zb4 0 0 ([]:List ByteArray) ([]:List MatD) zcP).kindE))]) ⟨sc rfl (Cv.eq (congrArg (fun b=>D.v (.bool b)) (by first | (simp[hg4,hz0];done) | (simp_all;done)))),sk rfl,sk rfl,sk rfl,sk rfl,trivial⟩ hQ3
 · skip
   refine zl (zm rfl (PD.subH (HSub.perm (zc (i:=3) rfl)) (pn rfl (PD.subH (HSub.perm (zc (i:=3) rfl)) (pn rfl (PD.subH (HSub.perm (zc (i:=3) rfl)) (pn rfl (pn rfl ?_))))))))
   exact zh Tryz.results13 (.cons (zu (zk rfl) (Cv.eq (congrArg (fun b=>D.v (.bool b)) (by obtain ⟨f1,f2,f3,f4,f5⟩:=al9_f;simp only[f1,f2,f3,f4,f5];decide)))) .nil) rfl (HSub.fst 3 rfl) ⟨rfl,rfl⟩
end Lp
set_option linter.unusedVariables false
namespace Lp
open Go
abbrev tSp:ByteArray:=⟨#[32]⟩
abbrev tSec:ByteArray:=⟨#[115,93]⟩
abbrev tOAsc:ByteArray:=⟨#[32,111,114,100,101,114,32,97,115,99]⟩
abbrev tODesc:ByteArray:=⟨#[32,111,114,100,101,114,32,100,101,115,99]⟩
abbrev zbE:ByteArray:=⟨#[32,108,105,109,105,116,32]⟩
abbrev zcn:ByteArray:=⟨#[32,111,102,102,115,101,116,32]⟩
theorem catz:(⟨#[32]⟩:ByteArray).size=1∧(⟨#[40]⟩:ByteArray).size=1∧(⟨#[41]⟩:ByteArray).size=1∧(⟨#[44]⟩:ByteArray).size=1∧(⟨#[123]⟩:ByteArray).size=1∧(⟨#[125]⟩:ByteArray).size=1∧(⟨#[91]⟩:ByteArray).size=1∧(⟨#[115,93]⟩:ByteArray).size=2∧(⟨#[45]⟩:ByteArray).size=1∧(⟨#[32,111,114,100,101,114,32,97,115,99]⟩:ByteArray).size=10∧(⟨#[32,111,114,100,101,114,32,100,101,115,99]⟩:ByteArray).size=11∧(⟨#[32,108,105,109,105,116,32]⟩:ByteArray).size=7∧(⟨#[32,111,102,102,115,101,116,32]⟩:ByteArray).size=8:=⟨rfl,rfl,rfl,rfl,rfl,rfl,rfl,rfl,rfl,rfl,rfl,rfl,rfl⟩
def namP (l:List ByteArray):ByteArray:=zA++zcj zR l++zN
def zci (mode:Int) (a b:ByteArray):ByteArray:=if mode=1 then a else b
def zcM (two:Bool) (t:ByteArray):ByteArray:=if two=true then zA++t++zN else t
def zb6 (op:Int):ByteArray:=if op=1 then tEq else if op=2 then tNe else if op=3 then zai else if op=4 then zL else ByteArray.empty
def matP (m:MatD):ByteArray:=m.n++zb6 m.op++zaP m.v
def binP (text:ByteArray) (mode:Int) (names:List ByteArray) (a b:ByteArray):ByteArray:=
 if mode=0 then a++tSp++text++tSp++b else a++tSp++text++tSp++(zci mode tOn zJ++namP names++tSp)++b
def aggA (text:ByteArray) (mode:Int) (names:List ByteArray):ByteArray:=
 if mode=0 then text else text++(tSp++zci mode tBy zC++tSp++namP names++tSp)
def aggP (text:ByteArray) (n:Nat) (mode:Int) (names:List ByteArray) (a:ByteArray):ByteArray:=
 (if zag text=true then aggA text mode names++zA++(digB n++zR) else aggA text mode names++zA)++a++zN
def selA (text:ByteArray) (ms:List MatD):ByteArray:=
 if text=ByteArray.empty∨0<ms.length then text++(zS++zcj zR (ms.map matP)++zQ) else text
def selP (text:ByteArray) (n:Nat) (ms:List MatD):ByteArray:=
 if 0<n then selA text ms++(tSq++digB n++tSec) else selA text ms
def fnP (text a:ByteArray):ByteArray:=text++zA++a++zN
def Nd.two:Nd→Bool
 | .mk op _ _ _ _ _ _=>decide (op=tNeg)||decide (op=tBin)
def prOf (op text:ByteArray) (n:Nat) (mode:Int) (names:List ByteArray) (ms:List MatD) (ps:List ByteArray) (tw:List Bool):ByteArray:=
 if op=tNum then digB n
 else if op=tNeg then zan++zcM (tw.headD false) (ps.headD ByteArray.empty)
 else if op=tBin then binP text mode names (zcM (tw.headD false) (ps.headD ByteArray.empty)) (zcM (tw.tail.headD false) (ps.tail.headD ByteArray.empty))
 else if op=tAgg then aggP text n mode names (ps.headD ByteArray.empty)
 else if op=tFn then fnP text (ps.headD ByteArray.empty)
 else selP text n ms
mutual
def Nd.pr:Nd→ByteArray
 | .mk op text n mode names ms kids=>prOf op text n.toNat mode names ms (Nd.prs kids) (kids.map Nd.two)
def Nd.prs:List Nd→List ByteArray
 | []=>[]
 | x::r=>Nd.pr x::Nd.prs r
end
inductive Wf:Nd→Prop
 | num {n:Nat} (h:n≤1000000000000):Wf (.mk tNum ByteArray.empty (n:Int) 0 [] [] [])
 | neg {x:Nd}:Wf x→Wf (.mk tNeg ByteArray.empty 0 0 [] [] [x])
 | bin {text:ByteArray} {mode:Int} {names:List ByteArray} {x y:Nd} (h:mode=0∧names=[]∨mode=1∨mode=2):Wf x→Wf y→Wf (.mk tBin text 0 mode names [] [x,y])
 | agg {text:ByteArray} {n:Nat} {mode:Int} {names:List ByteArray} {x:Nd} (h:n≤1000000000000) (hn:zag text=false→n=0) (hm:mode=0∧names=[]∨mode=1∨mode=2):Wf x→Wf (.mk tAgg text (n:Int) mode names [] [x])
 | fn {text:ByteArray} {x:Nd}:Wf x→Wf (.mk tFn text 0 0 [] [] [x])
 | sel {text:ByteArray} {n:Nat} {ms:List MatD} (h:n≤1000000000000) (hm:∀ m∈ms,1≤m.op∧m.op≤4):Wf (.mk nSel text (n:Int) 0 [] ms [])
section
variable {text:ByteArray} {n:Nat} {mode:Int} {names:List ByteArray} {ms:List MatD} {x y:Nd}
theorem pr_num:(Nd.mk tNum text (n:Int) mode names ms []).pr=digB n:=by
 simp only[Nd.pr];unfold prOf;rw[if_pos rfl,Int.toNat_natCast]
theorem pr_neg:(Nd.mk tNeg text (n:Int) mode names ms [x]).pr=zan++zcM x.two x.pr:=by
 simp only[Nd.pr,Nd.prs];unfold prOf;rw[if_neg (by decide),if_pos rfl];rfl
theorem pr_bin:(Nd.mk tBin text (n:Int) mode names ms [x,y]).pr=binP text mode names (zcM x.two x.pr) (zcM y.two y.pr):=by
 simp only[Nd.pr,Nd.prs];unfold prOf;rw[if_neg (by decide),if_neg (by decide),if_pos rfl];rfl
theorem pr_agg:(Nd.mk tAgg text (n:Int) mode names ms [x]).pr=aggP text n mode names x.pr:=by
 simp only[Nd.pr,Nd.prs];unfold prOf;rw[if_neg (by decide),if_neg (by decide),if_neg (by decide),if_pos rfl,Int.toNat_natCast];rfl
theorem pr_fn:(Nd.mk tFn text (n:Int) mode names ms [x]).pr=fnP text x.pr:=by
 simp only[Nd.pr,Nd.prs];unfold prOf;rw[if_neg (by decide),if_neg (by decide),if_neg (by decide),if_neg (by decide),if_pos rfl];rfl
theorem pr_sel:(Nd.mk nSel text (n:Int) mode names ms []).pr=selP text n ms:=by
 simp only[Nd.pr,Nd.prs];unfold prOf;rw[if_neg (by decide),if_neg (by decide),if_neg (by decide),if_neg (by decide),if_neg (by decide),Int.toNat_natCast]
end
def wtOf (text:ByteArray) (names:List ByteArray) (ms:List MatD):Nat:=100+text.size+(zad names+20*names.length)+(zad (ms.map matP)+20*ms.length)
mutual
def Nd.wt:Nd→Nat
 | .mk _ text _ _ names ms kids=>wtOf text names ms+Nd.wtL kids
def Nd.wtL:List Nd→Nat
 | []=>0
 | x::r=>Nd.wt x+Nd.wtL r
end
theorem zba {n:Nat} (h:n≤1000000000000):(digB n).size≤20:=(by unfold digB;rw[zav];have:=digL_13 h;omega)
theorem zdH (b:Bool) (t:ByteArray):(zcM b t).size≤t.size+2∧t.size≤(zcM b t).size:=by
 unfold zcM;split
 · have h1:zA.size=1:=rfl
   have h2:zN.size=1:=rfl
   simp only[ByteArray.size_append];omega
 · omega
theorem namP_sz (l:List ByteArray):(namP l).size≤zad l+l.length+2:=by
 have h:=zaZ (sep:=zR) rfl l
 have h1:zA.size=1:=rfl
 have h2:zN.size=1:=rfl
 unfold namP;simp only[ByteArray.size_append];omega
theorem zdI (m:Int) {a b:ByteArray} {k:Nat} (ha:a.size≤k) (hb:b.size≤k):(zci m a b).size≤k:=by unfold zci;split<;>assumption
theorem binP_sz (text:ByteArray) (mode:Int) (names:List ByteArray) (a b:ByteArray):(binP text mode names a b).size≤text.size+(zad names+names.length)+a.size+b.size+20:=by
 have h1:=namP_sz names
 have h2:=zdI mode (show tOn.size≤8 by decide) (show zJ.size≤8 by decide)
 have h3:tSp.size=1:=rfl
 unfold binP;split<;>(simp only[ByteArray.size_append];omega)
theorem aggA_sz (text:ByteArray) (mode:Int) (names:List ByteArray):(aggA text mode names).size≤text.size+(zad names+names.length)+20:=by
 have h1:=namP_sz names
 have h2:=zdI mode (show tBy.size≤8 by decide) (show zC.size≤8 by decide)
 have h3:tSp.size=1:=rfl
 unfold aggA;split<;>(try simp only[ByteArray.size_append])<;>omega
theorem aggP_sz (text:ByteArray) {n:Nat} (hn:n≤1000000000000) (mode:Int) (names:List ByteArray) (a:ByteArray):(aggP text n mode names a).size≤text.size+(zad names+names.length)+a.size+60:=by
 have h1:=aggA_sz text mode names
 have h2:=zba hn
 have h3:zA.size=1:=rfl
 have h4:zN.size=1:=rfl
 have h5:zR.size=1:=rfl
 unfold aggP;split<;>(simp only[ByteArray.size_append];omega)
theorem selA_sz (text:ByteArray) (ms:List MatD):(selA text ms).size≤text.size+(zad (ms.map matP)+ms.length)+2:=by
 have h:=zaZ (sep:=zR) rfl (ms.map matP)
 rw[List.length_map] at h
 have h3:zS.size=1:=rfl
 have h4:zQ.size=1:=rfl
 unfold selA;split<;>(try simp only[ByteArray.size_append])<;>omega
theorem selP_sz (text:ByteArray) {n:Nat} (hn:n≤1000000000000) (ms:List MatD):(selP text n ms).size≤text.size+(zad (ms.map matP)+ms.length)+30:=by
 have h1:=selA_sz text ms
 have h2:=zba hn
 have h3:tSq.size=1:=rfl
 have h4:tSec.size=2:=rfl
 unfold selP;split<;>(try simp only[ByteArray.size_append])<;>omega
theorem zfD {q:Nd} (h:Wf q):q.pr.size+10≤q.wt:=by
 induction h with
 | num h=>rw[pr_num];have:=zba h;simp only[Nd.wt,wtOf,Nd.wtL];omega
 | @neg x _ ih=>
  rw[show (Nd.mk tNeg ByteArray.empty 0 0 [] [] [x]).pr=_ from pr_neg (n:=0)]
  have h1:=(zdH x.two x.pr).1
  have h2:zan.size=1:=rfl
  simp only[Nd.wt,wtOf,Nd.wtL,ByteArray.size_append];omega
 | @bin text mode names x y h _ _ ih1 ih2=>
  rw[show (Nd.mk tBin text 0 mode names [] [x,y]).pr=_ from pr_bin (n:=0)]
  have h1:=(zdH x.two x.pr).1
  have h2:=(zdH y.two y.pr).1
  have h3:=binP_sz text mode names (zcM x.two x.pr) (zcM y.two y.pr)
  simp only[Nd.wt,wtOf,Nd.wtL];omega
 | @agg text n mode names x h hn hm _ ih=>
  rw[pr_agg]
  have h3:=aggP_sz text h mode names x.pr
  simp only[Nd.wt,wtOf,Nd.wtL];omega
 | @fn text x _ ih=>
  rw[show (Nd.mk tFn text 0 0 [] [] [x]).pr=_ from pr_fn (n:=0)]
  have h3:zA.size=1:=rfl
  have h4:zN.size=1:=rfl
  simp only[Nd.wt,wtOf,Nd.wtL,fnP,ByteArray.size_append];omega
 | @sel text n ms h hm=>
  rw[pr_sel]
  have h3:=selP_sz text h ms
  simp only[Nd.wt,wtOf,Nd.wtL];omega
theorem matP_mem {l:List MatD} {m:MatD} (h:m∈l):(matP m).size≤zad (l.map matP):=by
 induction l with
 | nil=>cases h
 | cons y l ih=>
  have e:zad ((y::l).map matP)=(matP y).size+zad (l.map matP):=by simp[zad]
  rcases List.mem_cons.1 h with h | h
  · rw[e,h];omega
  · have:=ih h;omega
theorem matP_take (l:List MatD) (k:Nat):zad ((l.take k).map matP)≤zad (l.map matP):=by
 have:=zdM (l.map matP) k
 rwa [←List.map_take] at this
theorem matP_eq (m:MatD):(matP m).size=m.n.size+(zb6 m.op).size+(zaP m.v).size:=by unfold matP;simp only[ByteArray.size_append]
def ordP (o:Int) (t:ByteArray):ByteArray:=if o=1 then t++tOAsc else if o=2 then t++tODesc else t
def limP (k:ByteArray) (n:Int) (t:ByteArray):ByteArray:=if 0≤n then t++(k++digB n.toNat) else t
def QryD.pr (q:QryD):ByteArray:=limP zcn q.offset (limP zbE q.limit (ordP q.order q.root.pr))
end Lp
