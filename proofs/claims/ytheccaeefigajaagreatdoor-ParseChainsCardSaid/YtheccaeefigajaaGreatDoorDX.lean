import Derived.Test.YtheccaeefigajaaGreatDoorV107
set_option linter.unusedVariables false
namespace Lp
open Go
theorem sameQ_no {a b:QryD} (h:a≠b):zbP a b=false:=by
 cases e:zbP a b with
 | false=>rfl
 | true=>exact absurd (sameQ_is.1 e) h
end Lp
set_option linter.unusedSimpArgs false
set_option linter.unusedVariables false
set_option maxHeartbeats 4000000
set_option maxRecDepth 100000
namespace Lp
open Go Go.RowKit Go.Proofs
namespace HdYtheccaeefigajaaGreatDoorV109
theorem cv_3_5 {a:Int} (h:0≤a∧a≤255):∀ w,(convert 3 5 (.int .i64 a)).run Tryz.prog w=.ok (.int .u8 a) w:=fun w=>by
 have e:IntKind.u8.wrap a=a:=by simp[IntKind.wrap,IntKind.bits,IntKind.signed];omega
 simp[convert,run_underlying (show Tryz.prog.underlying 3=some _ by kernel_rfl),run_underlying (show Tryz.prog.underlying 5=some _ by kernel_rfl),Conv.intToInt,e]
theorem zbe:Tryz.prog.underlying 103=some (.slice 5):=by kernel_rfl
end HdYtheccaeefigajaaGreatDoorV109
open HdYtheccaeefigajaaGreatDoorV109
theorem Digits_c (v:Nat) (hv:v≤9223372036854775807):
 CD Tryz.prog 26 [] [dN v] (isR (.s (digB v))):=by
 refine zq Tryz.func26 rfl (N:=31) rfl rfl (fun C=>?_)
 refine jk [0] rfl (jT rfl (oR 1 rfl (oZ rfl (jT rfl (oR 3 rfl (oZ rfl (jS rfl (jT rfl (oR 1 rfl (oP rfl (zao rfl rfl rfl) (oZ rfl ?_)))))))))))
 refine jD rfl (fun hc1=>?_) (fun hc1=>?_)
 · skip
   exfalso;omega
 · skip
   refine zr rfl (zo (jS rfl (jB rfl (jl2 (fun (a_:Nat) (b_:ByteArray)=>[(0,dN v),(2,.v (.string ByteArray.empty)),(4,dN a_),(3,.s b_)]) (fun a_ b_=>[]) (fun a_ b_=>(DigI v a_ b_)∧(2*b_.size≤v+4∧(a_=0∨2*b_.size+a_≤v+2))) (fun a_ b_=>2*a_+(1-b_.size)) v ByteArray.empty rfl ⟨sk rfl,sk rfl,sk rfl,sc rfl (Cv.str (by decide)),trivial⟩ HSub.rfl' ⟨DigI.zero,by show 2*0≤_∧(_∨2*0+_≤_);omega⟩ ?_))))
   rintro n o ⟨hI,hz⟩
   refine ja rfl (jn rfl (jS rfl (jS rfl (jk [0,2,3,4] rfl ?_))))
   refine zT 15 ((decide ((0:Int)<((n:Nat):Int))||decide (o=ByteArray.empty))) [] (fun _ hQ2=>?_) ?_
   · skip
     by_cases hg3:(0:Int)<((n:Nat):Int)
     · skip
       refine zf rfl (oR 1 rfl (oP rfl (zaK rfl rfl (decide_eq_true hg3)) (oR 4 rfl (zp rfl ?_))))
       exact PD.sub ((15,dB (decide ((0:Int)<((n:Nat):Int))||decide (o=ByteArray.empty)))::[(0,dN v),(2,.v (.string ByteArray.empty)),(3,.s o),(4,dN n)]) ⟨sc rfl (Cv.eq (congrArg (fun b=>D.v (.bool b)) (by first | (simp[hg3];done) | (simp_all;done) | (simp_all;exact Iff.rfl)))),sk rfl,sk rfl,sk rfl,sk rfl,trivial⟩ hQ2
     · skip
       refine zf rfl (oR 1 rfl (oP rfl (zaK rfl rfl (decide_eq_false hg3)) (oR 2 rfl (oG rfl (za0 rfl rfl rfl) (oR 1 rfl (zp rfl ?_))))))
       exact PD.sub ((15,dB (decide ((0:Int)<((n:Nat):Int))||decide (o=ByteArray.empty)))::[(0,dN v),(2,.v (.string ByteArray.empty)),(3,.s o),(4,dN n)]) ⟨sc rfl (Cv.eq (congrArg (fun b=>D.v (.bool b)) (by first | (simp[hg3];done) | (simp_all;done) | (simp_all;exact Iff.rfl)))),sk rfl,sk rfl,sk rfl,sk rfl,trivial⟩ hQ2
   · skip
     refine zo ?_
     refine jC rfl (fun hc4=>?_) (fun hc4=>?_)
     · simp only[bA,bB,bC,bD,bE,bF,bG,bH,bI,bJ] at hc4
       refine zr rfl (zo (jB rfl (jT rfl (oR 1 rfl (oP rfl (zez (c:=((n % 10:Nat):Int)) rfl rfl (by omega) (by rw[Int.tmod_eq_emod_of_nonneg (by omega)];omega)) (oP rfl (zbI (c:=((48+(n % 10):Nat):Int)) rfl rfl (zaQ (by omega) (by omega))) (oP rfl (zaV rfl (c:=((48+(n % 10):Nat):Int)) (cv_3_5 (by omega))) (oE rfl (zO [.tmp 19] rfl rfl (.cons (CellD.v rfl) .nil) rfl Tryz.runUnderlying103 Tryz.sizeOf5 Tryz.zeroValue5 rfl rfl rfl rfl) ?_))))))))
       rintro _ _ ⟨g5,rfl,rfl⟩
       refine oP rfl ((p_bytes (j:=0) (xs:=[((48+(n % 10):Nat):Int)]) rfl rfl (by simp) zbe (by kernel_rfl) (by kernel_rfl)).cv (Cv.str (by rw[strOfNums_size];show 1≤maxLen;decide))) (oR 1 rfl (oP rfl (za9 rfl rfl (by unfold maxLen;(try simp only[ByteArray.size_append]);(try simp only[ByteArray.size_append,strOfNums_size]);have e1:[((48+(n % 10):Nat):Int)].length=1:=rfl;omega)) (oR 1 rfl (oZ rfl (zf rfl (oR 1 rfl (oP rfl (p_quo (c:=((n / 10:Nat):Int)) rfl rfl (by omega) (zaQ (by rw[Int.tdiv_eq_ediv_of_nonneg (by omega)];omega) (by omega))) (oR 1 rfl (zp rfl (zB ?_))))))))))
       exact pl2 (n / 10) ((⟨#[UInt8.ofNat (48+n % 10)]⟩:ByteArray)++o) ⟨sk rfl,sk rfl,sk rfl,sc rfl (Cv.eq (congrArg D.s (by rw[nums_one (by omega)];rfl))),trivial⟩ HSub.none ⟨hI.next (by have h:=hc4;rcases h with h | h;(exact .inl (by omega));(exact .inr h)),by have ho:0<n∨o.size=0:=(by have h:=hc4;rcases h with h | h;(exact .inl (by omega));(exact .inr (by rw[h];rfl)));have h1:(⟨#[UInt8.ofNat (48+n % 10)]⟩:ByteArray).size=1:=rfl;(try simp only[ByteArray.size_append]);omega⟩ (by have ho:0<n∨o.size=0:=(by have h:=hc4;rcases h with h | h;(exact .inl (by omega));(exact .inr (by rw[h];rfl)));have h1:(⟨#[UInt8.ofNat (48+n % 10)]⟩:ByteArray).size=1:=rfl;show _<_;simp only[ByteArray.size_append];omega)
     · simp only[bA,bB,bC,bD,bE,bF,bG,bH,bI,bJ] at hc4
       refine zaj rfl (zI (zD (zA (zo (jS rfl (jT rfl (oR 1 rfl (oP rfl (zao rfl rfl rfl) (oZ rfl ?_)))))))))
       refine jD rfl (fun hc6=>?_) (fun hc6=>?_)
       · skip
         exfalso;omega
       · skip
         refine zr rfl (zo (jT rfl (oR 2 rfl (oZ rfl (zn rfl ?_)))))
         exact zi Tryz.results26 (.cons (zu (zm rfl) (Cv.eq (congrArg D.s (by have h:=hc4;exact hI.done (by omega) h.2)))) .nil) rfl HSub.none ⟨rfl,rfl⟩
theorem Digits2_c (v:Int) (h0:0≤v) (hv:v≤9223372036854775807):CD Tryz.prog 26 [] [dI v] (isR (.s (digB v.toNat))):=by
 obtain ⟨n,rfl⟩:=Int.eq_ofNat_of_zero_le h0
 exact Digits_c n (by omega)
end Lp
set_option linter.unusedVariables false
namespace Lp
open Go
def opsC:List ByteArray:=[tEqq,tNe,tLt,tLe,tGt,tGe,zeb,zbv,zcT,tOver,tMod]
def lvC:List Int:=[0,0,0,0,0,0,1,1,2,2,2]
def Lw (l:List UInt8) (W:List TokD):Prop:=∃ vs,zV l 0=some vs∧vs.map er=W.map er
theorem Lw.lx {s:ByteArray} {W:List TokD} (h:Lw (bl8 s) W):Lx s W:=h
theorem Lw.step {l r:List UInt8} {x:TokD} {W:List TokD} (h:Lw r W) (hne:l≠[]) (hb:runL isB (l++r)=0) (hf:zt (l++r)=(x,l.length)):Lw (l++r) (x::W):=by
 obtain ⟨us,e1,e2⟩:=h
 obtain ⟨vs,e3,e4⟩:=words_step hne hb hf e1
 exact⟨vs,e3,by rw[e4,List.map_cons,List.map_cons,e2]⟩
def farL:List UInt8:=[61,33,60,62,43,45,42,47,37,41,32,40]
theorem farL_ok:∀ b∈farL,b.toNat<128∧isLD ((b.toNat:Nat):Int)=false∧isD ((b.toNat:Nat):Int)=false:=by decide
def Far (r:List UInt8):Prop:=r=[]∨∃ b t,r=b::t∧b∈farL
theorem far_run {r:List UInt8} (h:Far r):runL isLD r=0∧runL isD r=0:=by
 rcases h with rfl | ⟨b,t,rfl,hb⟩
 · exact⟨zbR,zbR⟩
 · obtain ⟨h1,h2,h3⟩:=farL_ok b hb
   exact⟨zco (by rw[zZ h1];exact h2),zco (by rw[zZ h1];exact h3)⟩
theorem Lw.num {r:List UInt8} {W:List TokD} (h:Lw r W) (hr:Far r) {a:Nat} (ha:a≤1000000000000):Lw (digL a++r) (⟨2,0,digB a⟩::W):=by
 obtain ⟨r1,r2⟩:=far_run hr
 obtain ⟨f1,f2⟩:=num_first (digs_dig a) (digL_ne a) r
 refine h.step (digL_ne a) f2 ?_
 have e1:runL isD (digL a++r)=(digL a).length:=by rw[zcF isD_2 _ _ (digs_dig a),r2];rfl
 have e2:runL isLD (digL a++r)=(digL a).length:=by rw[zcF isLD_2 _ _ (digs_dig a),r1];rfl
 have h13:=zdU ha
 have e3:digV ((digL a++r).take (digL a).length)=a:=by rw[List.take_left];exact digV_digL a
 rw[f1];unfold numT
 rw[e1,e2,e3,if_neg (by omega),if_pos rfl]
theorem digL_cons (a:Nat):∃ b t,digL a=b::t∧48≤b.toNat∧b.toNat≤57:=by
 obtain ⟨b,t,e⟩:=List.exists_cons_of_ne_nil (digL_ne a)
 exact⟨b,t,e,digL_digs a b (by rw[e];exact List.mem_cons_self)⟩
def sgC:List ByteArray:=opsC++[zR,zJ]
theorem sg_first:∀ x∈sgC,∃ b t,bl8 x=b::t∧b.toNat<128∧isB ((b.toNat:Nat):Int)=false∧¬zG ((b.toNat:Nat):Int)=1∧¬zG ((b.toNat:Nat):Int)=2∧¬b.toNat=34∧b∈farL:=by
 intro x hx
 simp only[sgC,opsC,List.cons_append,List.nil_append,List.mem_cons,List.not_mem_nil,or_false] at hx
 rcases hx with rfl | rfl | rfl | rfl | rfl | rfl | rfl | rfl | rfl | rfl | rfl | rfl | rfl<;>exact⟨_,_,rfl,by decide,by decide,by decide,by decide,by decide,by decide⟩
theorem sg_sign:∀ x∈sgC,∀ (b:UInt8) (t:List UInt8),b≠61→b≠126→zbD (bl8 x++b::t)=(⟨5,0,x⟩,x.size):=by
 intro x hx b t h1 h2
 have k1:((61:UInt8)==b)=false:=by simpa using fun e=>h1 e.symm
 have k2:((126:UInt8)==b)=false:=by simpa using fun e=>h2 e.symm
 simp only[sgC,opsC,List.cons_append,List.nil_append,List.mem_cons,List.not_mem_nil,or_false] at hx
 rcases hx with rfl | rfl | rfl | rfl | rfl | rfl | rfl | rfl | rfl | rfl | rfl | rfl | rfl<;>simp[zbD,zbw,zaL,bl8,List.isPrefixOf,k1,k2]<;>rfl
theorem Lw.sign {x:ByteArray} (hx:x∈sgC) {b:UInt8} {t:List UInt8} {W:List TokD} (h:Lw (b::t) W) (h1:b≠61) (h2:b≠126):Lw (bl8 x++b::t) (⟨5,0,x⟩::W):=by
 obtain ⟨c,u,e,k1,k2,k3,k4,k5,_⟩:=sg_first x hx
 have hd:decL (bl8 x++b::t)=(c.toNat,1):=by rw[e];exact zZ k1
 refine h.step (by rw[e];simp) (zco (by rw[hd];exact k2)) ?_
 unfold zt
 rw[hd,if_neg k3,if_neg k4,if_neg k5,sg_sign x hx b t h1 h2,zai]
theorem sg_far {x:ByteArray} (hx:x∈sgC) (r:List UInt8):Far (bl8 x++r):=by
 obtain ⟨c,u,e,_,_,_,_,_,k⟩:=sg_first x hx
 exact .inr ⟨c,u++r,by rw[e];rfl,k⟩
theorem Lw.signd {x:ByteArray} (hx:x∈sgC) {a:Nat} {r:List UInt8} {W:List TokD} (h:Lw (digL a++r) W):Lw (bl8 x++(digL a++r)) (⟨5,0,x⟩::W):=by
 obtain ⟨b,t,e,h1,h2⟩:=digL_cons a
 rw[e] at h ⊢
 exact h.sign hx (by rintro rfl;revert h2;decide) (by rintro rfl;revert h2;decide)
theorem Lw.sp {r:List UInt8} {W:List TokD} (h:Lw r W):Lw (32::r) W:=by
 obtain ⟨vs,e1,e2⟩:=h
 obtain ⟨us,e3,e4⟩:=words_er (a:=1) e1
 refine⟨us,?_,e4.trans e2⟩
 rw[show (32::r:List UInt8)=[32]++r from rfl,wordsL_blank (by intro b hb;rw[List.mem_singleton.1 hb];exact .inl rfl)]
 exact e3
theorem lw_nil:Lw [] []:=⟨[],by unfold zV;rw[zbR];exact zax,rfl⟩
theorem lw_close:Lw (bl8 zJ) [⟨5,0,zJ⟩]:=⟨_,words_close,rfl⟩
section
variable {a b c:Nat} {p q:ByteArray}
theorem zcV (h:p∈opsC):p∈sgC:=List.mem_append_left _ h
theorem sgC_o:zR∈sgC:=by simp[sgC]
theorem lw_end (hc:c≤1000000000000):Lw (digL c) [⟨2,0,digB c⟩]:=by
 have h:=Lw.num lw_nil (.inl rfl) hc
 rwa [List.append_nil] at h
theorem lx_N (ha:a≤1000000000000) (hb:b≤1000000000000) (hc:c≤1000000000000) (hp:p∈opsC) (hq:q∈opsC):Lx (digB a++p++digB b++tSp++q++digB c) [⟨2,0,digB a⟩,⟨5,0,p⟩,⟨2,0,digB b⟩,⟨5,0,q⟩,⟨2,0,digB c⟩]:=by
 have h0:Lw (digL c++[]) [⟨2,0,digB c⟩]:=by rw[List.append_nil];exact lw_end hc
 have h1:=(h0.signd (zcV hq)).sp
 have h2:=h1.num (.inr ⟨32,_,rfl,by decide⟩) hb
 have h3:=h2.signd (zcV hp)
 have h4:=h3.num (sg_far (zcV hp) _) ha
 refine Lw.lx ?_
 simp only[bl8_app,zdj,List.append_assoc,List.append_nil] at h4 ⊢
 exact h4
theorem lx_L (ha:a≤1000000000000) (hb:b≤1000000000000) (hc:c≤1000000000000) (hp:p∈opsC) (hq:q∈opsC):Lx (zR++digB a++p++digB b++zJ++q++digB c) [tkO,⟨2,0,digB a⟩,⟨5,0,p⟩,⟨2,0,digB b⟩,tkC,⟨5,0,q⟩,⟨2,0,digB c⟩]:=by
 have h0:Lw (digL c++[]) [⟨2,0,digB c⟩]:=by rw[List.append_nil];exact lw_end hc
 have h1:=h0.signd (zcV hq)
 have hcl:Lw (bl8 zJ++(bl8 q++(digL c++[]))) (tkC::⟨5,0,q⟩::[⟨2,0,digB c⟩]):=by
  obtain ⟨vs,e1,e2⟩:=h1
  obtain ⟨ws,e3,e4⟩:=words_step (l:=bl8 zJ) (x:=tkC) (by decide) (zco (by rw[show bl8 zJ++(bl8 q++(digL c++[]))=41::(bl8 q++(digL c++[])) from rfl,zZ (by decide)];decide)) (by
   rw[show bl8 zJ++(bl8 q++(digL c++[]))=41::(bl8 q++(digL c++[])) from rfl]
   unfold zt
   rw[zZ (by decide),if_neg (by decide),if_neg (by decide),if_neg (by decide)];rfl) e1
  exact⟨ws,e3,by rw[e4,List.map_cons,List.map_cons,e2]⟩
 have h2:=hcl.num (.inr ⟨41,_,rfl,by decide⟩) hb
 have h3:=h2.signd (zcV hp)
 have h4:=h3.num (sg_far (zcV hp) _) ha
 have h5:=h4.signd sgC_o
 refine Lw.lx ?_
 simp only[bl8_app,zdj,List.append_assoc,List.append_nil] at h5 ⊢
 exact h5
theorem lx_R (ha:a≤1000000000000) (hb:b≤1000000000000) (hc:c≤1000000000000) (hp:p∈opsC) (hq:q∈opsC):Lx (digB a++p++zR++digB b++q++digB c++zJ) [⟨2,0,digB a⟩,⟨5,0,p⟩,tkO,⟨2,0,digB b⟩,⟨5,0,q⟩,⟨2,0,digB c⟩,tkC]:=by
 have h0:=lw_close.num (.inr ⟨41,_,rfl,by decide⟩) hc
 have h1:=h0.signd (zcV hq)
 have h2:=h1.num (sg_far (zcV hq) _) hb
 have h3:=h2.signd sgC_o
 have h3b:Lw (40::(digL b++(bl8 q++(digL c++bl8 zJ)))) [tkO,⟨2,0,digB b⟩,⟨5,0,q⟩,⟨2,0,digB c⟩,tkC]:=h3
 have h4:=(h3b.sign (zcV hp) (by decide) (by decide)).num (sg_far (zcV hp) _) ha
 refine Lw.lx ?_
 simp only[bl8_app,zdj,List.append_assoc] at h4 ⊢
 exact h4
end
def nN (x:ByteArray):Nd:=.mk tNum ByteArray.empty (numV x) 0 [] [] []
def bN (p:ByteArray) (x y:Nd):Nd:=.mk tBin p 0 0 [] [] [x,y]
def lvO (p:ByteArray):Int:=if hasN [zeb,zbv] p=true then 1 else if hasN [zcT,tOver,tMod] p=true then 2 else 0
theorem ex_N (rm:List MatD→Bool) (X Y Z:ByteArray):∀ p∈opsC,∀ q∈opsC,zaO rm 6 ⟨[⟨2,0,X⟩,⟨5,0,p⟩,⟨2,0,Y⟩,⟨5,0,q⟩,⟨2,0,Z⟩],0,false⟩=(if lvO p<lvO q then bN p (nN X) (bN q (nN Y) (nN Z)) else bN q (bN p (nN X) (nN Y)) (nN Z),⟨[],5,false⟩):=by
 intro p hp q hq
 simp only[opsC,List.mem_cons,List.not_mem_nil,or_false] at hp hq
 rcases hp with rfl | rfl | rfl | rfl | rfl | rfl | rfl | rfl | rfl | rfl | rfl<;>rcases hq with rfl | rfl | rfl | rfl | rfl | rfl | rfl | rfl | rfl | rfl | rfl<;>kernel_rfl
theorem ex_L (rm:List MatD→Bool) (X Y Z:ByteArray):∀ p∈opsC,∀ q∈opsC,zaO rm 8 ⟨[tkO,⟨2,0,X⟩,⟨5,0,p⟩,⟨2,0,Y⟩,tkC,⟨5,0,q⟩,⟨2,0,Z⟩],0,false⟩=(bN q (bN p (nN X) (nN Y)) (nN Z),⟨[],5,false⟩):=by
 intro p hp q hq
 simp only[opsC,List.mem_cons,List.not_mem_nil,or_false] at hp hq
 rcases hp with rfl | rfl | rfl | rfl | rfl | rfl | rfl | rfl | rfl | rfl | rfl<;>rcases hq with rfl | rfl | rfl | rfl | rfl | rfl | rfl | rfl | rfl | rfl | rfl<;>kernel_rfl
theorem ex_R (rm:List MatD→Bool) (X Y Z:ByteArray):∀ p∈opsC,∀ q∈opsC,zaO rm 8 ⟨[⟨2,0,X⟩,⟨5,0,p⟩,tkO,⟨2,0,Y⟩,⟨5,0,q⟩,⟨2,0,Z⟩,tkC],0,false⟩=(bN p (nN X) (bN q (nN Y) (nN Z)),⟨[],5,false⟩):=by
 intro p hp q hq
 simp only[opsC,List.mem_cons,List.not_mem_nil,or_false] at hp hq
 rcases hp with rfl | rfl | rfl | rfl | rfl | rfl | rfl | rfl | rfl | rfl | rfl<;>rcases hq with rfl | rfl | rfl | rfl | rfl | rfl | rfl | rfl | rfl | rfl | rfl<;>kernel_rfl
theorem lx_read {s:ByteArray} {W:List TokD} {q:Nd} {c:Int} (h:Lx s W) (hs:s.size≤600) (e:zaO rmD (W.length+1) ⟨W,0,false⟩=(q,⟨[],c,false⟩)):zW s=0∧zbc s=⟨q,0,-1,-1⟩:=by
 obtain ⟨hE,hL⟩:=h.lex hs
 obtain ⟨a1,a2,a3,a4⟩:=brk_ok (rm:=rmD) (l:=W) (q:=q) (c:=c) (by rw[e]) (by rw[e]) 0 [] (fun h e=>by cases e) (lexL s).length ⟨lexL s,0,false⟩ (by rw[hL];simp) rfl rfl (Nat.le_refl _)
 exact read_some hE (parse_end rmD (Prod.ext a1 rfl) (List.map_eq_nil_iff.1 a2) a4)
theorem lr_ne {p q:ByteArray} {X Y Z:ByteArray}:bN p (nN X) (bN q (nN Y) (nN Z))≠bN q (bN p (nN X) (nN Y)) (nN Z):=by
 intro e
 unfold bN at e
 injection e with _ _ _ _ _ _ e
 injection e with e _
 unfold nN at e
 injection e with e
 revert e;decide
theorem lvC_at:∀ i,i<11→∀ p l,opsC[i]?=some p→lvC[i]?=some l→l=lvO p:=by
 intro i hi p l hp hl
 have:∀ k:Fin 11,∀ p∈opsC[k.val]?,∀ l∈lvC[k.val]?,l=lvO p:=by decide
 exact this ⟨i,hi⟩ p hp l hl
theorem ops_sz:∀ p∈opsC,p.size≤2:=by decide
theorem read_chain {a b c:Nat} (ha:a≤1000000000000) (hb:b≤1000000000000) (hc:c≤1000000000000) {p q:ByteArray} (hp:p∈opsC) (hq:q∈opsC):
 zW (digB a++p++digB b++tSp++q++digB c)=0∧zW (zR++digB a++p++digB b++zJ++q++digB c)=0∧zW (digB a++p++zR++digB b++q++digB c++zJ)=0∧
 (lvO p<lvO q→zbc (digB a++p++digB b++tSp++q++digB c)=zbc (digB a++p++zR++digB b++q++digB c++zJ)∧zbc (digB a++p++digB b++tSp++q++digB c)≠zbc (zR++digB a++p++digB b++zJ++q++digB c))∧
 (¬lvO p<lvO q→zbc (digB a++p++digB b++tSp++q++digB c)=zbc (zR++digB a++p++digB b++zJ++q++digB c)∧zbc (digB a++p++digB b++tSp++q++digB c)≠zbc (digB a++p++zR++digB b++q++digB c++zJ)):=by
 have s1:=zdi ha;have s2:=zdi hb;have s3:=zdi hc;have s4:=ops_sz p hp;have s5:=ops_sz q hq
 have t1:tSp.size=1:=rfl
 have t2:zR.size=1:=rfl
 have t3:zJ.size=1:=rfl
 obtain ⟨n1,n2⟩:=lx_read (lx_N ha hb hc hp hq) (by simp only[ByteArray.size_append];omega) (ex_N rmD (digB a) (digB b) (digB c) p hp q hq)
 obtain ⟨l1,l2⟩:=lx_read (lx_L ha hb hc hp hq) (by simp only[ByteArray.size_append];omega) (ex_L rmD (digB a) (digB b) (digB c) p hp q hq)
 obtain ⟨r1,r2⟩:=lx_read (lx_R ha hb hc hp hq) (by simp only[ByteArray.size_append];omega) (ex_R rmD (digB a) (digB b) (digB c) p hp q hq)
 rw[n2,l2,r2]
 refine⟨n1,l1,r1,fun h=>?_,fun h=>?_⟩
 · rw[if_pos h]
   exact⟨rfl,fun e=>by injection e with e;exact lr_ne e⟩
 · rw[if_neg h]
   exact⟨rfl,fun e=>by injection e with e;exact lr_ne e.symm⟩
end Lp
set_option linter.unusedVariables false
namespace Lp
open Go Go.RowKit
inductive Ey where
 | q (d:D)
 | e (d:D)
 | f (m:Value→D)
 | s
def Ey.d (γ:Gh) (i:Nat):Ey→D
 | .q d=>d
 | .e d=>d
 | .f m=>m (γ i)
 | .s=>.v undef
def Ey.isS:Ey→Bool
 | .s=>true
 | _=>false
def geny (γ:Gh):Nat→List (Tmp×Ey)→List En
 | _,[]=>[]
 | i,(t,x)::r=>(t,x.d γ i,none)::geny γ (i+1) r
theorem geny_nth' (γ:Gh):∀ (es:List (Tmp×Ey)) (s i:Nat) (t:Tmp) (d:D) (e:Option (List Hp)),nth (geny γ s es) i=some (t,d,e)→∃ x,nth es i=some (t,x)∧d=x.d γ (s+i)
 | [],_,i,_,_,_,h=>by simp[geny,nth] at h
 | (t,x)::r,s,0,t',d',e',h=>by simp[geny,nth] at h;obtain ⟨rfl,rfl,rfl⟩:=h;exact⟨x,by simp[nth],rfl⟩
 | (t,x)::r,s,i+1,t',d',e',h=>by
  obtain ⟨y,h1,h2⟩:=geny_nth' γ r (s+1) i t' d' e' (by simpa [geny,nth] using h)
  exact⟨y,by simpa [nth] using h1,by rw[show s+(i+1)=s+1+i by omega];exact h2⟩
def ub (D:Nat→Bool) (k:Nat):Nat→Bool:=fun i=>bif Nat.beq i k then true else D i
abbrev HFn:=(Nat→Bool)→Gh→List Hp
def runX (P:Program) (ops:List Oper) (n:Nat) (op:Op) (ty:TypeId) (K:Kd) (Hs:List Hp) (HF:HFn) (γ:Gh) (k:Nat):Ey→Prop
 | .q d=>Qu P op ty K Hs d∧∀ D,HF (ub D k) γ=HF D γ
 | .e d=>∀ D:Nat→Bool,D k=false→(∀ i,i<n→D i=true→∀ j∈zP ops i,D j=true)→(∀ j∈zP ops k,D j=true)→Ef P op ty K (HF D γ) (fun d' H''=>d'=d∧H''=HF (ub D k) γ)
 | .f m=>∀ D:Nat→Bool,D k=false→(∀ i,i<n→D i=true→∀ j∈zP ops i,D j=true)→(∀ j∈zP ops k,D j=true)→Ef P op ty K (HF D γ) (fun d' H''=>∃ v,d'=m v∧H''=HF (ub D k) (ug γ k v))
 | .s=>∀ D:Nat→Bool,D k=false→(∀ i,i<n→D i=true→∀ j∈zP ops i,D j=true)→(∀ j∈zP ops k,D j=true)→Ef P op ty K (HF D γ) (fun _ H''=>H''=HF (ub D k) γ)
structure StepX (P:Program) (N n:Nat) (ops:List Oper) (K:Kd) (Hs:List Hp) (HF:HFn) (γ:Gh) (es:List (Tmp×Ey)) (k:Nat):Prop where
 out:∃ t x dst op ty,nth es k=some (t,x)∧opAt ops k=some (dst,op,ty,none)∧((dst=some t∧x.isS=false)∨(dst=none∧Nat.ble N t=true∧x.isS=true))∧runX P ops n op ty (kpre (geny γ 0 es) K (zP ops k)) Hs HF γ k x
section
variable {P:Program} {N n:Nat} {ops:List Oper} {K:Kd} {Hs:List Hp} {HF:HFn} {γ:Gh} {es:List (Tmp×Ey)} {k:Nat}
theorem sx_q {t:Tmp} {d:D} {op:Op} {ty:TypeId} (he:nth es k=some (t,.q d)) (ho:opAt ops k=some (some t,op,ty,none)) {pre:List Nat} (hp:zP ops k=pre) (h:Qu P op ty (kpre (geny γ 0 es) K pre) Hs d) (hf:∀ D,HF (ub D k) γ=HF D γ):StepX P N n ops K Hs HF γ es k:=
 ⟨t,.q d,_,op,ty,he,ho,.inl ⟨rfl,rfl⟩,by subst hp;exact⟨h,hf⟩⟩
theorem sx_p {t:Tmp} {d:D} {op:Op} {ty:TypeId} (he:nth es k=some (t,.q d)) (ho:opAt ops k=some (some t,op,ty,none)) {pre:List Nat} (hp:zP ops k=pre) (h:Pu P op ty (kpre (geny γ 0 es) K pre) Hs d) (hf:∀ D,HF (ub D k) γ=HF D γ):StepX P N n ops K Hs HF γ es k:=sx_q he ho hp h.qu hf
theorem sx_e {t:Tmp} {d:D} {op:Op} {ty:TypeId} (he:nth es k=some (t,.e d)) (ho:opAt ops k=some (some t,op,ty,none)) {pre:List Nat} (hp:zP ops k=pre) (h:∀ D:Nat→Bool,D k=false→(∀ i,i<n→D i=true→∀ j∈zP ops i,D j=true)→(∀ j∈pre,D j=true)→Ef P op ty (kpre (geny γ 0 es) K pre) (HF D γ) (fun d' H''=>d'=d∧H''=HF (ub D k) γ)):StepX P N n ops K Hs HF γ es k:=
 ⟨t,.e d,_,op,ty,he,ho,.inl ⟨rfl,rfl⟩,by subst hp;exact h⟩
theorem sx_f {t:Tmp} {op:Op} {ty:TypeId} {m:Value→D} (he:nth es k=some (t,.f m)) (ho:opAt ops k=some (some t,op,ty,none)) {pre:List Nat} (hp:zP ops k=pre) (h:∀ D:Nat→Bool,D k=false→(∀ i,i<n→D i=true→∀ j∈zP ops i,D j=true)→(∀ j∈pre,D j=true)→Ef P op ty (kpre (geny γ 0 es) K pre) (HF D γ) (fun d' H''=>∃ v,d'=m v∧H''=HF (ub D k) (ug γ k v))):StepX P N n ops K Hs HF γ es k:=
 ⟨t,.f m,_,op,ty,he,ho,.inl ⟨rfl,rfl⟩,by subst hp;exact h⟩
theorem sx_s {t:Tmp} {op:Op} {ty:TypeId} (he:nth es k=some (t,.s)) (ho:opAt ops k=some (none,op,ty,none)) (hN:Nat.ble N t=true) {pre:List Nat} (hp:zP ops k=pre) (h:∀ D:Nat→Bool,D k=false→(∀ i,i<n→D i=true→∀ j∈zP ops i,D j=true)→(∀ j∈pre,D j=true)→Ef P op ty (kpre (geny γ 0 es) K pre) (HF D γ) (fun _ H''=>H''=HF (ub D k) γ)):StepX P N n ops K Hs HF γ es k:=
 ⟨t,.s,_,op,ty,he,ho,.inr ⟨rfl,hN,rfl⟩,by subst hp;exact h⟩
def zd8 (P:Program) (N n:Nat) (ops:List Oper) (K:Kd) (Hs:List Hp) (HF:HFn) (γ:Gh) (es:List (Tmp×Ey)):Nat→Nat→Prop
 | _,0=>True
 | k,todo+1=>StepX P N n ops K Hs HF γ es k∧zd8 P N n ops K Hs HF γ es (k+1) todo
theorem zd8.get:∀ (todo k:Nat),zd8 P N n ops K Hs HF γ es k todo→∀ i,k≤i→i<k+todo→StepX P N n ops K Hs HF γ es i
 | 0,k,_,i,h1,h2=>by omega
 | todo+1,k,⟨h,hr⟩,i,h1,h2=>by
  rcases Nat.lt_or_ge k i with h3 | h3
  · exact zd8.get todo (k+1) hr i h3 (by omega)
  · have:i=k:=by omega
    subst this;exact h
theorem set_ub {l:Array Bool} {i:Nat} (h:i<l.size):(fun j=>(l.setIfInBounds i true).getD j true)=ub (fun j=>l.getD j true) i:=by
 funext j
 unfold ub
 by_cases e:j=i
 · subst e;rw[Nat.beq_refl];simp[h]
 · rw[zbJ e,getD_set_ne true (fun q=>e q.symm)];rfl
theorem jd_drawx {C:Ctx} {c:Code} {H:List Hp} {Q:zau} (n:Nat) (es:List (Tmp×Ey)) (Hs:List Hp) (HF:HFn) (Hn:Gh→List Hp) (hm:P.follows .mixedOrders=true) (hc:zdh c=some true) (hlen:Nat.beq es.length n=true) (hB:drawB' (zbZ c) n N (K.map fun x=>(x.1,Value.nilFunc))=true) (hs0:∀ D γ,HSub (HF D γ) Hs)
 (h0:∀ γ (D:Nat→Bool),(∀ i,i<n→D i=false)→HF D γ=H) (hHn:∀ γ (D:Nat→Bool),(∀ i,i<n→D i=true)→HF D γ=Hn γ)
 (hsteps:∀ γ,zd8 P N n (zbZ c) K Hs HF γ es 0 n) (next:∀ γ,OpsD P N C (zbZ c) n (enK (geny γ 0 es) K) (Hn γ) (fun ρ w F=>Q .normal ρ w F)):JD P N C c K H Q:=by
 cases c<;>simp[zdh] at hc
 rename_i id opsA draw
 subst hc
 simp only[zbZ] at hB hsteps next
 generalize hops:opsA.toList=ops at hB hsteps next
 have hA:opsA=ops.toArray:=by rw[←hops]
 subst hA
 have hlen:=Nat.eq_of_beq_eq_true hlen
 unfold drawB' at hB
 simp only[Bool.and_eq_true] at hB
 obtain ⟨⟨hback,htail⟩,hfresh⟩:=hB
 unfold freshB' at hfresh
 simp only[Bool.and_eq_true] at hfresh
 obtain ⟨hnl,hfr⟩:=hfresh
 have hnl:=Nat.le_of_ble_eq_true hnl
 rw[List.all_eq_true] at hfr
 have hpre:∀ k,k<ops.length→∀ j∈zP ops k,j<k:=by
  intro k hk j hj
  unfold zdZ at hback
  rw[List.all_eq_true] at hback
  have:=hback k (List.mem_range.2 hk)
  rw[List.all_eq_true] at this
  exact zav.1 (this j hj)
 have hstep:∀ γ i,i<n→StepX P N n ops K Hs HF γ es i:=fun γ i hi=>zd8.get n 0 (hsteps γ) i (Nat.zero_le _) (by omega)
 have hd:∀ i t,i<n→zar ops i=some t→Nat.blt t N=true∧zan K t=none∧∀ j,j<i→zar ops j≠some t:=by
  intro i t hi hdst
  have hf:=hfr i (List.mem_range.2 hi)
  rw[hdst] at hf
  simp only[Bool.and_eq_true,Bool.not_eq_true'] at hf
  refine⟨hf.1.1,lookD_keys hf.1.2,fun j hj=>?_⟩
  have:=hf.2
  rw[List.all_eq_true] at this
  have:=this j (List.mem_range.2 hj)
  simpa using this
 have hdn2:∀ i,i<n→∀ t x,nth es i=some (t,x)→(zar ops i=some t∧x.isS=false)∨(zar ops i=none∧Nat.ble N t=true∧x.isS=true):=by
  intro i hi t x hn
  obtain ⟨t',x',dst,op,ty,h1,h2,h3,_⟩:=(hstep (fun _=>undef) i hi).out
  rw[hn] at h1;cases h1
  have hdst:zar ops i=dst:=by
   obtain ⟨o,q1,q2,_⟩:=zba h2
   have:nth ops i=some o:=by rw[za4];simpa using q1
   simp[zar,this,q2]
  rw[hdst];exact h3
 have hne:∀ i j t,i<n→j<n→i≠j→zar ops i=some t→zar ops j=some t→False:=by
  intro i j t hi hj hij h1 h2
  rcases Nat.lt_or_gt_of_ne hij with hlt | hlt
  · exact(hd j t hj h2).2.2 i hlt h1
  · exact(hd i t hi h1).2.2 j hlt h2
 have hfar:∀ (a:Act),Ok N a→∀ t,Nat.ble N t=true→zN a t=undef:=by
  intro a ok t ht
  have ht:=Nat.le_of_ble_eq_true ht
  simp only[zN,Array.getD_eq_getD_getElem?]
  rw[Array.getElem?_eq_none (by rw[ok.1];exact ht)];rfl
 refine⟨fun a w F ok hk g=>?_⟩
 apply wp_region_any hm
 have final:∀ (γ:Gh) (B:Nat→Bool) (a:Act) (w':World) (F':Nat→Prop),Ok N a→KOk w' F' (zN a) K→Good C (HF B γ) w' F'→(∀ i,i<n→B i=true)→(∀ i t x,i<n→nth es i=some (t,x)→D.rep w' F' (x.d γ i) (zN a t))→
  wpOps P ops.toArray (fun e a' w'=>Ok N a'∧∃ F',Q e (zN a') w' F') (List.range' n (ops.length-n)) a w':=by
  intro γ B a w' F' ok hk g hD hrep
  rw[hHn γ B hD] at g
  have hK:=enK_ok (geny γ 0 es) K hk (fun j t d e hj=>by
   obtain ⟨x,x1,x2⟩:=geny_nth' γ es 0 j t d e hj
   rw[Nat.zero_add] at x2
   subst x2
   exact hrep j t x (by rw[za4] at x1;rw[←hlen];exact(List.getElem?_eq_some_iff.1 x1).1) x1)
  refine zaP ?_ _ _ _ ((next γ).out a w' F' ok hK g)
  rintro e a' w'' ⟨rfl,h1,h2⟩
  exact⟨h1,h2⟩
 have key:∀ (fuel:Nat) (listed:Array Bool) (γ:Gh) (a:Act) (w':World) (F':Nat→Prop),listed.size=ops.length→cnt ops.length listed≤fuel→Ok N a→KOk w' F' (zN a) K→Good C (HF (fun i=>listed.getD i true) γ) w' F'→
  (∀ i t x,i<n→listed.getD i true=true→nth es i=some (t,x)→D.rep w' F' (x.d γ i) (zN a t))→(∀ i,i<n→listed.getD i true=true→∀ j∈zP ops i,listed.getD j true=true)→(∀ i,n≤i→i<ops.length→listed.getD i true=false)→
  wpAny P .any ops.toArray (fun e a' w'=>Ok N a'∧∃ F',Q e (zN a') w' F') fuel listed a w':=by
  intro fuel
  induction fuel with
  | zero=>
   intro listed γ a w' F' hs hcnt ok hk g hh hdn ht
   have hall:∀ i,i<ops.length→listed.getD i true=true:=by
    intro i hi
    cases hc:listed.getD i true with
    | true=>rfl
    | false=>have:=zdC hi hs hc;omega
   have hn:ops.length=n:=by
    rcases Nat.lt_or_ge n ops.length with h' | h'
    · have h1:=ht n (Nat.le_refl _) h'
      rw[hall n h'] at h1;cases h1
    · omega
   refine zb3 (n:=n) hback htail 0 n listed a w' (by omega) (Nat.le_refl _) hnl hs (fun i hi=>by rw[hall i hi];simp;omega) ?_ 0 (by omega)
   exact final γ _ a w' F' ok hk g (fun i hi=>hall i (by omega)) (fun i t x hi hn=>hh i t x hi (hall i (by omega)) hn)
  | succ fuel ih=>
   intro listed γ a w' F' hs hcnt ok hk g hh hdn ht
   by_cases hall:∀ i,i<n→listed.getD i true=true
   · refine zb3 (n:=n) hback htail (ops.length-n) n listed a w' rfl (Nat.le_refl _) hnl hs (fun i hi=>?_) ?_ (fuel+1) ?_
     · rcases Nat.lt_or_ge i n with h' | h'
       · rw[hall i h'];simp[h']
       · rw[ht i h' hi];simp;omega
     · exact final γ _ a w' F' ok hk g hall (fun i t x hi hn=>hh i t x hi (hall i hi) hn)
     · refine Nat.le_trans ?_ hcnt
       unfold cnt
       have hsplit:List.range ops.length=List.range n++List.range' n (ops.length-n):=by
        rw[List.range_eq_range',List.range_eq_range']
        have:=@List.range'_append 0 n (ops.length-n) 1
        simp only[Nat.one_mul,Nat.zero_add] at this
        rw[this];congr 1;omega
       rw[hsplit,List.countP_append]
       have:(List.range' n (ops.length-n)).countP (fun i=>!listed.getD i true)=ops.length-n:=by
        rw[List.countP_eq_length.2]
        · simp
        · intro i hi
          have:=List.mem_range'_1.1 hi
          rw[ht i (by omega) (by omega)];rfl
       omega
   · obtain ⟨i0,hi0⟩:=Classical.not_forall.1 hall
     obtain ⟨hi0n,hi0u⟩:=Classical.not_imp.1 hi0
     have hi0u:listed.getD i0 true=false:=by cases hx:listed.getD i0 true with | false=>rfl | true=>exact absurd hx hi0u
     refine⟨fun he=>absurd he (some_ready hs hback i0 (by omega) hi0u),fun i hi=>?_⟩
     obtain ⟨hu,hil,hps⟩:=zcx.1 hi
     have hin:i<n:=by
      rcases Nat.lt_or_ge i n with h' | h'
      · exact h'
      · exfalso
        have hpm:i0∈ancS ops i (zP ops i):=by
         have ht':=htail
         unfold zeh at ht'
         rw[List.all_eq_true] at ht'
         have:=ht' i (List.mem_range.2 hil)
         rw[Bool.or_eq_true] at this
         rcases this with h'' | h''
         · have:=zav.1 h'';omega
         · rw[List.all_eq_true] at h''
           exact zcN (h'' i0 (List.mem_range.2 (by omega)))
        have:=zdb (p:=fun j=>j<ops.length∧listed.getD j true=true) (fun k hk j hj=>by
         have hkn:k<n:=by
          rcases Nat.lt_or_ge k n with hh | hh
          · exact hh
          · have:=ht k hh hk.1;rw[hk.2] at this;cases this
         exact⟨by have:=hpre k hk.1 j hj;omega,hdn k hkn hk.2 j hj⟩) i _ (fun j hj=>by
         have hjl:j<ops.length:=by have:=hpre i hil j hj;omega
         exact⟨hjl,by rw[zcR hs hjl];exact hps j hj⟩) i0 hpm
        rw[hi0u] at this
        cases this.2
     obtain ⟨t,x,dst,op,ty,h1,h2,hdx,h3⟩:=(hstep γ i hin).out
     have hdst:zar ops i=dst:=by
      obtain ⟨o,q1,q2,_⟩:=zba h2
      have:nth ops i=some o:=by rw[za4];simpa using q1
      simp[zar,this,q2]
     have hpl:∀ j∈zP ops i,listed.getD j true=true:=fun j hj=>by
      have hjl:j<ops.length:=by have:=hpre i hil j hj;omega
      rw[zcR hs hjl];exact hps j hj
     have hkp:KOk w' F' (zN a) (kpre (geny γ 0 es) K (zP ops i)):=kpre_ok hk _ (fun j hj t' d' e' hn'=>by
      obtain ⟨y,y1,y2⟩:=geny_nth' γ es 0 j t' d' e' hn'
      rw[Nat.zero_add] at y2
      subst y2
      exact hh j t' y (by have:=hpre i hil j hj;omega) (hpl j hj) y1)
     obtain ⟨o,o1,o2,o3,o4,o5⟩:=zba h2
     have hdok:dok N dst=true:=by
      cases hds:dst with
      | none=>rfl
      | some t'=>exact(hd i t' hin (by rw[hdst,hds])).1
     have hub:=set_ub (l:=listed) (i:=i) (by omega)
     have after:∀ (γ':Gh) v w'' F'',(∀ j t' x',j≠i→nth es j=some (t',x')→x'.d γ' j=x'.d γ j)→Good C (HF (ub (fun j=>listed.getD j true) i) γ') w'' F''→Keep w' F' w'' F''→(dst=some t→D.rep w'' F'' (x.d γ' i) v)→
      wpAny P .any ops.toArray (fun e a' w'=>Ok N a'∧∃ F',Q e (zN a') w' F') fuel (listed.setIfInBounds i true) (a.put o.dst v) w'':=by
      intro γ' v w'' F'' hoth g' kp hv
      have henv:zN (a.put o.dst v)=upd (zN a) dst v:=by rw[o2];exact zb9 ok hdok v
      rw[←hub] at g'
      refine ih _ γ' _ _ F'' (by simp[hs]) ?_ (ok.put _ _) ?_ g' ?_ ?_ ?_
      · have:=zdC hil hs hu;omega
      · rw[henv]
        cases hds:dst with
        | none=>exact hk.keep kp
        | some t'=>exact(hk.keep kp).other (hd i t' hin (by rw[hdst,hds])).2.1
      · intro j t' x' hj hl hn'
        rw[henv]
        rcases hdn2 j hj t' x' hn' with ⟨e1,e2⟩ | ⟨e1,e2,e3⟩
        · by_cases hij:i=j
          · subst hij
            rw[h1] at hn';cases hn'
            rw[hdst] at e1;subst e1
            simpa [upd] using hv rfl
          · rw[getD_set_ne true hij] at hl
            have hkeep:upd (zN a) dst v t'=zN a t':=by
             cases hds:dst with
             | none=>rfl
             | some t2=>
              have:t'≠t2:=by rintro rfl;exact hne i j t' hin hj hij (by rw[hdst,hds]) e1
              simp only[upd,this,if_false]
            rw[hkeep,hoth j t' x' (fun e=>hij e.symm) hn']
            exact D.keep kp _ _ (hh j t' x' hj hl hn')
        · rw[←henv]
          have:x'.d γ' j=.v undef:=by cases x'<;>simp[Ey.isS] at e3;rfl
          rw[this]
          exact hfar _ (ok.put _ _) t' e2
      · intro j hj hl k hk'
        by_cases hij:i=j
        · subst hij
          have:=hpl k hk'
          have hki:i≠k:=by have:=hpre i hil k hk';omega
          rw[getD_set_ne true hki];exact this
        · rw[getD_set_ne true hij] at hl
          have:=hdn j hj hl k hk'
          by_cases hik:i=k
          · subst hik;rw[hu] at this;cases this
          · rw[getD_set_ne true hik];exact this
      · intro j hj hjl
        rw[getD_set_ne true (by omega)]
        exact ht j hj hjl
     have hDu:(fun j=>listed.getD j true) i=false:=hu
     have gs:=(hs0 (fun j=>listed.getD j true) γ).out _ _ _ g
     have run:runX P ops n op ty (kpre (geny γ 0 es) K (zP ops i)) Hs HF γ i x→EOp P op ty (zN a) w' (fun v w''=>wpAny P .any ops.toArray (fun e a' w'=>Ok N a'∧∃ F',Q e (zN a') w' F') fuel (listed.setIfInBounds i true) (a.put o.dst v) w''):=by
      intro hrun
      cases x with
      | q d=>
       obtain ⟨hrun,hf⟩:=hrun
       refine(Qu.out hrun _ w' F' hkp g.flt gs.h.ok).mono ?_
       rintro v w'' ⟨E,hrep⟩
       rw[←hf] at g
       obtain ⟨g',kp⟩:=Good.fn g E
       exact after γ v w'' _ (fun _ _ _ _ _=>rfl) g' kp (fun _=>hrep)
      | s=>
       refine((hrun _ hDu hdn hpl).out C _ w' F' hkp g).mono ?_
       rintro v w'' ⟨F'',d',H'',rfl,hrep,g',kp⟩
       refine after γ v w'' F'' (fun _ _ _ _ _=>rfl) g' kp (fun ht'=>?_)
       rcases hdx with ⟨_,e⟩ | ⟨e,_,_⟩
       · cases e
       · rw[e] at ht';cases ht'
      | e d=>
       refine((hrun _ hDu hdn hpl).out C _ w' F' hkp g).mono ?_
       rintro v w'' ⟨F'',d',H'',⟨rfl,rfl⟩,hrep,g',kp⟩
       exact after γ v w'' F'' (fun _ _ _ _ _=>rfl) g' kp (fun _=>hrep)
      | f m=>
       refine((hrun _ hDu hdn hpl).out C _ w' F' hkp g).mono ?_
       rintro v w'' ⟨F'',d',H'',⟨vv,rfl,rfl⟩,hrep,g',kp⟩
       refine after (ug γ i vv) v w'' F'' (fun j t' x' hj _=>?_) g' kp ?_
       · cases x' with
         | q _=>rfl
         | e _=>rfl
         | s=>rfl
         | f _=>simp only[Ey.d,zet γ vv hj]
       · intro _;simp only[Ey.d,ug_self];exact hrep
     unfold wpOp
     rw[o1]
     simp only
     rw[if_pos (by unfold Region.wanted;rw[o5])]
     left
     apply zb2
     rw[o3,o4]
     exact run h3
 have gd:=(Good.fn g (Ext.drew w)).1
 have hkd:=hk.keep (Good.fn g (Ext.drew w)).2
 have hz:∀ i,i<n→(Array.replicate ops.toArray.size false).getD i true=false:=fun i hi=>by
  have:i<ops.length:=by omega
  simp[this]
 refine key ops.toArray.size (Array.replicate ops.toArray.size false) (fun _=>undef) a _ _ (by simp) ?_ ok hkd (by rw[h0 _ _ hz];exact gd) (fun i t x hi hl=>?_) (fun i hi hl=>?_) (fun i _ hi=>?_)
 · unfold cnt
   refine Nat.le_trans (List.countP_le_length) (by simp)
 · rw[hz i hi] at hl;cases hl
 · rw[hz i hi] at hl;cases hl
 · simp[hi]
def HF3 (a s:Nat) (A B:Gh→Hp) (H:List Hp):HFn:=fun D γ=>bif D s then A γ::H else bif D a then B γ::H else H
variable {a s:Nat} {A B:Gh→Hp} {H:List Hp}
theorem hf3_0 (ha:Nat.blt a n=true) (hs:Nat.blt s n=true) (γ:Gh) (D:Nat→Bool) (h:∀ i,i<n→D i=false):HF3 a s A B H D γ=H:=by
 unfold HF3;rw[h _ (zav.1 hs),h _ (zav.1 ha)];rfl
theorem hf3_n (hs:Nat.blt s n=true) (γ:Gh) (D:Nat→Bool) (h:∀ i,i<n→D i=true):HF3 a s A B H D γ=A γ::H:=by
 unfold HF3;rw[h _ (zav.1 hs)];rfl
theorem zU (h1:Nat.beq a k=false) (h2:Nat.beq s k=false) (D:Nat→Bool):HF3 a s A B H (ub D k) γ=HF3 a s A B H D γ:=by
 unfold HF3 ub;rw[h1,h2];rfl
theorem Ef.post {op:Op} {ty:TypeId} {R R':D→List Hp→Prop} (h:Ef P op ty K H R) (hR:∀ d H',R d H'→∃ H'',HSub H' H''∧R' d H''):Ef P op ty K H R':=
 ⟨fun C ρ w F hk g=>(h.out C ρ w F hk g).mono (by
  rintro v w' ⟨F',d',H',r,hrep,g',kp⟩
  obtain ⟨H'',s,r'⟩:=hR d' H' r
  exact⟨F',d',H'',r',hrep,s.out _ _ _ g',kp⟩)⟩
theorem sx_c {T R:List Hp} {t:Tmp} {d:D} {op:Op} {ty:TypeId} (he:nth es k=some (t,.e d)) (ho:opAt ops k=some (some t,op,ty,none)) {pre:List Nat} (hp:zP ops k=pre) (hn:Nat.blt s n=true) (hks:has (zP ops s) k=true) (h1:Nat.beq a k=false) (h2:Nat.beq s k=false)
 (h:∀ R,Ef P op ty (kpre (geny γ 0 es) K pre) (T++R) (fun d' H''=>d'=d∧H''=T++R)):StepX P N n ops K Hs (HF3 a s A B (T++R)) γ es k:=
 sx_e he ho hp (fun D hk hD hpr=>by
  rw[zU h1 h2]
  have hs:D s=false:=by
   cases e:D s with
   | false=>rfl
   | true=>have:=hD s (zav.1 hn) e k (zdT hks);rw[hk] at this;cases this
  unfold HF3;rw[hs]
  cases D a with
  | false=>exact h R
  | true=>
   refine Ef.post (Ef.preH (HSub.perm List.perm_middle.symm) (h (B γ::R))) ?_
   rintro _ _ ⟨rfl,rfl⟩
   exact⟨_,HSub.perm List.perm_middle,rfl,rfl⟩)
theorem sx_a {t:Tmp} {op:Op} {ty:TypeId} {m:Value→D} (he:nth es a=some (t,.f m)) (ho:opAt ops a=some (some t,op,ty,none)) {pre:List Nat} (hp:zP ops a=pre) (hn:Nat.blt s n=true) (has':has (zP ops s) a=true) (h2:Nat.beq s a=false)
 (h:Ef P op ty (kpre (geny γ 0 es) K pre) H (fun d' H''=>∃ v,d'=m v∧H''=B (ug γ a v)::H)):StepX P N n ops K Hs (HF3 a s A B H) γ es a:=
 sx_f he ho hp (fun D hk hD hpr=>by
  have hs:D s=false:=by
   cases e:D s with
   | false=>rfl
   | true=>have:=hD s (zav.1 hn) e a (zdT has');rw[hk] at this;cases this
  unfold HF3 ub;rw[hs,hk,h2,Nat.beq_refl]
  exact h)
theorem sx_st {t:Tmp} {op:Op} {ty:TypeId} (he:nth es s=some (t,.s)) (ho:opAt ops s=some (none,op,ty,none)) (hN:Nat.ble N t=true) {pre:List Nat} (hp:zP ops s=pre) (has':has pre a=true) (h:Ef P op ty (kpre (geny γ 0 es) K pre) (B γ::H) (fun _ H''=>H''=A γ::H)):StepX P N n ops K Hs (HF3 a s A B H) γ es s:=
 sx_s he ho hN hp (fun D hk hD hpr=>by
  unfold HF3 ub;rw[hk,hpr a (zdT has'),Nat.beq_refl]
  exact h)
end
end Lp
