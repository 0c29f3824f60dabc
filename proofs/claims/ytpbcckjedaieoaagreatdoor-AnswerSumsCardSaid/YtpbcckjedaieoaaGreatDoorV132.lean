import Derived.Test.YtpbcckjedaieoaaGreatDoorV130
set_option linter.unusedSimpArgs false
set_option linter.unusedVariables false
set_option maxHeartbeats 4000000
set_option maxRecDepth 100000
namespace Lp
open Go Go.RowKit Go.Proofs Tryz
theorem zgd:BdP prog #[⟨"T",3,0,false, "", "",0⟩,⟨"V",3,1,false, "", "",8⟩] [(0,1),(1,1)]:=λ_=>by kernel_rfl
theorem zcL (x y:Operand) (a:Addr) (w:World):(do eqGuard .eql 25 x y (.pointer (some a)) (.pointer none);binOp .eql 25 (.pointer (some a)) (.pointer none):Sem Value).run prog w=.ok (.bool false) w:=by kernel_rfl
theorem fa_48_0:FaP prog 48 0 0:=λ_ _ _=>by kernel_rfl
theorem bsS_c (S:List SerD) (key:List Lbl) (hb:∀ s∈S,zw s.ls key<(0:Int)) (hn:S.length<=1000000):
 CD prog 17 [] [.sh 2 (S.map SerD.d),.sh 2 (key.map Lbl.d),.fn 18 [] []] (isR (.tup [dN S.length,dB false])):=by
 refine tZ func17 O O (λC=>?_);refine T.bd 0 O (λbd0=>?_);have nl0:=zA bd0;refine T.bd 1 O (λbd1=>?_);have nl1:=zA bd1;refine g' 9 O (tP O (zH (n:=S.length) O runUnderlying26 (by simp only[lm,lc,ln])) (g' 12 O (tl1 (λ(a_:Nat)=>[(0,.sh 2 (S.map SerD.d)),(1,.sh 2 (key.map Lbl.d)),(2,.fn 18 [] []),(6,dI 0),(7,dB false),(8,dN S.length),(9,dN a_),(10,dN S.length)]) (λa_=>[]) (λa_=>(a_<=S.length)) (λa_=>S.length-a_) 0 O (sa O) mD (c7 _) ?_)));rintro lo hle;refine g' 8 O ?_;refine tD O (λhc1=>?_) (λhc1=>?_)
 · refine g' 7 O (tP O (zu (c:=((lo+S.length:Nat):Int)) O O (zk (by omega) (by omega))) (tP O (zV O (c:=((lo+S.length:Nat):Int)) (zbW (by omega))) (tP O (zbC (a:=lo+S.length) (n:=1) (m:=2) O O (by decide) (by decide)) (tP O (zV O (c:=(((lo+S.length) / 2:Nat):Int)) (zcC (by omega))) (g' 8 O ?_)))));obtain ⟨x1,hx1⟩:=zj S ((lo+S.length) / 2) (by omega);have hbx1:=hb x1 (zaw hx1);refine tP O (zh (k:=(lo+S.length) / 2) O O runUnderlying26 sizeOf33 (by first | rfl | omega) (ze hx1)) (g' 2 O (tW O acs (sorder_c x1 key) (g' 3 O ?_)));refine tD O (λhc2=>?_) (λhc2=>?_)
   · refine g' 2 O (tP O (zu (c:=((((lo+S.length) / 2)+1:Nat):Int)) O O (zk (by omega) (by omega))) (g' 3 O ?_));exact tp1 ((lo+S.length) / 2+1) (sa O) mD (by omega) (by omega)
   exfalso;omega
 refine g' 10 O (tP O (zba O O (decide_eq_false hc1)) (g' 15 O ?_));exact tRs O results17 (.cons (zf (zd O) (mB (congrArg dN (by omega)))) (.cons (zd O) .nil)) O HSub.none ⟨O,O⟩
theorem insS_c (v:Value) (S:List SerD) (y:SerD) (hn:S.length<=1000000):
 CD prog 19 [.sl v 2 33 (S.map SerD.d)] [.ov v,dN S.length,.sh 2 ([y].map SerD.d)] (λr H'=>∃ v',r=.ov v'/\H'=[.sl v' 2 33 ((S++[y]).map SerD.d)]):=by
 refine tZ func19 O O (λC=>?_);refine T.bd 2 O (λbd2=>?_);have nl2:=zA bd2;refine g' 9 O (tP O (zaa (a:=S.length) (b:=S.length) (j:=0) O O O O (by first | rfl | (show _=_;(try simp only[lm]);omega) | exact cW _) (by first | rfl | (show _=_;(try simp only[lm]);omega) | exact cW _) runUnderlying26 sizeOf33 (by omega) (by (try simp only[lm,la,lc,ln]);first | omega | decide)) (g' 5 O (tP O (zH (n:=[y].length) O runUnderlying26 (by simp only[lm,lc,ln])) (g' 10 O ?_))));refine tD O (λhc1=>?_) (λhc1=>?_)
 · exfalso;have h2:[y].length=1:=rfl;omega
 refine g' 5 O (tP O (zG (n:=S.length) (j:=0) O O runUnderlying26 (cW _)) (g' 11 O ?_));refine tD O (λhc2=>?_) (λhc2=>?_)
 · refine g' 4 O (tE O (zy (f:=SerD.d) (l:=S) (l':=[y]) (i:=0) O O O (SrcD.sh) zdJ zcu O O (by unfold maxLen;(try simp only[la,lc,ln,lm,lt',ld,ls,lr]);omega) (by (try simp only[la,lc,ln,lm,lt',ld,ls,lr]);omega)) ?_);rintro _ _ ⟨v3,rfl,rfl⟩;refine g' 5 O (kC (mE (zau (i:=0) O)) (kC (mG (h':=.sl v3 2 33 ((S++[y]).map SerD.d)) O (mI (show List.map SerD.d (S++[y])=List.map SerD.d (S++[y]) from congrArg _ (by rfl)))) ?_));exact tR O mD ⟨_,O,O⟩
 exfalso;omega
theorem put_c (g:Nat) (v:Value) (S:List SerD) (key:List Lbl) (t x:Int) (hr:zbY key=true) (ht0:0<=t) (ht1:t<=1000000000) (hx:zQ x=true) (hb:∀ s∈S,zw s.ls key<(0:Int)) (hn:S.length<40) (hk:key.length<=1000000):
 CD prog 10 [.bx g 48 (.agg [.ov v]),.sl v 2 33 (S.map SerD.d)] [dP g 0,.sh 2 (key.map Lbl.d),dI t,dI x] (λr H'=>∃ v',r=dI 0/\H'=[.bx g 48 (.agg [.ov v']),.sl v' 2 33 ((S++[(⟨key,[⟨t,x⟩]⟩:SerD)]).map SerD.d)]):=by
 refine tZ func10 O O (λC=>?_);refine T.bd 1 O (λbd1=>?_);have nl1:=zA bd1;refine g' 9 O (tP O (zdX (r:=.bool false) O O (zcL _ _ _)) (g' 2 O (tW O acs (sright_c key) (g' 3 O ?_))));refine tOr 7 2 (c:=decide (t<(0:Int))) O O O O O O (λhb1 nx2=>?_) ?_
 · have hf3:=notF hb1;refine g' 2 O ?_;exact nx2 _ O O (kx 2 O O)
 refine g' 1 O ?_;refine tOr 11 2 (c:=decide ((1000000000:Int)<t)) O O O O O O (λhb4 nx5=>?_) ?_
 · obtain ⟨hf6,hf7⟩:=orF hb4;have hf8:=notF hf6;have hf9:=of_decide_eq_false hf7;refine g' 2 O ?_;exact nx5 _ O O (kx 2 O O)
 refine g' 1 O ?_;refine tOr 15 3 (c:=!(zQ x)) O O O O O O (λhb10 nx11=>?_) ?_
 · obtain ⟨hf12,hf13⟩:=orF hb10;obtain ⟨hf14,hf15⟩:=orF hf12;have hf16:=notF hf14;have hf17:=of_decide_eq_false hf15;have hf18:=of_decide_eq_false hf13;refine g' 1 O (tW O acs (zbR x) (g' 1 O ?_));exact nx11 _ O O (kx 3 O O)
 refine g' 2 O ?_;refine tC O (λhc19=>?_) (λhc19=>?_)
 · simp only[bX,bJ] at hc19;exfalso;rcases hc19 with ((h | h) | h) | h<;>first | omega | (rw[hr] at h;cases h) | (rw[hx] at h;cases h)
 simp only[bX,bJ] at hc19;refine gQ 9 [0] O O (tV [1] O O (.cons (mP (j:=0) O O) (ga (ga .nil))) (bsS_c S key hb (by omega)) O (gQ 22 [0] O O (tP O (zG (n:=S.length) (j:=1) O O runUnderlying26 (cW _)) (g' 3 O ?_))));refine tD O (λhc20=>?_) (λhc20=>?_)
 · exfalso;omega
 refine g' 3 O (kE 1 O (T.keep [0,1,2,3,8,9,10,12,13,14,15,16,17,18,19,22,23,26,27,31,32,33,34,35,36,37,38,39,40,41,42,43,44,45,46,47,48] O ?_));refine tDo 15 [(49,.q (dP g 0)),(50,.q (dP g 0)),(51,.q (dP g 0)),(52,.q (dP g 0)),(53,.q (.ov v)),(54,.q (dN S.length)),(55,.q (.sh 2 (key.map Lbl.d))),(56,.q (.sh 2 (key.map Lbl.d))),(57,.q (dI t)),(58,.q (dI x)),(59,.q (.agg [dI t,dI x])),(60,.q (.sh 2 ([(PtD.mk t x)].map PtD.d))),(61,.q (.agg [.sh 2 (key.map Lbl.d),.sh 2 ([(PtD.mk t x)].map PtD.d)])),(62,.q (.sh 2 ([(SerD.mk key [(PtD.mk t x)])].map SerD.d))),(63,.o (λγ=>[.sl (γ 14) 2 33 ((S++[(⟨key,[⟨t,x⟩]⟩:SerD)]).map SerD.d),.bx g 48 (.agg [.ov v])]))] [.bx g 48 (.agg [.ov v])] (Hn:=λγ=>[.sl (γ 14) 2 33 ((S++[(⟨key,[⟨t,x⟩]⟩:SerD)]).map SerD.d),.bx g 48 (.agg [.ov v])]) mixed O O (by kernel_rfl) (by kernel_rfl) (by kernel_rfl) (mU 1 rfl) (λ_=>rfl) (λγ=>⟨so_p rfl rfl rfl (zc rfl),so_p rfl rfl rfl (zc rfl),so_p rfl rfl rfl (zb0 rfl),so_p rfl rfl rfl (zl rfl fa_48_0 rfl),so_p rfl rfl rfl (zn rfl (i:=0) rfl isAgg26 rfl),so_p rfl rfl rfl (zc rfl),so_p rfl rfl rfl (zc rfl),so_q rfl rfl rfl (zac rfl (gc .nil) Tryz.call20 (zd6 key (by omega)) zbb),so_p rfl rfl rfl (zc rfl),so_p rfl rfl rfl (zc rfl),so_p rfl rfl rfl (zr [0,1] [.tmp 57,.tmp 58] (zv:=cF) rfl rfl (.cons (CellD.v rfl) (.cons (CellD.v rfl) .nil)) (runUnderlying35) zeroValue35 zgd ⟨rfl,rfl,trivial⟩ rfl),so_q rfl rfl rfl (zm [.tmp 59] rfl rfl (.cons CellD.agg .nil) rfl runUnderlying31 sizeOf35 zeroValue35 rfl rfl rfl rfl),so_p rfl rfl rfl (zr [0,1] [.tmp 56,.tmp 60] (zv:=cK) rfl rfl (.cons CellD.sh (.cons CellD.sh .nil)) (runUnderlying33) zeroValue33 bd_33 ⟨rfl,rfl,trivial⟩ rfl),so_q rfl rfl rfl (zm [.tmp 61] rfl rfl (.cons CellD.agg .nil) rfl runUnderlying26 sizeOf33 zeroValue33 rfl rfl rfl rfl),so_o rfl rfl rfl rfl ((zeb [.sl v 2 33 (S.map SerD.d)] [.bx g 48 (.agg [.ov v])] [] rfl rfl (ga (ga (ga .nil))) zcW Tryz.call19 (insS_c v S (⟨key,[⟨t,x⟩]⟩:SerD) (by omega)) (.inl rfl)).mono (by rintro _ _ ⟨_,⟨v,rfl,rfl⟩,rfl⟩;exact⟨v,rfl,rfl⟩)) (λ_=>mU 1 rfl),trivial⟩) (λγ=>?_);refine tK O (gQ 12 [1] O O (kE 1 O ?_));exact tR O (mT 2 O) ⟨(γ 14),O,O⟩
theorem p_elnil {P:Program} {ty t t':TypeId} {K:Kd} {H:List Hp} {x y:Operand} {X:D} {o:Nat} (hx:opD K x=some (.el X o)) (hy:y=.const (.pointer none)) (he:∀ (x y:Operand) (a:Addr) (w:World),(do eqGuard .eql t x y (.pointer (some a)) (.pointer none);binOp .eql t (.pointer (some a)) (.pointer none):Sem Value).run P w=.ok (.bool false) w):Pu P (.binOp .eql t x y t') ty K H (dB false):=
 ⟨λρ F0 F hk _ _=>by
  subst hy;obtain ⟨b,p,u,e,_⟩:=hk.op hx;exact zbS (zp ρ [x,.const (.pointer none)]) (za5 ρ e) (za4 ρ O) (λw=>he _ _ _ w) ⟨O,O⟩⟩
theorem All_c (S:List SerD) (hn:S.length<=1000) (hs:∀ s∈S,s.ls.length<=1000000/\s.ps.length<=1000000):
 CD prog 188 [] [.el (.agg [.sh 2 (S.map SerD.d)]) 0] (zcc 2 33 (S.map SerD.d)):=by
 refine tZ func188 O O (λC=>?_);refine T.bd 0 O (λbd0=>?_);refine g' 9 O (tP O (p_elnil O O zcL) (g' 11 O (tX [] O O acs (copies_c S (by omega) hs) ?_)));rintro _ _ ⟨v1,rfl,rfl⟩;refine g' 4 O (kC (mE (zau (i:=0) O)) ?_);exact tR O mD ⟨_,O,O⟩
end Lp
namespace Lp
open Go
variable {l:List UInt8} {k:Nat} {n:ByteArray} {s:ByteArray}
def asc (l:List UInt8):Bool:=l.all (λb=>decide (b.toNat<128))
theorem asc_cons {b:UInt8} (h:asc (b::l)=true):b.toNat<128/\asc l=true:=by
 unfold asc at h ⊢;simp only[List.all_cons,c8,decide_eq_true_eq] at h;exact h
theorem asc_drop (h:asc l=true) (n:Nat):asc (l.drop n)=true:=by
 unfold asc at h ⊢;rw[dK] at h ⊢;exact λb hb=>h b (u5 hb)
theorem asc_take (h:asc l=true) (n:Nat):asc (l.take n)=true:=by
 unfold asc at h ⊢;rw[dK] at h ⊢;exact λb hb=>h b (uH hb)
def runA (f:Int->Bool):List UInt8->Nat
 | []=>0
 | b::r=>if f (b.toNat:Int)=true then 1+runA f r else 0
theorem zfa (f:Int->Bool):∀ (l:List UInt8),asc l=true->runL f l=runA f l
 | [],_=>zep
 | b::r,h=>by
  obtain ⟨h1,h2⟩:=asc_cons h;unfold runA;have hd:=zaL (t:=r) h1;by_cases hf:f (b.toNat:Int)=true
  · rw[if_pos hf,zdL (by simp) (by rw[hd];exact hf),hd];show 1+runL f r=_;rw[zfa f r h2]
  rw[if_neg hf,zeX (by rw[hd];simpa using hf)]
theorem runes_asc (h:asc l=true):zS (mkB l)=l.map (λb=>(b.toNat:Int)):=by
 have key:∀ (n p:Nat),(mkB l).size-p=n->zaB (mkB l) p=(l.drop p).map (λb=>(b.toNat:Int)):=by
  intro n
  induction n using Nat.strongRecOn with
  | _ n ih=>
   intro p hn;rw[zad] at hn;rcases dH p l.length with hp | hp
   · have hb:bts (mkB l) p=l.drop p:=(by unfold bts;rw[<-zb4 l];rfl);obtain ⟨b,hx⟩:∃ b,l[p]?=some b:=⟨l[p],dX hp⟩;have hdr:l.drop p=b::l.drop (p+1):=by
      rw[uS hp];congr 1;rw[dX hp] at hx;injection hx
     have hb1:b.toNat<128:=(asc_cons (by rw[<-hdr];exact asc_drop h p)).1;have hd:decL (bts (mkB l) p)=(b.toNat,1):=(by rw[hb,hdr];exact zaL hb1);rw[zav (by rw[zad];exact hp),zcB,zcz,hd,hdr];rw[ih (l.length-(p+1)) (by omega) (p+1) (by rw[zad])];rfl
   rw[zaH (by rw[zad];exact hp),d8 hp];rfl
 rw[show zS (mkB l)=zaB (mkB l) 0 from rfl,key _ 0 rfl,jF]
def digK:Nat->Nat->List UInt8
 | 0,_=>[]
 | f+1,n=>if n<10 then [UInt8.ofNat (48+n)] else digK f (n / 10)++[UInt8.ofNat (48+n % 10)]
theorem digK_eq:∀ (f n:Nat),0<f->n<10 ^ f->digK f n=digL n
 | 0,n,h,_=>absurd h (by omega)
 | f+1,n,_,h=>by
  unfold digK digL;by_cases hn:n<10
  · rw[if_pos hn,dif_pos hn]
  rw[if_neg hn,dif_neg hn];rw[Nat.pow_succ] at h;cases f with
  | zero=>simp at h;omega
  | succ f=>rw[digK_eq (f+1) (n / 10) (by omega) (by omega)]
theorem digK_B {n:Nat} (h:n<=1000000000000):mkB (digK 20 n)=digB n:=by
 unfold digB;rw[digK_eq 20 n (by decide) (wA h (by decide))]
def za1 (b:UInt8):Bool:=decide (b.toNat<128)&&decide (b.toNat≠34)&&decide (b.toNat≠92)&&decide (b.toNat≠10)
theorem enc_asc {c:Nat} (h:c<128):encR c=[UInt8.ofNat c]:=by unfold encR;rw[if_pos (by omega),Nat.mod_eq_of_lt (by omega)]
theorem quote_plain (h:∀ b∈l,za1 b=true):zaI (mkB l)=34::(l++[34]):=by
 have key:∀ (n p:Nat),(mkB l).size-p=n->zab (mkB l) p=l.drop p:=by
  intro n
  induction n using Nat.strongRecOn with
  | _ n ih=>
   intro p hn;rw[zad] at hn;rcases dH p l.length with hp | hp
   · have hb:bts (mkB l) p=l.drop p:=(by unfold bts;rw[<-zb4 l];rfl);have hdr:l.drop p=l[p]::l.drop (p+1):=uS hp;have hq:=h l[p] (List.getElem_mem hp);unfold za1 at hq;simp only[c8,decide_eq_true_eq] at hq;obtain ⟨⟨⟨h1,h2⟩,h3⟩,h4⟩:=hq;have hd:decL (bts (mkB l) p)=(l[p].toNat,1):=(by rw[hb,hdr];exact zaL h1);have hr:decR (mkB l) p=l[p].toNat:=(by rw[zcB,hd]);have hw:decW (mkB l) p=1:=(by rw[zcz,hd]);rw[zaK (by rw[zad];exact hp),piece_4 (by rw[hr];omega) (by rw[hr];exact h4) (by rw[hr];omega),hr,hw,enc_asc h1,ih (l.length-(p+1)) (by omega) (p+1) (by rw[zad]),hdr];simp
   rw[zbf (by rw[zad];exact hp),d8 hp]
 unfold zaI;rw[key _ 0 rfl,jF]
def firstA (l:List UInt8):Option (TokD×Nat):=
 match l with
 | []=>none
 | c::r=>
  if zJ (c.toNat:Int)=1 then
   if zds 0 ((l.take (runA isLD l)).map (λb=>(b.toNat:Int)))=true/\0<runA isLD l then some (⟨1,0,mkB (l.take (runA isLD l))⟩,runA isLD l) else none
  else if zJ (c.toNat:Int)=2 then
   if 13<runA isD l\/1000000000000<digV (l.take (runA isD l))\/runA isD l=0 then none
   else if runA isLD l=runA isD l then some (⟨2,0,mkB (digK 20 (digV (l.take (runA isD l))))⟩,runA isD l)
   else if secB (mkB ((l.take (runA isLD l)).drop (runA isD l)))=0\/1000000000 / secB (mkB ((l.take (runA isLD l)).drop (runA isD l)))<digV (l.take (runA isD l))\/1000000000000<digV (l.take (runA isD l))*secB (mkB ((l.take (runA isLD l)).drop (runA isD l)))\/runA isLD l=0 then none
   else some (⟨4,0,mkB (digK 20 (digV (l.take (runA isD l))*secB (mkB ((l.take (runA isLD l)).drop (runA isD l)))))⟩,runA isLD l)
  else if c.toNat=34 then
   if (r.drop (r.takeWhile za1).length).head?=some 34 then some (⟨3,0,mkB (r.takeWhile za1)⟩,(r.takeWhile za1).length+2) else none
  else if (zcn l).2=0 then none else some (zcn l)
theorem firstA_ok (ha:asc l=true) {t:TokD} {n:Nat} (h:firstA l=some (t,n)):zt l=(t,n)/\n≠0:=by
 cases l with
 | nil=>cases h
 | cons c r=>
  have hc:=(asc_cons ha).1;have hd:=zaL (t:=r) hc;unfold firstA at h;simp only at h;unfold zt;rw[hd];by_cases h1:zJ (c.toNat:Int)=1
  · rw[if_pos h1] at h ⊢;split at h
    · rename_i h2;injection h with h;injection h with e1 e2;subst e1;subst e2;refine⟨?_,by omega⟩;unfold zb8;rw[zfa _ _ ha];have hn:zbu (mkB ((c::r).take (runA isLD (c::r))))=true:=(by unfold zbu;rw[runes_asc (asc_take ha _)];exact h2.1);rw[if_pos hn]
    cases h
  rw[if_neg h1] at h ⊢;by_cases h2:zJ (c.toNat:Int)=2
  · rw[if_pos h2] at h ⊢;unfold numT;rw[zfa _ _ ha,zfa _ _ ha];split at h
    · cases h
    rename_i h3;rw[if_neg (by omega)];split at h
    · rename_i h4;injection h with h;injection h with e1 e2;subst e1;subst e2;rw[if_pos h4,digK_B (by omega)];exact⟨rfl,by omega⟩
    rename_i h4;split at h
    · cases h
    rename_i h5;injection h with h;injection h with e1 e2;subst e1;subst e2;rw[if_neg h4,if_neg (by omega),digK_B (by omega)];exact⟨rfl,by omega⟩
  rw[if_neg h2] at h ⊢;by_cases h3:c.toNat=34
  · rw[if_pos h3] at h;split at h
    · rename_i h4;injection h with h;injection h with e1 e2;subst e1;subst e2;refine⟨?_,by omega⟩;have hr:r=r.takeWhile za1++34::r.drop ((r.takeWhile za1).length+1):=by
       have e1:r=r.take (r.takeWhile za1).length++r.drop (r.takeWhile za1).length:=(dQ _ _).symm;have e2:r.take (r.takeWhile za1).length=r.takeWhile za1:=by
        have:=List.takeWhile_prefix (l:=r) za1;exact(List.prefix_iff_eq_take.1 this).symm
       have e3:r.drop (r.takeWhile za1).length=34::r.drop ((r.takeWhile za1).length+1):=by
        cases hh:r.drop (r.takeWhile za1).length with
        | nil=>rw[hh] at h4;cases h4
        | cons y z=>
         rw[hh] at h4;have:y=34:=(by simpa using h4);subst this;congr 1;have:=congrArg List.tail hh;rw[List.tail_drop] at this;exact this.symm
       rw[<-e3,<-e2];rw[e2];exact e1.trans (by rw[e2])
      have hq:=quote_plain (l:=r.takeWhile za1) (λb hb=>by
       have:=List.all_takeWhile (p:=za1) (l:=r);exact dK.1 this b hb)
      have hc34:c=34:=wQ.1 h3;have hl:c::r=zaI (mkB (r.takeWhile za1))++r.drop ((r.takeWhile za1).length+1):=by
       rw[hq,hc34];simp only[jJ,cY,d9];congr 1
      have hs:=strT_quote (mkB (r.takeWhile za1)) (r.drop ((r.takeWhile za1).length+1));rw[<-hl] at hs;unfold zt at hs;rw[hd,if_neg h1,if_neg h2] at hs;rw[hs,hq];simp
    cases h
  rw[if_neg h3] at h;have h3':¬(c.toNat,1).1=34:=h3;rw[if_neg h3'];split at h
  · cases h
  rename_i h4;injection h with h;rw[h] at h4 ⊢;exact⟨rfl,h4⟩
def lexA:Nat->List UInt8->Nat->Option (List TokD)
 | 0,_,_=>none
 | f+1,l,a=>
  if l.drop (runA isB l)=[] then some []
  else match firstA (l.drop (runA isB l)) with
   | none=>none
   | some (t,n)=>(lexA f ((l.drop (runA isB l)).drop n) (a+runA isB l+n)).map (t.put (a+runA isB l)::·)
theorem lexA_ok:∀ (f:Nat) (l:List UInt8) (a:Nat) (ts:List TokD),asc l=true->lexA f l a=some ts->zaN l a=some ts
 | 0,l,a,ts,_,h=>by cases h
 | f+1,l,a,ts,ha,h=>by
  unfold lexA at h;have hb:=zfa isB l ha;unfold zaN;rw[hb];split at h
  · rename_i h0;injection h with h;subst h;rw[h0];exact zbd
  rename_i h0;cases e:firstA (l.drop (runA isB l)) with
  | none=>rw[e] at h;cases h
  | some p=>
   obtain ⟨t,n⟩:=p;rw[e] at h;simp only at h;obtain ⟨e1,e2⟩:=firstA_ok (asc_drop ha _) e;cases e3:lexA f ((l.drop (runA isB l)).drop n) (a+runA isB l+n) with
   | none=>rw[e3] at h;cases h
   | some t2=>
    rw[e3] at h;have h:t.put (a+runA isB l)::t2=ts:=(by injection h);have ih:=lexA_ok f _ _ _ (asc_drop (asc_drop ha _) n) e3;have hlen:(l.drop (runA isB l)).length<=l.length:=(by rw[dL];omega);rw[zcO h0 (by rw[e1];exact e2) hlen,e1];simp only;rw[ih];show some _=some _;rw[<-h]
theorem zdt {ts:List TokD} (h:lexA (s.size+1) (bl8 s) 0=some ts) (ha:asc (bl8 s)=true) (hs:s.size<=600):lexL s=ts/\lexE s=0:=lex_of hs (lexA_ok _ _ _ _ ha h)
abbrev zaW:ByteArray:=(⟨#[104,111,115,116]⟩:ByteArray)
abbrev bCpu:ByteArray:=(⟨#[99,112,117]⟩:ByteArray)
abbrev bSum:ByteArray:=(⟨#[115,117,109]⟩:ByteArray)
abbrev zfX:ByteArray:=(⟨#[115,117,109,32,98,121,32,40,104,111,115,116,41,32,40,99,112,117,41,32,111,114,100,101,114,32,100,101,115,99,32,108,105,109,105,116,32,49]⟩:ByteArray)
abbrev zfW:ByteArray:=(⟨#[49,32,43,32,50,32,42,32,51]⟩:ByteArray)
abbrev a12T1:List TokD:=[⟨1,0,bSum⟩,⟨1,4,(⟨#[98,121]⟩:ByteArray)⟩,⟨5,7,(⟨#[40]⟩:ByteArray)⟩,⟨1,8,zaW⟩,⟨5,12,(⟨#[41]⟩:ByteArray)⟩,⟨5,14,(⟨#[40]⟩:ByteArray)⟩,⟨1,15,bCpu⟩,⟨5,18,(⟨#[41]⟩:ByteArray)⟩,⟨1,20,(⟨#[111,114,100,101,114]⟩:ByteArray)⟩,⟨1,26,(⟨#[100,101,115,99]⟩:ByteArray)⟩,⟨1,31,(⟨#[108,105,109,105,116]⟩:ByteArray)⟩,⟨2,37,(⟨#[49]⟩:ByteArray)⟩]
abbrev a12T2:List TokD:=[⟨2,0,(⟨#[49]⟩:ByteArray)⟩,⟨5,2,(⟨#[43]⟩:ByteArray)⟩,⟨2,4,(⟨#[50]⟩:ByteArray)⟩,⟨5,6,(⟨#[42]⟩:ByteArray)⟩,⟨2,8,(⟨#[51]⟩:ByteArray)⟩]
theorem al12_1:lexL zfX=a12T1/\lexE zfX=0:=zdt (by kernel_rfl) (by decide) (by decide)
theorem al12_2:lexL zfW=a12T2/\lexE zfW=0:=zdt (by kernel_rfl) (by decide) (by decide)
def numN (n:Int):Nd:=.mk tNum ByteArray.empty n 0 [] [] []
def a12C:Nd:=.mk nSel bCpu 0 0 [] [] []
def a12P:Nd:=.mk tBin tTimes 0 0 [] [] [numN 2,numN 3]
def a12A:Nd:=.mk tAgg bSum 0 1 [zaW] [] [a12C]
def a12B:Nd:=.mk tBin zfw 0 0 [] [] [numN 1,a12P]
theorem zeZ {l:List TokD} {q:QryD} (h:lexL s=l/\lexE s=0) (hp:ze0 rmD l=some q):zc7 s=0/\zc6 s=q:=by
 unfold zc7 zc6;rw[if_pos h.2,if_pos h.2,h.1,hp];exact⟨rfl,rfl⟩
theorem al12_r1:zc7 zfX=0/\zc6 zfX=⟨a12A,2,1,-1⟩:=zeZ al12_1 (by kernel_rfl)
theorem al12_r2:zc7 zfW=0/\zc6 zfW=⟨a12B,0,-1,-1⟩:=zeZ al12_2 (by kernel_rfl)
abbrev alN:List ByteArray:=[⟨#[97]⟩,⟨#[98]⟩]
def alL (x:ByteArray):List Lbl:=[⟨zaW,x⟩,⟨metB,bCpu⟩]
def alS:List SerD:=[⟨alL ⟨#[97]⟩,[⟨10,5⟩]⟩,⟨alL ⟨#[98]⟩,[⟨10,6⟩]⟩]
theorem al_step {x:ByteArray} (h:alN[k]?=some x):zbY (alL x)=true/\(∀ s∈alS.take k,zw s.ls (alL x)<0)/\zQ ((5+k:Nat):Int)=true/\alS.take k++[⟨alL x,[⟨10,((5+k:Nat):Int)⟩]⟩]=alS.take (k+1):=by
 match k with
 | 0=>injection h with h;subst h;exact⟨by kernel_rfl,λs hs=>(by cases hs),by decide,rfl⟩
 | 1=>
  injection h with h;subst h;refine⟨by kernel_rfl,λs hs=>?_,by decide,O⟩;have e:s=⟨alL ⟨#[97]⟩,[⟨10,5⟩]⟩:=by simpa [alS] using hs
  subst e;have:zw (alL ⟨#[97]⟩) (alL ⟨#[98]⟩)= -1:=by kernel_rfl
  show zw (alL ⟨#[97]⟩) (alL ⟨#[98]⟩)<0;omega
 | k+2=>cases h
theorem alS_len:∀ s∈alS,s.ls.length<=1000000/\s.ps.length<=1000000:=by decide
theorem selR_in {S:List SerD} {t:Int} {x:SerD} (hx:S[k]?=some x) (h:(zch x.ps t 300).2=true):selR (S.take (k+1)) t=selR (S.take k) t++[⟨x.ls,(zch x.ps t 300).1⟩]:=by
 unfold selR;rw[zU hx,List.filterMap_append];congr 1;show List.filterMap _ [x]=_;rcases e:zch x.ps t 300 with ⟨v,b⟩;rw[e] at h;cases h;simp[List.filterMap,e]
theorem selR_out {S:List SerD} {t:Int} {x:SerD} (hx:S[k]?=some x) (h:(zch x.ps t 300).2=false):selR (S.take (k+1)) t=selR (S.take k) t:=by
 unfold selR;rw[zU hx,List.filterMap_append];rcases e:zch x.ps t 300 with ⟨v,b⟩;rw[e] at h;cases h;simp[List.filterMap,e]
theorem selR_len (S:List SerD) (t:Int):(selR S t).length<=S.length:=by unfold selR;exact List.length_filterMap_le _ _
theorem named_in {S:List SerD} {x:SerD} (hx:S[k]?=some x) (h:getL x.ls metB=n):(S.take (k+1)).filter (λs=>decide (getL s.ls metB=n))=(S.take k).filter (λs=>decide (getL s.ls metB=n))++[x]:=by
 rw[zU hx,List.filter_append];simp[h]
theorem named_out {S:List SerD} {x:SerD} (hx:S[k]?=some x) (h:¬getL x.ls metB=n):(S.take (k+1)).filter (λs=>decide (getL s.ls metB=n))=(S.take k).filter (λs=>decide (getL s.ls metB=n)):=by
 rw[zU hx,List.filter_append];simp[h]
theorem named_len (n:ByteArray) (S:List SerD):(named n S).length<=S.length:=by
 unfold named;split
 · exact dD _
 exact List.length_filter_le _ _
theorem named_mem {S:List SerD} {s:SerD} (h:s∈named n S):s∈S:=by
 unfold named at h;split at h
 · exact h
 exact(jZ.1 h).1
abbrev alV:List RowD:=[⟨alL ⟨#[97]⟩,5⟩,⟨alL ⟨#[98]⟩,6⟩]
abbrev alG:List RowD:=[⟨[⟨zaW,⟨#[97]⟩⟩],5⟩,⟨[⟨zaW,⟨#[98]⟩⟩],6⟩]
abbrev alR:List RowD:=[⟨[⟨zaW,⟨#[98]⟩⟩],6⟩]
abbrev alM:List RowD:=[⟨[],7⟩]
abbrev aR0:RowD:=⟨[⟨zaW,⟨#[98]⟩⟩],6⟩
abbrev aM0:RowD:=⟨[],7⟩
theorem al_take (k:Nat):(alS.take k).length<=2:=by rw[dG];exact Nat.min_le_right _ _
theorem al_rt:rtL (selR (named bCpu alS) 20)=alV/\rtE (selR (named bCpu alS) 20)=0:=⟨by kernel_rfl,by kernel_rfl⟩
theorem al_gd:gdL (.sums false) 1 [zaW] alV=alG/\gdE (.sums false) 1 [zaW] alV=0:=⟨by kernel_rfl,by kernel_rfl⟩
theorem al_qs:(zx (zi 2) alG).take 1=alR:=by kernel_rfl
end Lp
namespace Lp
open Go Go.RowKit Go.Proofs Tryz
theorem bd_109:BdP prog #[⟨"v",3,0,false, "", "leporello/answer",0⟩] [(0,1)]:=λ_=>by kernel_rfl
theorem eqn_55 (x:Operand) (A:Option Addr) (n c:Nat) (w:World):(do eqGuard .eql 55 x (.const (.slice none 0 0)) (.slice A n c) (.slice none 0 0);binOp .eql 55 (.slice A n c) (.slice none 0 0):Sem Value).run prog w=.ok (.bool A.isNone) w:=by cases A<;>kernel_rfl
theorem fa_58_1:FaP prog 58 1 1:=λ_ _ _=>by kernel_rfl
theorem fa_58_6:FaP prog 58 6 6:=λ_ _ _=>by kernel_rfl
theorem cloneM_c (l:List MatD) (hl:l.length<=1000000):
 CD prog 136 [] [.sh 3 (l.map MatD.d)] (zcc 3 199 (l.map MatD.d)):=by
 refine tZ func136 O O (λC=>?_);refine T.bd 0 O (λbd0=>?_);have nl0:=zA bd0;refine g' 9 O (tE O (ef_isNil O (eqn_55 _)) ?_);rintro _ _ ⟨b1,rfl,rfl,hb1⟩;refine g' 2 O ?_;refine tC O (λhc2=>?_) (λhc2=>?_)
 · refine g' 7 O ?_;refine T.drop (kC (HSub.nil 3 199) ?_);refine kC (mG (h':=.sl (.slice none 0 0) 3 199 (l.map MatD.d)) O (mI (show List.map MatD.d []=List.map MatD.d l from congrArg _ (by exact(vA.1 (hb1 hc2)).symm)))) ?_;exact tRs O results136 (.cons (zf (zd O) (Cv.ov O)) .nil) O mD ⟨_,O,O⟩
 refine g' 4 O (tE O (ef_buildSlice0 runUnderlying55 sizeOf199) ?_);rintro _ _ ⟨g3,rfl,rfl⟩;refine g' 1 O (tE O (zy (f:=MatD.d) (l:=[]) (l':=l) (i:=0) O O O (SrcD.sh) und_55 infz_199 O O (by unfold maxLen;(try simp only[la,lc,ln,lm,lt',ld,ls,lr]);omega) (by (try simp only[la,lc,ln,lm,lt',ld,ls,lr]);omega)) ?_);rintro _ _ ⟨v4,rfl,rfl⟩;refine g' 4 O (kC (mE (zau (i:=0) O)) (kC (mG (h':=.sl v4 3 199 (l.map MatD.d)) O (mI (show List.map MatD.d ([]++l)=List.map MatD.d l from congrArg _ (by rfl)))) ?_));exact tR O mD ⟨_,O,O⟩
theorem allE_c  :
 CD prog 187 [] [.sh 3 (([]:List MatD).map MatD.d)] (isR (.tup [dZ,dB true])):=by
 refine tZ func187 O O (λC=>?_);refine T.bd 0 O (λbd0=>?_);have nl0:=zA bd0;refine g' 15 O (tP O (zH (n:=([]:List MatD).length) O runUnderlying55 (by simp only[lm,lc,ln])) (g' 4 O (tl1 (λ(a_:Nat)=>[(0,.sh 3 (([]:List MatD).map MatD.d)),(9,.sh 3 (([]:List MatD).map MatD.d)),(10,dN (([]:List MatD).length)),(11,dN a_),(4,dZ)]) (λa_=>[]) (λa_=>True) (λa_=>0) 0 O (sa O) mD trivial ?_)));rintro k _;refine g' 6 O ?_;refine tD O (λhc1=>?_) (λhc1=>?_)
 · exfalso;have h2:([]:List MatD).length=0:=rfl;omega
 refine g' 9 O (tP O (zH (n:=([]:List MatD).length) O runUnderlying55 (by simp only[lm,lc,ln])) (g' 6 O ?_));exact tRs O results187 (.cons (zd O) (.cons (zf (zd O) (cB ((by rfl)))) .nil)) O HSub.none ⟨O,O⟩
theorem Select_c (S:List SerD) (hn:S.length<=1000) (hs:∀ s∈S,s.ls.length<=1000000/\s.ps.length<=1000000):
 CD prog 137 [] [.el (.agg [.sh 2 (S.map SerD.d)]) 0,.sh 3 (([]:List MatD).map MatD.d)] (λr H'=>∃ v',r=.tup [.ov v',dI 0]/\H'=[.sl v' 2 33 (S.map SerD.d)]):=by
 refine tZ func137 O O (λC=>?_);refine T.bd 0 O (λbd0=>?_);refine T.bd 1 O (λbd1=>?_);have nl1:=zA bd1;refine g' 9 O (tW O acs (allE_c) (g' 11 O (tP O (p_elnil O O zcL) (g' 18 O (tX [] O O acs (All_c S  hn hs) ?_)))));rintro _ _ ⟨v1,rfl,rfl⟩;refine tP O (zG (n:=S.length) (j:=0) O O runUnderlying26 (cW _)) (g' 4 O (tl3 (λ(a_:Nat) (b_:Value) (c_:List SerD)=>[(4,dZ),(5,dI 0),(6,dZ),(26,.ov v1),(27,dN S.length),(28,dN a_),(8,.ov b_)]) (λa_ b_ c_=>[.sl b_ 2 33 (c_.map SerD.d),.sl v1 2 33 (S.map SerD.d)]) (λa_ b_ c_=>(a_<=S.length)/\(c_=S.take a_)) (λa_ b_ c_=>S.length-a_) 0 (.slice none 0 0) [] O ⟨sk O,sk O,sk O,sk O,sk O,sk O,sc O (Cv.ov O),trivial⟩ (HSub.nil 2 33) ⟨c7 _,O⟩ ?_));rintro k ov o ⟨hk,ho⟩;have hol:o.length<=1000000:=by rw[ho,dG];omega
 refine g' 6 O ?_;refine tD O (λhc2=>?_) (λhc2=>?_)
 · refine g' 6 O ?_;obtain ⟨x1,hx1⟩:=zj S k (by omega);refine tP O (zg (k:=k) (j:=1) O O O runUnderlying26 sizeOf33 (by first | rfl | omega) (ze hx1)) (tP O (zB (d:=SerD.d x1) O (i:=1) O (ze hx1) isAgg33 sizeOf33 O O) ?_);refine tA O (λg3=>?_);refine gQ 12 [0] O O (tP O (p_len_v (n:=0) O ⟨_,_,O⟩ runUnderlying253) (g' 4 O (tl1 (λ(a_:Nat)=>[(4,dZ),(5,dI 0),(6,dZ),(8,.ov ov),(10,dP g3 0),(26,.ov v1),(27,dN S.length),(28,dN k),(29,dB (decide (((k:Nat):Int)<((S.length:Nat):Int)))),(30,.v (.pointer (some ⟨bl v1,k*2+0,none⟩))),(31,SerD.d x1),(32,dZ),(33,dI 0),(34,dN a_),(11,dB true)]) (λa_=>[.bx g3 33 (SerD.d x1),.sl ov 2 33 (o.map SerD.d),.sl v1 2 33 (S.map SerD.d)]) (λa_=>True) (λa_=>0) 0 O (sa O) mD trivial ?_)));rintro j _;refine g' 6 O ?_;refine tD O (λhc4=>?_) (λhc4=>?_)
   · exfalso;omega
   refine gQ 14 [0] O O (tE O (zq [.tmp 48] O O (.cons CellD.agg .nil) O runUnderlying26 sizeOf33 zeroValue33 O O O O) ?_);rintro _ _ ⟨g5,rfl,rfl⟩;refine tE O (zy (f:=SerD.d) (l:=o) (l':=[x1]) (i:=2) O O O (mK (j:=0) O O) zdJ zcu O O (by unfold maxLen;(try simp only[la,lc,ln,lm,lt',ld,ls,lr]);omega) (by (try simp only[la,lc,ln,lm,lt',ld,ls,lr]);omega)) ?_;rintro _ _ ⟨v6,rfl,rfl⟩;refine g' 5 O (tP O (zu (c:=((k+1:Nat):Int)) O O (zk (by omega) (by omega))) (g' 2 O (kE 3 O (kE 3 O (kC (mT 2 O) ?_)))));exact tp3 (k+1) v6 (o++[x1]) (sa O) mD ⟨by show k+1<=S.length;omega,by rw[ho,zU hx1]⟩ (by omega)
 refine g' 13 O (kC (mG (h':=.sl ov 2 33 (S.map SerD.d)) O (mI (congrArg (List.map SerD.d) (show o=S by rw[ho,dE (by omega)])))) ?_);exact tR O (mT 1 O) ⟨ov,O,O⟩
theorem selected_c (S:List SerD) (t:Int) (op text:ByteArray) (n mode:Int) (names:List ByteArray) (kids:List Nd) (hn:S.length<=1000) (hs:∀ s∈S,s.ls.length<=1000000/\s.ps.length<=1000000):
 CD prog 103 [] [.agg [.el (.agg [.sh 2 (S.map SerD.d)]) 0,dI t],n3 op text n mode names ([]:List MatD) kids] (zcc 2 33 ((named text S).map SerD.d)):=by
 refine tZ func103 O O (λC=>?_);refine T.bd 0 O (λbd0=>?_);refine T.bd 1 O (λbd1=>?_);refine g' 2 O ?_;refine tA O (λg1=>?_);refine tA O (λg2=>?_);refine gQ 7 [0] O O (tX [] O O acs (cloneM_c ([]:List MatD) (by first | omega | decide)) ?_);rintro _ _ ⟨v3,rfl,rfl⟩;refine g' 4 O (m9 (Mv.freeze (K':=[(0,.agg [.el (.agg [.sh 2 (S.map SerD.d)]) 0,dI t]),(1,n3 op text n mode names ([]:List MatD) kids),(2,dP g1 0),(3,dP g2 0),(4,dZ),(5,.sh 3 (([]:List MatD).map MatD.d)),(11,dP g2 5),(12,.sh 3 (([]:List MatD).map MatD.d)),(13,.sh 3 (([]:List MatD).map MatD.d))]) [.sl v3 3 199 (([]:List MatD).map MatD.d)] (H1:=[.bx g2 58 (n3 op text n mode names ([]:List MatD) kids),.bx g1 106 (.agg [.el (.agg [.sh 2 (S.map SerD.d)]) 0,dI t])]) (H1':=[.bx g2 58 (n3 op text n mode names ([]:List MatD) kids),.bx g1 106 (.agg [.el (.agg [.sh 2 (S.map SerD.d)]) 0,dI t])]) ⟨⟨_,O,mO⟩,⟨_,O,mO⟩,⟨_,O,mO⟩,⟨_,O,mO⟩,⟨_,O,mO⟩,⟨_,O,mP (j:=0) O O⟩,⟨_,O,mO⟩,⟨_,O,mO⟩,⟨_,O,mP (j:=0) O O⟩,trivial⟩ (.same (.same .nil))) (gQ 4 [1] O O (tX [] O O acs (Select_c S hn hs) ?_)));rintro _ _ ⟨v4,rfl,rfl⟩;refine gQ 15 [1] O O ?_;refine tD O (λhc5=>?_) (λhc5=>?_)
 · refine g' 8 O (kC (mE (zau (i:=0) O)) (kC (mG (h':=.sl v4 2 33 ((named text S).map SerD.d)) O (mI (show List.map SerD.d S=List.map SerD.d (named text S) from congrArg _ (by unfold named;first | rw[if_pos (by assumption)] | rw[if_neg (by assumption),ho,dE (by omega)])))) ?_));exact tR O mD ⟨_,O,O⟩
 refine g' 11 O (tP O (zG (n:=S.length) (j:=0) O O runUnderlying26 (cW _)) (g' 4 O (tl3 (λ(a_:Nat) (b_:Value) (c_:List SerD)=>[(3,dP g2 0),(4,dZ),(25,.ov v4),(26,dN S.length),(27,dN a_),(8,.ov b_)]) (λa_ b_ c_=>[.sl b_ 2 33 (c_.map SerD.d),.sl v4 2 33 (S.map SerD.d),.bx g2 58 (n3 op text n mode names ([]:List MatD) kids),.bx g1 106 (.agg [.el (.agg [.sh 2 (S.map SerD.d)]) 0,dI t])]) (λa_ b_ c_=>(a_<=S.length)/\(c_=(S.take a_).filter (λs=>decide (getL s.ls metB=text)))) (λa_ b_ c_=>S.length-a_) 0 (.slice none 0 0) [] O ⟨sk O,sk O,sk O,sk O,sk O,sc O (Cv.ov O),trivial⟩ (HSub.nil 2 33) ⟨c7 _,O⟩ ?_)));rintro k ov o ⟨hk,ho⟩;have hol:o.length<=1000000:=by have h:=List.length_filter_le (λs=>decide (getL s.ls metB=text)) (S.take k);rw[<-ho,dG] at h;omega
 refine g' 6 O ?_;refine tD O (λhc6=>?_) (λhc6=>?_)
 · refine g' 6 O ?_;obtain ⟨x1,hx1⟩:=zj S k (by omega);refine tP O (zg (k:=k) (j:=1) O O O runUnderlying26 sizeOf33 (by first | rfl | omega) (ze hx1)) (tP O (zB (d:=SerD.d x1) O (i:=1) O (ze hx1) isAgg33 sizeOf33 O O) ?_);refine tA O (λg7=>?_);refine gQ 4 [0] O O (T.keep [3,4,8,10,25,26,27,28,29,30] O (tDr 5 [(31,dP g7 0,none),(32,.sh 2 (x1.ls.map Lbl.d),none),(33,.s (getL x1.ls (⟨#[109,101,116,114,105,99]⟩:ByteArray)),none),(34,dP g2 1,none),(35,.s text,none)] [.bx g7 33 (SerD.d x1),.sl ov 2 33 (o.map SerD.d),.sl v4 2 33 (S.map SerD.d),.bx g2 58 (n3 op text n mode names ([]:List MatD) kids),.bx g1 106 (.agg [.el (.agg [.sh 2 (S.map SerD.d)]) 0,dI t])] (Hn:=[.bx g7 33 (SerD.d x1),.sl ov 2 33 (o.map SerD.d),.sl v4 2 33 (S.map SerD.d),.bx g2 58 (n3 op text n mode names ([]:List MatD) kids),.bx g1 106 (.agg [.el (.agg [.sh 2 (S.map SerD.d)]) 0,dI t])]) mixed O O O O mD O ⟨sa_p O O O (zl O fa_33_0 O),sa_p O O O (zn O (i:=0) O isAgg30 O),sa_q O O O (zac O (gc (.cons cS .nil)) Tryz.call34 (getL_c x1.ls (⟨#[109,101,116,114,105,99]⟩:ByteArray)) z8),sa_p O O O (zl O fa_58_1 O),sa_p O O O (zn O (i:=3) O isAgg9 O),trivial⟩ (tK O (g' 3 O ?_))));refine tD O (λhc8=>?_) (λhc8=>?_)
   · refine gQ 3 [0] O O (tE O (zq [.tmp 38] O O (.cons CellD.agg .nil) O runUnderlying26 sizeOf33 zeroValue33 O O O O) ?_);rintro _ _ ⟨g9,rfl,rfl⟩;refine tE O (zy (f:=SerD.d) (l:=o) (l':=[x1]) (i:=2) O O O (mK (j:=0) O O) zdJ zcu O O (by unfold maxLen;(try simp only[la,lc,ln,lm,lt',ld,ls,lr]);omega) (by (try simp only[la,lc,ln,lm,lt',ld,ls,lr]);omega)) ?_;rintro _ _ ⟨v10,rfl,rfl⟩;refine g' 5 O (tP O (zu (c:=((k+1:Nat):Int)) O O (zk (by omega) (by omega))) (g' 2 O (kE 5 O (kE 5 O (kE 5 O (kE 5 O (kC (mT 4 O) ?_)))))));exact tp3 (k+1) v10 (o++[x1]) (sa O) mD ⟨by show k+1<=S.length;omega,by rw[ho];first | exact(named_in hx1 (by assumption)).symm | exact(named_out hx1 (by assumption)).symm⟩ (by omega)
   refine g' 4 O (tP O (zu (c:=((k+1:Nat):Int)) O O (zk (by omega) (by omega))) (g' 2 O (kE 4 O (kE 4 O (kE 4 O (kE 4 O (kC (mT 4 O) ?_)))))));exact tp3 (k+1) ov o (sa O) mD ⟨by show k+1<=S.length;omega,by rw[ho];first | exact(named_in hx1 (by assumption)).symm | exact(named_out hx1 (by assumption)).symm⟩ (by omega)
 refine g' 12 O (kC (mE (zau (i:=0) O)) (kC (mG (h':=.sl ov 2 33 ((named text S).map SerD.d)) O (mI (show List.map SerD.d o=List.map SerD.d (named text S) from congrArg _ (by unfold named;first | rw[if_pos (by assumption)] | rw[if_neg (by assumption),ho,dE (by omega)])))) ?_));exact tR O mD ⟨_,O,O⟩
theorem sel_c (S:List SerD) (t:Int) (op text:ByteArray) (n mode:Int) (names:List ByteArray) (kids:List Nd) (hn:S.length<=1000) (hs:∀ s∈S,s.ls.length<=1000000/\s.ps.length<=1000000):
 CD prog 76 [] [.agg [.el (.agg [.sh 2 (S.map SerD.d)]) 0,dI t],n3 op text n mode names ([]:List MatD) kids] (isR (.tup [(D.ls 2 RowD.d) (rtL (selR (named text S) t)),dI (rtE (selR (named text S) t))])):=by
 refine tZ func76 O O (λC=>?_);refine T.bd 0 O (λbd0=>?_);refine T.bd 1 O (λbd1=>?_);have hnl:=named_len text S;refine g' 2 O ?_;refine tA O (λg1=>?_);refine tA O (λg2=>?_);refine gQ 14 [1,0] O O (tX [] O O acs (selected_c S t op text n mode names kids hn hs) ?_);rintro _ _ ⟨v3,rfl,rfl⟩;refine tP O (zG (n:=(named text S).length) (j:=0) O O runUnderlying26 (cW _)) (g' 4 O (tl3 (λ(a_:Nat) (b_:Value) (c_:List RowD)=>[(2,dP g1 0),(4,dZ),(5,dI 0),(13,.ov v3),(14,dN ((named text S).length)),(15,dN a_),(6,.ov b_)]) (λa_ b_ c_=>[.sl b_ 2 42 (c_.map RowD.d),.sl v3 2 33 ((named text S).map SerD.d),.bx g2 58 (n3 op text n mode names ([]:List MatD) kids),.bx g1 106 (.agg [.el (.agg [.sh 2 (S.map SerD.d)]) 0,dI t])]) (λa_ b_ c_=>(a_<=(named text S).length)/\(c_=selR ((named text S).take a_) t)) (λa_ b_ c_=>(named text S).length-a_) 0 (.slice none 0 0) [] O ⟨sk O,sk O,sk O,sk O,sk O,sk O,sc O (Cv.ov O),trivial⟩ (HSub.nil 2 42) ⟨c7 _,O⟩ ?_));rintro k ov o ⟨hk,ho⟩;have hol:o.length<=1000000:=by have h:=selR_len ((named text S).take k) t;rw[<-ho,dG] at h;omega
 refine g' 6 O ?_;refine tD O (λhc4=>?_) (λhc4=>?_)
 · refine g' 6 O ?_;obtain ⟨x1,hx1⟩:=zj (named text S) k (by omega);have hzx1:=hs x1 (named_mem (zaw hx1));refine tP O (zg (k:=k) (j:=1) O O O runUnderlying26 sizeOf33 (by first | rfl | omega) (ze hx1)) (tP O (zB (d:=SerD.d x1) O (i:=1) O (ze hx1) isAgg33 sizeOf33 O O) ?_);refine tA O (λg5=>?_);refine gQ 9 [0,0,4] O O (tW O acs (wlast_c x1.ps t 300 (by omega)) (g' 12 O ?_));refine tC O (λhc6=>?_) (λhc6=>?_)
   · refine gQ 5 [0] O O (tP O (zr [0,1] [.tmp 30,.tmp 31] (zv:=cJ) O O (.cons CellD.sh (.cons (CellD.v O) .nil)) (runUnderlying42) zeroValue42 zf4 ⟨O,O,trivial⟩ O) (tE O (zq [.tmp 32] O O (.cons CellD.agg .nil) O runUnderlying36 sizeOf42 zeroValue42 O O O O) ?_));rintro _ _ ⟨g7,rfl,rfl⟩;refine tE O (zy (f:=RowD.d) (l:=o) (l':=[(RowD.mk x1.ls ((zch x1.ps t 300).1))]) (i:=2) O O O (mK (j:=0) O O) zfk zeM O O (by unfold maxLen;(try simp only[la,lc,ln,lm,lt',ld,ls,lr]);omega) (by (try simp only[la,lc,ln,lm,lt',ld,ls,lr]);omega)) ?_;rintro _ _ ⟨v8,rfl,rfl⟩;refine g' 5 O (tP O (zu (c:=((k+1:Nat):Int)) O O (zk (by omega) (by omega))) (g' 2 O (kE 5 O (kE 5 O (kE 5 O (kE 5 O (kC (mT 4 O) ?_)))))));exact tp3 (k+1) v8 (o++[(RowD.mk x1.ls ((zch x1.ps t 300).1))]) (sa O) mD ⟨by show k+1<=(named text S).length;omega,by rw[ho];first | exact(selR_in hx1 (by assumption)).symm | exact(selR_out hx1 (by assumption)).symm⟩ (by omega)
   refine g' 4 O (tP O (zu (c:=((k+1:Nat):Int)) O O (zk (by omega) (by omega))) (g' 2 O (kE 4 O (kE 4 O (kE 4 O (kE 4 O (kC (mT 4 O) ?_)))))));exact tp3 (k+1) ov o (sa O) mD ⟨by show k+1<=(named text S).length;omega,by rw[ho];first | exact(selR_in hx1 (by assumption)).symm | exact(selR_out hx1 (by assumption)).symm⟩ (by omega)
 refine g' 6 O (m9 (Mv.freeze (K':=[(2,dP g1 0),(4,dZ),(5,dI 0),(6,.sh 2 (o.map RowD.d)),(13,.ov v3),(14,dN ((named text S).length)),(15,dN k),(16,dB (decide (((k:Nat):Int)<(((named text S).length:Nat):Int))))]) [.sl ov 2 42 (o.map RowD.d)] (H1:=[.sl v3 2 33 ((named text S).map SerD.d),.bx g2 58 (n3 op text n mode names ([]:List MatD) kids),.bx g1 106 (.agg [.el (.agg [.sh 2 (S.map SerD.d)]) 0,dI t])]) (H1':=[.sl v3 2 33 ((named text S).map SerD.d),.bx g2 58 (n3 op text n mode names ([]:List MatD) kids),.bx g1 106 (.agg [.el (.agg [.sh 2 (S.map SerD.d)]) 0,dI t])]) ⟨⟨_,O,mO⟩,⟨_,O,mO⟩,⟨_,O,mO⟩,⟨_,O,mP (j:=0) O O⟩,⟨_,O,mO⟩,⟨_,O,mO⟩,⟨_,O,mO⟩,⟨_,O,mO⟩,trivial⟩ (.same (.same (.same .nil)))) (g' 2 O (tX [] O O acs (vTidy_c o) ?_)));rintro _ _ ⟨v9,rfl,rfl⟩;refine g' 7 O ?_;refine m9 (Mv.freeze (K':=[(2,dP g1 0),(4,.sh 2 ((rtL o).map RowD.d)),(5,dI (rtE o)),(6,.sh 2 (o.map RowD.d)),(13,.ov v3),(14,dN ((named text S).length)),(15,dN k),(16,dB (decide (((k:Nat):Int)<(((named text S).length:Nat):Int)))),(36,.sh 2 (o.map RowD.d)),(37,.tup [.sh 2 ((rtL o).map RowD.d),dI (rtE o)]),(38,.sh 2 ((rtL o).map RowD.d)),(39,dI (rtE o))]) [.sl v9 2 42 ((rtL o).map RowD.d)] (H1:=[.sl v3 2 33 ((named text S).map SerD.d),.bx g2 58 (n3 op text n mode names ([]:List MatD) kids),.bx g1 106 (.agg [.el (.agg [.sh 2 (S.map SerD.d)]) 0,dI t])]) (H1':=[.sl v3 2 33 ((named text S).map SerD.d),.bx g2 58 (n3 op text n mode names ([]:List MatD) kids),.bx g1 106 (.agg [.el (.agg [.sh 2 (S.map SerD.d)]) 0,dI t])]) ⟨⟨_,O,mO⟩,⟨_,O,mP (j:=0) O O⟩,⟨_,O,mO⟩,⟨_,O,mO⟩,⟨_,O,mO⟩,⟨_,O,mO⟩,⟨_,O,mO⟩,⟨_,O,mO⟩,⟨_,O,mO⟩,⟨_,O,ArgC.tup (.cons (mP (j:=0) O O) (ga .nil))⟩,⟨_,O,mP (j:=0) O O⟩,⟨_,O,mO⟩,trivial⟩ (.same (.same (.same .nil)))) ?_;exact tRs O results76 (.cons (zf (zd O) (mB (congrArg (D.ls 2 RowD.d) (show rtL o=rtL (selR (named text S) t) from(by rw[ho,dE (by omega)]))))) (.cons (zf (zd O) (mB (congrArg (λn=>D.v (.int .i64 n)) (by rw[ho,dE (by omega)])))) .nil)) O HSub.none ⟨O,O⟩
theorem rows_c (l:List RowD) (e:Int) :
 CD prog 75 [] [.sh 2 (l.map RowD.d),dI e] (isR (.tup [.ifc 36 (.sh 2 (l.map RowD.d)),dI e])):=by
 refine tZ func75 O O (λC=>?_);refine T.bd 0 O (λbd0=>?_);have nl0:=zA bd0;refine g' 16 O ?_;exact tR O HSub.none ⟨O,O⟩
theorem of_num (S:List SerD) (t:Int) (text:ByteArray) (n mode:Int) (names:List ByteArray) (ms:List MatD) (kids:List Nd) :
 CD prog 48 [] [.agg [.el (.agg [.sh 2 (S.map SerD.d)]) 0,dI t],n3 tNum text n mode names ms kids] (isR (.tup [.ifc 109 (.agg [dI n]),dI 0])):=by
 refine tZ func48 O O (λC=>?_);refine T.bd 0 O (λbd0=>?_);refine T.bd 1 O (λbd1=>?_);refine g' 2 O ?_;refine tA O (λg1=>?_);refine tA O (λg2=>?_);refine gQ 14 [0] O O (tP O (zaO (q:=true) O O (by decide)) (gQ 8 [0] O O (tP O (zr [0] [.tmp 11] (zv:=cI) O O (.cons (CellD.v O) .nil) (runUnderlying109) zeroValue109 bd_109 ⟨O,trivial⟩ O) (g' 8 O ?_))));exact tR O HSub.none ⟨O,O⟩
theorem of_sel (S:List SerD) (t:Int) (text:ByteArray) (n mode:Int) (names:List ByteArray) (kids:List Nd) (hn:S.length<=1000) (hs:∀ s∈S,s.ls.length<=1000000/\s.ps.length<=1000000):
 CD prog 48 [] [.agg [.el (.agg [.sh 2 (S.map SerD.d)]) 0,dI t],n3 nSel text n mode names ([]:List MatD) kids] (isR (.tup [.ifc 36 (.sh 2 ((rtL (selR (named text S) t)).map RowD.d)),dI (rtE (selR (named text S) t))])):=by
 refine tZ func48 O O (λC=>?_);refine T.bd 0 O (λbd0=>?_);refine T.bd 1 O (λbd1=>?_);refine g' 2 O ?_;refine tA O (λg1=>?_);refine tA O (λg2=>?_);refine gQ 14 [0] O O (tP O (zaO (q:=false) O O (by decide)) (g' 6 O (tP O (zaO (q:=true) O O (by decide)) (gQ 8 [1,0] O O (tW O acs (sel_c S t nSel text n mode names kids hn hs) (g' 2 O (tW O acs (rows_c (rtL (selR (named text S) t)) (rtE (selR (named text S) t))) (g' 9 O ?_))))))));exact tR O HSub.none ⟨O,O⟩
theorem bin_c (S:List SerD) (t:Int) (text:ByteArray) (n mode:Int) (names:List ByteArray) (kids:List Nd) (ka kb:Nd) (va vb:Int) (hkl:2<=kids.length) (hka:kids[0]?=some ka) (hkb:kids[1]?=some kb) (iha:CD prog 48 [] [.agg [.el (.agg [.sh 2 (S.map SerD.d)]) 0,dI t],Nd.d ka] (isR (.tup [.ifc 109 (.agg [dI va]),dI 0]))) (ihb:CD prog 48 [] [.agg [.el (.agg [.sh 2 (S.map SerD.d)]) 0,dI t],Nd.d kb] (isR (.tup [.ifc 109 (.agg [dI vb]),dI 0]))):
 CD prog 79 [] [.agg [.el (.agg [.sh 2 (S.map SerD.d)]) 0,dI t],.agg [.s tBin,.s text,dI n,dI mode,.sh 1 (names.map D.s),.sh 3 (([]:List MatD).map MatD.d),.sh 7 (kids.map Nd.d)]] (isR (.tup [.ifc 109 (.agg [dI ((doE text va vb).1)]),dI ((doE text va vb).2)])):=by
 refine tZ func79 O O (λC=>?_);refine T.bd 0 O (λbd0=>?_);refine T.bd 1 O (λbd1=>?_);refine g' 2 O ?_;refine tA O (λg1=>?_);refine tA O (λg2=>?_);refine g' 5 O (T.keep [0,1,2,3,4,5] O ?_);obtain ⟨x1,hx1⟩:=zj kids 0 (by omega);have ex1:x1=ka:=uD (hx1.symm.trans hka);subst ex1;obtain ⟨yax1,ybx1,ycx1,ydx1,yex1,yfx1,ygx1⟩:=x1;refine tDr 10 [(16,.agg [.el (.agg [.sh 2 (S.map SerD.d)]) 0,dI t],none),(17,dP g2 6,none),(18,.sh 7 (kids.map Nd.d),none),(19,.el (n3 yax1 ybx1 ycx1 ydx1 yex1 yfx1 ygx1) 0,none),(20,n3 yax1 ybx1 ycx1 ydx1 yex1 yfx1 ygx1,none),(21,.tup [.ifc 109 (.agg [dI va]),dI 0],none),(15,.tup [.ifc 109 (.agg [dI va]),dI 0],none),(22,.ifc 109 (.agg [dI va]),none),(23,dI 0,none),(6,.ifc 109 (.agg [dI va]),none)] [.bx g2 58 (.agg [.s tBin,.s text,dI n,dI mode,.sh 1 (names.map D.s),.sh 3 (([]:List MatD).map MatD.d),.sh 7 (kids.map Nd.d)]),.bx g1 106 (.agg [.el (.agg [.sh 2 (S.map SerD.d)]) 0,dI t])] (Hn:=[.bx g2 58 (.agg [.s tBin,.s text,dI n,dI mode,.sh 1 (names.map D.s),.sh 3 (([]:List MatD).map MatD.d),.sh 7 (kids.map Nd.d)]),.bx g1 106 (.agg [.el (.agg [.sh 2 (S.map SerD.d)]) 0,dI t])]) mixed O O O O mD O ⟨sa_p O O O (zaP (d:=.agg [.el (.agg [.sh 2 (S.map SerD.d)]) 0,dI t]) O (i:=1) O isAgg106 sizeOf106 O O),sa_p O O O (zl O fa_58_6 O),sa_p O O O (zn O (i:=0) O isAgg56 O),sa_p O O O (zh (k:=0) O O runUnderlying56 sizeOf58 (by first | rfl | omega) (ze hx1)),sa_p O O O (zbp (d:=n3 yax1 ybx1 ycx1 ydx1 yex1 yfx1 ygx1) O isAgg58 sizeOf58 O O),sa_q O O O (zac O (gc (gc .nil)) Tryz.call48 (iha) z8),sa_p O O O (zc O),sa_p O O O (zam O O),sa_p O O O (zam O O),sa_p O O O (zdY O),trivial⟩ ?_;refine tK O (g' 10 O ?_);refine tD O (λhc3=>?_) (λhc3=>?_)
 · exfalso;omega
 refine g' 3 O (T.keep [0,1,2,3,4,5,6,7,15,16,17,18,19,20,21,22,23,24,25] O ?_);obtain ⟨x2,hx2⟩:=zj kids 1 (by omega);have ex2:x2=kb:=uD (hx2.symm.trans hkb);subst ex2;obtain ⟨yax2,ybx2,ycx2,ydx2,yex2,yfx2,ygx2⟩:=x2;refine tDr 10 [(28,.agg [.el (.agg [.sh 2 (S.map SerD.d)]) 0,dI t],none),(29,dP g2 6,none),(30,.sh 7 (kids.map Nd.d),none),(31,.el (n3 yax2 ybx2 ycx2 ydx2 yex2 yfx2 ygx2) 0,none),(32,n3 yax2 ybx2 ycx2 ydx2 yex2 yfx2 ygx2,none),(33,.tup [.ifc 109 (.agg [dI vb]),dI 0],none),(27,.tup [.ifc 109 (.agg [dI vb]),dI 0],none),(34,.ifc 109 (.agg [dI vb]),none),(35,dI 0,none),(8,.ifc 109 (.agg [dI vb]),none)] [.bx g2 58 (.agg [.s tBin,.s text,dI n,dI mode,.sh 1 (names.map D.s),.sh 3 (([]:List MatD).map MatD.d),.sh 7 (kids.map Nd.d)]),.bx g1 106 (.agg [.el (.agg [.sh 2 (S.map SerD.d)]) 0,dI t])] (Hn:=[.bx g2 58 (.agg [.s tBin,.s text,dI n,dI mode,.sh 1 (names.map D.s),.sh 3 (([]:List MatD).map MatD.d),.sh 7 (kids.map Nd.d)]),.bx g1 106 (.agg [.el (.agg [.sh 2 (S.map SerD.d)]) 0,dI t])]) mixed O O O O mD O ⟨sa_p O O O (zaP (d:=.agg [.el (.agg [.sh 2 (S.map SerD.d)]) 0,dI t]) O (i:=1) O isAgg106 sizeOf106 O O),sa_p O O O (zl O fa_58_6 O),sa_p O O O (zn O (i:=0) O isAgg56 O),sa_p O O O (zh (k:=1) O O runUnderlying56 sizeOf58 (by first | rfl | omega) (ze hx2)),sa_p O O O (zbp (d:=n3 yax2 ybx2 ycx2 ydx2 yex2 yfx2 ygx2) O isAgg58 sizeOf58 O O),sa_q O O O (zac O (gc (gc .nil)) Tryz.call48 (ihb) z8),sa_p O O O (zc O),sa_p O O O (zam O O),sa_p O O O (zam O O),sa_p O O O (zdY O),trivial⟩ ?_;refine tK O (g' 7 O (tP O (zca O O (decide_eq_false hc3)) (g' 8 O (tP O (zaT O (λ_ _=>by kernel_rfl)) (g' 3 O ?_)))));refine tA O (λg4=>?_);refine gQ 7 [0] O O (tP O (zaT O (λ_ _=>by kernel_rfl)) (g' 3 O ?_));refine tA O (λg5=>?_);refine gQ 24 [0,2,1,0] O O (tW O acs (Do_c text va vb) (g' 10 O (tP O (zr [0] [.tmp 64] (zv:=cI) O O (.cons (CellD.v O) .nil) (runUnderlying109) zeroValue109 bd_109 ⟨O,trivial⟩ O) (g' 9 O ?_))));exact tR O HSub.none ⟨O,O⟩
end Lp
