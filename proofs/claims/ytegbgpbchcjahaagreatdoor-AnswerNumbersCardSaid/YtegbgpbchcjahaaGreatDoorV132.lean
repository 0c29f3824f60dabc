import Derived.Test.YtegbgpbchcjahaaGreatDoorV130
set_option linter.all false
set_option maxHeartbeats 4000000
set_option maxRecDepth 100000
namespace Lp
open Go Go.RowKit Go.Proofs Tryz
def zgV:BdP prog #[⟨"T",3,0,false, "", "",0⟩,⟨"V",3,1,false, "", "",8⟩] [(0,1),(1,1)]:=λ_=>by kernel_rfl
def zcs (x y:Operand) (a:Addr) (w:World):(do eqGuard .eql 26 x y (.pointer (some a)) (.pointer none);binOp .eql 26 (.pointer (some a)) (.pointer none):Sem Value).run prog w=.ok (.bool false) w:=by kernel_rfl
def yR:FaP prog 44 0 0:=λ_ _ _=>by kernel_rfl
def aZd (S:List SerD) (key:List Lbl) (hb:∀ s∈S,zt s.ls key<(0:Int)) (hn:S.length<=1000000):
 CD prog 23 [] [.sh 2 (S.map SerD.d),.sh 2 (key.map Lbl.d),.fn 24 [] []] (isR (.tup [dN S.length,dB false])):=by
 refine tZ func23 O O (λC=>?_);refine T.bd 0 O (λbd0=>?_);have nl0:=zy bd0;refine T.bd 1 O (λbd1=>?_);have nl1:=zy bd1;refine g' 9 O (tP O (zH (n:=S.length) O aO (by simp only[lm,lc,ln])) (g' 12 O (tl1 (λ(a_:Nat)=>[(0,.sh 2 (S.map SerD.d)),(1,.sh 2 (key.map Lbl.d)),(2,.fn 24 [] []),(6,dI 0),(7,dB false),(8,dN S.length),(9,dN a_),(10,dN S.length)]) (λa_=>[]) (λa_=>(a_<=S.length)) (λa_=>S.length-a_) 0 O (sa O) w8 (cT _) ?_)));rintro lo hle;refine g' 8 O ?_;refine tD O (λhc1=>?_) (λhc1=>?_)
 · refine g' 7 O (tP O (zq (c:=((lo+S.length:Nat):Int)) O O (zh (by omega) (by omega))) (tP O (zaN O (c:=((lo+S.length:Nat):Int)) (zcn (by omega))) (tP O (zfd (a:=lo+S.length) (n:=1) (m:=2) O O (by decide) (by decide)) (tP O (zaN O (c:=(((lo+S.length) / 2:Nat):Int)) (zcX (by omega))) (g' 8 O ?_)))));obtain ⟨x1,hx1⟩:=zi S ((lo+S.length) / 2) (by omega);have hbx1:=hb x1 (za1 hx1);refine tP O (zf (k:=(lo+S.length) / 2) O O aO aV (by first | rfl | omega) (zd hx1)) (g' 2 O (tW O acs (aN5 x1 key) (g' 3 O ?_)));refine tD O (λhc2=>?_) (λhc2=>?_)
   · refine g' 2 O (tP O (zq (c:=((((lo+S.length) / 2)+1:Nat):Int)) O O (zh (by omega) (by omega))) (g' 3 O ?_));exact tp1 ((lo+S.length) / 2+1) (sa O) w8 (by omega) (by omega)
   exfalso;omega
 refine g' 10 O (tP O (zau O O (aD hc1)) (g' 15 O ?_));exact tRs O results23 (.cons (zc (za O) (w6 (aG dN (by omega)))) (.cons (za O) .nil)) O HSub.none ⟨O,O⟩
def aVn (v:Value) (S:List SerD) (y:SerD) (hn:S.length<=1000000):
 CD prog 25 [.sl v 2 70 (S.map SerD.d)] [.ov v,dN S.length,.sh 2 ([y].map SerD.d)] (λr H'=>∃ v',r=.ov v'/\H'=[.sl v' 2 70 ((S++[y]).map SerD.d)]):=by
 refine tZ func25 O O (λC=>?_);refine T.bd 2 O (λbd2=>?_);have nl2:=zy bd2;refine g' 9 O (tP O (zad (a:=S.length) (b:=S.length) (j:=0) O O O O (by first | rfl | (show _=_;(try simp only[lm]);omega) | exact cN _) (by first | rfl | (show _=_;(try simp only[lm]);omega) | exact cN _) aO aV (by omega) (by (try simp only[lm,la,lc,ln]);first | omega | decide)) (g' 5 O (tP O (zH (n:=[y].length) O aO (by simp only[lm,lc,ln])) (g' 10 O ?_))));refine tD O (λhc1=>?_) (λhc1=>?_)
 · exfalso;have h2:[y].length=1:=rfl;omega
 refine g' 5 O (tP O (zK (n:=S.length) (j:=0) O O aO (cN _)) (g' 11 O ?_));refine tD O (λhc2=>?_) (λhc2=>?_)
 · refine g' 4 O (tE O (zG (f:=SerD.d) (l:=S) (l':=[y]) (i:=0) O O O (SrcD.sh) zep zcP O O (by unfold maxLen;(try simp only[la,lc,ln,lm,lt',ld,ls,lr]);omega) (by (try simp only[la,lc,ln,lm,lt',ld,ls,lr]);omega)) ?_);rintro _ _ ⟨v3,rfl,rfl⟩;refine g' 5 O (mW (w9 (zaJ (i:=0) O)) (mW (mB (h':=.sl v3 2 70 ((S++[y]).map SerD.d)) O (mD (show List.map SerD.d (S++[y])=List.map SerD.d (S++[y]) from aG _ (by rfl)))) ?_));exact tR O w8 ⟨_,O,O⟩
 exfalso;omega
def aZ3 (g:Nat) (v:Value) (S:List SerD) (key:List Lbl) (t x:Int) (hr:zc7 key=true) (ht0:0<=t) (ht1:t<=1000000000) (hx:zD x=true) (hb:∀ s∈S,zt s.ls key<(0:Int)) (hn:S.length<40) (hk:key.length<=1000000):
 CD prog 14 [.bx g 44 (.agg [.ov v]),.sl v 2 70 (S.map SerD.d)] [dP g 0,.sh 2 (key.map Lbl.d),dI t,dI x] (λr H'=>∃ v',r=dI 0/\H'=[.bx g 44 (.agg [.ov v']),.sl v' 2 70 ((S++[(⟨key,[⟨t,x⟩]⟩:SerD)]).map SerD.d)]):=by
 refine tZ func14 O O (λC=>?_);refine T.bd 1 O (λbd1=>?_);have nl1:=zy bd1;refine g' 9 O (tP O (zgv (r:=.bool false) O O (zcs _ _ _)) (g' 2 O (tW O acs (aC1 key) (g' 3 O ?_))));refine tOr 7 2 (c:=decide (t<(0:Int))) O O O O O O (λhb1 nx2=>?_) ?_
 · have hf3:=notF hb1;refine g' 2 O ?_;exact nx2 _ O O (kx 2 O O)
 refine g' 1 O ?_;refine tOr 11 2 (c:=decide ((1000000000:Int)<t)) O O O O O O (λhb4 nx5=>?_) ?_
 · obtain ⟨hf6,hf7⟩:=orF hb4;have hf8:=notF hf6;have hf9:=aC hf7;refine g' 2 O ?_;exact nx5 _ O O (kx 2 O O)
 refine g' 1 O ?_;refine tOr 15 3 (c:=!(zD x)) O O O O O O (λhb10 nx11=>?_) ?_
 · obtain ⟨hf12,hf13⟩:=orF hb10;obtain ⟨hf14,hf15⟩:=orF hf12;have hf16:=notF hf14;have hf17:=aC hf15;have hf18:=aC hf13;refine g' 1 O (tW O acs (zch x) (g' 1 O ?_));exact nx11 _ O O (kx 3 O O)
 refine g' 2 O ?_;refine tC O (λhc19=>?_) (λhc19=>?_)
 · simp only[bX,bJ] at hc19;exfalso;rcases hc19 with ((h | h) | h) | h<;>first | omega | (rw[hr] at h;cases h) | (rw[hx] at h;cases h)
 simp only[bX,bJ] at hc19;refine gQ 9 [0] O O (tV [1] O O (.cons (mK (j:=0) O O) (ga (ga .nil))) (aZd S key hb (by omega)) O (gQ 22 [0] O O (tP O (zK (n:=S.length) (j:=1) O O aO (cN _)) (g' 3 O ?_))));refine tD O (λhc20=>?_) (λhc20=>?_)
 · exfalso;omega
 refine g' 3 O (mY 1 O (T.keep [0,1,2,3,8,9,10,12,13,14,15,16,17,18,19,22,23,26,27,31,32,33,34,35,36,37,38,39,40,41,42,43,44,45,46,47,48] O ?_));refine tDo 15 [(49,.q (dP g 0)),(50,.q (dP g 0)),(51,.q (dP g 0)),(52,.q (dP g 0)),(53,.q (.ov v)),(54,.q (dN S.length)),(55,.q (.sh 2 (key.map Lbl.d))),(56,.q (.sh 2 (key.map Lbl.d))),(57,.q (dI t)),(58,.q (dI x)),(59,.q (.agg [dI t,dI x])),(60,.q (.sh 2 ([(PtD.mk t x)].map PtD.d))),(61,.q (.agg [.sh 2 (key.map Lbl.d),.sh 2 ([(PtD.mk t x)].map PtD.d)])),(62,.q (.sh 2 ([(SerD.mk key [(PtD.mk t x)])].map SerD.d))),(63,.o (λγ=>[.sl (γ 14) 2 70 ((S++[(⟨key,[⟨t,x⟩]⟩:SerD)]).map SerD.d),.bx g 44 (.agg [.ov v])]))] [.bx g 44 (.agg [.ov v])] (Hn:=λγ=>[.sl (γ 14) 2 70 ((S++[(⟨key,[⟨t,x⟩]⟩:SerD)]).map SerD.d),.bx g 44 (.agg [.ov v])]) mixed O O (by kernel_rfl) (by kernel_rfl) (by kernel_rfl) (mP 1 rfl) (λ_=>rfl) (λγ=>⟨so_p rfl rfl rfl (zb rfl),so_p rfl rfl rfl (zb rfl),so_p rfl rfl rfl (fK rfl),so_p rfl rfl rfl (zk rfl yR rfl),so_p rfl rfl rfl (zl rfl (i:=0) rfl isAgg27 rfl),so_p rfl rfl rfl (zb rfl),so_p rfl rfl rfl (zb rfl),so_q rfl rfl rfl (zal rfl (gc .nil) Tryz.call26 (zeS key (by omega)) zb3),so_p rfl rfl rfl (zb rfl),so_p rfl rfl rfl (zb rfl),so_p rfl rfl rfl (zm [0,1] [.tmp 57,.tmp 58] (zv:=cF) rfl rfl (.cons (CellD.v rfl) (.cons (CellD.v rfl) .nil)) (eI) bZ zgV ⟨rfl,rfl,trivial⟩ rfl),so_q rfl rfl rfl (zp [.tmp 59] rfl rfl (.cons CellD.agg .nil) rfl aX eG bZ rfl rfl rfl rfl),so_p rfl rfl rfl (zm [0,1] [.tmp 56,.tmp 60] (zv:=cI) rfl rfl (.cons CellD.sh (.cons CellD.sh .nil)) (eM) eF aN7 ⟨rfl,rfl,trivial⟩ rfl),so_q rfl rfl rfl (zp [.tmp 61] rfl rfl (.cons CellD.agg .nil) rfl aO aV eF rfl rfl rfl rfl),so_o rfl rfl rfl rfl ((zfy [.sl v 2 70 (S.map SerD.d)] [.bx g 44 (.agg [.ov v])] [] rfl rfl (ga (ga (ga .nil))) zdY Tryz.call25 (aVn v S (⟨key,[⟨t,x⟩]⟩:SerD) (by omega)) (.inl rfl)).mono (by rintro _ _ ⟨_,⟨v,rfl,rfl⟩,rfl⟩;exact⟨v,rfl,rfl⟩)) (λ_=>mP 1 rfl),trivial⟩) (λγ=>?_);refine tK O (gQ 12 [1] O O (mY 1 O ?_));exact tR O (mO 2 O) ⟨(γ 14),O,O⟩
def zfR {P:Program} {ty t t':TypeId} {K:Kd} {H:List Hp} {x y:Operand} {X:D} {o:Nat} (hx:opD K x=some (.el X o)) (hy:y=.const (.pointer none)) (he:∀ (x y:Operand) (a:Addr) (w:World),(do eqGuard .eql t x y (.pointer (some a)) (.pointer none);binOp .eql t (.pointer (some a)) (.pointer none):Sem Value).run P w=.ok (.bool false) w):Pu P (.binOp .eql t x y t') ty K H (dB false):=
 ⟨λρ F0 F hk _ _=>by
  subst hy;obtain ⟨b,p,u,e,_⟩:=hk.op hx;exact zcb (zo ρ [x,.const (.pointer none)]) (zbn ρ e) (zbm ρ O) (λw=>he _ _ _ w) ⟨O,O⟩⟩
def aZj (S:List SerD) (hn:S.length<=1000) (hs:∀ s∈S,s.ls.length<=1000000/\s.ps.length<=1000000):
 CD prog 245 [] [.el (.agg [.sh 2 (S.map SerD.d)]) 0] (zcA 2 70 (S.map SerD.d)):=by
 refine tZ func245 O O (λC=>?_);refine T.bd 0 O (λbd0=>?_);refine g' 9 O (tP O (zfR O O zcs) (g' 11 O (tX [] O O acs (aK1 S (by omega) hs) ?_)));rintro _ _ ⟨v1,rfl,rfl⟩;refine g' 4 O (mW (w9 (zaJ (i:=0) O)) ?_);exact tR O w8 ⟨_,O,O⟩
end Lp
namespace Lp
open Go
abbrev tSp:Ba:=⟨#[32]⟩
section
variable {text:Ba} {n:Nat} {mode:Int} {names:List Ba} {ms:List MatD} {x y:Nd}
end
def qL {n:Nat} (h:n<=1000000000000):(digB n).size<=20:=(by unfold digB;rw[zaB];have:=zfX h;omega)
end Lp
namespace Lp
open Go
variable {l:List UInt8} {k:Nat} {n:Ba} {s:Ba}
def asc (l:List UInt8):Bool:=l.all (λb=>decide (b.toNat<128))
def qX {b:UInt8} (h:asc (b::l)=true):b.toNat<128/\asc l=true:=by
 unfold asc at h ⊢;simp only[List.all_cons,cU,aI] at h;exact h
def iW (h:asc l=true) (n:Nat):asc (l.drop n)=true:=by
 unfold asc at h ⊢;rw[c8] at h ⊢;exact λb hb=>h b (vB hb)
def aLt (h:asc l=true) (n:Nat):asc (l.take n)=true:=by
 unfold asc at h ⊢;rw[c8] at h ⊢;exact λb hb=>h b (uU hb)
def runA (f:Int->Bool):List UInt8->Nat
 | []=>0
 | b::r=>if f (b.toNat:Int)=true then 1+runA f r else 0
def zfQ (f:Int->Bool):∀ (l:List UInt8),asc l=true->runL f l=runA f l
 | [],_=>zcf
 | b::r,h=>by
  obtain ⟨h1,h2⟩:=qX h;unfold runA;have hd:=zac (t:=r) h1;by_cases hf:f (b.toNat:Int)=true
  · rw[aB hf,zcI (by simp) (by rw[hd];exact hf),hd];show 1+runL f r=_;rw[zfQ f r h2]
  rw[aA hf,zds (by rw[hd];simpa using hf)]
def aHo (h:asc l=true):zaI (mkB l)=l.map (λb=>(b.toNat:Int)):=by
 have key:∀ (n p:Nat),(mkB l).size-p=n->za8 (mkB l) p=(l.drop p).map (λb=>(b.toNat:Int)):=by
  intro n
  induction n using Nat.strongRecOn with
  | _ n ih=>
   intro p hn;rw[zaB] at hn;rcases cZ p l.length with hp | hp
   · have hb:bts (mkB l) p=l.drop p:=(by unfold bts;rw[<-zdv l];rfl);obtain ⟨b,hx⟩:∃ b,l[p]?=some b:=⟨l[p],dL hp⟩;have hdr:l.drop p=b::l.drop (p+1):=by
      rw[uT hp];congr 1;rw[dL hp] at hx;injection hx
     have hb1:b.toNat<128:=(qX (by rw[<-hdr];exact iW h p)).1;have hd:decL (bts (mkB l) p)=(b.toNat,1):=(by rw[hb,hdr];exact zac hb1);rw[zaw (by rw[zaB];exact hp),zbK,zcV,hd,hdr];rw[ih (l.length-(p+1)) (by omega) (p+1) (by rw[zaB])];rfl
   rw[za2 (by rw[zaB];exact hp),dX hp];rfl
 rw[show zaI (mkB l)=za8 (mkB l) 0 from rfl,key _ 0 rfl,d8]
def digK:Nat->Nat->List UInt8
 | 0,_=>[]
 | f+1,n=>if n<10 then [UInt8.ofNat (48+n)] else digK f (n / 10)++[UInt8.ofNat (48+n % 10)]
def aHi:∀ (f n:Nat),0<f->n<10 ^ f->digK f n=digL n
 | 0,n,h,_=>aH h (by omega)
 | f+1,n,_,h=>by
  unfold digK digL;by_cases hn:n<10
  · rw[aB hn,dif_pos hn]
  rw[aA hn,dif_neg hn];rw[Nat.pow_succ] at h;cases f with
  | zero=>simp at h;omega
  | succ f=>rw[aHi (f+1) (n / 10) (by omega) (by omega)]
def aQc {n:Nat} (h:n<=1000000000000):mkB (digK 20 n)=digB n:=by
 unfold digB;rw[aHi 20 n (by decide) (Nat.lt_of_le_of_lt h (by decide))]
def zbs (b:UInt8):Bool:=decide (b.toNat<128)&&decide (b.toNat≠34)&&decide (b.toNat≠92)&&decide (b.toNat≠10)
def aRc {c:Nat} (h:c<128):encR c=[UInt8.ofNat c]:=by unfold encR;rw[aB (by omega),Nat.mod_eq_of_lt (by omega)]
def yG (h:∀ b∈l,zbs b=true):zbe (mkB l)=34::(l++[34]):=by
 have key:∀ (n p:Nat),(mkB l).size-p=n->zaC (mkB l) p=l.drop p:=by
  intro n
  induction n using Nat.strongRecOn with
  | _ n ih=>
   intro p hn;rw[zaB] at hn;rcases cZ p l.length with hp | hp
   · have hb:bts (mkB l) p=l.drop p:=(by unfold bts;rw[<-zdv l];rfl);have hdr:l.drop p=l[p]::l.drop (p+1):=uT hp;have hq:=h l[p] (List.getElem_mem hp);unfold zbs at hq;simp only[cU,aI] at hq;obtain ⟨⟨⟨h1,h2⟩,h3⟩,h4⟩:=hq;have hd:decL (bts (mkB l) p)=(l[p].toNat,1):=(by rw[hb,hdr];exact zac h1);have hr:decR (mkB l) p=l[p].toNat:=(by rw[zbK,hd]);have hw:decW (mkB l) p=1:=(by rw[zcV,hd]);rw[zcq (by rw[zaB];exact hp),aEx (by rw[hr];omega) (by rw[hr];exact h4) (by rw[hr];omega),hr,hw,aRc h1,ih (l.length-(p+1)) (by omega) (p+1) (by rw[zaB]),hdr];simp
   rw[zcr (by rw[zaB];exact hp),dX hp]
 unfold zbe;rw[key _ 0 rfl,d8]
def aCz (l:List UInt8):Option (TokD×Nat):=
 match l with
 | []=>none
 | c::r=>
  if zC (c.toNat:Int)=1 then
   if zdX 0 ((l.take (runA isLD l)).map (λb=>(b.toNat:Int)))=true/\0<runA isLD l then some (⟨1,0,mkB (l.take (runA isLD l))⟩,runA isLD l) else none
  else if zC (c.toNat:Int)=2 then
   if 13<runA isD l\/1000000000000<digV (l.take (runA isD l))\/runA isD l=0 then none
   else if runA isLD l=runA isD l then some (⟨2,0,mkB (digK 20 (digV (l.take (runA isD l))))⟩,runA isD l)
   else if secB (mkB ((l.take (runA isLD l)).drop (runA isD l)))=0\/1000000000 / secB (mkB ((l.take (runA isLD l)).drop (runA isD l)))<digV (l.take (runA isD l))\/1000000000000<digV (l.take (runA isD l))*secB (mkB ((l.take (runA isLD l)).drop (runA isD l)))\/runA isLD l=0 then none
   else some (⟨4,0,mkB (digK 20 (digV (l.take (runA isD l))*secB (mkB ((l.take (runA isLD l)).drop (runA isD l)))))⟩,runA isLD l)
  else if c.toNat=34 then
   if (r.drop (r.takeWhile zbs).length).head?=some 34 then some (⟨3,0,mkB (r.takeWhile zbs)⟩,(r.takeWhile zbs).length+2) else none
  else if (zbI l).2=0 then none else some (zbI l)
def aFa (ha:asc l=true) {t:TokD} {n:Nat} (h:aCz l=some (t,n)):zj l=(t,n)/\n≠0:=by
 cases l with
 | nil=>cases h
 | cons c r=>
  have hc:=(qX ha).1;have hd:=zac (t:=r) hc;unfold aCz at h;simp only at h;unfold zj;rw[hd];by_cases h1:zC (c.toNat:Int)=1
  · rw[aB h1] at h ⊢;split at h
    · rename_i h2;injection h with h;injection h with e1 e2;subst e1;subst e2;refine⟨?_,by omega⟩;unfold zca;rw[zfQ _ _ ha];have hn:zbR (mkB ((c::r).take (runA isLD (c::r))))=true:=(by unfold zbR;rw[aHo (aLt ha _)];exact h2.1);rw[aB hn]
    cases h
  rw[aA h1] at h ⊢;by_cases h2:zC (c.toNat:Int)=2
  · rw[aB h2] at h ⊢;unfold numT;rw[zfQ _ _ ha,zfQ _ _ ha];split at h
    · cases h
    rename_i h3;rw[aA (by omega)];split at h
    · rename_i h4;injection h with h;injection h with e1 e2;subst e1;subst e2;rw[aB h4,aQc (by omega)];exact⟨rfl,by omega⟩
    rename_i h4;split at h
    · cases h
    rename_i h5;injection h with h;injection h with e1 e2;subst e1;subst e2;rw[aA h4,aA (by omega),aQc (by omega)];exact⟨rfl,by omega⟩
  rw[aA h2] at h ⊢;by_cases h3:c.toNat=34
  · rw[aB h3] at h;split at h
    · rename_i h4;injection h with h;injection h with e1 e2;subst e1;subst e2;refine⟨?_,by omega⟩;have hr:r=r.takeWhile zbs++34::r.drop ((r.takeWhile zbs).length+1):=by
       have e1:r=r.take (r.takeWhile zbs).length++r.drop (r.takeWhile zbs).length:=(dF _ _).symm;have e2:r.take (r.takeWhile zbs).length=r.takeWhile zbs:=by
        have:=List.takeWhile_prefix (l:=r) zbs;exact(List.prefix_iff_eq_take.1 this).symm
       have e3:r.drop (r.takeWhile zbs).length=34::r.drop ((r.takeWhile zbs).length+1):=by
        cases hh:r.drop (r.takeWhile zbs).length with
        | nil=>rw[hh] at h4;cases h4
        | cons y z=>
         rw[hh] at h4;have:y=34:=(by simpa using h4);subst this;congr 1;have:=aG List.tail hh;rw[List.tail_drop] at this;exact this.symm
       rw[<-e3,<-e2];rw[e2];exact e1.trans (by rw[e2])
      have hq:=yG (l:=r.takeWhile zbs) (λb hb=>by
       have:=List.all_takeWhile (p:=zbs) (l:=r);exact c8.1 this b hb)
      have hc34:c=34:=uP.1 h3;have hl:c::r=zbe (mkB (r.takeWhile zbs))++r.drop ((r.takeWhile zbs).length+1):=by
       rw[hq,hc34];simp only[jX,cP,dY];congr 1
      have hs:=oD (mkB (r.takeWhile zbs)) (r.drop ((r.takeWhile zbs).length+1));rw[<-hl] at hs;unfold zj at hs;rw[hd,aA h1,aA h2] at hs;rw[hs,hq];simp
    cases h
  rw[aA h3] at h;have h3':¬(c.toNat,1).1=34:=h3;rw[aA h3'];split at h
  · cases h
  rename_i h4;injection h with h;rw[h] at h4 ⊢;exact⟨rfl,h4⟩
def lexA:Nat->List UInt8->Nat->Option (List TokD)
 | 0,_,_=>none
 | f+1,l,a=>
  if l.drop (runA isB l)=[] then some []
  else match aCz (l.drop (runA isB l)) with
   | none=>none
   | some (t,n)=>(lexA f ((l.drop (runA isB l)).drop n) (a+runA isB l+n)).map (t.put (a+runA isB l)::·)
def aJk:∀ (f:Nat) (l:List UInt8) (a:Nat) (ts:List TokD),asc l=true->lexA f l a=some ts->zO l a=some ts
 | 0,l,a,ts,_,h=>by cases h
 | f+1,l,a,ts,ha,h=>by
  unfold lexA at h;have hb:=zfQ isB l ha;unfold zO;rw[hb];split at h
  · rename_i h0;injection h with h;subst h;rw[h0];exact zaR
  rename_i h0;cases e:aCz (l.drop (runA isB l)) with
  | none=>rw[e] at h;cases h
  | some p=>
   obtain ⟨t,n⟩:=p;rw[e] at h;simp only at h;obtain ⟨e1,e2⟩:=aFa (iW ha _) e;cases e3:lexA f ((l.drop (runA isB l)).drop n) (a+runA isB l+n) with
   | none=>rw[e3] at h;cases h
   | some t2=>
    rw[e3] at h;have h:t.put (a+runA isB l)::t2=ts:=(by injection h);have ih:=aJk f _ _ _ (iW (iW ha _) n) e3;have hlen:(l.drop (runA isB l)).length<=l.length:=(by rw[c7];omega);rw[zbi h0 (by rw[e1];exact e2) hlen,e1];simp only;rw[ih];show some _=some _;rw[<-h]
def aC0 {ts:List TokD} (h:lexA (s.size+1) (bl8 s) 0=some ts) (ha:asc (bl8 s)=true) (hs:s.size<=600):lexL s=ts/\lexE s=0:=aWz hs (aJk _ _ _ _ ha h)
abbrev zej:Ba:=(⟨#[104,111,115,116]⟩:Ba)
abbrev bCpu:Ba:=(⟨#[99,112,117]⟩:Ba)
abbrev bSum:Ba:=(⟨#[115,117,109]⟩:Ba)
abbrev zgD:Ba:=(⟨#[115,117,109,32,98,121,32,40,104,111,115,116,41,32,40,99,112,117,41,32,111,114,100,101,114,32,100,101,115,99,32,108,105,109,105,116,32,49]⟩:Ba)
abbrev zgC:Ba:=(⟨#[49,32,43,32,50,32,42,32,51]⟩:Ba)
abbrev a0l:List TokD:=[⟨1,0,bSum⟩,⟨1,4,(⟨#[98,121]⟩:Ba)⟩,⟨5,7,(⟨#[40]⟩:Ba)⟩,⟨1,8,zej⟩,⟨5,12,(⟨#[41]⟩:Ba)⟩,⟨5,14,(⟨#[40]⟩:Ba)⟩,⟨1,15,bCpu⟩,⟨5,18,(⟨#[41]⟩:Ba)⟩,⟨1,20,(⟨#[111,114,100,101,114]⟩:Ba)⟩,⟨1,26,(⟨#[100,101,115,99]⟩:Ba)⟩,⟨1,31,(⟨#[108,105,109,105,116]⟩:Ba)⟩,⟨2,37,(⟨#[49]⟩:Ba)⟩]
abbrev aYn:List TokD:=[⟨2,0,(⟨#[49]⟩:Ba)⟩,⟨5,2,(⟨#[43]⟩:Ba)⟩,⟨2,4,(⟨#[50]⟩:Ba)⟩,⟨5,6,(⟨#[42]⟩:Ba)⟩,⟨2,8,(⟨#[51]⟩:Ba)⟩]
def aPp:lexL zgD=a0l/\lexE zgD=0:=aC0 (by kernel_rfl) (by decide) (by decide)
def aPo:lexL zgC=aYn/\lexE zgC=0:=aC0 (by kernel_rfl) (by decide) (by decide)
def numN (n:Int):Nd:=.mk tNum ByteArray.empty n 0 [] [] []
def a12C:Nd:=.mk nSel bCpu 0 0 [] [] []
def a12P:Nd:=.mk tBin zc6 0 0 [] [] [numN 2,numN 3]
def a12A:Nd:=.mk tAgg bSum 0 1 [zej] [] [a12C]
def a12B:Nd:=.mk tBin zdi 0 0 [] [] [numN 1,a12P]
def aO6 {l:List TokD} {q:QryD} (h:lexL s=l/\lexE s=0) (hp:zda rmD l=some q):zdz s=0/\zdy s=q:=by
 unfold zdz zdy;rw[aB h.2,aB h.2,h.1,hp];exact⟨rfl,rfl⟩
def al12_r1:zdz zgD=0/\zdy zgD=⟨a12A,2,1,-1⟩:=aO6 aPp (by kernel_rfl)
def al12_r2:zdz zgC=0/\zdy zgC=⟨a12B,0,-1,-1⟩:=aO6 aPo (by kernel_rfl)
abbrev alN:List Ba:=[⟨#[97]⟩,⟨#[98]⟩]
def alL (x:Ba):List Lbl:=[⟨zej,x⟩,⟨metB,bCpu⟩]
def alS:List SerD:=[⟨alL ⟨#[97]⟩,[⟨10,5⟩]⟩,⟨alL ⟨#[98]⟩,[⟨10,6⟩]⟩]
def aRo {x:Ba} (h:alN[k]?=some x):zc7 (alL x)=true/\(∀ s∈alS.take k,zt s.ls (alL x)<0)/\zD ((5+k:Nat):Int)=true/\alS.take k++[⟨alL x,[⟨10,((5+k:Nat):Int)⟩]⟩]=alS.take (k+1):=by
 match k with
 | 0=>injection h with h;subst h;exact⟨by kernel_rfl,λs hs=>(by cases hs),by decide,rfl⟩
 | 1=>
  injection h with h;subst h;refine⟨by kernel_rfl,λs hs=>?_,by decide,O⟩;have e:s=⟨alL ⟨#[97]⟩,[⟨10,5⟩]⟩:=by simpa [alS] using hs
  subst e;have:zt (alL ⟨#[97]⟩) (alL ⟨#[98]⟩)= -1:=by kernel_rfl
  show zt (alL ⟨#[97]⟩) (alL ⟨#[98]⟩)<0;omega
 | k+2=>cases h
def aRf:∀ s∈alS,s.ls.length<=1000000/\s.ps.length<=1000000:=by decide
def aHs {S:List SerD} {t:Int} {x:SerD} (hx:S[k]?=some x) (h:(zdx x.ps t 300).2=true):selR (S.take (k+1)) t=selR (S.take k) t++[⟨x.ls,(zdx x.ps t 300).1⟩]:=by
 unfold selR;rw[zS hx,List.filterMap_append];congr 1;show List.filterMap _ [x]=_;rcases e:zdx x.ps t 300 with ⟨v,b⟩;rw[e] at h;cases h;simp[List.filterMap,e]
def aCx {S:List SerD} {t:Int} {x:SerD} (hx:S[k]?=some x) (h:(zdx x.ps t 300).2=false):selR (S.take (k+1)) t=selR (S.take k) t:=by
 unfold selR;rw[zS hx,List.filterMap_append];rcases e:zdx x.ps t 300 with ⟨v,b⟩;rw[e] at h;cases h;simp[List.filterMap,e]
def aM2 (S:List SerD) (t:Int):(selR S t).length<=S.length:=by unfold selR;exact List.length_filterMap_le _ _
def aBh {S:List SerD} {x:SerD} (hx:S[k]?=some x) (h:getL x.ls metB=n):(S.take (k+1)).filter (λs=>decide (getL s.ls metB=n))=(S.take k).filter (λs=>decide (getL s.ls metB=n))++[x]:=by
 rw[zS hx,List.filter_append];simp[h]
def sX {S:List SerD} {x:SerD} (hx:S[k]?=some x) (h:¬getL x.ls metB=n):(S.take (k+1)).filter (λs=>decide (getL s.ls metB=n))=(S.take k).filter (λs=>decide (getL s.ls metB=n)):=by
 rw[zS hx,List.filter_append];simp[h]
def aFq (n:Ba) (S:List SerD):(named n S).length<=S.length:=by
 unfold named;split
 · exact cW _
 exact List.length_filter_le _ _
def aEg {S:List SerD} {s:SerD} (h:s∈named n S):s∈S:=by
 unfold named at h;split at h
 · exact h
 exact(j6.1 h).1
abbrev alV:List RowD:=[⟨alL ⟨#[97]⟩,5⟩,⟨alL ⟨#[98]⟩,6⟩]
abbrev alG:List RowD:=[⟨[⟨zej,⟨#[97]⟩⟩],5⟩,⟨[⟨zej,⟨#[98]⟩⟩],6⟩]
abbrev alR:List RowD:=[⟨[⟨zej,⟨#[98]⟩⟩],6⟩]
abbrev alM:List RowD:=[⟨[],7⟩]
abbrev aR0:RowD:=⟨[⟨zej,⟨#[98]⟩⟩],6⟩
abbrev aM0:RowD:=⟨[],7⟩
def aUh (k:Nat):(alS.take k).length<=2:=by rw[cY];exact Nat.min_le_right _ _
def al_rt:rtL (selR (named bCpu alS) 20)=alV/\rtE (selR (named bCpu alS) 20)=0:=⟨by kernel_rfl,by kernel_rfl⟩
def al_gd:gdL (.sums false) 1 [zej] alV=alG/\gdE (.sums false) 1 [zej] alV=0:=⟨by kernel_rfl,by kernel_rfl⟩
def aZ2:(zr (zg 2) alG).take 1=alR:=by kernel_rfl
end Lp
namespace Lp
open Go Go.RowKit Go.Proofs Tryz
def aPw:BdP prog #[⟨"v",3,0,false, "", "leporello/answer",0⟩] [(0,1)]:=λ_=>by kernel_rfl
def aV1 (x:Operand) (A:Option Addr) (n c:Nat) (w:World):(do eqGuard .eql 54 x (.const (.slice none 0 0)) (.slice A n c) (.slice none 0 0);binOp .eql 54 (.slice A n c) (.slice none 0 0):Sem Value).run prog w=.ok (.bool A.isNone) w:=by cases A<;>kernel_rfl
def aAe:FaP prog 57 1 1:=λ_ _ _=>by kernel_rfl
def zeX:FaP prog 57 6 6:=λ_ _ _=>by kernel_rfl
def aL3:IzP prog 173 (.agg #[(.string ByteArray.empty),(.int .i64 0),(.string ByteArray.empty)]) 3 40:=zdf (by kernel_rfl)
def aU7:Tryz.prog.underlying 54=some (.slice 173):=by kernel_rfl
def aJt (l:List MatD) (hl:l.length<=1000000):
 CD prog 189 [] [.sh 3 (l.map MatD.d)] (zcA 3 173 (l.map MatD.d)):=by
 refine tZ func189 O O (λC=>?_);refine T.bd 0 O (λbd0=>?_);have nl0:=zy bd0;refine g' 9 O (tE O (iO O (aV1 _)) ?_);rintro _ _ ⟨b1,rfl,rfl,hb1⟩;refine g' 2 O ?_;refine tC O (λhc2=>?_) (λhc2=>?_)
 · refine g' 7 O ?_;refine T.drop (mW (HSub.nil 3 173) ?_);refine mW (mB (h':=.sl (.slice none 0 0) 3 173 (l.map MatD.d)) O (mD (show List.map MatD.d []=List.map MatD.d l from aG _ (by exact(uW.1 (hb1 hc2)).symm)))) ?_;exact tRs O results189 (.cons (zc (za O) (Cv.ov O)) .nil) O w8 ⟨_,O,O⟩
 refine g' 4 O (tE O (eN eJ sizeOf173) ?_);rintro _ _ ⟨g3,rfl,rfl⟩;refine g' 1 O (tE O (zG (f:=MatD.d) (l:=[]) (l':=l) (i:=0) O O O (SrcD.sh) aU7 aL3 O O (by unfold maxLen;(try simp only[la,lc,ln,lm,lt',ld,ls,lr]);omega) (by (try simp only[la,lc,ln,lm,lt',ld,ls,lr]);omega)) ?_);rintro _ _ ⟨v4,rfl,rfl⟩;refine g' 4 O (mW (w9 (zaJ (i:=0) O)) (mW (mB (h':=.sl v4 3 173 (l.map MatD.d)) O (mD (show List.map MatD.d ([]++l)=List.map MatD.d l from aG _ (by rfl)))) ?_));exact tR O w8 ⟨_,O,O⟩
def aXa  :
 CD prog 244 [] [.sh 3 (([]:List MatD).map MatD.d)] (isR (.tup [dZ,dB true])):=by
 refine tZ func244 O O (λC=>?_);refine T.bd 0 O (λbd0=>?_);have nl0:=zy bd0;refine g' 15 O (tP O (zH (n:=([]:List MatD).length) O eJ (by simp only[lm,lc,ln])) (g' 4 O (tl1 (λ(a_:Nat)=>[(0,.sh 3 (([]:List MatD).map MatD.d)),(9,.sh 3 (([]:List MatD).map MatD.d)),(10,dN (([]:List MatD).length)),(11,dN a_),(4,dZ)]) (λa_=>[]) (λa_=>True) (λa_=>0) 0 O (sa O) w8 trivial ?_)));rintro k _;refine g' 6 O ?_;refine tD O (λhc1=>?_) (λhc1=>?_)
 · exfalso;have h2:([]:List MatD).length=0:=rfl;omega
 refine g' 9 O (tP O (zH (n:=([]:List MatD).length) O eJ (by simp only[lm,lc,ln])) (g' 6 O ?_));exact tRs O results244 (.cons (za O) (.cons (zc (za O) (cB ((by rfl)))) .nil)) O HSub.none ⟨O,O⟩
def aKc (S:List SerD) (hn:S.length<=1000) (hs:∀ s∈S,s.ls.length<=1000000/\s.ps.length<=1000000):
 CD prog 190 [] [.el (.agg [.sh 2 (S.map SerD.d)]) 0,.sh 3 (([]:List MatD).map MatD.d)] (λr H'=>∃ v',r=.tup [.ov v',dI 0]/\H'=[.sl v' 2 70 (S.map SerD.d)]):=by
 refine tZ func190 O O (λC=>?_);refine T.bd 0 O (λbd0=>?_);refine T.bd 1 O (λbd1=>?_);have nl1:=zy bd1;refine g' 9 O (tW O acs (aXa) (g' 11 O (tP O (zfR O O zcs) (g' 18 O (tX [] O O acs (aZj S  hn hs) ?_)))));rintro _ _ ⟨v1,rfl,rfl⟩;refine tP O (zK (n:=S.length) (j:=0) O O aO (cN _)) (g' 4 O (tl3 (λ(a_:Nat) (b_:Value) (c_:List SerD)=>[(4,dZ),(5,dI 0),(6,dZ),(26,.ov v1),(27,dN S.length),(28,dN a_),(8,.ov b_)]) (λa_ b_ c_=>[.sl b_ 2 70 (c_.map SerD.d),.sl v1 2 70 (S.map SerD.d)]) (λa_ b_ c_=>(a_<=S.length)/\(c_=S.take a_)) (λa_ b_ c_=>S.length-a_) 0 (.slice none 0 0) [] O ⟨sk O,sk O,sk O,sk O,sk O,sk O,sc O (Cv.ov O),trivial⟩ (HSub.nil 2 70) ⟨cT _,O⟩ ?_));rintro k ov o ⟨hk,ho⟩;have hol:o.length<=1000000:=by rw[ho,cY];omega
 refine g' 6 O ?_;refine tD O (λhc2=>?_) (λhc2=>?_)
 · refine g' 6 O ?_;obtain ⟨x1,hx1⟩:=zi S k (by omega);refine tP O (ze (k:=k) (j:=1) O O O aO aV (by first | rfl | omega) (zd hx1)) (tP O (zA (d:=SerD.d x1) O (i:=1) O (zd hx1) isAgg70 aV O O) ?_);refine tA O (λg3=>?_);refine gQ 12 [0] O O (tP O (aR2 (n:=0) O ⟨_,_,O⟩ runUnderlying280) (g' 4 O (tl1 (λ(a_:Nat)=>[(4,dZ),(5,dI 0),(6,dZ),(8,.ov ov),(10,dP g3 0),(26,.ov v1),(27,dN S.length),(28,dN k),(29,dB (decide (((k:Nat):Int)<((S.length:Nat):Int)))),(30,.v (.pointer (some ⟨bl v1,k*2+0,none⟩))),(31,SerD.d x1),(32,dZ),(33,dI 0),(34,dN a_),(11,dB true)]) (λa_=>[.bx g3 70 (SerD.d x1),.sl ov 2 70 (o.map SerD.d),.sl v1 2 70 (S.map SerD.d)]) (λa_=>True) (λa_=>0) 0 O (sa O) w8 trivial ?_)));rintro j _;refine g' 6 O ?_;refine tD O (λhc4=>?_) (λhc4=>?_)
   · exfalso;omega
   refine gQ 14 [0] O O (tE O (zw [.tmp 48] O O (.cons CellD.agg .nil) O aO aV eF O O O O) ?_);rintro _ _ ⟨g5,rfl,rfl⟩;refine tE O (zG (f:=SerD.d) (l:=o) (l':=[x1]) (i:=2) O O O (mF (j:=0) O O) zep zcP O O (by unfold maxLen;(try simp only[la,lc,ln,lm,lt',ld,ls,lr]);omega) (by (try simp only[la,lc,ln,lm,lt',ld,ls,lr]);omega)) ?_;rintro _ _ ⟨v6,rfl,rfl⟩;refine g' 5 O (tP O (zq (c:=((k+1:Nat):Int)) O O (zh (by omega) (by omega))) (g' 2 O (mY 3 O (mY 3 O (mW (mO 2 O) ?_)))));exact tp3 (k+1) v6 (o++[x1]) (sa O) w8 ⟨by show k+1<=S.length;omega,by rw[ho,zS hx1]⟩ (by omega)
 refine g' 13 O (mW (mB (h':=.sl ov 2 70 (S.map SerD.d)) O (mD (aG (List.map SerD.d) (show o=S by rw[ho,c6 (by omega)])))) ?_);exact tR O (mO 1 O) ⟨ov,O,O⟩
def aDi (S:List SerD) (t:Int) (op text:Ba) (n mode:Int) (names:List Ba) (kids:List Nd) (hn:S.length<=1000) (hs:∀ s∈S,s.ls.length<=1000000/\s.ps.length<=1000000):
 CD prog 149 [] [.agg [.el (.agg [.sh 2 (S.map SerD.d)]) 0,dI t],n7 op text n mode names ([]:List MatD) kids] (zcA 2 70 ((named text S).map SerD.d)):=by
 refine tZ func149 O O (λC=>?_);refine T.bd 0 O (λbd0=>?_);refine T.bd 1 O (λbd1=>?_);refine g' 2 O ?_;refine tA O (λg1=>?_);refine tA O (λg2=>?_);refine gQ 7 [0] O O (tX [] O O acs (aJt ([]:List MatD) (by first | omega | decide)) ?_);rintro _ _ ⟨v3,rfl,rfl⟩;refine g' 4 O (mV (Mv.freeze (K':=[(0,.agg [.el (.agg [.sh 2 (S.map SerD.d)]) 0,dI t]),(1,n7 op text n mode names ([]:List MatD) kids),(2,dP g1 0),(3,dP g2 0),(4,dZ),(5,.sh 3 (([]:List MatD).map MatD.d)),(11,dP g2 5),(12,.sh 3 (([]:List MatD).map MatD.d)),(13,.sh 3 (([]:List MatD).map MatD.d))]) [.sl v3 3 173 (([]:List MatD).map MatD.d)] (H1:=[.bx g2 57 (n7 op text n mode names ([]:List MatD) kids),.bx g1 118 (.agg [.el (.agg [.sh 2 (S.map SerD.d)]) 0,dI t])]) (H1':=[.bx g2 57 (n7 op text n mode names ([]:List MatD) kids),.bx g1 118 (.agg [.el (.agg [.sh 2 (S.map SerD.d)]) 0,dI t])]) ⟨⟨_,O,mJ⟩,⟨_,O,mJ⟩,⟨_,O,mJ⟩,⟨_,O,mJ⟩,⟨_,O,mJ⟩,⟨_,O,mK (j:=0) O O⟩,⟨_,O,mJ⟩,⟨_,O,mJ⟩,⟨_,O,mK (j:=0) O O⟩,trivial⟩ (.same (.same .nil))) (gQ 4 [1] O O (tX [] O O acs (aKc S hn hs) ?_)));rintro _ _ ⟨v4,rfl,rfl⟩;refine gQ 15 [1] O O ?_;refine tD O (λhc5=>?_) (λhc5=>?_)
 · refine g' 8 O (mW (w9 (zaJ (i:=0) O)) (mW (mB (h':=.sl v4 2 70 ((named text S).map SerD.d)) O (mD (show List.map SerD.d S=List.map SerD.d (named text S) from aG _ (by unfold named;first | rw[aB (by assumption)] | rw[aA (by assumption),ho,c6 (by omega)])))) ?_));exact tR O w8 ⟨_,O,O⟩
 refine g' 11 O (tP O (zK (n:=S.length) (j:=0) O O aO (cN _)) (g' 4 O (tl3 (λ(a_:Nat) (b_:Value) (c_:List SerD)=>[(3,dP g2 0),(4,dZ),(25,.ov v4),(26,dN S.length),(27,dN a_),(8,.ov b_)]) (λa_ b_ c_=>[.sl b_ 2 70 (c_.map SerD.d),.sl v4 2 70 (S.map SerD.d),.bx g2 57 (n7 op text n mode names ([]:List MatD) kids),.bx g1 118 (.agg [.el (.agg [.sh 2 (S.map SerD.d)]) 0,dI t])]) (λa_ b_ c_=>(a_<=S.length)/\(c_=(S.take a_).filter (λs=>decide (getL s.ls metB=text)))) (λa_ b_ c_=>S.length-a_) 0 (.slice none 0 0) [] O ⟨sk O,sk O,sk O,sk O,sk O,sc O (Cv.ov O),trivial⟩ (HSub.nil 2 70) ⟨cT _,O⟩ ?_)));rintro k ov o ⟨hk,ho⟩;have hol:o.length<=1000000:=by have h:=List.length_filter_le (λs=>decide (getL s.ls metB=text)) (S.take k);rw[<-ho,cY] at h;omega
 refine g' 6 O ?_;refine tD O (λhc6=>?_) (λhc6=>?_)
 · refine g' 6 O ?_;obtain ⟨x1,hx1⟩:=zi S k (by omega);refine tP O (ze (k:=k) (j:=1) O O O aO aV (by first | rfl | omega) (zd hx1)) (tP O (zA (d:=SerD.d x1) O (i:=1) O (zd hx1) isAgg70 aV O O) ?_);refine tA O (λg7=>?_);refine gQ 4 [0] O O (T.keep [3,4,8,10,25,26,27,28,29,30] O (tDr 5 [(31,dP g7 0,none),(32,.sh 2 (x1.ls.map Lbl.d),none),(33,.s (getL x1.ls (⟨#[109,101,116,114,105,99]⟩:Ba)),none),(34,dP g2 1,none),(35,.s text,none)] [.bx g7 70 (SerD.d x1),.sl ov 2 70 (o.map SerD.d),.sl v4 2 70 (S.map SerD.d),.bx g2 57 (n7 op text n mode names ([]:List MatD) kids),.bx g1 118 (.agg [.el (.agg [.sh 2 (S.map SerD.d)]) 0,dI t])] (Hn:=[.bx g7 70 (SerD.d x1),.sl ov 2 70 (o.map SerD.d),.sl v4 2 70 (S.map SerD.d),.bx g2 57 (n7 op text n mode names ([]:List MatD) kids),.bx g1 118 (.agg [.el (.agg [.sh 2 (S.map SerD.d)]) 0,dI t])]) mixed O O O O w8 O ⟨sa_p O O O (zk O aH2 O),sa_p O O O (zl O (i:=0) O isAgg40 O),sa_q O O O (zal O (gc (.cons cS .nil)) Tryz.call48 (aOg x1.ls (⟨#[109,101,116,114,105,99]⟩:Ba)) zaf),sa_p O O O (zk O aAe O),sa_p O O O (zl O (i:=3) O bT O),trivial⟩ (tK O (g' 3 O ?_))));refine tD O (λhc8=>?_) (λhc8=>?_)
   · refine gQ 3 [0] O O (tE O (zw [.tmp 38] O O (.cons CellD.agg .nil) O aO aV eF O O O O) ?_);rintro _ _ ⟨g9,rfl,rfl⟩;refine tE O (zG (f:=SerD.d) (l:=o) (l':=[x1]) (i:=2) O O O (mF (j:=0) O O) zep zcP O O (by unfold maxLen;(try simp only[la,lc,ln,lm,lt',ld,ls,lr]);omega) (by (try simp only[la,lc,ln,lm,lt',ld,ls,lr]);omega)) ?_;rintro _ _ ⟨v10,rfl,rfl⟩;refine g' 5 O (tP O (zq (c:=((k+1:Nat):Int)) O O (zh (by omega) (by omega))) (g' 2 O (mY 5 O (mY 5 O (mY 5 O (mY 5 O (mW (mO 4 O) ?_)))))));exact tp3 (k+1) v10 (o++[x1]) (sa O) w8 ⟨by show k+1<=S.length;omega,by rw[ho];first | exact(aBh hx1 (by assumption)).symm | exact(sX hx1 (by assumption)).symm⟩ (by omega)
   refine g' 4 O (tP O (zq (c:=((k+1:Nat):Int)) O O (zh (by omega) (by omega))) (g' 2 O (mY 4 O (mY 4 O (mY 4 O (mY 4 O (mW (mO 4 O) ?_)))))));exact tp3 (k+1) ov o (sa O) w8 ⟨by show k+1<=S.length;omega,by rw[ho];first | exact(aBh hx1 (by assumption)).symm | exact(sX hx1 (by assumption)).symm⟩ (by omega)
 refine g' 12 O (mW (w9 (zaJ (i:=0) O)) (mW (mB (h':=.sl ov 2 70 ((named text S).map SerD.d)) O (mD (show List.map SerD.d o=List.map SerD.d (named text S) from aG _ (by unfold named;first | rw[aB (by assumption)] | rw[aA (by assumption),ho,c6 (by omega)])))) ?_));exact tR O w8 ⟨_,O,O⟩
def aYw (S:List SerD) (t:Int) (op text:Ba) (n mode:Int) (names:List Ba) (kids:List Nd) (hn:S.length<=1000) (hs:∀ s∈S,s.ls.length<=1000000/\s.ps.length<=1000000):
 CD prog 106 [] [.agg [.el (.agg [.sh 2 (S.map SerD.d)]) 0,dI t],n7 op text n mode names ([]:List MatD) kids] (isR (.tup [(D.ls 2 RowD.d) (rtL (selR (named text S) t)),dI (rtE (selR (named text S) t))])):=by
 refine tZ func106 O O (λC=>?_);refine T.bd 0 O (λbd0=>?_);refine T.bd 1 O (λbd1=>?_);have hnl:=aFq text S;refine g' 2 O ?_;refine tA O (λg1=>?_);refine tA O (λg2=>?_);refine gQ 14 [1,0] O O (tX [] O O acs (aDi S t op text n mode names kids hn hs) ?_);rintro _ _ ⟨v3,rfl,rfl⟩;refine tP O (zK (n:=(named text S).length) (j:=0) O O aO (cN _)) (g' 4 O (tl3 (λ(a_:Nat) (b_:Value) (c_:List RowD)=>[(2,dP g1 0),(4,dZ),(5,dI 0),(13,.ov v3),(14,dN ((named text S).length)),(15,dN a_),(6,.ov b_)]) (λa_ b_ c_=>[.sl b_ 2 50 (c_.map RowD.d),.sl v3 2 70 ((named text S).map SerD.d),.bx g2 57 (n7 op text n mode names ([]:List MatD) kids),.bx g1 118 (.agg [.el (.agg [.sh 2 (S.map SerD.d)]) 0,dI t])]) (λa_ b_ c_=>(a_<=(named text S).length)/\(c_=selR ((named text S).take a_) t)) (λa_ b_ c_=>(named text S).length-a_) 0 (.slice none 0 0) [] O ⟨sk O,sk O,sk O,sk O,sk O,sk O,sc O (Cv.ov O),trivial⟩ (HSub.nil 2 50) ⟨cT _,O⟩ ?_));rintro k ov o ⟨hk,ho⟩;have hol:o.length<=1000000:=by have h:=aM2 ((named text S).take k) t;rw[<-ho,cY] at h;omega
 refine g' 6 O ?_;refine tD O (λhc4=>?_) (λhc4=>?_)
 · refine g' 6 O ?_;obtain ⟨x1,hx1⟩:=zi (named text S) k (by omega);have hzx1:=hs x1 (aEg (za1 hx1));refine tP O (ze (k:=k) (j:=1) O O O aO aV (by first | rfl | omega) (zd hx1)) (tP O (zA (d:=SerD.d x1) O (i:=1) O (zd hx1) isAgg70 aV O O) ?_);refine tA O (λg5=>?_);refine gQ 9 [0,0,4] O O (tW O acs (aQ0 x1.ps t 300 (by omega)) (g' 12 O ?_));refine tC O (λhc6=>?_) (λhc6=>?_)
   · refine gQ 5 [0] O O (tP O (zm [0,1] [.tmp 30,.tmp 31] (zv:=cG) O O (.cons CellD.sh (.cons (CellD.v O) .nil)) (eD) bQ zf3 ⟨O,O,trivial⟩ O) (tE O (zw [.tmp 32] O O (.cons CellD.agg .nil) O aK aL bQ O O O O) ?_));rintro _ _ ⟨g7,rfl,rfl⟩;refine tE O (zG (f:=RowD.d) (l:=o) (l':=[(RowD.mk x1.ls ((zdx x1.ps t 300).1))]) (i:=2) O O O (mF (j:=0) O O) zgo zfV O O (by unfold maxLen;(try simp only[la,lc,ln,lm,lt',ld,ls,lr]);omega) (by (try simp only[la,lc,ln,lm,lt',ld,ls,lr]);omega)) ?_;rintro _ _ ⟨v8,rfl,rfl⟩;refine g' 5 O (tP O (zq (c:=((k+1:Nat):Int)) O O (zh (by omega) (by omega))) (g' 2 O (mY 5 O (mY 5 O (mY 5 O (mY 5 O (mW (mO 4 O) ?_)))))));exact tp3 (k+1) v8 (o++[(RowD.mk x1.ls ((zdx x1.ps t 300).1))]) (sa O) w8 ⟨by show k+1<=(named text S).length;omega,by rw[ho];first | exact(aHs hx1 (by assumption)).symm | exact(aCx hx1 (by assumption)).symm⟩ (by omega)
   refine g' 4 O (tP O (zq (c:=((k+1:Nat):Int)) O O (zh (by omega) (by omega))) (g' 2 O (mY 4 O (mY 4 O (mY 4 O (mY 4 O (mW (mO 4 O) ?_)))))));exact tp3 (k+1) ov o (sa O) w8 ⟨by show k+1<=(named text S).length;omega,by rw[ho];first | exact(aHs hx1 (by assumption)).symm | exact(aCx hx1 (by assumption)).symm⟩ (by omega)
 refine g' 6 O (mV (Mv.freeze (K':=[(2,dP g1 0),(4,dZ),(5,dI 0),(6,.sh 2 (o.map RowD.d)),(13,.ov v3),(14,dN ((named text S).length)),(15,dN k),(16,dB (decide (((k:Nat):Int)<(((named text S).length:Nat):Int))))]) [.sl ov 2 50 (o.map RowD.d)] (H1:=[.sl v3 2 70 ((named text S).map SerD.d),.bx g2 57 (n7 op text n mode names ([]:List MatD) kids),.bx g1 118 (.agg [.el (.agg [.sh 2 (S.map SerD.d)]) 0,dI t])]) (H1':=[.sl v3 2 70 ((named text S).map SerD.d),.bx g2 57 (n7 op text n mode names ([]:List MatD) kids),.bx g1 118 (.agg [.el (.agg [.sh 2 (S.map SerD.d)]) 0,dI t])]) ⟨⟨_,O,mJ⟩,⟨_,O,mJ⟩,⟨_,O,mJ⟩,⟨_,O,mK (j:=0) O O⟩,⟨_,O,mJ⟩,⟨_,O,mJ⟩,⟨_,O,mJ⟩,⟨_,O,mJ⟩,trivial⟩ (.same (.same (.same .nil)))) (g' 2 O (tX [] O O acs (aHq o) ?_)));rintro _ _ ⟨v9,rfl,rfl⟩;refine g' 7 O ?_;refine mV (Mv.freeze (K':=[(2,dP g1 0),(4,.sh 2 ((rtL o).map RowD.d)),(5,dI (rtE o)),(6,.sh 2 (o.map RowD.d)),(13,.ov v3),(14,dN ((named text S).length)),(15,dN k),(16,dB (decide (((k:Nat):Int)<(((named text S).length:Nat):Int)))),(36,.sh 2 (o.map RowD.d)),(37,.tup [.sh 2 ((rtL o).map RowD.d),dI (rtE o)]),(38,.sh 2 ((rtL o).map RowD.d)),(39,dI (rtE o))]) [.sl v9 2 50 ((rtL o).map RowD.d)] (H1:=[.sl v3 2 70 ((named text S).map SerD.d),.bx g2 57 (n7 op text n mode names ([]:List MatD) kids),.bx g1 118 (.agg [.el (.agg [.sh 2 (S.map SerD.d)]) 0,dI t])]) (H1':=[.sl v3 2 70 ((named text S).map SerD.d),.bx g2 57 (n7 op text n mode names ([]:List MatD) kids),.bx g1 118 (.agg [.el (.agg [.sh 2 (S.map SerD.d)]) 0,dI t])]) ⟨⟨_,O,mJ⟩,⟨_,O,mK (j:=0) O O⟩,⟨_,O,mJ⟩,⟨_,O,mJ⟩,⟨_,O,mJ⟩,⟨_,O,mJ⟩,⟨_,O,mJ⟩,⟨_,O,mJ⟩,⟨_,O,mJ⟩,⟨_,O,ArgC.tup (.cons (mK (j:=0) O O) (ga .nil))⟩,⟨_,O,mK (j:=0) O O⟩,⟨_,O,mJ⟩,trivial⟩ (.same (.same (.same .nil)))) ?_;exact tRs O results106 (.cons (zc (za O) (w6 (aG (D.ls 2 RowD.d) (show rtL o=rtL (selR (named text S) t) from(by rw[ho,c6 (by omega)]))))) (.cons (zc (za O) (w6 (aG (λn=>D.v (.int .i64 n)) (by rw[ho,c6 (by omega)])))) .nil)) O HSub.none ⟨O,O⟩
def aOq (l:List RowD) (e:Int) :
 CD prog 105 [] [.sh 2 (l.map RowD.d),dI e] (isR (.tup [.ifc 32 (.sh 2 (l.map RowD.d)),dI e])):=by
 refine tZ func105 O O (λC=>?_);refine T.bd 0 O (λbd0=>?_);have nl0:=zy bd0;refine g' 16 O ?_;exact tR O HSub.none ⟨O,O⟩
def zfH (S:List SerD) (t:Int) (text:Ba) (n mode:Int) (names:List Ba) (ms:List MatD) (kids:List Nd) :
 CD prog 62 [] [.agg [.el (.agg [.sh 2 (S.map SerD.d)]) 0,dI t],n7 tNum text n mode names ms kids] (isR (.tup [.ifc 121 (.agg [dI n]),dI 0])):=by
 refine tZ func62 O O (λC=>?_);refine T.bd 0 O (λbd0=>?_);refine T.bd 1 O (λbd1=>?_);refine g' 2 O ?_;refine tA O (λg1=>?_);refine tA O (λg2=>?_);refine gQ 14 [0] O O (tP O (zaU (q:=true) O O (by decide)) (gQ 8 [0] O O (tP O (zm [0] [.tmp 11] (zv:=cH) O O (.cons (CellD.v O) .nil) (runUnderlying121) zeroValue121 aPw ⟨O,trivial⟩ O) (g' 8 O ?_))));exact tR O HSub.none ⟨O,O⟩
def aWg (S:List SerD) (t:Int) (text:Ba) (n mode:Int) (names:List Ba) (kids:List Nd) (hn:S.length<=1000) (hs:∀ s∈S,s.ls.length<=1000000/\s.ps.length<=1000000):
 CD prog 62 [] [.agg [.el (.agg [.sh 2 (S.map SerD.d)]) 0,dI t],n7 nSel text n mode names ([]:List MatD) kids] (isR (.tup [.ifc 32 (.sh 2 ((rtL (selR (named text S) t)).map RowD.d)),dI (rtE (selR (named text S) t))])):=by
 refine tZ func62 O O (λC=>?_);refine T.bd 0 O (λbd0=>?_);refine T.bd 1 O (λbd1=>?_);refine g' 2 O ?_;refine tA O (λg1=>?_);refine tA O (λg2=>?_);refine gQ 14 [0] O O (tP O (zaU (q:=false) O O (by decide)) (g' 6 O (tP O (zaU (q:=true) O O (by decide)) (gQ 8 [1,0] O O (tW O acs (aYw S t nSel text n mode names kids hn hs) (g' 2 O (tW O acs (aOq (rtL (selR (named text S) t)) (rtE (selR (named text S) t))) (g' 9 O ?_))))))));exact tR O HSub.none ⟨O,O⟩
def aY8 (S:List SerD) (t:Int) (text:Ba) (n mode:Int) (names:List Ba) (kids:List Nd) (ka kb:Nd) (va vb:Int) (hkl:2<=kids.length) (hka:kids[0]?=some ka) (hkb:kids[1]?=some kb) (iha:CD prog 62 [] [.agg [.el (.agg [.sh 2 (S.map SerD.d)]) 0,dI t],Nd.d ka] (isR (.tup [.ifc 121 (.agg [dI va]),dI 0]))) (ihb:CD prog 62 [] [.agg [.el (.agg [.sh 2 (S.map SerD.d)]) 0,dI t],Nd.d kb] (isR (.tup [.ifc 121 (.agg [dI vb]),dI 0]))):
 CD prog 109 [] [.agg [.el (.agg [.sh 2 (S.map SerD.d)]) 0,dI t],.agg [.s tBin,.s text,dI n,dI mode,.sh 1 (names.map D.s),.sh 3 (([]:List MatD).map MatD.d),.sh 7 (kids.map Nd.d)]] (isR (.tup [.ifc 121 (.agg [dI ((doE text va vb).1)]),dI ((doE text va vb).2)])):=by
 refine tZ func109 O O (λC=>?_);refine T.bd 0 O (λbd0=>?_);refine T.bd 1 O (λbd1=>?_);refine g' 2 O ?_;refine tA O (λg1=>?_);refine tA O (λg2=>?_);refine g' 5 O (T.keep [0,1,2,3,4,5] O ?_);obtain ⟨x1,hx1⟩:=zi kids 0 (by omega);have ex1:x1=ka:=uD (hx1.symm.trans hka);subst ex1;obtain ⟨yax1,ybx1,ycx1,ydx1,yex1,yfx1,ygx1⟩:=x1;refine tDr 10 [(16,.agg [.el (.agg [.sh 2 (S.map SerD.d)]) 0,dI t],none),(17,dP g2 6,none),(18,.sh 7 (kids.map Nd.d),none),(19,.el (n7 yax1 ybx1 ycx1 ydx1 yex1 yfx1 ygx1) 0,none),(20,n7 yax1 ybx1 ycx1 ydx1 yex1 yfx1 ygx1,none),(21,.tup [.ifc 121 (.agg [dI va]),dI 0],none),(15,.tup [.ifc 121 (.agg [dI va]),dI 0],none),(22,.ifc 121 (.agg [dI va]),none),(23,dI 0,none),(6,.ifc 121 (.agg [dI va]),none)] [.bx g2 57 (.agg [.s tBin,.s text,dI n,dI mode,.sh 1 (names.map D.s),.sh 3 (([]:List MatD).map MatD.d),.sh 7 (kids.map Nd.d)]),.bx g1 118 (.agg [.el (.agg [.sh 2 (S.map SerD.d)]) 0,dI t])] (Hn:=[.bx g2 57 (.agg [.s tBin,.s text,dI n,dI mode,.sh 1 (names.map D.s),.sh 3 (([]:List MatD).map MatD.d),.sh 7 (kids.map Nd.d)]),.bx g1 118 (.agg [.el (.agg [.sh 2 (S.map SerD.d)]) 0,dI t])]) mixed O O O O w8 O ⟨sa_p O O O (zbg (d:=.agg [.el (.agg [.sh 2 (S.map SerD.d)]) 0,dI t]) O (i:=1) O isAgg118 sizeOf118 O O),sa_p O O O (zk O zeX O),sa_p O O O (zl O (i:=0) O isAgg55 O),sa_p O O O (zf (k:=0) O O bM aY (by first | rfl | omega) (zd hx1)),sa_p O O O (zbb (d:=n7 yax1 ybx1 ycx1 ydx1 yex1 yfx1 ygx1) O bS aY O O),sa_q O O O (zal O (gc (gc .nil)) Tryz.call62 (iha) zaf),sa_p O O O (zb O),sa_p O O O (zaT O O),sa_p O O O (zaT O O),sa_p O O O (zeB O),trivial⟩ ?_;refine tK O (g' 10 O ?_);refine tD O (λhc3=>?_) (λhc3=>?_)
 · exfalso;omega
 refine g' 3 O (T.keep [0,1,2,3,4,5,6,7,15,16,17,18,19,20,21,22,23,24,25] O ?_);obtain ⟨x2,hx2⟩:=zi kids 1 (by omega);have ex2:x2=kb:=uD (hx2.symm.trans hkb);subst ex2;obtain ⟨yax2,ybx2,ycx2,ydx2,yex2,yfx2,ygx2⟩:=x2;refine tDr 10 [(28,.agg [.el (.agg [.sh 2 (S.map SerD.d)]) 0,dI t],none),(29,dP g2 6,none),(30,.sh 7 (kids.map Nd.d),none),(31,.el (n7 yax2 ybx2 ycx2 ydx2 yex2 yfx2 ygx2) 0,none),(32,n7 yax2 ybx2 ycx2 ydx2 yex2 yfx2 ygx2,none),(33,.tup [.ifc 121 (.agg [dI vb]),dI 0],none),(27,.tup [.ifc 121 (.agg [dI vb]),dI 0],none),(34,.ifc 121 (.agg [dI vb]),none),(35,dI 0,none),(8,.ifc 121 (.agg [dI vb]),none)] [.bx g2 57 (.agg [.s tBin,.s text,dI n,dI mode,.sh 1 (names.map D.s),.sh 3 (([]:List MatD).map MatD.d),.sh 7 (kids.map Nd.d)]),.bx g1 118 (.agg [.el (.agg [.sh 2 (S.map SerD.d)]) 0,dI t])] (Hn:=[.bx g2 57 (.agg [.s tBin,.s text,dI n,dI mode,.sh 1 (names.map D.s),.sh 3 (([]:List MatD).map MatD.d),.sh 7 (kids.map Nd.d)]),.bx g1 118 (.agg [.el (.agg [.sh 2 (S.map SerD.d)]) 0,dI t])]) mixed O O O O w8 O ⟨sa_p O O O (zbg (d:=.agg [.el (.agg [.sh 2 (S.map SerD.d)]) 0,dI t]) O (i:=1) O isAgg118 sizeOf118 O O),sa_p O O O (zk O zeX O),sa_p O O O (zl O (i:=0) O isAgg55 O),sa_p O O O (zf (k:=1) O O bM aY (by first | rfl | omega) (zd hx2)),sa_p O O O (zbb (d:=n7 yax2 ybx2 ycx2 ydx2 yex2 yfx2 ygx2) O bS aY O O),sa_q O O O (zal O (gc (gc .nil)) Tryz.call62 (ihb) zaf),sa_p O O O (zb O),sa_p O O O (zaT O O),sa_p O O O (zaT O O),sa_p O O O (zeB O),trivial⟩ ?_;refine tK O (g' 7 O (tP O (zee O O (aD hc3)) (g' 8 O (tP O (zbt O (λ_ _=>by kernel_rfl)) (g' 3 O ?_)))));refine tA O (λg4=>?_);refine gQ 7 [0] O O (tP O (zbt O (λ_ _=>by kernel_rfl)) (g' 3 O ?_));refine tA O (λg5=>?_);refine gQ 24 [0,2,1,0] O O (tW O acs (Do_c text va vb) (g' 10 O (tP O (zm [0] [.tmp 64] (zv:=cH) O O (.cons (CellD.v O) .nil) (runUnderlying121) zeroValue121 aPw ⟨O,trivial⟩ O) (g' 9 O ?_))));exact tR O HSub.none ⟨O,O⟩
end Lp
