import Derived.Test.YtheccaeefigajaaGreatDoorV115
set_option linter.unusedSimpArgs false
set_option linter.unusedVariables false
set_option maxHeartbeats 4000000
set_option maxRecDepth 100000
namespace Lp
open Go Go.RowKit Go.Proofs
namespace HdYtheccaeefigajaaGreatDoorV2
end HdYtheccaeefigajaaGreatDoorV2
open HdYtheccaeefigajaaGreatDoorV2
theorem zcD (a:List ByteArray) (b:List ByteArray) :
 CD Tryz.prog 21 [] [.sh 1 (a.map D.s),.sh 1 (b.map D.s)] (isR (dB (decide (a=b)))):=by
 refine zp Tryz.func21 rfl (N:=27) rfl rfl (fun C=>?_)
 refine jk [0,1] rfl ?_
 refine JD.bd 0 rfl (fun bd0=>?_)
 have nl0:=zbF bd0
 refine JD.bd 1 rfl (fun bd1=>?_)
 have nl1:=zbF bd1
 refine jT rfl (oR 1 rfl (oZ rfl (jS rfl (jT rfl (oR 1 rfl (oP rfl (zbf (n:=a.length) rfl Tryz.runUnderlying23 (by simp only[lm,lc,ln])) (oR 1 rfl (oP rfl (zbf (n:=b.length) rfl Tryz.runUnderlying23 (by simp only[lm,lc,ln])) (oP rfl (za2 rfl rfl rfl) (oZ rfl ?_))))))))))
 refine jD rfl (fun hc1=>?_) (fun hc1=>?_)
 · skip
   refine jT rfl (oR 1 rfl (oZ rfl (zn rfl (zk ?_))))
   exact zh Tryz.results21 (.cons (zx (zl rfl) (Cv.eq (congrArg (fun b=>D.v (.bool b)) (by first | exact(same_ne_len (by omega)).symm | exact(same_all (by omega) (by omega) hf).symm)))) .nil) rfl HSub.none ⟨rfl,rfl⟩
 · skip
   refine zt rfl (zj (jS rfl (jT rfl (oR 1 rfl (oZ rfl (jB rfl (jl1 (fun (a_:Nat)=>[(0,.sh 1 (a.map D.s)),(1,.sh 1 (b.map D.s)),(5,dN a_)]) (fun a_=>[]) (fun a_=>(a_≤a.length)∧(a.take a_=b.take a_)) (fun a_=>a.length-a_) 0 rfl (sa rfl) HSub.rfl' ⟨Nat.zero_le _,by simp⟩ ?_)))))))
   rintro k ⟨hk,hf⟩
   refine ja rfl (jn rfl (jS rfl (jT rfl (oR 2 rfl (oP rfl (zbf (n:=a.length) rfl Tryz.runUnderlying23 (by simp only[lm,lc,ln])) (oP rfl (zN rfl rfl rfl) (oZ rfl ?_)))))))
   refine jD rfl (fun hc2=>?_) (fun hc2=>?_)
   · skip
     refine zt rfl (zj (jS rfl (jB rfl (jS rfl (jk [0,1,5,11,12,13,14] rfl (jn rfl ?_))))))
     obtain ⟨x1,hx1⟩:=zW a k (by omega)
     obtain ⟨x2,hx2⟩:=zW b k (by omega)
     refine zaX 8 [(17,.sh 1 (a.map D.s),none),(18,dN k,none),(19,.el (.s x1) 0,none),(20,.s x1,none),(21,.sh 1 (b.map D.s),none),(22,dN k,none),(23,.el (.s x2) 0,none),(24,.s x2,none)] [] (Hn:=[]) mixed rfl rfl rfl rfl HSub.rfl' rfl ⟨sa_p rfl rfl rfl (zG rfl),sa_p rfl rfl rfl (zG rfl),sa_p rfl rfl rfl (zI (k:=k) rfl rfl Tryz.runUnderlying23 Tryz.sizeOf9 (by first | rfl | omega) (zK hx1)),sa_p rfl rfl rfl (zar rfl Tryz.isAgg9 rfl),sa_p rfl rfl rfl (zG rfl),sa_p rfl rfl rfl (zG rfl),sa_p rfl rfl rfl (zI (k:=k) rfl rfl Tryz.runUnderlying23 Tryz.sizeOf9 (by first | rfl | omega) (zK hx2)),sa_p rfl rfl rfl (zar rfl Tryz.isAgg9 rfl),trivial⟩ (ok [0,1,5,11,12,13,14,17,18,19,20,21,22,23,24] rfl (oP rfl (zQ rfl rfl rfl) (oP rfl (zaZ rfl) (oZ rfl ?_))))
     refine jC rfl (fun hc3=>?_) (fun hc3=>?_)
     · replace hc3:=of_decide_eq_false (p:=x1=x2) (by simpa using hc3)
       refine jT rfl (oR 1 rfl (oZ rfl (zn rfl (zo (zk (zal (zo (zk ?_))))))))
       exact zh Tryz.results21 (.cons (zx (zl rfl) (Cv.eq (congrArg (fun b=>D.v (.bool b)) (by first | exact(same_ne_len (by omega)).symm | exact(same_ne_at hx1 hx2 (by simpa using hc3)).symm | exact(same_all (by omega) (by omega) hf).symm)))) .nil) rfl HSub.none ⟨rfl,rfl⟩
     · replace hc3:=of_decide_eq_true (p:=x1=x2) (by simpa using hc3)
       refine zt rfl (zB (zj (zf rfl (oR 1 rfl (oP rfl (zaz (c:=((k+1:Nat):Int)) rfl rfl (zab (by omega) (by omega))) (oR 1 rfl (zq rfl ?_)))))))
       exact pl1 (k+1) (sa rfl) HSub.rfl' ⟨by omega,same_snoc hx1 hx2 hf (by simpa using hc3)⟩ (by omega)
   · skip
     refine zF rfl (zw (zu (zr (zj (jT rfl (oR 1 rfl (oZ rfl (zn rfl ?_))))))))
     exact zh Tryz.results21 (.cons (zx (zl rfl) (Cv.eq (congrArg (fun b=>D.v (.bool b)) (by first | exact(same_ne_len (by omega)).symm | exact(same_all (by omega) (by omega) hf).symm)))) .nil) rfl HSub.none ⟨rfl,rfl⟩
end Lp
set_option linter.unusedVariables false
namespace Lp
open Go Go.RowKit
def rest (ll:LLs) (c:List Nat):LLs:=List.zipWith (fun l n=>l.drop n) ll c
end Lp
namespace Lp
end Lp
namespace Lp
open Go
end Lp
set_option linter.unusedVariables false
namespace Lp
open Go
def mkL {α:Type} (g:Nat→Nat→α) (i f n:Nat):List α:=(List.range' f n).map (g i)
section
variable {α:Type} {g:Nat→Nat→α}
theorem zaM {i f n:Nat}:(mkL g i f n).length=n:=by unfold mkL;simp
theorem mkL_app {i f n m:Nat}:mkL g i f n++mkL g i (f+n) m=mkL g i f (n+m):=by
 unfold mkL;rw[←List.map_append,List.range'_append_1]
theorem mkL_succ {i f n:Nat}:mkL g i f (n+1)=mkL g i f n++[g i (f+n)]:=by rw[←mkL_app];rfl
theorem mkL_take {i f n m:Nat} (h:n≤m):(mkL g i f m).take n=mkL g i f n:=by
 obtain ⟨k,rfl⟩:=Nat.le.dest h
 rw[←mkL_app,List.take_left' zaM]
theorem mkL_more {i n m:Nat} {l l2:List α} (h:l=mkL g i 0 n) (h2:l2=mkL g i n m):l++l2=mkL g i 0 (n+m):=by
 rw[h,h2];have:=mkL_app (g:=g) (i:=i) (f:=0) (n:=n) (m:=m);rwa [Nat.zero_add] at this
def putK (g:Nat→Nat→α) (K:List (Kp α)):List (Kp α):=K.mapIdx (fun i p=>⟨p.v,mkL g i 0 p.l.length⟩)
theorem putK_len {K:List (Kp α)}:(putK g K).length=K.length:=by unfold putK;simp
theorem putK_get {K:List (Kp α)} {i:Nat} {x:Kp α} (h:K[i]?=some x):(putK g K)[i]?=some ⟨x.v,mkL g i 0 x.l.length⟩:=by unfold putK;rw[List.getElem?_mapIdx,h];rfl
theorem putK_d {K:List (Kp α)}:(putK g K).map Kp.d=K.map Kp.d:=by
 apply List.ext_getElem?;intro i
 unfold putK
 rw[List.getElem?_map,List.getElem?_map,List.getElem?_mapIdx]
 cases K[i]?<;>rfl
theorem putK_marked {K:List (Kp α)}:∀ i x,(putK g K)[i]?=some x→x.l=mkL g i 0 x.l.length:=by
 intro i x h
 unfold putK at h
 rw[List.getElem?_mapIdx] at h
 cases e:K[i]? with
 | none=>rw[e] at h;cases h
 | some y=>rw[e] at h;injection h with h;subst h;rw[zaM]
theorem putK_light {K:List (Kp α)} {N:Nat} (h:∀ x∈K,x.l.length≤N):∀ x∈putK g K,x.l.length≤N:=by
 intro x hx
 obtain ⟨i,he⟩:=List.mem_iff_getElem?.1 hx
 unfold putK at he
 rw[List.getElem?_mapIdx] at he
 cases e:K[i]? with
 | none=>rw[e] at he;cases he
 | some y=>rw[e] at he;injection he with he;subst he;rw[zaM];exact h _ (List.mem_of_getElem? e)
theorem putK_step {K:List (Kp α)} {i:Nat} {x:Kp α} (h:K[i]?=some x):(putK g K).take i++[⟨x.v,mkL g i 0 x.l.length⟩]=(putK g K).take (i+1):=(zaI (putK_get h)).symm
structure Grown (g:Nat→Nat→α) (K:List (Kp α)) (G:List (K2 α)):Prop where
 v0:G.map K2.d0=K.map Kp.d
 at_:∀ i y,G[i]?=some y→y.l=mkL g i 0 (y.m+72)∧y.m≤1000000
theorem Grown.nil:Grown g [] []:=⟨rfl,fun i y h=>by simp at h⟩
theorem Grown.len {K:List (Kp α)} {G:List (K2 α)} (h:Grown g K G):G.length=K.length:=by have:=congrArg List.length h.v0;simpa using this
theorem Grown.snoc {K:List (Kp α)} {G:List (K2 α)} {i:Nat} {x:Kp α} {v':Value} {l:List α} (h:Grown g (K.take i) G) (hx:K[i]?=some x) (hl:l=mkL g i 0 (x.l.length+72)) (hb:x.l.length≤1000000):Grown g (K.take (i+1)) (G++[⟨x.v,v',x.l.length,l⟩]):=by
 have hi:=zeG hx
 have hlen:=h.len
 rw[List.length_take] at hlen
 refine⟨by rw[zaI hx,List.map_append,List.map_append,h.v0];rfl,fun j y hj=>?_⟩
 rcases Nat.lt_or_ge j G.length with hlt | hge
 · rw[List.getElem?_append_left hlt] at hj;exact h.at_ j y hj
 · rw[List.getElem?_append_right hge] at hj
   have hj0:j-G.length=0:=by have:=zeG hj;simp at this;omega
   rw[hj0] at hj
   injection hj with hj;subst hj
   have:j=i:=by omega
   subst this
   exact⟨hl,hb⟩
end
end Lp
