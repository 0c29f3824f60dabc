import Derived.Test.YtheccaeefigajaaGreatDoorPTok2
set_option linter.unusedVariables false
namespace Lp
open Go
theorem stop_o (t:ByteArray):Stop (bl8 (zC++t)):=zes (b:=40) (r:=[]) rfl (by decide) t
theorem ze3 (t:ByteArray):Stop (bl8 (tSp++t)):=zes (b:=32) (r:=[]) rfl (by decide) t
theorem stop_m (t:ByteArray):Stop (bl8 (zU++t)):=zes (b:=44) (r:=[]) rfl (by decide) t
theorem hd_sp (t:ByteArray):Hd (tSp++t):=⟨32,bl8 t,by rw[zcm];rfl,by decide,by decide⟩
theorem Lx.eq {t:ByteArray} {W V:List TokD} (h:Lx t W) (e:W=V):Lx t V:=e ▸ h
theorem lx_close {t:ByteArray} {W:List TokD} (h:Lx t W):Lx (t++zS) (W++[tkC]):=h.cat (ze6 za6.2.1) (stop_1 (b:=41) (r:=[]) rfl (by decide))
theorem lx_wrap {b:Bool} {t:ByteArray} {W:List TokD} (h:Lx t W) (hh:Hd t):Lx (zcG b t) (zbu b W)∧Hd (zcG b t):=by
 unfold zcG zbu
 split
 · rw[ByteArray.append_assoc]
   exact⟨zds za6.1 (lx_close h) (hh.app _),hd_open _⟩
 · exact⟨h,hh⟩
theorem lx_bin {text a b:ByteArray} {mode:Int} {names:List ByteArray} {A B:List TokD} (ht:text∈opsC) (hn:∀ x∈names,FW x) (ha:Lx a A) (hda:Hd a) (hb:Lx b B):Lx (binP text mode names a b) (binT text mode names A B)∧Hd (binP text mode names a b):=by
 have hs:=ops_signs ht
 unfold binP binT zez
 split
 · simp only[ByteArray.append_assoc]
   refine⟨(ha.cat (zeR (zds hs (zeR hb) (hd_sp _))) (ze3 _)).eq (by simp),hda.app _⟩
 · simp only[ByteArray.append_assoc]
   refine⟨(ha.cat (zeR (zds hs (zeR ((lx_wordP mode lx_on.1 lx_on.2.1).cat ((lx_nam hn).cat (zeR hb) (ze3 _)) ?_)) (hd_sp _))) (ze3 _)).eq (by simp),hda.app _⟩
   unfold namP;simp only[ByteArray.append_assoc];exact stop_o _
theorem lx_aggP {text a:ByteArray} {n:Nat} {mode:Int} {names:List ByteArray} {A:List TokD} (ht:hasN aggN text=true) (hn:n≤1000000000000) (hw:∀ x∈names,FW x) (ha:Lx a A) (hda:Hd a):Lx (aggP text n mode names a) (aggT text n mode names A)∧Hd (aggP text n mode names a):=by
 obtain ⟨t1,t2⟩:=lx_agg ht
 have hR:∃ R,Lx (zC++R) (tkO::((if zaj text=true then [⟨2,0,digB n⟩,sg zU] else [])++(A++[tkC])))∧aggP text n mode names a=aggA text mode names++(zC++R):=by
  unfold aggP
  by_cases h:zaj text=true
  · rw[if_pos h,if_pos h]
    refine⟨digB n++(zU++(a++zS)),?_,by simp only[ByteArray.append_assoc]⟩
    exact(zds za6.1 ((lx_dig hn).cat (zds za6.2.2.1 (lx_close ha) (hda.app _)) (stop_m _)) ((hd_dig n).app _)).eq (by simp[tkO])
  · rw[if_neg h,if_neg h]
    refine⟨a++zS,?_,by simp only[ByteArray.append_assoc]⟩
    exact(zds za6.1 (lx_close ha) (hda.app _)).eq (by simp[tkO])
 obtain ⟨R,r1,r2⟩:=hR
 rw[r2]
 unfold aggA aggT zez
 split
 · exact⟨(t1.cat r1 (stop_o _)).eq (by simp),t2.app _⟩
 · simp only[ByteArray.append_assoc]
   refine⟨(t1.cat (zeR ((lx_wordP mode lx_on.2.2.1 lx_on.2.2.2).cat (zeR ((lx_nam hw).cat (zeR r1) (ze3 _))) (ze3 _))) (ze3 _)).eq (by simp),t2.app _⟩
theorem lx_fnP {text a:ByteArray} {A:List TokD} (ht:hasN fnN text=true) (ha:Lx a A) (hda:Hd a):Lx (fnP text a) (fnT text A)∧Hd (fnP text a):=by
 obtain ⟨t1,t2⟩:=lx_fnN ht
 unfold fnP fnT
 simp only[ByteArray.append_assoc]
 exact⟨(t1.cat (zds za6.1 (lx_close ha) (hda.app _)) (stop_o _)).eq (by simp[tkO]),t2.app _⟩
theorem lx_node {rm:List MatD→Bool} {q:Nd} (h:Rdy rm q):Lx q.pr q.tk∧Hd q.pr:=by
 induction h with
 | num h=>rw[pr_num,tk_num];exact⟨lx_dig h,hd_dig _⟩
 | @neg x _ ih=>
  rw[show (Nd.mk tNeg ByteArray.empty 0 0 [] [] [x]).pr=_ from pr_neg (n:=0),show (Nd.mk tNeg ByteArray.empty 0 0 [] [] [x]).tk=_ from tk_neg (n:=0)]
  obtain ⟨a,b⟩:=lx_wrap (b:=x.two) ih.1 ih.2
  exact⟨zds za6.2.2.2.2.2.2.2 a b,⟨45,_,by rw[zcm];rfl,by decide,by decide⟩⟩
 | @bin text mode names x y ht h hn _ _ ih1 ih2=>
  rw[show (Nd.mk tBin text 0 mode names [] [x,y]).pr=_ from pr_bin (n:=0),show (Nd.mk tBin text 0 mode names [] [x,y]).tk=_ from tk_bin (n:=0)]
  obtain ⟨a,b⟩:=lx_wrap (b:=x.two) ih1.1 ih1.2
  obtain ⟨c,d⟩:=lx_wrap (b:=y.two) ih2.1 ih2.2
  exact lx_bin ht hn a b c
 | @agg text n mode names x ht h hn hm hw _ ih=>rw[pr_agg,tk_agg];exact lx_aggP ht h hw ih.1 ih.2
 | @fn text x ht _ ih=>
  rw[show (Nd.mk tFn text 0 0 [] [] [x]).pr=_ from pr_fn (n:=0),show (Nd.mk tFn text 0 0 [] [] [x]).tk=_ from tk_fn (n:=0)]
  exact lx_fnP ht ih.1 ih.2
 | @sel text n ms ht h hs hm hr=>rw[pr_sel,tk_sel];exact lx_sel ht hs hm
end Lp
set_option linter.unusedVariables false
namespace Lp
open Go
section
variable {s:Rd} {k:Int} {ts:List ByteArray} {x:ByteArray}
theorem zcs:(s.take k ts).2.2.n=s.n:=by unfold Rd.take;split<;>rfl
theorem zb9:(s.must x).n=s.n:=zcs
theorem zd6:(s.any k).2.n=s.n:=by unfold Rd.any;split<;>rfl
theorem zdS (h:s.node.b=false):s.node.n≤200:=by
 have h:(s.b||decide (200<s.n+1))=false:=h
 have:=of_decide_eq_false (Bool.or_eq_false_iff.1 h).2
 show s.n+1≤200;omega
theorem namesF_n:∀ (F:Nat) (o:List ByteArray) (s:Rd),(zaZ F o s).2.n=s.n
 | 0,o,s=>rfl
 | F+1,o,s=>by
  unfold zaZ
  split
  · rfl
  · split
    · rw[namesF_n F];exact zcs.trans zd6
    · exact zcs.trans zd6
theorem names_n:s.names.2.n=s.n:=by
 unfold Rd.names;split
 · exact zb9.trans zb9
 · exact zb9.trans ((namesF_n _ _ _).trans zb9)
theorem mode_n {y:ByteArray}:(s.mode x y).2.2.n=s.n:=by
 unfold Rd.mode;split
 · exact zcs
 · split
   · exact names_n.trans zcs
   · exact names_n.trans zcs
theorem bracesF_n:∀ (F:Nat) (o:List MatD) (s:Rd),(zaa F o s).2.n=s.n
 | 0,o,s=>rfl
 | F+1,o,s=>by
  unfold zaa
  split
  · rfl
  · simp only
    split
    · rw[bracesF_n F];exact zcs.trans (zd6.trans (zcs.trans zd6))
    · exact zcs.trans (zd6.trans (zcs.trans zd6))
end
def CnP (m:Nat) (p:Rd→Nd×Rd):Prop:=∀ s:Rd,s.l.length≤m→(p s).2.b=false→(p s).2.n=s.n+((p s).1.cnt:Int)∧(p s).2.n≤200
theorem cn_levelF {part:Rd→Nd×Rd} {ts:List ByteArray} (hb:Bad part) (hs:∀ s,Stp 1 s (part s).2) {m:Nat} (hp:CnP m part):∀ (F:Nat) (o:Nd) (s:Rd),s.l.length≤m→s.n≤200→(zaP part ts F o s).2.b=false→(zaP part ts F o s).2.n+(o.cnt:Int)=s.n+((zaP part ts F o s).1.cnt:Int)∧(zaP part ts F o s).2.n≤200
 | 0,o,s,_,h,_=>⟨rfl,h⟩
 | F+1,o,s,hm,h,e=>by
  have k1:=(zG s 5 ts).len
  have n1:=zcs (s:=s) (k:=5) (ts:=ts)
  unfold zaP at e ⊢
  split
  · exact⟨by rw[n1],by rw[n1];exact h⟩
  · rename_i hc
    rw[if_neg hc] at e
    simp only at e ⊢
    have eq:=zR (fun q=>zcx q) e
    have ep:(part ((s.take 5 ts).2.2.mode tOn zM).2.2).2.b=false:=zR zbD eq
    have k2:=(za3 (s.take 5 ts).2.2 tOn zM).len
    have k3:=(hs ((s.take 5 ts).2.2.mode tOn zM).2.2).len
    have n2:=mode_n (s:=(s.take 5 ts).2.2) (x:=tOn) (y:=zM)
    have w:=hp _ (by omega) ep
    have n3:=zdS eq
    have n4:(part ((s.take 5 ts).2.2.mode tOn zM).2.2).2.node.n=(part ((s.take 5 ts).2.2.mode tOn zM).2.2).2.n+1:=rfl
    have h:=cn_levelF hb hs hp F _ _ (by show (part _).2.l.length≤m;omega) n3 e
    refine⟨?_,h.2⟩
    have h1:=h.1
    simp only[Nd.cnt,Nd.cntL] at h1
    omega
theorem cn_level {part:Rd→Nd×Rd} {ts:List ByteArray} (hb:Bad part) (hs:∀ s,Stp 1 s (part s).2) {m:Nat} (hp:CnP m part):CnP m (fun s=>s.level part ts):=fun s hm e=>by
 have ep:(part s).2.b=false:=zR (fun q=>zcx q) e
 have k3:=(hs s).len
 have w:=hp s hm ep
 have h:=cn_levelF hb hs hp _ _ _ (by omega) w.2 e
 simp only[Rd.level] at e ⊢
 exact⟨by omega,h.2⟩
section
variable (rm:List MatD→Bool)
theorem cn_sel {m:Nat}:CnP m (fun s=>s.selector rm):=fun s _ e=>by
 have e:(s.selector rm).2.b=false:=e
 show (s.selector rm).2.n=s.n+((s.selector rm).1.cnt:Int)∧(s.selector rm).2.n≤200
 unfold Rd.selector at e ⊢
 simp only at e ⊢
 have n1:s.selName.2.n=s.n:=by unfold Rd.selName;split;exact zd6;rfl
 have n2:(s.selName.2.selMs rm s.selName.1).2.n=s.n:=by
  refine Eq.trans ?_ n1
  unfold Rd.selMs;split
  · unfold Rd.braces;split
    · exact zb9.trans zb9
    · exact zb9.trans ((bracesF_n _ _ _).trans zb9)
  · rfl
 have n3:(s.selName.2.selMs rm s.selName.1).2.selWin.2.n=s.n:=by
  refine Eq.trans ?_ n2
  unfold Rd.selWin;split
  · exact zb9.trans (zd6.trans zcs)
  · exact zcs
 refine⟨?_,zdS e⟩
 show _+1=_
 rw[n3];simp only[Nd.cnt,Nd.cntL];omega
theorem cn_prim {ex:Rd→Nd×Rd} (hb:Bad ex) {m:Nat} (hx:∀ a,a<m→CnP a ex):CnP m (fun s=>s.prim rm ex):=fun s hl e=>by
 have h0:s.b=false:=(zfl rm ex).no e
 have hn:¬s.b=true:=by rw[h0];decide
 simp only[Rd.prim] at e ⊢
 rw[if_neg hn] at e ⊢
 split
 · rename_i hc
   rw[if_pos hc] at e
   refine⟨?_,zdS e⟩
   show (s.any 2).2.n+1=_
   rw[zd6];simp only[Nd.cnt,Nd.cntL];omega
 · rename_i hc
   rw[if_neg hc] at e
   split
   · rename_i hd
     rw[if_pos hd] at e
     have e1:=zR zaM e
     have l1:=zcw (hb.no e1)
     have w:=hx _ (by omega) _ (Nat.le_refl _) e1
     have n1:=zb9 (s:=s) (x:=zC)
     have n2:=zb9 (s:=(ex (s.must zC)).2) (x:=zS)
     simp only;omega
   · rename_i hd
     rw[if_neg hd] at e
     split
     · rename_i hf
       rw[if_pos hf] at e
       unfold Rd.aggr at e ⊢
       simp only at e ⊢
       have e7:=zR zbD e
       have e6:=zR zaM e7
       have e5:=hb.no e6
       have e3:((s.any 1).2.mode tBy zF |>.2.2.must zC).b=false:=by
        by_cases hn:zaj (s.any 1).1=true
        · rw[if_pos hn,if_pos hn] at e5;exact zR zeo (zR zaM e5)
        · rw[if_neg hn,if_neg hn] at e5;exact e5
       have e1:(s.any 1).2.b=false:=zR mode_b (zR zaM e3)
       have l1:=zcW (s:=s) (by decide) e1
       have l2:=(za3 (s.any 1).2 tBy zF).len
       have l3:=(zB ((s.any 1).2.mode tBy zF).2.2 zC).len
       have l4:=(zaU (((s.any 1).2.mode tBy zF).2.2.must zC) 2).len
       have l5:=(zB ((((s.any 1).2.mode tBy zF).2.2.must zC).number 2).2 zU).len
       have n1:(((s.any 1).2.mode tBy zF).2.2.must zC).n=s.n:=zb9.trans (mode_n.trans zd6)
       have n5:((((s.any 1).2.mode tBy zF).2.2.must zC).number 2).2.n=s.n:=zd6.trans n1
       have n6:(((((s.any 1).2.mode tBy zF).2.2.must zC).number 2).2.must zU).n=s.n:=zb9.trans n5
       refine⟨?_,zdS e⟩
       by_cases hn:zaj (s.any 1).1=true
       · simp only[if_pos hn] at e6 ⊢
         have w:=hx _ (by omega) _ (Nat.le_refl _) e6
         show (Rd.must _ zS).n+1=_
         rw[zb9];simp only[Nd.cnt,Nd.cntL];omega
       · simp only[if_neg hn] at e6 ⊢
         have w:=hx _ (by omega) _ (Nat.le_refl _) e6
         show (Rd.must _ zS).n+1=_
         rw[zb9];simp only[Nd.cnt,Nd.cntL];omega
     · rename_i hf
       rw[if_neg hf] at e
       split
       · rename_i hg
         rw[if_pos hg] at e
         simp only at e ⊢
         have e0:=zR zaM e
         have e1:=zR zbD e0
         have l1:=zcw (hb.no e1)
         have l2:=(zaK s 1).len
         have w:=hx _ (by omega) _ (Nat.le_refl _) e1
         have n1:((s.any 1).2.must zC).n=s.n:=zb9.trans zd6
         have n2:=zdS e0
         have n3:(ex ((s.any 1).2.must zC)).2.node.n=(ex ((s.any 1).2.must zC)).2.n+1:=rfl
         rw[zb9];simp only[Nd.cnt,Nd.cntL];omega
       · rename_i hg
         rw[if_neg hg] at e
         exact cn_sel (m:=s.l.length) rm s (Nat.le_refl _) e
theorem cn_unaryF {ex:Rd→Nd×Rd} {m:Nat} (hp:CnP m (fun s=>s.prim rm ex)):∀ (F:Nat) (s:Rd),s.l.length<F→s.l.length≤m→(zaf rm ex F s).2.b=false→(zaf rm ex F s).2.n=s.n+((zaf rm ex F s).1.cnt:Int)∧(zaf rm ex F s).2.n≤200
 | 0,s,h,_,_=>absurd h (Nat.not_lt_zero _)
 | F+1,s,hF,hm,e=>by
  unfold zaf at e ⊢
  have k1:=(zG s 5 [zaz]).len
  have n1:=zcs (s:=s) (k:=5) (ts:=[zaz])
  split
  · rename_i hc
    rw[if_pos hc] at e
    simp only at e ⊢
    have hg:=za5 (by decide) hc
    have w:=cn_unaryF hp F _ (by omega) (by omega) (zR zbD e)
    refine⟨?_,zdS e⟩
    show _+1=_
    simp only[Nd.cnt,Nd.cntL];omega
  · rename_i hc
    rw[if_neg hc] at e
    have w:=hp _ (by omega) e
    simp only at w
    exact⟨by rw[w.1,n1],w.2⟩
theorem cn_prod {ex:Rd→Nd×Rd} (hb:Bad ex) (hs:∀ s,Stp 1 s (ex s).2) {m:Nat} (hx:∀ a,a<m→CnP a ex):CnP m (zcH rm ex):=
 cn_level (fun s h=>zd9 rm ex _ s h) (fun s=>zb6 rm hs _ s) (fun s hm e=>cn_unaryF rm (cn_prim rm hb hx) _ s (Nat.lt_succ_self _) hm e)
theorem cn_sum {ex:Rd→Nd×Rd} (hb:Bad ex) (hs:∀ s,Stp 1 s (ex s).2) {m:Nat} (hx:∀ a,a<m→CnP a ex):CnP m (sumP rm ex):=
 cn_level (zfk rm ex) (fun s=>zdh rm hs s) (cn_prod rm hb hs hx)
theorem cn_expr:∀ f:Nat,CnP f (zaJ rm (f+1))
 | 0=>cn_level (zeK rm _) (fun s=>zck rm (zaQ rm _) s) (cn_sum rm (zel rm _) (zaQ rm _) (fun a ha=>absurd ha (Nat.not_lt_zero _)))
 | f+1=>cn_level (zeK rm _) (fun s=>zck rm (zaQ rm _) s) (cn_sum rm (zel rm _) (zaQ rm _) (fun a ha s hl e=>cn_expr f s (by omega) e))
end
end Lp
set_option linter.unusedVariables false
namespace Lp
open Go
section
variable {r:List TokD} {u:Rd} {x z:TokD} {k:Int} {ts:List ByteArray} {w:ByteArray}
theorem St.len (h:St r u):u.l.length=r.length:=by have:=congrArg List.length h.l;simpa using this
theorem St.is (h:St (z::r) u):u.is k ts=(decide (z.k=k)&&hasN ts z.t):=by
 obtain ⟨e2,e3⟩:=h.pk
 unfold Rd.is;rw[e2,e3]
theorem St.must (h:St (sg w::r) u):St r (u.must w)∧(u.must w).n=u.n:=by
 obtain ⟨a,b,c⟩:=must_er h.b h.l
 exact⟨⟨a,c⟩,b⟩
theorem St.num {n:Nat} (h:St (⟨k,0,digB n⟩::r) u):u.number k=((n:Int),⟨u.l.tail,u.n,u.b⟩)∧St r ⟨u.l.tail,u.n,u.b⟩:=by
 obtain ⟨a,b⟩:=h.any rfl
 refine⟨?_,b⟩
 unfold Rd.number;rw[a,zdR]
theorem St.no (h:St (z::r) u) (hz:z.k≠k∨hasN ts z.t=false) (hk:k≠0):u.take k ts=(ByteArray.empty,false,u):=h.not (.inr ⟨z,r,rfl,hz⟩) hk
end
theorem st_namesF:∀ (l:List ByteArray),l≠[]→∀ (F:Nat) (o:List ByteArray) (u:Rd) (r:List TokD),u.l.length<F→St (comT (l.map fun x=>[wk x])++tkC::r) u→∃ v,zaZ F o u=(o++l,v)∧St (tkC::r) v∧v.n=u.n
 | [],h,_,_,_,_,_,_=>absurd rfl h
 | _,_,0,_,u,_,h,_=>absurd h (Nat.not_lt_zero _)
 | [x],_,F+1,o,u,r,hF,h=>by
  have h:St (wk x::tkC::r) u:=h
  obtain ⟨a1,a2⟩:=h.any (k:=1) rfl
  have b1:=a2.no (k:=5) (ts:=[zU]) (.inr (by decide)) (by decide)
  refine⟨_,?_,a2,rfl⟩
  unfold zaZ
  rw[if_neg (by rw[h.b];decide),a1];simp only
  rw[b1,if_neg (by simp)]
 | x::y::l,_,F+1,o,u,r,hF,h=>by
  have h:St (wk x::sg zU::(comT ((y::l).map fun x=>[wk x])++tkC::r)) u:=by
   have e:comT ((x::y::l).map fun x=>[wk x])++tkC::r=wk x::sg zU::(comT ((y::l).map fun x=>[wk x])++tkC::r):=by
    simp only[List.map_cons,comT,List.cons_append,List.nil_append]
   rw[←e];exact h
  obtain ⟨a1,a2⟩:=h.any (k:=1) rfl
  obtain ⟨b1,b2⟩:=a2.yes (k:=5) (ts:=[zU]) rfl (by decide)
  have hl:=h.len
  have hl2:=b2.len
  obtain ⟨v,e1,e2,e3⟩:=st_namesF (y::l) (List.cons_ne_nil _ _) F (o++[x]) _ r (by rw[hl2];rw[hl] at hF;simp only[List.length_cons] at hF;omega) b2
  refine⟨v,?_,e2,e3⟩
  unfold zaZ
  rw[if_neg (by rw[h.b];decide),a1];simp only
  rw[b1,if_pos rfl]
  simp only
  rw[e1,List.append_assoc];rfl
theorem st_names {l:List ByteArray} {u:Rd} {r:List TokD} (h:St (namT l++r) u):∃ v,u.names=(l,v)∧St r v∧v.n=u.n:=by
 have h:St (sg zC::(comT (l.map fun x=>[wk x])++tkC::r)) u:=by
  have e:namT l++r=sg zC::(comT (l.map fun x=>[wk x])++tkC::r):=by unfold namT;simp[tkO]
  rw[←e];exact h
 obtain ⟨a1,a2⟩:=h.must
 unfold Rd.names
 by_cases hl:l=[]
 · subst hl
   have a1:St (sg zS::r) (u.must zC):=a1
   rw[if_pos (by rw[a1.is];decide)]
   obtain ⟨b1,b2⟩:=a1.must
   exact⟨_,rfl,b1,b2.trans a2⟩
 · have hi:(u.must zC).is 5 [zS]=false:=by
    obtain ⟨y,l',rfl⟩:=List.exists_cons_of_ne_nil hl
    have:∃ V,comT ((y::l').map fun x=>[wk x])++tkC::r=wk y::V:=by
     cases l' with
     | nil=>exact⟨_,rfl⟩
     | cons y2 l'=>exact⟨_,rfl⟩
    obtain ⟨V,e⟩:=this
    rw[e] at a1
    rw[a1.is];rfl
   rw[if_neg (by rw[hi];decide)]
   obtain ⟨v,e1,e2,e3⟩:=st_namesF l hl _ [] _ r (Nat.lt_succ_self _) a1
   rw[e1]
   have e2:St (sg zS::r) v:=e2
   obtain ⟨b1,b2⟩:=e2.must
   exact⟨_,rfl,b1,b2.trans (e3.trans a2)⟩
def Nw (a b:ByteArray) (r:List TokD):Prop:=r=[]∨∃ z r',r=z::r'∧(z.k≠1∨hasN [a,b] z.t=false)
theorem st_mode {a b:ByteArray} {mode:Int} {names:List ByteArray} {r:List TokD} {u:Rd} (hab:a≠b) (hm:mode=0∧names=[]∨mode=1∨mode=2) (hr:Nw a b r) (h:St (zez mode a b names++r) u):∃ v,u.mode a b=(mode,names,v)∧St r v∧v.n=u.n:=by
 unfold Rd.mode
 rcases hm with ⟨rfl,rfl⟩ | rfl | rfl
 · have h:St r u:=h
   rw[h.not hr (by decide)]
   exact⟨u,rfl,h,rfl⟩
 · have h:St (wk a::(namT names++r)) u:=h
   obtain ⟨a1,a2⟩:=h.yes (k:=1) (ts:=[a,b]) rfl (by simp[hasN])
   rw[a1,if_neg (by simp),if_pos (show ((wk a).t,true,(⟨u.l.tail,u.n,u.b⟩:Rd)).1=a from rfl)];simp only
   obtain ⟨v,e1,e2,e3⟩:=st_names a2
   rw[e1];exact⟨v,rfl,e2,e3⟩
 · have h:St (wk b::(namT names++r)) u:=h
   obtain ⟨a1,a2⟩:=h.yes (k:=1) (ts:=[a,b]) rfl (by simp[hasN])
   rw[a1,if_neg (by simp)];simp only
   rw[if_neg (fun e=>hab e.symm)]
   obtain ⟨v,e1,e2,e3⟩:=st_names a2
   rw[e1];exact⟨v,rfl,e2,e3⟩
abbrev fourM:List ByteArray:=[tEq,tNe,zai,zJ]
theorem sign_op {op:Int} (h:1≤op∧op≤4):opM (zb7 op)=op∧hasN fourM (zb7 op)=true:=by
 obtain rfl | rfl | rfl | rfl:op=1∨op=2∨op=3∨op=4:=by omega
 all_goals decide
theorem st_one {m:MatD} {r:List TokD} {u:Rd} (hm:1≤m.op∧m.op≤4) (h:St (matT m++r) u):∃ v,u.any 1=(m.n,⟨u.l.tail,u.n,u.b⟩)∧(Rd.take ⟨u.l.tail,u.n,u.b⟩ 5 fourM)=(zb7 m.op,true,⟨u.l.tail.tail,u.n,u.b⟩)∧Rd.any ⟨u.l.tail.tail,u.n,u.b||!true⟩ 3=(m.v,v)∧St r v∧v.n=u.n:=by
 have h:St (wk m.n::sg (zb7 m.op)::⟨3,0,m.v⟩::r) u:=h
 obtain ⟨a1,a2⟩:=h.any (k:=1) rfl
 obtain ⟨b1,b2⟩:=a2.yes (k:=5) (ts:=fourM) rfl (sign_op hm).2
 have b3:St (⟨3,0,m.v⟩::r) (⟨u.l.tail.tail,u.n,u.b||!true⟩:Rd):=⟨b2.l,by have:=h.b;show (u.b||false)=false;rw[this];rfl⟩
 obtain ⟨c1,c2⟩:=b3.any (k:=3) rfl
 exact⟨_,a1,b1,c1,c2,rfl⟩
theorem st_bracesF:∀ (l:List MatD),l≠[]→(∀ m∈l,1≤m.op∧m.op≤4)→∀ (F:Nat) (o:List MatD) (u:Rd) (r:List TokD),u.l.length<F→St (comT (l.map matT)++sg zP::r) u→∃ v,zaa F o u=(o++l,v)∧St (sg zP::r) v∧v.n=u.n
 | [],h,_,_,_,_,_,_,_=>absurd rfl h
 | _,_,_,0,_,u,_,h,_=>absurd h (Nat.not_lt_zero _)
 | [m],_,hm,F+1,o,u,r,hF,h=>by
  have h:St (matT m++sg zP::r) u:=h
  obtain ⟨v,a1,a2,a3,a4,a5⟩:=st_one (hm m List.mem_cons_self) h
  have b1:=a4.no (k:=5) (ts:=[zU]) (.inr (by decide)) (by decide)
  refine⟨v,?_,a4,a5⟩
  unfold zaa
  rw[if_neg (by rw[h.b];decide),a1];simp only
  rw[a2];simp only
  rw[a3];simp only
  rw[b1,if_neg (by simp),(sign_op (hm m List.mem_cons_self)).1]
 | m::y::l,_,hm,F+1,o,u,r,hF,h=>by
  have e:comT ((m::y::l).map matT)++sg zP::r=matT m++sg zU::(comT ((y::l).map matT)++sg zP::r):=by simp only[List.map_cons,comT,List.append_assoc,List.cons_append]
  rw[e] at h
  obtain ⟨v,a1,a2,a3,a4,a5⟩:=st_one (hm m List.mem_cons_self) h
  obtain ⟨b1,b2⟩:=a4.yes (k:=5) (ts:=[zU]) rfl (by decide)
  have hl:=h.len
  have hl2:=b2.len
  obtain ⟨z,e1,e2,e3⟩:=st_bracesF (y::l) (List.cons_ne_nil _ _) (fun m hq=>hm m (List.mem_cons_of_mem _ hq)) F (o++[m]) _ r (by rw[hl2];rw[hl] at hF;simp only[List.length_append,List.length_cons] at hF;simp only[List.length_append,List.length_cons];omega) b2
  refine⟨z,?_,e2,e3.trans a5⟩
  unfold zaa
  rw[if_neg (by rw[h.b];decide),a1];simp only
  rw[a2];simp only
  rw[a3];simp only
  rw[b1,if_pos rfl,(sign_op (hm m List.mem_cons_self)).1]
  simp only
  rw[e1,List.append_assoc];rfl
section
variable {rm:List MatD→Bool}
theorem st_braces {l:List MatD} {u:Rd} {r:List TokD} (hm:∀ m∈l,1≤m.op∧m.op≤4) (hr:l=[]∨rm l=true) (h:St (sg zQ::(comT (l.map matT)++sg zP::r)) u):∃ v,u.braces rm=(l,v)∧St r v∧v.n=u.n:=by
 obtain ⟨a1,a2⟩:=h.must
 unfold Rd.braces
 by_cases hl:l=[]
 · subst hl
   have a1:St (sg zP::r) (u.must zQ):=a1
   rw[if_pos (by rw[a1.is];decide)]
   obtain ⟨b1,b2⟩:=a1.must
   exact⟨_,rfl,b1,b2.trans a2⟩
 · have hi:(u.must zQ).is 5 [zP]=false:=by
    obtain ⟨y,l',rfl⟩:=List.exists_cons_of_ne_nil hl
    have:∃ V,comT ((y::l').map matT)++sg zP::r=wk y.n::V:=by
     cases l' with
     | nil=>exact⟨_,rfl⟩
     | cons y2 l'=>exact⟨_,rfl⟩
    obtain ⟨V,e⟩:=this
    rw[e] at a1
    rw[a1.is];rfl
   rw[if_neg (by rw[hi];decide)]
   obtain ⟨v,e1,e2,e3⟩:=st_bracesF l hl hm _ [] _ r (Nat.lt_succ_self _) a1
   simp only[e1,List.nil_append]
   obtain ⟨b1,b2⟩:=e2.must
   refine⟨_,rfl,⟨b1.l,?_⟩,b2.trans (e3.trans a2)⟩
   show ((v.must zP).b||!rm l)=false
   rw[b1.b,hr.resolve_left hl];rfl
def Hz (r:List TokD):Prop:=r=[]∨∃ z r',r=z::r'∧(z.k≠5∨hasN [zQ] z.t=false∧hasN [tSq] z.t=false)
theorem Hz.l {r:List TokD} (h:Hz r):r=[]∨∃ z r',r=z::r'∧(z.k≠5∨hasN [zQ] z.t=false):=by
 rcases h with h | ⟨z,r',e,h⟩
 · exact .inl h
 · exact .inr ⟨z,r',e,h.imp_right And.left⟩
theorem Hz.r {r:List TokD} (h:Hz r):r=[]∨∃ z r',r=z::r'∧(z.k≠5∨hasN [tSq] z.t=false):=by
 rcases h with h | ⟨z,r',e,h⟩
 · exact .inl h
 · exact .inr ⟨z,r',e,h.imp_right And.right⟩
theorem Hq.z {r:List TokD} (h:Hq r):Hz r:=by
 cases r with
 | nil=>exact .inl rfl
 | cons z r=>
  refine .inr ⟨z,r,rfl,?_⟩
  rcases h z rfl with ⟨a,b⟩ | ⟨a,_⟩
  · right;rw[b];decide
  · left;rw[a];decide
theorem not_is {u:Rd} {ts:List ByteArray} (h:u.take 5 ts=(ByteArray.empty,false,u)) (hb:u.b=false):u.is 5 ts=false:=by
 cases e:u.is 5 ts with
 | false=>rfl
 | true=>unfold Rd.take at h;rw[if_neg (by rw[hb,e];simp)] at h;injection h with _ h;injection h with h _
theorem zet {r:List TokD} {u:Rd} (h:St r u) (hn:u.n+1≤200):St r u.node∧u.node.n=u.n+1:=by
 refine⟨⟨h.l,?_⟩,rfl⟩
 show (u.b||decide (200<u.n+1))=false
 rw[h.b,decide_eq_false (by omega)];rfl
theorem zeJ {ex:Rd→Nd×Rd} {F:Nat} {z:TokD} {r:List TokD} {t:Rd} (h:St (z::r) t) (hz:z.k≠5∨hasN [zaz] z.t=false):zaf rm ex (F+1) t=t.prim rm ex:=by
 unfold zaf;rw[h.no (k:=5) (ts:=[zaz]) hz (by decide)];rfl
def PE (rm:List MatD→Bool) (q:Nd):Prop:=∀ (r:List TokD) (t:Rd) (f:Nat),Hq r→St (q.tk++r) t→t.n+(q.cnt:Int)≤200→t.l.length≤f→∃ u,zaJ rm (f+1) t=(q,u)∧St r u∧u.n=t.n+(q.cnt:Int)
def PU (rm:List MatD→Bool) (x:Nd):Prop:=∀ (r:List TokD) (t:Rd) (f F:Nat),Hz r→St (zbu x.two x.tk++r) t→t.n+(x.cnt:Int)≤200→t.l.length≤f→∃ u,zaf rm (zaJ rm f) (F+1) t=(x,u)∧St r u∧u.n=t.n+(x.cnt:Int)
theorem lev3 {f:Nat} {t u:Rd} {q:Nd} {r:List TokD} (hr:Hq r) (e:zaf rm (zaJ rm f) (t.l.length+1) t=(q,u)) (hu:u.l.map er=r.map er):zaJ rm (f+1) t=(q,u):=by
 have hp:zcH rm (zaJ rm f) t=(q,u):=zcy hr (qt_5 (by decide)) e hu
 have hs:sumP rm (zaJ rm f) t=(q,u):=zcy hr (qt_5 (by decide)) hp hu
 exact zcy hr (qt_5 (by decide)) hs hu
theorem PU.e {x:Nd} (h2:x.two=false) (h:PU rm x):PE rm x:=fun r t f hr ht hn hf=>by
 obtain ⟨u,a,b,c⟩:=h r t f t.l.length hr.z (by rw[h2];exact ht) hn hf
 exact⟨u,lev3 hr a b.l,b,c⟩
theorem PE.u {x:Nd} (h2:x.two=true) (h:PE rm x):PU rm x:=fun r t f F hr ht hn hf=>by
 have ht:St (tkO::(x.tk++tkC::r)) t:=by
  have e:zbu x.two x.tk++r=tkO::(x.tk++tkC::r):=by unfold zbu;rw[if_pos h2];simp
  rw[←e];exact ht
 obtain ⟨m1,m2,m3⟩:=must_er ht.b ht.l
 have s1:St (x.tk++tkC::r) (t.must zC):=⟨m1,m3⟩
 have l1:=ht.len
 have l2:=s1.len
 simp only[List.length_cons] at l1
 obtain ⟨f,rfl⟩:∃ k,f=k+1:=⟨f-1,by omega⟩
 obtain ⟨u,a,b,c⟩:=h (tkC::r) (t.must zC) f (hq_close r) s1 (by omega) (by omega)
 have b:St (sg zS::r) u:=b
 obtain ⟨c1,c2⟩:=b.must
 refine⟨_,?_,c1,by omega⟩
 rw[unary_brk ht.b ht.l,a]
theorem levelF_stop {part:Rd→Nd×Rd} {ts:List ByteArray} {F:Nat} {o:Nd} {u:Rd} {r:List TokD} (hr:Hq r) (q:Qt 5 ts) (h:St r u):zaP part ts F o u=(o,u):=by
 cases F with
 | zero=>rfl
 | succ F=>
  have hR:R r ⟨[],u.n,u.b⟩ u:=⟨h.l,rfl,rfl⟩
  have hi:u.is 5 ts=false:=by rw[hR.isq hr q];exact zek rfl (by decide)
  unfold zaP;rw[zer (.inr hi),if_pos rfl]
theorem lev_pass {part:Rd→Nd×Rd} {ts:List ByteArray} {t u:Rd} {x:Nd} {op:ByteArray} {V:List TokD} (e:part t=(x,u)) (s:St (sg op::V) u) (h:hasN ts op=false):t.level part ts=(x,u):=by
 unfold Rd.level;rw[e];unfold zaP
 simp only
 rw[s.no (k:=5) (ts:=ts) (.inr h) (by decide),if_pos rfl]
theorem lev_go {part:Rd→Nd×Rd} {ts:List ByteArray} {t u:Rd} {x y:Nd} {op:ByteArray} {mode:Int} {names:List ByteArray} {W r:List TokD} {c:Int} (hr:Hq r) (q:Qt 5 ts) (hop:hasN ts op=true) (hm:mode=0∧names=[]∨mode=1∨mode=2) (hW:Nw tOn zM W) (e1:part t=(x,u)) (s1:St (sg op::(zez mode tOn zM names++W)) u)
 (e2:∀ v,St W v→v.n=u.n→∃ z,part v=(y,z)∧St r z∧z.n=c) (hc:c+1≤200):∃ z,t.level part ts=(.mk tBin op 0 mode names [] [x,y],z)∧St r z∧z.n=c+1:=by
 obtain ⟨a1,a2⟩:=s1.yes (k:=5) (ts:=ts) rfl hop
 obtain ⟨v,b1,b2,b3⟩:=st_mode (by decide) hm hW a2
 obtain ⟨z,c1,c2,c3⟩:=e2 v b2 b3
 obtain ⟨d1,d2⟩:=zet c2 (by omega)
 refine⟨z.node,?_,d1,by rw[d2,c3]⟩
 unfold Rd.level;rw[e1];unfold zaP
 simp only
 rw[a1,if_neg (by simp)]
 simp only
 rw[b1];simp only
 rw[c1];simp only
 exact levelF_stop hr q d1
abbrev opsP:List ByteArray:=[zdD,tOver,tMod]
abbrev opsS:List ByteArray:=[zfd,zaz]
abbrev opsE:List ByteArray:=[tEqq,tNe,tLt,tLe,tGt,tGe]
theorem ops_cls {op:ByteArray} (h:op∈opsC):(hasN opsP op=true∨hasN opsP op=false∧hasN opsS op=true∨hasN opsP op=false∧hasN opsS op=false∧hasN opsE op=true)∧hasN [zQ] op=false∧hasN [tSq] op=false:=by
 simp only[opsC,List.mem_cons,List.not_mem_nil,or_false] at h
 rcases h with rfl | rfl | rfl | rfl | rfl | rfl | rfl | rfl | rfl | rfl | rfl<;>decide
theorem nw_tk {x:Nd} (h:Rdy rm x) (r:List TokD):Nw tOn zM (zbu x.two x.tk++r):=by
 have brk:x.two=true→Nw tOn zM (zbu x.two x.tk++r):=fun h2=>by
  unfold zbu;rw[if_pos h2];exact .inr ⟨tkO,_,rfl,.inl (by decide)⟩
 cases h with
 | num h=>rw[tk_num];exact .inr ⟨_,_,rfl,.inl (show (2:Int)≠1 from by decide)⟩
 | neg _=>exact brk rfl
 | bin _ _ _ _ _=>exact brk rfl
 | @agg text n mode names y ht h hn hm hw _=>
  rw[tk_agg];refine .inr ⟨wk text,_,rfl,.inr ?_⟩
  unfold hasN at ht
  obtain ⟨a,ha,e⟩:=List.any_eq_true.1 ht
  obtain rfl:=of_decide_eq_true e
  simp only[aggN,List.mem_cons,List.not_mem_nil,or_false] at ha
  rcases ha with rfl | rfl | rfl | rfl | rfl | rfl | rfl<;>decide
 | @fn text y ht _=>
  rw[show (Nd.mk tFn text 0 0 [] [] [y]).tk=_ from tk_fn (n:=0)];refine .inr ⟨wk text,_,rfl,.inr ?_⟩
  unfold hasN at ht
  obtain ⟨a,ha,e⟩:=List.any_eq_true.1 ht
  obtain rfl:=of_decide_eq_true e
  simp only[fnN,List.mem_cons,List.not_mem_nil,or_false] at ha
  rcases ha with rfl | rfl | rfl | rfl | rfl | rfl | rfl | rfl<;>decide
 | @sel text n ms ht h hs hm hr=>
  rw[tk_sel,show (Nd.mk nSel text (n:Int) 0 [] ms []).two=false from rfl]
  unfold zbu selT;rw[if_neg (by decide)]
  by_cases h0:text=ByteArray.empty
  · rw[if_pos h0,if_pos (.inl h0)];exact .inr ⟨sg zQ,_,rfl,.inl (by decide)⟩
  · rw[if_neg h0];refine .inr ⟨wk text,_,rfl,.inr ?_⟩
    have hk:=(ht.resolve_left h0).2
    unfold zdt at hk
    simp only[Bool.or_eq_false_iff,hasN,List.any_cons,List.any_nil,Bool.or_false] at hk
    show hasN [tOn,zM] text=false
    simp only[hasN,List.any_cons,List.any_nil,Bool.or_false,Bool.or_eq_false_iff]
    exact⟨hk.2.2.2.2.2.2.1,hk.2.2.2.2.2.2.2.1⟩
theorem pe_bin {text:ByteArray} {mode:Int} {names:List ByteArray} {x y:Nd} (ht:text∈opsC) (hm:mode=0∧names=[]∨mode=1∨mode=2) (hy:Rdy rm y) (px:PU rm x) (py:PU rm y):PE rm (.mk tBin text 0 mode names [] [x,y]):=fun r t f hr h hn hf=>by
 rw[show (Nd.mk tBin text 0 mode names [] [x,y]).tk=_ from tk_bin (n:=0)] at h
 have hcn:(Nd.mk tBin text 0 mode names [] [x,y]).cnt=x.cnt+y.cnt+1:=by simp only[Nd.cnt,Nd.cntL];omega
 rw[hcn] at hn ⊢
 obtain ⟨cls,cl1,cl2⟩:=ops_cls ht
 have h:St (zbu x.two x.tk++(sg text::(zez mode tOn zM names++(zbu y.two y.tk++r)))) t:=by
  have e:binT text mode names (zbu x.two x.tk) (zbu y.two y.tk)++r=zbu x.two x.tk++(sg text::(zez mode tOn zM names++(zbu y.two y.tk++r))):=by unfold binT;simp only[List.append_assoc,List.cons_append]
  rw[←e];exact h
 have hl:=h.len
 simp only[List.length_append,List.length_cons] at hl
 obtain ⟨u,a1,a2,a3⟩:=px _ t f t.l.length (.inr ⟨sg text,_,rfl,.inr ⟨cl1,cl2⟩⟩) h (by omega) hf
 have hW:=nw_tk hy r
 have ey:∀ v,St (zbu y.two y.tk++r) v→v.n=u.n→∃ z,zaf rm (zaJ rm f) (v.l.length+1) v=(y,z)∧St r z∧z.n=t.n+x.cnt+y.cnt:=fun v hv hvn=>by
  have l2:=hv.len
  simp only[List.length_append] at l2
  obtain ⟨z,b1,b2,b3⟩:=py r v f v.l.length hr.z hv (by omega) (by omega)
  exact⟨z,b1,b2,by omega⟩
 rcases cls with c | ⟨c1,c⟩ | ⟨c1,c2,c⟩
 · obtain ⟨z,d1,d2,d3⟩:=lev_go (part:=fun s=>zaf rm (zaJ rm f) (s.l.length+1) s) hr (qt_5 (by decide)) c hm hW a1 a2 ey (by omega)
   have hp:zcH rm (zaJ rm f) t=_:=d1
   have hs:sumP rm (zaJ rm f) t=_:=zcy hr (qt_5 (by decide)) hp d2.l
   exact⟨z,zcy hr (qt_5 (by decide)) hs d2.l,d2,by omega⟩
 · have hp:zcH rm (zaJ rm f) t=(x,u):=lev_pass (part:=fun s=>zaf rm (zaJ rm f) (s.l.length+1) s) a1 a2 c1
   obtain ⟨z,d1,d2,d3⟩:=lev_go (part:=zcH rm (zaJ rm f)) hr (qt_5 (by decide)) c hm hW hp a2 (fun v hv hvn=>by
    obtain ⟨z,b1,b2,b3⟩:=ey v hv hvn
    exact⟨z,zcy (part:=fun s=>zaf rm (zaJ rm f) (s.l.length+1) s) hr (qt_5 (by decide)) b1 b2.l,b2,b3⟩) (by omega)
   have hs:sumP rm (zaJ rm f) t=_:=d1
   exact⟨z,zcy hr (qt_5 (by decide)) hs d2.l,d2,by omega⟩
 · have hp:zcH rm (zaJ rm f) t=(x,u):=lev_pass (part:=fun s=>zaf rm (zaJ rm f) (s.l.length+1) s) a1 a2 c1
   have hs:sumP rm (zaJ rm f) t=(x,u):=lev_pass (part:=zcH rm (zaJ rm f)) hp a2 c2
   obtain ⟨z,d1,d2,d3⟩:=lev_go (part:=sumP rm (zaJ rm f)) hr (qt_5 (by decide)) c hm hW hs a2 (fun v hv hvn=>by
    obtain ⟨z,b1,b2,b3⟩:=ey v hv hvn
    have hp:zcH rm (zaJ rm f) v=(y,z):=zcy (part:=fun s=>zaf rm (zaJ rm f) (s.l.length+1) s) hr (qt_5 (by decide)) b1 b2.l
    exact⟨z,zcy (part:=zcH rm (zaJ rm f)) hr (qt_5 (by decide)) hp b2.l,b2,b3⟩) (by omega)
   exact⟨z,d1,d2,by omega⟩
theorem pe_neg {x:Nd} (px:PU rm x):PE rm (.mk tNeg ByteArray.empty 0 0 [] [] [x]):=fun r t f hr h hn hf=>by
 rw[show (Nd.mk tNeg ByteArray.empty 0 0 [] [] [x]).tk=_ from tk_neg (n:=0)] at h
 have hcn:(Nd.mk tNeg ByteArray.empty 0 0 [] [] [x]).cnt=x.cnt+1:=rfl
 rw[hcn] at hn ⊢
 have h:St (sg zaz::(zbu x.two x.tk++r)) t:=h
 have hl:=h.len
 simp only[List.length_cons] at hl
 obtain ⟨a1,a2⟩:=h.yes (k:=5) (ts:=[zaz]) rfl (by decide)
 obtain ⟨F,hF⟩:∃ k,t.l.length=k+1:=⟨t.l.length-1,by omega⟩
 have hl2:t.l.tail.length≤f:=by rw[List.length_tail];omega
 obtain ⟨u,b1,b2,b3⟩:=px r ⟨t.l.tail,t.n,t.b⟩ f F hr.z a2 (by simp only;omega) hl2
 obtain ⟨c1,c2⟩:=zet b2 (by simp only at b3;omega)
 refine⟨u.node,lev3 hr ?_ c1.l,c1,by simp only at b3;omega⟩
 unfold zaf
 rw[a1,if_pos rfl];simp only
 rw[hF,b1]
theorem pu_num {n:Nat}:PU rm (.mk tNum ByteArray.empty (n:Int) 0 [] [] []):=fun r t f F hr h hn hf=>by
 rw[tk_num] at h
 have h:St (⟨2,0,digB n⟩::r) t:=h
 have hcn:(Nd.mk tNum ByteArray.empty (n:Int) 0 [] [] []).cnt=1:=rfl
 rw[hcn] at hn ⊢
 obtain ⟨a1,a2⟩:=h.num
 obtain ⟨b1,b2⟩:=zet a2 (by simp only;omega)
 refine⟨_,?_,b1,b2⟩
 rw[zeJ h (.inl (show (2:Int)≠5 from by decide))]
 unfold Rd.prim
 rw[if_neg (by rw[h.b];decide),if_pos h.pk.1,a1]
theorem pu_fn {text:ByteArray} {x:Nd} (ht:hasN fnN text=true) (px:PE rm x):PU rm (.mk tFn text 0 0 [] [] [x]):=fun r t f F hr h hn hf=>by
 rw[show (Nd.mk tFn text 0 0 [] [] [x]).tk=_ from tk_fn (n:=0)] at h
 have hcn:(Nd.mk tFn text 0 0 [] [] [x]).cnt=x.cnt+1:=rfl
 rw[hcn] at hn ⊢
 have h:St (wk text::sg zC::(x.tk++tkC::r)) t:=by
  have e:zbu false (fnT text x.tk)++r=wk text::sg zC::(x.tk++tkC::r):=by unfold zbu fnT;rw[if_neg (by decide)];simp[tkO]
  rw[←e];exact h
 have hag:hasN aggN text=false:=by
  unfold hasN at ht
  obtain ⟨a,ha,e⟩:=List.any_eq_true.1 ht
  obtain rfl:=of_decide_eq_true e
  simp only[fnN,List.mem_cons,List.not_mem_nil,or_false] at ha
  rcases ha with rfl | rfl | rfl | rfl | rfl | rfl | rfl | rfl<;>decide
 obtain ⟨a1,a2⟩:=h.any (k:=1) rfl
 obtain ⟨b1,b2⟩:=a2.must
 have l1:=h.len
 have l2:=b1.len
 simp only[List.length_cons] at l1
 obtain ⟨f,rfl⟩:∃ k,f=k+1:=⟨f-1,by omega⟩
 simp only at b2
 obtain ⟨u,c1,c2,c3⟩:=px (tkC::r) _ f (hq_close r) b1 (by omega) (by omega)
 obtain ⟨d1,d2⟩:=zet c2 (by omega)
 have d1:St (sg zS::r) u.node:=d1
 obtain ⟨e1,e2⟩:=d1.must
 refine⟨_,?_,e1,by omega⟩
 obtain ⟨p1,p2⟩:=h.pk
 have p1:t.pk.k=1:=p1
 have p2:t.pk.t=text:=p2
 rw[zeJ h (.inl (show (1:Int)≠5 from by decide))]
 unfold Rd.prim
 rw[if_neg (by rw[h.b];decide),if_neg (by rw[p1];decide),if_neg (by rw[h.is];simp),if_neg (by rw[p2,hag];simp),if_pos ⟨p1,by rw[p2];exact ht⟩]
 simp only[a1,c1]
theorem pu_agg {text:ByteArray} {n:Nat} {mode:Int} {names:List ByteArray} {x:Nd} (ht:hasN aggN text=true) (hn0:zaj text=false→n=0) (hm:mode=0∧names=[]∨mode=1∨mode=2) (px:PE rm x):PU rm (.mk tAgg text (n:Int) mode names [] [x]):=fun r t f F hr h hn hf=>by
 rw[tk_agg] at h
 have hcn:(Nd.mk tAgg text (n:Int) mode names [] [x]).cnt=x.cnt+1:=rfl
 rw[hcn] at hn ⊢
 have h:St (wk text::(zez mode tBy zF names++sg zC::((if zaj text=true then [⟨2,0,digB n⟩,sg zU] else [])++(x.tk++tkC::r)))) t:=by
  have e:zbu false (aggT text n mode names x.tk)++r=wk text::(zez mode tBy zF names++sg zC::((if zaj text=true then [⟨2,0,digB n⟩,sg zU] else [])++(x.tk++tkC::r))):=by unfold zbu aggT;rw[if_neg (by decide)];simp[tkO]
  rw[←e];exact h
 obtain ⟨p1,p2⟩:=h.pk
 have p1:t.pk.k=1:=p1
 have p2:t.pk.t=text:=p2
 have l1:=h.len
 simp only[List.length_cons,List.length_append] at l1
 obtain ⟨a1,a2⟩:=h.any (k:=1) rfl
 obtain ⟨v,b1,b2,b3⟩:=st_mode (by decide) hm (.inr ⟨sg zC,_,rfl,.inl (by decide)⟩) a2
 obtain ⟨c1,c2⟩:=b2.must
 obtain ⟨f,rfl⟩:∃ k,f=k+1:=⟨f-1,by omega⟩
 simp only at b3
 obtain ⟨p,q,e1,e2,e3,e4⟩:∃ (p:Rd) (n':Int),(if zaj text=true then(v.must zC).number 2 else(0,v.must zC))=(n',p)∧n'=(n:Int)∧St (x.tk++tkC::r) (if zaj text=true then p.must zU else p)∧(if zaj text=true then p.must zU else p).n=v.n:=by
  by_cases hb:zaj text=true
  · simp only[if_pos hb] at c1 ⊢
    have c1:St (⟨2,0,digB n⟩::sg zU::(x.tk++tkC::r)) (v.must zC):=c1
    obtain ⟨d1,d2⟩:=c1.num
    obtain ⟨d3,d4⟩:=d2.must
    exact⟨_,_,d1,rfl,d3,d4.trans c2⟩
  · simp only[if_neg hb] at c1 ⊢
    exact⟨_,_,rfl,by rw[hn0 (by simpa using hb)];rfl,c1,c2⟩
 have l2:=e3.len
 simp only[List.length_append,List.length_cons] at l2
 obtain ⟨u,g1,g2,g3⟩:=px (tkC::r) _ f (hq_close r) e3 (by omega) (by omega)
 have g2:St (sg zS::r) u:=g2
 obtain ⟨i1,i2⟩:=g2.must
 obtain ⟨j1,j2⟩:=zet i1 (by omega)
 refine⟨_,?_,j1,by omega⟩
 rw[zeJ h (.inl (show (1:Int)≠5 from by decide))]
 unfold Rd.prim
 rw[if_neg (by rw[h.b];decide),if_neg (by rw[p1];decide),if_neg (by rw[h.is];simp),if_pos ⟨p1,by rw[p2];exact ht⟩]
 unfold Rd.aggr
 simp only[a1,b1,e1,g1,e2]
theorem pu_sel {text:ByteArray} {n:Nat} {ms:List MatD} (ht:text=ByteArray.empty∨FW text∧zdt text=false) (hm:∀ m∈ms,1≤m.op∧m.op≤4) (hrm:ms=[]∨rm ms=true):PU rm (.mk nSel text (n:Int) 0 [] ms []):=fun r t f F hr h hn hf=>by
 rw[tk_sel] at h
 have hcn:(Nd.mk nSel text (n:Int) 0 [] ms []).cnt=1:=rfl
 rw[hcn] at hn ⊢
 obtain ⟨C,hC⟩:∃ C,C=(if 0<n then [sg tSq,⟨4,0,digB n⟩,sg tSqE] else [])++r:=⟨_,rfl⟩
 have hw:∀ u,St C u→∃ v,u.selWin=((n:Int),v)∧St r v∧v.n=u.n:=fun u hu=>by
  rw[hC] at hu
  unfold Rd.selWin
  by_cases h0:0<n
  · rw[if_pos h0] at hu
    have hu:St (sg tSq::⟨4,0,digB n⟩::sg tSqE::r) u:=hu
    obtain ⟨a1,a2⟩:=hu.yes (k:=5) (ts:=[tSq]) rfl (by decide)
    obtain ⟨b1,b2⟩:=a2.num
    obtain ⟨c1,c2⟩:=b2.must
    rw[a1,if_pos rfl];simp only
    rw[b1]
    exact⟨_,rfl,c1,c2⟩
  · rw[if_neg h0] at hu
    have hu:St r u:=hu
    rw[hu.not hr.r (by decide),if_neg (by simp),show n=0 by omega]
    exact⟨u,rfl,hu,rfl⟩
 have hCz:C=[]∨∃ z r',C=z::r'∧(z.k≠5∨hasN [zQ] z.t=false):=by
  rw[hC]
  by_cases h0:0<n
  · rw[if_pos h0];exact .inr ⟨sg tSq,_,rfl,.inr (by decide)⟩
  · rw[if_neg h0];exact hr.l
 have hb:∀ u,St ((if text=ByteArray.empty∨0<ms.length then sg zQ::comT (ms.map matT)++[sg zP] else [])++C) u→∃ v,u.selMs rm text=(ms,v)∧St C v∧v.n=u.n:=fun u hu=>by
  unfold Rd.selMs
  by_cases h0:text=ByteArray.empty∨0<ms.length
  · rw[if_pos h0] at hu
    have hu:St (sg zQ::(comT (ms.map matT)++sg zP::C)) u:=by
     have e:(sg zQ::comT (ms.map matT)++[sg zP])++C=sg zQ::(comT (ms.map matT)++sg zP::C):=by simp
     rw[←e];exact hu
    rw[if_pos (by rw[hu.is];decide)]
    exact st_braces hm hrm hu
  · rw[if_neg h0] at hu
    have hu:St C u:=hu
    rw[if_neg (by rw[not_is (hu.not hCz (by decide)) hu.b];decide)]
    have e:ms=[]:=by
     cases ms with
     | nil=>rfl
     | cons m ms=>exact absurd (.inr (by simp)) h0
    subst e
    refine⟨_,rfl,⟨hu.l,?_⟩,rfl⟩
    show (u.b||decide (text=ByteArray.empty))=false
    rw[hu.b,decide_eq_false (fun e=>h0 (.inl e))];rfl
 have h:St ((if text=ByteArray.empty then [] else [wk text])++((if text=ByteArray.empty∨0<ms.length then sg zQ::comT (ms.map matT)++[sg zP] else [])++C)) t:=by
  have e:zbu false (selT text n ms)++r=(if text=ByteArray.empty then [] else [wk text])++((if text=ByteArray.empty∨0<ms.length then sg zQ::comT (ms.map matT)++[sg zP] else [])++C):=by
   unfold zbu selT;rw[if_neg (by decide),hC];simp only[List.append_assoc]
  rw[←e];exact h
 have hN:∃ u,t.selName=(text,u)∧St ((if text=ByteArray.empty∨0<ms.length then sg zQ::comT (ms.map matT)++[sg zP] else [])++C) u∧u.n=t.n∧zaf rm (zaJ rm f) (F+1) t=t.selector rm:=by
  by_cases h0:text=ByteArray.empty
  · rw[if_pos h0,if_pos (.inl h0)] at h
    have h':St (sg zQ::(comT (ms.map matT)++([sg zP]++C))) t:=by
     have e:[]++((sg zQ::comT (ms.map matT)++[sg zP])++C)=sg zQ::(comT (ms.map matT)++([sg zP]++C)):=by simp
     rw[←e];exact h
    have p1:t.pk.k=5:=h'.pk.1
    refine⟨t,?_,?_,rfl,?_⟩
    · unfold Rd.selName;rw[if_neg (by rw[p1];rintro ⟨a,_⟩;exact absurd a (by decide)),h0]
    · rw[if_pos (.inl h0)];exact h
    · rw[zeJ h' (.inr (by decide))]
      unfold Rd.prim
      rw[if_neg (by rw[h.b];decide),if_neg (by rw[p1];decide),if_neg (by rw[h'.is];decide),if_neg (by rw[p1];rintro ⟨a,_⟩;exact absurd a (by decide)),if_neg (by rw[p1];rintro ⟨a,_⟩;exact absurd a (by decide))]
  · rw[if_neg h0] at h
    have hk:=(ht.resolve_left h0).2
    have h:St (wk text::((if text=ByteArray.empty∨0<ms.length then sg zQ::comT (ms.map matT)++[sg zP] else [])++C)) t:=h
    have p1:t.pk.k=1:=h.pk.1
    have p2:t.pk.t=text:=h.pk.2
    obtain ⟨a1,a2⟩:=h.any (k:=1) rfl
    have hk2:=hk
    unfold zdt at hk2
    simp only[Bool.or_eq_false_iff] at hk2
    refine⟨_,?_,a2,rfl,?_⟩
    · unfold Rd.selName;rw[if_pos ⟨p1,by rw[p2];exact hk⟩,a1]
    · rw[zeJ h (.inl (show (1:Int)≠5 from by decide))]
      unfold Rd.prim
      rw[if_neg (by rw[h.b];decide),if_neg (by rw[p1];decide),if_neg (by rw[h.is];simp),if_neg (by rw[p2,hk2.1.1];simp),if_neg (by rw[p2,hk2.1.2];simp)]
 obtain ⟨u,n1,n2,n3,n4⟩:=hN
 obtain ⟨v,m1,m2,m3⟩:=hb u n2
 obtain ⟨z,w1,w2,w3⟩:=hw v m2
 obtain ⟨c1,c2⟩:=zet w2 (by omega)
 refine⟨z.node,?_,c1,by omega⟩
 rw[n4]
 unfold Rd.selector
 simp only[n1,m1,w1]
theorem rdy_par {q:Nd} (h:Rdy rm q):PE rm q∧PU rm q:=by
 induction h with
 | num h=>exact⟨PU.e rfl pu_num,pu_num⟩
 | @neg x _ ih=>have:=pe_neg ih.2;exact⟨this,this.u rfl⟩
 | @bin text mode names x y ht h hn hx hy ih1 ih2=>have:=pe_bin ht h hy ih1.2 ih2.2;exact⟨this,this.u rfl⟩
 | @agg text n mode names x ht h hn hm hw _ ih=>have:=pu_agg ht hn hm ih.1;exact⟨PU.e rfl this,this⟩
 | @fn text x ht _ ih=>have:=pu_fn ht ih.1;exact⟨PU.e rfl this,this⟩
 | @sel text n ms ht h hs hm hr=>have:=pu_sel (n:=n) ht (fun m hq=>(hm m hq).2) hr;exact⟨PU.e rfl this,this⟩
end
theorem tail_nil {o l f:Int} {u:Rd} (ho:o=0∨o=1∨o=2) (hl: -1≤l∧l≤2000) (hf: -1≤f∧f≤2000) (h:St (ordW o++(numW za1 l++(numW zas f++[]))) u):(endQ u).1=o∧(endQ u).2.1=l∧(endQ u).2.2.1=f∧(endQ u).2.2.2.l=[]∧(endQ u).2.2.2.b=false:=by
 have e:=end_is (.inl rfl) ho hl.1 hf.1 (.inl rfl) h
 rw[if_neg (by omega)] at e
 exact⟨e.1,e.2.1,e.2.2.1,List.map_eq_nil_iff.1 e.2.2.2.1,e.2.2.2.2⟩
theorem read_toks {s:ByteArray} (h:zba s=0):∃ W,Lx (z8 s).pr W∧∀ L:List TokD,L.map er=W.map er→zcf rmD L=some (z8 s):=by
 have hR:=read_rdy h
 obtain ⟨ho,hl,hf⟩:=read_lim h
 obtain ⟨h1,h2⟩:=zeO h
 obtain ⟨h3,h4,_⟩:=parse_parts rmD h2
 have hc:=cn_expr rmD (lexL s).length ⟨lexL s,0,false⟩ (Nat.le_refl _) h4
 rw[h3] at hc
 have hc2:((z8 s).root.cnt:Int)≤200:=by have:=hc.1;have:=hc.2;simp only at*;omega
 refine⟨_,(((lx_node hR).1.ord (z8 s).order).lim (n:=(z8 s).limit) (by omega)).off (n:=(z8 s).offset) (by omega),fun L hL=>?_⟩
 have hs:St ((z8 s).root.tk++(ordW (z8 s).order++(numW za1 (z8 s).limit++(numW zas (z8 s).offset++[])))) ⟨L,0,false⟩:=⟨by rw[hL];simp,rfl⟩
 have hq:Hq (ordW (z8 s).order++(numW za1 (z8 s).limit++(numW zas (z8 s).offset++[]))):=ordW_hq _ (numW_hq (.inl rfl) _ (numW_hq (.inr rfl) _ (fun y e=>by cases e)))
 obtain ⟨u,e1,e2,e3⟩:=(rdy_par hR).1 _ ⟨L,0,false⟩ L.length hq hs (by simp only;omega) (Nat.le_refl _)
 obtain ⟨k1,k2,k3,k4,k5⟩:=tail_nil ho hl hf e2
 rw[parse_endQ rmD e1,if_neg (by rw[k5,k4];simp),k1,k2,k3]
theorem read_inj {s t:ByteArray} (hs:zba s=0) (ht:zba t=0) (h:(z8 s).pr=(z8 t).pr):z8 s=z8 t:=by
 obtain ⟨W,⟨vs,a1,a2⟩,a3⟩:=read_toks hs
 obtain ⟨V,⟨us,b1,b2⟩,b3⟩:=read_toks ht
 rw[h,b1] at a1
 injection a1 with a1
 subst a1
 have e:=(a3 _ a2).symm.trans (b3 _ b2)
 injection e
end Lp
