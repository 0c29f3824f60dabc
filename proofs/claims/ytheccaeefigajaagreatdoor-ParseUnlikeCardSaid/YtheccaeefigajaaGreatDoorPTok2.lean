import Derived.Test.YtheccaeefigajaaGreatDoorPGood
set_option linter.unusedVariables false
namespace Lp
open Go
theorem zfa {s:Rd} {k:Int} (hT:TOk s.l):(s.any k).1.size≤1000:=ze0 (t:=(s.any k).1) (s':=(s.any k).2) rfl hT
theorem sumSz_snoc (l:List ByteArray) (x:ByteArray):zae (l++[x])=zae l+x.size:=by unfold zae;simp
theorem wt_namesF:∀ (F:Nat) (o:List ByteArray) (s:Rd),TOk s.l→(zaZ F o s).2.b=false→zae (zaZ F o s).1+20*(zaZ F o s).1.length+8000*(zaZ F o s).2.l.length≤zae o+20*o.length+8000*s.l.length
 | 0,o,s,_,_=>Nat.le_refl _
 | F+1,o,s,hT,e=>by
  have hb:s.b=false:=zR (fun q=>namesF_b q) e
  unfold zaZ at e ⊢
  rw[if_neg (show ¬s.b=true by rw[hb];decide)] at e ⊢
  have ha:(s.any 1).2.b=false:=by
   split at e
   · rename_i hq;exact(za5 (by decide) hq).2.2.1
   · rw[zea] at e;exact e
  have l1:=zcW (s:=s) (by decide) ha
  have z1:=zfa (s:=s) (k:=1) hT
  have t1:TOk (s.any 1).2.l:=hT.suf (zaK s 1).l
  have l2:=(zG (s.any 1).2 5 [zU]).len
  split
  · rename_i hq
    rw[if_pos hq] at e
    have h:=wt_namesF F _ _ (t1.suf (zG _ 5 _).l) e
    rw[sumSz_snoc,List.length_append,List.length_singleton] at h
    omega
  · simp only[sumSz_snoc,List.length_append,List.length_singleton];omega
theorem wt_names {s:Rd} (hT:TOk s.l) (e:s.names.2.b=false):zae s.names.1+20*s.names.1.length+8000*s.names.2.l.length≤8000*s.l.length:=by
 have l1:=(zB s zC).len
 unfold Rd.names at e ⊢
 split
 · have l2:=(zB (s.must zC) zS).len
   show 0+20*0+8000*((s.must zC).must zS).l.length≤_;omega
 · rename_i hc
   rw[if_neg hc] at e
   have h:=wt_namesF ((s.must zC).l.length+1) [] _ (hT.suf (zB s zC).l) (zR zaM e)
   have l2:=(zB (zaZ ((s.must zC).l.length+1) [] (s.must zC)).2 zS).len
   have z:zae []=0:=rfl
   simp only[List.length_nil,z] at h ⊢;omega
theorem wt_mode {s:Rd} {a b:ByteArray} (hT:TOk s.l) (e:(s.mode a b).2.2.b=false):zae (s.mode a b).2.1+20*(s.mode a b).2.1.length+8000*(s.mode a b).2.2.l.length≤8000*s.l.length:=by
 have l1:=(zG s 1 [a,b]).len
 have t1:=hT.suf (zG s 1 [a,b]).l
 have z:zae []=0:=rfl
 unfold Rd.mode at e ⊢
 split
 · simp only[List.length_nil,z];omega
 · rename_i hc
   rw[if_neg hc] at e
   split
   · rename_i hd
     rw[if_pos hd] at e
     have:=wt_names t1 e
     show zae (s.take 1 [a,b]).2.2.names.1+20*(s.take 1 [a,b]).2.2.names.1.length+8000*(s.take 1 [a,b]).2.2.names.2.l.length≤_
     omega
   · rename_i hd
     rw[if_neg hd] at e
     have:=wt_names t1 e
     show zae (s.take 1 [a,b]).2.2.names.1+20*(s.take 1 [a,b]).2.2.names.1.length+8000*(s.take 1 [a,b]).2.2.names.2.l.length≤_
     omega
def WtP (m:Nat) (p:Rd→Nd×Rd):Prop:=∀ s:Rd,s.l.length≤m→TOk s.l→(p s).2.b=false→(p s).1.wt+8000*(p s).2.l.length≤8000*s.l.length
theorem take_sz {s:Rd} {k:Int} {ts:List ByteArray} (hT:TOk s.l):(s.take k ts).1.size≤1000:=zc8 (t:=(s.take k ts).1) (q:=(s.take k ts).2.1) (s':=(s.take k ts).2.2) rfl hT
theorem wt_levelF {part:Rd→Nd×Rd} {ts:List ByteArray} (hb:Bad part) (hs:∀ s,Stp 1 s (part s).2) {m:Nat} (hp:WtP m part):∀ (F:Nat) (o:Nd) (s:Rd),s.l.length≤m→TOk s.l→(zaP part ts F o s).2.b=false→(zaP part ts F o s).1.wt+8000*(zaP part ts F o s).2.l.length≤o.wt+8000*s.l.length
 | 0,o,s,_,_,_=>Nat.le_refl _
 | F+1,o,s,hm,hT,e=>by
  have k1:=(zG s 5 ts).len
  unfold zaP at e ⊢
  split
  · show o.wt+8000*(s.take 5 ts).2.2.l.length≤_;omega
  · rename_i hc
    rw[if_neg hc] at e
    simp only at e ⊢
    have hg:=za5 (by decide) (show (s.take 5 ts).2.1=true by simpa using hc)
    have t1:TOk (s.take 5 ts).2.2.l:=hT.suf (zG s 5 ts).l
    have t2:TOk ((s.take 5 ts).2.2.mode tOn zM).2.2.l:=t1.suf (za3 _ _ _).l
    have ep:(part ((s.take 5 ts).2.2.mode tOn zM).2.2).2.b=false:=zR zbD (zR (fun q=>zcx q) e)
    have k2:=(za3 (s.take 5 ts).2.2 tOn zM).len
    have k3:=(hs ((s.take 5 ts).2.2.mode tOn zM).2.2).len
    have w:=hp _ (by omega) t2 ep
    have wm:=wt_mode t1 (hb.no ep)
    have z:=take_sz (s:=s) (k:=5) (ts:=ts) hT
    have h:=wt_levelF hb hs hp F _ _ (by show (part _).2.l.length≤m;omega) (show TOk (part _).2.node.l from t2.suf (hs _).l) e
    have nl:(part ((s.take 5 ts).2.2.mode tOn zM).2.2).2.node.l.length=(part ((s.take 5 ts).2.2.mode tOn zM).2.2).2.l.length:=rfl
    have sz0:zae (([]:List MatD).map matP)=0:=rfl
    simp only[Nd.wt,wtOf,Nd.wtL,sz0,List.length_nil] at h
    omega
theorem wt_level {part:Rd→Nd×Rd} {ts:List ByteArray} (hb:Bad part) (hs:∀ s,Stp 1 s (part s).2) {m:Nat} (hp:WtP m part):WtP m (fun s=>s.level part ts):=fun s hm hT e=>by
 have ep:(part s).2.b=false:=zR (fun q=>zcx q) e
 have k3:=(hs s).len
 have h:=wt_levelF hb hs hp _ _ _ (by omega) (hT.suf (hs s).l) e
 have w:=hp s hm hT ep
 simp only[Rd.level] at e ⊢
 omega
theorem matP_le {m:MatD} (h1:m.n.size≤1000) (h2:m.v.size≤1000):(matP m).size≤5010:=by
 have h3:=matP_eq m
 have h4:=(quoteB_4 m.v).1
 have h5:(zb7 m.op).size≤2:=by
  unfold zb7;split
  · decide
  · split
    · decide
    · split
      · decide
      · split<;>decide
 omega
section
variable (rm:List MatD→Bool)
theorem wt_bracesF:∀ (F:Nat) (o:List MatD) (s:Rd),TOk s.l→(zaa F o s).2.b=false→zae ((zaa F o s).1.map matP)+20*(zaa F o s).1.length+8000*(zaa F o s).2.l.length≤zae (o.map matP)+20*o.length+8000*s.l.length
 | 0,o,s,_,_=>Nat.le_refl _
 | F+1,o,s,hT,e=>by
  have hb:s.b=false:=zR (fun q=>bracesF_b q) e
  unfold zaa at e ⊢
  rw[if_neg (show ¬s.b=true by rw[hb];decide)] at e ⊢
  simp only at e ⊢
  have hv:(Rd.any ⟨((s.any 1).2.take 5 [tEq,tNe,zai,zJ]).2.2.l,((s.any 1).2.take 5 [tEq,tNe,zai,zJ]).2.2.n,((s.any 1).2.take 5 [tEq,tNe,zai,zJ]).2.2.b||!((s.any 1).2.take 5 [tEq,tNe,zai,zJ]).2.1⟩ 3).2.b=false:=by
   split at e
   · rename_i hq;exact(za5 (by decide) hq).2.2.1
   · rw[zea] at e;exact e
  have hc:(((s.any 1).2.take 5 [tEq,tNe,zai,zJ]).2.2.b||!((s.any 1).2.take 5 [tEq,tNe,zai,zJ]).2.1)=false:=zR (fun q=>zeo (s:=⟨_,_,_⟩) q) hv
  have ha:(s.any 1).2.b=false:=by
   have:=(Bool.or_eq_false_iff.1 hc).1;rw[zea] at this;exact this
  have l1:=zcW (s:=s) (by decide) ha
  have l2:=(zG (s.any 1).2 5 [tEq,tNe,zai,zJ]).len
  have t1:TOk (s.any 1).2.l:=hT.suf (zaK s 1).l
  have t2:TOk ((s.any 1).2.take 5 [tEq,tNe,zai,zJ]).2.2.l:=t1.suf (zG _ 5 _).l
  obtain ⟨u,hu⟩:∃ u:Rd,u=⟨((s.any 1).2.take 5 [tEq,tNe,zai,zJ]).2.2.l,((s.any 1).2.take 5 [tEq,tNe,zai,zJ]).2.2.n,((s.any 1).2.take 5 [tEq,tNe,zai,zJ]).2.2.b||!((s.any 1).2.take 5 [tEq,tNe,zai,zJ]).2.1⟩:=⟨_,rfl⟩
  have hul:u.l.length=((s.any 1).2.take 5 [tEq,tNe,zai,zJ]).2.2.l.length:=by rw[hu]
  have tu:TOk u.l:=by rw[hu];exact t2
  rw[←hu] at e hv ⊢
  have l3:=zcW (s:=u) (by decide) hv
  have z1:=zfa (s:=s) (k:=1) hT
  have z2:=zfa (s:=u) (k:=3) tu
  have t3:TOk (u.any 3).2.l:=tu.suf (zaK u 3).l
  have l4:=(zG (u.any 3).2 5 [zU]).len
  have mz:=matP_le (m:=⟨(s.any 1).1,opM ((s.any 1).2.take 5 [tEq,tNe,zai,zJ]).1,(u.any 3).1⟩) z1 z2
  split
  · rename_i hq
    rw[if_pos hq] at e
    have h:=wt_bracesF F _ _ (t3.suf (zG _ 5 _).l) e
    rw[List.map_append,List.map_cons,List.map_nil,sumSz_snoc,List.length_append,List.length_singleton] at h
    omega
  · simp only[List.map_append,List.map_cons,List.map_nil,sumSz_snoc,List.length_append,List.length_singleton];omega
theorem wt_braces {s:Rd} (hT:TOk s.l) (e:(s.braces rm).2.b=false):zae ((s.braces rm).1.map matP)+20*(s.braces rm).1.length+8000*(s.braces rm).2.l.length≤8000*s.l.length:=by
 have l1:=(zB s zQ).len
 have z:zae (([]:List MatD).map matP)=0:=rfl
 unfold Rd.braces at e ⊢
 split
 · have l2:=(zB (s.must zQ) zP).len
   show 0+20*0+8000*((s.must zQ).must zP).l.length≤_;omega
 · rename_i hc
   rw[if_neg hc] at e
   have e':(((zaa _ [] (s.must zQ)).2.must zP).b||_)=false:=e
   have h:=wt_bracesF ((s.must zQ).l.length+1) [] _ (hT.suf (zB s zQ).l) (zR zaM (Bool.or_eq_false_iff.1 e').1)
   have l2:=(zB (zaa ((s.must zQ).l.length+1) [] (s.must zQ)).2 zP).len
   simp only[List.length_nil,z] at h ⊢;omega
theorem wt_sel {s:Rd} (hT:TOk s.l) (hl:s.l≠[]) (e:(s.selector rm).2.b=false):(s.selector rm).1.wt+8000*(s.selector rm).2.l.length≤8000*s.l.length:=by
 have z0:zae ([]:List ByteArray)=0:=rfl
 have z1:zae (([]:List MatD).map matP)=0:=rfl
 unfold Rd.selector at e ⊢
 simp only at e ⊢
 have e3:=zR zbD e
 have e2:=zR selWin_b e3
 have e1:s.selName.2.b=false:=zR (fun q=>selMs_b rm q) e2
 have hn:s.selName.1.size≤1000∧TOk s.selName.2.l∧(s.selName.2.l.length+1=s.l.length∨s.selName=(ByteArray.empty,s)):=by
  unfold Rd.selName at e1 ⊢
  split
  · rename_i hc
    rw[if_pos hc] at e1
    exact⟨zfa hT,hT.suf (zaK s 1).l,.inl (zcW (by decide) e1)⟩
  · exact⟨Nat.zero_le _,hT,.inr rfl⟩
 have hm:zae ((s.selName.2.selMs rm s.selName.1).1.map matP)+20*(s.selName.2.selMs rm s.selName.1).1.length+8000*(s.selName.2.selMs rm s.selName.1).2.l.length≤8000*s.selName.2.l.length∧(s.selName=(ByteArray.empty,s)→(s.selName.2.selMs rm s.selName.1).2.l.length+1≤s.l.length∧zae ((s.selName.2.selMs rm s.selName.1).1.map matP)+20*(s.selName.2.selMs rm s.selName.1).1.length+8000*(s.selName.2.selMs rm s.selName.1).2.l.length+8000≤8000*s.l.length):=by
  unfold Rd.selMs at e2 ⊢
  split
  · rename_i hc
    rw[if_pos hc] at e2
    have hw:=wt_braces rm hn.2.1 e2
    refine⟨hw,fun k=>?_⟩
    rw[k] at hc e2 hw ⊢
    simp only at hc e2 hw ⊢
    have h1:(s.must zQ).b=false:=by
     unfold Rd.braces at e2;split at e2
     · exact zR zaM e2
     · have e':(((zaa _ [] (s.must zQ)).2.must zP).b||_)=false:=e2
       exact zR (fun q=>bracesF_b q) (zR zaM (Bool.or_eq_false_iff.1 e').1)
    have l1:=zcw h1
    have hT':TOk (s.must zQ).l:=hT.suf (zB s zQ).l
    unfold Rd.braces at e2 ⊢
    split
    · have l2:=(zB (s.must zQ) zP).len
      refine⟨by show ((s.must zQ).must zP).l.length+1≤_;omega,?_⟩
      show 0+20*0+8000*((s.must zQ).must zP).l.length+8000≤_;omega
    · rename_i hd
      rw[if_neg hd] at e2
      have e':(((zaa _ [] (s.must zQ)).2.must zP).b||_)=false:=e2
      have h:=wt_bracesF ((s.must zQ).l.length+1) [] _ hT' (zR zaM (Bool.or_eq_false_iff.1 e').1)
      have l2:=(zB (zaa ((s.must zQ).l.length+1) [] (s.must zQ)).2 zP).len
      have l3:=(bracesF_stp ((s.must zQ).l.length+1) [] (s.must zQ)).len
      simp only[List.length_nil,z1] at h ⊢
      exact⟨by omega,by omega⟩
  · rename_i hc
    rw[if_neg hc] at e2
    refine⟨by show 0+20*0+8000*s.selName.2.l.length≤_;omega,fun k=>?_⟩
    rw[k] at e2
    simp only at e2
    simp at e2
 have hw:=(show (s.selName.2.selMs rm s.selName.1).2.selWin.2.l.length≤(s.selName.2.selMs rm s.selName.1).2.l.length by
  unfold Rd.selWin;split
  · exact Nat.le_trans (zB _ tSqE).len (Nat.le_trans (zaU _ 4).len (zG _ 5 _).len)
  · exact(zG _ 5 _).len)
 have nl:(s.selName.2.selMs rm s.selName.1).2.selWin.2.node.l.length=(s.selName.2.selMs rm s.selName.1).2.selWin.2.l.length:=rfl
 simp only[Nd.wt,wtOf,Nd.wtL,z0,List.length_nil]
 rcases hn.2.2 with k | k
 · have:=hm.1;have:=hn.1;omega
 · have:=(hm.2 k).2
   have z:s.selName.1.size=0:=by rw[k];rfl
   omega
theorem wt_aggr {ex:Rd→Nd×Rd} (hb:Bad ex) {m:Nat} (hx:∀ a,a<m→WtP a ex):∀ s:Rd,s.l.length≤m→TOk s.l→(s.aggr ex).2.b=false→(s.aggr ex).1.wt+8000*(s.aggr ex).2.l.length≤8000*s.l.length:=fun s hl hT e=>by
 have z1:zae (([]:List MatD).map matP)=0:=rfl
 unfold Rd.aggr at e ⊢
 simp only at e ⊢
 have e6:=zR zaM (zR zbD e)
 have e5:=hb.no e6
 have e3:((s.any 1).2.mode tBy zF |>.2.2.must zC).b=false:=by
  by_cases hn:zaj (s.any 1).1=true
  · rw[if_pos hn,if_pos hn] at e5;exact zR zeo (zR zaM e5)
  · rw[if_neg hn,if_neg hn] at e5;exact e5
 have e2:=zR zaM e3
 have e1:(s.any 1).2.b=false:=zR mode_b e2
 have l1:=zcW (s:=s) (by decide) e1
 have l3:=(zB ((s.any 1).2.mode tBy zF).2.2 zC).len
 have l4:=(zaU (((s.any 1).2.mode tBy zF).2.2.must zC) 2).len
 have l5:=(zB ((((s.any 1).2.mode tBy zF).2.2.must zC).number 2).2 zU).len
 have l6:=(za3 (s.any 1).2 tBy zF).len
 have t1:TOk (s.any 1).2.l:=hT.suf (zaK s 1).l
 have t2:TOk ((s.any 1).2.mode tBy zF).2.2.l:=t1.suf (za3 _ _ _).l
 have t3:TOk (((s.any 1).2.mode tBy zF).2.2.must zC).l:=t2.suf (zB _ _).l
 have wm:=wt_mode t1 e2
 have zs:=zfa (s:=s) (k:=1) hT
 by_cases hn:zaj (s.any 1).1=true
 · simp only[if_pos hn] at e6 ⊢
   have t4:TOk ((((s.any 1).2.mode tBy zF).2.2.must zC).number 2).2.l:=t3.suf (zaU _ 2).l
   have w:=hx _ (by omega) _ (Nat.le_refl _) (t4.suf (zB _ zU).l) e6
   have l7:=(zB (ex (((((s.any 1).2.mode tBy zF).2.2.must zC).number 2).2.must zU)).2 zS).len
   have nl:((ex (((((s.any 1).2.mode tBy zF).2.2.must zC).number 2).2.must zU)).2.must zS).node.l.length=((ex (((((s.any 1).2.mode tBy zF).2.2.must zC).number 2).2.must zU)).2.must zS).l.length:=rfl
   simp only[Nd.wt,wtOf,Nd.wtL,z1,List.length_nil];omega
 · simp only[if_neg hn] at e6 ⊢
   have w:=hx _ (by omega) _ (Nat.le_refl _) t3 e6
   have l7:=(zB (ex (((s.any 1).2.mode tBy zF).2.2.must zC)).2 zS).len
   have nl:((ex (((s.any 1).2.mode tBy zF).2.2.must zC)).2.must zS).node.l.length=((ex (((s.any 1).2.mode tBy zF).2.2.must zC)).2.must zS).l.length:=rfl
   simp only[Nd.wt,wtOf,Nd.wtL,z1,List.length_nil];omega
theorem wt_prim {ex:Rd→Nd×Rd} (hb:Bad ex) {m:Nat} (hx:∀ a,a<m→WtP a ex):WtP m (fun s=>s.prim rm ex):=fun s hl hT e=>by
 have z0:zae ([]:List ByteArray)=0:=rfl
 have z1:zae (([]:List MatD).map matP)=0:=rfl
 have z2:(ByteArray.empty).size=0:=rfl
 have h0:s.b=false:=(zfl rm ex).no e
 have hn:¬s.b=true:=by rw[h0];decide
 have hne:s.l≠[]:=by
  intro hl
  simp only[Rd.prim] at e
  have hp:s.pk=zbO:=pk_0 (by rw[hl];rfl)
  rw[if_neg hn,if_neg (by rw[hp];decide),if_neg (by rw[zek hl (by decide)];decide),if_neg (by rw[hp];rintro ⟨a,_⟩;exact absurd a (by decide)),if_neg (by rw[hp];rintro ⟨a,_⟩;exact absurd a (by decide)),sel_nil rm hl] at e
  cases e
 simp only[Rd.prim] at e ⊢
 rw[if_neg hn] at e ⊢
 split
 · rename_i hc
   rw[if_pos hc] at e
   have e1:(s.any 2).2.b=false:=zR zbD e
   have l1:=zcW (s:=s) (by decide) e1
   have nl:(s.number 2).2.node.l.length=(s.any 2).2.l.length:=rfl
   simp only[Nd.wt,wtOf,Nd.wtL,z0,z1,z2,List.length_nil];omega
 · rename_i hc
   rw[if_neg hc] at e
   split
   · rename_i hd
     rw[if_pos hd] at e
     have e1:=zR zaM e
     have l1:=zcw (hb.no e1)
     have w:=hx _ (by omega) _ (Nat.le_refl _) (hT.suf (zB s zC).l) e1
     have l2:=(zB (ex (s.must zC)).2 zS).len
     show (ex (s.must zC)).1.wt+8000*((ex (s.must zC)).2.must zS).l.length≤_
     omega
   · rename_i hd
     rw[if_neg hd] at e
     split
     · rename_i hf
       rw[if_pos hf] at e
       exact wt_aggr hb hx s hl hT e
     · rename_i hf
       rw[if_neg hf] at e
       split
       · rename_i hg
         rw[if_pos hg] at e
         simp only at e ⊢
         have e1:=zR zbD (zR zaM e)
         have e2:=hb.no e1
         have l0:=zcW (s:=s) (by decide) (zR zaM e2)
         have l1:=zcw e2
         have w:=hx _ (by omega) _ (Nat.le_refl _) ((hT.suf (zaK s 1).l).suf (zB _ zC).l) e1
         have l2:=(zB (ex ((s.any 1).2.must zC)).2.node zS).len
         have nl:(ex ((s.any 1).2.must zC)).2.node.l.length=(ex ((s.any 1).2.must zC)).2.l.length:=rfl
         have zs:=zfa (s:=s) (k:=1) hT
         simp only[Nd.wt,wtOf,Nd.wtL,z0,z1,List.length_nil];omega
       · rename_i hg
         rw[if_neg hg] at e
         exact wt_sel rm hT hne e
theorem wt_unaryF {ex:Rd→Nd×Rd} {m:Nat} (hp:WtP m (fun s=>s.prim rm ex)):∀ (F:Nat) (s:Rd),s.l.length<F→s.l.length≤m→TOk s.l→(zaf rm ex F s).2.b=false→(zaf rm ex F s).1.wt+8000*(zaf rm ex F s).2.l.length≤8000*s.l.length
 | 0,s,h,_,_,_=>absurd h (Nat.not_lt_zero _)
 | F+1,s,hF,hm,hT,e=>by
  have z0:zae ([]:List ByteArray)=0:=rfl
  have z1:zae (([]:List MatD).map matP)=0:=rfl
  have z2:(ByteArray.empty).size=0:=rfl
  unfold zaf at e ⊢
  have k1:=(zG s 5 [zaz]).len
  have t1:TOk (s.take 5 [zaz]).2.2.l:=hT.suf (zG s 5 [zaz]).l
  split
  · rename_i hc
    rw[if_pos hc] at e
    simp only at e ⊢
    have hg:=za5 (by decide) hc
    have w:=wt_unaryF hp F _ (by omega) (by omega) t1 (zR zbD e)
    have nl:(zaf rm ex F (s.take 5 [zaz]).2.2).2.node.l.length=(zaf rm ex F (s.take 5 [zaz]).2.2).2.l.length:=rfl
    simp only[Nd.wt,wtOf,Nd.wtL,z0,z1,z2,List.length_nil];omega
  · rename_i hc
    rw[if_neg hc] at e
    have w:=hp _ (by omega) t1 e
    simp only at w ⊢;omega
theorem wt_prod {ex:Rd→Nd×Rd} (hb:Bad ex) (hs:∀ s,Stp 1 s (ex s).2) {m:Nat} (hx:∀ a,a<m→WtP a ex):WtP m (zcH rm ex):=
 wt_level (fun s h=>zd9 rm ex _ s h) (fun s=>zb6 rm hs _ s) (fun s hm hT e=>wt_unaryF rm (wt_prim rm hb hx) _ s (Nat.lt_succ_self _) hm hT e)
theorem wt_sum {ex:Rd→Nd×Rd} (hb:Bad ex) (hs:∀ s,Stp 1 s (ex s).2) {m:Nat} (hx:∀ a,a<m→WtP a ex):WtP m (sumP rm ex):=
 wt_level (zfk rm ex) (fun s=>zdh rm hs s) (wt_prod rm hb hs hx)
theorem wt_expr:∀ f:Nat,WtP f (zaJ rm (f+1))
 | 0=>wt_level (zeK rm _) (fun s=>zck rm (zaQ rm _) s) (wt_sum rm (zel rm _) (zaQ rm _) (fun a ha=>absurd ha (Nat.not_lt_zero _)))
 | f+1=>wt_level (zeK rm _) (fun s=>zck rm (zaQ rm _) s) (wt_sum rm (zel rm _) (zaQ rm _) (fun a ha s hl hT e=>wt_expr f s (by omega) hT e))
end
theorem read_wt {s:ByteArray} (h:zba s=0):(z8 s).root.wt≤10000000:=by
 obtain ⟨h1,h2⟩:=zeO h
 obtain ⟨h3,h4,_⟩:=parse_parts rmD h2
 have w:=wt_expr rmD (lexL s).length ⟨lexL s,0,false⟩ (Nat.le_refl _) (lexL_tok s) h4
 rw[h3] at w
 have hl:=lexL_len s
 have hz:=(zeF h1).1
 simp only at w
 omega
theorem bound_lim {s:Rd} {w:ByteArray} (e:(s.bound w).2.b=false): -1≤(s.bound w).1∧(s.bound w).1≤2000:=by
 unfold Rd.bound at e ⊢
 split
 · show (-1:Int)≤ -1∧(-1:Int)≤2000;decide
 · rename_i hc
   rw[if_neg hc] at e
   have e:(_||decide (2000<((s.take 1 [w]).2.2.number 2).1))=false:=e
   have h:=of_decide_eq_false (Bool.or_eq_false_iff.1 e).2
   have h2:(0:Int)≤((s.take 1 [w]).2.2.number 2).1:=by unfold Rd.number numV;simp only;omega
   show -1≤((s.take 1 [w]).2.2.number 2).1∧((s.take 1 [w]).2.2.number 2).1≤2000
   omega
theorem order_3 (s:Rd):s.order.1=0∨s.order.1=1∨s.order.1=2:=by
 unfold Rd.order;simp only
 split
 · exact .inl rfl
 · split
   · exact .inr (.inr rfl)
   · exact .inr (.inl rfl)
theorem parse_lim (rm:List MatD→Bool) {l:List TokD} {q:QryD} (h:zcf rm l=some q):(q.order=0∨q.order=1∨q.order=2)∧(-1≤q.limit∧q.limit≤2000)∧(-1≤q.offset∧q.offset≤2000):=by
 unfold zcf at h
 simp only at h
 split at h
 · cases h
 · rename_i hc
   injection h with h
   have hb:(((zaJ rm (l.length+1) ⟨l,0,false⟩).2.order.2.bound za1).2.bound zas).2.b=false:=by
    cases e:(((zaJ rm (l.length+1) ⟨l,0,false⟩).2.order.2.bound za1).2.bound zas).2.b with
    | false=>rfl
    | true=>exact absurd (.inl e) hc
   subst h
   exact⟨order_3 _,bound_lim (zR (fun q=>bound_b q) hb),bound_lim hb⟩
theorem read_lim {s:ByteArray} (h:zba s=0):((z8 s).order=0∨(z8 s).order=1∨(z8 s).order=2)∧(-1≤(z8 s).limit∧(z8 s).limit≤2000)∧(-1≤(z8 s).offset∧(z8 s).offset≤2000):=parse_lim rmD (zeO h).2
end Lp
set_option linter.unusedSimpArgs false
set_option linter.unusedVariables false
set_option maxHeartbeats 4000000
set_option maxRecDepth 100000
namespace Lp
open Go Go.RowKit Go.Proofs
namespace HdYtheccaeefigajaaGreatDoorV112
end HdYtheccaeefigajaaGreatDoorV112
open HdYtheccaeefigajaaGreatDoorV112
theorem print_q {s:ByteArray} (h:zba s=0) {op text:ByteArray} {n mode:Int} {names:List ByteArray} {ms:List MatD} {kids:List Nd} {o a b:Int} (e:(⟨Nd.mk op text n mode names ms kids,o,a,b⟩:QryD)=z8 s):CD Tryz.prog 32 [HPow] [.agg [.s op,.s text,dI n,dI mode,.sh 1 (names.map D.s),.sh 3 (ms.map MatD.d),.sh 7 (Nd.ds kids),dI o,dI a,dI b]] (PrT (z8 s).pr):=by
 have h1:=read_wf h
 have h2:=read_wt h
 have h3:=read_lim h
 have h4:=node_p h1 h2
 have h5:=zfx h1
 rw[←e] at h2 h3 h4 h5 ⊢
 exact print_s op text n mode names ms kids o a b _ (by simp only at*;omega) (by simp only at*;omega) (by simp only at*;omega) h4
end Lp
set_option linter.unusedVariables false
namespace Lp
open Go
def opsC:List ByteArray:=[tEqq,tNe,tLt,tLe,tGt,tGe,zfd,zaz,zdD,tOver,tMod]
def Lw (l:List UInt8) (W:List TokD):Prop:=∃ vs,zZ l 0=some vs∧vs.map er=W.map er
theorem Lw.lx {s:ByteArray} {W:List TokD} (h:Lw (bl8 s) W):Lx s W:=h
theorem Lw.step {l r:List UInt8} {x:TokD} {W:List TokD} (h:Lw r W) (hne:l≠[]) (hb:runL isB (l++r)=0) (hf:zu (l++r)=(x,l.length)):Lw (l++r) (x::W):=by
 obtain ⟨us,e1,e2⟩:=h
 obtain ⟨vs,e3,e4⟩:=words_step hne hb hf e1
 exact⟨vs,e3,by rw[e4,List.map_cons,List.map_cons,e2]⟩
theorem digL_cons (a:Nat):∃ b t,digL a=b::t∧48≤b.toNat∧b.toNat≤57:=by
 obtain ⟨b,t,e⟩:=List.exists_cons_of_ne_nil (digL_ne a)
 exact⟨b,t,e,digL_digs a b (by rw[e];exact List.mem_cons_self)⟩
section
variable {a b c:Nat} {p q:ByteArray}
end
end Lp
set_option linter.unusedVariables false
namespace Lp
open Go
abbrev FW (x:ByteArray):Prop:=FitT ⟨1,0,x⟩
def TF (l:List TokD):Prop:=∀ x∈l,FitT x
theorem TF.suf {l m:List TokD} (h:TF l) (k:m <:+l):TF m:=fun x hx=>h x (k.subset hx)
theorem fit_pos {x y:TokD} (h:FitT x) (hk:x.k=y.k) (ht:x.t=y.t):FitT y:=by
 obtain ⟨a,b,c⟩:=x
 obtain ⟨d,e,f⟩:=y
 simp only at hk ht;subst hk;subst ht;exact h
inductive Rdy (rm:List MatD→Bool):Nd→Prop
 | num {n:Nat} (h:n≤1000000000000):Rdy rm (.mk tNum ByteArray.empty (n:Int) 0 [] [] [])
 | neg {x:Nd}:Rdy rm x→Rdy rm (.mk tNeg ByteArray.empty 0 0 [] [] [x])
 | bin {text:ByteArray} {mode:Int} {names:List ByteArray} {x y:Nd} (ht:text∈opsC) (h:mode=0∧names=[]∨mode=1∨mode=2) (hn:∀ x∈names,FW x):Rdy rm x→Rdy rm y→Rdy rm (.mk tBin text 0 mode names [] [x,y])
 | agg {text:ByteArray} {n:Nat} {mode:Int} {names:List ByteArray} {x:Nd} (ht:hasN aggN text=true) (h:n≤1000000000000) (hn:zaj text=false→n=0) (hm:mode=0∧names=[]∨mode=1∨mode=2) (hw:∀ x∈names,FW x):Rdy rm x→Rdy rm (.mk tAgg text (n:Int) mode names [] [x])
 | fn {text:ByteArray} {x:Nd} (ht:hasN fnN text=true):Rdy rm x→Rdy rm (.mk tFn text 0 0 [] [] [x])
 | sel {text:ByteArray} {n:Nat} {ms:List MatD} (ht:text=ByteArray.empty∨FW text∧zdt text=false) (h:n≤1000000000000) (hs:n=0∨FitT ⟨4,0,digB n⟩) (hm:∀ m∈ms,FW m.n∧1≤m.op∧m.op≤4) (hr:ms=[]∨rm ms=true):Rdy rm (.mk nSel text (n:Int) 0 [] ms [])
theorem any_is {s:Rd} {k:Int} (hk:k≠0) (e:(s.any k).2.b=false):∃ x∈s.l,x.k=k∧(s.any k).1=x.t:=by
 have hb:s.b=false:=zR zeo e
 have hp:s.pk.k=k:=Decidable.byContradiction fun hn=>by rw[any_no (.inr hn)] at e;cases e
 have hl:=pk_ne hk hp
 obtain ⟨y,l,hy⟩:=List.exists_cons_of_ne_nil hl
 refine⟨s.pk,by unfold Rd.pk;rw[hy];exact List.mem_cons_self,hp,?_⟩
 unfold Rd.any;rw[if_neg (by rw[hb];rintro (a | a);cases a;exact a hp)]
theorem any_fw {s:Rd} (hF:TF s.l) (e:(s.any 1).2.b=false):FW (s.any 1).1:=by
 obtain ⟨x,hx,hk,ht⟩:=any_is (by decide) e
 rw[ht];exact fit_pos (hF x hx) hk rfl
theorem take_in {s:Rd} {k:Int} {ts:List ByteArray} (hk:k≠0) (h:(s.take k ts).2.1=true):(s.take k ts).1∈ts:=by
 have hg:=za5 hk h
 have hi:=hg.2.2.2.2
 have e1:(s.take k ts).1=s.pk.t:=by unfold Rd.take;rw[if_neg (by rw[hg.2.2.1,hi];simp)]
 rw[e1]
 have hh:hasN ts s.pk.t=true:=by unfold Rd.is at hi;exact(Bool.and_eq_true _ _ ▸ hi).2
 unfold hasN at hh
 obtain ⟨x,hx,e⟩:=List.any_eq_true.1 hh
 rw[←of_decide_eq_true e];exact hx
theorem fw_namesF:∀ (F:Nat) (o:List ByteArray) (s:Rd),TF s.l→(∀ x∈o,FW x)→(zaZ F o s).2.b=false→∀ x∈(zaZ F o s).1,FW x
 | 0,o,s,_,h,_=>h
 | F+1,o,s,hF,h,e=>by
  have hb:s.b=false:=zR (fun q=>namesF_b q) e
  unfold zaZ at e ⊢
  rw[if_neg (show ¬s.b=true by rw[hb];decide)] at e ⊢
  have ha:(s.any 1).2.b=false:=by
   split at e
   · rename_i hq;exact(za5 (by decide) hq).2.2.1
   · rw[zea] at e;exact e
  have t1:TF (s.any 1).2.l:=hF.suf (zaK s 1).l
  have hn:∀ x∈o++[(s.any 1).1],FW x:=fun x hx=>by
   rcases List.mem_append.1 hx with hx | hx
   · exact h x hx
   · rw[List.mem_singleton.1 hx];exact any_fw hF ha
  split
  · rename_i hq
    rw[if_pos hq] at e
    exact fw_namesF F _ _ (t1.suf (zG _ 5 _).l) hn e
  · exact hn
theorem fw_names {s:Rd} (hF:TF s.l) (e:s.names.2.b=false):∀ x∈s.names.1,FW x:=by
 unfold Rd.names at e ⊢
 split
 · exact fun x hx=>by cases hx
 · rename_i hc
   rw[if_neg hc] at e
   exact fw_namesF _ _ _ (hF.suf (zB s zC).l) (fun x hx=>by cases hx) (zR zaM e)
theorem fw_mode {s:Rd} {a b:ByteArray} (hF:TF s.l) (e:(s.mode a b).2.2.b=false):∀ x∈(s.mode a b).2.1,FW x:=by
 have t1:=hF.suf (zG s 1 [a,b]).l
 unfold Rd.mode at e ⊢
 split
 · exact fun x hx=>by cases hx
 · rename_i hc
   rw[if_neg hc] at e
   split
   · rename_i hd
     rw[if_pos hd] at e;exact fw_names t1 e
   · rename_i hd
     rw[if_neg hd] at e;exact fw_names t1 e
section
variable (rm:List MatD→Bool)
def RdyP (m:Nat) (p:Rd→Nd×Rd):Prop:=∀ s:Rd,s.l.length≤m→TOk s.l→TF s.l→(p s).2.b=false→Rdy rm (p s).1
variable {rm}
theorem rdy_levelF {part:Rd→Nd×Rd} {ts:List ByteArray} (hts:∀ x∈ts,x∈opsC) (hb:Bad part) (hs:∀ s,Stp 1 s (part s).2) {m:Nat} (hp:RdyP rm m part):∀ (F:Nat) (o:Nd) (s:Rd),s.l.length≤m→TOk s.l→TF s.l→Rdy rm o→(zaP part ts F o s).2.b=false→Rdy rm (zaP part ts F o s).1
 | 0,o,s,_,_,_,h,_=>h
 | F+1,o,s,hm,hT,hF,h,e=>by
  unfold zaP at e ⊢
  split
  · exact h
  · rename_i hc
    rw[if_neg hc] at e
    simp only at e ⊢
    have t1:TOk (s.take 5 ts).2.2.l:=hT.suf (zG s 5 ts).l
    have t2:TOk ((s.take 5 ts).2.2.mode tOn zM).2.2.l:=t1.suf (za3 _ _ _).l
    have f1:TF (s.take 5 ts).2.2.l:=hF.suf (zG s 5 ts).l
    have f2:TF ((s.take 5 ts).2.2.mode tOn zM).2.2.l:=f1.suf (za3 _ _ _).l
    have ep:(part ((s.take 5 ts).2.2.mode tOn zM).2.2).2.b=false:=zR zbD (zR (fun q=>zcx q) e)
    have k1:=(zG s 5 ts).len
    have k2:=(za3 (s.take 5 ts).2.2 tOn zM).len
    have k3:=(hs ((s.take 5 ts).2.2.mode tOn zM).2.2).len
    have w:=hp _ (by omega) t2 f2 ep
    refine rdy_levelF hts hb hs hp F _ _ (by show (part _).2.l.length≤m;omega) ?_ ?_ (.bin (hts _ (take_in (by decide) (by simpa using hc))) (mode_names _ _ _) (fw_mode f1 (hb.no ep)) h w) e
    · exact t2.suf (hs _).l
    · exact f2.suf (hs _).l
theorem rdy_level {part:Rd→Nd×Rd} {ts:List ByteArray} (hts:∀ x∈ts,x∈opsC) (hb:Bad part) (hs:∀ s,Stp 1 s (part s).2) {m:Nat} (hp:RdyP rm m part):RdyP rm m (fun s=>s.level part ts):=fun s hm hT hF e=>by
 have ep:(part s).2.b=false:=zR (fun q=>zcx q) e
 have k3:=(hs s).len
 exact rdy_levelF hts hb hs hp _ _ _ (by omega) (hT.suf (hs s).l) (hF.suf (hs s).l) (hp s hm hT hF ep) e
theorem rdy_bracesF:∀ (F:Nat) (o:List MatD) (s:Rd),TF s.l→(∀ m∈o,FW m.n∧1≤m.op∧m.op≤4)→(zaa F o s).2.b=false→∀ m∈(zaa F o s).1,FW m.n∧1≤m.op∧m.op≤4
 | 0,o,s,_,h,_=>h
 | F+1,o,s,hF,h,e=>by
  unfold zaa at e ⊢
  split
  · exact h
  · rename_i hb
    rw[if_neg hb] at e
    simp only at e ⊢
    have hv:(Rd.any ⟨((s.any 1).2.take 5 [tEq,tNe,zai,zJ]).2.2.l,((s.any 1).2.take 5 [tEq,tNe,zai,zJ]).2.2.n,((s.any 1).2.take 5 [tEq,tNe,zai,zJ]).2.2.b||!((s.any 1).2.take 5 [tEq,tNe,zai,zJ]).2.1⟩ 3).2.b=false:=by
     split at e
     · rename_i hq;exact(za5 (by decide) hq).2.2.1
     · rw[zea] at e;exact e
    have hc:(((s.any 1).2.take 5 [tEq,tNe,zai,zJ]).2.2.b||!((s.any 1).2.take 5 [tEq,tNe,zai,zJ]).2.1)=false:=zR (fun q=>zeo (s:=⟨_,_,_⟩) q) hv
    have ha:(s.any 1).2.b=false:=by
     have:=(Bool.or_eq_false_iff.1 hc).1;rw[zea] at this;exact this
    have hop:=opM_4 (by have:=(Bool.or_eq_false_iff.1 hc).2;simpa using this)
    have t1:TF (s.any 1).2.l:=hF.suf (zaK s 1).l
    have t2:TF ((s.any 1).2.take 5 [tEq,tNe,zai,zJ]).2.2.l:=t1.suf (zG _ 5 _).l
    have t3:TF (Rd.any ⟨((s.any 1).2.take 5 [tEq,tNe,zai,zJ]).2.2.l,((s.any 1).2.take 5 [tEq,tNe,zai,zJ]).2.2.n,((s.any 1).2.take 5 [tEq,tNe,zai,zJ]).2.2.b||!((s.any 1).2.take 5 [tEq,tNe,zai,zJ]).2.1⟩ 3).2.l:=t2.suf (zaK (⟨_,_,_⟩:Rd) 3).l
    have hn:∀ m∈o++[(⟨(s.any 1).1,opM ((s.any 1).2.take 5 [tEq,tNe,zai,zJ]).1,(Rd.any ⟨((s.any 1).2.take 5 [tEq,tNe,zai,zJ]).2.2.l,((s.any 1).2.take 5 [tEq,tNe,zai,zJ]).2.2.n,((s.any 1).2.take 5 [tEq,tNe,zai,zJ]).2.2.b||!((s.any 1).2.take 5 [tEq,tNe,zai,zJ]).2.1⟩ 3).1⟩:MatD)],FW m.n∧1≤m.op∧m.op≤4:=fun m hm=>by
     rcases List.mem_append.1 hm with hm | hm
     · exact h m hm
     · rw[List.mem_singleton.1 hm];exact⟨any_fw hF ha,hop⟩
    split
    · rename_i hq
      rw[if_pos hq] at e
      exact rdy_bracesF F _ _ (t3.suf (zG _ 5 _).l) hn e
    · exact hn
theorem rdy_sel:∀ s:Rd,TOk s.l→TF s.l→(s.selector rm).2.b=false→Rdy rm (s.selector rm).1:=fun s hT hF e=>by
 unfold Rd.selector at e ⊢
 simp only at e ⊢
 have e3:=zR zbD e
 have e2:=zR selWin_b e3
 have e1:s.selName.2.b=false:=zR (fun q=>selMs_b rm q) e2
 have hn:(s.selName.1=ByteArray.empty∨FW s.selName.1∧zdt s.selName.1=false)∧TOk s.selName.2.l∧TF s.selName.2.l:=by
  unfold Rd.selName at e1 ⊢
  split
  · rename_i hc
    rw[if_pos hc] at e1
    refine⟨.inr ⟨any_fw hF e1,?_⟩,hT.suf (zaK s 1).l,hF.suf (zaK s 1).l⟩
    have hb:s.b=false:=zR zeo e1
    have:(s.any 1).1=s.pk.t:=by unfold Rd.any;rw[if_neg (by rw[hb];rintro (a | a);cases a;exact a hc.1)]
    rw[this];exact hc.2
  · exact⟨.inl rfl,hT,hF⟩
 obtain ⟨hn,t1,f1⟩:=hn
 have hm:(∀ m∈(s.selName.2.selMs rm s.selName.1).1,FW m.n∧1≤m.op∧m.op≤4)∧((s.selName.2.selMs rm s.selName.1).1=[]∨rm (s.selName.2.selMs rm s.selName.1).1=true)∧TOk (s.selName.2.selMs rm s.selName.1).2.l∧TF (s.selName.2.selMs rm s.selName.1).2.l:=by
  unfold Rd.selMs at e2 ⊢
  split
  · rename_i hc
    rw[if_pos hc] at e2
    refine⟨?_,?_,t1.suf (zcQ rm _).l,f1.suf (zcQ rm _).l⟩
    · unfold Rd.braces at e2 ⊢
      split
      · exact fun m hm=>by cases hm
      · rename_i hd
        rw[if_neg hd] at e2
        have e2:(((zaa _ [] (s.selName.2.must zQ)).2.must zP).b||_)=false:=e2
        exact rdy_bracesF _ _ _ (f1.suf (zB _ zQ).l) (fun m hm=>by cases hm) (zR zaM (Bool.or_eq_false_iff.1 e2).1)
    · unfold Rd.braces at e2 ⊢
      split
      · exact .inl rfl
      · rename_i hd
        rw[if_neg hd] at e2
        have e2:(_||!rm (zaa _ [] (s.selName.2.must zQ)).1)=false:=e2
        have:=(Bool.or_eq_false_iff.1 e2).2
        exact .inr (by simpa using this)
  · exact⟨(fun m hm=>by cases hm),.inl rfl,t1,f1⟩
 obtain ⟨hm,hr,t2,f2⟩:=hm
 have hw:∃ n:Nat,(s.selName.2.selMs rm s.selName.1).2.selWin.1=(n:Int)∧n≤1000000000000∧(n=0∨FitT ⟨4,0,digB n⟩):=by
  unfold Rd.selWin at e3 ⊢
  split
  · rename_i hc
    rw[if_pos hc] at e3
    have t3:=t2.suf (zG (s.selName.2.selMs rm s.selName.1).2 5 [tSq]).l
    have f3:=f2.suf (zG (s.selName.2.selMs rm s.selName.1).2 5 [tSq]).l
    have ea:(((s.selName.2.selMs rm s.selName.1).2.take 5 [tSq]).2.2.any 4).2.b=false:=zR zaM e3
    obtain ⟨x,hx,hk,ht⟩:=any_is (by decide) ea
    obtain ⟨v,hv,hxt⟩:=(t3 x hx).2 (.inr hk)
    refine⟨v,?_,hv,.inr (fit_pos (f3 x hx) hk hxt)⟩
    show numV _=_
    rw[ht,hxt,zdR]
  · exact⟨0,rfl,by decide,.inl rfl⟩
 obtain ⟨n,h1,h2,h3⟩:=hw
 rw[h1]
 exact .sel hn h2 h3 hm hr
theorem any_tx {s:Rd} (e:(s.any 1).2.b=false):(s.any 1).1=s.pk.t:=by
 have hb:s.b=false:=zR zeo e
 have hp:s.pk.k=1:=Decidable.byContradiction fun hn=>by rw[any_no (.inr hn)] at e;cases e
 unfold Rd.any;rw[if_neg (by rw[hb];rintro (a | a);cases a;exact a hp)]
theorem rdy_aggr {ex:Rd→Nd×Rd} (hb:Bad ex) {m:Nat} (hx:∀ a,a<m→RdyP rm a ex):∀ s:Rd,hasN aggN s.pk.t=true→s.l.length≤m→TOk s.l→TF s.l→(s.aggr ex).2.b=false→Rdy rm (s.aggr ex).1:=fun s hg hl hT hF e=>by
 unfold Rd.aggr at e ⊢
 simp only at e ⊢
 have e6:=zR zaM (zR zbD e)
 have e5:=hb.no e6
 have e3:((s.any 1).2.mode tBy zF |>.2.2.must zC).b=false:=by
  by_cases hn:zaj (s.any 1).1=true
  · rw[if_pos hn,if_pos hn] at e5;exact zR zeo (zR zaM e5)
  · rw[if_neg hn,if_neg hn] at e5;exact e5
 have e2:=zR zaM e3
 have e1:(s.any 1).2.b=false:=zR mode_b e2
 have l1:=zcW (s:=s) (by decide) e1
 have l2:=(za3 (s.any 1).2 tBy zF).len
 have l3:=(zB ((s.any 1).2.mode tBy zF).2.2 zC).len
 have l4:=(zaU (((s.any 1).2.mode tBy zF).2.2.must zC) 2).len
 have l5:=(zB ((((s.any 1).2.mode tBy zF).2.2.must zC).number 2).2 zU).len
 have t1:TOk (s.any 1).2.l:=hT.suf (zaK s 1).l
 have t2:TOk ((s.any 1).2.mode tBy zF).2.2.l:=t1.suf (za3 _ _ _).l
 have t3:TOk (((s.any 1).2.mode tBy zF).2.2.must zC).l:=t2.suf (zB _ _).l
 have f1:TF (s.any 1).2.l:=hF.suf (zaK s 1).l
 have f2:TF ((s.any 1).2.mode tBy zF).2.2.l:=f1.suf (za3 _ _ _).l
 have f3:TF (((s.any 1).2.mode tBy zF).2.2.must zC).l:=f2.suf (zB _ _).l
 have hm:=mode_names (s.any 1).2 tBy zF
 have hw:=fw_mode f1 e2
 have hg':hasN aggN (s.any 1).1=true:=by rw[any_tx e1];exact hg
 by_cases hn:zaj (s.any 1).1=true
 · simp only[if_pos hn] at e6 ⊢
   obtain ⟨n,h1,h2⟩:=zeQ (k:=2) (.inl rfl) t3
   have t4:TOk ((((s.any 1).2.mode tBy zF).2.2.must zC).number 2).2.l:=t3.suf (zaU _ 2).l
   have f4:TF ((((s.any 1).2.mode tBy zF).2.2.must zC).number 2).2.l:=f3.suf (zaU _ 2).l
   have w:=hx _ (by omega) _ (Nat.le_refl _) (t4.suf (zB _ zU).l) (f4.suf (zB _ zU).l) e6
   rw[h1]
   exact .agg hg' h2 (fun k=>by rw[hn] at k;cases k) hm hw w
 · simp only[if_neg hn] at e6 ⊢
   have w:=hx _ (by omega) _ (Nat.le_refl _) t3 f3 e6
   exact Rdy.agg (n:=0) hg' (by decide) (fun _=>rfl) hm hw w
theorem rdy_prim {ex:Rd→Nd×Rd} (hb:Bad ex) {m:Nat} (hx:∀ a,a<m→RdyP rm a ex):RdyP rm m (fun s=>s.prim rm ex):=fun s hl hT hF e=>by
 have h0:s.b=false:=(zfl rm ex).no e
 have hn:¬s.b=true:=by rw[h0];decide
 simp only[Rd.prim] at e ⊢
 rw[if_neg hn] at e ⊢
 split
 · obtain ⟨n,h1,h2⟩:=zeQ (s:=s) (k:=2) (.inl rfl) hT
   rw[h1];exact .num h2
 · rename_i hc
   rw[if_neg hc] at e
   split
   · rename_i hd
     rw[if_pos hd] at e
     have e1:=zR zaM e
     have l1:=zcw (hb.no e1)
     exact hx _ (by omega) _ (Nat.le_refl _) (hT.suf (zB s zC).l) (hF.suf (zB s zC).l) e1
   · rename_i hd
     rw[if_neg hd] at e
     split
     · rename_i hf
       rw[if_pos hf] at e
       exact rdy_aggr hb hx s hf.2 hl hT hF e
     · rename_i hf
       rw[if_neg hf] at e
       split
       · rename_i hg
         rw[if_pos hg] at e
         simp only at e ⊢
         have e1:=zR zbD (zR zaM e)
         have e2:=hb.no e1
         have l1:=zcw e2
         have l2:=(zaK s 1).len
         have hg':hasN fnN (s.any 1).1=true:=by rw[any_tx (zR zaM e2)];exact hg.2
         exact .fn hg' (hx _ (by omega) _ (Nat.le_refl _) ((hT.suf (zaK s 1).l).suf (zB _ zC).l) ((hF.suf (zaK s 1).l).suf (zB _ zC).l) e1)
       · rename_i hg
         rw[if_neg hg] at e
         exact rdy_sel s hT hF e
theorem rdy_unaryF {ex:Rd→Nd×Rd} {m:Nat} (hp:RdyP rm m (fun s=>s.prim rm ex)):∀ (F:Nat) (s:Rd),s.l.length<F→s.l.length≤m→TOk s.l→TF s.l→(zaf rm ex F s).2.b=false→Rdy rm (zaf rm ex F s).1
 | 0,s,h,_,_,_,_=>absurd h (Nat.not_lt_zero _)
 | F+1,s,hF,hm,hT,hf,e=>by
  unfold zaf at e ⊢
  have k1:=(zG s 5 [zaz]).len
  have t1:TOk (s.take 5 [zaz]).2.2.l:=hT.suf (zG s 5 [zaz]).l
  have f1:TF (s.take 5 [zaz]).2.2.l:=hf.suf (zG s 5 [zaz]).l
  split
  · rename_i hc
    rw[if_pos hc] at e
    simp only at e ⊢
    have hg:=za5 (by decide) hc
    exact .neg (rdy_unaryF hp F _ (by omega) (by omega) t1 f1 (zR zbD e))
  · rename_i hc
    rw[if_neg hc] at e
    exact hp _ (by omega) t1 f1 e
theorem rdy_prod {ex:Rd→Nd×Rd} (hb:Bad ex) (hs:∀ s,Stp 1 s (ex s).2) {m:Nat} (hx:∀ a,a<m→RdyP rm a ex):RdyP rm m (zcH rm ex):=
 rdy_level (by intro x hx;simp only[List.mem_cons,List.not_mem_nil,or_false] at hx;simp only[opsC,List.mem_cons];rcases hx with rfl | rfl | rfl<;>simp) (fun s h=>zd9 rm ex _ s h) (fun s=>zb6 rm hs _ s) (fun s hm hT hF e=>rdy_unaryF (rdy_prim hb hx) _ s (Nat.lt_succ_self _) hm hT hF e)
theorem rdy_sum {ex:Rd→Nd×Rd} (hb:Bad ex) (hs:∀ s,Stp 1 s (ex s).2) {m:Nat} (hx:∀ a,a<m→RdyP rm a ex):RdyP rm m (sumP rm ex):=
 rdy_level (by intro x hx;simp only[List.mem_cons,List.not_mem_nil,or_false] at hx;simp only[opsC,List.mem_cons];rcases hx with rfl | rfl<;>simp) (zfk rm ex) (fun s=>zdh rm hs s) (rdy_prod hb hs hx)
theorem cmp_ops:∀ x∈[tEqq,tNe,tLt,tLe,tGt,tGe],x∈opsC:=by
 intro x hx;simp only[List.mem_cons,List.not_mem_nil,or_false] at hx;simp only[opsC,List.mem_cons];rcases hx with rfl | rfl | rfl | rfl | rfl | rfl<;>simp
theorem rdy_expr:∀ f:Nat,RdyP rm f (zaJ rm (f+1))
 | 0=>rdy_level cmp_ops (zeK rm _) (fun s=>zck rm (zaQ rm _) s) (rdy_sum (zel rm _) (zaQ rm _) (fun a ha=>absurd ha (Nat.not_lt_zero _)))
 | f+1=>rdy_level cmp_ops (zeK rm _) (fun s=>zck rm (zaQ rm _) s) (rdy_sum (zel rm _) (zaQ rm _) (fun a ha s hl hT hF e=>rdy_expr f s (by omega) hT hF e))
theorem lexL_fit {s:ByteArray} (h:lexE s=0):TF (lexL s):=fun x hx=>(words_good _ _ _ _ rfl (zeF h).2 x hx).1
end
theorem read_rdy {s:ByteArray} (h:zba s=0):Rdy rmD (z8 s).root:=by
 obtain ⟨h1,h2⟩:=zeO h
 obtain ⟨h3,h4,_⟩:=parse_parts rmD h2
 rw[←h3]
 exact rdy_expr (lexL s).length ⟨lexL s,0,false⟩ (Nat.le_refl _) (lexL_tok s) (lexL_fit h1) h4
end Lp
set_option linter.unusedVariables false
namespace Lp
open Go
abbrev sg (x:ByteArray):TokD:=⟨5,0,x⟩
def comT:List (List TokD)→List TokD
 | []=>[]
 | [x]=>x
 | x::y::r=>x++sg zU::comT (y::r)
def namT (l:List ByteArray):List TokD:=tkO::comT (l.map fun x=>[wk x])++[tkC]
def zez (mode:Int) (a b:ByteArray) (names:List ByteArray):List TokD:=if mode=0 then [] else wk (zcd mode a b)::namT names
def zbu (two:Bool) (t:List TokD):List TokD:=if two=true then tkO::t++[tkC] else t
def matT (m:MatD):List TokD:=[wk m.n,sg (zb7 m.op),⟨3,0,m.v⟩]
def selT (text:ByteArray) (n:Nat) (ms:List MatD):List TokD:=
 (if text=ByteArray.empty then [] else [wk text])++((if text=ByteArray.empty∨0<ms.length then sg zQ::comT (ms.map matT)++[sg zP] else [])++(if 0<n then [sg tSq,⟨4,0,digB n⟩,sg tSqE] else []))
def binT (text:ByteArray) (mode:Int) (names:List ByteArray) (a b:List TokD):List TokD:=a++sg text::(zez mode tOn zM names++b)
def aggT (text:ByteArray) (n:Nat) (mode:Int) (names:List ByteArray) (a:List TokD):List TokD:=
 wk text::(zez mode tBy zF names++tkO::((if zaj text=true then [⟨2,0,digB n⟩,sg zU] else [])++(a++[tkC])))
def fnT (text:ByteArray) (a:List TokD):List TokD:=wk text::tkO::(a++[tkC])
def tkOf (op text:ByteArray) (n:Nat) (mode:Int) (names:List ByteArray) (ms:List MatD) (ps:List (List TokD)) (tw:List Bool):List TokD:=
 if op=tNum then [⟨2,0,digB n⟩]
 else if op=tNeg then sg zaz::zbu (tw.headD false) (ps.headD [])
 else if op=tBin then binT text mode names (zbu (tw.headD false) (ps.headD [])) (zbu (tw.tail.headD false) (ps.tail.headD []))
 else if op=tAgg then aggT text n mode names (ps.headD [])
 else if op=tFn then fnT text (ps.headD [])
 else selT text n ms
mutual
def Nd.tk:Nd→List TokD
 | .mk op text n mode names ms kids=>tkOf op text n.toNat mode names ms (Nd.tks kids) (kids.map Nd.two)
def Nd.tks:List Nd→List (List TokD)
 | []=>[]
 | x::r=>Nd.tk x::Nd.tks r
end
section
variable {text:ByteArray} {n:Nat} {mode:Int} {names:List ByteArray} {ms:List MatD} {x y:Nd}
theorem tk_num:(Nd.mk tNum text (n:Int) mode names ms []).tk=[⟨2,0,digB n⟩]:=by
 simp only[Nd.tk];unfold tkOf;rw[if_pos rfl,Int.toNat_natCast]
theorem tk_neg:(Nd.mk tNeg text (n:Int) mode names ms [x]).tk=sg zaz::zbu x.two x.tk:=by
 simp only[Nd.tk,Nd.tks];unfold tkOf;rw[if_neg (by decide),if_pos rfl];rfl
theorem tk_bin:(Nd.mk tBin text (n:Int) mode names ms [x,y]).tk=binT text mode names (zbu x.two x.tk) (zbu y.two y.tk):=by
 simp only[Nd.tk,Nd.tks];unfold tkOf;rw[if_neg (by decide),if_neg (by decide),if_pos rfl];rfl
theorem tk_agg:(Nd.mk tAgg text (n:Int) mode names ms [x]).tk=aggT text n mode names x.tk:=by
 simp only[Nd.tk,Nd.tks];unfold tkOf;rw[if_neg (by decide),if_neg (by decide),if_neg (by decide),if_pos rfl,Int.toNat_natCast];rfl
theorem tk_fn:(Nd.mk tFn text (n:Int) mode names ms [x]).tk=fnT text x.tk:=by
 simp only[Nd.tk,Nd.tks];unfold tkOf;rw[if_neg (by decide),if_neg (by decide),if_neg (by decide),if_neg (by decide),if_pos rfl];rfl
theorem tk_sel:(Nd.mk nSel text (n:Int) mode names ms []).tk=selT text n ms:=by
 simp only[Nd.tk,Nd.tks];unfold tkOf;rw[if_neg (by decide),if_neg (by decide),if_neg (by decide),if_neg (by decide),if_neg (by decide),Int.toNat_natCast]
end
theorem lx_fit {x:TokD} (h:FitT x):Lx (zcq x) [⟨x.k,0,x.t⟩]:=⟨_,words_join1 h 0,rfl⟩
theorem lx_word {t:ByteArray} (h:FW t):Lx t [wk t]:=by
 have h1:=lx_fit h
 rw[zdB (show ¬(1:Int)=3 by decide) (show ¬(1:Int)=4 by decide)] at h1
 exact h1
theorem lx_str (t:ByteArray):Lx (zaO t) [⟨3,0,t⟩]:=by
 have h1:=lx_fit (good_str t)
 rw[joinT_3 (show (3:Int)=3 from rfl)] at h1
 exact h1
theorem lx_span {n:Nat} (h:FitT ⟨4,0,digB n⟩):Lx (digB n++(⟨#[115]⟩:ByteArray)) [⟨4,0,digB n⟩]:=by
 have h1:=lx_fit h
 rw[joinT_4 (show ¬(4:Int)=3 by decide) (show (4:Int)=4 from rfl)] at h1
 exact h1
theorem sgs_first:∀ x∈zaC,∃ b t,bl8 x=b::t∧b.toNat<128∧isB ((b.toNat:Nat):Int)=false∧¬zN ((b.toNat:Nat):Int)=1∧¬zN ((b.toNat:Nat):Int)=2∧¬b.toNat=34:=by
 intro x hx
 simp only[zaC,List.mem_cons,List.not_mem_nil,or_false] at hx
 rcases hx with rfl | rfl | rfl | rfl | rfl | rfl | rfl | rfl | rfl | rfl | rfl | rfl | rfl | rfl | rfl | rfl | rfl | rfl | rfl | rfl | rfl<;>exact⟨_,_,rfl,by decide,by decide,by decide,by decide,by decide⟩
theorem sgs_sign:∀ x∈zaC,∀ (b:UInt8) (t:List UInt8),b≠61→b≠126→zb0 (bl8 x++b::t)=(⟨5,0,x⟩,x.size):=by
 intro x hx b t h1 h2
 have k1:((61:UInt8)==b)=false:=by simpa using fun e=>h1 e.symm
 have k2:((126:UInt8)==b)=false:=by simpa using fun e=>h2 e.symm
 simp only[zaC,List.mem_cons,List.not_mem_nil,or_false] at hx
 rcases hx with rfl | rfl | rfl | rfl | rfl | rfl | rfl | rfl | rfl | rfl | rfl | rfl | rfl | rfl | rfl | rfl | rfl | rfl | rfl | rfl | rfl<;>simp[zb0,zaC,zaT,bl8,List.isPrefixOf,k1,k2]<;>rfl
def Hd (t:ByteArray):Prop:=∃ b r,bl8 t=b::r∧b≠61∧b≠126
theorem Hd.app {t:ByteArray} (h:Hd t) (u:ByteArray):Hd (t++u):=by
 obtain ⟨b,r,e,h1,h2⟩:=h
 exact⟨b,r++bl8 u,by rw[zcm,e];rfl,h1,h2⟩
theorem zds {x t:ByteArray} {W:List TokD} (hx:x∈zaC) (h:Lx t W) (hh:Hd t):Lx (x++t) (sg x::W):=by
 obtain ⟨b,r,e,h1,h2⟩:=hh
 obtain ⟨c,u,e',k1,k2,k3,k4,k5⟩:=sgs_first x hx
 have h:Lw (bl8 t) W:=h
 rw[e] at h
 refine Lw.lx ?_
 rw[zcm,e]
 have hd:decL (bl8 x++b::r)=(c.toNat,1):=by rw[e'];exact zaN k1
 refine h.step (by rw[e'];simp) (zdo (by rw[hd];exact k2)) ?_
 unfold zu
 rw[hd,if_neg k3,if_neg k4,if_neg k5,sgs_sign x hx b r h1 h2,zav]
theorem ze6 {x:ByteArray} (hx:x∈zaC):Lx x [sg x]:=by
 have h1:=lx_fit (good_sign hx)
 rw[zdB (show ¬(5:Int)=3 by decide) (show ¬(5:Int)=4 by decide)] at h1
 exact h1
theorem za6:zC∈zaC∧zS∈zaC∧zU∈zaC∧zQ∈zaC∧zP∈zaC∧tSq∈zaC∧tSqE∈zaC∧zaz∈zaC:=by simp[zaC]
theorem ops_signs {x:ByteArray} (h:x∈opsC):x∈zaC:=by
 simp only[opsC,List.mem_cons,List.not_mem_nil,or_false] at h
 rcases h with rfl | rfl | rfl | rfl | rfl | rfl | rfl | rfl | rfl | rfl | rfl<;>simp[zaC]
theorem sign4_in {op:Int} (h:1≤op∧op≤4):zb7 op∈zaC:=by
 obtain rfl | rfl | rfl | rfl:op=1∨op=2∨op=3∨op=4:=by omega
 all_goals simp[zb7,zaC]
theorem hd_word {t:ByteArray} (h:FW t):Hd t:=by
 obtain ⟨h1,h2,h3⟩:=h
 have e:zcq (⟨1,0,t⟩:TokD)=t:=zdB (show ¬(1:Int)=3 by decide) (show ¬(1:Int)=4 by decide)
 rw[e] at h1 h2 h3
 obtain ⟨b,r,er⟩:=List.exists_cons_of_ne_nil h1
 refine⟨b,r,er,?_,?_⟩
 all_goals
  rintro rfl
  rw[er] at h3
  have hk:=congrArg (fun p:TokD×Nat=>p.1.k) h3
  unfold zu at hk
  rw[zaN (by decide),if_neg (by decide),if_neg (by decide),if_neg (by decide)] at hk
  exfalso
  have:∀ xs:List ByteArray,∀ l,(zaT xs l).1.k=0∨(zaT xs l).1.k=5:=by
   intro xs l
   induction xs with
   | nil=>exact .inl rfl
   | cons x xs ih=>
    unfold zaT;split
    · exact .inr rfl
    · exact ih
  have hk:(zb0 _).1.k=1:=hk
  unfold zb0 at hk
  rcases this zaC _ with k | k
  · rw[k] at hk;revert hk;decide
  · rw[k] at hk;revert hk;decide
end Lp
set_option linter.unusedVariables false
namespace Lp
open Go
theorem joinB_cons (sep x y:ByteArray) (r:List ByteArray):zce sep (x::y::r)=x++(sep++zce sep (y::r)):=by
 apply ByteArray.ext;apply Array.toList_inj.1
 simp[zce,zcz]
theorem joinB_1 (sep x:ByteArray):zce sep [x]=x:=(joinB_one (l:=[x]) rfl rfl).symm
theorem zes {x:ByteArray} {b:UInt8} {r:List UInt8} (h:bl8 x=b::r) (hb:b∈zfj) (t:ByteArray):Stop (bl8 (x++t)):=.inr ⟨b,r++bl8 t,by rw[zcm,h];rfl,hb⟩
theorem stop_1 {x:ByteArray} {b:UInt8} {r:List UInt8} (h:bl8 x=b::r) (hb:b∈zfj):Stop (bl8 x):=.inr ⟨b,r,h,hb⟩
theorem lx_com:∀ (l:List (ByteArray×List TokD)),l≠[]→(∀ p∈l,Lx p.1 p.2∧Hd p.1)→Lx (zce zU (l.map (·.1))) (comT (l.map (·.2)))∧Hd (zce zU (l.map (·.1)))
 | [],h,_=>absurd rfl h
 | [x],_,h=>by
  have:=h x List.mem_cons_self
  rw[List.map_cons,List.map_nil,List.map_cons,List.map_nil,joinB_1];exact this
 | x::y::r,_,h=>by
  obtain ⟨a1,a2⟩:=h x List.mem_cons_self
  obtain ⟨b1,b2⟩:=lx_com (y::r) (List.cons_ne_nil _ _) (fun p hp=>h p (List.mem_cons_of_mem _ hp))
  rw[List.map_cons,List.map_cons,joinB_cons]
  refine⟨?_,a2.app _⟩
  exact a1.cat (zds za6.2.2.1 b1 b2) (zes (b:=44) (r:=[]) rfl (by decide) _)
theorem hd_close:Hd zS:=⟨41,[],rfl,by decide,by decide⟩
theorem hd_open (t:ByteArray):Hd (zC++t):=⟨40,bl8 t,by rw[zcm];rfl,by decide,by decide⟩
theorem lx_nam {l:List ByteArray} (h:∀ x∈l,FW x):Lx (namP l) (namT l):=by
 unfold namP namT
 rw[ByteArray.append_assoc]
 by_cases hl:l=[]
 · subst hl
   have e:zce zU []=ByteArray.empty:=(joinB_none rfl).symm
   rw[List.map_nil,e,ByteArray.empty_append]
   exact zds za6.1 (ze6 za6.2.1) hd_close
 · obtain ⟨a1,a2⟩:=lx_com (l.map fun x=>(x,[wk x])) (by simpa using hl) (fun p hp=>by
    obtain ⟨x,hx,rfl⟩:=List.mem_map.1 hp
    exact⟨lx_word (h x hx),hd_word (h x hx)⟩)
   rw[List.map_map,List.map_map] at a1
   rw[List.map_map] at a2
   have e1:(l.map ((·.1) ∘ fun x=>(x,[wk x])))=l:=by simp[Function.comp_def]
   have e2:(l.map ((·.2) ∘ fun x:ByteArray=>(x,[wk x])))=l.map fun x=>[wk x]:=rfl
   rw[e1,e2] at a1
   rw[e1] at a2
   exact zds za6.1 (a1.cat (ze6 za6.2.1) (stop_1 (b:=41) (r:=[]) rfl (by decide))) (a2.app _)
theorem lx_on:Lx tOn [wk tOn]∧Lx zM [wk zM]∧Lx tBy [wk tBy]∧Lx zF [wk zF]:=
 ⟨zeA (ts:=[⟨1,0,tOn⟩]) (zbP (by kernel_rfl) (by decide) (by decide)),zeA (ts:=[⟨1,0,zM⟩]) (zbP (by kernel_rfl) (by decide) (by decide)),
  zeA (ts:=[⟨1,0,tBy⟩]) (zbP (by kernel_rfl) (by decide) (by decide)),zeA (ts:=[⟨1,0,zF⟩]) (zbP (by kernel_rfl) (by decide) (by decide))⟩
theorem lx_wordP (mode:Int) {a b:ByteArray} (ha:Lx a [wk a]) (hb:Lx b [wk b]):Lx (zcd mode a b) [wk (zcd mode a b)]:=by unfold zcd;split<;>assumption
theorem lx_agg {t:ByteArray} (h:hasN aggN t=true):Lx t [wk t]∧Hd t:=by
 unfold hasN at h
 obtain ⟨x,hx,e⟩:=List.any_eq_true.1 h
 obtain rfl:=of_decide_eq_true e
 simp only[aggN,List.mem_cons,List.not_mem_nil,or_false] at hx
 rcases hx with rfl | rfl | rfl | rfl | rfl | rfl | rfl<;>exact⟨zeA (ts:=[⟨1,0,_⟩]) (zbP (by kernel_rfl) (by decide) (by decide)),⟨_,_,rfl,by decide,by decide⟩⟩
theorem lx_fnN {t:ByteArray} (h:hasN fnN t=true):Lx t [wk t]∧Hd t:=by
 unfold hasN at h
 obtain ⟨x,hx,e⟩:=List.any_eq_true.1 h
 obtain rfl:=of_decide_eq_true e
 simp only[fnN,List.mem_cons,List.not_mem_nil,or_false] at hx
 rcases hx with rfl | rfl | rfl | rfl | rfl | rfl | rfl | rfl<;>exact⟨zeA (ts:=[⟨1,0,_⟩]) (zbP (by kernel_rfl) (by decide) (by decide)),⟨_,_,rfl,by decide,by decide⟩⟩
theorem hd_dig (n:Nat):Hd (digB n):=by
 obtain ⟨b,t,e,h1,h2⟩:=digL_cons n
 exact⟨b,t,by rw[zeY,e],by rintro rfl;revert h2;decide,by rintro rfl;revert h2;decide⟩
theorem hd_quote (t:ByteArray):Hd (zaO t):=by
 rw[Hd,quote_bl8];unfold zbe;exact⟨34,_,rfl,by decide,by decide⟩
theorem lx_wr {t r:ByteArray} {W:List TokD} (h:FW t) (k:Lx r W) (hr:Rem (bl8 r)):Lx (t++r) (wk t::W):=by
 obtain ⟨h1,h2,h3⟩:=h
 have e:zcq (⟨1,0,t⟩:TokD)=t:=zdB (show ¬(1:Int)=3 by decide) (show ¬(1:Int)=4 by decide)
 rw[e] at h1 h2 h3
 have hp:=List.length_pos_iff.2 h1
 have k:Lw (bl8 r) W:=k
 refine Lw.lx ?_
 rw[zcm]
 refine k.step h1 ?_ ?_
 · rw[runL_app hr _ (bl8 t) rfl,h2,if_neg (by omega)]
 · rw[firstT_rem h1 hr (by rw[h3];show t.size≠0;rw[←zav];omega) (by rw[h3];show (1:Int)≠5;decide),h3,zav]
theorem rem_sg {x:ByteArray} {c:UInt8} {u:List UInt8} (e:bl8 x=c::u) (hc:c=61∨c=33) (t:ByteArray):Rem (bl8 (x++t)):=by
 refine .inr ⟨c,u++bl8 t,by rw[zcm,e];rfl,?_⟩
 rcases hc with rfl | rfl<;>decide
theorem sign_rem {op:Int} (h:1≤op∧op≤4) (t:ByteArray):Rem (bl8 (zb7 op++t)):=by
 obtain rfl | rfl | rfl | rfl:op=1∨op=2∨op=3∨op=4:=by omega
 · exact rem_sg (x:=tEq) rfl (.inl rfl) t
 · exact rem_sg (x:=tNe) rfl (.inr rfl) t
 · exact rem_sg (x:=zai) rfl (.inl rfl) t
 · exact rem_sg (x:=zJ) rfl (.inr rfl) t
theorem lx_mat {m:MatD} (h:FW m.n∧1≤m.op∧m.op≤4):Lx (matP m) (matT m)∧Hd (matP m):=by
 unfold matP matT
 rw[ByteArray.append_assoc]
 exact⟨lx_wr h.1 (zds (sign4_in h.2) (lx_str m.v) (hd_quote m.v)) (sign_rem h.2 _),(hd_word h.1).app _⟩
theorem hd_braceE:Hd zP:=⟨125,[],rfl,by decide,by decide⟩
theorem lx_brc {ms:List MatD} (h:∀ m∈ms,FW m.n∧1≤m.op∧m.op≤4):Lx (zQ++zce zU (ms.map matP)++zP) (sg zQ::comT (ms.map matT)++[sg zP]):=by
 rw[ByteArray.append_assoc]
 by_cases hl:ms=[]
 · subst hl
   have e:zce zU []=ByteArray.empty:=(joinB_none rfl).symm
   rw[List.map_nil,e,ByteArray.empty_append]
   exact zds za6.2.2.2.1 (ze6 za6.2.2.2.2.1) hd_braceE
 · obtain ⟨a1,a2⟩:=lx_com (ms.map fun m=>(matP m,matT m)) (by simpa using hl) (fun p hp=>by
    obtain ⟨m,hm,rfl⟩:=List.mem_map.1 hp
    exact lx_mat (h m hm))
   rw[List.map_map,List.map_map] at a1
   rw[List.map_map] at a2
   exact zds za6.2.2.2.1 (a1.cat (ze6 za6.2.2.2.2.1) (stop_1 (b:=125) (r:=[]) rfl (by decide))) (a2.app _)
theorem lx_win {n:Nat} (h:FitT ⟨4,0,digB n⟩):Lx (tSq++digB n++tSec) [sg tSq,⟨4,0,digB n⟩,sg tSqE]:=by
 have e:tSq++digB n++tSec=tSq++((digB n++(⟨#[115]⟩:ByteArray))++tSqE):=by
  rw[show tSec=(⟨#[115]⟩:ByteArray)++tSqE from rfl];simp only[ByteArray.append_assoc]
 rw[e]
 refine zds za6.2.2.2.2.2.1 ((lx_span h).cat (ze6 za6.2.2.2.2.2.2.1) (stop_1 (b:=93) (r:=[]) rfl (by decide))) ?_
 exact((hd_dig n).app _).app _
theorem lx_sel {text:ByteArray} {n:Nat} {ms:List MatD} (ht:text=ByteArray.empty∨FW text∧zdt text=false) (hs:n=0∨FitT ⟨4,0,digB n⟩) (hm:∀ m∈ms,FW m.n∧1≤m.op∧m.op≤4):Lx (selP text n ms) (selT text n ms)∧Hd (selP text n ms):=by
 have hb:=lx_brc hm
 have sb:Stop (bl8 (zQ++zce zU (ms.map matP)++zP)):=by rw[ByteArray.append_assoc];exact zes (b:=123) (r:=[]) rfl (by decide) _
 have hdb:Hd (zQ++zce zU (ms.map matP)++zP):=by
  rw[ByteArray.append_assoc];exact⟨123,_,by rw[zcm];rfl,by decide,by decide⟩
 have hA:Lx (selA text ms) ((if text=ByteArray.empty then [] else [wk text])++(if text=ByteArray.empty∨0<ms.length then sg zQ::comT (ms.map matT)++[sg zP] else []))∧Hd (selA text ms):=by
  unfold selA
  by_cases h0:text=ByteArray.empty
  · rw[if_pos (.inl h0),if_pos h0,if_pos (.inl h0),h0,ByteArray.empty_append,List.nil_append]
    exact⟨hb,hdb⟩
  · have hw:=(ht.resolve_left h0).1
    rw[if_neg h0]
    by_cases h1:0<ms.length
    · rw[if_pos (.inr h1),if_pos (.inr h1)]
      exact⟨(lx_word hw).cat hb sb,(hd_word hw).app _⟩
    · rw[if_neg (by rintro (k | k);exact h0 k;exact h1 k),if_neg (by rintro (k | k);exact h0 k;exact h1 k),List.append_nil]
      exact⟨lx_word hw,hd_word hw⟩
 unfold selP selT
 by_cases hn:0<n
 · rw[if_pos hn,if_pos hn,←List.append_assoc]
   refine⟨hA.1.cat (lx_win (hs.resolve_left (by omega))) ?_,hA.2.app _⟩
   rw[ByteArray.append_assoc];exact zes (b:=91) (r:=[]) rfl (by decide) _
 · rw[if_neg hn,if_neg hn,List.append_nil]
   exact hA
end Lp
