import Derived.Test.YtheccaeefigajaaGreatDoorV109
set_option linter.unusedVariables false
namespace Lp
open Go
theorem zfT {s:Rd} {k:Int} (hT:TOk s.l):(s.any k).1.size<=1000:=zcQ (t:=(s.any k).1) (s':=(s.any k).2) rfl hT
theorem sumSz_snoc (l:List ByteArray) (x:ByteArray):zX (l++[x])=zX l+x.size:=by unfold zX;simp
theorem wt_namesF:∀ (F:Nat) (o:List ByteArray) (s:Rd),TOk s.l->(zaQ F o s).2.b=false->zX (zaQ F o s).1+20*(zaQ F o s).1.length+8000*(zaQ F o s).2.l.length<=zX o+20*o.length+8000*s.l.length
 | 0,o,s,_,_=>cU _
 | F+1,o,s,hT,e=>by
  have hb:s.b=false:=zaa (λq=>namesF_b q) e;unfold zaQ at e ⊢;rw[if_neg (show ¬s.b=true by rw[hb];decide)] at e ⊢;have ha:(s.any 1).2.b=false:=by
   split at e
   · rename_i hq;exact(zbx (by decide) hq).2.2.1
   rw[zfH] at e;exact e
  have l1:=zcJ (s:=s) (by decide) ha;have z1:=zfT (s:=s) (k:=1) hT;have t1:TOk (s.any 1).2.l:=hT.suf (za4 s 1).l;have l2:=(zP (s.any 1).2 5 [zA]).len;split
  · rename_i hq;rw[if_pos hq] at e;have h:=wt_namesF F _ _ (t1.suf (zP _ 5 _).l) e;rw[sumSz_snoc,dA,cT] at h;omega
  simp only[sumSz_snoc,dA,cT];omega
theorem wt_names {s:Rd} (hT:TOk s.l) (e:s.names.2.b=false):zX s.names.1+20*s.names.1.length+8000*s.names.2.l.length<=8000*s.l.length:=by
 have l1:=(zx s zn).len;unfold Rd.names at e ⊢;split
 · have l2:=(zx (s.must zn) zD).len;show 0+20*0+8000*((s.must zn).must zD).l.length<=_;omega
 rename_i hc;rw[if_neg hc] at e;have h:=wt_namesF ((s.must zn).l.length+1) [] _ (hT.suf (zx s zn).l) (zaa zag e);have l2:=(zx (zaQ ((s.must zn).l.length+1) [] (s.must zn)).2 zD).len;have z:zX []=0:=rfl;simp only[d7,z] at h ⊢;omega
theorem wt_mode {s:Rd} {a b:ByteArray} (hT:TOk s.l) (e:(s.mode a b).2.2.b=false):zX (s.mode a b).2.1+20*(s.mode a b).2.1.length+8000*(s.mode a b).2.2.l.length<=8000*s.l.length:=by
 have l1:=(zP s 1 [a,b]).len;have t1:=hT.suf (zP s 1 [a,b]).l;have z:zX []=0:=rfl;unfold Rd.mode at e ⊢;split
 · simp only[d7,z];omega
 rename_i hc;rw[if_neg hc] at e;split
 · rename_i hd;rw[if_pos hd] at e;have:=wt_names t1 e;show zX (s.take 1 [a,b]).2.2.names.1+20*(s.take 1 [a,b]).2.2.names.1.length+8000*(s.take 1 [a,b]).2.2.names.2.l.length<=_;omega
 rename_i hd;rw[if_neg hd] at e;have:=wt_names t1 e;show zX (s.take 1 [a,b]).2.2.names.1+20*(s.take 1 [a,b]).2.2.names.1.length+8000*(s.take 1 [a,b]).2.2.names.2.l.length<=_;omega
def WtP (m:Nat) (p:Rd->Nd×Rd):Prop:=∀ s:Rd,s.l.length<=m->TOk s.l->(p s).2.b=false->(p s).1.wt+8000*(p s).2.l.length<=8000*s.l.length
theorem take_sz {s:Rd} {k:Int} {ts:List ByteArray} (hT:TOk s.l):(s.take k ts).1.size<=1000:=zdn (t:=(s.take k ts).1) (q:=(s.take k ts).2.1) (s':=(s.take k ts).2.2) rfl hT
theorem wt_levelF {part:Rd->Nd×Rd} {ts:List ByteArray} (hb:Bad part) (hs:∀ s,Stp 1 s (part s).2) {m:Nat} (hp:WtP m part):∀ (F:Nat) (o:Nd) (s:Rd),s.l.length<=m->TOk s.l->(zaH part ts F o s).2.b=false->(zaH part ts F o s).1.wt+8000*(zaH part ts F o s).2.l.length<=o.wt+8000*s.l.length
 | 0,o,s,_,_,_=>cU _
 | F+1,o,s,hm,hT,e=>by
  have k1:=(zP s 5 ts).len;unfold zaH at e ⊢;split
  · show o.wt+8000*(s.take 5 ts).2.2.l.length<=_;omega
  rename_i hc;rw[if_neg hc] at e;simp only at e ⊢;have hg:=zbx (by decide) (show (s.take 5 ts).2.1=true by simpa using hc);have t1:TOk (s.take 5 ts).2.2.l:=hT.suf (zP s 5 ts).l;have t2:TOk ((s.take 5 ts).2.2.mode tOn zS).2.2.l:=t1.suf (zbm _ _ _).l;have ep:(part ((s.take 5 ts).2.2.mode tOn zS).2.2).2.b=false:=zaa zbd (zaa (λq=>zcm q) e);have k2:=(zbm (s.take 5 ts).2.2 tOn zS).len;have k3:=(hs ((s.take 5 ts).2.2.mode tOn zS).2.2).len;have w:=hp _ (by omega) t2 ep;have wm:=wt_mode t1 (hb.no ep);have z:=take_sz (s:=s) (k:=5) (ts:=ts) hT;have h:=wt_levelF hb hs hp F _ _ (by show (part _).2.l.length<=m;omega) (show TOk (part _).2.node.l from t2.suf (hs _).l) e;have nl:(part ((s.take 5 ts).2.2.mode tOn zS).2.2).2.node.l.length=(part ((s.take 5 ts).2.2.mode tOn zS).2.2).2.l.length:=rfl;have sz0:zX (([]:List MatD).map matP)=0:=rfl;simp only[Nd.wt,wtOf,Nd.wtL,sz0,d7] at h;omega
theorem wt_level {part:Rd->Nd×Rd} {ts:List ByteArray} (hb:Bad part) (hs:∀ s,Stp 1 s (part s).2) {m:Nat} (hp:WtP m part):WtP m (λs=>s.level part ts):=λs hm hT e=>by
 have ep:(part s).2.b=false:=zaa (λq=>zcm q) e;have k3:=(hs s).len;have h:=wt_levelF hb hs hp _ _ _ (by omega) (hT.suf (hs s).l) e;have w:=hp s hm hT ep;simp only[Rd.level] at e ⊢;omega
theorem matP_le {m:MatD} (h1:m.n.size<=1000) (h2:m.v.size<=1000):(matP m).size<=5010:=by
 have h3:=matP_eq m;have h4:=(zeb m.v).1;have h5:(zb1 m.op).size<=2:=by
  unfold zb1;split
  · decide
  split
  · decide
  split
  · decide
  split<;>decide
 omega
section
variable (rm:List MatD->Bool)
theorem wt_bracesF:∀ (F:Nat) (o:List MatD) (s:Rd),TOk s.l->(zY F o s).2.b=false->zX ((zY F o s).1.map matP)+20*(zY F o s).1.length+8000*(zY F o s).2.l.length<=zX (o.map matP)+20*o.length+8000*s.l.length
 | 0,o,s,_,_=>cU _
 | F+1,o,s,hT,e=>by
  have hb:s.b=false:=zaa (λq=>bracesF_b q) e;unfold zY at e ⊢;rw[if_neg (show ¬s.b=true by rw[hb];decide)] at e ⊢;simp only at e ⊢;have hv:(Rd.any ⟨((s.any 1).2.take 5 [tEq,tNe,zao,zO]).2.2.l,((s.any 1).2.take 5 [tEq,tNe,zao,zO]).2.2.n,((s.any 1).2.take 5 [tEq,tNe,zao,zO]).2.2.b||!((s.any 1).2.take 5 [tEq,tNe,zao,zO]).2.1⟩ 3).2.b=false:=by
   split at e
   · rename_i hq;exact(zbx (by decide) hq).2.2.1
   rw[zfH] at e;exact e
  have hc:(((s.any 1).2.take 5 [tEq,tNe,zao,zO]).2.2.b||!((s.any 1).2.take 5 [tEq,tNe,zao,zO]).2.1)=false:=zaa (λq=>zcH (s:=⟨_,_,_⟩) q) hv;have ha:(s.any 1).2.b=false:=by
   have:=(dT.1 hc).1;rw[zfH] at this;exact this
  have l1:=zcJ (s:=s) (by decide) ha;have l2:=(zP (s.any 1).2 5 [tEq,tNe,zao,zO]).len;have t1:TOk (s.any 1).2.l:=hT.suf (za4 s 1).l;have t2:TOk ((s.any 1).2.take 5 [tEq,tNe,zao,zO]).2.2.l:=t1.suf (zP _ 5 _).l;obtain ⟨u,hu⟩:∃ u:Rd,u=⟨((s.any 1).2.take 5 [tEq,tNe,zao,zO]).2.2.l,((s.any 1).2.take 5 [tEq,tNe,zao,zO]).2.2.n,((s.any 1).2.take 5 [tEq,tNe,zao,zO]).2.2.b||!((s.any 1).2.take 5 [tEq,tNe,zao,zO]).2.1⟩:=⟨_,rfl⟩;have hul:u.l.length=((s.any 1).2.take 5 [tEq,tNe,zao,zO]).2.2.l.length:=by rw[hu]
  have tu:TOk u.l:=by rw[hu];exact t2
  rw[<-hu] at e hv ⊢;have l3:=zcJ (s:=u) (by decide) hv;have z1:=zfT (s:=s) (k:=1) hT;have z2:=zfT (s:=u) (k:=3) tu;have t3:TOk (u.any 3).2.l:=tu.suf (za4 u 3).l;have l4:=(zP (u.any 3).2 5 [zA]).len;have mz:=matP_le (m:=⟨(s.any 1).1,opM ((s.any 1).2.take 5 [tEq,tNe,zao,zO]).1,(u.any 3).1⟩) z1 z2;split
  · rename_i hq;rw[if_pos hq] at e;have h:=wt_bracesF F _ _ (t3.suf (zP _ 5 _).l) e;rw[uF,jQ,wC,sumSz_snoc,dA,cT] at h;omega
  simp only[uF,jQ,wC,sumSz_snoc,dA,cT];omega
theorem wt_braces {s:Rd} (hT:TOk s.l) (e:(s.braces rm).2.b=false):zX ((s.braces rm).1.map matP)+20*(s.braces rm).1.length+8000*(s.braces rm).2.l.length<=8000*s.l.length:=by
 have l1:=(zx s zE).len;have z:zX (([]:List MatD).map matP)=0:=rfl;unfold Rd.braces at e ⊢;split
 · have l2:=(zx (s.must zE) zt).len;show 0+20*0+8000*((s.must zE).must zt).l.length<=_;omega
 rename_i hc;rw[if_neg hc] at e;have e':(((zY _ [] (s.must zE)).2.must zt).b||_)=false:=e;have h:=wt_bracesF ((s.must zE).l.length+1) [] _ (hT.suf (zx s zE).l) (zaa zag (dT.1 e').1);have l2:=(zx (zY ((s.must zE).l.length+1) [] (s.must zE)).2 zt).len;simp only[d7,z] at h ⊢;omega
theorem wt_sel {s:Rd} (hT:TOk s.l) (hl:s.l≠[]) (e:(s.selector rm).2.b=false):(s.selector rm).1.wt+8000*(s.selector rm).2.l.length<=8000*s.l.length:=by
 have z0:zX ([]:List ByteArray)=0:=rfl;have z1:zX (([]:List MatD).map matP)=0:=rfl;unfold Rd.selector at e ⊢;simp only at e ⊢;have e3:=zaa zbd e;have e2:=zaa selWin_b e3;have e1:s.selName.2.b=false:=zaa (λq=>selMs_b rm q) e2;have hn:s.selName.1.size<=1000/\TOk s.selName.2.l/\(s.selName.2.l.length+1=s.l.length\/s.selName=(ByteArray.empty,s)):=by
  unfold Rd.selName at e1 ⊢;split
  · rename_i hc;rw[if_pos hc] at e1;exact⟨zfT hT,hT.suf (za4 s 1).l,.inl (zcJ (by decide) e1)⟩
  exact⟨cX _,hT,.inr O⟩
 have hm:zX ((s.selName.2.selMs rm s.selName.1).1.map matP)+20*(s.selName.2.selMs rm s.selName.1).1.length+8000*(s.selName.2.selMs rm s.selName.1).2.l.length<=8000*s.selName.2.l.length/\(s.selName=(ByteArray.empty,s)->(s.selName.2.selMs rm s.selName.1).2.l.length+1<=s.l.length/\zX ((s.selName.2.selMs rm s.selName.1).1.map matP)+20*(s.selName.2.selMs rm s.selName.1).1.length+8000*(s.selName.2.selMs rm s.selName.1).2.l.length+8000<=8000*s.l.length):=by
  unfold Rd.selMs at e2 ⊢;split
  · rename_i hc;rw[if_pos hc] at e2;have hw:=wt_braces rm hn.2.1 e2;refine⟨hw,λk=>?_⟩;rw[k] at hc e2 hw ⊢;simp only at hc e2 hw ⊢;have h1:(s.must zE).b=false:=by
     unfold Rd.braces at e2;split at e2
     · exact zaa zag e2
     have e':(((zY _ [] (s.must zE)).2.must zt).b||_)=false:=e2;exact zaa (λq=>bracesF_b q) (zaa zag (dT.1 e').1)
    have l1:=zdI h1;have hT':TOk (s.must zE).l:=hT.suf (zx s zE).l;unfold Rd.braces at e2 ⊢;split
    · have l2:=(zx (s.must zE) zt).len;refine⟨by show ((s.must zE).must zt).l.length+1<=_;omega,?_⟩;show 0+20*0+8000*((s.must zE).must zt).l.length+8000<=_;omega
    rename_i hd;rw[if_neg hd] at e2;have e':(((zY _ [] (s.must zE)).2.must zt).b||_)=false:=e2;have h:=wt_bracesF ((s.must zE).l.length+1) [] _ hT' (zaa zag (dT.1 e').1);have l2:=(zx (zY ((s.must zE).l.length+1) [] (s.must zE)).2 zt).len;have l3:=(bracesF_stp ((s.must zE).l.length+1) [] (s.must zE)).len;simp only[d7,z1] at h ⊢;exact⟨by omega,by omega⟩
  rename_i hc;rw[if_neg hc] at e2;refine⟨by show 0+20*0+8000*s.selName.2.l.length<=_;omega,λk=>?_⟩;rw[k] at e2;simp only at e2;simp at e2
 have hw:=(show (s.selName.2.selMs rm s.selName.1).2.selWin.2.l.length<=(s.selName.2.selMs rm s.selName.1).2.l.length by
  unfold Rd.selWin;split
  · exact dY (zx _ tSqE).len (dY (zaL _ 4).len (zP _ 5 _).len)
  exact(zP _ 5 _).len)
 have nl:(s.selName.2.selMs rm s.selName.1).2.selWin.2.node.l.length=(s.selName.2.selMs rm s.selName.1).2.selWin.2.l.length:=rfl;simp only[Nd.wt,wtOf,Nd.wtL,z0,d7];rcases hn.2.2 with k | k
 · have:=hm.1;have:=hn.1;omega
 have:=(hm.2 k).2;have z:s.selName.1.size=0:=by rw[k];rfl
 omega
theorem wt_aggr {ex:Rd->Nd×Rd} (hb:Bad ex) {m:Nat} (hx:∀ a,a<m->WtP a ex):∀ s:Rd,s.l.length<=m->TOk s.l->(s.aggr ex).2.b=false->(s.aggr ex).1.wt+8000*(s.aggr ex).2.l.length<=8000*s.l.length:=λs hl hT e=>by
 have z1:zX (([]:List MatD).map matP)=0:=rfl;unfold Rd.aggr at e ⊢;simp only at e ⊢;have e6:=zaa zag (zaa zbd e);have e5:=hb.no e6;have e3:((s.any 1).2.mode tBy zr |>.2.2.must zn).b=false:=by
  by_cases hn:zaf (s.any 1).1=true
  · rw[if_pos hn,if_pos hn] at e5;exact zaa zcH (zaa zag e5)
  rw[if_neg hn,if_neg hn] at e5;exact e5
 have e2:=zaa zag e3;have e1:(s.any 1).2.b=false:=zaa mode_b e2;have l1:=zcJ (s:=s) (by decide) e1;have l3:=(zx ((s.any 1).2.mode tBy zr).2.2 zn).len;have l4:=(zaL (((s.any 1).2.mode tBy zr).2.2.must zn) 2).len;have l5:=(zx ((((s.any 1).2.mode tBy zr).2.2.must zn).number 2).2 zA).len;have l6:=(zbm (s.any 1).2 tBy zr).len;have t1:TOk (s.any 1).2.l:=hT.suf (za4 s 1).l;have t2:TOk ((s.any 1).2.mode tBy zr).2.2.l:=t1.suf (zbm _ _ _).l;have t3:TOk (((s.any 1).2.mode tBy zr).2.2.must zn).l:=t2.suf (zx _ _).l;have wm:=wt_mode t1 e2;have zs:=zfT (s:=s) (k:=1) hT;by_cases hn:zaf (s.any 1).1=true
 · simp only[if_pos hn] at e6 ⊢;have t4:TOk ((((s.any 1).2.mode tBy zr).2.2.must zn).number 2).2.l:=t3.suf (zaL _ 2).l;have w:=hx _ (by omega) _ (cU _) (t4.suf (zx _ zA).l) e6;have l7:=(zx (ex (((((s.any 1).2.mode tBy zr).2.2.must zn).number 2).2.must zA)).2 zD).len;have nl:((ex (((((s.any 1).2.mode tBy zr).2.2.must zn).number 2).2.must zA)).2.must zD).node.l.length=((ex (((((s.any 1).2.mode tBy zr).2.2.must zn).number 2).2.must zA)).2.must zD).l.length:=rfl;simp only[Nd.wt,wtOf,Nd.wtL,z1,d7];omega
 simp only[if_neg hn] at e6 ⊢;have w:=hx _ (by omega) _ (cU _) t3 e6;have l7:=(zx (ex (((s.any 1).2.mode tBy zr).2.2.must zn)).2 zD).len;have nl:((ex (((s.any 1).2.mode tBy zr).2.2.must zn)).2.must zD).node.l.length=((ex (((s.any 1).2.mode tBy zr).2.2.must zn)).2.must zD).l.length:=rfl;simp only[Nd.wt,wtOf,Nd.wtL,z1,d7];omega
theorem wt_prim {ex:Rd->Nd×Rd} (hb:Bad ex) {m:Nat} (hx:∀ a,a<m->WtP a ex):WtP m (λs=>s.prim rm ex):=λs hl hT e=>by
 have z0:zX ([]:List ByteArray)=0:=rfl;have z1:zX (([]:List MatD).map matP)=0:=rfl;have z2:(ByteArray.empty).size=0:=rfl;have h0:s.b=false:=(prim_b rm ex).no e;have hn:¬s.b=true:=by rw[h0];decide
 have hne:s.l≠[]:=by
  intro hl;simp only[Rd.prim] at e;have hp:s.pk=zbh:=pk_0 (by rw[hl];rfl);rw[if_neg hn,if_neg (by rw[hp];decide),if_neg (by rw[zey hl (by decide)];decide),if_neg (by rw[hp];rintro ⟨a,_⟩;exact absurd a (by decide)),if_neg (by rw[hp];rintro ⟨a,_⟩;exact absurd a (by decide)),sel_nil rm hl] at e;cases e
 simp only[Rd.prim] at e ⊢;rw[if_neg hn] at e ⊢;split
 · rename_i hc;rw[if_pos hc] at e;have e1:(s.any 2).2.b=false:=zaa zbd e;have l1:=zcJ (s:=s) (by decide) e1;have nl:(s.number 2).2.node.l.length=(s.any 2).2.l.length:=rfl;simp only[Nd.wt,wtOf,Nd.wtL,z0,z1,z2,d7];omega
 rename_i hc;rw[if_neg hc] at e;split
 · rename_i hd;rw[if_pos hd] at e;have e1:=zaa zag e;have l1:=zdI (hb.no e1);have w:=hx _ (by omega) _ (cU _) (hT.suf (zx s zn).l) e1;have l2:=(zx (ex (s.must zn)).2 zD).len;show (ex (s.must zn)).1.wt+8000*((ex (s.must zn)).2.must zD).l.length<=_;omega
 rename_i hd;rw[if_neg hd] at e;split
 · rename_i hf;rw[if_pos hf] at e;exact wt_aggr hb hx s hl hT e
 rename_i hf;rw[if_neg hf] at e;split
 · rename_i hg;rw[if_pos hg] at e;simp only at e ⊢;have e1:=zaa zbd (zaa zag e);have e2:=hb.no e1;have l0:=zcJ (s:=s) (by decide) (zaa zag e2);have l1:=zdI e2;have w:=hx _ (by omega) _ (cU _) ((hT.suf (za4 s 1).l).suf (zx _ zn).l) e1;have l2:=(zx (ex ((s.any 1).2.must zn)).2.node zD).len;have nl:(ex ((s.any 1).2.must zn)).2.node.l.length=(ex ((s.any 1).2.must zn)).2.l.length:=rfl;have zs:=zfT (s:=s) (k:=1) hT;simp only[Nd.wt,wtOf,Nd.wtL,z0,z1,d7];omega
 rename_i hg;rw[if_neg hg] at e;exact wt_sel rm hT hne e
theorem wt_unaryF {ex:Rd->Nd×Rd} {m:Nat} (hp:WtP m (λs=>s.prim rm ex)):∀ (F:Nat) (s:Rd),s.l.length<F->s.l.length<=m->TOk s.l->(zai rm ex F s).2.b=false->(zai rm ex F s).1.wt+8000*(zai rm ex F s).2.l.length<=8000*s.l.length
 | 0,s,h,_,_,_=>absurd h (jU _)
 | F+1,s,hF,hm,hT,e=>by
  have z0:zX ([]:List ByteArray)=0:=rfl;have z1:zX (([]:List MatD).map matP)=0:=rfl;have z2:(ByteArray.empty).size=0:=rfl;unfold zai at e ⊢;have k1:=(zP s 5 [zal]).len;have t1:TOk (s.take 5 [zal]).2.2.l:=hT.suf (zP s 5 [zal]).l;split
  · rename_i hc;rw[if_pos hc] at e;simp only at e ⊢;have hg:=zbx (by decide) hc;have w:=wt_unaryF hp F _ (by omega) (by omega) t1 (zaa zbd e);have nl:(zai rm ex F (s.take 5 [zal]).2.2).2.node.l.length=(zai rm ex F (s.take 5 [zal]).2.2).2.l.length:=rfl;simp only[Nd.wt,wtOf,Nd.wtL,z0,z1,z2,d7];omega
  rename_i hc;rw[if_neg hc] at e;have w:=hp _ (by omega) t1 e;simp only at w ⊢;omega
theorem wt_prod {ex:Rd->Nd×Rd} (hb:Bad ex) (hs:∀ s,Stp 1 s (ex s).2) {m:Nat} (hx:∀ a,a<m->WtP a ex):WtP m (zeE rm ex):=
 wt_level (λs h=>zeN rm ex _ s h) (λs=>zcg rm hs _ s) (λs hm hT e=>wt_unaryF rm (wt_prim rm hb hx) _ s (jK _) hm hT e)
theorem wt_sum {ex:Rd->Nd×Rd} (hb:Bad ex) (hs:∀ s,Stp 1 s (ex s).2) {m:Nat} (hx:∀ a,a<m->WtP a ex):WtP m (sumP rm ex):=
 wt_level (zf2 rm ex) (λs=>zdz rm hs s) (wt_prod rm hb hs hx)
theorem wt_expr:∀ f:Nat,WtP f (zaA rm (f+1))
 | 0=>wt_level (zft rm _) (λs=>zcz rm (zax rm _) s) (wt_sum rm (zeZ rm _) (zax rm _) (λa ha=>absurd ha (jU _)))
 | f+1=>wt_level (zft rm _) (λs=>zcz rm (zax rm _) s) (wt_sum rm (zeZ rm _) (zax rm _) (λa ha s hl hT e=>wt_expr f s (by omega) hT e))
end
theorem read_wt {s:ByteArray} (h:zcb s=0):(zaW s).root.wt<=10000000:=by
 obtain ⟨h1,h2⟩:=readE_0 h;obtain ⟨h3,h4,_⟩:=parse_parts rmD h2;have w:=wt_expr rmD (lexL s).length ⟨lexL s,0,false⟩ (cU _) (lexL_tok s) h4;rw[h3] at w;have hl:=lexL_len s;have hz:=(zfk h1).1;simp only at w;omega
theorem bound_lim {s:Rd} {w:ByteArray} (e:(s.bound w).2.b=false): -1<=(s.bound w).1/\(s.bound w).1<=2000:=by
 unfold Rd.bound at e ⊢;split
 · show (-1:Int)<= -1/\(-1:Int)<=2000;decide
 rename_i hc;rw[if_neg hc] at e;have e:(_||decide (2000<((s.take 1 [w]).2.2.number 2).1))=false:=e;have h:=of_decide_eq_false (dT.1 e).2;have h2:(0:Int)<=((s.take 1 [w]).2.2.number 2).1:=by unfold Rd.number numV;simp only;omega
 show -1<=((s.take 1 [w]).2.2.number 2).1/\((s.take 1 [w]).2.2.number 2).1<=2000;omega
theorem order_3 (s:Rd):s.order.1=0\/s.order.1=1\/s.order.1=2:=by
 unfold Rd.order;simp only;split
 · exact .inl O
 split
 · exact .inr (.inr O)
 exact .inr (.inl O)
theorem parse_lim (rm:List MatD->Bool) {l:List TokD} {q:QryD} (h:zbJ rm l=some q):(q.order=0\/q.order=1\/q.order=2)/\(-1<=q.limit/\q.limit<=2000)/\(-1<=q.offset/\q.offset<=2000):=by
 unfold zbJ at h;simp only at h;split at h
 · cases h
 rename_i hc;injection h with h;have hb:(((zaA rm (l.length+1) ⟨l,0,false⟩).2.order.2.bound za6).2.bound zaJ).2.b=false:=by
  cases e:(((zaA rm (l.length+1) ⟨l,0,false⟩).2.order.2.bound za6).2.bound zaJ).2.b with
  | false=>rfl
  | true=>exact absurd (.inl e) hc
 subst h;exact⟨order_3 _,bound_lim (zaa (λq=>zdY q) hb),bound_lim hb⟩
theorem read_lim {s:ByteArray} (h:zcb s=0):((zaW s).order=0\/(zaW s).order=1\/(zaW s).order=2)/\(-1<=(zaW s).limit/\(zaW s).limit<=2000)/\(-1<=(zaW s).offset/\(zaW s).offset<=2000):=parse_lim rmD (readE_0 h).2
end Lp
set_option linter.unusedSimpArgs false
set_option maxHeartbeats 4000000
set_option maxRecDepth 100000
namespace Lp
open Go Go.RowKit Go.Proofs Tryz
theorem print_q {s:ByteArray} (h:zcb s=0) {op text:ByteArray} {n mode:Int} {names:List ByteArray} {ms:List MatD} {kids:List Nd} {o a b:Int} (e:(⟨Nd.mk op text n mode names ms kids,o,a,b⟩:QryD)=zaW s):CD prog 32 [HPow] [.agg [.s op,.s text,dI n,dI mode,.sh 1 (names.map D.s),.sh 3 (ms.map MatD.d),.sh 7 (Nd.ds kids),dI o,dI a,dI b]] (PrT (zaW s).pr):=by
 have h1:=read_wf h;have h2:=read_wt h;have h3:=read_lim h;have h4:=node_p h1 h2;have h5:=zeF h1;rw[<-e] at h2 h3 h4 h5 ⊢;exact print_s op text n mode names ms kids o a b _ (by simp only at*;omega) (by simp only at*;omega) (by simp only at*;omega) h4
end Lp
