import Derived.Test.YtheccaeefigajaaGreatDoorV109
set_option linter.unusedVariables false
namespace Lp
open Go
theorem zgc {s:Rd} {k:Int} (hT:TOk s.l):(s.any k).1.size<=1000:=zcR (t:=(s.any k).1) (s':=(s.any k).2) rfl hT
theorem eT (l:List ByteArray) (x:ByteArray):zac (l++[x])=zac l+x.size:=by unfold zac;simp
theorem sP:∀ (F:Nat) (o:List ByteArray) (s:Rd),TOk s.l->(zaF F o s).2.b=false->zac (zaF F o s).1+20*(zaF F o s).1.length+8000*(zaF F o s).2.l.length<=zac o+20*o.length+8000*s.l.length
 | 0,o,s,_,_=>cU _
 | F+1,o,s,hT,e=>by
  have hb:s.b=false:=zS (λq=>qL q) e;unfold zaF at e ⊢;rw[aA (show ¬s.b=true by rw[hb];decide)] at e ⊢;have ha:(s.any 1).2.b=false:=by
   split at e
   · rename_i hq;exact(zaY (by decide) hq).2.2.1
   rw[zeH] at e;exact e
  have l1:=zcz (s:=s) (by decide) ha;have z1:=zgc (s:=s) (k:=1) hT;have t1:TOk (s.any 1).2.l:=hT.suf (zav s 1).l;have l2:=(zC (s.any 1).2 5 [zu]).len;split
  · rename_i hq;rw[aB hq] at e;have h:=sP F _ _ (t1.suf (zC _ 5 _).l) e;rw[eT,c7,cT] at h;omega
  simp only[eT,c7,cT];omega
theorem aEa {s:Rd} (hT:TOk s.l) (e:s.names.2.b=false):zac s.names.1+20*s.names.1.length+8000*s.names.2.l.length<=8000*s.l.length:=by
 have l1:=(zr s zl).len;unfold Rd.names at e ⊢;split
 · have l2:=(zr (s.must zl) zx).len;show 0+20*0+8000*((s.must zl).must zx).l.length<=_;omega
 rename_i hc;rw[aA hc] at e;have h:=sP ((s.must zl).l.length+1) [] _ (hT.suf (zr s zl).l) (zS z7 e);have l2:=(zr (zaF ((s.must zl).l.length+1) [] (s.must zl)).2 zx).len;have z:zac []=0:=rfl;simp only[jE,z] at h ⊢;omega
theorem aKq {s:Rd} {a b:ByteArray} (hT:TOk s.l) (e:(s.mode a b).2.2.b=false):zac (s.mode a b).2.1+20*(s.mode a b).2.1.length+8000*(s.mode a b).2.2.l.length<=8000*s.l.length:=by
 have l1:=(zC s 1 [a,b]).len;have t1:=hT.suf (zC s 1 [a,b]).l;have z:zac []=0:=rfl;unfold Rd.mode at e ⊢;split
 · simp only[jE,z];omega
 rename_i hc;rw[aA hc] at e;split
 · rename_i hd;rw[aB hd] at e;have:=aEa t1 e;show zac (s.take 1 [a,b]).2.2.names.1+20*(s.take 1 [a,b]).2.2.names.1.length+8000*(s.take 1 [a,b]).2.2.names.2.l.length<=_;omega
 rename_i hd;rw[aA hd] at e;have:=aEa t1 e;show zac (s.take 1 [a,b]).2.2.names.1+20*(s.take 1 [a,b]).2.2.names.1.length+8000*(s.take 1 [a,b]).2.2.names.2.l.length<=_;omega
def WtP (m:Nat) (p:Rd->Nd×Rd):Prop:=∀ s:Rd,s.l.length<=m->TOk s.l->(p s).2.b=false->(p s).1.wt+8000*(p s).2.l.length<=8000*s.l.length
theorem aUf {s:Rd} {k:Int} {ts:List ByteArray} (hT:TOk s.l):(s.take k ts).1.size<=1000:=zdx (t:=(s.take k ts).1) (q:=(s.take k ts).2.1) (s':=(s.take k ts).2.2) rfl hT
theorem rS {part:Rd->Nd×Rd} {ts:List ByteArray} (hb:Bad part) (hs:∀ s,Stp 1 s (part s).2) {m:Nat} (hp:WtP m part):∀ (F:Nat) (o:Nd) (s:Rd),s.l.length<=m->TOk s.l->(zaz part ts F o s).2.b=false->(zaz part ts F o s).1.wt+8000*(zaz part ts F o s).2.l.length<=o.wt+8000*s.l.length
 | 0,o,s,_,_,_=>cU _
 | F+1,o,s,hm,hT,e=>by
  have k1:=(zC s 5 ts).len;unfold zaz at e ⊢;split
  · show o.wt+8000*(s.take 5 ts).2.2.l.length<=_;omega
  rename_i hc;rw[aA hc] at e;simp only at e ⊢;have hg:=zaY (by decide) (show (s.take 5 ts).2.1=true by simpa using hc);have t1:TOk (s.take 5 ts).2.2.l:=hT.suf (zC s 5 ts).l;have t2:TOk ((s.take 5 ts).2.2.mode tOn zy).2.2.l:=t1.suf (zaK _ _ _).l;have ep:(part ((s.take 5 ts).2.2.mode tOn zy).2.2).2.b=false:=zS zaR (zS (λq=>zbU q) e);have k2:=(zaK (s.take 5 ts).2.2 tOn zy).len;have k3:=(hs ((s.take 5 ts).2.2.mode tOn zy).2.2).len;have w:=hp _ (by omega) t2 ep;have wm:=aKq t1 (hb.no ep);have z:=aUf (s:=s) (k:=5) (ts:=ts) hT;have h:=rS hb hs hp F _ _ (by show (part _).2.l.length<=m;omega) (show TOk (part _).2.node.l from t2.suf (hs _).l) e;have nl:(part ((s.take 5 ts).2.2.mode tOn zy).2.2).2.node.l.length=(part ((s.take 5 ts).2.2.mode tOn zy).2.2).2.l.length:=rfl;have sz0:zac (([]:List MatD).map matP)=0:=rfl;simp only[Nd.wt,wtOf,Nd.wtL,sz0,jE] at h;omega
theorem gT {part:Rd->Nd×Rd} {ts:List ByteArray} (hb:Bad part) (hs:∀ s,Stp 1 s (part s).2) {m:Nat} (hp:WtP m part):WtP m (λs=>s.level part ts):=λs hm hT e=>by
 have ep:(part s).2.b=false:=zS (λq=>zbU q) e;have k3:=(hs s).len;have h:=rS hb hs hp _ _ _ (by omega) (hT.suf (hs s).l) e;have w:=hp s hm hT ep;simp only[Rd.level] at e ⊢;omega
theorem aTd {m:MatD} (h1:m.n.size<=1000) (h2:m.v.size<=1000):(matP m).size<=5010:=by
 have h3:=yW m;have h4:=(zeZ m.v).1;have h5:(zch m.op).size<=2:=by
  unfold zch;split
  · decide
  split
  · decide
  split
  · decide
  split<;>decide
 omega
section
variable (rm:List MatD->Bool)
theorem fZ:∀ (F:Nat) (o:List MatD) (s:Rd),TOk s.l->(zW F o s).2.b=false->zac ((zW F o s).1.map matP)+20*(zW F o s).1.length+8000*(zW F o s).2.l.length<=zac (o.map matP)+20*o.length+8000*s.l.length
 | 0,o,s,_,_=>cU _
 | F+1,o,s,hT,e=>by
  have hb:s.b=false:=zS (λq=>iX q) e;unfold zW at e ⊢;rw[aA (show ¬s.b=true by rw[hb];decide)] at e ⊢;simp only at e ⊢;have hv:(Rd.any ⟨((s.any 1).2.take 5 [tEq,tNe,zab,zz]).2.2.l,((s.any 1).2.take 5 [tEq,tNe,zab,zz]).2.2.n,((s.any 1).2.take 5 [tEq,tNe,zab,zz]).2.2.b||!((s.any 1).2.take 5 [tEq,tNe,zab,zz]).2.1⟩ 3).2.b=false:=by
   split at e
   · rename_i hq;exact(zaY (by decide) hq).2.2.1
   rw[zeH] at e;exact e
  have hc:(((s.any 1).2.take 5 [tEq,tNe,zab,zz]).2.2.b||!((s.any 1).2.take 5 [tEq,tNe,zab,zz]).2.1)=false:=zS (λq=>zbZ (s:=⟨_,_,_⟩) q) hv;have ha:(s.any 1).2.b=false:=by
   have:=(dK.1 hc).1;rw[zeH] at this;exact this
  have l1:=zcz (s:=s) (by decide) ha;have l2:=(zC (s.any 1).2 5 [tEq,tNe,zab,zz]).len;have t1:TOk (s.any 1).2.l:=hT.suf (zav s 1).l;have t2:TOk ((s.any 1).2.take 5 [tEq,tNe,zab,zz]).2.2.l:=t1.suf (zC _ 5 _).l;obtain ⟨u,hu⟩:∃ u:Rd,u=⟨((s.any 1).2.take 5 [tEq,tNe,zab,zz]).2.2.l,((s.any 1).2.take 5 [tEq,tNe,zab,zz]).2.2.n,((s.any 1).2.take 5 [tEq,tNe,zab,zz]).2.2.b||!((s.any 1).2.take 5 [tEq,tNe,zab,zz]).2.1⟩:=⟨_,rfl⟩;have hul:u.l.length=((s.any 1).2.take 5 [tEq,tNe,zab,zz]).2.2.l.length:=by rw[hu]
  have tu:TOk u.l:=by rw[hu];exact t2
  rw[<-hu] at e hv ⊢;have l3:=zcz (s:=u) (by decide) hv;have z1:=zgc (s:=s) (k:=1) hT;have z2:=zgc (s:=u) (k:=3) tu;have t3:TOk (u.any 3).2.l:=tu.suf (zav u 3).l;have l4:=(zC (u.any 3).2 5 [zu]).len;have mz:=aTd (m:=⟨(s.any 1).1,opM ((s.any 1).2.take 5 [tEq,tNe,zab,zz]).1,(u.any 3).1⟩) z1 z2;split
  · rename_i hq;rw[aB hq] at e;have h:=fZ F _ _ (t3.suf (zC _ 5 _).l) e;rw[uH,jS,wD,eT,c7,cT] at h;omega
  simp only[uH,jS,wD,eT,c7,cT];omega
theorem aLn {s:Rd} (hT:TOk s.l) (e:(s.braces rm).2.b=false):zac ((s.braces rm).1.map matP)+20*(s.braces rm).1.length+8000*(s.braces rm).2.l.length<=8000*s.l.length:=by
 have l1:=(zr s zH).len;have z:zac (([]:List MatD).map matP)=0:=rfl;unfold Rd.braces at e ⊢;split
 · have l2:=(zr (s.must zH) zA).len;show 0+20*0+8000*((s.must zH).must zA).l.length<=_;omega
 rename_i hc;rw[aA hc] at e;have e':(((zW _ [] (s.must zH)).2.must zA).b||_)=false:=e;have h:=fZ ((s.must zH).l.length+1) [] _ (hT.suf (zr s zH).l) (zS z7 (dK.1 e').1);have l2:=(zr (zW ((s.must zH).l.length+1) [] (s.must zH)).2 zA).len;simp only[jE,z] at h ⊢;omega
theorem aZh {s:Rd} (hT:TOk s.l) (hl:s.l≠[]) (e:(s.selector rm).2.b=false):(s.selector rm).1.wt+8000*(s.selector rm).2.l.length<=8000*s.l.length:=by
 have z0:zac ([]:List ByteArray)=0:=rfl;have z1:zac (([]:List MatD).map matP)=0:=rfl;unfold Rd.selector at e ⊢;simp only at e ⊢;have e3:=zS zaR e;have e2:=zS zeX e3;have e1:s.selName.2.b=false:=zS (λq=>aKm rm q) e2;have hn:s.selName.1.size<=1000/\TOk s.selName.2.l/\(s.selName.2.l.length+1=s.l.length\/s.selName=(ByteArray.empty,s)):=by
  unfold Rd.selName at e1 ⊢;split
  · rename_i hc;rw[aB hc] at e1;exact⟨zgc hT,hT.suf (zav s 1).l,.inl (zcz (by decide) e1)⟩
  exact⟨cX _,hT,.inr O⟩
 have hm:zac ((s.selName.2.selMs rm s.selName.1).1.map matP)+20*(s.selName.2.selMs rm s.selName.1).1.length+8000*(s.selName.2.selMs rm s.selName.1).2.l.length<=8000*s.selName.2.l.length/\(s.selName=(ByteArray.empty,s)->(s.selName.2.selMs rm s.selName.1).2.l.length+1<=s.l.length/\zac ((s.selName.2.selMs rm s.selName.1).1.map matP)+20*(s.selName.2.selMs rm s.selName.1).1.length+8000*(s.selName.2.selMs rm s.selName.1).2.l.length+8000<=8000*s.l.length):=by
  unfold Rd.selMs at e2 ⊢;split
  · rename_i hc;rw[aB hc] at e2;have hw:=aLn rm hn.2.1 e2;refine⟨hw,λk=>?_⟩;rw[k] at hc e2 hw ⊢;simp only at hc e2 hw ⊢;have h1:(s.must zH).b=false:=by
     unfold Rd.braces at e2;split at e2
     · exact zS z7 e2
     have e':(((zW _ [] (s.must zH)).2.must zA).b||_)=false:=e2;exact zS (λq=>iX q) (zS z7 (dK.1 e').1)
    have l1:=zc3 h1;have hT':TOk (s.must zH).l:=hT.suf (zr s zH).l;unfold Rd.braces at e2 ⊢;split
    · have l2:=(zr (s.must zH) zA).len;refine⟨by show ((s.must zH).must zA).l.length+1<=_;omega,?_⟩;show 0+20*0+8000*((s.must zH).must zA).l.length+8000<=_;omega
    rename_i hd;rw[aA hd] at e2;have e':(((zW _ [] (s.must zH)).2.must zA).b||_)=false:=e2;have h:=fZ ((s.must zH).l.length+1) [] _ hT' (zS z7 (dK.1 e').1);have l2:=(zr (zW ((s.must zH).l.length+1) [] (s.must zH)).2 zA).len;have l3:=(fE ((s.must zH).l.length+1) [] (s.must zH)).len;simp only[jE,z1] at h ⊢;exact⟨by omega,by omega⟩
  rename_i hc;rw[aA hc] at e2;refine⟨by show 0+20*0+8000*s.selName.2.l.length<=_;omega,λk=>?_⟩;rw[k] at e2;simp only at e2;simp at e2
 have hw:=(show (s.selName.2.selMs rm s.selName.1).2.selWin.2.l.length<=(s.selName.2.selMs rm s.selName.1).2.l.length by
  unfold Rd.selWin;split
  · exact dY (zr _ tSqE).len (dY (zaB _ 4).len (zC _ 5 _).len)
  exact(zC _ 5 _).len)
 have nl:(s.selName.2.selMs rm s.selName.1).2.selWin.2.node.l.length=(s.selName.2.selMs rm s.selName.1).2.selWin.2.l.length:=rfl;simp only[Nd.wt,wtOf,Nd.wtL,z0,jE];rcases hn.2.2 with k | k
 · have:=hm.1;have:=hn.1;omega
 have:=(hm.2 k).2;have z:s.selName.1.size=0:=by rw[k];rfl
 omega
theorem aUj {ex:Rd->Nd×Rd} (hb:Bad ex) {m:Nat} (hx:∀ a,a<m->WtP a ex):∀ s:Rd,s.l.length<=m->TOk s.l->(s.aggr ex).2.b=false->(s.aggr ex).1.wt+8000*(s.aggr ex).2.l.length<=8000*s.l.length:=λs hl hT e=>by
 have z1:zac (([]:List MatD).map matP)=0:=rfl;unfold Rd.aggr at e ⊢;simp only at e ⊢;have e6:=zS z7 (zS zaR e);have e5:=hb.no e6;have e3:((s.any 1).2.mode tBy zm |>.2.2.must zl).b=false:=by
  by_cases hn:zU (s.any 1).1=true
  · rw[aB hn,aB hn] at e5;exact zS zbZ (zS z7 e5)
  rw[aA hn,aA hn] at e5;exact e5
 have e2:=zS z7 e3;have e1:(s.any 1).2.b=false:=zS aCb e2;have l1:=zcz (s:=s) (by decide) e1;have l3:=(zr ((s.any 1).2.mode tBy zm).2.2 zl).len;have l4:=(zaB (((s.any 1).2.mode tBy zm).2.2.must zl) 2).len;have l5:=(zr ((((s.any 1).2.mode tBy zm).2.2.must zl).number 2).2 zu).len;have l6:=(zaK (s.any 1).2 tBy zm).len;have t1:TOk (s.any 1).2.l:=hT.suf (zav s 1).l;have t2:TOk ((s.any 1).2.mode tBy zm).2.2.l:=t1.suf (zaK _ _ _).l;have t3:TOk (((s.any 1).2.mode tBy zm).2.2.must zl).l:=t2.suf (zr _ _).l;have wm:=aKq t1 e2;have zs:=zgc (s:=s) (k:=1) hT;by_cases hn:zU (s.any 1).1=true
 · simp only[aB hn] at e6 ⊢;have t4:TOk ((((s.any 1).2.mode tBy zm).2.2.must zl).number 2).2.l:=t3.suf (zaB _ 2).l;have w:=hx _ (by omega) _ (cU _) (t4.suf (zr _ zu).l) e6;have l7:=(zr (ex (((((s.any 1).2.mode tBy zm).2.2.must zl).number 2).2.must zu)).2 zx).len;have nl:((ex (((((s.any 1).2.mode tBy zm).2.2.must zl).number 2).2.must zu)).2.must zx).node.l.length=((ex (((((s.any 1).2.mode tBy zm).2.2.must zl).number 2).2.must zu)).2.must zx).l.length:=rfl;simp only[Nd.wt,wtOf,Nd.wtL,z1,jE];omega
 simp only[aA hn] at e6 ⊢;have w:=hx _ (by omega) _ (cU _) t3 e6;have l7:=(zr (ex (((s.any 1).2.mode tBy zm).2.2.must zl)).2 zx).len;have nl:((ex (((s.any 1).2.mode tBy zm).2.2.must zl)).2.must zx).node.l.length=((ex (((s.any 1).2.mode tBy zm).2.2.must zl)).2.must zx).l.length:=rfl;simp only[Nd.wt,wtOf,Nd.wtL,z1,jE];omega
theorem aS4 {ex:Rd->Nd×Rd} (hb:Bad ex) {m:Nat} (hx:∀ a,a<m->WtP a ex):WtP m (λs=>s.prim rm ex):=λs hl hT e=>by
 have z0:zac ([]:List ByteArray)=0:=rfl;have z1:zac (([]:List MatD).map matP)=0:=rfl;have z2:(ByteArray.empty).size=0:=rfl;have h0:s.b=false:=(zgm rm ex).no e;have hn:¬s.b=true:=by rw[h0];decide
 have hne:s.l≠[]:=by
  intro hl;simp only[Rd.prim] at e;have hp:s.pk=zbm:=pk_0 (by rw[hl];rfl);rw[aA hn,aA (by rw[hp];decide),aA (by rw[zee hl (by decide)];decide),aA (by rw[hp];rintro ⟨a,_⟩;exact aH a (by decide)),aA (by rw[hp];rintro ⟨a,_⟩;exact aH a (by decide)),xW rm hl] at e;cases e
 simp only[Rd.prim] at e ⊢;rw[aA hn] at e ⊢;split
 · rename_i hc;rw[aB hc] at e;have e1:(s.any 2).2.b=false:=zS zaR e;have l1:=zcz (s:=s) (by decide) e1;have nl:(s.number 2).2.node.l.length=(s.any 2).2.l.length:=rfl;simp only[Nd.wt,wtOf,Nd.wtL,z0,z1,z2,jE];omega
 rename_i hc;rw[aA hc] at e;split
 · rename_i hd;rw[aB hd] at e;have e1:=zS z7 e;have l1:=zc3 (hb.no e1);have w:=hx _ (by omega) _ (cU _) (hT.suf (zr s zl).l) e1;have l2:=(zr (ex (s.must zl)).2 zx).len;show (ex (s.must zl)).1.wt+8000*((ex (s.must zl)).2.must zx).l.length<=_;omega
 rename_i hd;rw[aA hd] at e;split
 · rename_i hf;rw[aB hf] at e;exact aUj hb hx s hl hT e
 rename_i hf;rw[aA hf] at e;split
 · rename_i hg;rw[aB hg] at e;simp only at e ⊢;have e1:=zS zaR (zS z7 e);have e2:=hb.no e1;have l0:=zcz (s:=s) (by decide) (zS z7 e2);have l1:=zc3 e2;have w:=hx _ (by omega) _ (cU _) ((hT.suf (zav s 1).l).suf (zr _ zl).l) e1;have l2:=(zr (ex ((s.any 1).2.must zl)).2.node zx).len;have nl:(ex ((s.any 1).2.must zl)).2.node.l.length=(ex ((s.any 1).2.must zl)).2.l.length:=rfl;have zs:=zgc (s:=s) (k:=1) hT;simp only[Nd.wt,wtOf,Nd.wtL,z0,z1,jE];omega
 rename_i hg;rw[aA hg] at e;exact aZh rm hT hne e
theorem sU {ex:Rd->Nd×Rd} {m:Nat} (hp:WtP m (λs=>s.prim rm ex)):∀ (F:Nat) (s:Rd),s.l.length<F->s.l.length<=m->TOk s.l->(zaf rm ex F s).2.b=false->(zaf rm ex F s).1.wt+8000*(zaf rm ex F s).2.l.length<=8000*s.l.length
 | 0,s,h,_,_,_=>aH h (jH _)
 | F+1,s,hF,hm,hT,e=>by
  have z0:zac ([]:List ByteArray)=0:=rfl;have z1:zac (([]:List MatD).map matP)=0:=rfl;have z2:(ByteArray.empty).size=0:=rfl;unfold zaf at e ⊢;have k1:=(zC s 5 [z6]).len;have t1:TOk (s.take 5 [z6]).2.2.l:=hT.suf (zC s 5 [z6]).l;split
  · rename_i hc;rw[aB hc] at e;simp only at e ⊢;have hg:=zaY (by decide) hc;have w:=sU hp F _ (by omega) (by omega) t1 (zS zaR e);have nl:(zaf rm ex F (s.take 5 [z6]).2.2).2.node.l.length=(zaf rm ex F (s.take 5 [z6]).2.2).2.l.length:=rfl;simp only[Nd.wt,wtOf,Nd.wtL,z0,z1,z2,jE];omega
  rename_i hc;rw[aA hc] at e;have w:=hp _ (by omega) t1 e;simp only at w ⊢;omega
theorem aS0 {ex:Rd->Nd×Rd} (hb:Bad ex) (hs:∀ s,Stp 1 s (ex s).2) {m:Nat} (hx:∀ a,a<m->WtP a ex):WtP m (zcY rm ex):=
 gT (λs h=>zei rm ex _ s h) (λs=>zb1 rm hs _ s) (λs hm hT e=>sU rm (aS4 rm hb hx) _ s (jB _) hm hT e)
theorem aSl {ex:Rd->Nd×Rd} (hb:Bad ex) (hs:∀ s,Stp 1 s (ex s).2) {m:Nat} (hx:∀ a,a<m->WtP a ex):WtP m (sumP rm ex):=
 gT (zf2 rm ex) (λs=>zde rm hs s) (aS0 rm hb hs hx)
theorem aK3:∀ f:Nat,WtP f (zas rm (f+1))
 | 0=>gT (zeW rm _) (λs=>zb5 rm (zap rm _) s) (aSl rm (zef rm _) (zap rm _) (λa ha=>aH ha (jH _)))
 | f+1=>gT (zeW rm _) (λs=>zb5 rm (zap rm _) s) (aSl rm (zef rm _) (zap rm _) (λa ha s hl hT e=>aK3 f s (by omega) hT e))
end
theorem qP {s:ByteArray} (h:zbf s=0):(zag s).root.wt<=10000000:=by
 obtain ⟨h1,h2⟩:=zfJ h;obtain ⟨h3,h4,_⟩:=eQ rmD h2;have w:=aK3 rmD (lexL s).length ⟨lexL s,0,false⟩ (cU _) (ze7 s) h4;rw[h3] at w;have hl:=oZ s;have hz:=(ze8 h1).1;simp only at w;omega
theorem tH {s:Rd} {w:ByteArray} (e:(s.bound w).2.b=false): -1<=(s.bound w).1/\(s.bound w).1<=2000:=by
 unfold Rd.bound at e ⊢;split
 · show (-1:Int)<= -1/\(-1:Int)<=2000;decide
 rename_i hc;rw[aA hc] at e;have e:(_||decide (2000<((s.take 1 [w]).2.2.number 2).1))=false:=e;have h:=aC (dK.1 e).2;have h2:(0:Int)<=((s.take 1 [w]).2.2.number 2).1:=by unfold Rd.number numV;simp only;omega
 show -1<=((s.take 1 [w]).2.2.number 2).1/\((s.take 1 [w]).2.2.number 2).1<=2000;omega
theorem aWt (s:Rd):s.order.1=0\/s.order.1=1\/s.order.1=2:=by
 unfold Rd.order;simp only;split
 · exact .inl O
 split
 · exact .inr (.inr O)
 exact .inr (.inl O)
theorem aFz (rm:List MatD->Bool) {l:List TokD} {q:QryD} (h:zbN rm l=some q):(q.order=0\/q.order=1\/q.order=2)/\(-1<=q.limit/\q.limit<=2000)/\(-1<=q.offset/\q.offset<=2000):=by
 unfold zbN at h;simp only at h;split at h
 · cases h
 rename_i hc;injection h with h;have hb:(((zas rm (l.length+1) ⟨l,0,false⟩).2.order.2.bound zar).2.bound z8).2.b=false:=by
  cases e:(((zas rm (l.length+1) ⟨l,0,false⟩).2.order.2.bound zar).2.bound z8).2.b with
  | false=>rfl
  | true=>exact aH (.inl e) hc
 subst h;exact⟨aWt _,tH (zS (λq=>zdH q) hb),tH hb⟩
theorem oN {s:ByteArray} (h:zbf s=0):((zag s).order=0\/(zag s).order=1\/(zag s).order=2)/\(-1<=(zag s).limit/\(zag s).limit<=2000)/\(-1<=(zag s).offset/\(zag s).offset<=2000):=aFz rmD (zfJ h).2
end Lp
set_option linter.unusedSimpArgs false
set_option maxHeartbeats 4000000
set_option maxRecDepth 100000
namespace Lp
open Go Go.RowKit Go.Proofs Tryz
theorem aLs {s:ByteArray} (h:zbf s=0) {op text:ByteArray} {n mode:Int} {names:List ByteArray} {ms:List MatD} {kids:List Nd} {o a b:Int} (e:(⟨Nd.mk op text n mode names ms kids,o,a,b⟩:QryD)=zag s):CD prog 32 [HPow] [.agg [.s op,.s text,dI n,dI mode,.sh 1 (names.map D.s),.sh 3 (ms.map MatD.d),.sh 7 (Nd.ds kids),dI o,dI a,dI b]] (PrT (zag s).pr):=by
 have h1:=pJ h;have h2:=qP h;have h3:=oN h;have h4:=aQ0 h1 h2;have h5:=zeO h1;rw[<-e] at h2 h3 h4 h5 ⊢;exact aT8 op text n mode names ms kids o a b _ (by simp only at*;omega) (by simp only at*;omega) (by simp only at*;omega) h4
end Lp
