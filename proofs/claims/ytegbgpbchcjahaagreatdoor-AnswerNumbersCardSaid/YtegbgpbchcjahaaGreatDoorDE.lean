import Derived.Test.YtegbgpbchcjahaaGreatDoorDC
set_option linter.all false
namespace Lp
open Go Go.RowKit
def oI {α:Type} {l:List α} {i:Nat} {y z:α} (h:z∈l.set i y):z=y\/∃ j,j≠i/\l[j]?=some z:=by
 rw[wN] at h;obtain ⟨j,hj⟩:=h;rw[List.getElem?_set] at hj;split at hj
 · split at hj
   · cases hj;exact .inl rfl
   cases hj
 rename_i hne;exact .inr ⟨j,λe=>hne e.symm,hj⟩
def iH {α:Type} {R:α->α->Prop} (hs:∀ a b,R a b->R b a) {l:List α} (h:l.Pairwise R) {i j:Nat} {x y:α} (hi:l[i]?=some x) (hj:l[j]?=some y) (hne:i≠j):R x y:=by
 obtain ⟨h1,e1⟩:=cQ.1 hi;obtain ⟨h2,e2⟩:=cQ.1 hj;rcases cZ i j with hlt | hge
 · have:=(jF.1 h) i j h1 h2 hlt;rw[e1,e2] at this;exact this
 have:=(jF.1 h) j i h2 h1 (by omega);rw[e1,e2] at this;exact hs _ _ this
def zd9.symm {a b:Hp} (h:zd9 a b):zd9 b a:=λg hg hg'=>h g hg' hg
def Good.turn {C:Ctx} {H:List Hp} {w w':World} {F:Nat->Prop} {i:Nat} {h h':Hp} (g:Good C H w F) (hi:nth H i=some h)
 (hupd:∀ b,b<w.heap.size->¬h.blk b->w'.heap[b]?=w.heap[b]?) (hsz:w.heap.size<=w'.heap.size) (hos:w'.os=w.os) (htp:w'.tape=w.tape) (hout:w'.output=w.output) (hdr:Dr w w')
 (hb:∀ b,h'.blk b->h.blk b\/w.heap.size<=b) (ok:Keep w F w' F->h'.ok w' F):Good C (H.set i h') w' F/\Keep w F w' F:=by
 have hmem:=zU hi;have hi':H[i]?=some h:=by rw[<-zaH];exact hi
 have hk:Keep w F w' F:=⟨λ_ h=>h,λb hF hlt=>hupd b hlt (λe=>(g.h.mine b ⟨h,hmem,e⟩).2 hF)⟩;have hlt':i<H.length:=(cQ.1 hi').1;refine⟨⟨jM g.size hsz,hos.trans g.os,htp.trans g.tape,hout.trans g.output,Dr.trans g.drawn hdr,λb hb1 hn=>?_,g.fsub,g.fnew,λb hF=>uF (g.flt b hF) hsz,?_,?_,?_⟩,hk⟩
 · rw[hupd b (uF hb1 g.size) (λe=>?_)]
   · exact g.frame b hb1 hn
   rcases (g.h.mine b ⟨h,hmem,e⟩).1 with h1 | h1
   · omega
   exact hn h1
 · rw[jF];intro a c ha hc hac;rw[uN] at ha hc;have hold:=(jF.1 g.h.apart) a c ha hc hac;have key:∀ (x:Hp),(∃ j:Nat,j≠i/\H[j]?=some x)->zd9 h' x:=by
    rintro x ⟨j,hj,hx⟩ b hb1 hb2;rcases hb b hb1 with hb3 | hb3
    · exact iH (λ_ _=>zd9.symm) g.h.apart hi' hx (λe=>hj e.symm) b hb3 hb2
    have:=Hp.lt (g.h.ok x (dA hx)) hb2;omega
   simp only[List.getElem_set];by_cases e1:i=a
   · rw[aB e1,aA (by omega)];exact key _ ⟨c,by omega,dL hc⟩
   rw[aA e1];by_cases e2:i=c
   · rw[aB e2];exact zd9.symm (key _ ⟨a,by omega,dL ha⟩)
   rw[aA e2];exact hold
 · intro x hx;rcases oI hx with rfl | ⟨j,hj,hx⟩
   · exact ok hk
   refine Hp.keep (g.h.ok x (dA hx)) hk (λb hb1=>hupd b (Hp.lt (g.h.ok x (dA hx)) hb1) (λe=>?_));exact iH (λ_ _=>zd9.symm) g.h.apart hi' hx (λe=>hj e.symm) b e hb1
 rintro b ⟨x,hx,hb1⟩;rcases oI hx with rfl | ⟨j,hj,hx⟩
 · rcases hb b hb1 with hb2 | hb2
   · exact g.h.mine b ⟨h,hmem,hb2⟩
   exact⟨.inl (jM g.size hb2),λhF=>by have:=g.flt b hF;omega⟩
 exact g.h.mine b ⟨x,dA hx,hb1⟩
def Good.more {C:Ctx} {H:List Hp} {w:World} {F:Nat->Prop} {h:Hp} (g:Good C H w F) (ok:h.ok w F) (hb:∀ b,h.blk b->C.w0.heap.size<=b/\¬F b/\¬blks H b):Good C (h::H) w F:=
 { g with h:=⟨dG.2 ⟨λx hx b e e'=>(hb b e).2.2 ⟨x,hx,e'⟩,g.h.apart⟩,λx hx=>by
  cases hx with
  | head=>exact ok
  | tail _ hm=>exact g.h.ok x hm,
  λb ⟨x,hx,e⟩=>by
   cases hx with
   | head=>exact⟨.inl (hb b e).1,(hb b e).2.1⟩
   | tail _ hm=>exact g.h.mine b ⟨x,hm,e⟩⟩ }
def zf1 {w:World} {F A:Nat->Prop} {H:List Hp} (h:HOk w F A H) {b:Nat} (hb:blks H b):b<w.heap.size:=by
 obtain ⟨x,hx,e⟩:=hb;exact Hp.lt (h.ok x hx) e
def Good.born {C:Ctx} {H:List Hp} {w w':World} {F:Nat->Prop} {g:Nat} {T:TypeId} {cs:List Value} {h:Hp} (gd:Good C H w F) (n:New w w' g T cs) (ok:h.ok w' F) (hb:∀ b,h.blk b->b=g):Good C (h::H) w' F:=by
 refine(gd.ext n.ext).more ok (λb e=>?_);have:=hb b e;subst this;have hn:=n.num;have hs:=gd.size;exact⟨by omega,λhF=>by have:=gd.flt _ hF;omega,λhB=>by have:=zf1 gd.h hB;omega⟩
section
variable {P:Program} {ty:TypeId} {K:Kd} {H:List Hp}
def aU5 {t:TypeId} {x:Operand} {X:D} (hx:opD K x=some X) (hc:CellD H X):Ef P (.box t x) ty K H (λd H'=>∃ g,d=.v (.pointer (some ⟨g,0,none⟩))/\H'=.bx g t X::H):=
 ⟨λC ρ w F hk gd=>a0e (zo ρ [x]) (opv1 ρ rfl) λg w' n=>by
  have hr:=hk.op hx;have h1:=hc.out w F _ gd.h.ok hr;refine⟨F,_,_,⟨g,rfl,rfl⟩,rfl,gd.born n ⟨_,D.keep (Keep.ext n.ext) _ _ hr,h1,?_⟩ (λb e=>by cases e;rfl),Keep.ext n.ext⟩;have:=n.box;unfold Box at this;simpa using this⟩
def aB9 {t:TypeId} {zv:Value} {X:D} (hz:∀ w,(zeroValue t).run P w=.ok zv w) (h1:zcv zv.cells.toList) (hX:Cv (.v zv) X):Ef P (.alloc t) ty K H (λd H'=>∃ g,d=.v (.pointer (some ⟨g,0,none⟩))/\H'=.bx g t X::H):=
 ⟨λC ρ w F hk gd=>aTi hz λg w' n=>by
  refine⟨F,_,_,⟨g,rfl,rfl⟩,rfl,gd.born n ⟨zv,hX.out _ _ _ rfl,h1.all,?_⟩ (λb e=>by cases e;rfl),Keep.ext n.ext⟩;have:=n.box;unfold Box at this;simpa using this⟩
def splD (X:D) (o:Nat) (d:D):Option D:=match X,d with
 | .agg cs,d=>some (.agg (zcH cs o d.cells))
 | .v (.agg _),_=>none
 | _,.agg _=>none
 | _,.v (.agg _)=>none
 | _,d=>some d
def aAj {w:World} {F:Nat->Prop} {X d X':D} {o:Nat} {u v:Value} (hX:splD X o d=some X') (hu:D.rep w F X u) (hu1:One u) (hv:D.rep w F d v) (hv1:One v) (ho:o+d.cells.length<=X.cells.length):∃ u',D.rep w F X' u'/\One u'/\vcs u'=spl (vcs u) o (vcs v):=by
 have hcu:=wZ hu hu1;have hcv:=wZ hv hv1;have hlu:=zbl hcu;have hlv:=zbl hcv;have gen:∀ cs,X=.agg cs->X'=.agg (zcH cs o d.cells)->∃ u',D.rep w F X' u'/\One u'/\vcs u'=spl (vcs u) o (vcs v):=by
  rintro cs rfl rfl;have hh:D.repL w F (zcH cs o d.cells) (spl (vcs u) o (vcs v)):=by
   unfold zcH spl;rw[hlv];exact zfa (zfa (zdE o hcu) hcv) (zdF _ hcu)
  exact⟨.agg (spl (vcs u) o (vcs v)).toArray,⟨_,rfl,hh⟩,λc hc=>pX hh c (by simpa [Value.cells] using hc),by simp[vcs,Value.cells]⟩
 have one:X.cells.length=1->d.cells.length=1->X'=d->∃ u',D.rep w F X' u'/\One u'/\vcs u'=spl (vcs u) o (vcs v):=by
  rintro h1 h2 rfl;refine⟨v,hv,hv1,?_⟩;have:o=0:=by omega
  subst this;unfold spl;rw[List.take_zero,dY,dX (by omega),jL]
 cases X with
 | agg cs=>exact gen cs rfl (by simp only[splD,cX] at hX;exact hX.symm)
 | v a=>
  cases a<;>cases d<;>(try (rename_i b;cases b))<;>simp only[splD,cX,reduceCtorEq] at hX<;>exact one rfl rfl hX.symm
 | _=>cases d<;>(try (rename_i b;cases b))<;>simp only[splD,cX,reduceCtorEq] at hX<;>exact one rfl rfl hX.symm
def Upd.only {w w':World} {g:Nat} (U:Upd g (g+1) w w'):∀ b,b<w.heap.size->¬g=b->w'.heap[b]?=w.heap[b]?:=λb hb hn=>U.block b hb (by omega)
def xW {t:TypeId} {x y:Operand} {g o n i:Nat} {T:TypeId} {X X' d:D} (hx:opD K x=some (.v (.pointer (some ⟨g,o,none⟩)))) (hm:nth H i=some (.bx g T X)) (hy:opD K y=some d) (hc:CellD H d)
 (hs:∀ w,(Go.sizeOf t).run P w=.ok n w) (hn:Nat.beq d.cells.length n=true) (ho:Nat.ble (o+n) X.cells.length=true) (hX:splD X o d=some X'):Ef P (.store t x y) ty K H (λr H'=>r=.v undef/\H'=H.set i (.bx g T X')):=
 ⟨λC ρ w F hk gd=>by
  have hn:=dM hn;have ho:=dE ho;have hr:=hk.op hy;have h1:=hc.out w F _ gd.h.ok hr;obtain ⟨u,hu,hu1,hbx⟩:=gd.h.ok _ (zU hm);have hcu:=zbl (wZ hu hu1);have hcv:=zbl (wZ hr h1);obtain ⟨u',e1,e2,e3⟩:=aAj hX hu hu1 hr h1 (by omega);have hsz:(ev ρ y).cells.size=n:=by rw[<-hn,<-hcv];simp[vcs]
  refine aHt (g:=g) (o:=o) (T:=T) (cs:=vcs u) (v:=ev ρ y) (zo ρ [x,y]) (zbn ρ (hk.op hx)) (zbm ρ rfl) (by rw[hsz];exact hs) (by unfold Box;simpa [vcs] using hbx) (by show o+(vcs (ev ρ y)).length<=_;omega)
   (by
    have:∀ l:List Value,(∀ c∈l,c.oneCell'=true)->zcv l:=by
     intro l;induction l with
     | nil=>exact λ_=>trivial
     | cons a r ih=>exact λh=>⟨h a cR,ih λc hc=>h c (cV _ hc)⟩
    exact this _ h1) (λw' b1 b2 b3=>?_)
  have:=gd.turn (h':=.bx g T X') hm (Upd.only b2) b2.size b2.os b2.tape b2.output b2.drawn (λb e=>.inl e) (λk=>⟨u',D.keep k _ _ e1,e2,by
   have b1':Box w' g T (vcs u'):=(by rw[e3];exact b1);unfold Box at b1';simpa [vcs] using b1'⟩)
  exact⟨F,.v undef,_,⟨rfl,rfl⟩,rfl,this.1,this.2⟩⟩
def aSb {us:List Value} {z k o:Nat} {u u':Value} {c:List Value} (hz:∀ x∈us,(vcs x).length=z) (hu:us[k]?=some u) (ho:o+c.length<=z) (hu':vcs u'=spl (vcs u) o c):spl (us.flatMap vcs) (k*z+o) c=spl (us.flatMap vcs) (k*z) (vcs u'):=by
 have hlu:=hz u (dA hu);have hlt:=(cQ.1 hu).1;have hl':(vcs u').length=z:=by rw[hu',zbW _ _ _ (by omega),hlu]
 have hfl:=zcQ hz;have hkz:k*z+z<=us.length*z:=by
  have:(k+1)*z<=us.length*z:=jP z hlt;rw[j9] at this;omega
 apply wD;intro j;rw[zec _ _ _ (by omega),zec _ _ _ (by omega)];by_cases h1:k*z<=j/\j<k*z+z
 · rw[aB (by omega:k*z<=j/\j<k*z+(vcs u').length),hu',zec _ _ _ (by omega)];by_cases h2:k*z+o<=j/\j<k*z+o+c.length
   · rw[aB h2,aB (by omega),show j-(k*z+o)=j-k*z-o by omega]
   rw[aA h2,aA (by omega)];have hjz:j-k*z<(vcs u).length:=(by omega);have:=zdp (cs:=vcs) hz k u hu (j-k*z) (vcs u)[j-k*z] (dL hjz);rw[show k*z+(j-k*z)=j by omega] at this;rw[this,dL hjz]
 rw[aA (by omega),aA (by omega)]
def yW {t:TypeId} {x y:Operand} {v:Value} {z k o n i:Nat} {T:TypeId} {xs:List D} {X X' d:D} (hx:opD K x=some (.v (.pointer (some ⟨bl v,k*z+o,none⟩)))) (hm:nth H i=some (.sl v z T xs)) (hXk:xs[k]?=some X) (hy:opD K y=some d) (hc:CellD H d)
 (hs:∀ w,(Go.sizeOf t).run P w=.ok n w) (hn:Nat.beq d.cells.length n=true) (ho:Nat.ble (o+n) X.cells.length=true) (hX:splD X o d=some X'):Ef P (.store t x y) ty K H (λr H'=>r=.v undef/\H'=H.set i (.sl v z T (xs.set k X'))):=
 ⟨λC ρ w F hk gd=>by
  have hn:=dM hn;have ho:=dE ho;have hr:=hk.op hy;have h1:=hc.out w F _ gd.h.ok hr;obtain ⟨us,hus,hown⟩:=gd.h.ok _ (zU hm);obtain ⟨u,hu0,hu,hu1,huz⟩:=hus.get hXk;have hlt:k<us.length:=(cQ.1 hu0).1;have hcu:=zbl (wZ hu hu1);have hcv:=zbl (wZ hr h1);have huz':(vcs u).length=z:=by simpa [vcs] using huz
  obtain ⟨u',e1,e2,e3⟩:=aAj hX hu hu1 hr h1 (by omega);have hsz:(ev ρ y).cells.size=n:=by rw[<-hn,<-hcv];simp[vcs]
  have hz:=hus.size;obtain ⟨cap,r,ev_,hb,hB,hc1,hc2,hc3⟩:=hown.form (by omega);have hfl:=zcQ hz;have hkz:k*z+z<=us.length*z:=by
   have:(k+1)*z<=us.length*z:=jP z hlt;rw[j9] at this;omega
  have hvl:(vcs (ev ρ y)).length=n:=by rw[<-hn,<-hcv]
  refine aHt (g:=bl v) (o:=k*z+o) (T:=T) (cs:=us.flatMap vcs++r) (v:=ev ρ y) (zo ρ [x,y]) (zbn ρ (hk.op hx)) (zbm ρ rfl) (by rw[hsz];exact hs) hB (by show _+(vcs (ev ρ y)).length<=_;rw[cO,hfl];omega)
   (by
    have:∀ l:List Value,(∀ c∈l,c.oneCell'=true)->zcv l:=by
     intro l;induction l with
     | nil=>exact λ_=>trivial
     | cons a r ih=>exact λh=>⟨h a cR,ih λc hc=>h c (cV _ hc)⟩
    exact this _ h1) (λw' b1 b2 b3=>?_)
  have hl':(vcs u').length=z:=by rw[e3,zbW _ _ _ (by omega),huz']
  have b1':Box w' (bl v) T ((us.set k u').flatMap vcs++r):=by
   have b0:Box w' (bl v) T (spl (us.flatMap vcs++r) (k*z+o) (vcs (ev ρ y))):=b1;rw[aS0 (by rw[hfl];omega),aSb hz hu0 (by omega) e3,aMa hz hl' hlt] at b0;exact b0
  have hz':∀ x∈us.set k u',(vcs x).length=z:=by
   intro x hx;rcases List.mem_or_eq_of_mem_set hx with hx | rfl
   · exact hz x hx
   exact hl'
  have hvb:v.ownBlock=some (bl v):=by rw[ev_];rfl
  have:=gd.turn (h':=.sl v z T (xs.set k X')) hm (λb hb hn=>Upd.only b2 b hb (λe=>hn (by subst e;exact hvb))) b2.size b2.os b2.tape b2.output b2.drawn (λb e=>.inl e) (λkp=>⟨us.set k u',RepE.set k (hus.keep kp) (D.keep kp _ _ e1) e2 (by simpa [vcs] using hl'),?_⟩)
  · exact⟨F,.v undef,_,⟨rfl,rfl⟩,rfl,this.1,this.2⟩
  refine⟨⟨zcQ hz',.inr ⟨bl v,cap,_,by rw[uN];exact ev_,hb,b1',by simpa using hc1,hc2,?_,?_⟩⟩,hz'⟩
  · simp only[List.size_toArray];rw[cO,zcQ hz',uN,<-hfl,<-cO];exact hc3
  rw[uN,<-hfl];simp only;rw[show (us.flatMap vcs).length=((us.set k u').flatMap vcs).length by rw[zcQ hz',uN,hfl],wC]⟩
structure SrcD (H:List Hp) (z:Nat) (d:D) (ys:List D):Prop where
 out:∀ w F u,(∀ b,F b->b<w.heap.size)->(∀ h∈H,h.ok w F)->D.rep w F d u->∃ us,RepE w F z ys us/\SlT vcs z w 0 w.heap.size u us
def SrcD.sh {z:Nat} {ys:List D}:SrcD H z (.sh z ys) ys:=⟨λw F u hF _ hr=>by obtain ⟨us,h1,h2,_⟩:=D.rep_sl hF hr;exact⟨us,h1,h2⟩⟩
def mF {z j:Nat} {v:Value} {d:D} {T:TypeId} {ys:List D} (hm:nth H j=some (.sl v z T ys)) (hd:asO d=some v):SrcD H z d ys:=⟨λw F u hF hH hr=>by
 obtain ⟨us,h1,h2⟩:=hH _ (zU hm);have:u=v:=yM hr hd;subst this;exact⟨us,h1,h2.sl⟩⟩
def mG {z j a b:Nat} {v:Value} {T:TypeId} {ys:List D} (hm:nth H j=some (.sl v z T ys)) (hab:a<=b) (hb:b<=ys.length):SrcD H z (.v (cut z v a b)) ((ys.take b).drop a):=⟨λw F u hF hH hr=>by
 obtain ⟨us,h1,h2⟩:=hH _ (zU hm);have:u=_:=hr;subst this;have hl:=h1.len;exact⟨_,(h1.take b).drop a,h2.sl.cut a b hab (by omega)⟩⟩
def gH {t:TypeId} {x y:Operand} {z bytes i:Nat} {v zv:Value} {T:TypeId} {xs ys:List D} {d:D} (hx:opO K x=some v) (hm:nth H i=some (.sl v z T xs)) (hy:opD K y=some d) (hsrc:SrcD H z d ys) (ht:P.underlying t=some (.slice T))
 (hi':∃ i,P.info? T=some i/\i.zero=some zv/\i.size=z/\i.bytes=bytes) (hzs:zv.cells.size=z) (hsz:Nat.blt 0 z=true) (hlen:xs.length+ys.length<=maxLen) (hbytes:(xs.length+ys.length)*bytes<=140737488355328):
 Ef P (.call { callee:=.builtin .append,args:=#[x,y],argTypes:=#[t,t] }) ty K H (λd H'=>∃ v',d=.ov v'/\H'=H.set i (.sl v' z T (xs++ys))):=
 ⟨λC ρ w F hk gd=>by
  obtain ⟨us,hus,hown⟩:=gd.h.ok _ (zU hm);obtain ⟨vs,hvs,hsl⟩:=hsrc.out w F _ gd.flt gd.h.ok (hk.op hy);have hul:=hus.len;have hvl:=hvs.len;refine aNu (α:=Value) (cs:=vcs) (z:=z) (E:=T) (base:=0) (xs:=us) (ys:=vs) (zo ρ [x,y]) (zbn ρ (hk.opO hx)) (zbm ρ rfl) ht hi' hzs (zaE.1 hsz) hown hsl (λu hu=>?_) (by omega) (by rw[hul,hvl];exact hbytes) (cT _) (λv' w' h1 h2 h3=>?_)
  · have:=hvs.one u hu;have gen:∀ l:List Value,(∀ c∈l,c.oneCell'=true)->zcv l:=by
     intro l;induction l with
     | nil=>exact λ_=>trivial
     | cons a r ih=>exact λh=>⟨h a cR,ih λc hc=>h c (cV _ hc)⟩
    exact gen _ this
  obtain ⟨a,b,U,hU⟩:=h2;have:=gd.turn (h':=.sl v' z T (xs++ys)) hm (λc hc hn=>U.block c hc (by
   rcases hU with ⟨rfl,rfl⟩ | ⟨h4,rfl,_⟩
   · exact .inr (cT _)
   · have:a≠c:=λe=>hn (by subst e;exact h4)
     omega)) U.size U.os U.tape U.output U.drawn (λc e=>by
   rcases h3 with h3 | h3
   · exact .inl (by show v.ownBlock=_;rw[<-h3];exact e)
   have e':v'.ownBlock=some c:=e;rw[h3] at e';cases e';exact .inr (cW _)) (λkp=>⟨us++vs,(hus.keep kp).app (hvs.keep kp),h1⟩)
  exact⟨F,.ov v',_,⟨v',rfl,rfl⟩,⟨rfl,h1.one⟩,this.1,this.2⟩⟩
def mH {w:World} {F:Nat->Prop} (hH:∀ h∈H,h.ok w F) {z:Nat}:∀ {ds:List D} {vs:List Value},CellDs H ds->D.repA w F ds vs->(∀ d∈ds,d.cells.length=z)->RepE w F z ds vs/\zf5 z vs (vs.map vcs)
 | [],_,_,rfl,_=>⟨rfl,trivial⟩
 | x::r,_,.cons hc hcs,⟨u,us,rfl,h1,h2⟩,hz=>by
  have h:=hc.out w F u hH h1;have hl:=zbl (wZ h1 h);have hx:=hz x cR;obtain ⟨e1,e2⟩:=mH hH hcs h2 (λd hd=>hz d (cV _ hd));exact⟨⟨u,us,rfl,h1,h,by
   have:(vcs u).length=z:=(by omega);simpa [vcs] using this,e1⟩,by simp[vcs],by omega,e2⟩
def zgB (z:Nat):List D->Bool
 | []=>true
 | d::r=>Nat.beq d.cells.length z&&zgB z r
def lQ {z:Nat}:∀ {ds:List D},zgB z ds=true->∀ d∈ds,d.cells.length=z
 | [],_,_,h=>by cases h
 | d::r,e,x,h=>by
  simp only[zgB,cU] at e;cases h with
  | head=>exact dM e.1
  | tail _ hm=>exact lQ e.2 x hm
def zw {t e len z:Nat} {ps:Array (Nat×Operand)} {zv:Value} (xs:List Operand) {ds:List D} (hp:ps.toList=(xs.zipIdx 0).map λx=>(x.2,x.1)) (hx:opsD K xs=some ds) (hc:CellDs H ds) (hal:zgB z ds=true)
 (ht:∀ w,(underlying t).run P w=.ok (.slice e) w) (hs:∀ w,(Go.sizeOf e).run P w=.ok z w) (hzv:∀ w,(zeroValue e).run P w=.ok zv w) (hlen:Nat.beq ds.length len=true) (hz:Nat.blt 0 z=true) (hsm:Nat.ble (len*z) 1000=true) (hl0:Nat.blt 0 len=true):
 Ef P (.buildSlice t len ps) ty K H (λd H'=>∃ g,d=.ov (.slice (some ⟨g,0,none⟩) len len)/\H'=.sl (.slice (some ⟨g,0,none⟩) len len) z e ds::H):=
 ⟨λC ρ w F hk gd=>by
  have hr:=zdm hk hx;have hdl:=iI hr;have hlen:=dM hlen;have hsm':=dE hsm;have hlz:len<=1000:=jM (Nat.le_mul_of_pos_right _ (zaE.1 hz)) hsm';obtain ⟨h1,h2⟩:=mH gd.h.ok hc hr (lQ hal);refine sR xs ((xs.map (ev ρ)).map vcs) (zo ρ xs) hp (zeC ρ xs xs (λ_ h=>h)) ht hs hzv (by omega) hz hsm hl0 h2 (λg w' n=>?_);refine⟨F,_,_,⟨g,rfl,rfl⟩,⟨rfl,rfl⟩,gd.born n ⟨xs.map (ev ρ),h1.keep (Keep.ext n.ext),?_⟩ (λb e=>by cases e;rfl),Keep.ext n.ext⟩;have:=Box.own (base:=0) (cs:=vcs) (z:=z) (xs:=xs.map (ev ρ)) n.box (cT _) (by rw[<-List.flatMap_def]) h1.size (by unfold maxLen;omega);rw[show (xs.map (ev ρ)).length=len by omega] at this;exact this⟩
structure ArgC (L:List Hp) (d d':D):Prop where
 out:∀ w F u,(∀ b,F b->b<w.heap.size)->(∀ h∈L,h.ok w F)->D.rep w F d u->D.rep w (λb=>F b\/blks L b) d' u
def mI {w:World} {F:Nat->Prop} (B:Nat->Prop):Keep w F w (λb=>F b\/B b):=⟨λ_ h=>.inl h,λ_ _ _=>rfl⟩
def ArgC.cv {L:List Hp} {d d':D} (h:Cv d d'):ArgC L d d':=⟨λw F u _ _ hr=>D.keep (mI _) _ _ (h.out _ _ _ hr)⟩
def mJ {L:List Hp} {d:D}:ArgC L d d:=ArgC.cv w5
def mK {L:List Hp} {z j:Nat} {v:Value} {T:TypeId} {ys:List D} (hm:nth L j=some (.sl v z T ys)) {d:D} (hd:asO d=some v):ArgC L d (.sh z ys):=⟨λw F u hF hL hr=>by
 obtain ⟨us,h1,h2⟩:=hL _ (zU hm);have:u=v:=yM hr hd;subst this;have hmx:us.length<=maxLen:=by
  rcases h2.1.2 with ⟨_,h0⟩ | ⟨g,cap,cur,_,_,_,h3,h4,_⟩
  · rw[h0];exact cT _
  omega
 exact w4 (h1.keep (mI _)) h2.sl (λ_ g hg=>.inr ⟨_,zU hm,hg⟩) hmx⟩
inductive ArgCs (L:List Hp):List D->List D->Prop
 | nil:ArgCs L [] []
 | cons {d d':D} {r r':List D}:ArgC L d d'->ArgCs L r r'->ArgCs L (d::r) (d'::r')
def ArgCs.repA {L:List Hp} {w:World} {F:Nat->Prop} (hF:∀ b,F b->b<w.heap.size) (hL:∀ h∈L,h.ok w F) {ds ds':List D} (h:ArgCs L ds ds'):∀ {vs:List Value},D.repA w F ds vs->D.repA w (λb=>F b\/blks L b) ds' vs:=by
 induction h with
 | nil=>exact λh=>h
 | cons hd _ ih=>rintro _ ⟨u,us,rfl,h2,h3⟩;exact⟨u,us,rfl,hd.out _ _ _ hF hL h2,ih h3⟩
def ArgCs.repL {L:List Hp} {w:World} {F:Nat->Prop} (hF:∀ b,F b->b<w.heap.size) (hL:∀ h∈L,h.ok w F) {ds ds':List D} (h:ArgCs L ds ds'):∀ {vs:List Value},D.repL w F ds vs->D.repL w (λb=>F b\/blks L b) ds' vs:=by
 induction h with
 | nil=>exact λh=>h
 | cons hd _ ih=>rintro _ ⟨u,us,rfl,h1,h2,h3⟩;exact⟨u,us,rfl,h1,hd.out _ _ _ hF hL h2,ih h3⟩
def ArgC.agg {L:List Hp} {cs cs':List D} (h:ArgCs L cs cs'):ArgC L (.agg cs) (.agg cs'):=⟨λ_ _ _ hF hL ⟨vs,e,hl⟩=>⟨vs,e,h.repL hF hL hl⟩⟩
def ArgC.tup {L:List Hp} {cs cs':List D} (h:ArgCs L cs cs'):ArgC L (.tup cs) (.tup cs'):=⟨λ_ _ _ hF hL ⟨vs,e,hl⟩=>⟨vs,e,h.repA hF hL hl⟩⟩
def Hp.flat:Hp->Bool
 | .sl _ _ _ xs=>D.flat.flatL xs
 | .bx _ _ x=>x.flat
 | .it _ _ _=>true
 | .tab _ _=>false
 | .mp _ _ xs=>D.flat.flatL xs
 | .slo _ _ _ xs=>D.flat.flatL xs
 | .sl2 _ _ _ _ _ xs=>D.flat.flatL xs
def Hp.flat_ok {w:World} {F F':Nat->Prop} {h:Hp} (hf:h.flat=true) (ok:h.ok w F):h.ok w F':=by
 cases h with
 | sl v z T xs=>obtain ⟨us,h1,h2⟩:=ok;exact⟨us,RepE.flat hf h1,h2⟩
 | bx g T x=>obtain ⟨u,h1,h2⟩:=ok;exact⟨u,wW _ _ hf h1,h2⟩
 | it g s p=>exact ok
 | tab g cs=>exact aH hf (by simp[Hp.flat])
 | mp g ks xs=>obtain ⟨es,c,us,h,h1,h2,h3⟩:=ok;exact⟨es,c,us,h,h1,h2,wY _ _ hf h3⟩
 | slo u z T xs=>obtain ⟨us,h1,h2⟩:=ok;exact⟨us,RepE.flat hf h1,h2⟩
 | sl2 v0 v z T m xs=>obtain ⟨us,h1,h2⟩:=ok;exact⟨us,RepE.flat hf h1,h2⟩
def rF {f:FuncId} {Hp1 Hr L:List Hp} {ds0 ds:List D} {R:D->List Hp->Prop} {C:Ctx} {w:World} {F:Nat->Prop} {vs:List Value} (hcall:CD P f Hp1 ds R) (gd:Good C (Hp1++Hr) w F) (hL:∀ h∈L,h∈Hr) (hr:D.repA w F ds0 vs) (ha:ArgCs L ds0 ds)
 (hfl:L=[]\/∀ d H',R d H'->d.flat=true/\∀ h∈H',h.flat=true):
 Calls P f vs.toArray w (Ret λu w'=>∃ F' d H1,R d H1/\D.rep w' F' d u/\Good C (H1++Hr) w' F'/\Keep w F w' F'):=by
 have hap:=d7.1 gd.h.apart;have hokR:∀ h∈Hr,h.ok w F:=λh hh=>gd.h.ok h (uK _ hh)
 have hokL:∀ h∈L,h.ok w F:=λh hh=>hokR h (hL h hh)
 have hblkL:∀ b,blks L b->blks Hr b:=λb ⟨h,hh,e⟩=>⟨h,hL h hh,e⟩
 have hRlt:∀ b,blks Hr b->b<w.heap.size:=λb ⟨h,hh,e⟩=>Hp.lt (hokR h hh) e
 have hdis:∀ b,blks Hp1 b->¬blks Hr b:=λb ⟨h,hh,e⟩ ⟨h',hh',e'⟩=>hap.2.2 h hh h' hh' b e e'
 have hmine:∀ b,blks Hp1 b->(C.w0.heap.size<=b\/C.Bor b)/\¬F b:=λb ⟨h,hh,e⟩=>gd.h.mine b ⟨h,uG _ hh,e⟩
 have hmineR:∀ b,blks Hr b->(C.w0.heap.size<=b\/C.Bor b)/\¬F b:=λb ⟨h,hh,e⟩=>gd.h.mine b ⟨h,uK _ hh,e⟩
 have hF':∀ b,(F b\/blks L b)->b<w.heap.size:=by
  rintro b (h | h)
  · exact gd.flt b h
  exact hRlt b (hblkL b h)
 have hHOk:HOk w (λb=>F b\/blks L b) (λ_=>True) Hp1:=⟨hap.1,λh hh=>Hp.keep (gd.h.ok h (uG _ hh)) (mI _) (λ_ _=>rfl),λb hb=>⟨trivial,λh=>by
  rcases h with h | h
  · exact(hmine b hb).2 h
  exact hdis b hb (hblkL b h)⟩⟩
 refine(hcall.out w (λb=>F b\/blks L b) vs (ha.repA gd.flt hokL hr) hF' hHOk).mono ?_;rintro e w' ⟨u,rfl,F1,d,H1,hR,hrep,g1⟩;refine⟨u,rfl,?_⟩;have key:∀ F2:Nat->Prop,(∀ b,F2 b->F1 b)->(∀ b,F b->F2 b)->(∀ b,F2 b->¬blks Hr b)->D.rep w' F2 d u->(∀ h∈H1,h.ok w' F2)->∃ F' d H1,R d H1/\D.rep w' F' d u/\Good C (H1++Hr) w' F'/\Keep w F w' F':=by
  intro F2 h21 hF2 hnR hrep2 hok2;have hkeep:Keep w F w' F2:=⟨hF2,λb hb hlt=>g1.frame b hlt (λhB=>(hmine b hB).2 hb)⟩;refine⟨F2,d,H1,hR,hrep2,⟨jM gd.size g1.size,g1.os.trans gd.os,g1.tape.trans gd.tape,g1.output.trans gd.output,Dr.trans gd.drawn g1.drawn,λb hb hn=>?_,λb hb=>hF2 b (gd.fsub b hb),λb hb=>?_,λb hb=>g1.flt b (h21 b hb),?_,?_,?_⟩,hkeep⟩
  · have:¬blks Hp1 b:=λhB=>by
     rcases (hmine b hB).1 with h | h
     · omega
     exact hn h
    exact(g1.frame b (uF hb gd.size) this).trans (gd.frame b hb hn)
  · rcases g1.fnew b (h21 b hb) with h | h | h
    · rcases h with h | h
      · exact gd.fnew b h
      exact aH (hblkL b h) (hnR b hb)
    · exact .inr (.inl (jM gd.size h))
    rcases (hmine b h).1 with h' | h'
    · exact .inr (.inl h')
    exact .inr (.inr h')
  · refine d7.2 ⟨g1.h.apart,hap.2.1,λh hh h' hh' b e e'=>?_⟩;have hlt:=hRlt b ⟨h',hh',e'⟩;rcases (g1.h.mine b ⟨h,hh,e⟩).1 with h1 | h1
    · have h1:w.heap.size<=b:=h1;omega
    exact hdis b h1 ⟨h',hh',e'⟩
  · intro h hh;rcases jO.1 hh with hh | hh
    · exact hok2 h hh
    exact Hp.keep (hokR h hh) hkeep (λb hb=>g1.frame b (hRlt b ⟨h,hh,hb⟩) (λhB=>hdis b hB ⟨h,hh,hb⟩))
  rintro b ⟨h,hh,e⟩;rcases jO.1 hh with hh | hh
  · refine⟨?_,λh2=>(g1.h.mine b ⟨h,hh,e⟩).2 (h21 b h2)⟩;rcases (g1.h.mine b ⟨h,hh,e⟩).1 with h1 | h1
    · exact .inl (jM gd.size h1)
    exact(hmine b h1).1
  exact⟨(hmineR b ⟨h,hh,e⟩).1,λh2=>hnR b h2 ⟨h,hh,e⟩⟩
 have hsub1:∀ b,F b->F1 b:=λb hb=>g1.fsub b (.inl hb)
 rcases hfl with rfl | hfl
 · refine key F1 (λ_ h=>h) hsub1 (λb hb hB=>?_) hrep g1.h.ok;rcases g1.fnew b hb with h | h | h
   · rcases h with h | ⟨_,h,_⟩
     · exact(hmineR b hB).2 h
     cases h
   · have:=hRlt b hB;have h:w.heap.size<=b:=h;omega
   exact hdis b h hB
 obtain ⟨f1,f2⟩:=hfl d H1 hR;refine key (λb=>F1 b/\¬blks Hr b) (λ_ h=>h.1) (λb hb=>⟨hsub1 b hb,λhB=>(hmineR b hB).2 hb⟩) (λ_ h=>h.2) (wW d u f1 hrep) (λh hh=>Hp.flat_ok (f2 h hh) (g1.h.ok h hh))
def zfy {f:FuncId} {args:Array Operand} {ats:Array TypeId} (Hp1 Hr L:List Hp) {ds0 ds:List D} {R:D->List Hp->Prop} (hH:H=Hp1++Hr) (hargs:opsD K args.toList=some ds0) (ha:ArgCs L ds0 ds) (hL:∀ h∈L,h∈Hr)
 (hc:∀ args w,(callFunc f args).run P w=.ok (.enter f args) w) (hcall:CD P f Hp1 ds R) (hfl:L=[]\/∀ d H',R d H'->d.flat=true/\∀ h∈H',h.flat=true):
 Ef P (.call { callee:=.value (.func f),args:=args,argTypes:=ats }) ty K H (λd H'=>∃ H1,R d H1/\H'=H1++Hr):=
 ⟨λC ρ w F hk gd=>by
  subst hH;refine aO2 (zo ρ args.toList) (zeC ρ args.toList args.toList (λ_ h=>h)) hc (rF hcall gd hL (zdm hk hargs) ha hfl) (λu w' ⟨F',d,H1,h1,h2,h3,h4⟩=>⟨F',d,_,⟨H1,h1,rfl⟩,h2,h3,h4⟩)⟩
def oU {w:World} {F:Nat->Prop}:∀ {ds es:List D} {vs us:List Value},D.repA w F ds vs->D.repA w F es us->D.repA w F (ds++es) (vs++us)
 | [],_,_,_,rfl,h=>h
 | _::_,_,_,_,⟨u,r,rfl,h2,h3⟩,h=>⟨u,_,rfl,h2,oU h3 h⟩
def aAv {f:FuncId} {x:Operand} {args:Array Operand} {ats:Array TypeId} (Hp1 Hr L:List Hp) {p q:List D} {ds0 ds:List D} {R:D->List Hp->Prop} (hH:H=Hp1++Hr) (hx:opD K x=some (.fn f p q)) (hargs:opsD K args.toList=some ds0) (ha:ArgCs L (p++ds0++q) ds) (hL:∀ h∈L,h∈Hr)
 (hc:∀ args w,(callFunc f args).run P w=.ok (.enter f args) w) (hcall:CD P f Hp1 ds R) (hfl:L=[]\/∀ d H',R d H'->d.flat=true/\∀ h∈H',h.flat=true):
 Ef P (.call { callee:=.value x,args:=args,argTypes:=ats }) ty K H (λd H'=>∃ H1,R d H1/\H'=H1++Hr):=
 ⟨λC ρ w F hk gd=>by
  subst hH;obtain ⟨us,vs,e,h1,h2⟩:=hk.op hx;have hcc:=rF hcall gd hL (oU (oU h1 (zdm hk hargs)) h2) ha hfl;exact aUm (us:=us++args.toList.map (ev ρ)++vs) (zo ρ (x::args.toList)) (by rw[zfS ρ cR,e]) (zeC ρ (x::args.toList) args.toList (λ_ h=>cV _ h)) (by simp) hc hcc (λu w' ⟨F',d,H1,h1,h2,h3,h4⟩=>⟨F',d,_,⟨H1,h1,rfl⟩,h2,h3,h4⟩)⟩
structure Mv (K:Kd) (H:List Hp) (K':Kd) (H':List Hp):Prop where
 out:∀ C w F ρ,KOk w F ρ K->Good C H w F->∃ F',KOk w F' ρ K'/\Good C H' w F'
def JD.mv {N:Nat} {C:Ctx} {c:Code} {Q:zbB} {K':Kd} {H':List Hp} (m:Mv K H K' H') (h:JD P N C c K' H' Q):JD P N C c K H Q:=⟨λa w F ok hk g=>by
 obtain ⟨F',hk',g'⟩:=m.out C w F _ hk g;exact h.out a w F' ok hk' g'⟩
def OpsD.mv {N i:Nat} {C:Ctx} {ops:List Oper} {Kt:Env->World->(Nat->Prop)->Prop} {K':Kd} {H':List Hp} (m:Mv K H K' H') (h:OpsD P N C ops i K' H' Kt):OpsD P N C ops i K H Kt:=⟨λa w F ok hk g=>by
 obtain ⟨F',hk',g'⟩:=m.out C w F _ hk g;exact h.out a w F' ok hk' g'⟩
def SubL (L:List Hp):Kd->Kd->Prop
 | [],_=>True
 | (t,d')::r,K=>(∃ d,zI K t=some d/\ArgC L d d')/\SubL L r K
def SubL.out {L:List Hp} {w:World} {F:Nat->Prop} (hF:∀ b,F b->b<w.heap.size) (hL:∀ h∈L,h.ok w F) {ρ:Env}:∀ {K' K:Kd},SubL L K' K->KOk w F ρ K->KOk w (λb=>F b\/blks L b) ρ K'
 | [],_,_,_=>λ_ _ h=>by simp[zI] at h
 | (t,d')::r,K,⟨⟨d,h1,h2⟩,hr⟩,hk=>by
  intro s u hu;simp only[zI] at hu;by_cases e:s=t
  · subst e;rw[show Nat.beq s s=true from jT s] at hu;simp only[cond_true,cX] at hu;subst hu;exact h2.out _ _ _ hF hL (hk s d h1)
  rw[zbx e] at hu;simp only[cond_false] at hu;exact SubL.out hF hL hr hk s u hu
inductive HL (L:List Hp):List Hp->List Hp->Prop
 | nil:HL L [] []
 | same {h:Hp} {r r':List Hp}:HL L r r'->HL L (h::r) (h::r')
 | bx {g:Nat} {T:TypeId} {x x':D} {r r':List Hp}:ArgC L x x'->HL L r r'->HL L (.bx g T x::r) (.bx g T x'::r')
 | sl {v:Value} {z:Nat} {T:TypeId} {xs xs':List D} {r r':List Hp}:ArgCs L xs xs'->HL L r r'->HL L (.sl v z T xs::r) (.sl v z T xs'::r')
def ArgCs.repE {L:List Hp} {w:World} {F:Nat->Prop} {z:Nat} (hF:∀ b,F b->b<w.heap.size) (hL:∀ h∈L,h.ok w F) {ds ds':List D} (h:ArgCs L ds ds'):∀ {vs:List Value},RepE w F z ds vs->RepE w (λb=>F b\/blks L b) z ds' vs:=by
 induction h with
 | nil=>exact λh=>h
 | cons hd _ ih=>rintro _ ⟨u,us,rfl,h2,h3,h4,h5⟩;exact⟨u,us,rfl,hd.out _ _ _ hF hL h2,h3,h4,ih h5⟩
def HL.out {L:List Hp} {w:World} {F:Nat->Prop} (hF:∀ b,F b->b<w.heap.size) (hL:∀ h∈L,h.ok w F) {H H':List Hp} (h:HL L H H'):(∀ h∈H,h.ok w F)->∀ h∈H',h.ok w (λb=>F b\/blks L b):=by
 induction h with
 | nil=>intro _ h hh;cases hh
 | same _ ih=>
  intro ho h hh;rcases dD.1 hh with rfl | hm
  · exact Hp.keep (ho _ cR) (mI _) (λ_ _=>rfl)
  exact ih (λx hx=>ho x (cV _ hx)) h hm
 | bx hc _ ih=>
  intro ho h hh;rcases dD.1 hh with rfl | hm
  · obtain ⟨u,h1,h2⟩:=ho _ cR;exact⟨u,hc.out _ _ _ hF hL h1,h2⟩
  exact ih (λx hx=>ho x (cV _ hx)) h hm
 | sl hc _ ih=>
  intro ho h hh;rcases dD.1 hh with rfl | hm
  · obtain ⟨us,h1,h2⟩:=ho _ cR;exact⟨us,hc.repE hF hL h1,h2⟩
  exact ih (λx hx=>ho x (cV _ hx)) h hm
def HL.blk {L:List Hp} {H H':List Hp} (h:HL L H H'):H'.map Hp.blk=H.map Hp.blk:=by
 induction h with
 | nil=>rfl
 | same _ ih=>simp[ih]
 | bx _ _ ih=>simp[ih,Hp.blk]
 | sl _ _ ih=>simp[ih,Hp.blk]
def rM {H H':List Hp} (e:H'.map Hp.blk=H.map Hp.blk) (h:H.Pairwise zd9):H'.Pairwise zd9:=by
 have h1:(H.map Hp.blk).Pairwise (λa b=>∀ g,a g->¬b g):=List.pairwise_map.2 h;rw[<-e,List.pairwise_map] at h1;exact h1
def aT6 {H H':List Hp} (e:H'.map Hp.blk=H.map Hp.blk) {b:Nat} (h:blks H' b):blks H b:=by
 obtain ⟨x,hx,hb⟩:=h;have:x.blk∈H'.map Hp.blk:=vV hx;rw[e] at this;obtain ⟨y,hy,hb'⟩:=uL.1 this;exact⟨y,hy,by rw[hb'];exact hb⟩
def Mv.freeze (L:List Hp) {K':Kd} {H1 H1':List Hp} (hs:SubL L K' K) (hh:HL L H1 H1'):Mv K (L++H1) K' H1':=⟨λC w F ρ hk g=>by
 have hap:=d7.1 g.h.apart;have hokL:∀ h∈L,h.ok w F:=λh hh=>g.h.ok h (uG _ hh)
 refine⟨λb=>F b\/blks L b,hs.out g.flt hokL hk,{ g with fsub:=λb hb=>.inl (g.fsub b hb),fnew:=?_,flt:=?_,h:=⟨rM hh.blk hap.2.1,hh.out g.flt hokL (λh hm=>g.h.ok h (uK _ hm)),λb hb=>?_⟩ }⟩
 · rintro b (h | ⟨x,hx,e⟩)
   · exact g.fnew b h
   exact .inr (g.h.mine b ⟨x,uG _ hx,e⟩).1
 · rintro b (h | ⟨x,hx,e⟩)
   · exact g.flt b h
   exact Hp.lt (hokL x hx) e
 obtain ⟨x,hx,e⟩:=aT6 hh.blk hb;have hm:=g.h.mine b ⟨x,uK _ hx,e⟩;refine⟨hm.1,?_⟩;rintro (h | ⟨y,hy,e'⟩)
 · exact hm.2 h
 exact hap.2.2 y hy x hx b e' e⟩
def Mv.subH {H':List Hp} (hs:HSub H H'):Mv K H K H':=⟨λ_ _ F _ hk g=>⟨F,hk,hs.out _ _ _ g⟩⟩
end
end Lp
