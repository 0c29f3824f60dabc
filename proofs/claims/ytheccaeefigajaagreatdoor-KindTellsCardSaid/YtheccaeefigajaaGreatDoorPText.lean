import Derived.Lib.AppendStr
import Derived.Lib.UnsafeStr
import Derived.Test.YtheccaeefigajaaGreatDoorDF
set_option linter.unusedVariables false
namespace Lp
open Go Go.RowKit
structure ResO (P:Program) (K:Kd) (H:List Hp) (r:ResultVar) (d:D):Prop where
 out:∀ w F ρ,KOk w F ρ K→(∀ h∈H,h.ok w F)→∃ u,D.rep w F d u∧match r with
  | .tmp t=>ρ t=u
  | .cell a t=>∃ b o,ρ a=.pointer (some ⟨b,o,none⟩)∧(loadVar t ⟨b,o,none⟩).run P w=.ok u w
inductive ResOs (P:Program) (K:Kd) (H:List Hp):List ResultVar→List D→Prop
 | nil:ResOs P K H [] []
 | cons {r:ResultVar} {d:D} {rs:List ResultVar} {ds:List D}:ResO P K H r d→ResOs P K H rs ds→ResOs P K H (r::rs) (d::ds)
def zeO:List D→D
 | [d]=>d
 | ds=>.tup ds
section
variable {P:Program} {K:Kd} {H:List Hp}
theorem zl {t:Tmp} {d:D} (h:zax K t=some d):ResO P K H (.tmp t) d:=⟨fun w F ρ hk _=>⟨_,hk t d h,rfl⟩⟩
theorem zx {r:ResultVar} {d d':D} (h:ResO P K H r d) (c:Cv d d'):ResO P K H r d':=⟨fun w F ρ hk hH=>by obtain ⟨u,h1,h2⟩:=h.out w F ρ hk hH;exact⟨u,c.out _ _ _ h1,h2⟩⟩
theorem zU {a:Tmp} {t:TypeId} {g o n i:Nat} {T:TypeId} {X d:D} (hx:zax K a=some (.v (.pointer (some ⟨g,o,none⟩)))) (hm:nth H i=some (.bx g T X)) (hg:∀ w,(isAgg t).run P w=.ok true w) (hs:∀ w,(Go.sizeOf t).run P w=.ok n w) (hn:Nat.ble (o+n) X.cells.length=true) (hd:partD X o n=d):ResO P K H (.cell a t) d:=⟨fun w F ρ hk hH=>by
 obtain ⟨u,hr,h1,hat⟩:=bx_at (hH _ (zaj hm))
 have hl:=D.rep_cells hr h1
 have hlen:=za9 hl
 have hn:=Nat.le_of_ble_eq_true hn
 have hat':=hat.sub o n
 rw[Nat.zero_add] at hat'
 have hn':(((vcs u).drop o).take n).length=n:=by simp only[List.length_take,List.length_drop,hlen];omega
 subst hd
 exact⟨_,⟨_,rfl,zdg n (zdh o hl)⟩,g,o,hk a _ hx,run_loadVar_agg hg (by rw[hn'];exact hs) hat'⟩⟩
theorem results_data {w:World} {F:Nat→Prop} {ρ:Env} (hk:KOk w F ρ K) (hH:∀ h∈H,h.ok w F) (tmps:Array Value) (ht:∀ t,tmps.getD t undef=ρ t) (f:ResultVar→Sem Value) (f1:∀ t,f (.tmp t)=pure (tmps.getD t undef))
 (f2:∀ a t,f (.cell a t)=(asAddr (tmps.getD a undef) >>=fun x=>loadVar t x)) {rs:List ResultVar} {ds:List D} (h:ResOs P K H rs ds):∃ vs,(rs.mapM f).run P w=.ok vs w∧D.repA w F ds vs:=by
 induction h with
 | nil=>exact⟨[],by simp,rfl⟩
 | cons hd _ ih=>
  obtain ⟨vs,e1,e2⟩:=ih
  obtain ⟨u,hu,hm⟩:=hd.out w F ρ hk hH
  rename_i r d rs ds _
  refine⟨u::vs,?_,u,vs,rfl,hu,e2⟩
  rw[List.mapM_cons]
  cases r with
  | tmp t=>
   rw[f1]
   have:tmps.getD t undef=u:=by rw[ht];exact hm
   simp only[Array.getD_eq_getD_getElem?] at this
   simp[e1,this]
  | cell a t=>
   rw[f2]
   obtain ⟨b,o,h1,h2⟩:=hm
   have:tmps.getD a undef=.pointer (some ⟨b,o,none⟩):=by rw[ht];exact h1
   simp only[Array.getD_eq_getD_getElem?] at this
   simp[e1,this,asAddr,h2]
theorem results_packD {fn:Func} {rs:List ResultVar} {ds:List D} {w:World} {F:Nat→Prop} {ρ:Env} (hr:fn.results=rs.toArray) (h:ResOs P K H rs ds) (hk:KOk w F ρ K) (hH:∀ h∈H,h.ok w F) (tmps:Array Value) (ht:∀ t,tmps.getD t undef=ρ t):∃ v,(results fn tmps).run P w=.ok v w∧D.rep w F (zeO ds) v:=by
 have key:∃ vs,(results fn tmps).run P w=.ok (packed vs) w∧D.repA w F ds vs:=by
  unfold results
  rw[hr,List.mapM_toArray]
  simp only[Sem.run_bind,Sem.run_map,Sem.run_pure]
  generalize hf:(fun x:ResultVar=>(match x with
   | .tmp t=>pure (tmps.getD t undef)
   | .cell a t=>do loadVar t (←asAddr (tmps.getD a undef)):Sem Value))=f
  obtain ⟨vs,e1,e2⟩:=results_data (P:=P) hk hH tmps ht f (fun _=>by rw[←hf]) (fun _ _=>by rw[←hf]) h
  refine⟨vs,?_,e2⟩
  rw[e1]
  simp only[Result.andThen_ok]
  congr 1
  match vs with
  | []=>rfl
  | [v]=>rfl
  | u::v::r=>simp[packed]
 obtain ⟨vs,e1,e2⟩:=key
 refine⟨packed vs,e1,?_⟩
 · cases h with
   | nil=>rw[show vs=[] from e2];exact⟨[],rfl,rfl⟩
   | cons h1 h2=>
    cases h2 with
    | nil=>obtain ⟨u,us,rfl,h3,h4⟩:=e2;rw[show us=[] from h4];exact h3
    | cons h3 h4=>obtain ⟨u,us,rfl,h5,u',us',rfl,h6⟩:=e2;exact⟨_,rfl,u,_,rfl,h5,u',us',rfl,h6⟩
theorem zew {C:Ctx} {fn:Func} {R:D→List Hp→Prop} {rs:List ResultVar} {ds:List D} {d:D} (hr:fn.results=rs.toArray) (h:ResOs P K H rs ds) (hp:zeO ds=d) (hR:R d H):PD C (qret P fn C R) .ret K H:=
 ⟨fun ρ w F hk g tmps ht=>by
  obtain ⟨v,e1,e2⟩:=results_packD hr h hk g.h.ok tmps ht
  exact⟨v,e1,F,d,H,hR,hp ▸ e2,g⟩⟩
theorem pd_end {C:Ctx} {fn:Func} {R:D→List Hp→Prop} {rs:List ResultVar} {ds:List D} {d:D} (hr:fn.results=rs.toArray) (h:ResOs P K H rs ds) (hp:zeO ds=d) (hR:R d H):PD C (qret P fn C R) .normal K H:=
 ⟨fun ρ w F hk g tmps ht=>by
  obtain ⟨v,e1,e2⟩:=results_packD hr h hk g.h.ok tmps ht
  exact⟨v,e1,F,d,H,hR,hp ▸ e2,g⟩⟩
theorem zh {C:Ctx} {fn:Func} {R:D→List Hp→Prop} {rs:List ResultVar} {ds:List D} {d:D} {H':List Hp} (hr:fn.results=rs.toArray) (h:ResOs P K H rs ds) (hp:zeO ds=d) (hs:HSub H H') (hR:R d H'):PD C (qret P fn C R) .ret K H:=
 ⟨fun ρ w F hk g tmps ht=>by
  obtain ⟨v,e1,e2⟩:=results_packD hr h hk g.h.ok tmps ht
  exact⟨v,e1,F,d,H',hR,hp ▸ e2,hs.out _ _ _ g⟩⟩
theorem zbU {C:Ctx} {fn:Func} {R:D→List Hp→Prop} {rs:List ResultVar} {ds:List D} {d:D} {H':List Hp} (hr:fn.results=rs.toArray) (h:ResOs P K H rs ds) (hp:zeO ds=d) (hs:HSub H H') (hR:R d H'):PD C (qret P fn C R) .normal K H:=
 ⟨fun ρ w F hk g tmps ht=>by
  obtain ⟨v,e1,e2⟩:=results_packD hr h hk g.h.ok tmps ht
  exact⟨v,e1,F,d,H',hR,hp ▸ e2,hs.out _ _ _ g⟩⟩
theorem zbi {C:Ctx} {fn:Func} {R:D→List Hp→Prop} {K':Kd} {H':List Hp} (m:Mv K H K' H') (h:PD C (qret P fn C R) .ret K' H'):PD C (qret P fn C R) .ret K H:=PD.mv (fun _ _ _ _ h=>h) m h
mutual
def D.bd:D→Prop
 | .s b=>b.size≤9223372036854775807
 | .sh _ xs=>xs.length≤9223372036854775807∧D.bdL xs
 | .agg cs=>D.bdL cs
 | .tup cs=>D.bdL cs
 | .ifc _ d=>D.bd d
 | .el x _=>D.bd x
 | _=>True
def D.bdL:List D→Prop
 | []=>True
 | d::r=>D.bd d∧D.bdL r
end
section
variable {w:World} {F:Nat→Prop}
mutual
theorem D.rep_bd:∀ (d:D) (a:Value),D.rep w F d a→D.bd d
 | .v _,_,_=>trivial
 | .ov _,_,_=>trivial
 | .s _,_,h=>h.2
 | .agg cs,_,⟨vs,e,h⟩=>D.repL_bd cs vs h
 | .tup cs,_,⟨vs,e,h⟩=>D.repA_bd cs vs h
 | .ifc _ d,_,⟨u,e,h⟩=>D.rep_bd d u h
 | .fn _ p q,_,_=>trivial
 | .sh z xs,_,⟨A,c,e,h1,h2,h3⟩=>⟨h2,by
  cases hxs:xs with
  | nil=>exact trivial
  | cons x r=>
   obtain ⟨b,o,_,_,hc⟩:=h3 (by rw[hxs];simp)
   rw[←hxs]
   exact D.repC_bd z b xs o hc⟩
 | .el x _,_,⟨b,p,u,e,h1,h2,h3,h4⟩=>D.rep_bd x u h2
 | .shr _ _ _,_,_=>trivial
 | .any,_,_=>trivial
theorem D.repL_bd:∀ (ds:List D) (vs:List Value),D.repL w F ds vs→D.bdL ds
 | [],_,_=>trivial
 | d::r,_,⟨u,us,e,h1,h2,h3⟩=>⟨D.rep_bd d u h2,D.repL_bd r us h3⟩
theorem D.repA_bd:∀ (ds:List D) (vs:List Value),D.repA w F ds vs→D.bdL ds
 | [],_,_=>trivial
 | d::r,_,⟨u,us,e,h2,h3⟩=>⟨D.rep_bd d u h2,D.repA_bd r us h3⟩
theorem D.repC_bd (z b:Nat):∀ (xs:List D) (o:Nat),D.repC w F z b xs o→D.bdL xs
 | [],_,_=>trivial
 | x::r,o,⟨⟨u,h1,h2,h3,h4⟩,h5⟩=>⟨D.rep_bd x u h1,D.repC_bd z b r (o+z) h5⟩
end
end
theorem zbF {α:Type} {f:α→D} {l:List α} {z:Nat} (h:D.bd (.sh z (l.map f))):l.length≤9223372036854775807:=by have:=h.1;simpa using this
theorem JD.bd {N:Nat} {C:Ctx} {c:Code} {Q:zaH} (t:Nat) {d:D} (h:zax K t=some d) (next:D.bd d→JD P N C c K H Q):JD P N C c K H Q:=
 JD.fact (fun w F ρ hk _=>D.rep_bd d _ (hk t d h)) next
end
abbrev dI (n:Int):D:=.v (.int .i64 n)
abbrev dB (b:Bool):D:=.v (.bool b)
abbrev isR (d:D):D→List Hp→Prop:=fun r H=>r=d∧H=[]
abbrev zdV (z:Nat) (T:TypeId) (xs:List D):D→List Hp→Prop:=fun r H=>∃ v,r=.ov v∧H=[.sl v z T xs]
abbrev D.ls {α:Type} (z:Nat) (f:α→D) (l:List α):D:=.sh z (l.map f)
theorem sk {K:Kd} {t:Nat} {d:D} (h:zax K t=some d):∃ d',zax K t=some d'∧Cv d' d:=⟨d,h,Cv.rfl'⟩
theorem sc {K:Kd} {t:Nat} {d d':D} (h:zax K t=some d) (c:Cv d d'):∃ d,zax K t=some d∧Cv d d':=⟨d,h,c⟩
theorem se {K:Kd} {t:Nat} {d d':D} (h:zax K t=some d) (c:d=d'):∃ d,zax K t=some d∧Cv d d':=⟨d,h,Cv.eq c⟩
section
variable {P:Program} {K:Kd} {H:List Hp} {N:Nat} {C:Ctx}
theorem JD.norm {c:Code} {Q:zaH} (H':List Hp) (h:H=H') (next:JD P N C c K H' Q):JD P N C c K H Q:=h ▸ next
theorem OpsD.norm {i:Nat} {ops:List Oper} {Kt:Env→World→(Nat→Prop)→Prop} (H':List Hp) (h:H=H') (next:OpsD P N C ops i K H' Kt):OpsD P N C ops i K H Kt:=h ▸ next
theorem PD.norm {Q:zaH} {e:Exit} (H':List Hp) (h:H=H') (next:PD C Q e K H'):PD C Q e K H:=h ▸ next
theorem zc {H:List Hp} {i:Nat} {h:Hp} (e:nth H i=some h):H.Perm (h::(H.take i++H.drop (i+1))):=by
 rw[zbu] at e
 obtain ⟨hl,e⟩:=List.getElem?_eq_some_iff.1 e
 have:H=H.take i++h::H.drop (i+1):=by rw[←e,List.getElem_cons_drop,List.take_append_drop]
 conv=>lhs;rw[this]
 exact List.perm_middle
theorem CvL.repE {w:World} {F:Nat→Prop} {z:Nat} {ds ds':List D} (h:CvL ds ds'):∀ {vs:List Value},RepE w F z ds vs→RepE w F z ds' vs:=by
 induction h with
 | nil=>exact fun h=>h
 | cons hd _ ih=>rintro _ ⟨u,us,rfl,h2,h3,h4,h5⟩;exact⟨u,us,rfl,hd.out _ _ _ h2,h3,h4,ih h5⟩
theorem CvL.repC {w:World} {F:Nat→Prop} {z b:Nat} {ds ds':List D} (h:CvL ds ds'):∀ {o:Nat},D.repC w F z b ds o→D.repC w F z b ds' o:=by
 induction h with
 | nil=>exact fun h=>h
 | cons hd _ ih=>rintro o ⟨⟨u,h1,h2⟩,h3⟩;exact⟨⟨u,hd.out _ _ _ h1,h2⟩,ih h3⟩
theorem CvL.len {ds ds':List D} (h:CvL ds ds'):ds'.length=ds.length:=by
 induction h with
 | nil=>rfl
 | cons _ _ ih=>simp[ih]
theorem Hp.cvs_sl {v:Value} {z:Nat} {T:TypeId} {xs xs':List D} (h:CvL xs xs'):∀ w F,(Hp.sl v z T xs).ok w F→(Hp.sl v z T xs').ok w F:=fun _ _ ⟨us,h1,h2⟩=>⟨us,h.repE h1,h2⟩
theorem Cv.shs {z:Nat} {xs xs':List D} (h:CvL xs xs'):Cv (.sh z xs) (.sh z xs'):=⟨fun w F u ⟨A,c,h1,h2,h3,h4⟩=>⟨A,c,by rw[h.len];exact h1,by rw[h.len];exact h2,by rw[h.len];exact h3,fun hn=>by
 obtain ⟨b,o,h5,h6,h7⟩:=h4 (by rintro rfl;cases h;exact hn rfl)
 exact⟨b,o,h5,h6,h.repC h7⟩⟩⟩
theorem zcc (s:ByteArray) (k:Nat) (h:k<s.size):∃ u:UInt8,s[k]?=some u:=⟨s[k],by simp[h]⟩
theorem HSub.none {H:List Hp}:HSub H []:=HSub.less (List.nil_sublist _)
theorem HSub.fst {H:List Hp} (n:Nat) {H':List Hp} (e:H.take n=H'):HSub H H':=e ▸ HSub.less (List.take_sublist n H)
theorem HSub.lst {H:List Hp} (n:Nat) {H':List Hp} (e:H.drop n=H'):HSub H H':=e ▸ HSub.less (List.drop_sublist n H)
theorem zd5 {H:List Hp} {i:Nat} {h:Hp} (e:nth H i=some h):[h].Sublist H:=List.singleton_sublist.2 (zaj e)
theorem zg {H:List Hp}:∀ h∈([]:List Hp),h∈H:=fun _ h=>by cases h
theorem zbt {H L:List Hp} {j:Nat} {x:Hp} (h:nth H j=some x) (hr:∀ h∈L,h∈H):∀ h∈x::L,h∈H:=fun y hy=>by
 cases hy with
 | head=>exact zaj h
 | tail _ hm=>exact hr y hm
theorem zcA {e:D} (h:e.flat=true):∀ d H',isR e d H'→d.flat=true∧∀ h∈H',h.flat=true:=fun _ _ ⟨h1,h2⟩=>by subst h1;subst h2;exact⟨h,fun _ hh=>by cases hh⟩
theorem zb4 {e:D}:∀ d' H',isR e d' H'→ArgC H' d' e:=fun _ _ ⟨h1,h2⟩=>by subst h1;subst h2;exact ArgC.id
theorem isOwn_share {z:Nat} {T:TypeId} {xs:List D}:∀ d' H',zdV z T xs d' H'→ArgC H' d' (.sh z xs):=fun _ _ ⟨v,h1,h2⟩=>by subst h1;subst h2;exact ArgC.own (j:=0) rfl rfl
variable {ty:TypeId} {α:Type} {f:α→D}
theorem zP {t:TypeId} {x y:Operand} {z bytes i:Nat} {v zv:Value} {T:TypeId} {l l':List α} {d:D} (hx:opO K x=some v) (hm:nth H i=some (.sl v z T (l.map f))) (hy:opD K y=some d) (hsrc:SrcD H z d (l'.map f)) (ht:P.underlying t=some (.slice T))
 (hi':∃ i,P.info? T=some i∧i.zero=some zv∧i.size=z∧i.bytes=bytes) (hzs:zv.cells.size=z) (hsz:Nat.blt 0 z=true) (hlen:l.length+l'.length≤maxLen) (hbytes:(l.length+l'.length)*bytes≤140737488355328):
 Ef P (.call { callee:=.builtin .append,args:=#[x,y],argTypes:=#[t,t] }) ty K H (fun d H'=>∃ v',d=.ov v'∧H'=H.set i (.sl v' z T ((l++l').map f))):=by
 have:=ef_append (ty:=ty) hx hm hy hsrc ht hi' hzs hsz (by simpa using hlen) (by simpa using hbytes)
 rw[←List.map_append] at this
 exact this
theorem ef_append_n {t:TypeId} {x y:Operand} {z bytes:Nat} {zv:Value} {T:TypeId} {l':List α} {d:D} (hx:opD K x=some (.v (.slice none 0 0))) (hy:opD K y=some d) (hsrc:SrcD (.sl (.slice none 0 0) z T []::H) z d (l'.map f)) (ht:P.underlying t=some (.slice T))
 (hi':∃ i,P.info? T=some i∧i.zero=some zv∧i.size=z∧i.bytes=bytes) (hzs:zv.cells.size=z) (hsz:Nat.blt 0 z=true) (hlen:l'.length≤maxLen) (hbytes:l'.length*bytes≤140737488355328):
 Ef P (.call { callee:=.builtin .append,args:=#[x,y],argTypes:=#[t,t] }) ty K H (fun d H'=>∃ v',d=.ov v'∧H'=.sl v' z T (l'.map f)::H):=by
 have:=ef_append (ty:=ty) (i:=0) (xs:=[]) (by unfold opO;rw[hx];rfl) rfl hy hsrc ht hi' hzs hsz (by simpa using hlen) (by simpa using hbytes)
 exact Ef.preH (HSub.nil z T) (by simpa using this)
theorem ef_store_m {t:TypeId} {x y:Operand} {v:Value} {z k o n i:Nat} {T:TypeId} {l:List α} {a a':α} {d:D} (hx:opD K x=some (.v (.pointer (some ⟨bl v,k*z+o,none⟩)))) (hm:nth H i=some (.sl v z T (l.map f))) (ha:l[k]?=some a) (hy:opD K y=some d) (hc:CellD H d)
 (hs:∀ w,(Go.sizeOf t).run P w=.ok n w) (hn:Nat.beq d.cells.length n=true) (ho:Nat.ble (o+n) (f a).cells.length=true) (hX:splD (f a) o d=some (f a')):Ef P (.store t x y) ty K H (fun r H'=>r=.v undef∧H'=H.set i (.sl v z T ((l.set k a').map f))):=by
 have:=ef_store_sl (ty:=ty) hx hm (zK ha) hy hc hs hn ho hX
 rw[←List.map_set] at this
 exact this
end
theorem za8 {α β:Type} {r:Result α} {k:α→World→Result β} {v:β} {w':World} (h:r.andThen k=.ok v w'):∃ a w1,r=.ok a w1∧k a w1=.ok v w':=by
 cases r with
 | ok a w1=>exact⟨a,w1,rfl,h⟩
 | halt x w1=>cases h
theorem load_same {P:Program} {a:Addr} {m:Mode} {w w1:World} {v:Value} (h:(load a m).run P w=.ok v w1):w1=w:=by
 rw[run_load] at h
 split at h
 · cases h;rfl
 · split at h
   · cases h;rfl
   · cases h
theorem loadFrom_same {P:Program} {a:Addr}:∀ (n i:Nat) (acc r:Array Value) (w w1:World),(loadCellsFrom a i n acc).run P w=.ok r w1→w1=w
 | 0,i,acc,r,w,w1,h=>by simp[loadCellsFrom] at h;exact h.2.symm
 | n+1,i,acc,r,w,w1,h=>by
  unfold loadCellsFrom at h
  rw[Sem.run_bind] at h
  obtain ⟨x,w2,h1,h2⟩:=za8 h
  have:=load_same h1
  subst this
  exact loadFrom_same n _ _ _ _ _ h2
theorem firstCells_same {P:Program} {z n:Nat} {A:Option Addr} {k c:Nat} {r:Array Value} {w w1:World} (h:(Builtin.firstCells z n (.slice A k c)).run P w=.ok r w1):w1=w:=by
 cases A with
 | none=>simp[Builtin.firstCells] at h;exact h.2.symm
 | some a=>exact loadFrom_same _ _ _ _ _ _ h
theorem zero_same {P:Program} {E:TypeId} {r:Value} {w w1:World} (h:(zeroValue E).run P w=.ok r w1):w1=w:=by
 simp only[zeroValue,Sem.run_bind,typeInfo,run_program,Result.andThen_ok] at h
 cases hi:P.info? E with
 | none=>simp[hi] at h
 | some i=>
  simp only[hi,Sem.run_pure,Result.andThen_ok] at h
  cases hz:i.zero with
  | none=>simp[hz] at h
  | some z=>simp[hz] at h;exact h.2.symm
theorem newRow_ext {P:Program} {E:TypeId} {c:Array Value} {a:Addr} {w w1:World} (h:(newRow E c).run P w=.ok a w1):Ext w w1:=by
 simp[newRow] at h
 obtain ⟨_,rfl⟩:=h
 exact Ext.alloc _ _
theorem append_moved {P:Program} {w w':World} {t ty E n cap m c:Nat} {A B:Option Addr} {v':Value} {i:TypeInfo} (ht:P.underlying t=some (.slice E)) (hi:P.info? E=some i) (hn:cap<n+m) (hb:(n+m)*i.bytes≤140737488355328) (hm:n+m≤maxLen)
 (h:(Builtin.append_ #[t,t] ty #[.slice A n cap,.slice B m c]).run P w=.ok v' w'):Ext w w':=by
 simp[Builtin.append_,run_underlying ht,Go.sizeOf,typeInfo,hi,Builtin.lenOf,show ¬n+m≤cap by omega] at h
 have fin:∀ {W:World} {k:Nat} {f:Addr→World→Result Value},Ext w W→(∀ a w1 v w2,f a w1=.ok v w2→w2=w1)→((Sem.run P (Builtin.firstCells i.size n (Value.slice A n cap)) W).andThen fun a w'=>
  (Sem.run P (Builtin.firstCells i.size m (Value.slice B m c)) w').andThen fun a_1 w'=>
   (Sem.run P (zeroValue E) w').andThen fun a_2 w'=>
    (Sem.run P (newRow E (a++(a_1++Builtin.zeroCells a_2.cells k))) w').andThen f)=.ok v' w'→Ext w w':=by
  intro W k f hE hf h
  obtain ⟨a,w1,h1,h⟩:=za8 h
  obtain ⟨a1,w2,h2,h⟩:=za8 h
  obtain ⟨a2,w3,h3,h⟩:=za8 h
  obtain ⟨a3,w4,h4,h⟩:=za8 h
  have e1:=firstCells_same h1
  have e2:=firstCells_same h2
  have e3:=zero_same h3
  have e4:=newRow_ext h4
  have e5:=hf _ _ _ _ h
  subst e1;subst e2;subst e3;subst e5
  exact hE.trans e4
 have hcond:¬(9223372036854775807<(n:Int)+(m:Int)∧i.bytes=0):=by
  rintro ⟨h1,_⟩;unfold maxLen at hm;omega
 rw[if_neg hcond] at h
 split at h
 · obtain ⟨_,_,h,_⟩:=za8 h;obtain ⟨_,_,_,h⟩:=za8 h;cases h
 · split at h
   · exact fin (W:=w) Ext.rfl' (fun _ _ _ _ h=>by cases h;rfl) h
   · exact fin (W:=w.drew) (Ext.drew w) (fun _ _ _ _ h=>by cases h;rfl) h
theorem append_inplace {P:Program} {w w':World} {t ty E n cap m c:Nat} {A B:Option Addr} {v':Value} {i:TypeInfo} (ht:P.underlying t=some (.slice E)) (hi:P.info? E=some i) (hn:n+m≤cap)
 (h:(Builtin.append_ #[t,t] ty #[.slice A n cap,.slice B m c]).run P w=.ok v' w'):v'=.slice A (n+m) cap:=by
 simp[Builtin.append_,run_underlying ht,Go.sizeOf,typeInfo,hi,Builtin.lenOf,hn] at h
 obtain ⟨a,w1,h1,h⟩:=za8 h
 cases A with
 | none=>simp at h;exact h.1.symm
 | some ad=>
  simp at h
  obtain ⟨_,_,_,h⟩:=za8 h
  cases h;rfl
theorem Own.front {w:World} {z:Nat} {T:TypeId} {g n m cap:Nat} {us:List Value} (h:Own vcs z T w 0 (.slice (some ⟨g,0,none⟩) n cap) us) (hm:m≤us.length):Own vcs z T w 0 (.slice (some ⟨g,0,none⟩) m cap) (us.take m):=by
 have hz:=h.2
 have hz':∀ x∈us.take m,(vcs x).length=z:=fun x hx=>hz x (List.mem_of_mem_take hx)
 rcases h.1.2 with ⟨e,_⟩ | ⟨g',cap',cur,e,hb,hg,hnc,hmx,hsz,htk⟩
 · cases e
 · injection e with e1 e2 e3
   injection e1 with e1;injection e1 with e1
   subst e1;subst e3
   have hl:(us.take m).length=m:=by rw[List.length_take];omega
   refine⟨⟨zc3 hz',.inr ⟨g,cap,cur,by rw[hl],hb,hg,by omega,hmx,hsz,?_⟩⟩,hz'⟩
   rw[hl]
   have h1:cur.toList.take (m*z)=(cur.toList.take (us.length*z)).take (m*z):=by
    rw[List.take_take,Nat.min_eq_left (Nat.mul_le_mul_right z hm)]
   rw[h1,htk]
   have hfl:((us.take m).flatMap vcs).length=m*z:=by rw[zc3 hz',hl]
   have:us.flatMap vcs=(us.take m).flatMap vcs++(us.drop m).flatMap vcs:=by rw[←List.flatMap_append,List.take_append_drop]
   rw[this,←hfl,List.take_left]
theorem HSub.pair {H:List Hp} {v:Value} {z:Nat} {T:TypeId} {xs:List D} (m:Nat) (hm:xs.length=m):HSub (.sl v z T xs::H) (.sl2 v v z T m xs::H):=HSub.turn (by funext b;simp[Hp.blk]) (fun w F ⟨us,h1,h2⟩=>by
 have hl:=h1.len
 exact⟨us,h1,h2,by rw[List.take_of_length_le (by omega)];exact h2,by omega⟩)
theorem ef_append2 {P:Program} {ty:TypeId} {K:Kd} {H:List Hp} {α:Type} {f:α→D} {t:TypeId} {x y:Operand} {z bytes i m:Nat} {v0 v zv:Value} {T:TypeId} {l l':List α} {d:D} (hx:opO K x=some v) (hm:nth H i=some (.sl2 v0 v z T m (l.map f))) (hy:opD K y=some d) (hsrc:SrcD H z d (l'.map f)) (ht:P.underlying t=some (.slice T))
 (hi':∃ i,P.info? T=some i∧i.zero=some zv∧i.size=z∧i.bytes=bytes) (hzs:zv.cells.size=z) (hsz:Nat.blt 0 z=true) (hlen:l.length+l'.length≤maxLen) (hbytes:(l.length+l'.length)*bytes≤140737488355328):
 Ef P (.call { callee:=.builtin .append,args:=#[x,y],argTypes:=#[t,t] }) ty K H (fun d H'=>∃ v',d=.ov v'∧H'=H.set i (.sl2 v0 v' z T m ((l++l').map f))):=
 ⟨fun C ρ w F hk gd=>by
  obtain ⟨us,hus,hown,hown0,hmle⟩:=gd.h.ok _ (zaj hm)
  obtain ⟨vs,hvs,hsl⟩:=hsrc.out w F _ gd.flt gd.h.ok (hk.op hy)
  have hul:=hus.len
  have hvl:=hvs.len
  rw[List.length_map] at hul hvl hmle
  have hz:=zbh.1 hsz
  refine e_append' (α:=Value) (cs:=vcs) (z:=z) (E:=T) (base:=0) (xs:=us) (ys:=vs) (zA ρ [x,y]) (zby ρ (hk.opO hx)) (zbx ρ rfl) ht hi' hzs hz hown hsl (fun u hu=>?_) (by omega) (by rw[hul,hvl];exact hbytes) (Nat.zero_le _) (fun v' w' h1 h2 h3 h4=>?_)
  · have:=hvs.one u hu
    have gen:∀ l:List Value,(∀ c∈l,c.oneCell'=true)→zch l:=by
     intro l;induction l with
     | nil=>exact fun _=>trivial
     | cons a r ih=>exact fun h=>⟨h a List.mem_cons_self,ih fun c hc=>h c (List.mem_cons_of_mem _ hc)⟩
    exact gen _ this
  · obtain ⟨i0,q1,q2,q3,q4⟩:=hi'
    obtain ⟨a,b,U,hU⟩:=h2
    obtain ⟨A,cp,ev,_⟩:=hown.sl.capOk
    obtain ⟨B,c,es,_⟩:=hsl.capOk
    have key:Own vcs z T w' 0 v0 ((us++vs).take m):=by
     rw[List.take_append_of_le_length (by omega)]
     by_cases hin:us.length+vs.length≤cp
     · rw[ev,es] at h4
       have e:=append_inplace ht q1 hin h4
       rcases hown0.1.2 with ⟨e0,h0⟩ | ⟨g0,c0,cur0,e0,_,hg0,hnc0,hmx0,hs0,ht0⟩
       · exact⟨⟨hown0.1.1,.inl ⟨e0,h0⟩⟩,hown0.2⟩
       · by_cases hsame:v.ownBlock=some g0
         · rcases hown.1.2 with ⟨e1,_⟩ | ⟨g1,c1,cur1,e1,_,hg1,hnc1,hmx1,hs1,ht1⟩
           · rw[e1] at hsame;cases hsame
           · rw[e1] at hsame ev
             injection ev with ev1 ev2 ev3
             have:g1=g0:=by simpa [Value.ownBlock] using hsame
             subst this
             rw[hg1] at hg0
             injection hg0 with hg0;injection hg0 with hg0
             have hcap:c0=cp:=by
              have h5:c1*z=c0*z:=by rw[←hs1,←hs0,hg0]
              have:=Nat.eq_of_mul_eq_mul_right hz h5
              omega
             rw[e,←ev1] at h1
             have hf:=Own.front (m:=(us.take m).length) h1 (by rw[List.length_take,List.length_append];omega)
             rw[e0,hcap]
             have:(us++vs).take (us.take m).length=us.take m:=by
              rw[List.length_take,Nat.min_eq_left (by omega),List.take_append_of_le_length (by omega)]
             rw[this] at hf
             exact hf
         · refine hown0.upd U (fun g hg=>?_)
           rw[e0] at hg
           have:g0=g:=by simpa [Value.ownBlock] using hg
           subst this
           rcases hU with ⟨rfl,rfl⟩ | ⟨h5,rfl,_⟩
           · exact .inr (Nat.zero_le _)
           · have:a≠g0:=fun e=>hsame (by rw[←e];exact h5)
             omega
     · rw[ev,es] at h4
       have E:=append_moved ht q1 (by omega) (by rw[q4,hul,hvl];exact hbytes) (by omega) h4
       exact hown0.ext E
    have:=gd.turn (h':=.sl2 v0 v' z T m ((l++l').map f)) hm (fun c hc hn=>U.block c hc (by
     rcases hU with ⟨rfl,rfl⟩ | ⟨h4,rfl,_⟩
     · exact .inr (Nat.zero_le _)
     · have:a≠c:=fun e=>hn (by subst e;exact .inr h4)
       omega)) U.size U.os U.tape U.output U.drawn (fun c e=>by
     rcases e with e | e
     · exact .inl (.inl e)
     rcases h3 with h3 | h3
     · exact .inl (.inr (by rw[←h3];exact e))
     · rw[h3] at e;cases e;exact .inr (Nat.le_refl _)) (fun kp=>⟨us++vs,by rw[List.map_append];exact(hus.keep kp).app (hvs.keep kp),h1,key,by rw[List.length_map,List.length_append];omega⟩)
    exact⟨F,.ov v',_,⟨v',rfl,rfl⟩,⟨rfl,h1.one⟩,this.1,this.2⟩⟩
theorem pair_len {w:World} {F:Nat→Prop} {z:Nat} {T:TypeId} {v:Value} {us:List Value} (h:Own vcs z T w 0 v us):us.length≤maxLen:=by
 rcases h.1.2 with ⟨_,h0⟩ | ⟨g,cap,cur,_,_,_,h3,h4,_⟩
 · rw[h0];exact Nat.zero_le _
 · omega
theorem own_sh {w:World} {F B:Nat→Prop} {z:Nat} {T:TypeId} {v:Value} {us:List Value} {xs:List D} (h:Own vcs z T w 0 v us) (hr:RepE w F z xs us) (hB:∀ g,v.ownBlock=some g→B g):D.rep w (fun b=>F b∨B b) (.sh z xs) v:=
 D.sl_rep (hr.keep (Keep.wide _)) h.sl (fun _ g hg=>.inr (hB g hg)) (pair_len (F:=F) h)
theorem ArgC.was {L:List Hp} {z j m:Nat} {v0 v:Value} {T:TypeId} {α:Type} {f:α→D} {l:List α} (hm:nth L j=some (.sl2 v0 v z T m (l.map f))) {d:D} (hd:asO d=some v0):ArgC L d (.sh z ((l.take m).map f)):=⟨fun w F u hF hL hr=>by
 obtain ⟨us,h1,h2,h3,h4⟩:=hL _ (zaj hm)
 have:u=_:=zee hr hd
 subst this
 rw[List.map_take]
 exact own_sh h3 (h1.take m) (fun g hg=>⟨_,zaj hm,.inl hg⟩)⟩
theorem ArgC.now {L:List Hp} {z j m:Nat} {v0 v:Value} {T:TypeId} {xs:List D} (hm:nth L j=some (.sl2 v0 v z T m xs)) {d:D} (hd:asO d=some v):ArgC L d (.sh z xs):=⟨fun w F u hF hL hr=>by
 obtain ⟨us,h1,h2,h3,h4⟩:=hL _ (zaj hm)
 have:u=_:=zee hr hd
 subst this
 exact own_sh h2 h1 (fun g hg=>⟨_,zaj hm,.inr hg⟩)⟩
abbrev FA (w:World):Nat→Prop:=fun b=>b<w.heap.size
section
variable {H:Type} {enc:TypeId×Value→H} {P:Program} {w:World} {held:Bool} {sp:Nat→Bool}
def InD (w:World) (z:Nat) (d:D) (cs:List Value):Prop:=∃ u,cs=vcs u∧D.rep w (FA w) d u∧One u∧cs.length=z
theorem InD.one {d:D} {v:Value} (h:D.rep w (FA w) d v) (h1:v.oneCell'=true):InD w 1 d [v]:=⟨v,(vcs_one h1).symm,h,One.one h1,rfl⟩
end
end Lp
set_option linter.unusedVariables false
namespace Lp
open Go Go.RowKit
open Go.Lib (strCells strCells_eq byteCells byteCells_length run_append_own_string)
abbrev dU8 (b:UInt8):D:=.v (.int .u8 (b.toNat:Int))
theorem zcv {n:Int} {m:Nat} (h:n=(m:Int)) (hm:m<256):D.v (.int .u8 n)=dU8 (UInt8.ofNat m):=by
 have:(UInt8.ofNat m).toNat=m:=by simp[UInt8.toNat_ofNat'];omega
 unfold dU8;rw[this,h]
theorem newRow_at {P:Program} {E:TypeId} {c:Array Value} {a:Addr} {w w1:World} (h:(newRow E c).run P w=.ok a w1):a=⟨w.heap.size,0,none⟩:=by
 simp[newRow] at h
 exact h.1.symm
theorem append_moved_s {P:Program} {w w':World} {t u ty E n cap:Nat} {A:Option Addr} {s:ByteArray} {v':Value} {i:TypeInfo} (ht:P.underlying t=some (.slice E)) (hu:P.underlying u=some .string) (hi:P.info? E=some i) (hn:cap<n+s.size) (hm:n+s.size≤maxLen)
 (h:(Builtin.append_ #[t,u] ty #[.slice A n cap,.string s]).run P w=.ok v' w'):Ext w w'∧v'.ownBlock=some w.heap.size:=by
 simp[Builtin.append_,run_underlying ht,run_underlying hu,Go.sizeOf,typeInfo,hi,Builtin.lenOf,show ¬n+s.size≤cap by omega] at h
 have fin:∀ {W:World} {k:Nat} {f:Addr→World→Result Value},Ext w W→W.heap.size=w.heap.size→(∀ a w1 v w2,f a w1=.ok v w2→w2=w1∧v.ownBlock=some a.block)→((Sem.run P (Builtin.firstCells i.size n (Value.slice A n cap)) W).andThen fun a w'=>
  (Sem.run P (Builtin.firstCells i.size s.size (.string s)) w').andThen fun a_1 w'=>
   (Sem.run P (zeroValue E) w').andThen fun a_2 w'=>
    (Sem.run P (newRow E (a++(a_1++Builtin.zeroCells a_2.cells k))) w').andThen f)=.ok v' w'→Ext w w'∧v'.ownBlock=some w.heap.size:=by
  intro W k f hE hsz hf h
  obtain ⟨a,w1,h1,h⟩:=za8 h
  obtain ⟨a1,w2,h2,h⟩:=za8 h
  obtain ⟨a2,w3,h3,h⟩:=za8 h
  obtain ⟨a3,w4,h4,h⟩:=za8 h
  have e1:=firstCells_same h1
  have e2:w2=w1:=by simp[Builtin.firstCells] at h2;exact h2.2.symm
  have e3:=zero_same h3
  have e4:=newRow_ext h4
  have e5:=newRow_at h4
  have e6:=hf _ _ _ _ h
  subst e1;subst e2;subst e3
  rw[e6.1]
  exact⟨hE.trans e4,by rw[e6.2,e5,hsz]⟩
 have hcond:¬(9223372036854775807<(n:Int)+(s.size:Int)∧i.bytes=0):=by
  rintro ⟨h1,_⟩;unfold maxLen at hm;omega
 rw[if_neg hcond] at h
 split at h
 · obtain ⟨_,_,h,_⟩:=za8 h;obtain ⟨_,_,_,h⟩:=za8 h;cases h
 · split at h
   · refine fin (W:=w) (k:=0) (f:=fun a w'=>Result.ok (.slice (some a) (n+s.size) 0) w') Ext.rfl' rfl (fun _ _ _ _ h=>by cases h;exact⟨rfl,rfl⟩) ?_
     simpa [Builtin.firstCells] using h
   · refine fin (W:=w.drew) (k:=(Question.appendCap (n+s.size) cap E).cut (w.tape w.drawn (Question.appendCap (n+s.size) cap E))-(n+s.size)) (f:=fun a w'=>Result.ok (.slice (some a) (n+s.size) ((Question.appendCap (n+s.size) cap E).cut (w.tape w.drawn (Question.appendCap (n+s.size) cap E)))) w') (Ext.drew w) rfl (fun _ _ _ _ h=>by cases h;exact⟨rfl,rfl⟩) ?_
     simpa [Builtin.firstCells] using h
theorem append_inplace_s {P:Program} {w w':World} {t u ty E n cap:Nat} {A:Option Addr} {s:ByteArray} {v':Value} {i:TypeInfo} (ht:P.underlying t=some (.slice E)) (hu:P.underlying u=some .string) (hi:P.info? E=some i) (hn:n+s.size≤cap)
 (h:(Builtin.append_ #[t,u] ty #[.slice A n cap,.string s]).run P w=.ok v' w'):v'=.slice A (n+s.size) cap:=by
 simp[Builtin.append_,run_underlying ht,run_underlying hu,Go.sizeOf,typeInfo,hi,Builtin.lenOf,hn] at h
 obtain ⟨a,w1,h1,h⟩:=za8 h
 cases A with
 | none=>simp at h;exact h.1.symm
 | some ad=>
  simp at h
  obtain ⟨_,_,_,h⟩:=za8 h
  cases h;rfl
theorem strCells_get {s:ByteArray}:∀ u∈strCells s,u.oneCell'=true:=by
 intro u hu
 rw[strCells_eq] at hu
 simp only[byteCells,List.mem_map] at hu
 obtain ⟨b,_,rfl⟩:=hu
 rfl
theorem flat_one:∀ {us:List Value},(∀ u∈us,u.oneCell'=true)→us.flatMap vcs=us
 | [],_=>rfl
 | u::r,h=>by rw[List.flatMap_cons,vcs_one (h u List.mem_cons_self),flat_one (fun x hx=>h x (List.mem_cons_of_mem _ hx))];rfl
theorem repE_bytes {w:World} {F:Nat→Prop}:∀ l:List UInt8,RepE w F 1 (l.map dU8) (byteCells l)
 | []=>rfl
 | b::r=>⟨_,_,rfl,rfl,One.one rfl,rfl,repE_bytes r⟩
section
variable {P:Program} {ty:TypeId} {K:Kd} {H:List Hp}
theorem ef_append_s {t u:TypeId} {x y:Operand} {i:Nat} {v:Value} {T:TypeId} {bs:List UInt8} {s:ByteArray} (hx:opO K x=some v) (hm:nth H i=some (.sl v 1 T (bs.map dU8))) (hy:opS K y=some s) (ht:P.underlying t=some (.slice T)) (hu:P.underlying u=some .string)
 (hi':∃ i,P.info? T=some i∧i.zero=some (.int .u8 0)∧i.size=1∧i.bytes=1) (hlen:bs.length+s.size≤140737488355328):
 Ef P (.call { callee:=.builtin .append,args:=#[x,y],argTypes:=#[t,u] }) ty K H (fun d H'=>∃ v',d=.ov v'∧H'=H.set i (.sl v' 1 T ((bs++s.data.toList).map dU8))):=
 ⟨fun C ρ w F hk gd=>by
  obtain ⟨us,hus,hown⟩:=gd.h.ok _ (zaj hm)
  have hul:=hus.len
  rw[List.length_map] at hul
  obtain ⟨i,q1,q2,q3,q4⟩:=hi'
  have hmx:us.length+s.size≤maxLen:=by unfold maxLen;omega
  obtain ⟨v',w',r1,r2,r3,_⟩:=run_append_own_string (P:=P) (w:=w) 0 t u ty T i ht hu q1 q2 q3 q4 v us.length _ hown.1 s hmx (by omega) (Nat.zero_le _)
  refine EOp.of_run (v:=v') (w':=w') (by
   have e1:=hk.opO hx
   have e2:=hk.opS hy
   simp[execOp,zas,resolve,invoke,builtin,e1,e2,r1]) ?_
  obtain ⟨A,cp,ev,_⟩:=hown.sl.capOk
  have hblk:v'.ownBlock=v.ownBlock∨v'.ownBlock=some w.heap.size:=by
   rw[ev] at r1
   by_cases hin:us.length+s.size≤cp
   · left;rw[append_inplace_s ht hu q1 hin r1,ev];cases A<;>rfl
   · right;exact(append_moved_s ht hu q1 (by omega) hmx r1).2
  have hone:∀ x∈strCells s,(vcs x).length=1:=fun x hx=>by rw[vcs_one (strCells_get x hx)];rfl
  have hsz:(strCells s).length=s.size:=by rw[strCells_eq,byteCells_length];simp
  have how:Own vcs 1 T w' 0 v' (us++strCells s):=by
   refine⟨?_,fun x hx=>?_⟩
   · rw[List.length_append,hsz,List.flatMap_append,flat_one strCells_get];exact r2
   · rcases List.mem_append.1 hx with hx | hx
     · exact hown.2 x hx
     · exact hone x hx
  have:=gd.turn (h':=.sl v' 1 T ((bs++s.data.toList).map dU8)) hm (fun c hc hn=>r3.block c hc (fun e=>hn e.symm)) r3.size r3.os r3.tape r3.output (Dr.run r1) (fun c e=>by
   rcases hblk with h3 | h3
   · exact .inl (by show v.ownBlock=_;rw[←h3];exact e)
   · have e':v'.ownBlock=some c:=e
     rw[h3] at e';cases e';exact .inr (Nat.le_refl _)) (fun kp=>⟨us++strCells s,by rw[List.map_append,strCells_eq];exact(hus.keep kp).app (repE_bytes _),how⟩)
  exact⟨F,.ov v',_,⟨v',rfl,rfl⟩,⟨rfl,how.one⟩,this.1,this.2⟩⟩
theorem Good.lose {C:Ctx} {H:List Hp} {w w':World} {F:Nat→Prop} {i:Nat} {h:Hp} (g:Good C H w F) (hi:nth H i=some h)
 (hupd:∀ b,b<w.heap.size→¬h.blk b→w'.heap[b]?=w.heap[b]?) (hsz:w.heap.size≤w'.heap.size) (hos:w'.os=w.os) (htp:w'.tape=w.tape) (hout:w'.output=w.output) (hdr:Dr w w'):Good C (H.take i++H.drop (i+1)) w' F∧Keep w F w' F:=by
 have hmem:=zaj hi
 have hp:=(zc hi)
 have gp:=(HSub.perm hp).out _ _ _ g
 have hap:=List.pairwise_cons.1 gp.h.apart
 have hk:Keep w F w' F:=⟨fun _ h=>h,fun b hF hlt=>hupd b hlt (fun e=>(g.h.mine b ⟨h,hmem,e⟩).2 hF)⟩
 refine⟨⟨Nat.le_trans g.size hsz,hos.trans g.os,htp.trans g.tape,hout.trans g.output,Dr.trans g.drawn hdr,fun b hb1 hn=>?_,g.fsub,g.fnew,fun b hF=>Nat.lt_of_lt_of_le (g.flt b hF) hsz,hap.2,fun x hx=>?_,fun b ⟨x,hx,e⟩=>gp.h.mine b ⟨x,List.mem_cons_of_mem _ hx,e⟩⟩,hk⟩
 · rw[hupd b (Nat.lt_of_lt_of_le hb1 g.size) (fun e=>?_)]
   · exact g.frame b hb1 hn
   · rcases (g.h.mine b ⟨h,hmem,e⟩).1 with h1 | h1
     · omega
     · exact hn h1
 · have hox:=gp.h.ok x (List.mem_cons_of_mem _ hx)
   exact Hp.keep hox hk (fun b hb1=>hupd b (Hp.lt hox hb1) (fun e=>hap.1 x hx b e hb1))
theorem p_sliceData {x:Operand} {t:Array TypeId} {i z:Nat} {v:Value} {T:TypeId} {xs:List D} (hx:opO K x=some v) (hm:nth H i=some (.sl v z T xs)) (hn:0<xs.length):Pu P (.call { callee:=.builtin .unsafeSliceData,args:=#[x],argTypes:=t }) ty K H (.v (.pointer (some ⟨bl v,0,none⟩))):=
 ⟨fun ρ w F hk _ hH=>by
  obtain ⟨us,hus,hown⟩:=hH _ (zaj hm)
  have hul:=hus.len
  obtain ⟨cap,r,e,_,_,hc,_⟩:=hown.form (by omega)
  refine EOp.of_run (v:=.pointer (some ⟨bl v,0,none⟩)) (w':=w) ?_ ⟨rfl,rfl⟩
  have e1:=hk.opO hx
  rw[e] at e1
  have hr:=Lib.run_unsafeSliceData_row (P:=P) (w:=w) t ty ⟨bl v,0,none⟩ us.length cap (by omega)
  simp[execOp,zas,resolve,invoke,builtin,e1,hr]⟩
theorem ef_unsafeString {x y:Operand} {t1 t2 i:Nat} {v:Value} {T:TypeId} {bs:List UInt8} {n:Int} (hx:opD K x=some (.v (.pointer (some ⟨bl v,0,none⟩)))) (hy:opD K y=some (.v (.int .i64 n))) (hn:n=(bs.length:Int)) (hm:nth H i=some (.sl v 1 T (bs.map dU8))) (h0:bs≠[])
 (hp:P.underlying t1=some (.pointer T)) (hc:P.cellsOf T=1):Ef P (.call { callee:=.builtin .unsafeString,args:=#[x,y],argTypes:=#[t1,t2] }) ty K H (fun d H'=>d=.s ⟨bs.toArray⟩∧H'=H.take i++H.drop (i+1)):=
 ⟨fun C ρ w F hk gd=>by
  obtain ⟨us,hus,hown⟩:=gd.h.ok _ (zaj hm)
  have hul:=hus.len
  rw[List.length_map] at hul
  have hpos:0<bs.length:=List.length_pos_iff.2 h0
  obtain ⟨cap,r,e,_,hB,hc1,hc2,hc3⟩:=hown.form (by omega)
  have hmx:bs.length≤9223372036854775807:=by unfold maxLen at hc2;omega
  have hsh:w.shape? (bl v)=some (T,cap):=by
   unfold Box at hB
   simp only[World.shape?,hB]
   simp only[List.size_toArray,hc3,Nat.mul_one]
  have hcell:∀ j x,bs[j]?=some x→w.cell? ⟨bl v,j,none⟩=some (.int .u8 x.toNat):=by
   intro j b hj
   obtain ⟨u,h1,h2,_⟩:=hus.get (k:=j) (x:=dU8 b) (by rw[List.getElem?_map,hj];rfl)
   have:=hown.sl.at_ h1
   have hof:of_ v=0:=by rw[e];rfl
   rw[hof,Nat.zero_add,Nat.mul_one] at this
   have hu:u=.int .u8 (b.toNat:Int):=h2
   subst hu
   exact this.2 0 _ rfl
  have hrun:=Lib.run_unsafeString_row (P:=P) (w:=w) t1 t2 ty T hp hc (bl v) cap hsh bs h0 (by omega) hmx
  subst hn
  have e1:ev ρ x=_:=hk.op hx
  have e2:ev ρ y=_:=hk.op hy
  have hf:∀ k,k≠bl v→(w.freeze ⟨bl v,0,none⟩ bs.length).heap[k]?=w.heap[k]?:=by
   intro k hk'
   unfold World.freeze
   split
   · rfl
   · simp only[Array.getElem?_modify];rw[if_neg (fun h=>hk' h.symm)]
  have hsz:(w.freeze ⟨bl v,0,none⟩ bs.length).heap.size=w.heap.size:=by
   unfold World.freeze;split<;>simp
  have hos:(w.freeze ⟨bl v,0,none⟩ bs.length).os=w.os∧(w.freeze ⟨bl v,0,none⟩ bs.length).tape=w.tape∧(w.freeze ⟨bl v,0,none⟩ bs.length).output=w.output:=by
   unfold World.freeze;split<;>exact⟨rfl,rfl,rfl⟩
  have:=gd.lose (w':=w.freeze ⟨bl v,0,none⟩ bs.length) hm (fun b hb hn=>hf b (fun e'=>hn (by subst e';show v.ownBlock=_;rw[e];rfl))) (Nat.le_of_eq hsz.symm) hos.1 hos.2.1 hos.2.2 (Dr.of (Nat.le_of_eq (freeze_drawn _ _ _).symm))
  refine EOp.of_run (v:=.string ⟨bs.toArray⟩) (w':=w.freeze ⟨bl v,0,none⟩ bs.length) ?_ ⟨F,_,_,⟨rfl,rfl⟩,⟨rfl,?_⟩,this.1,this.2⟩
  · have:=hrun (fun j x hj=>by rw[show (⟨bl v,0,none⟩:Addr).add j=⟨bl v,j,none⟩ by cases j<;>simp[Addr.add]];exact hcell j x hj)
    simp[execOp,zas,resolve,invoke,builtin,e1,e2,this]
  · show bs.toArray.size≤maxLen
    unfold maxLen;simp;omega⟩
theorem zdo {x:Operand} {t:TypeId} {s:ByteArray} (hx:opS K x=some s) (ht:∀ w,(underlying t).run P w=.ok .string w):Ef P (.range t x) ty K H (fun d H'=>∃ g,d=.v (.pointer (some ⟨g,0,none⟩))∧H'=.it g s 0::H):=
 ⟨fun C ρ w F hk gd=>by
  have e:=hk.opS hx
  refine EOp.of_run (v:=.pointer (some ⟨w.heap.size,0,none⟩)) (w':=w.alloc (.stringIter s 0)) (by simp[execOp,zas,e,Instr.range,ht]) ?_
  have E:=Ext.alloc w (.stringIter s 0)
  have g':=gd.ext E
  refine⟨F,_,_,⟨w.heap.size,rfl,rfl⟩,rfl,g'.more (heap_alloc_new w _) (fun b hb=>?_),Keep.ext E⟩
  cases hb
  exact⟨gd.size,fun hF=>by have:=gd.flt _ hF;omega,fun hB=>by have:=zec gd.h hB;omega⟩⟩
def decR (s:ByteArray) (p:Nat):Nat:=(Utf8.decode s p).1
def decW (s:ByteArray) (p:Nat):Nat:=(Utf8.decode s p).2
theorem zcR {x:Operand} {s:ByteArray} {g p i:Nat} (hx:opD K x=some (.v (.pointer (some ⟨g,0,none⟩)))) (hm:nth H i=some (.it g s p)) (hp:p<s.size):
 Ef P (.next x true) ty K H (fun d H'=>d=.tup [.v (.bool true),.v (.int .i64 (p:Int)),.v (.int .i32 (decR s p:Int))]∧H'=H.set i (.it g s (p+decW s p))):=
 ⟨fun C ρ w F hk gd=>by
  have e:ev ρ x=_:=hk.op hx
  have hb:w.heap[g]?=some (.stringIter s p):=gd.h.ok _ (zaj hm)
  have hlt:=(Array.getElem?_eq_some_iff.1 hb).1
  refine EOp.of_run (v:=.tuple #[.bool true,.int .i64 (p:Int),.int .i32 (decR s p:Int)]) (w':={ w with heap:=w.heap.setIfInBounds g (.stringIter s (p+decW s p)) }) ?_ ?_
  · simp[execOp,zas,e,Instr.next,getObj,setObj,Sem.run,hb,hp,decR,decW,goInt]
  have:=gd.turn (h':=.it g s (p+decW s p)) (w':={ w with heap:=w.heap.setIfInBounds g (.stringIter s (p+decW s p)) }) hm (fun b _ hn=>by
   have:¬g=b:=hn
   simp only[Array.getElem?_setIfInBounds];rw[if_neg this]) (by simp) rfl rfl rfl (Dr.of (Nat.le_refl _)) (fun b hb=>.inl hb) (fun _=>by
   show _=_
   simp only[Array.getElem?_setIfInBounds,if_true,hlt])
  exact⟨F,_,_,⟨rfl,rfl⟩,⟨_,rfl,_,_,rfl,rfl,_,_,rfl,rfl,_,_,rfl,rfl,rfl⟩,this.1,this.2⟩⟩
theorem zdj {x:Operand} {s:ByteArray} {g p i:Nat} (hx:opD K x=some (.v (.pointer (some ⟨g,0,none⟩)))) (hm:nth H i=some (.it g s p)) (hp:s.size≤p):Pu P (.next x true) ty K H (.tup [.v (.bool false)]):=
 ⟨fun ρ w F hk _ hH=>by
  have e:ev ρ x=_:=hk.op hx
  have hb:w.heap[g]?=some (.stringIter s p):=hH _ (zaj hm)
  refine EOp.of_run (v:=.tuple #[.bool false]) (w':=w) ?_ ⟨rfl,_,rfl,_,_,rfl,rfl,rfl⟩
  simp[execOp,zas,e,Instr.next,getObj,Sem.run,hb,show ¬p<s.size by omega]⟩
theorem zY (s:ByteArray) (p:Nat):1≤decW s p:=by
 unfold decW Utf8.decode
 simp only
 (repeat' split)<;>simp
theorem zaN (s:ByteArray) (p:Nat) (h:p<s.size):p+decW s p≤s.size:=by
 unfold decW Utf8.decode
 simp only[Bool.and_eq_true,decide_eq_true_eq]
 (repeat' split)<;>simp<;>omega
def zaW (s:ByteArray) (p:Nat):List Int:=if h:p<s.size then(decR s p:Int)::zaW s (p+decW s p) else []
termination_by s.size-p
decreasing_by have:=zY s p;omega
theorem zaO {s:ByteArray} {p:Nat} (h:p<s.size):zaW s p=(decR s p:Int)::zaW s (p+decW s p):=by
 conv=>lhs;unfold zaW
 rw[dif_pos h]
theorem zbb {s:ByteArray} {p:Nat} (h:s.size≤p):zaW s p=[]:=by
 unfold zaW;rw[dif_neg (by omega)]
def zah (s:ByteArray):List Int:=zaW s 0
theorem runesAt_len (s:ByteArray):∀ (n p:Nat),s.size-p=n→(zaW s p).length≤s.size-p:=by
 intro n
 induction n using Nat.strongRecOn with
 | _ n ih=>
  intro p hp
  rcases Nat.lt_or_ge p s.size with h | h
  · have h1:=zY s p
    rw[zaO h,List.length_cons]
    have:=ih (s.size-(p+decW s p)) (by omega) _ rfl
    omega
  · rw[zbb h];simp
theorem zcM (s:ByteArray) (p:Nat):decR s p<1114112:=by
 unfold decR Utf8.decode
 simp only[Bool.and_eq_true,decide_eq_true_eq]
 have hv:∀ c,Utf8.valid c=true→c<1114112:=by
  intro c;unfold Utf8.valid;simp;intros;omega
 (repeat' split)
 all_goals first
  | (simp only[Utf8.runeError];omega)
  | (simp only;omega)
  | (rename_i h;have:=hv _ h.2;simp only;omega)
end
end Lp
namespace Lp
open Go
abbrev dN (n:Nat):D:=.v (.int .i64 (n:Int))
structure RowD where
 ls:List Lbl
 v:Int
 deriving DecidableEq
abbrev LLs:=List (List RowD)
theorem zdp {α:Type} {xs:List α} {k:Nat} {x:α} (h:xs[k]?=some x):xs.drop k=x::xs.drop (k+1):=by
 have hk:=zeG h
 rw[List.drop_eq_getElem_cons hk]
 congr 1
 exact(List.getElem?_eq_some_iff.1 h).2
theorem mem_get {α:Type} {xs:List α} {k:Nat} {x:α} (h:xs[k]?=some x):x∈xs:=List.mem_of_getElem? h
theorem same_ne_len {α:Type} [DecidableEq α] {a b:List α} (h:a.length≠b.length):decide (a=b)=false:=by
 rw[decide_eq_false];rintro rfl;exact h rfl
theorem same_ne_at {α:Type} [DecidableEq α] {a b:List α} {k:Nat} {x y:α} (hx:a[k]?=some x) (hy:b[k]?=some y) (h:x≠y):decide (a=b)=false:=by
 rw[decide_eq_false];rintro rfl;rw[hx] at hy;cases hy;exact h rfl
theorem same_all {α:Type} [DecidableEq α] {a b:List α} {k:Nat} (hl:a.length=b.length) (hk:a.length≤k) (h:a.take k=b.take k):decide (a=b)=true:=by
 rw[decide_eq_true];rwa [List.take_of_length_le hk,List.take_of_length_le (by omega)] at h
theorem same_snoc {α:Type} {a b:List α} {k:Nat} {x y:α} (hx:a[k]?=some x) (hy:b[k]?=some y) (h:a.take k=b.take k) (he:x=y):a.take (k+1)=b.take (k+1):=by rw[zaI hx,zaI hy,h,he]
end Lp
set_option linter.unusedVariables false
namespace Lp
open Go
def hd (ll:LLs) (k:Nat):Option RowD:=(ll[k]?).bind List.head?
end Lp
set_option linter.unusedVariables false
namespace Lp
open Go
def zM (r:Int):Int:=
 if r<0∨r=65533 then 0 else if (97≤r∧r≤122)∨(65≤r∧r≤90)∨r=95∨128≤r then 1 else if 48≤r∧r≤57 then 2 else if r=32∨r=9∨r=10 then 3 else 4
abbrev dR (n:Int):D:=.v (.int .i32 n)
def zcY:Nat→List Int→Bool
 | n,[]=>decide (1≤n)&&decide (n≤30)
 | n,r::rs=>if zM r≠1∧(zM r≠2∨n=0) then false else zcY (n+1) rs
def zck (s:ByteArray):Bool:=zcY 0 (zah s)
theorem nameR_bad {n:Nat} {r:Int} {rs:List Int} (h:zM r≠1∧(zM r≠2∨n=0)):zcY n (r::rs)=false:=by unfold zcY;rw[if_pos h]
theorem nameR_next {n:Nat} {r:Int} {rs:List Int} (h:¬(zM r≠1∧(zM r≠2∨n=0))):zcY n (r::rs)=zcY (n+1) rs:=by
 show (if zM r≠1∧(zM r≠2∨n=0) then false else zcY (n+1) rs)=_
 rw[if_neg h]
def zev (rs:List Int):Bool:=rs.all fun r=>decide (zM r=1∨zM r=2)
theorem wordR_cons {r:Int} {rs:List Int}:zev (r::rs)=(decide (zM r=1∨zM r=2)&&zev rs):=rfl
theorem nameR_word:∀ (rs:List Int) (n:Nat),1≤n→zcY n rs=(zev rs&&decide (n+rs.length≤30))
 | [],n,h=>by simp[zcY,zev,h]
 | r::rs,n,h=>by
  by_cases hr:zM r=1∨zM r=2
  · rw[nameR_next (by omega),nameR_word rs (n+1) (by omega),wordR_cons,decide_eq_true hr,Bool.true_and]
    congr 1;rw[decide_eq_decide,List.length_cons];omega
  · rw[nameR_bad (by omega),wordR_cons,decide_eq_false hr];rfl
theorem nameR_start (rs:List Int):zcY 0 rs=(decide (1≤rs.length)&&decide (rs.length≤30)&&decide (zM (rs.getD 0 0)=1)&&zev rs):=by
 cases rs with
 | nil=>simp[zcY]
 | cons r rs=>
  by_cases hr:zM r=1
  · rw[nameR_next (by omega),nameR_word rs 1 (by omega),wordR_cons,decide_eq_true (show zM r=1∨zM r=2 from .inl hr),Bool.true_and,Bool.and_comm (zev rs)]
    have e1:decide (zM ((r::rs).getD 0 0)=1)=true:=decide_eq_true hr
    rw[e1,Bool.and_true]
    congr 1
    rw[Bool.eq_iff_iff];simp[Nat.add_comm]
  · rw[nameR_bad (by omega)]
    have e1:decide (zM ((r::rs).getD 0 0)=1)=false:=decide_eq_false hr
    rw[e1,Bool.and_false];rfl
end Lp
set_option linter.unusedVariables false
namespace Lp
open Go
theorem zdv {α:Type} {o:List α} {k:Nat} {x:α} (h:o[k]?=some x):o.drop k=x::o.drop (k+1):=by
 obtain ⟨hk,e⟩:=List.getElem?_eq_some_iff.1 h
 rw[←e];exact List.drop_eq_getElem_cons hk
section
variable {l:List Lbl} {k:Nat} {x:Lbl}
end
def hasN (ns:List ByteArray) (n:ByteArray):Bool:=ns.any (fun m=>decide (m=n))
def pickL (l:List Lbl) (ns:List ByteArray) (w:Bool):List Lbl:=l.filter (fun x=>hasN ns x.n==w)
def idxN (n:ByteArray):Nat→List ByteArray→Int
 | _,[]=> -1
 | k,m::r=>if n=m then(k:Int) else idxN n (k+1) r
theorem idxN_has (n:ByteArray):∀ (ns:List ByteArray) (k:Nat),decide (0≤idxN n k ns)=hasN ns n
 | [],k=>rfl
 | m::r,k=>by
  unfold idxN hasN
  by_cases h:n=m
  · have h0:(0:Int)≤(k:Nat):=by omega
    simp[h,h0]
  · have h':¬m=n:=fun e=>h e.symm
    have:=idxN_has n r (k+1)
    unfold hasN at this
    rw[if_neg h,this];simp[h']
theorem idxN_at {n m:ByteArray} {ns:List ByteArray} {k:Nat} (hm:ns[k]?=some m) (h:idxN n 0 ns=idxN n k (ns.drop k)) (e:n=m):((k:Nat):Int)=idxN n 0 ns:=by
 rw[h,zdv hm];unfold idxN;rw[if_pos e]
theorem idxN_next {n m:ByteArray} {ns:List ByteArray} {k:Nat} (hm:ns[k]?=some m) (h:idxN n 0 ns=idxN n k (ns.drop k)) (e:¬n=m):idxN n 0 ns=idxN n (k+1) (ns.drop (k+1)):=by
 rw[h,zdv hm];conv=>lhs;unfold idxN
 rw[if_neg e]
theorem idxN_end {n:ByteArray} {ns:List ByteArray} {k:Nat} (hk:ns.length≤k) (h:idxN n 0 ns=idxN n k (ns.drop k)): -1=idxN n 0 ns:=by
 rw[h,List.drop_eq_nil_iff.2 hk];rfl
end Lp
set_option linter.unusedVariables false
namespace Lp
open Go
def encR (x:Nat):List UInt8:=
 if x≤127 then [UInt8.ofNat (x % 256)]
 else if x≤2047 then [UInt8.ofNat (192+x / 64 % 256),UInt8.ofNat (128+x % 256 % 64)]
 else if x<55296∨(57343<x∧x≤65535) then [UInt8.ofNat (224+x / 4096 % 256),UInt8.ofNat (128+x / 64 % 256 % 64),UInt8.ofNat (128+x % 256 % 64)]
 else if 65535<x∧x≤1114111 then [UInt8.ofNat (240+x / 262144 % 256),UInt8.ofNat (128+x / 4096 % 256 % 64),UInt8.ofNat (128+x / 64 % 256 % 64),UInt8.ofNat (128+x % 256 % 64)]
 else [239,191,189]
theorem zdK (x:Nat):(encR x).length≤4:=by unfold encR;(repeat' split)<;>simp
def hasP (a b:ByteArray):Bool:=decide (b.size≤a.size)&&decide (a.extract 0 b.size=b)
def wide:ByteArray:=⟨#[239,191,189]⟩
def hexd:ByteArray:=⟨#[48,49,50,51,52,53,54,55,56,57,97,98,99,100,101,102]⟩
def hexB (n:Nat):UInt8:=hexd[n]?.getD 0
def zO (s:ByteArray) (p:Nat):Nat:=(s[p]?.getD 0).toNat
def zcj (s:ByteArray) (p:Nat):List UInt8:=
 if decR s p=34∨decR s p=92 then 92::encR (decR s p)
 else if decR s p=10 then [92,110]
 else if decR s p=65533∧hasP (s.extract p s.size) wide=false then [92,120,hexB (zO s p / 16),hexB (zO s p % 16)]
 else encR (decR s p)
def zaf (s:ByteArray) (p:Nat):List UInt8:=if h:p<s.size then zcj s p++zaf s (p+decW s p) else []
termination_by s.size-p
decreasing_by have:=zY s p;omega
theorem zaR {s:ByteArray} {p:Nat} (h:p<s.size):zaf s p=zcj s p++zaf s (p+decW s p):=by
 conv=>lhs;unfold zaf
 rw[dif_pos h]
theorem zbp {s:ByteArray} {p:Nat} (h:s.size≤p):zaf s p=[]:=by
 unfold zaf;rw[dif_neg (by omega)]
def zaP (s:ByteArray):List UInt8:=34::(zaf s 0++[34])
def zaQ (s:ByteArray):ByteArray:=⟨(zaP s).toArray⟩
def joinL (sep:ByteArray):List ByteArray→List UInt8
 | []=>[]
 | [x]=>x.data.toList
 | x::y::r=>x.data.toList++sep.data.toList++joinL sep (y::r)
def joinB (sep:ByteArray) (l:List ByteArray):ByteArray:=⟨(joinL sep l).toArray⟩
def partB (x:Lbl):ByteArray:=x.n++(⟨#[61]⟩:ByteArray)++zaQ x.v
def textB (l:List Lbl):ByteArray:=(⟨#[123]⟩:ByteArray)++joinB ⟨#[44]⟩ (l.map partB)++(⟨#[125]⟩:ByteArray)
theorem piece_1 {s:ByteArray} {p:Nat} (h:decR s p=34∨decR s p=92):zcj s p=[92]++encR (decR s p):=by unfold zcj;rw[if_pos h];rfl
theorem piece_2 {s:ByteArray} {p:Nat} (h:¬(decR s p=34∨decR s p=92)) (h2:decR s p=10):zcj s p=[92,110]:=by unfold zcj;rw[if_neg h,if_pos h2]
theorem piece_3 {s:ByteArray} {p:Nat} (h:¬(decR s p=34∨decR s p=92)) (h2:¬decR s p=10) (h3:decR s p=65533∧hasP (s.extract p s.size) wide=false):zcj s p=[92,120,hexB (zO s p / 16),hexB (zO s p % 16)]:=by unfold zcj;rw[if_neg h,if_neg h2,if_pos h3]
theorem piece_4 {s:ByteArray} {p:Nat} (h:¬(decR s p=34∨decR s p=92)) (h2:¬decR s p=10) (h3:¬(decR s p=65533∧hasP (s.extract p s.size) wide=false)):zcj s p=encR (decR s p):=by unfold zcj;rw[if_neg h,if_neg h2,if_neg h3]
theorem hexB_at {n:Nat} {u:UInt8} (h:hexd[n]?=some u):u=hexB n:=by unfold hexB;rw[h];rfl
theorem zS {s:ByteArray} {p:Nat} {u:UInt8} (h:s[p]?=some u):u.toNat=zO s p:=by unfold zO;rw[h];rfl
theorem len_toList (x:ByteArray):x.data.toList.length=x.size:=by simp
end Lp
