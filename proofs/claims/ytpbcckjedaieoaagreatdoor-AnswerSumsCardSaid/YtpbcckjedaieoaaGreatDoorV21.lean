import Derived.Test.YtpbcckjedaieoaaGreatDoorPLaw11b
set_option linter.unusedVariables false
namespace Lp
open Go
abbrev smS1:ByteArray:=(⟨#[115,117,109,40,123,125,41]⟩:ByteArray)
abbrev smT1:List TokD:=[⟨1,0,(⟨#[115,117,109]⟩:ByteArray)⟩,⟨5,3,(⟨#[40]⟩:ByteArray)⟩,⟨5,4,(⟨#[123]⟩:ByteArray)⟩,⟨5,5,(⟨#[125]⟩:ByteArray)⟩,⟨5,6,(⟨#[41]⟩:ByteArray)⟩]
theorem sm_l1:lexL smS1=smT1/\lexE smS1=0:=zdt (by kernel_rfl) (by decide) (by decide)
abbrev smS2:ByteArray:=(⟨#[115,117,109,40,115,117,109,32,98,121,32,40,104,111,115,116,41,32,40,123,125,41,41]⟩:ByteArray)
abbrev smT2:List TokD:=[⟨1,0,(⟨#[115,117,109]⟩:ByteArray)⟩,⟨5,3,(⟨#[40]⟩:ByteArray)⟩,⟨1,4,(⟨#[115,117,109]⟩:ByteArray)⟩,⟨1,8,(⟨#[98,121]⟩:ByteArray)⟩,⟨5,11,(⟨#[40]⟩:ByteArray)⟩,⟨1,12,(⟨#[104,111,115,116]⟩:ByteArray)⟩,⟨5,16,(⟨#[41]⟩:ByteArray)⟩,⟨5,18,(⟨#[40]⟩:ByteArray)⟩,⟨5,19,(⟨#[123]⟩:ByteArray)⟩,⟨5,20,(⟨#[125]⟩:ByteArray)⟩,⟨5,21,(⟨#[41]⟩:ByteArray)⟩,⟨5,22,(⟨#[41]⟩:ByteArray)⟩]
theorem sm_l2:lexL smS2=smT2/\lexE smS2=0:=zdt (by kernel_rfl) (by decide) (by decide)
abbrev smS3:ByteArray:=(⟨#[115,117,109,40,115,117,109,32,119,105,116,104,111,117,116,32,40,104,111,115,116,41,32,40,123,125,41,41]⟩:ByteArray)
abbrev smT3:List TokD:=[⟨1,0,(⟨#[115,117,109]⟩:ByteArray)⟩,⟨5,3,(⟨#[40]⟩:ByteArray)⟩,⟨1,4,(⟨#[115,117,109]⟩:ByteArray)⟩,⟨1,8,(⟨#[119,105,116,104,111,117,116]⟩:ByteArray)⟩,⟨5,16,(⟨#[40]⟩:ByteArray)⟩,⟨1,17,(⟨#[104,111,115,116]⟩:ByteArray)⟩,⟨5,21,(⟨#[41]⟩:ByteArray)⟩,⟨5,23,(⟨#[40]⟩:ByteArray)⟩,⟨5,24,(⟨#[123]⟩:ByteArray)⟩,⟨5,25,(⟨#[125]⟩:ByteArray)⟩,⟨5,26,(⟨#[41]⟩:ByteArray)⟩,⟨5,27,(⟨#[41]⟩:ByteArray)⟩]
theorem sm_l3:lexL smS3=smT3/\lexE smS3=0:=zdt (by kernel_rfl) (by decide) (by decide)
abbrev smS4:ByteArray:=(⟨#[99,111,117,110,116,40,123,125,41]⟩:ByteArray)
abbrev smT4:List TokD:=[⟨1,0,(⟨#[99,111,117,110,116]⟩:ByteArray)⟩,⟨5,5,(⟨#[40]⟩:ByteArray)⟩,⟨5,6,(⟨#[123]⟩:ByteArray)⟩,⟨5,7,(⟨#[125]⟩:ByteArray)⟩,⟨5,8,(⟨#[41]⟩:ByteArray)⟩]
theorem sm_l4:lexL smS4=smT4/\lexE smS4=0:=zdt (by kernel_rfl) (by decide) (by decide)
abbrev smS5:ByteArray:=(⟨#[123,125]⟩:ByteArray)
abbrev smT5:List TokD:=[⟨5,0,(⟨#[123]⟩:ByteArray)⟩,⟨5,1,(⟨#[125]⟩:ByteArray)⟩]
theorem sm_l5:lexL smS5=smT5/\lexE smS5=0:=zdt (by kernel_rfl) (by decide) (by decide)
def smN:Nd:=.mk nSel ByteArray.empty 0 0 [] [] []
def smH:Nd:=.mk tAgg bSum 0 1 [zaW] [] [smN]
def smW:Nd:=.mk tAgg bSum 0 2 [zaW] [] [smN]
def smQ1:Nd:=.mk tAgg bSum 0 0 [] [] [smN]
def smQ2:Nd:=.mk tAgg bSum 0 0 [] [] [smH]
def smQ3:Nd:=.mk tAgg bSum 0 0 [] [] [smW]
def smQ4:Nd:=.mk tAgg zbq 0 0 [] [] [smN]
theorem sm_r1:zc7 smS1=0/\zc6 smS1=⟨smQ1,0,-1,-1⟩:=zeZ sm_l1 (by kernel_rfl)
theorem sm_r2:zc7 smS2=0/\zc6 smS2=⟨smQ2,0,-1,-1⟩:=zeZ sm_l2 (by kernel_rfl)
theorem sm_r3:zc7 smS3=0/\zc6 smS3=⟨smQ3,0,-1,-1⟩:=zeZ sm_l3 (by kernel_rfl)
theorem sm_r4:zc7 smS4=0/\zc6 smS4=⟨smQ4,0,-1,-1⟩:=zeZ sm_l4 (by kernel_rfl)
theorem sm_r5:zc7 smS5=0/\zc6 smS5=⟨smN,0,-1,-1⟩:=zeZ sm_l5 (by kernel_rfl)
def StR (S:List SerD):Prop:=∀ s∈S,zbY s.ls=true/\∀ p∈s.ps,zQ p.v=true
theorem putS_r {S:List SerD} (h:StR S) (key:List Lbl) (t x:Int):StR (putS S key t x).1:=by
 have hnew:zaG key t x=true->StR (newS S key t x).1:=by
  intro hk;unfold newS;split
  · exact h
  intro s hs;rcases jK.1 hs with hs | hs
  · exact h s (uH hs)
  rcases dO.1 hs with rfl | hs
  · exact⟨(zeK hk).1,λp hp=>by rw[dW.1 hp];exact(zeK hk).2.2.2⟩
  exact h s (u5 hs)
 cases hk:zaG key t x with
 | false=>rw[putS_bad hk];exact h
 | true=>
  by_cases hx:∃ s,S[posS key S]?=some s/\zw s.ls key=0
  · obtain ⟨s,hs,he⟩:=hx;rw[putS_old hk hs he];unfold oldS;split
    · exact h
    split
    · exact h
    intro q hq;have hm:=h s (d4 hs);rcases vV hq with hq | rfl
    · exact h q hq
    refine⟨hm.1,λp hp=>?_⟩;rcases jK.1 hp with hp | hp
    · exact hm.2 p hp
    rw[dW.1 hp];exact(zeK hk).2.2.2
  rw[putS_new hk (λs hs he=>hx ⟨s,hs,he⟩)];exact hnew hk
theorem mkS_r (l:List OpD):StR (mkS l):=by
 have key:∀ (l:List OpD) (S:List SerD),StR S->StR (l.foldl zeR S):=by
  intro l
  induction l with
  | nil=>intro S h;exact h
  | cons o l ih=>
   intro S h;refine ih _ ?_;show StR (zeR S o);unfold zeR;split
   · exact h
   exact putS_r h _ _ _
 exact key l [] (λs hs=>by cases hs)
theorem wLast_mem {l:List PtD} {t w v:Int} (h:zch l t w=(v,true)):∃ p∈l,p.v=v:=by
 unfold zch at h;cases e:(wOf l t w).getLast? with
 | none=>rw[e] at h;cases h
 | some p=>
  rw[e] at h;injection h with h1;refine⟨p,?_,h1⟩;have hm:=List.mem_of_getLast? e;unfold wOf at hm;split at hm
  · exact(jZ.1 hm).1
  cases hm
theorem selR_mem {S:List SerD} {t:Int} {r:RowD} (h:r∈selR S t):∃ s∈S,r.ls=s.ls/\∃ p∈s.ps,p.v=r.v:=by
 unfold selR at h;obtain ⟨s,hs,he⟩:=List.mem_filterMap.1 h;refine⟨s,hs,?_⟩;rcases e:zch s.ps t 300 with ⟨v,b⟩;rw[e] at he;cases b with
 | false=>cases he
 | true=>injection he with he;subst he;exact⟨rfl,wLast_mem e⟩
theorem selR_ls {t:Int} {s:SerD} {r:RowD} (h:r∈selR [s] t):r.ls=s.ls:=by
 obtain ⟨q,hq,e,_⟩:=selR_mem h;rw[dW.1 hq] at e;exact e
theorem sel_strict {S:List SerD} {t:Int} (h:S.Pairwise λa b=>zw a.ls b.ls<0):zbF cL (selR S t):=by
 induction S with
 | nil=>exact List.Pairwise.nil
 | cons s S ih=>
  have e:selR (s::S) t=selR [s] t++selR S t:=by unfold selR;rw[<-List.filterMap_append];rfl
  obtain ⟨h1,h2⟩:=dS.1 h;rw[e];refine jG.2 ⟨?_,ih h2,λa ha b hb=>?_⟩
  · have hl:=selR_len [s] t;rcases e2:selR [s] t with _ | ⟨x,_ | ⟨y,r⟩⟩
    · exact List.Pairwise.nil
    · exact List.pairwise_singleton _ _
    rw[e2] at hl;simp at hl
  obtain ⟨q,hq,eq,_⟩:=selR_mem hb;show zw a.ls b.ls<0;rw[selR_ls ha,eq];exact h1 q hq
theorem sel_vr {S:List SerD} (h:StOk S) (hr:StR S) (t:Int):z7 (selR S t)=true:=by
 refine vr_of (by have:=selR_len S t;have:=h.len;omega) (λr hm=>?_) (sel_strict h.srt);obtain ⟨s,hs,e,p,hp,ev⟩:=selR_mem hm;have hk:=hr s hs;have hrt:zZ s.ls=true:=by have:=hk.1;unfold zbY at this;rw[c8] at this;exact this.1
 exact okRow_of (by rw[e];exact hrt) (by rw[<-ev];exact hk.2 p hp)
structure SmOk (S:List SerD) (t:Int):Prop where
 t0:0<=t
 t1:t<=1000000000
 hn:S.length<=1000
 hs:∀ s∈S,s.ls.length<=1000000/\s.ps.length<=1000000
 vr:z7 (selR S t)=true
 len:(selR S t).length<=40
 sm:∀ r∈selR S t,-1000000<=r.v/\r.v<=1000000
theorem smOk {S:List SerD} {t:Int} (h:StOk S) (hr:StR S) (t0:0<=t) (t1:t<=1000000000) (hs:∀ s∈S,∀ p∈s.ps,-1000000<=p.v/\p.v<=1000000):SmOk S t:=
 ⟨t0,t1,jA h.len (by decide),λs hm=>⟨(h.ok s hm).2.2,jA (h.ok s hm).2.1 (by decide)⟩,sel_vr h hr t,jA (selR_len S t) h.len,λr hm=>by
  obtain ⟨s,hs',_,p,hp,ev⟩:=selR_mem hm;rw[<-ev];exact hs s hs' p hp⟩
theorem sm_g {g:List RowD} (hl:g.length<=60) (hb:∀ r∈g,-1000000000<=r.v/\r.v<=1000000000):numF (.sums false) g=(tot (g.map (·.v)),0)/\ -60000000000<=tot (g.map (·.v))/\tot (g.map (·.v))<=60000000000:=by
 have hv:∀ x∈g.map (·.v),-1000000000<=x/\x<=1000000000:=λx hx=>by obtain ⟨r,hr,rfl⟩:=jX.1 hx;exact hb r hr
 have t1:=tot_le (l:=g.map (·.v)) (λx hx=>(hv x hx).2);have t2:=tot_ge (l:=g.map (·.v)) (λx hx=>(hv x hx).1);have hml:(g.map (·.v)).length=g.length:=cW _;rw[hml] at t1 t2;have hall:allR (g.map (·.v))=true:=by
  unfold allR;rw[c8,dK,decide_eq_true_eq];refine⟨λx hx=>?_,by rw[hml];omega⟩;have:=hv x hx;exact rV (by omega) (by omega)
 refine⟨?_,by omega,by omega⟩;show sumE (g.map (·.v))=_;unfold sumE;rw[if_pos hall,within_ok (rV (by omega) (by omega))]
section
variable {mode:Int} {names:List ByteArray} {a:List RowD}
theorem sm_out (h:z7 a=true) (hl:a.length<=60) (hb:∀ r∈a,-1000000000<=r.v/\r.v<=1000000000):gdE (.sums false) mode names a=0/\gdL (.sums false) mode names a=outR (kapB mode names) (.sums false) (zF mode names a):=
 gd_out h (λg hg=>by
  obtain ⟨_,h2,h3⟩:=grp h hg;have:=sm_g (g:=g) (by omega) (λr hr=>hb r (h2 r hr));rw[this.1];exact⟨rfl,rV (by show _<=tot _;omega) (by show tot _<=_;omega)⟩)
theorem sm_all (h:z7 a=true) (hl:a.length<=60) (hb:∀ r∈a,-1000000000<=r.v/\r.v<=1000000000):gdE (.sums false) 0 [] a=0/\gdL (.sums false) 0 [] a=if a=[] then [] else [⟨[],tot (a.map (·.v))⟩]:=by
 have h1:=sm_out (mode:=0) (names:=[]) h hl hb;have hs:zF 0 [] a=if a=[] then [] else [a]:=by rw[zcl h];exact split_one (c:=[]) (λr=>rfl) a
 refine⟨h1.1,h1.2.trans ?_⟩;rw[hs];by_cases e:a=[]
 · rw[if_pos e,if_pos e];rfl
 rw[if_neg e,if_neg e];have hg:=(sm_g hl hb).1;obtain ⟨x,r,rfl⟩:=List.exists_cons_of_ne_nil e;show [RowD.mk (byL 0 [] x.ls) (numF (.sums false) (x::r)).1]=_;rw[hg];rfl
structure SmBy (G a:List RowD):Prop where
 vr:z7 G=true
 len:G.length<=a.length
 bd:∀ r∈G,-1000000000<=r.v/\r.v<=1000000000
 tt:tot (G.map (·.v))=tot (a.map (·.v))
 ne:G=[]↔a=[]
theorem sm_by (h:z7 a=true) (hl:a.length<=40) (hb:∀ r∈a,-1000000<=r.v/\r.v<=1000000):gdE (.sums false) mode names a=0/\SmBy (gdL (.sums false) mode names a) a:=by
 have hb9:∀ r∈a,-1000000000<=r.v/\r.v<=1000000000:=λr hr=>by have:=hb r hr;omega
 have h1:=sm_out (mode:=mode) (names:=names) h (by omega) hb9;have hg:∀ g∈zF mode names a,numF (.sums false) g=(tot (g.map (·.v)),0)/\ -1000000000<=tot (g.map (·.v))/\tot (g.map (·.v))<=1000000000:=λg hg=>by
  obtain ⟨_,h2,h3⟩:=grp h hg;refine⟨(sm_g (by omega) (λr hr=>hb9 r (h2 r hr))).1,?_⟩;have hv:∀ x∈g.map (·.v),-1000000<=x/\x<=1000000:=λx hx=>by obtain ⟨r,hr,rfl⟩:=jX.1 hx;exact hb r (h2 r hr)
  have t1:=tot_le (l:=g.map (·.v)) (λx hx=>(hv x hx).2);have t2:=tot_ge (l:=g.map (·.v)) (λx hx=>(hv x hx).1);rw[cW] at t1 t2;omega
 refine⟨h1.1,?_⟩;rw[h1.2];have hlen:=splitG_len (κ:=kapB mode names) a;have hc:=cntG_split (κ:=kapB mode names) a;refine⟨out_vr h (λg hg'=>?_),?_,λr hr=>?_,?_,?_,λe=>?_⟩
 · rw[(hg g hg').1];have:=(hg g hg').2;exact rV (by show _<=tot _;omega) (by show tot _<=_;omega)
 · rw[out_len,zcl h];exact hlen
 · obtain ⟨g,hg',rfl⟩:=jX.1 hr;show _<=(numF (.sums false) g).1/\(numF (.sums false) g).1<=_;rw[(hg g hg').1];exact(hg g hg').2
 · unfold outR;rw[List.map_map];rw[show ((zF mode names a).map ((λr:RowD=>r.v) ∘ λg=>⟨zaM (kapB mode names) g,(numF (.sums false) g).1⟩))=(zF mode names a).map (λg=>tot (g.map (·.v))) from List.map_congr_left (λg hg'=>by show (numF (.sums false) g).1=_;rw[(hg g hg').1])];rw[zcl h];exact totG_split a
 · intro e;have e2:zF mode names a=[]:=vA.1 e;rw[zcl h] at e2;rw[e2] at hc;have:(a.length:Int)=0:=hc.symm;exact jV.1 (by omega)
 subst e;rw[zcl h];rfl
end
def smA (X:List RowD):List RowD:=if X=[] then [] else [⟨[],tot (X.map (·.v))⟩]
def smC (X:List RowD):List RowD:=if X=[] then [] else [⟨[],(X.length:Int)⟩]
section
variable {S:List SerD} {t:Int}
theorem sm_sel (h:SmOk S t):rtL (selR (named ByteArray.empty S) t)=selR S t/\rtE (selR (named ByteArray.empty S) t)=0:=by
 rw[show named ByteArray.empty S=S from if_pos rfl];exact rt_self h.vr
theorem sm_1 (h:SmOk S t):gdL (.sums false) 0 [] (selR S t)=smA (selR S t)/\gdE (.sums false) 0 [] (selR S t)=0:=by
 have:=sm_all h.vr (jA h.len (by decide)) (λr hr=>by have:=h.sm r hr;omega);exact⟨this.2,this.1⟩
theorem sm_2 (h:SmOk S t) (mode:Int) (names:List ByteArray):gdE (.sums false) mode names (selR S t)=0/\(gdL (.sums false) mode names (selR S t)).length<=40/\gdL (.sums false) 0 [] (gdL (.sums false) mode names (selR S t))=smA (selR S t)/\gdE (.sums false) 0 [] (gdL (.sums false) mode names (selR S t))=0:=by
 obtain ⟨h0,hb⟩:=sm_by (mode:=mode) (names:=names) h.vr h.len h.sm;have hl:=hb.len;have hx:=h.len;have h1:=sm_all hb.vr (by omega) hb.bd;refine⟨h0,by omega,?_,h1.1⟩;rw[h1.2,hb.tt];unfold smA;by_cases e:selR S t=[]
 · rw[if_pos e,if_pos (hb.ne.2 e)]
 rw[if_neg e,if_neg (λq=>e (hb.ne.1 q))]
theorem sm_4 (h:SmOk S t):gdL .many 0 [] (selR S t)=smC (selR S t)/\gdE .many 0 [] (selR S t)=0:=by
 have:=many_all h.vr;exact⟨this.2,this.1⟩
end
def okSer (s:SerD):Prop:=∀ p∈s.ps,-1000000<=p.v/\p.v<=1000000
theorem sall_next {α:Type} {Q:α->Prop} {l:List α} {k:Nat} {x:α} (h:∀ s∈l.take k,Q s) (hx:l[k]?=some x) (hq:Q x):∀ s∈l.take (k+1),Q s:=by
 intro s hs;rw[zU hx] at hs;rcases jK.1 hs with hs | hs
 · exact h s hs
 rw[dW.1 hs];exact hq
theorem sall_none {α:Type} {Q:α->Prop} {l:List α}:∀ s∈l.take 0,Q s:=λs hs=>by cases hs
theorem ser_all {x:SerD} {k:Nat} (h:∀ p∈x.ps.take k,-1000000<=p.v/\p.v<=1000000) (hk:x.ps.length<=k):okSer x:=by
 rw[dE hk] at h;exact h
theorem sm_fin {l:List OpD} {t:Int} {k:Nat} (h:∀ s∈(mkS l).take k,okSer s) (hk:(mkS l).length<=k) (t0:0<=t) (t1:t<=1000000000):SmOk (mkS l) t:=by
 rw[dE hk] at h;exact smOk (mkS_ok l) (mkS_r l) t0 t1 h
def totK (X:List RowD) (k:Nat):Int:=tot ((X.map (·.v)).take k)
theorem totK_next {X:List RowD} {k:Nat} {x:RowD} (h:X[k]?=some x):totK X (k+1)=totK X k+x.v:=tot_snoc (by rw[jB,h];rfl)
theorem totK_bd {S:List SerD} {t:Int} (h:SmOk S t) (k:Nat): -40000000<=totK (selR S t) k/\totK (selR S t) k<=40000000:=by
 have hv:∀ x∈((selR S t).map (·.v)).take k,-1000000<=x/\x<=1000000:=λx hx=>by obtain ⟨r,hr,rfl⟩:=jX.1 (uH hx);exact h.sm r hr
 have t1:=tot_le (λx hx=>(hv x hx).2);have t2:=tot_ge (λx hx=>(hv x hx).1);rw[dG,cW] at t1 t2;have:=h.len;unfold totK;omega
theorem sm_end {X:List RowD} {k:Nat} (hk:X.length<=k):(X.length=0/\(smA X).length=0/\(smC X).length=0)\/(X.length≠0/\(smA X).length=1/\(smC X).length=1/\∃ r q,(smA X)[0]?=some r/\r.v=totK X k/\(smC X)[0]?=some q/\q.v=((X.length:Nat):Int)):=by
 by_cases e:X=[]
 · subst e;exact .inl ⟨rfl,rfl,rfl⟩
 have hA:smA X=[⟨[],tot (X.map (·.v))⟩]:=if_neg e;have hC:smC X=[⟨[],(X.length:Int)⟩]:=if_neg e;refine .inr ⟨λh=>e (jV.1 h),by rw[hA];rfl,by rw[hC];rfl,_,_,by rw[hA];rfl,?_,by rw[hC];rfl,O⟩;show tot (X.map (·.v))=totK X k;unfold totK;rw[dE (by rw[cW];exact hk)]
end Lp
set_option linter.unusedSimpArgs false
set_option maxHeartbeats 4000000
set_option maxRecDepth 100000
namespace Lp
open Go Go.RowKit Go.Proofs Tryz
theorem readsm_1 (ev es:Value) (hev:EvOk ev) (hes:EvOk es):CD prog 12 [HPow,HErr ev,HSyn es] [.v (.string smS1)] (λr H'=>r=.tup [.agg [.s tAgg,.s bSum,dI 0,dI 0,.sh 1 (([]:List ByteArray).map D.s),.sh 3 (([]:List MatD).map MatD.d),.sh 7 (Nd.ds [smN]),dI 0,dI (-1),dI (-1)],dI 0]/\H'=[HPow,HErr ev,HSyn es]):=by
 have h:=ze7 smS1 ev es hev hes;rw[sm_r1.1,sm_r1.2] at h;refine CD.to ⟨λw F vs hvs hF hH=>h.out w F vs (by obtain ⟨u,us,e,hu,hus⟩:=hvs;exact⟨u,us,e,⟨hu,by decide⟩,hus⟩) hF hH⟩ ?_;rintro r H' ⟨op,text,n,mode,names,ms,kids,o,a,b,e,rfl,rfl⟩;injection e with e1 e2 e3 e4;subst e2;subst e3;subst e4;injection e1 with a1 a2 a3 a4 a5 a6 a7;subst a1;subst a2;subst a3;subst a4;subst a5;subst a6;subst a7;exact⟨O,O⟩
theorem readsm_2 (ev es:Value) (hev:EvOk ev) (hes:EvOk es):CD prog 12 [HPow,HErr ev,HSyn es] [.v (.string smS2)] (λr H'=>r=.tup [.agg [.s tAgg,.s bSum,dI 0,dI 0,.sh 1 (([]:List ByteArray).map D.s),.sh 3 (([]:List MatD).map MatD.d),.sh 7 (Nd.ds [smH]),dI 0,dI (-1),dI (-1)],dI 0]/\H'=[HPow,HErr ev,HSyn es]):=by
 have h:=ze7 smS2 ev es hev hes;rw[sm_r2.1,sm_r2.2] at h;refine CD.to ⟨λw F vs hvs hF hH=>h.out w F vs (by obtain ⟨u,us,e,hu,hus⟩:=hvs;exact⟨u,us,e,⟨hu,by decide⟩,hus⟩) hF hH⟩ ?_;rintro r H' ⟨op,text,n,mode,names,ms,kids,o,a,b,e,rfl,rfl⟩;injection e with e1 e2 e3 e4;subst e2;subst e3;subst e4;injection e1 with a1 a2 a3 a4 a5 a6 a7;subst a1;subst a2;subst a3;subst a4;subst a5;subst a6;subst a7;exact⟨O,O⟩
theorem readsm_3 (ev es:Value) (hev:EvOk ev) (hes:EvOk es):CD prog 12 [HPow,HErr ev,HSyn es] [.v (.string smS3)] (λr H'=>r=.tup [.agg [.s tAgg,.s bSum,dI 0,dI 0,.sh 1 (([]:List ByteArray).map D.s),.sh 3 (([]:List MatD).map MatD.d),.sh 7 (Nd.ds [smW]),dI 0,dI (-1),dI (-1)],dI 0]/\H'=[HPow,HErr ev,HSyn es]):=by
 have h:=ze7 smS3 ev es hev hes;rw[sm_r3.1,sm_r3.2] at h;refine CD.to ⟨λw F vs hvs hF hH=>h.out w F vs (by obtain ⟨u,us,e,hu,hus⟩:=hvs;exact⟨u,us,e,⟨hu,by decide⟩,hus⟩) hF hH⟩ ?_;rintro r H' ⟨op,text,n,mode,names,ms,kids,o,a,b,e,rfl,rfl⟩;injection e with e1 e2 e3 e4;subst e2;subst e3;subst e4;injection e1 with a1 a2 a3 a4 a5 a6 a7;subst a1;subst a2;subst a3;subst a4;subst a5;subst a6;subst a7;exact⟨O,O⟩
theorem readsm_4 (ev es:Value) (hev:EvOk ev) (hes:EvOk es):CD prog 12 [HPow,HErr ev,HSyn es] [.v (.string smS4)] (λr H'=>r=.tup [.agg [.s tAgg,.s zbq,dI 0,dI 0,.sh 1 (([]:List ByteArray).map D.s),.sh 3 (([]:List MatD).map MatD.d),.sh 7 (Nd.ds [smN]),dI 0,dI (-1),dI (-1)],dI 0]/\H'=[HPow,HErr ev,HSyn es]):=by
 have h:=ze7 smS4 ev es hev hes;rw[sm_r4.1,sm_r4.2] at h;refine CD.to ⟨λw F vs hvs hF hH=>h.out w F vs (by obtain ⟨u,us,e,hu,hus⟩:=hvs;exact⟨u,us,e,⟨hu,by decide⟩,hus⟩) hF hH⟩ ?_;rintro r H' ⟨op,text,n,mode,names,ms,kids,o,a,b,e,rfl,rfl⟩;injection e with e1 e2 e3 e4;subst e2;subst e3;subst e4;injection e1 with a1 a2 a3 a4 a5 a6 a7;subst a1;subst a2;subst a3;subst a4;subst a5;subst a6;subst a7;exact⟨O,O⟩
theorem readsm_5 (ev es:Value) (hev:EvOk ev) (hes:EvOk es):CD prog 12 [HPow,HErr ev,HSyn es] [.v (.string smS5)] (λr H'=>r=.tup [.agg [.s nSel,.s ByteArray.empty,dI 0,dI 0,.sh 1 (([]:List ByteArray).map D.s),.sh 3 (([]:List MatD).map MatD.d),.sh 7 (Nd.ds ([]:List Nd)),dI 0,dI (-1),dI (-1)],dI 0]/\H'=[HPow,HErr ev,HSyn es]):=by
 have h:=ze7 smS5 ev es hev hes;rw[sm_r5.1,sm_r5.2] at h;refine CD.to ⟨λw F vs hvs hF hH=>h.out w F vs (by obtain ⟨u,us,e,hu,hus⟩:=hvs;exact⟨u,us,e,⟨hu,by decide⟩,hus⟩) hF hH⟩ ?_;rintro r H' ⟨op,text,n,mode,names,ms,kids,o,a,b,e,rfl,rfl⟩;injection e with e1 e2 e3 e4;subst e2;subst e3;subst e4;injection e1 with a1 a2 a3 a4 a5 a6 a7;subst a1;subst a2;subst a3;subst a4;subst a5;subst a6;subst a7;exact⟨O,O⟩
theorem zf6 (S:List SerD) (t:Int) (hok:SmOk S t):CD prog 48 [] [.agg [.el (.agg [.sh 2 (S.map SerD.d)]) 0,dI t],Nd.d smN] (isR (.tup [.ifc 36 (.sh 2 ((selR S t).map RowD.d)),dI 0])):=by
 have h:=of_sel S t ByteArray.empty 0 0 [] [] hok.hn hok.hs;rw[(sm_sel hok).1,(sm_sel hok).2] at h;exact h
theorem sm_c1 (S:List SerD) (t:Int) (hok:SmOk S t):CD prog 48 [] [.agg [.el (.agg [.sh 2 (S.map SerD.d)]) 0,dI t],Nd.d smQ1] (isR (.tup [.ifc 36 (.sh 2 ((smA (selR S t)).map RowD.d)),dI 0])):=by
 have h:=zfp S t 0 0 [] [smN] smN (selR S t) (by decide) O (zf6 S t hok) (by have:=hok.len;omega);rw[(sm_1 hok).1,(sm_1 hok).2] at h;exact h
theorem sm_c4 (S:List SerD) (t:Int) (hok:SmOk S t):CD prog 48 [] [.agg [.el (.agg [.sh 2 (S.map SerD.d)]) 0,dI t],Nd.d smQ4] (isR (.tup [.ifc 36 (.sh 2 ((smC (selR S t)).map RowD.d)),dI 0])):=by
 have h:=of_aggC S t 0 0 [] [smN] smN (selR S t) (by decide) O (zf6 S t hok) (by have:=hok.len;omega);rw[(sm_4 hok).1,(sm_4 hok).2] at h;exact h
theorem sm_ch (S:List SerD) (t:Int) (hok:SmOk S t):CD prog 48 [] [.agg [.el (.agg [.sh 2 (S.map SerD.d)]) 0,dI t],Nd.d smH] (isR (.tup [.ifc 36 (.sh 2 ((gdL (.sums false) 1 [zaW] (selR S t)).map RowD.d)),dI 0])):=by
 have h:=zfp S t 0 1 [zaW] [smN] smN (selR S t) (by decide) O (zf6 S t hok) (by have:=hok.len;omega);rw[(sm_2 hok 1 [zaW]).1] at h;exact h
theorem sm_c2 (S:List SerD) (t:Int) (hok:SmOk S t):CD prog 48 [] [.agg [.el (.agg [.sh 2 (S.map SerD.d)]) 0,dI t],Nd.d smQ2] (isR (.tup [.ifc 36 (.sh 2 ((smA (selR S t)).map RowD.d)),dI 0])):=by
 have h:=zfp S t 0 0 [] [smH] smH (gdL (.sums false) 1 [zaW] (selR S t)) (by decide) O (sm_ch S t hok) (by have:=(sm_2 hok 1 [zaW]).2.1;omega);rw[(sm_2 hok 1 [zaW]).2.2.1,(sm_2 hok 1 [zaW]).2.2.2] at h;exact h
theorem sm_cw (S:List SerD) (t:Int) (hok:SmOk S t):CD prog 48 [] [.agg [.el (.agg [.sh 2 (S.map SerD.d)]) 0,dI t],Nd.d smW] (isR (.tup [.ifc 36 (.sh 2 ((gdL (.sums false) 2 [zaW] (selR S t)).map RowD.d)),dI 0])):=by
 have h:=zfp S t 0 2 [zaW] [smN] smN (selR S t) (by decide) O (zf6 S t hok) (by have:=hok.len;omega);rw[(sm_2 hok 2 [zaW]).1] at h;exact h
theorem sm_c3 (S:List SerD) (t:Int) (hok:SmOk S t):CD prog 48 [] [.agg [.el (.agg [.sh 2 (S.map SerD.d)]) 0,dI t],Nd.d smQ3] (isR (.tup [.ifc 36 (.sh 2 ((smA (selR S t)).map RowD.d)),dI 0])):=by
 have h:=zfp S t 0 0 [] [smW] smW (gdL (.sums false) 2 [zaW] (selR S t)) (by decide) O (sm_cw S t hok) (by have:=(sm_2 hok 2 [zaW]).2.1;omega);rw[(sm_2 hok 2 [zaW]).2.2.1,(sm_2 hok 2 [zaW]).2.2.2] at h;exact h
theorem sm_q1 (S:List SerD) (t:Int) (hok:SmOk S t):CD prog 13 [] [.el (.agg [.sh 2 (S.map SerD.d)]) 0,.agg [.s tAgg,.s bSum,dI 0,dI 0,.sh 1 (([]:List ByteArray).map D.s),.sh 3 (([]:List MatD).map MatD.d),.sh 7 (Nd.ds [smN]),dI 0,dI (-1),dI (-1)],dI t] (isR (.tup [(D.ls 2 RowD.d) (smA (selR S t)),dI 0])):=zdT S t tAgg bSum 0 0 [] [] [smN] (smA (selR S t)) (by decide) (by kernel_rfl) (zeO S t tAgg bSum 0 0 [] [] [smN] (smA (selR S t)) hok.t0 hok.t1 (by decide) (by kernel_rfl) (sm_c1 S t hok))
theorem sm_q2 (S:List SerD) (t:Int) (hok:SmOk S t):CD prog 13 [] [.el (.agg [.sh 2 (S.map SerD.d)]) 0,.agg [.s tAgg,.s bSum,dI 0,dI 0,.sh 1 (([]:List ByteArray).map D.s),.sh 3 (([]:List MatD).map MatD.d),.sh 7 (Nd.ds [smH]),dI 0,dI (-1),dI (-1)],dI t] (isR (.tup [(D.ls 2 RowD.d) (smA (selR S t)),dI 0])):=zdT S t tAgg bSum 0 0 [] [] [smH] (smA (selR S t)) (by decide) (by kernel_rfl) (zeO S t tAgg bSum 0 0 [] [] [smH] (smA (selR S t)) hok.t0 hok.t1 (by decide) (by kernel_rfl) (sm_c2 S t hok))
theorem sm_q3 (S:List SerD) (t:Int) (hok:SmOk S t):CD prog 13 [] [.el (.agg [.sh 2 (S.map SerD.d)]) 0,.agg [.s tAgg,.s bSum,dI 0,dI 0,.sh 1 (([]:List ByteArray).map D.s),.sh 3 (([]:List MatD).map MatD.d),.sh 7 (Nd.ds [smW]),dI 0,dI (-1),dI (-1)],dI t] (isR (.tup [(D.ls 2 RowD.d) (smA (selR S t)),dI 0])):=zdT S t tAgg bSum 0 0 [] [] [smW] (smA (selR S t)) (by decide) (by kernel_rfl) (zeO S t tAgg bSum 0 0 [] [] [smW] (smA (selR S t)) hok.t0 hok.t1 (by decide) (by kernel_rfl) (sm_c3 S t hok))
theorem sm_q4 (S:List SerD) (t:Int) (hok:SmOk S t):CD prog 13 [] [.el (.agg [.sh 2 (S.map SerD.d)]) 0,.agg [.s tAgg,.s zbq,dI 0,dI 0,.sh 1 (([]:List ByteArray).map D.s),.sh 3 (([]:List MatD).map MatD.d),.sh 7 (Nd.ds [smN]),dI 0,dI (-1),dI (-1)],dI t] (isR (.tup [(D.ls 2 RowD.d) (smC (selR S t)),dI 0])):=zdT S t tAgg zbq 0 0 [] [] [smN] (smC (selR S t)) (by decide) (by kernel_rfl) (zeO S t tAgg zbq 0 0 [] [] [smN] (smC (selR S t)) hok.t0 hok.t1 (by decide) (by kernel_rfl) (sm_c4 S t hok))
theorem sm_q5 (S:List SerD) (t:Int) (hok:SmOk S t):CD prog 13 [] [.el (.agg [.sh 2 (S.map SerD.d)]) 0,.agg [.s nSel,.s ByteArray.empty,dI 0,dI 0,.sh 1 (([]:List ByteArray).map D.s),.sh 3 (([]:List MatD).map MatD.d),.sh 7 (Nd.ds ([]:List Nd)),dI 0,dI (-1),dI (-1)],dI t] (isR (.tup [(D.ls 2 RowD.d) (selR S t),dI 0])):=zdT S t nSel ByteArray.empty 0 0 [] [] [] (selR S t) (by decide) (by kernel_rfl) (zeO S t nSel ByteArray.empty 0 0 [] [] [] (selR S t) hok.t0 hok.t1 (by decide) (by kernel_rfl) (zf6 S t hok))
theorem asksm1_c (S:List SerD) (t:Int) (ev es:Value) (hok:SmOk S t) (hev:EvOk ev) (hes:EvOk es):
 CD prog 7 [HPow,HErr ev,HSyn es] [.el (.agg [.sh 2 (S.map SerD.d)]) 0,.v (.string smS1),dI t] (λr H'=>r=.tup [(D.ls 2 RowD.d) (smA (selR S t)),dI 0]/\H'=[HPow,HErr ev,HSyn es]):=by
 refine tZ func7 O O (λC=>?_);refine T.bd 0 O (λbd0=>?_);refine g' 9 O (tX [0,0,0] O O acs (readsm_1 ev es hev hes) ?_);rintro _ _ ⟨rfl,rfl⟩;refine g' 3 O ?_;refine tA O (λg1=>?_);refine gQ 11 [0] O O ?_;refine tD O (λhc2=>?_) (λhc2=>?_)
 · exfalso;omega
 refine gQ 7 [0] O O (tW O acs (sm_q1 S t hok) (g' 7 O (kE 3 O (kE 3 O (kE 3 O ?_)))));exact tR O (mT 3 O) ⟨O,O⟩
theorem asksm2_c (S:List SerD) (t:Int) (ev es:Value) (hok:SmOk S t) (hev:EvOk ev) (hes:EvOk es):
 CD prog 7 [HPow,HErr ev,HSyn es] [.el (.agg [.sh 2 (S.map SerD.d)]) 0,.v (.string smS2),dI t] (λr H'=>r=.tup [(D.ls 2 RowD.d) (smA (selR S t)),dI 0]/\H'=[HPow,HErr ev,HSyn es]):=by
 refine tZ func7 O O (λC=>?_);refine T.bd 0 O (λbd0=>?_);refine g' 9 O (tX [0,0,0] O O acs (readsm_2 ev es hev hes) ?_);rintro _ _ ⟨rfl,rfl⟩;refine g' 3 O ?_;refine tA O (λg1=>?_);refine gQ 11 [0] O O ?_;refine tD O (λhc2=>?_) (λhc2=>?_)
 · exfalso;omega
 refine gQ 7 [0] O O (tW O acs (sm_q2 S t hok) (g' 7 O (kE 3 O (kE 3 O (kE 3 O ?_)))));exact tR O (mT 3 O) ⟨O,O⟩
theorem asksm3_c (S:List SerD) (t:Int) (ev es:Value) (hok:SmOk S t) (hev:EvOk ev) (hes:EvOk es):
 CD prog 7 [HPow,HErr ev,HSyn es] [.el (.agg [.sh 2 (S.map SerD.d)]) 0,.v (.string smS3),dI t] (λr H'=>r=.tup [(D.ls 2 RowD.d) (smA (selR S t)),dI 0]/\H'=[HPow,HErr ev,HSyn es]):=by
 refine tZ func7 O O (λC=>?_);refine T.bd 0 O (λbd0=>?_);refine g' 9 O (tX [0,0,0] O O acs (readsm_3 ev es hev hes) ?_);rintro _ _ ⟨rfl,rfl⟩;refine g' 3 O ?_;refine tA O (λg1=>?_);refine gQ 11 [0] O O ?_;refine tD O (λhc2=>?_) (λhc2=>?_)
 · exfalso;omega
 refine gQ 7 [0] O O (tW O acs (sm_q3 S t hok) (g' 7 O (kE 3 O (kE 3 O (kE 3 O ?_)))));exact tR O (mT 3 O) ⟨O,O⟩
theorem asksm4_c (S:List SerD) (t:Int) (ev es:Value) (hok:SmOk S t) (hev:EvOk ev) (hes:EvOk es):
 CD prog 7 [HPow,HErr ev,HSyn es] [.el (.agg [.sh 2 (S.map SerD.d)]) 0,.v (.string smS4),dI t] (λr H'=>r=.tup [(D.ls 2 RowD.d) (smC (selR S t)),dI 0]/\H'=[HPow,HErr ev,HSyn es]):=by
 refine tZ func7 O O (λC=>?_);refine T.bd 0 O (λbd0=>?_);refine g' 9 O (tX [0,0,0] O O acs (readsm_4 ev es hev hes) ?_);rintro _ _ ⟨rfl,rfl⟩;refine g' 3 O ?_;refine tA O (λg1=>?_);refine gQ 11 [0] O O ?_;refine tD O (λhc2=>?_) (λhc2=>?_)
 · exfalso;omega
 refine gQ 7 [0] O O (tW O acs (sm_q4 S t hok) (g' 7 O (kE 3 O (kE 3 O (kE 3 O ?_)))));exact tR O (mT 3 O) ⟨O,O⟩
theorem asksm5_c (S:List SerD) (t:Int) (ev es:Value) (hok:SmOk S t) (hev:EvOk ev) (hes:EvOk es):
 CD prog 7 [HPow,HErr ev,HSyn es] [.el (.agg [.sh 2 (S.map SerD.d)]) 0,.v (.string smS5),dI t] (λr H'=>r=.tup [(D.ls 2 RowD.d) (selR S t),dI 0]/\H'=[HPow,HErr ev,HSyn es]):=by
 refine tZ func7 O O (λC=>?_);refine T.bd 0 O (λbd0=>?_);refine g' 9 O (tX [0,0,0] O O acs (readsm_5 ev es hev hes) ?_);rintro _ _ ⟨rfl,rfl⟩;refine g' 3 O ?_;refine tA O (λg1=>?_);refine gQ 11 [0] O O ?_;refine tD O (λhc2=>?_) (λhc2=>?_)
 · exfalso;omega
 refine gQ 7 [0] O O (tW O acs (sm_q5 S t hok) (g' 7 O (kE 3 O (kE 3 O (kE 3 O ?_)))));exact tR O (mT 3 O) ⟨O,O⟩
theorem refTidy_c (l:List Lbl) (hz:∀ x∈l,x.n.size<=1000000):
 CD prog 38 [] [.sh 2 (l.map Lbl.d)] (λr H'=>∃ v0_,r=.tup [.ov v0_,dB (zas l)]/\H'=[.sl v0_ 2 52 ((zY l).map Lbl.d)]):=by
 refine tZ func38 O O (λC=>?_);refine T.bd 0 O (λbd0=>?_);have nl0:=zA bd0;refine g' 15 O (tP O (zH (n:=l.length) O runUnderlying30 (by simp only[lm,lc,ln])) (g' 3 O ?_));refine tD O (λhc1=>?_) (λhc1=>?_)
 · refine g' 8 O (kC (HSub.nil 2 52) (kC (mG (h':=.sl (.slice none 0 0) 2 52 ((zY l).map Lbl.d)) O (mI (congrArg (List.map Lbl.d) (show []=zY l by first | exact(RT.long hc1).1 | exact(RT.long hc1).2)))) ?_));exact tRs O results38 (.cons (zf (zd O) (Cv.ov O)) (.cons (zf (zd O) (cB ((by first | exact(RT.long hc1).1 | exact(RT.long hc1).2)))) .nil)) O (mT 1 O) ⟨(.slice none 0 0),O,O⟩
 refine g' 9 O (tl3 (λ(a_:Nat) (b_:Value) (c_:List Lbl)=>[(0,.sh 2 (l.map Lbl.d)),(5,dN a_),(4,.ov b_)]) (λa_ b_ c_=>[.sl b_ 2 52 (c_.map Lbl.d)]) (λa_ b_ c_=>(a_<=l.length)/\(RT l a_ c_)) (λa_ b_ c_=>l.length-a_) 0 (.slice none 0 0) [] O ⟨sk O,sk O,sc O (Cv.ov O),trivial⟩ (HSub.nil 2 52) ⟨c7 _,RT.zero l⟩ ?_);rintro i ov o ⟨hil,hrt⟩;have hol:=hrt.len hil;refine g' 5 O (tP O (zH (n:=l.length) O runUnderlying30 (by simp only[lm,lc,ln])) (g' 3 O ?_));refine tD O (λhc2=>?_) (λhc2=>?_)
 · obtain ⟨x1,hx1⟩:=zj l i (by omega);refine g' 6 O ?_;rcases jY (zbu x1.n) with hg3 | hg3
   · by_cases hg4:x1.v=ByteArray.empty
     · refine g' 3 O (tP O (zh (k:=i) O O runUnderlying30 sizeOf52 (by first | rfl | omega) (ze hx1)) (g' 2 O (tW O acs (refName_c x1.n (by have:=hz x1 (zaw hx1);omega)) (ts 21 O (congrArg (λb=>D.v (.bool b)) hg3) (g' 4 O (tG O (zh (k:=i) O O runUnderlying30 sizeOf52 (by first | rfl | omega) (ze hx1)) (g' 2 O (tG O (zaO O O (decide_eq_true hg4)) (g' 26 O (kC (HSub.nil 2 52) (kC (mG (h':=.sl (.slice none 0 0) 2 52 ((zY l).map Lbl.d)) O (mI (congrArg (List.map Lbl.d) (show []=zY l by first | exact(mX hx1 (zex hg4)).1 | exact(mX hx1 (zex hg4)).2)))) ?_)))))))))));exact tRs O results38 (.cons (zf (zd O) (Cv.ov O)) (.cons (zf (zd O) (cB ((by first | exact(mX hx1 (zex hg4)).1 | exact(mX hx1 (zex hg4)).2)))) .nil)) O (mT 1 O) ⟨(.slice none 0 0),O,O⟩
     refine g' 3 O (tP O (zh (k:=i) O O runUnderlying30 sizeOf52 (by first | rfl | omega) (ze hx1)) (g' 2 O (tW O acs (refName_c x1.n (by have:=hz x1 (zaw hx1);omega)) (ts 21 O (congrArg (λb=>D.v (.bool b)) hg3) (g' 4 O (tG O (zh (k:=i) O O runUnderlying30 sizeOf52 (by first | rfl | omega) (ze hx1)) (g' 2 O (tG O (zaO O O (decide_eq_false hg4)) (g' 4 O (tG O (zh (k:=i) O O runUnderlying30 sizeOf52 (by first | rfl | omega) (ze hx1)) (g' 2 O (tG O (z6 O runUnderlying9) (g' 4 O ?_)))))))))))));refine tD O (λhc5=>?_) (λhc5=>?_)
     · refine g' 13 O (kC (HSub.nil 2 52) (kC (mG (h':=.sl (.slice none 0 0) 2 52 ((zY l).map Lbl.d)) O (mI (congrArg (List.map Lbl.d) (show []=zY l by first | exact(mX hx1 (zew hc5)).1 | exact(mX hx1 (zew hc5)).2)))) ?_));exact tRs O results38 (.cons (zf (zd O) (Cv.ov O)) (.cons (zf (zd O) (cB ((by first | exact(mX hx1 (zew hc5)).1 | exact(mX hx1 (zew hc5)).2)))) .nil)) O (mT 1 O) ⟨(.slice none 0 0),O,O⟩
     refine g' 9 O (tl1 (λ(a_:Nat)=>[(0,.sh 2 (l.map Lbl.d)),(4,.ov ov),(5,dN i),(10,dN i),(11,.sh 2 (l.map Lbl.d)),(12,dN l.length),(13,dB (decide (((i:Nat):Int)<((l.length:Nat):Int)))),(16,.sh 2 (l.map Lbl.d)),(17,dN i),(18,.el (Lbl.d x1) 0),(19,.el (Lbl.d x1) 0),(20,.s x1.n),(21,dB true),(22,dB false),(23,dB false),(24,.sh 2 (l.map Lbl.d)),(25,dN i),(26,.el (Lbl.d x1) 0),(27,.el (Lbl.d x1) 1),(28,.s x1.v),(29,dB false),(30,dB false),(31,dB false),(32,.sh 2 (l.map Lbl.d)),(33,dN i),(34,.el (Lbl.d x1) 0),(35,.el (Lbl.d x1) 1),(36,.s x1.v),(37,dN x1.v.size),(38,dB (decide ((60:Int)<((x1.v.size:Nat):Int)))),(39,dB (decide ((60:Int)<((x1.v.size:Nat):Int)))),(6,dN a_)]) (λa_=>[.sl ov 2 52 (o.map Lbl.d)]) (λa_=>(a_<=o.length)/\(∀ j y,j<a_->o[j]?=some y->cmpS y.n x1.n<0)) (λa_=>o.length-a_) 0 O (sa O) mD ⟨c7 _,λj y hj=>absurd hj (Nat.not_lt_zero j)⟩ ?_);rintro k ⟨hko,hlo⟩;refine g' 2 O ?_;by_cases hg6:((k:Nat):Int)<((o.length:Nat):Int)
     · refine T.keep [0,4,5,6,10,11,12,13,16,17,18,19,20,21,22,23,24,25,26,27,28,29,30,31,32,33,34,35,36,37,38,39] O ?_;obtain ⟨x2,hx2⟩:=zj o k (by omega);refine tDr 15 [(40,dN k,none),(41,.ov ov,none),(42,dN o.length,none),(43,dB true,none),(44,dB true,none),(45,.ov ov,none),(46,dN k,none),(47,.v (.pointer (some ⟨bl ov,k*2+0,none⟩)),none),(48,.v (.pointer (some ⟨bl ov,k*2+0,none⟩)),none),(49,.s x2.n,none),(50,.sh 2 (l.map Lbl.d),none),(51,dN i,none),(52,.el (Lbl.d x1) 0,none),(53,.el (Lbl.d x1) 0,none),(54,.s x1.n,none)] [.sl ov 2 52 (o.map Lbl.d)] (Hn:=[.sl ov 2 52 (o.map Lbl.d)]) mixed O O O O mD O ⟨sa_p O O O (zc O),sa_p O O O (zc O),sa_p O O O (zG (n:=o.length) (j:=0) O O runUnderlying30 (cW _)),sa_p O O O (zba O O (decide_eq_true hg6)),sa_p O O O (zc O),zo O O O O O O (zc O).qu,zo O O O O O O (zc O).qu,zo O O O O O O (zg (k:=k) (j:=0) O O O runUnderlying30 sizeOf52 (by first | rfl | omega) (ze hx2)).qu,zo O O O O O O (zl O zbh O).qu,zo O O O O O O (zaA O (i:=0) O (ze hx2) isAgg9 O).qu,zo O O O O O O (zc O).qu,zo O O O O O O (zc O).qu,zo O O O O O O (zh (k:=i) O O runUnderlying30 sizeOf52 (by first | rfl | omega) (ze hx1)).qu,zo O O O O O O (zD O zbh O).qu,zo O O O O O O (zK O isAgg9 O).qu,trivial⟩ ?_;refine tK O (tG O (p_lts O O O) (g' 3 O ?_));refine tD O (λhc7=>?_) (λhc7=>?_)
       · refine g' 5 O (tP O (zu (c:=((k+1:Nat):Int)) O O (zk (by omega) (by omega))) (g' 3 O ?_));exact tp1 (k+1) (sa rfl) mD ⟨by show k+1<=o.length;omega,by intro j z hj hz;rcases dH j k with e | e;(exact hlo j z e hz);(obtain rfl:j=k:=by omega);rw[hx2] at hz;injection hz with hz;subst hz;exact hc7⟩ (by omega)
       refine g' 7 O (T.keep [0,4,5,6,10,11,12,13,16,17,18,19,20,21,22,23,24,25,26,27,28,29,30,31,32,33,34,35,36,37,38,39,40,41,42,43,44,45,46,47,48,49,50,51,52,53,54,55,56] O ?_);refine tDr 15 [(59,dN k,none),(60,.ov ov,none),(61,dN o.length,none),(62,dB true,none),(63,dB true,none),(64,.ov ov,none),(65,dN k,none),(66,.v (.pointer (some ⟨bl ov,k*2+0,none⟩)),none),(67,.v (.pointer (some ⟨bl ov,k*2+0,none⟩)),none),(68,.s x2.n,none),(69,.sh 2 (l.map Lbl.d),none),(70,dN i,none),(71,.el (Lbl.d x1) 0,none),(72,.el (Lbl.d x1) 0,none),(73,.s x1.n,none)] [.sl ov 2 52 (o.map Lbl.d)] (Hn:=[.sl ov 2 52 (o.map Lbl.d)]) mixed O O O O mD O ⟨sa_p O O O (zc O),sa_p O O O (zc O),sa_p O O O (zG (n:=o.length) (j:=0) O O runUnderlying30 (cW _)),sa_p O O O (zba O O (decide_eq_true hg6)),sa_p O O O (zc O),zo O O O O O O (zc O).qu,zo O O O O O O (zc O).qu,zo O O O O O O (zg (k:=k) (j:=0) O O O runUnderlying30 sizeOf52 (by first | rfl | omega) (ze hx2)).qu,zo O O O O O O (zl O zbh O).qu,zo O O O O O O (zaA O (i:=0) O (ze hx2) isAgg9 O).qu,zo O O O O O O (zc O).qu,zo O O O O O O (zc O).qu,zo O O O O O O (zh (k:=i) O O runUnderlying30 sizeOf52 (by first | rfl | omega) (ze hx1)).qu,zo O O O O O O (zD O zbh O).qu,zo O O O O O O (zK O isAgg9 O).qu,trivial⟩ ?_;refine tK O (g' 4 O ?_);refine tD O (λhc8=>?_) (λhc8=>?_)
       · refine g' 13 O (kC (HSub.nil 2 52) (kC (mG (h':=.sl (.slice none 0 0) 2 52 ((zY l).map Lbl.d)) O (mI (congrArg (List.map Lbl.d) (show []=zY l by first | exact(hrt.bad2 hx1 hx2 hc8).1 | exact(hrt.bad2 hx1 hx2 hc8).2)))) ?_));exact tRs O results38 (.cons (zf (zd O) (Cv.ov O)) (.cons (zf (zd O) (cB ((by first | exact(hrt.bad2 hx1 hx2 hc8).1 | exact(hrt.bad2 hx1 hx2 hc8).2)))) .nil)) O (mT 1 O) ⟨(.slice none 0 0),O,O⟩
       refine g' 2 O (T.keep [0,4,5,6,10,11,12,13,16,17,18,19,20,21,22,23,24,25,26,27,28,29,30,31,32,33,34,35,36,37,38,39,40,41,42,43,44,45,46,47,48,49,50,51,52,53,54,55,56,59,60,61,62,63,64,65,66,67,68,69,70,71,72,73,74,75] O ?_);refine tDo 13 [(76,.q (.ov ov)),(77,.q (dN k)),(78,.q (.v (cut 2 ov 0 k))),(79,.o (λγ=>[.sl (γ 3) 2 52 (((o.take k).drop 0).map Lbl.d),.sl ov 2 52 (o.map Lbl.d)])),(80,.q (.sh 2 (l.map Lbl.d))),(81,.q (dN i)),(82,.q (.el (Lbl.d x1) 0)),(83,.q (Lbl.d x1)),(84,.q (.sh 2 ([x1].map Lbl.d))),(85,.o (λγ=>[.sl (γ 9) 2 52 ((((o.take k).drop 0)++[x1]).map Lbl.d),.sl ov 2 52 (o.map Lbl.d)])),(86,.q (.ov ov)),(87,.q (dN k)),(88,.q (.v (cut 2 ov k o.length)))] [.sl ov 2 52 (o.map Lbl.d)] (Hn:=λγ=>[.sl (γ 9) 2 52 ((((o.take k).drop 0)++[x1]).map Lbl.d),.sl ov 2 52 (o.map Lbl.d)]) mixed O O (by kernel_rfl) (by kernel_rfl) (by kernel_rfl) mD (λ_=>rfl) (λγ=>⟨so_p rfl rfl rfl (zc rfl),so_p rfl rfl rfl (zc rfl),so_p rfl rfl rfl (zaa (a:=0) (b:=k) (j:=0) rfl rfl rfl rfl (by first | rfl | (show _=_;(try simp only[lm]);omega) | exact cW _) (by first | rfl | (show _=_;(try simp only[lm]);omega) | exact cW _) runUnderlying30 sizeOf52 (by omega) (by (try simp only[lm,la,lc,ln]);first | omega | decide)),so_o rfl rfl rfl rfl ((zbD (f:=Lbl.d) (l':=((o.take k).drop 0)) rfl rfl ((by rw[jR,jQ];exact mL (j:=1) rfl (by omega) (by (try simp only[lm]);omega))) zd9 zdc rfl rfl (by unfold maxLen;(try simp only[la,lc,ln,lm,lt',ld,ls,lr]);omega) (by (try simp only[la,lc,ln,lm,lt',ld,ls,lr]);omega)).mono (by rintro _ _ ⟨v,rfl,rfl⟩;exact⟨v,rfl,rfl⟩)) (λ_=>mU 1 rfl),so_p rfl rfl rfl (zc rfl),so_p rfl rfl rfl (zc rfl),so_p rfl rfl rfl (zh (k:=i) rfl rfl runUnderlying30 sizeOf52 (by first | rfl | omega) (ze hx1)),so_p rfl rfl rfl (zbp (d:=Lbl.d x1) rfl isAgg52 sizeOf52 rfl rfl),so_q rfl rfl rfl (zm [.tmp 83] rfl rfl (.cons CellD.agg .nil) rfl runUnderlying30 sizeOf52 zeroValue52 rfl rfl rfl rfl),so_o rfl rfl rfl rfl ((zy (f:=Lbl.d) (l:=((o.take k).drop 0)) (l':=[x1]) (i:=0) rfl rfl rfl (SrcD.sh) zd9 zdc rfl rfl (by unfold maxLen;(try simp only[la,lc,ln,lm,lt',ld,ls,lr]);omega) (by (try simp only[la,lc,ln,lm,lt',ld,ls,lr]);omega)).mono (by rintro _ _ ⟨v,rfl,rfl⟩;exact⟨v,rfl,rfl⟩)) (λ_=>mU 1 rfl),so_p rfl rfl rfl (zc rfl),so_p rfl rfl rfl (zc rfl),so_p rfl rfl rfl (zaa (a:=k) (b:=o.length) (j:=0) rfl rfl rfl rfl (by first | rfl | (show _=_;(try simp only[lm]);omega) | exact cW _) (by first | rfl | (show _=_;(try simp only[lm]);omega) | exact cW _) runUnderlying30 sizeOf52 (by omega) (by (try simp only[lm,la,lc,ln]);first | omega | decide)),trivial⟩) (λγ=>?_);refine tK O (tE O (zy (f:=Lbl.d) (l:=(((o.take k).drop 0)++[x1])) (l':=((o.take o.length).drop k)) (i:=0) O O O ((by rw[jR,jQ];exact mL (j:=1) O (by omega) (by (try simp only[lm]);omega))) zd9 zdc O O (by unfold maxLen;(try simp only[la,lc,ln,lm,lt',ld,ls,lr]);omega) (by (try simp only[la,lc,ln,lm,lt',ld,ls,lr]);omega)) ?_);rintro _ _ ⟨v9,rfl,rfl⟩;refine g' 6 O (tP O (zu (c:=((i+1:Nat):Int)) O O (zk (by omega) (by omega))) (g' 2 O (kC (mT 1 O) ?_)));exact tp3 (i+1) v9 ((((o.take k).drop 0)++[x1])++((o.take o.length).drop k)) (sa O) mD ⟨by show i+1<=l.length;omega,hrt.next hx1 (okL_t hg3 hg4 hc5) hlo (.inr ⟨_,hx2,hc7,hc8⟩)⟩ (by omega)
     refine T.keep [0,4,5,6,10,11,12,13,16,17,18,19,20,21,22,23,24,25,26,27,28,29,30,31,32,33,34,35,36,37,38,39] O (tDr 15 [(40,dN k,none),(41,.ov ov,none),(42,dN o.length,none),(43,dB false,none),(44,dB false,none),(45,.v undef,none),(46,.v undef,none),(47,.v undef,none),(48,.v undef,none),(49,.v undef,none),(50,.v undef,none),(51,.v undef,none),(52,.v undef,none),(53,.v undef,none),(54,.v undef,none)] [.sl ov 2 52 (o.map Lbl.d)] (Hn:=[.sl ov 2 52 (o.map Lbl.d)]) mixed O O O O mD O ⟨sa_p O O O (zc O),sa_p O O O (zc O),sa_p O O O (zG (n:=o.length) (j:=0) O O runUnderlying30 (cW _)),sa_p O O O (zba O O (decide_eq_false hg6)),sa_p O O O (zc O),sa_s O O O O O O (by decide),sa_s O O O O O O (by decide),sa_s O O O O O O (by decide),sa_s O O O O O O (by decide),sa_s O O O O O O (by decide),sa_s O O O O O O (by decide),sa_s O O O O O O (by decide),sa_s O O O O O O (by decide),sa_s O O O O O O (by decide),sa_s O O O O O O (by decide),trivial⟩ (tK O (g' 12 O ?_)));refine T.keep [0,4,5,6,10,11,12,13,16,17,18,19,20,21,22,23,24,25,26,27,28,29,30,31,32,33,34,35,36,37,38,39,40,41,42,43,44,45,46,47,48,49,50,51,52,53,54,55,56] O (tDr 15 [(59,dN k,none),(60,.ov ov,none),(61,dN o.length,none),(62,dB false,none),(63,dB false,none),(64,.v undef,none),(65,.v undef,none),(66,.v undef,none),(67,.v undef,none),(68,.v undef,none),(69,.v undef,none),(70,.v undef,none),(71,.v undef,none),(72,.v undef,none),(73,.v undef,none)] [.sl ov 2 52 (o.map Lbl.d)] (Hn:=[.sl ov 2 52 (o.map Lbl.d)]) mixed O O O O mD O ⟨sa_p O O O (zc O),sa_p O O O (zc O),sa_p O O O (zG (n:=o.length) (j:=0) O O runUnderlying30 (cW _)),sa_p O O O (zba O O (decide_eq_false hg6)),sa_p O O O (zc O),sa_s O O O O O O (by decide),sa_s O O O O O O (by decide),sa_s O O O O O O (by decide),sa_s O O O O O O (by decide),sa_s O O O O O O (by decide),sa_s O O O O O O (by decide),sa_s O O O O O O (by decide),sa_s O O O O O O (by decide),sa_s O O O O O O (by decide),sa_s O O O O O O (by decide),trivial⟩ (tK O ?_));refine g' 7 O (T.keep [0,4,5,6,10,11,12,13,16,17,18,19,20,21,22,23,24,25,26,27,28,29,30,31,32,33,34,35,36,37,38,39,40,41,42,43,44,45,46,47,48,49,50,51,52,53,54,55,56,59,60,61,62,63,64,65,66,67,68,69,70,71,72,73,74,75] O ?_);refine tDo 13 [(76,.q (.ov ov)),(77,.q (dN k)),(78,.q (.v (cut 2 ov 0 k))),(79,.o (λγ=>[.sl (γ 3) 2 52 (((o.take k).drop 0).map Lbl.d),.sl ov 2 52 (o.map Lbl.d)])),(80,.q (.sh 2 (l.map Lbl.d))),(81,.q (dN i)),(82,.q (.el (Lbl.d x1) 0)),(83,.q (Lbl.d x1)),(84,.q (.sh 2 ([x1].map Lbl.d))),(85,.o (λγ=>[.sl (γ 9) 2 52 ((((o.take k).drop 0)++[x1]).map Lbl.d),.sl ov 2 52 (o.map Lbl.d)])),(86,.q (.ov ov)),(87,.q (dN k)),(88,.q (.v (cut 2 ov k o.length)))] [.sl ov 2 52 (o.map Lbl.d)] (Hn:=λγ=>[.sl (γ 9) 2 52 ((((o.take k).drop 0)++[x1]).map Lbl.d),.sl ov 2 52 (o.map Lbl.d)]) mixed O O (by kernel_rfl) (by kernel_rfl) (by kernel_rfl) mD (λ_=>rfl) (λγ=>⟨so_p rfl rfl rfl (zc rfl),so_p rfl rfl rfl (zc rfl),so_p rfl rfl rfl (zaa (a:=0) (b:=k) (j:=0) rfl rfl rfl rfl (by first | rfl | (show _=_;(try simp only[lm]);omega) | exact cW _) (by first | rfl | (show _=_;(try simp only[lm]);omega) | exact cW _) runUnderlying30 sizeOf52 (by omega) (by (try simp only[lm,la,lc,ln]);first | omega | decide)),so_o rfl rfl rfl rfl ((zbD (f:=Lbl.d) (l':=((o.take k).drop 0)) rfl rfl ((by rw[jR,jQ];exact mL (j:=1) rfl (by omega) (by (try simp only[lm]);omega))) zd9 zdc rfl rfl (by unfold maxLen;(try simp only[la,lc,ln,lm,lt',ld,ls,lr]);omega) (by (try simp only[la,lc,ln,lm,lt',ld,ls,lr]);omega)).mono (by rintro _ _ ⟨v,rfl,rfl⟩;exact⟨v,rfl,rfl⟩)) (λ_=>mU 1 rfl),so_p rfl rfl rfl (zc rfl),so_p rfl rfl rfl (zc rfl),so_p rfl rfl rfl (zh (k:=i) rfl rfl runUnderlying30 sizeOf52 (by first | rfl | omega) (ze hx1)),so_p rfl rfl rfl (zbp (d:=Lbl.d x1) rfl isAgg52 sizeOf52 rfl rfl),so_q rfl rfl rfl (zm [.tmp 83] rfl rfl (.cons CellD.agg .nil) rfl runUnderlying30 sizeOf52 zeroValue52 rfl rfl rfl rfl),so_o rfl rfl rfl rfl ((zy (f:=Lbl.d) (l:=((o.take k).drop 0)) (l':=[x1]) (i:=0) rfl rfl rfl (SrcD.sh) zd9 zdc rfl rfl (by unfold maxLen;(try simp only[la,lc,ln,lm,lt',ld,ls,lr]);omega) (by (try simp only[la,lc,ln,lm,lt',ld,ls,lr]);omega)).mono (by rintro _ _ ⟨v,rfl,rfl⟩;exact⟨v,rfl,rfl⟩)) (λ_=>mU 1 rfl),so_p rfl rfl rfl (zc rfl),so_p rfl rfl rfl (zc rfl),so_p rfl rfl rfl (zaa (a:=k) (b:=o.length) (j:=0) rfl rfl rfl rfl (by first | rfl | (show _=_;(try simp only[lm]);omega) | exact cW _) (by first | rfl | (show _=_;(try simp only[lm]);omega) | exact cW _) runUnderlying30 sizeOf52 (by omega) (by (try simp only[lm,la,lc,ln]);first | omega | decide)),trivial⟩) (λγ=>?_);refine tK O (tE O (zy (f:=Lbl.d) (l:=(((o.take k).drop 0)++[x1])) (l':=((o.take o.length).drop k)) (i:=0) O O O ((by rw[jR,jQ];exact mL (j:=1) O (by omega) (by (try simp only[lm]);omega))) zd9 zdc O O (by unfold maxLen;(try simp only[la,lc,ln,lm,lt',ld,ls,lr]);omega) (by (try simp only[la,lc,ln,lm,lt',ld,ls,lr]);omega)) ?_);rintro _ _ ⟨v10,rfl,rfl⟩;refine g' 6 O (tP O (zu (c:=((i+1:Nat):Int)) O O (zk (by omega) (by omega))) (g' 2 O (kC (mT 1 O) ?_)));exact tp3 (i+1) v10 ((((o.take k).drop 0)++[x1])++((o.take o.length).drop k)) (sa O) mD ⟨by show i+1<=l.length;omega,hrt.next hx1 (okL_t hg3 hg4 hc5) hlo (.inl (by omega))⟩ (by omega)
   refine g' 3 O (tP O (zh (k:=i) O O runUnderlying30 sizeOf52 (by first | rfl | omega) (ze hx1)) (g' 2 O (tW O acs (refName_c x1.n (by have:=hz x1 (zaw hx1);omega)) (ts 21 O (congrArg (λb=>D.v (.bool b)) hg3) (g' 34 O (kC (HSub.nil 2 52) (kC (mG (h':=.sl (.slice none 0 0) 2 52 ((zY l).map Lbl.d)) O (mI (congrArg (List.map Lbl.d) (show []=zY l by first | exact(mX hx1 (zey hg3)).1 | exact(mX hx1 (zey hg3)).2)))) ?_)))))));exact tRs O results38 (.cons (zf (zd O) (Cv.ov O)) (.cons (zf (zd O) (cB ((by first | exact(mX hx1 (zey hg3)).1 | exact(mX hx1 (zey hg3)).2)))) .nil)) O (mT 1 O) ⟨(.slice none 0 0),O,O⟩
 refine g' 13 O (kC (mG (h':=.sl ov 2 52 ((zY l).map Lbl.d)) O (mI (congrArg (List.map Lbl.d) (show o=zY l by first | exact(hrt.done (by omega) (by omega)).1 | exact(hrt.done (by omega) (by omega)).2)))) ?_);exact tRs O results38 (.cons (zd O) (.cons (zf (zd O) (cB ((by first | exact(hrt.done (by omega) (by omega)).1 | exact(hrt.done (by omega) (by omega)).2)))) .nil)) O (mT 1 O) ⟨ov,O,O⟩
theorem refRight_c (l:List Lbl) (hz:∀ x∈l,x.n.size<=1000000):
 CD prog 21 [] [.sh 2 (l.map Lbl.d)] (isR (dB (zZ l))):=by
 refine tZ func21 O O (λC=>?_);refine T.bd 0 O (λbd0=>?_);have nl0:=zA bd0;refine g' 8 O (tX [] O O acs (refTidy_c l hz) ?_);rintro _ _ ⟨v1,rfl,rfl⟩;refine g' 11 O ?_;refine tAnd 1 4 (c:=decide (zw (zY l) l=(0:Int))) O O O O O O (λhb2 nx3=>?_) ?_
 · refine g' 2 O (tV [0] O O (.cons (mP (j:=0) O O) (ga .nil)) (refCompare_c (zY l) l) O (g' 1 O ?_));exact nx3 _ O O (kx 4 O O)
 refine g' 4 O ?_;exact tRs O results21 (.cons (zf (zd O) (cB ((by rfl)))) .nil) O HSub.none ⟨O,O⟩
end Lp
