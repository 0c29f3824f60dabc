import Derived.Test.YtpbcckjedaieoaaGreatDoorPVect
set_option linter.unusedSimpArgs false
set_option linter.unusedVariables false
namespace Lp
open Go
theorem rowsB_iff {l:List RowD}:zc5 l=true↔∀ r∈l,zbt r=true:=by rw[rowsB_ok,dK]
theorem right_n {l:List Lbl} (h:zZ l=true):zY l=l/\zbI l=0/\NSrt l/\(∀ x∈l,okL x=true)/\l.length<=8:=by
 unfold zZ at h;rw[c8,decide_eq_true_eq] at h;have e:=zeG.1 h.2;have e0:zbI l=0:=by have:=tidyOk_E l;rw[h.1] at this;exact of_decide_eq_true this
 have hn:=tidy_n e0;rw[e] at hn;exact⟨e,e0,hn.1,hn.2,tidy_ok_len h.1⟩
theorem right_of {l:List Lbl} (h1:l.length<=8) (h2:NSrt l) (h3:∀ x∈l,okL x=true):zZ l=true:=by
 obtain ⟨e1,e2⟩:=tidyOk_of h1 h2 (vM l) h3;unfold zZ zY;rw[e1,e2];simp[cmpLs_self]
theorem right_pick {l:List Lbl} (h:zZ l=true) (ns:List ByteArray) (w:Bool):zZ (zbl l ns w)=true:=by
 obtain ⟨_,_,h3,h4,h5⟩:=right_n h;exact right_of (jA (pickL_len _ _ _) h5) (List.Pairwise.filter _ h3) (λx hx=>h4 x (pickL_mem hx))
theorem right_key {l:List Lbl} (h:zZ l=true) (mode:Int) (ns:List ByteArray):zZ (keyL mode ns l)=true:=by
 unfold keyL;split
 · exact right_pick h _ _
 split
 · exact right_pick (right_pick h _ _) _ _
 exact right_pick h _ _
theorem okRow_r {r:RowD} (h:zbt r=true):zZ r.ls=true/\zQ r.v=true:=by unfold zbt at h;rwa [c8] at h
theorem okRow_of {r:RowD} (h1:zZ r.ls=true) (h2:zQ r.v=true):zbt r=true:=by unfold zbt;rw[h1,h2];rfl
theorem vr_rows {a:List RowD} (h:z7 a=true):∀ r∈a,zbt r=true:=rowsB_iff.1 (zaQ.1 h).2.1
theorem vr_strict {a:List RowD} (h:z7 a=true):zbF cL a:=(zaQ.1 h).2.2
theorem vr_of {a:List RowD} (h1:a.length<=2000) (h2:∀ r∈a,zbt r=true) (h3:zbF cL a):z7 a=true:=zaQ.2 ⟨h1,rowsB_iff.2 h2,h3⟩
theorem rt_perm {a b:List RowD} (h:z7 a=true) (hp:a.Perm b):rtL b=a/\rtE b=0:=by
 have e:=strict_isort cL_cmp (vr_strict h) hp;have hb:ordB b=true:=by unfold ordB;rw[e];exact decide_eq_true (vr_strict h)
 have h1:¬(2000:Int)<((b.length:Nat):Int):=by have:=(zaQ.1 h).1;rw[<-hp.length_eq];omega
 have h2:zc5 b=true:=rowsB_iff.2 (λr hr=>vr_rows h r (hp.mem_iff.2 hr));obtain ⟨e1,e2⟩:=rt_ok h1 h2;rw[<-e1,<-e2];unfold ordL ordE;rw[hb,e];exact⟨rfl,rfl⟩
theorem rt_self {a:List RowD} (h:z7 a=true):rtL a=a/\rtE a=0:=rt_perm h (vM a)
structure MatD where
 n:ByteArray
 op:Int
 v:ByteArray
def MatD.d (m:MatD):D:=.agg [.s m.n,.v (.int .i64 m.op),.s m.v]
inductive Nd where
 | mk (op text:ByteArray) (n mode:Int) (names:List ByteArray) (ms:List MatD) (kids:List Nd)
mutual
def Nd.d:Nd->D
 | .mk op text n mode names ms kids=>.agg [.s op,.s text,.v (.int .i64 n),.v (.int .i64 mode),.sh 1 (names.map D.s),.sh 3 (ms.map MatD.d),.sh 7 (Nd.ds kids)]
def Nd.ds:List Nd->List D
 | []=>[]
 | x::r=>Nd.d x::Nd.ds r
end
theorem Nd.ds_eq:∀ l:List Nd,Nd.ds l=l.map Nd.d
 | []=>rfl
 | x::r=>congrArg (Nd.d x::·) (Nd.ds_eq r)
theorem Nd.d_mk (op text:ByteArray) (n mode:Int) (names:List ByteArray) (ms:List MatD) (kids:List Nd):
 Nd.d (.mk op text n mode names ms kids)=.agg [.s op,.s text,.v (.int .i64 n),.v (.int .i64 mode),.sh 1 (names.map D.s),.sh 3 (ms.map MatD.d),.sh 7 (kids.map Nd.d)]:=by
 rw[<-Nd.ds_eq];rfl
abbrev nSel:ByteArray:=⟨#[115,101,108]⟩
def byL (mode:Int) (ns:List ByteArray) (l:List Lbl):List Lbl:=if mode=1\/mode=2 then keyL mode ns l else []
section
variable (κ:RowD->List Lbl)
def zaM:List RowD->List Lbl
 | []=>[]
 | x::_=>κ x
def insG:List (List RowD)->RowD->List (List RowD)
 | [],r=>[[r]]
 | g::gs,r=>if zw (zaM κ g) (κ r)<0 then g::insG gs r else if zaM κ g=κ r then(g++[r])::gs else [r]::g::gs
def za7 (l:List RowD):List (List RowD):=l.foldl (insG κ) []
structure GOk (gs:List (List RowD)):Prop where
 ne:∀ g∈gs,g≠[]
 lt:gs.Pairwise (λa b=>zw (zaM κ a) (zaM κ b)<0)
end
section
variable {κ:RowD->List Lbl} {gs:List (List RowD)} {r:RowD}
theorem cmpLs_lt {a b c:List Lbl} (h1:zw a b<0) (h2:zw b c<0):zw a c<0:=(zd4 a b c).lt1 h1 (by omega)
theorem cmpLs_gt {a b:List Lbl} (h:¬zw a b<0) (hne:a≠b):zw b a<0:=by
 have h1:=zd5 a b;have h2:zw a b≠0:=λe=>hne (zeG.1 e)
 omega
theorem headK_app {g:List RowD} (h:g≠[]):zaM κ (g++[r])=zaM κ g:=by cases g with
 | nil=>exact absurd rfl h
 | cons x g=>rfl
theorem insG_head (h:GOk κ gs):∀ g∈insG κ gs r,zaM κ g=κ r\/∃ g'∈gs,zaM κ g=zaM κ g':=by
 induction gs with
 | nil=>intro g hg;rw[show insG κ [] r=[[r]] from rfl,dW] at hg;subst hg;exact .inl rfl
 | cons a gs ih=>
  have h':GOk κ gs:=⟨λg hg=>h.ne g (dC _ hg),(dS.1 h.lt).2⟩;intro g hg;unfold insG at hg;split at hg
  · rcases dO.1 hg with e | e
    · exact .inr ⟨a,c6,by rw[e]⟩
    rcases ih h' g e with e | ⟨g',h1,h2⟩
    · exact .inl e
    exact .inr ⟨g',dC _ h1,h2⟩
  split at hg
  · rcases dO.1 hg with e | e
    · exact .inr ⟨a,c6,by rw[e,headK_app (h.ne a c6)]⟩
    exact .inr ⟨g,dC _ e,rfl⟩
  rcases dO.1 hg with e | e
  · exact .inl (by rw[e];rfl)
  exact .inr ⟨g,e,rfl⟩
theorem insG_ok (h:GOk κ gs):GOk κ (insG κ gs r):=by
 induction gs with
 | nil=>exact⟨λg hg=>by rw[show insG κ [] r=[[r]] from rfl,dW] at hg;subst hg;simp,List.pairwise_singleton _ _⟩
 | cons a gs ih=>
  have hp:=dS.1 h.lt;have h':GOk κ gs:=⟨λg hg=>h.ne g (dC _ hg),hp.2⟩;have ha:=h.ne a c6;unfold insG;split
  · rename_i hlt;have i:=ih h';refine⟨λg hg=>?_,dS.2 ⟨λg hg=>?_,i.lt⟩⟩
    · rcases dO.1 hg with e | e
      · rw[e];exact ha
      exact i.ne g e
    rcases insG_head h' g hg with e | ⟨g',h1,h2⟩
    · rw[e];exact hlt
    rw[h2];exact hp.1 g' h1
  rename_i hlt;split
  · rename_i he;refine⟨λg hg=>?_,dS.2 ⟨λg hg=>?_,hp.2⟩⟩
    · rcases dO.1 hg with e | e
      · rw[e];simp
      exact h'.ne g e
    rw[headK_app ha];exact hp.1 g hg
  rename_i he;have hr:zw (κ r) (zaM κ a)<0:=cmpLs_gt hlt he;refine⟨λg hg=>?_,dS.2 ⟨λg hg=>?_,h.lt⟩⟩
  · rcases dO.1 hg with e | e
    · rw[e];simp
    exact h.ne g e
  rcases dO.1 hg with e | e
  · rw[e];exact hr
  exact cmpLs_lt hr (hp.1 g e)
theorem splitG_snoc {l:List RowD} {k:Nat} {x:RowD} (h:l[k]?=some x):za7 κ (l.take (k+1))=insG κ (za7 κ (l.take k)) x:=by
 unfold za7;rw[zU h,uZ];rfl
theorem splitG_ok (l:List RowD):GOk κ (za7 κ l):=by
 unfold za7;generalize hs:([]:List (List RowD))=s;have h0:GOk κ s:=by rw[<-hs];exact⟨λ_ h=>(by cases h),List.Pairwise.nil⟩
 clear hs
 induction l generalizing s with
 | nil=>exact h0
 | cons x l ih=>exact ih _ (insG_ok h0)
theorem insG_len:(insG κ gs r).length<=gs.length+1:=by
 induction gs with
 | nil=>exact dD _
 | cons a gs ih=>
  unfold insG;split
  · simp only[dM];omega
  split<;>simp only[dM]<;>omega
theorem splitG_len (l:List RowD):(za7 κ l).length<=l.length:=by
 unfold za7;have:∀ s:List (List RowD),(l.foldl (insG κ) s).length<=s.length+l.length:=by
  induction l with
  | nil=>intro s;exact dD _
  | cons x l ih=>intro s;have:=ih (insG κ s x);have:=@insG_len κ s x;simp only[uA,dM];omega
 simpa using this []
theorem splitG_rows (l:List RowD):∀ g∈za7 κ l,g.length<=l.length:=by
 unfold za7;have hi:∀ (gs:List (List RowD)) (r:RowD) (n:Nat),(∀ g∈gs,g.length<=n)->∀ g∈insG κ gs r,g.length<=n+1:=by
  intro gs r n h
  induction gs with
  | nil=>intro g hg;rw[show insG κ [] r=[[r]] from rfl,dW] at hg;subst hg;simp
  | cons a gs ih=>
   have ha:=h a c6;intro g hg;unfold insG at hg;split at hg
   · rcases dO.1 hg with e | e
     · rw[e];omega
     exact ih (λg hg=>h g (dC _ hg)) g e
   split at hg
   · rcases dO.1 hg with e | e
     · rw[e];simp;omega
     exact Nat.le_succ_of_le (h g (dC _ e))
   rcases dO.1 hg with e | e
   · rw[e];simp
   exact Nat.le_succ_of_le (h g e)
 have:∀ (s:List (List RowD)) (n:Nat),(∀ g∈s,g.length<=n)->∀ g∈l.foldl (insG κ) s,g.length<=n+l.length:=by
  induction l with
  | nil=>intro s n h;exact h
  | cons x l ih=>intro s n h g hg;have:=ih _ (n+1) (hi s x n h) g hg;simp only[dM];omega
 intro g hg;have:=this [] 0 (λ_ h=>by cases h) g hg;omega
theorem splitG_mem (l:List RowD):∀ g∈za7 κ l,∀ x∈g,x∈l:=by
 unfold za7;have hi:∀ (gs:List (List RowD)) (r:RowD) (p:RowD->Prop),p r->(∀ g∈gs,∀ x∈g,p x)->∀ g∈insG κ gs r,∀ x∈g,p x:=by
  intro gs r p hr h
  induction gs with
  | nil=>intro g hg x hx;rw[show insG κ [] r=[[r]] from rfl,dW] at hg;subst hg;rw[dW.1 hx];exact hr
  | cons a gs ih=>
   have ih:=ih (λg hg=>h g (dC _ hg));intro g hg x hx;unfold insG at hg;split at hg
   · rcases dO.1 hg with e | e
     · exact h a c6 x (e ▸ hx)
     exact ih g e x hx
   split at hg
   · rcases dO.1 hg with e | e
     · rw[e] at hx;rcases jK.1 hx with hx | hx
       · exact h a c6 x hx
       rw[dW.1 hx];exact hr
     exact h g (dC _ e) x hx
   rcases dO.1 hg with e | e
   · rw[e] at hx;rw[dW.1 hx];exact hr
   exact h g e x hx
 have:∀ (m:List RowD) (s:List (List RowD)) (p:RowD->Prop),(∀ x∈m,p x)->(∀ g∈s,∀ x∈g,p x)->∀ g∈m.foldl (insG κ) s,∀ x∈g,p x:=by
  intro m
  induction m with
  | nil=>intro s p _ h;exact h
  | cons y m ih=>intro s p hm h;exact ih _ p (λx hx=>hm x (dC _ hx)) (hi s y p (hm y c6) h)
 exact this l [] (· ∈l) (λ_ h=>h) (λ_ h=>by cases h)
structure BsOk (κ:RowD->List Lbl) (gs:List (List RowD)) (key:List Lbl) (i:Nat) (f:Bool):Prop where
 le:i<=gs.length
 lo:∀ t g,t<i->gs[t]?=some g->zw (zaM κ g) key<0
 hi:∀ t g,i<=t->gs[t]?=some g->¬zw (zaM κ g) key<0
 is:f=true↔∃ g,gs[i]?=some g/\zaM κ g=key
theorem insG_at {f:Bool} {i:Nat} (h:BsOk κ gs (κ r) i f):insG κ gs r=if f=true then gs.set i ((gs[i]?).getD []++[r]) else gs.take i++[r]::gs.drop i:=by
 induction gs generalizing i with
 | nil=>
  have hi:i=0:=by have:=h.le;simpa using this
  have hf:f=false:=by
   cases f with
   | false=>rfl
   | true=>obtain ⟨g,hg,_⟩:=h.is.1 rfl;simp at hg
  subst hi;subst hf;rfl
 | cons a gs ih=>
  cases i with
  | zero=>
   have h0:=h.hi 0 a (dD _) rfl;unfold insG;rw[if_neg h0];by_cases he:zaM κ a=κ r
   · rw[if_pos he,if_pos (h.is.2 ⟨a,rfl,he⟩)];rfl
   rw[if_neg he,if_neg (λe=>by obtain ⟨g,hg,h2⟩:=h.is.1 e;simp at hg;subst hg;exact he h2)];rfl
  | succ i=>
   have h0:=h.lo 0 a (Nat.succ_pos _) rfl;unfold insG;rw[if_pos h0,ih (i:=i) ⟨by have:=h.le;simpa using this,λt g ht hg=>h.lo (t+1) g (by omega) (by simpa using hg),λt g ht hg=>h.hi (t+1) g (by omega) (by simpa using hg),by simpa using h.is⟩];cases f with
   | true=>simp
   | false=>simp
theorem GOk.pair (h:GOk κ gs) {s t:Nat} {a b:List RowD} (ha:gs[s]?=some a) (hb:gs[t]?=some b) (hst:s<t):zw (zaM κ a) (zaM κ b)<0:=by
 obtain ⟨h1,e1⟩:=cZ.1 ha;obtain ⟨h2,e2⟩:=cZ.1 hb;have:=jL.1 h.lt s t h1 h2 hst
 rwa [e1,e2] at this
theorem GOk.below (h:GOk κ gs) {s t:Nat} {a b:List RowD} {key:List Lbl} (ha:gs[s]?=some a) (hb:gs[t]?=some b) (hst:s<=t) (hk:zw (zaM κ b) key<0):zw (zaM κ a) key<0:=by
 rcases dH s t with hl | hl
 · exact cmpLs_lt (h.pair ha hb hl) hk
 have:s=t:=by omega
 subst this;rw[ha] at hb;injection hb with hb;rw[hb];exact hk
end
end Lp
namespace Lp
open Go
def tot (l:List Int):Int:=l.foldl (· +·) 0
theorem foldl_add (l:List Int):∀ a:Int,l.foldl (· +·) a=a+l.foldl (· +·) 0:=by
 induction l with
 | nil=>intro a;simp
 | cons x l ih=>intro a;rw[uA,uA,ih,ih (0+x)];omega
theorem zbi (x:Int) (l:List Int):tot (x::l)=x+tot l:=by unfold tot;rw[uA,foldl_add];omega
theorem tot_snoc {l:List Int} {k:Nat} {x:Int} (h:l[k]?=some x):tot (l.take (k+1))=tot (l.take k)+x:=by
 unfold tot;rw[zU h,uZ];rfl
def allR (l:List Int):Bool:=l.all zQ&&decide (l.length<=2000)
theorem rightV_iff {v:Int}:zQ v=true↔ -1000000000000<=v/\v<=1000000000000:=by unfold zQ;simp
theorem tot_bd {l:List Int} (h:l.all zQ=true): -1000000000000*(l.length:Int)<=tot l/\tot l<=1000000000000*(l.length:Int):=by
 induction l with
 | nil=>simp[tot]
 | cons x l ih=>
  simp only[List.all_cons,c8] at h;have h1:=rightV_iff.1 h.1;have h2:=ih h.2;rw[zbi];simp only[dM];omega
theorem all_take {l:List Int} {k:Nat} (h:l.all zQ=true):(l.take k).all zQ=true:=by
 rw[dK] at h ⊢;exact λx hx=>h x (uH hx)
def sumE (l:List Int):Int×Int:=if allR l=true then zcg (tot l) else(0,1)
def meanE (l:List Int):Int×Int:=if l.length=0 then(0,7) else if allR l=true then(Int.tdiv (tot l) l.length,0) else(0,1)
def minL:List Int->Int
 | []=>0
 | x::r=>r.foldl min x
def maxL:List Int->Int
 | []=>0
 | x::r=>r.foldl max x
inductive Way where
 | sums (mean:Bool)
 | least
 | most
 | many
 | rank (p:Int)
 | top (n:Int)
def aggN:List ByteArray:=[⟨#[115,117,109]⟩,⟨#[109,105,110]⟩,⟨#[109,97,120]⟩,⟨#[99,111,117,110,116]⟩,⟨#[97,118,103]⟩,⟨#[116,111,112,107]⟩,⟨#[113,117,97,110,116,105,108,101]⟩]
abbrev zbq:ByteArray:=⟨#[99,111,117,110,116]⟩
abbrev nTop:ByteArray:=⟨#[116,111,112,107]⟩
abbrev nQ:ByteArray:=⟨#[113,117,97,110,116,105,108,101]⟩
def srtI (l:List Int):List Int:=l.mergeSort (λx y=>decide (x<=y))
def rankQ (p:Int) (n:Nat):Int:=max (Int.tdiv (p*(n:Int)+100-1) 100) 1
def rankK (p:Int) (n:Nat):Nat:=(rankQ p n-1).toNat
def rankL (p:Int) (l:List Int):Int:=((srtI l)[rankK p l.length]?).getD 0
def oneW:Way->List Int->Int×Int
 | .sums false,l=>sumE l
 | .sums true,l=>meanE l
 | .least,l=>(minL l,0)
 | .most,l=>(maxL l,0)
 | .many,l=>((l.length:Int),0)
 | .rank p,l=>(rankL p l,0)
 | _,_=>(0,0)
def za3 (f:List RowD->Int×Int):List (List RowD)->Int
 | []=>0
 | g::gs=>if (f g).2≠0 then(f g).2 else za3 f gs
abbrev numF (w:Way):List RowD->Int×Int:=λg=>oneW w (g.map (·.v))
def outR (κ:RowD->List Lbl) (w:Way) (gs:List (List RowD)):List RowD:=gs.map (λg=>⟨zaM κ g,(numF w g).1⟩)
section
variable {f:List RowD->Int×Int} {gs:List (List RowD)} {k:Nat} {x:List RowD}
theorem firstG_app (a b:List (List RowD)) (h:za3 f a=0):za3 f (a++b)=za3 f b:=by
 induction a with
 | nil=>rfl
 | cons y r ih=>
  unfold za3 at h;split at h
  · rename_i e;exact absurd h e
  rename_i e;show (if _ then _ else za3 f (r++b))=_;rw[if_neg e];exact ih h
theorem firstG_snoc (hx:gs[k]?=some x) (h:za3 f (gs.take k)=0) (e:(f x).2=0):za3 f (gs.take (k+1))=0:=by
 rw[zU hx,firstG_app _ _ h];unfold za3;rw[if_neg (by omega)];rfl
theorem firstG_at (hx:gs[k]?=some x) (h:za3 f (gs.take k)=0) (e:¬(f x).2=0):za3 f gs=(f x).2:=by
 have:gs=gs.take k++x::gs.drop (k+1):=by
  obtain ⟨hk,e⟩:=cZ.1 hx;rw[<-e,wF,dQ]
 rw[this,firstG_app _ _ h];unfold za3;rw[if_pos e]
end
section
variable {mode:Int} {names:List ByteArray} {l:List RowD} {w:Way}
abbrev kapB (mode:Int) (names:List ByteArray):RowD->List Lbl:=λr=>byL mode names r.ls
def zF (mode:Int) (names:List ByteArray) (l:List RowD):List (List RowD):=if z7 l=true then za7 (kapB mode names) l else []
def gdL (w:Way) (mode:Int) (names:List ByteArray) (l:List RowD):List RowD:=if z7 l=true then(if za3 (numF w) (zF mode names l)=0 then rtL (outR (kapB mode names) w (zF mode names l)) else []) else []
def gdE (w:Way) (mode:Int) (names:List ByteArray) (l:List RowD):Int:=if z7 l=true then(if za3 (numF w) (zF mode names l)=0 then rtE (outR (kapB mode names) w (zF mode names l)) else za3 (numF w) (zF mode names l)) else 1
theorem zeC (h:z7 l=false):[]=gdL w mode names l/\1=gdE w mode names l:=by unfold gdL gdE;rw[if_neg (by rw[h];simp),if_neg (by rw[h];simp)];exact⟨rfl,rfl⟩
theorem zeB (h:z7 l=true) {k:Nat} {x:List RowD} (hx:(zF mode names l)[k]?=some x) (h0:za3 (numF w) ((zF mode names l).take k)=0) (e:¬(numF w x).2=0):[]=gdL w mode names l/\(numF w x).2=gdE w mode names l:=by
 unfold gdL gdE;rw[if_pos h,if_pos h,firstG_at hx h0 e,if_neg e,if_neg e];exact⟨rfl,rfl⟩
theorem zfz (h:z7 l=true) {k:Nat} (h0:za3 (numF w) ((zF mode names l).take k)=0) (hk:(zF mode names l).length<=k):rtL (outR (kapB mode names) w ((zF mode names l).take k))=gdL w mode names l/\rtE (outR (kapB mode names) w ((zF mode names l).take k))=gdE w mode names l:=by
 rw[dE hk] at h0 ⊢;unfold gdL gdE;rw[if_pos h,if_pos h,if_pos h0,if_pos h0];exact⟨rfl,rfl⟩
theorem outR_snoc {κ:RowD->List Lbl} {gs:List (List RowD)} {k:Nat} {x:List RowD} (hx:gs[k]?=some x):outR κ w (gs.take (k+1))=outR κ w (gs.take k)++[⟨zaM κ x,(numF w x).1⟩]:=by
 unfold outR;rw[zU hx,uN];rfl
end
end Lp
namespace Lp
open Go
structure Rd where
 l:List TokD
 n:Int
 b:Bool
def Rd.pk (s:Rd):TokD:=s.l.headD zbP
def Rd.is (s:Rd) (k:Int) (ts:List ByteArray):Bool:=decide (s.pk.k=k)&&hasN ts s.pk.t
def Rd.take (s:Rd) (k:Int) (ts:List ByteArray):ByteArray×Bool×Rd:=if s.b=true\/s.is k ts=false then(ByteArray.empty,false,s) else(s.pk.t,true,⟨s.l.tail,s.n,s.b⟩)
def Rd.must (s:Rd) (t:ByteArray):Rd:=⟨(s.take 5 [t]).2.2.l,(s.take 5 [t]).2.2.n,(s.take 5 [t]).2.2.b||!(s.take 5 [t]).2.1⟩
def Rd.any (s:Rd) (k:Int):ByteArray×Rd:=if s.b=true\/s.pk.k≠k then(ByteArray.empty,⟨s.l,s.n,true⟩) else(s.pk.t,⟨s.l.tail,s.n,s.b⟩)
def numV (t:ByteArray):Int:=(digV (bl8 t):Int)
def Rd.number (s:Rd) (k:Int):Int×Rd:=(numV (s.any k).1,(s.any k).2)
def Rd.node (s:Rd):Rd:=⟨s.l,s.n+1,s.b||decide (200<s.n+1)⟩
abbrev zbj:ByteArray:=⟨#[40]⟩
abbrev zbe:ByteArray:=⟨#[41]⟩
abbrev zbz:ByteArray:=⟨#[44]⟩
abbrev zdn:ByteArray:=⟨#[123]⟩
abbrev zdb:ByteArray:=⟨#[125]⟩
abbrev tSq:ByteArray:=⟨#[91]⟩
abbrev tSqE:ByteArray:=⟨#[93]⟩
abbrev zfw:ByteArray:=⟨#[43]⟩
abbrev zfl:ByteArray:=⟨#[45]⟩
abbrev tTimes:ByteArray:=⟨#[42]⟩
abbrev tOver:ByteArray:=⟨#[47]⟩
abbrev tMod:ByteArray:=⟨#[37]⟩
abbrev tEqq:ByteArray:=⟨#[61,61]⟩
abbrev tNe:ByteArray:=⟨#[33,61]⟩
abbrev tLt:ByteArray:=⟨#[60]⟩
abbrev tLe:ByteArray:=⟨#[60,61]⟩
abbrev tGt:ByteArray:=⟨#[62]⟩
abbrev tGe:ByteArray:=⟨#[62,61]⟩
abbrev tEq:ByteArray:=⟨#[61]⟩
abbrev zek:ByteArray:=⟨#[61,126]⟩
abbrev zck:ByteArray:=⟨#[33,126]⟩
abbrev tOn:ByteArray:=⟨#[111,110]⟩
abbrev tIgnoring:ByteArray:=⟨#[105,103,110,111,114,105,110,103]⟩
abbrev tBy:ByteArray:=⟨#[98,121]⟩
abbrev zei:ByteArray:=⟨#[119,105,116,104,111,117,116]⟩
abbrev tBin:ByteArray:=⟨#[98,105,110]⟩
abbrev tNeg:ByteArray:=⟨#[110,101,103]⟩
abbrev tNum:ByteArray:=⟨#[110,117,109]⟩
abbrev tAgg:ByteArray:=⟨#[97,103,103]⟩
abbrev tFn:ByteArray:=⟨#[102,110]⟩
abbrev zej:ByteArray:=⟨#[111,114,100,101,114]⟩
abbrev tAsc:ByteArray:=⟨#[97,115,99]⟩
abbrev zf0:ByteArray:=⟨#[100,101,115,99]⟩
abbrev tLimit:ByteArray:=⟨#[108,105,109,105,116]⟩
abbrev tOffset:ByteArray:=⟨#[111,102,102,115,101,116]⟩
def zb2:Nat->List ByteArray->Rd->List ByteArray×Rd
 | 0,o,s=>(o,s)
 | f+1,o,s=>
  if s.b=true then(o,s)
  else if ((s.any 1).2.take 5 [zbz]).2.1=true then zb2 f (o++[(s.any 1).1]) ((s.any 1).2.take 5 [zbz]).2.2
  else(o++[(s.any 1).1],((s.any 1).2.take 5 [zbz]).2.2)
def Rd.names (s:Rd):List ByteArray×Rd:=
 if (s.must zbj).is 5 [zbe]=true then([],(s.must zbj).must zbe)
 else((zb2 ((s.must zbj).l.length+1) [] (s.must zbj)).1,(zb2 ((s.must zbj).l.length+1) [] (s.must zbj)).2.must zbe)
def Rd.mode (s:Rd) (a b:ByteArray):Int×List ByteArray×Rd:=
 if (s.take 1 [a,b]).2.1=false then(0,[],(s.take 1 [a,b]).2.2)
 else if (s.take 1 [a,b]).1=a then(1,(s.take 1 [a,b]).2.2.names) else(2,(s.take 1 [a,b]).2.2.names)
def zc4 (part:Rd->Nd×Rd) (signs:List ByteArray):Nat->Nd->Rd->Nd×Rd
 | 0,o,s=>(o,s)
 | f+1,o,s=>
  if (s.take 5 signs).2.1=false then(o,(s.take 5 signs).2.2)
  else
   let m:=(s.take 5 signs).2.2.mode tOn tIgnoring;let q:=part m.2.2
   zc4 part signs f (.mk tBin (s.take 5 signs).1 0 m.1 m.2.1 [] [o,q.1]) q.2.node
def Rd.level (s:Rd) (part:Rd->Nd×Rd) (signs:List ByteArray):Nd×Rd:=zc4 part signs ((part s).2.l.length+1) (part s).1 (part s).2
def noNd:Nd:=.mk ByteArray.empty ByteArray.empty 0 0 [] [] []
def fnN:List ByteArray:=[⟨#[115,117,109,95,111,118,101,114]⟩,⟨#[97,118,103,95,111,118,101,114]⟩,⟨#[109,105,110,95,111,118,101,114]⟩,⟨#[109,97,120,95,111,118,101,114]⟩,⟨#[99,111,117,110,116,95,111,118,101,114]⟩,⟨#[108,97,115,116,95,111,118,101,114]⟩,⟨#[105,110,99,114,101,97,115,101]⟩,⟨#[114,97,116,101]⟩]
def zfM (t:ByteArray):Bool:=hasN aggN t||hasN fnN t||hasN [⟨#[111,114,100,101,114]⟩,⟨#[108,105,109,105,116]⟩,⟨#[111,102,102,115,101,116]⟩,⟨#[97,115,99]⟩,⟨#[100,101,115,99]⟩,⟨#[111,110]⟩,⟨#[105,103,110,111,114,105,110,103]⟩,⟨#[98,121]⟩,⟨#[119,105,116,104,111,117,116]⟩] t
def zcr (t:ByteArray):Bool:=decide (t=nTop)||decide (t=nQ)
def opM (t:ByteArray):Int:=if t=tEq then 1 else if t=tNe then 2 else if t=zek then 3 else if t=zck then 4 else 0
def zbw:Nat->List MatD->Rd->List MatD×Rd
 | 0,o,s=>(o,s)
 | f+1,o,s=>
  if s.b=true then(o,s)
  else
   let a:=s.any 1;let c:=a.2.take 5 [tEq,tNe,zek,zck];let v:=Rd.any ⟨c.2.2.l,c.2.2.n,c.2.2.b||!c.2.1⟩ 3;let d:=v.2.take 5 [zbz]
   if d.2.1=true then zbw f (o++[⟨a.1,opM c.1,v.1⟩]) d.2.2 else(o++[⟨a.1,opM c.1,v.1⟩],d.2.2)
section
variable (rm:List MatD->Bool)
def Rd.braces (s:Rd):List MatD×Rd:=
 if (s.must zdn).is 5 [zdb]=true then([],(s.must zdn).must zdb)
 else
  let r:=zbw ((s.must zdn).l.length+1) [] (s.must zdn)
  (r.1,⟨(r.2.must zdb).l,(r.2.must zdb).n,(r.2.must zdb).b||!rm r.1⟩)
def Rd.selName (s:Rd):ByteArray×Rd:=if s.pk.k=1/\zfM s.pk.t=false then s.any 1 else(ByteArray.empty,s)
def Rd.selMs (s:Rd) (text:ByteArray):List MatD×Rd:=if s.is 5 [zdn]=true then s.braces rm else([],⟨s.l,s.n,s.b||decide (text=ByteArray.empty)⟩)
def Rd.selWin (s:Rd):Int×Rd:=if (s.take 5 [tSq]).2.1=true then((Rd.number (s.take 5 [tSq]).2.2 4).1,(Rd.number (s.take 5 [tSq]).2.2 4).2.must tSqE) else(0,(s.take 5 [tSq]).2.2)
def Rd.selector (s:Rd):Nd×Rd:=
 let a:=s.selName;let m:=a.2.selMs rm a.1;let w:=m.2.selWin
 (.mk nSel a.1 w.1 0 [] m.1 [],w.2.node)
def Rd.aggr (s:Rd) (ex:Rd->Nd×Rd):Nd×Rd:=
 let a:=s.any 1;let m:=a.2.mode tBy zei;let p:=m.2.2.must zbj;let k:=if zcr a.1=true then(p.number 2) else(0,p)
 let p2:=if zcr a.1=true then k.2.must zbz else k.2
 let q:=ex p2
 (.mk tAgg a.1 k.1 m.1 m.2.1 [] [q.1],(q.2.must zbe).node)
def Rd.prim (s:Rd) (ex:Rd->Nd×Rd):Nd×Rd:=
 if s.b=true then(noNd,s)
 else if s.pk.k=2 then(.mk tNum ByteArray.empty (s.number 2).1 0 [] [] [],(s.number 2).2.node)
 else if s.is 5 [zbj]=true then((ex (s.must zbj)).1,(ex (s.must zbj)).2.must zbe)
 else if s.pk.k=1/\hasN aggN s.pk.t=true then s.aggr ex
 else if s.pk.k=1/\hasN fnN s.pk.t=true then
  let a:=s.any 1;let q:=ex (a.2.must zbj)
  (.mk tFn a.1 0 0 [] [] [q.1],q.2.node.must zbe)
 else s.selector rm
def zcj (ex:Rd->Nd×Rd):Nat->Rd->Nd×Rd
 | 0,s=>(noNd,s)
 | f+1,s=>
  if (s.take 5 [zfl]).2.1=true then
   let q:=zcj ex f (s.take 5 [zfl]).2.2
   (.mk tNeg ByteArray.empty 0 0 [] [] [q.1],q.2.node)
  else Rd.prim rm (s.take 5 [zfl]).2.2 ex
def zf8 (ex:Rd->Nd×Rd) (s:Rd):Nd×Rd:=s.level (λs=>zcj rm ex (s.l.length+1) s) [tTimes,tOver,tMod]
def sumP (ex:Rd->Nd×Rd) (s:Rd):Nd×Rd:=s.level (zf8 rm ex) [zfw,zfl]
def zfN:Nat->Rd->Nd×Rd
 | 0,s=>(noNd,s)
 | f+1,s=>s.level (sumP rm (zfN f)) [tEqq,tNe,tLt,tLe,tGt,tGe]
def Rd.bound (s:Rd) (w:ByteArray):Int×Rd:=
 if (s.take 1 [w]).2.1=false then(-1,(s.take 1 [w]).2.2)
 else(((s.take 1 [w]).2.2.number 2).1,⟨((s.take 1 [w]).2.2.number 2).2.l,((s.take 1 [w]).2.2.number 2).2.n,((s.take 1 [w]).2.2.number 2).2.b||decide (2000<((s.take 1 [w]).2.2.number 2).1)⟩)
def Rd.order (s:Rd):Int×Rd:=
 let a:=s.take 1 [zej]
 if a.2.1=false then(0,a.2.2)
 else
  let d:=a.2.2.take 1 [zf0]
  if d.2.1=true then(2,d.2.2)
  else(1,⟨(d.2.2.any 1).2.l,(d.2.2.any 1).2.n,(d.2.2.any 1).2.b||decide ((d.2.2.any 1).1≠tAsc)⟩)
structure QryD where
 root:Nd
 order:Int
 limit:Int
 offset:Int
def ze0 (l:List TokD):Option QryD:=
 let e:=zfN rm (l.length+1) ⟨l,0,false⟩;let o:=e.2.order;let a:=o.2.bound tLimit;let b:=a.2.bound tOffset
 if b.2.b=true\/0<b.2.l.length then none else some ⟨e.1,o.1,a.1,b.1⟩
end
end Lp
namespace Lp
open Go
def Rd.w (s:Rd):Int:=s.n+2*(s.l.length:Int)
structure Stp (c:Int) (s t:Rd):Prop where
 l:t.l <:+s.l
 w:t.w<=s.w+c
 n:s.n<=t.n
theorem mY (s:Rd):Stp 0 s s:=⟨jU _,by omega,vC _⟩
theorem Stp.len {c:Int} {s t:Rd} (h:Stp c s t):t.l.length<=s.l.length:=h.l.length_le
theorem Stp.trans {c d:Int} {s t u:Rd} (h:Stp c s t) (k:Stp d t u):Stp (c+d) s u:=⟨k.l.trans h.l,by have:=h.w;have:=k.w;omega,Int.le_trans h.n k.n⟩
theorem Stp.le {c d:Int} {s t:Rd} (h:Stp c s t) (hc:c<=d):Stp d s t:=⟨h.l,by have:=h.w;omega,h.n⟩
theorem Stp.bad {c:Int} {s t:Rd} (h:Stp c s t) (b:Bool):Stp c s ⟨t.l,t.n,b⟩:=⟨h.l,h.w,h.n⟩
theorem tail_len {l:List TokD} (h:l≠[]):l.tail.length+1=l.length:=by
 cases l with
 | nil=>exact absurd rfl h
 | cons x l=>rfl
theorem pk_ne {s:Rd} {k:Int} (hk:k≠0) (h:s.pk.k=k):s.l≠[]:=λe=>by
 unfold Rd.pk at h;rw[e] at h;exact hk h.symm
theorem zao (s:Rd) (k:Int) (ts:List ByteArray):Stp 0 s (s.take k ts).2.2:=by
 unfold Rd.take;split
 · exact mY s
 refine⟨u7 _,?_,vC _⟩;unfold Rd.w;simp only[List.length_tail];omega
theorem take_got {s:Rd} {k:Int} {ts:List ByteArray} (hk:k≠0) (h:(s.take k ts).2.1=true):(s.take k ts).2.2.l.length+1=s.l.length/\Stp (-2) s (s.take k ts).2.2/\s.b=false/\(s.take k ts).2.2.b=false/\s.is k ts=true:=by
 unfold Rd.take at h ⊢;split at h
 · cases h
 rename_i hc;rw[if_neg hc];have hb:s.b=false:=by cases e:s.b with
  | false=>rfl
  | true=>exact absurd (Or.inl e) hc
 have hi:s.is k ts=true:=by cases e:s.is k ts with
  | true=>rfl
  | false=>exact absurd (Or.inr e) hc
 have hne:s.l≠[]:=pk_ne hk (by unfold Rd.is at hi;simp only[c8,decide_eq_true_eq] at hi;exact hi.1);have hl:=tail_len hne;refine⟨hl,⟨u7 _,?_,vC _⟩,hb,hb,hi⟩;unfold Rd.w;simp only;omega
theorem zar (s:Rd) (t:ByteArray):Stp 0 s (s.must t):=(zao s 5 [t]).bad _
theorem zdH (s:Rd) (k:Int):Stp 0 s (s.any k).2:=by
 unfold Rd.any;split
 · exact(mY s).bad _
 refine⟨u7 _,?_,vC _⟩;unfold Rd.w;simp only[List.length_tail];omega
theorem any_got {s:Rd} {k:Int} (hk:k≠0) (hb:s.b=false) (h:s.pk.k=k):(s.any k).2.l.length+1=s.l.length/\Stp (-2) s (s.any k).2/\(s.any k).1=s.pk.t/\(s.any k).2.b=false:=by
 unfold Rd.any;rw[if_neg (by rw[hb,h];simp)];have hl:=tail_len (pk_ne hk h);refine⟨hl,⟨u7 _,?_,vC _⟩,rfl,hb⟩;unfold Rd.w;simp only;omega
theorem zcV (s:Rd):Stp 1 s s.node:=⟨jU _,by unfold Rd.node Rd.w;simp only;omega,by unfold Rd.node;simp only;omega⟩
theorem namesF_stp:∀ (f:Nat) (o:List ByteArray) (s:Rd),Stp 0 s (zb2 f o s).2
 | 0,o,s=>mY s
 | f+1,o,s=>by
  unfold zb2;split
  · exact mY s
  have h:=(zdH s 1).trans (zao (s.any 1).2 5 [zbz]);split
  · exact(h.trans (namesF_stp f _ _)).le (by omega)
  exact h.le (by omega)
theorem names_stp (s:Rd):Stp 0 s s.names.2:=by
 unfold Rd.names;split
 · exact((zar s _).trans (zar _ _)).le (by omega)
 exact(((zar s _).trans (namesF_stp _ _ _)).trans (zar _ _)).le (by omega)
theorem mode_stp (s:Rd) (a b:ByteArray):Stp 0 s (s.mode a b).2.2:=by
 unfold Rd.mode;split
 · exact zao s 1 _
 split
 · exact((zao s 1 _).trans (names_stp _)).le (by omega)
 exact((zao s 1 _).trans (names_stp _)).le (by omega)
theorem levelF_stp {part:Rd->Nd×Rd} {signs:List ByteArray} (hp:∀ s,Stp 1 s (part s).2):∀ (f:Nat) (o:Nd) (s:Rd),Stp 0 s (zc4 part signs f o s).2
 | 0,o,s=>mY s
 | f+1,o,s=>by
  unfold zc4;split
  · exact zao s 5 _
  rename_i h;have h:(s.take 5 signs).2.1=true:=by simpa using h
  have h1:=(take_got (by decide) h).2.1;have h2:=h1.trans (mode_stp (s.take 5 signs).2.2 tOn tIgnoring);have h3:=h2.trans (hp ((s.take 5 signs).2.2.mode tOn tIgnoring).2.2);have h4:=h3.trans (zcV _);exact(h4.trans (levelF_stp hp f _ _)).le (by omega)
theorem level_stp {part:Rd->Nd×Rd} (hp:∀ s,Stp 1 s (part s).2) (s:Rd) (signs:List ByteArray):Stp 1 s (s.level part signs).2:=by
 unfold Rd.level;exact((hp s).trans (levelF_stp hp _ _ _)).le (by omega)
theorem bracesF_stp:∀ (f:Nat) (o:List MatD) (s:Rd),Stp 0 s (zbw f o s).2
 | 0,o,s=>mY s
 | f+1,o,s=>by
  unfold zbw;split
  · exact mY s
  have h:=((((zdH s 1).trans (zao (s.any 1).2 5 [tEq,tNe,zek,zck])).bad (((s.any 1).2.take 5 [tEq,tNe,zek,zck]).2.2.b||!((s.any 1).2.take 5 [tEq,tNe,zek,zck]).2.1)).trans (zdH _ 3)).trans (zao _ 5 [zbz]);simp only;split
  · exact(h.trans (bracesF_stp f _ _)).le (by omega)
  exact h.le (by omega)
theorem zb1 (s:Rd) (k:Int):Stp 0 s (s.number k).2:=zdH s k
section
variable (rm:List MatD->Bool)
theorem braces_stp (s:Rd):Stp 0 s (s.braces rm).2:=by
 unfold Rd.braces;split
 · exact((zar s _).trans (zar _ _)).le (by omega)
 exact((((zar s _).trans (bracesF_stp _ _ _)).trans (zar _ _)).bad _).le (by omega)
theorem selector_stp (s:Rd):Stp 1 s (s.selector rm).2:=by
 have h1:Stp 0 s s.selName.2:=by unfold Rd.selName;split;exact zdH s 1;exact mY s
 have h2:∀ (s:Rd) t,Stp 0 s (s.selMs rm t).2:=λs t=>by unfold Rd.selMs;split;exact braces_stp rm s;exact(mY s).bad _
 have h3:∀ s:Rd,Stp 0 s s.selWin.2:=λs=>by
  unfold Rd.selWin;split
  · exact(((zao s 5 [tSq]).trans (zb1 _ 4)).trans (zar _ _)).le (by omega)
  exact zao s 5 _
 exact(((h1.trans (h2 _ _)).trans (h3 _)).trans (zcV _)).le (by omega)
theorem aggr_stp {s:Rd} {ex:Rd->Nd×Rd} (hp:∀ s,Stp 1 s (ex s).2) (hb:s.b=false) (hk:s.pk.k=1):Stp 1 s (s.aggr ex).2:=by
 have h1:=(any_got (by decide) hb hk).2.1;have h2:=(h1.trans (mode_stp (s.any 1).2 tBy zei)).trans (zar _ zbj);unfold Rd.aggr;simp only;split
 · exact(((((h2.trans (zb1 _ 2)).trans (zar _ zbz)).trans (hp _)).trans (zar _ zbe)).trans (zcV _)).le (by omega)
 exact(((h2.trans (hp _)).trans (zar _ zbe)).trans (zcV _)).le (by omega)
theorem prim_stp {ex:Rd->Nd×Rd} (hp:∀ s,Stp 1 s (ex s).2) (s:Rd):Stp 1 s (s.prim rm ex).2:=by
 unfold Rd.prim;split
 · exact(mY s).le (by omega)
 rename_i hb;have hb:s.b=false:=by simpa using hb
 split
 · exact((zb1 s 2).trans (zcV _)).le (by omega)
 split
 · exact(((zar s zbj).trans (hp _)).trans (zar _ zbe)).le (by omega)
 split
 · rename_i h;exact aggr_stp hp hb h.1
 split
 · rename_i h;have h1:=(any_got (by decide) hb h.1).2.1;exact((((h1.trans (zar _ zbj)).trans (hp _)).trans (zcV _)).trans (zar _ zbe)).le (by omega)
 exact selector_stp rm s
theorem unaryF_stp {ex:Rd->Nd×Rd} (hp:∀ s,Stp 1 s (ex s).2):∀ (f:Nat) (s:Rd),Stp 1 s (zcj rm ex f s).2
 | 0,s=>(mY s).le (by omega)
 | f+1,s=>by
  unfold zcj;split
  · rename_i h;exact(((take_got (by decide) h).2.1.trans (unaryF_stp hp f _)).trans (zcV _)).le (by omega)
  exact((zao s 5 _).trans (prim_stp rm hp _)).le (by omega)
theorem prodP_stp {ex:Rd->Nd×Rd} (hp:∀ s,Stp 1 s (ex s).2) (s:Rd):Stp 1 s (zf8 rm ex s).2:=level_stp (λs=>unaryF_stp rm hp _ s) s _
theorem sumP_stp {ex:Rd->Nd×Rd} (hp:∀ s,Stp 1 s (ex s).2) (s:Rd):Stp 1 s (sumP rm ex s).2:=level_stp (λs=>prodP_stp rm hp s) s _
theorem exprF_stp:∀ (f:Nat) (s:Rd),Stp 1 s (zfN rm f s).2
 | 0,s=>(mY s).le (by omega)
 | f+1,s=>by unfold zfN;exact level_stp (λs=>sumP_stp rm (exprF_stp f) s) s _
end
end Lp
namespace Lp
open Go
variable {l:List UInt8}
structure RngD where
 lo:Int
 hi:Int
structure SetD where
 all:Bool
 nt:Bool
 items:List RngD
inductive Pt where
 | one (s:SetD)
 | row (l:List Pt)
 | alt (l:List Pt)
 | rep (x:Pt) (none again:Bool)
structure PR where
 l:List Int
 b:Bool
def PR.has (s:PR) (c:Int):Bool:=decide (s.l.head?=some c)
def PR.take (s:PR) (c:Int):Bool×PR:=if s.has c=true then(true,⟨s.l.tail,s.b⟩) else(false,s)
def PR.any (s:PR):Int×PR:=match s.l with
 | []=>(0,⟨[],true⟩)
 | c::r=>(c,⟨r,s.b⟩)
def PR.times (s:PR) (x:Pt):Pt×PR:=
 if s.has 42=true then(.rep x true true,(s.take 42).2)
 else if s.has 43=true then(.rep x false true,(s.take 43).2)
 else if s.has 63=true then(.rep x true false,(s.take 63).2)
 else(x,s)
def PR.member (s:PR):Int×PR:=if s.any.1=92 then s.any.2.any else s.any
def PR.item (s:PR):RngD×PR:=
 let m:=s.member
 if 1<m.2.l.length/\m.2.l.headD 0=45/\m.2.l.tail.headD 0≠93 then(⟨m.1,m.2.any.2.member.1⟩,m.2.any.2.member.2) else(⟨m.1,m.1⟩,m.2)
def zbr (nt:Bool):Nat->List RngD->PR->SetD×PR
 | 0,o,s=>(⟨false,nt,o⟩,s)
 | f+1,o,s=>
  if s.b=true then(⟨false,nt,o⟩,s)
  else if 0<o.length/\s.has 93=true then(⟨false,nt,o⟩,(s.take 93).2)
  else if s.l=[]\/s.has 93=true then(⟨false,nt,o⟩,⟨s.l,true⟩)
  else
   let x:=s.item
   zbr nt f (o++[x.1]) ⟨x.2.l,x.2.b||decide (x.1.hi<x.1.lo)⟩
def PR.cls (s:PR):SetD×PR:=zbr (s.take 94).1 ((s.take 94).2.l.length+2) [] (s.take 94).2
def sgnN:List Int:=[42,43,63,124,41,93]
def PR.atom (s:PR) (alt:PR->Pt×PR):Pt×PR:=
 let c:=s.any
 if c.1=40 then
  let x:=alt c.2
  if x.2.b=true then(x.1,x.2) else(x.1,⟨(x.2.take 41).2.l,!(x.2.take 41).1⟩)
 else if c.1=91 then(.one c.2.cls.1,c.2.cls.2)
 else if c.1=46 then(.one ⟨true,false,[]⟩,c.2)
 else if c.1=92 then(.one ⟨false,false,[⟨c.2.any.1,c.2.any.1⟩]⟩,c.2.any.2)
 else(.one ⟨false,false,[⟨c.1,c.1⟩]⟩,⟨c.2.l,c.2.b||sgnN.any (λx=>decide (x=c.1))⟩)
def PR.stop (s:PR):Bool:=decide (s.l=[])||s.has 124||s.has 41
def za2 (alt:PR->Pt×PR):Nat->List Pt->PR->List Pt×PR
 | 0,o,s=>(o,s)
 | f+1,o,s=>
  if s.b=true\/s.stop=true then(o,s)
  else
   let a:=s.atom alt;let t:=a.2.times a.1
   za2 alt f (o++[t.1]) t.2
def PR.parts (s:PR) (alt:PR->Pt×PR):Pt×PR:=(.row (za2 alt (s.l.length+1) [] s).1,(za2 alt (s.l.length+1) [] s).2)
def zcE (alt:PR->Pt×PR):Nat->List Pt->PR->List Pt×PR
 | 0,o,s=>(o,s)
 | f+1,o,s=>
  if s.has 124=true then
   let p:=(s.take 124).2.parts alt
   zcE alt f (o++[p.1]) p.2
  else(o,s)
def altF:Nat->PR->Pt×PR
 | 0,s=>(.row [],s)
 | f+1,s=>
  let p:=s.parts (altF f);let r:=zcE (altF f) (p.2.l.length+1) [p.1] p.2
  (.alt r.1,r.2)
def patR (l:List Int):Bool:=decide (l.length<=40)&&!(altF (l.length+1) ⟨l,false⟩).2.b&&decide ((altF (l.length+1) ⟨l,false⟩).2.l=[])
theorem mZ (s:PR) (c:Int):(s.take c).2.l.length<=s.l.length:=by unfold PR.take;split<;>simp
theorem m0 {s:PR} {c:Int} (h:s.has c=true):(s.take c).2.l.length+1=s.l.length:=by
 unfold PR.take;rw[if_pos h];unfold PR.has at h;simp only[decide_eq_true_eq] at h;cases e:s.l with
 | nil=>rw[e] at h;cases h
 | cons x r=>simp
theorem m1 (s:PR):s.any.2.l.length<=s.l.length:=by unfold PR.any;cases e:s.l<;>simp
theorem m2 {s:PR} (h:s.l≠[]):s.any.2.l.length+1=s.l.length:=by
 unfold PR.any;cases e:s.l with
 | nil=>exact absurd e h
 | cons x r=>simp
theorem PR.times_le (s:PR) (x:Pt):(s.times x).2.l.length<=s.l.length:=by
 unfold PR.times;repeat' split
 all_goals first | exact mZ _ _ | exact dD _
theorem PR.member_le (s:PR):s.member.2.l.length<=s.l.length:=by
 unfold PR.member;split
 · exact jA (m1 _) (m1 _)
 exact m1 _
theorem m3 {s:PR} (h:s.l≠[]):s.member.2.l.length<s.l.length:=by
 have:=m2 h;unfold PR.member;split
 · have:=m1 s.any.2;omega
 omega
theorem PR.item_lt {s:PR} (h:s.l≠[]):s.item.2.l.length<s.l.length:=by
 have h1:=m3 h;unfold PR.item;simp only;split
 · have h2:=m1 s.member.2;have h3:=PR.member_le s.member.2.any.2;simp only;omega
 exact h1
theorem classF_le (nt:Bool):∀ (f:Nat) (o:List RngD) (s:PR),(zbr nt f o s).2.l.length<=s.l.length
 | 0,o,s=>dD _
 | f+1,o,s=>by
  unfold zbr;split
  · exact dD _
  split
  · exact mZ _ _
  split
  · exact dD _
  rename_i h;have h1:=PR.item_lt (s:=s) (λe=>h (Or.inl e));have h2:=classF_le nt f (o++[s.item.1]) ⟨s.item.2.l,s.item.2.b||decide (s.item.1.hi<s.item.1.lo)⟩;simp only at h2 ⊢;omega
theorem PR.cls_le (s:PR):s.cls.2.l.length<=s.l.length:=jA (classF_le _ _ _ _) (mZ _ _)
theorem m5 {s:PR} {alt:PR->Pt×PR} (ha:∀ s,(alt s).2.l.length<=s.l.length) (h:s.l≠[]):(s.atom alt).2.l.length<s.l.length:=by
 have h1:=m2 h;unfold PR.atom;simp only;split
 · have h2:=ha s.any.2;have h3:=mZ (alt s.any.2).2 41;split<;>simp only<;>omega
 split
 · have:=PR.cls_le s.any.2;simp only;omega
 split
 · simp only;omega
 split
 · have:=m1 s.any.2;simp only;omega
 simp only;omega
theorem partsF_le {alt:PR->Pt×PR} (ha:∀ s,(alt s).2.l.length<=s.l.length):∀ (f:Nat) (o:List Pt) (s:PR),(za2 alt f o s).2.l.length<=s.l.length
 | 0,o,s=>dD _
 | f+1,o,s=>by
  unfold za2;split
  · exact dD _
  rename_i h;have hne:s.l≠[]:=λe=>h (Or.inr (by unfold PR.stop;rw[decide_eq_true e];rfl))
  have h1:=m5 ha hne;have h2:=PR.times_le (s.atom alt).2 (s.atom alt).1;have h3:=partsF_le ha f (o++[((s.atom alt).2.times (s.atom alt).1).1]) ((s.atom alt).2.times (s.atom alt).1).2;simp only;omega
theorem m7 {alt:PR->Pt×PR} (ha:∀ s,(alt s).2.l.length<=s.l.length) (s:PR):(s.parts alt).2.l.length<=s.l.length:=partsF_le ha _ _ _
theorem altsF_le {alt:PR->Pt×PR} (ha:∀ s,(alt s).2.l.length<=s.l.length):∀ (f:Nat) (o:List Pt) (s:PR),(zcE alt f o s).2.l.length<=s.l.length
 | 0,o,s=>dD _
 | f+1,o,s=>by
  unfold zcE;split
  · rename_i h;have h1:=m0 h;have h2:=m7 ha (s.take 124).2;have h3:=altsF_le ha f (o++[((s.take 124).2.parts alt).1]) ((s.take 124).2.parts alt).2;simp only;omega
  exact dD _
theorem altF_le:∀ (f:Nat) (s:PR),(altF f s).2.l.length<=s.l.length
 | 0,s=>dD _
 | f+1,s=>by
  unfold altF;simp only;exact jA (altsF_le (altF_le f) _ _ _) (m7 (altF_le f) s)
theorem zaL {b:UInt8} {t:List UInt8} (h:b.toNat<128):decL (b::t)=(b.toNat,1):=by
 unfold decL;have:gb (b::t) 0=b.toNat:=rfl;rw[this,if_pos h]
theorem zdq {b:Bool} (h:l≠[]):zae b l=if b=true then(zae false (l.drop (decL l).2)).map (· +(decL l).2)
 else if (decL l).1=92 then(zae true (l.drop (decL l).2)).map (· +(decL l).2)
 else if (decL l).1=34 then some 0
 else(zae false (l.drop (decL l).2)).map (· +(decL l).2):=by
 conv=>lhs;unfold zae
 rw[dif_neg h]
theorem qscan_nil {b:Bool}:zae b []=none:=by unfold zae;rw[dif_pos rfl]
theorem qscan_lt:∀ (n:Nat) (l:List UInt8) (b:Bool) (i:Nat),l.length=n->zae b l=some i->i<l.length:=by
 intro n
 induction n using Nat.strongRecOn with
 | _ n ih=>
  intro l b i hl h;by_cases hn:l=[]
  · subst hn;rw[qscan_nil] at h;cases h
  have h1:=zdB l;have h2:=decL_le hn;have key:∀ (b':Bool),(zae b' (l.drop (decL l).2)).map (· +(decL l).2)=some i->i<l.length:=by
   intro b' h;cases e:zae b' (l.drop (decL l).2) with
   | none=>rw[e] at h;cases h
   | some j=>
    rw[e] at h;injection h with h;have:=ih (l.length-(decL l).2) (by omega) _ b' j dL e;rw[dL] at this;have h:j+(decL l).2=i:=h;omega
  rw[zdq hn] at h;split at h
  · exact key _ h
  split at h
  · exact key _ h
  split at h
  · injection h with h;omega
  exact key _ h
theorem signIn_size:∀ (xs:List ByteArray) (l:List UInt8),(zaR xs l).2<=l.length
 | [],l=>c7 _
 | x::xs,l=>by
  unfold zaR;split
  · rename_i h;rw[vQ] at h;have:=h.length_le;rw[zaj] at this;exact this
  exact signIn_size xs l
theorem firstT_le:(zt l).2<=l.length:=by
 unfold zt;split
 · unfold zb8;split
   · exact zbO _ _
   exact c7 _
 split
 · unfold numT;split
   · exact c7 _
   split
   · exact zbO _ _
   split
   · exact c7 _
   exact zbO _ _
 split
 · cases e:zae true l with
   | none=>unfold strT;rw[e];exact c7 _
   | some i=>
    have h2:=qscan_lt _ l true i rfl e;unfold strT;rw[e];show (match unqB (mkB (l.take (i+1))) with | none=>(zbP,0) | some t=>((⟨3,0,t⟩:TokD),i+1)).2<=_;split
    · exact c7 _
    exact h2
 exact signIn_size _ _
abbrev n3 (a b:ByteArray) (c d:Int) (e:List ByteArray) (f:List MatD) (g:List Nd):D:=.agg [.s a,.s b,.v (.int .i64 c),.v (.int .i64 d),.sh 1 (e.map D.s),.sh 3 (f.map MatD.d),.sh 7 (Nd.ds g)]
abbrev n4:D:=.agg [.v (.string ByteArray.empty),.v (.string ByteArray.empty),.v (.int .i64 0),.v (.int .i64 0),.v (.slice none 0 0),.v (.slice none 0 0),.v (.slice none 0 0)]
abbrev n5:Value:=.agg #[(.string ByteArray.empty),(.string ByteArray.empty),(.int .i64 0),(.int .i64 0),(.slice none 0 0),(.slice none 0 0),(.slice none 0 0)]
end Lp
