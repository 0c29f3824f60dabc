import Derived.Test.YtheccaeefigajaaGreatDoorV106
set_option linter.unusedVariables false
namespace Lp
open Go
section
variable {s:Rd} {k:Int} {ts:List ByteArray} {x:ByteArray}
theorem zec:(s.take k ts).2.2.b=s.b:=by unfold Rd.take;split<;>rfl
theorem zaN (h:s.b=true):(s.must x).b=true:=by unfold Rd.must;simp only[zec,h,Bool.true_or]
theorem zes (h:s.b=true):(s.any k).2.b=true:=by unfold Rd.any;rw[if_pos (.inl h)]
theorem zbC (h:s.b=true):s.node.b=true:=by unfold Rd.node;simp only[h,Bool.true_or]
theorem zdL (h:s.b=true):s.take k ts=(ByteArray.empty,false,s):=zev (.inl h)
theorem namesF_b {F:Nat} {o:List ByteArray} (h:s.b=true):(zaY F o s).2.b=true:=by
 cases F with
 | zero=>exact h
 | succ F=>unfold zaY;rw[if_pos h];exact h
theorem mode_b {y:ByteArray} (h:s.b=true):(s.mode x y).2.2.b=true:=by
 unfold Rd.mode;rw[zdL h];simpa using h
theorem zcD {part:Rd→Nd×Rd} {F:Nat} {o:Nd} (h:s.b=true):(zaF part ts F o s).2.b=true:=by
 cases F with
 | zero=>exact h
 | succ F=>unfold zaF;rw[zdL h];simpa using h
theorem bracesF_b {F:Nat} {o:List MatD} (h:s.b=true):(zaa F o s).2.b=true:=by
 cases F with
 | zero=>exact h
 | succ F=>unfold zaa;rw[if_pos h];exact h
end
def Bad (p:Rd→Nd×Rd):Prop:=∀ s,s.b=true→(p s).2.b=true
theorem Bad.no {p:Rd→Nd×Rd} (h:Bad p) {s:Rd} (e:(p s).2.b=false):s.b=false:=by
 cases hs:s.b with
 | false=>rfl
 | true=>rw[h s hs] at e;cases e
theorem zU {a b:Bool} (h:a=true→b=true) (e:b=false):a=false:=by
 cases a with
 | false=>rfl
 | true=>rw[h rfl] at e;cases e
theorem level_b {part:Rd→Nd×Rd} (h:Bad part) (ts:List ByteArray):Bad (fun s=>s.level part ts):=fun s hs=>zcD (h s hs)
section
variable (rm:List MatD→Bool)
theorem zfr (ex:Rd→Nd×Rd):Bad (fun s=>s.prim rm ex):=fun s h=>by simp only[Rd.prim];rw[if_pos h];exact h
theorem zeb (ex:Rd→Nd×Rd):∀ F,Bad (zac rm ex F)
 | 0,s,h=>h
 | F+1,s,h=>by unfold zac;rw[zdL h];simpa using zfr rm ex s h
theorem zfq (ex:Rd→Nd×Rd):Bad (zcA rm ex):=level_b (fun s h=>zeb rm ex _ s h) _
theorem zeQ (ex:Rd→Nd×Rd):Bad (sumP rm ex):=level_b (zfq rm ex) _
theorem zeo:∀ F,Bad (zaB rm F)
 | 0,s,h=>h
 | F+1,s,h=>level_b (zeQ rm (zaB rm F)) _ s h
theorem braces_b {s:Rd} (h:s.b=true):(s.braces rm).2.b=true:=by
 unfold Rd.braces;split
 · exact zaN (zaN h)
 · show (((zaa _ [] (s.must zS)).2.must zQ).b||_)=true
   rw[zaN (bracesF_b (zaN h))];rfl
theorem selMs_b {s:Rd} {x:ByteArray} (h:s.b=true):(s.selMs rm x).2.b=true:=by
 unfold Rd.selMs;split
 · exact braces_b rm h
 · show (s.b||_)=true;rw[h];rfl
end
theorem selWin_b {s:Rd} (h:s.b=true):s.selWin.2.b=true:=by unfold Rd.selWin;rw[zdL h];simpa using h
def er (t:TokD):TokD:=⟨t.k,0,t.t⟩
theorem zfJ {x y:TokD} (h:er x=er y):x.k=y.k∧x.t=y.t:=by
 have a:(er x).k=(er y).k:=congrArg TokD.k h
 have b:(er x).t=(er y).t:=congrArg TokD.t h
 exact⟨a,b⟩
structure R (r:List TokD) (s t:Rd):Prop where
 l:t.l.map er=(s.l++r).map er
 n:t.n=s.n
 b:t.b=s.b
def Hq (r:List TokD):Prop:=∀ h,r.head?=some h→h.k=5∧h.t=zN∨h.k=1∧(h.t=zbj∨h.t=za1∨h.t=zap)
section
variable {r:List TokD} {s t:Rd} {k:Int} {ts:List ByteArray} {x:ByteArray}
theorem zfE {s:Rd}:er s.pk=(s.l.map er).headD zbR:=by
 unfold Rd.pk;cases s.l with
 | nil=>rfl
 | cons y l=>rfl
theorem R.pk (h:R r s t) (hl:s.l≠[]):t.pk.k=s.pk.k∧t.pk.t=s.pk.t:=by
 have e1:=zfE (s:=t);have e2:=zfE (s:=s)
 rw[h.l] at e1
 obtain ⟨y,l,hy⟩:=List.exists_cons_of_ne_nil hl
 rw[hy] at e1 e2
 have e3:er t.pk=er s.pk:=by rw[e1,e2];rfl
 exact zfJ e3
theorem R.is (h:R r s t) (hl:s.l≠[]):t.is k ts=s.is k ts:=by
 have e:=h.pk hl;unfold Rd.is;rw[e.1,e.2]
theorem zen (hl:s.l=[]) (hk:k≠0):s.is k ts=false:=by
 unfold Rd.is;rw[pk_0 (by rw[hl];rfl),decide_eq_false (show ¬zbR.k=k from fun e=>hk e.symm)];rfl
structure Qt (k:Int) (ts:List ByteArray):Prop where
 kn:k≠0
 a:k=5→hasN ts zN=false
 b:k=1→hasN ts zbj=false∧hasN ts za1=false∧hasN ts zap=false
theorem R.isq (h:R r s t) (hr:Hq r) (q:Qt k ts):t.is k ts=s.is k ts:=by
 by_cases hl:s.l=[]
 · rw[zen hl q.kn]
   have e1:=zfE (s:=t);rw[h.l,hl,List.nil_append] at e1
   cases r with
   | nil=>exact zen (List.map_eq_nil_iff.1 (by rw[h.l,hl];rfl)) q.kn
   | cons y r=>
    have e3:er t.pk=er y:=e1
    obtain ⟨e4,e5⟩:=zfJ e3
    unfold Rd.is;rw[e4,e5]
    rcases hr y rfl with ⟨a,b⟩ | ⟨a,b⟩
    · rw[a,b]
      by_cases hk:k=5
      · rw[q.a hk,Bool.and_false]
      · rw[decide_eq_false (fun e=>hk e.symm)];rfl
    · rw[a]
      by_cases hk:k=1
      · obtain ⟨q1,q2,q3⟩:=q.b hk
        rcases b with b | b | b<;>rw[b]
        · rw[q1,Bool.and_false]
        · rw[q2,Bool.and_false]
        · rw[q3,Bool.and_false]
      · rw[decide_eq_false (fun e=>hk e.symm)];rfl
 · exact h.is hl
theorem is_ne' (hk:k≠0) (h:s.is k ts=true):s.l≠[]:=fun e=>by rw[zen e hk] at h;cases h
theorem qt_5 {ts:List ByteArray} (h:hasN ts zN=false):Qt 5 ts:=⟨by decide,fun _=>h,fun e=>by cases e⟩
end
end Lp
set_option linter.unusedVariables false
namespace Lp
open Go
section
variable {r:List TokD} {s t:Rd} {k:Int} {ts:List ByteArray} {x:ByteArray}
theorem zcC (e:(s.must x).b=false):(s.must x).l.length+1=s.l.length:=by
 have hq:(s.take 5 [x]).2.1=true:=by
  unfold Rd.must at e;simp only[Bool.or_eq_false_iff,Bool.not_eq_false'] at e;exact e.2
 exact(za0 (by decide) hq).1
theorem zcW (hk:k≠0) (e:(s.any k).2.b=false):(s.any k).2.l.length+1=s.l.length:=by
 have hb:s.b=false:=zU zes e
 have hp:s.pk.k=k:=Decidable.byContradiction fun hn=>by rw[any_no (.inr hn)] at e;cases e
 exact(zeD hk hb hp).1
variable (rm:List MatD→Bool)
theorem sel_nil {s:Rd} (hl:s.l=[]):(s.selector rm).2.b=true:=by
 have hp:s.pk=zbR:=pk_0 (by rw[hl];rfl)
 have e1:s.selName=(ByteArray.empty,s):=by unfold Rd.selName;rw[if_neg (by rw[hp];rintro ⟨a,_⟩;exact absurd a (by decide))]
 unfold Rd.selector
 simp only[e1]
 refine zbC (selWin_b ?_)
 unfold Rd.selMs
 rw[if_neg (by rw[zen hl (by decide)];decide)]
 show (s.b||decide (ByteArray.empty=ByteArray.empty))=true
 rw[decide_eq_true rfl,Bool.or_true]
end
end Lp
set_option linter.unusedVariables false
namespace Lp
open Go
theorem words_er {l:List UInt8} {a:Nat} {ts:List TokD} (h:z6 l 0=some ts):∃ us,z6 l a=some us∧us.map er=ts.map er:=by
 have e:=wordsL_by a _ l 0 rfl
 rw[h,Nat.zero_add] at e
 exact⟨_,e,by simp only[List.map_map];exact List.map_congr_left fun x _=>rfl⟩
theorem words_cat {l r:List UInt8} {ts us:List TokD} (hr:Stop r) (h:z6 l 0=some ts) (h2:z6 r 0=some us):∃ vs,z6 (l++r) 0=some vs∧vs.map er=(ts++us).map er:=by
 obtain ⟨u2,e1,e2⟩:=words_er (a:=0+l.length) h2
 refine⟨ts++u2,?_,?_⟩
 · rw[wordsL_app hr _ l 0 ts rfl h,e1];rfl
 · rw[List.map_append,List.map_append,e2]
theorem words_step {l r:List UInt8} {x:TokD} {us:List TokD} (hne:l≠[]) (hb:runL isB (l++r)=0) (hf:zw (l++r)=(x,l.length)) (h2:z6 r 0=some us):∃ vs,z6 (l++r) 0=some vs∧vs.map er=(x::us).map er:=by
 obtain ⟨u2,e1,e2⟩:=words_er (a:=0+l.length) h2
 have hp:=List.length_pos_iff.2 hne
 refine⟨x.put 0::u2,?_,by rw[List.map_cons,List.map_cons,e2];rfl⟩
 rw[zce (n:=(l++r).length) (Nat.le_refl _),hb,List.drop_zero,zbb (by simp[hne]) (by rw[hf];simp only;omega) (Nat.le_refl _),hf]
 simp only[List.drop_left,Nat.add_zero,e1];rfl
def tkO:TokD:=⟨5,0,zA⟩
def tkC:TokD:=⟨5,0,zN⟩
section
variable {rm:List MatD→Bool}
theorem zcE {part:Rd→Nd×Rd} {t u:Rd} {n:Nd} {ts:List ByteArray} {r:List TokD} (hr:Hq r) (q:Qt 5 ts) (e:part t=(n,u)) (hu:u.l.map er=r.map er):t.level part ts=(n,u):=by
 have hR:R r ⟨[],u.n,u.b⟩ u:=⟨hu,rfl,rfl⟩
 have hi:u.is 5 ts=false:=by rw[hR.isq hr q];exact zen rfl (by decide)
 have ht:u.take 5 ts=(ByteArray.empty,false,u):=zev (.inr hi)
 unfold Rd.level;rw[e];unfold zaF;simp only[ht,if_true]
theorem is_open {t:Rd} {r:List TokD} (h:t.l.map er=(tkO::r).map er):t.pk.k=5∧t.pk.t=zA:=by
 have e1:=zfE (s:=t);rw[h] at e1
 exact zfJ (show er t.pk=er tkO from e1)
theorem must_er {t:Rd} {x:ByteArray} {r:List TokD} (hb:t.b=false) (h:t.l.map er=((⟨5,0,x⟩:TokD)::r).map er):(t.must x).l.map er=r.map er∧(t.must x).n=t.n∧(t.must x).b=false:=by
 have e1:=zfE (s:=t);rw[h] at e1
 obtain ⟨e2,e3⟩:=zfJ (show er t.pk=er (⟨5,0,x⟩:TokD) from e1)
 have hi:t.is 5 [x]=true:=by unfold Rd.is;rw[e2,e3];simp[hasN]
 have ht:t.take 5 [x]=(t.pk.t,true,⟨t.l.tail,t.n,t.b⟩):=by unfold Rd.take;rw[if_neg (by rw[hb,hi];simp)]
 unfold Rd.must;rw[ht]
 refine⟨?_,rfl,by show (t.b||!true)=false;rw[hb];rfl⟩
 show t.l.tail.map er=_
 rw[List.map_tail,h];rfl
theorem unary_brk {ex:Rd→Nd×Rd} {t:Rd} {r:List TokD} (hb:t.b=false) (h:t.l.map er=(tkO::r).map er) (F:Nat):zac rm ex (F+1) t=((ex (t.must zA)).1,(ex (t.must zA)).2.must zN):=by
 obtain ⟨e2,e3⟩:=is_open h
 have hm:t.is 5 [zan]=false:=by unfold Rd.is;rw[e3];rw[show hasN [zan] zA=false by decide,Bool.and_false]
 have ht:t.take 5 [zan]=(ByteArray.empty,false,t):=zev (.inr hm)
 unfold zac;rw[ht]
 show Rd.prim rm t ex=_
 unfold Rd.prim
 rw[if_neg (by rw[hb];decide),if_neg (by rw[e2];decide),if_pos (by unfold Rd.is;rw[e2,e3];decide)]
def brk (n:Nat) (l:List TokD):List TokD:=List.replicate n tkO++l++List.replicate n tkC
theorem hq_close (r:List TokD):Hq (tkC::r):=fun h e=>by injection e with e;subst e;exact .inl ⟨rfl,rfl⟩
end
section
variable (rm:List MatD→Bool)
theorem bound_b {s:Rd} {w:ByteArray} (h:s.b=true):(s.bound w).2.b=true:=by
 unfold Rd.bound;rw[zdL h];simpa using h
theorem order_b {s:Rd} (h:s.b=true):s.order.2.b=true:=by
 unfold Rd.order;rw[zdL h];simpa using h
theorem parse_parts {l:List TokD} {q:QryD} (h:zbs rm l=some q):(zaB rm (l.length+1) ⟨l,0,false⟩).1=q.root∧(zaB rm (l.length+1) ⟨l,0,false⟩).2.b=false∧
 ((q.order=0∧q.limit= -1∧q.offset= -1∧(zaB rm (l.length+1) ⟨l,0,false⟩).2.l=[])∨((q.order≠0∨0≤q.limit∨0≤q.offset)∧∃ y m,(zaB rm (l.length+1) ⟨l,0,false⟩).2.l=y::m∧y.k=1)):=by
 unfold zbs at h
 simp only at h
 split at h
 · cases h
 · rename_i hc
   injection h with h
   have hb:(((zaB rm (l.length+1) ⟨l,0,false⟩).2.order.2.bound za1).2.bound zap).2.b=false:=by
    cases e:(((zaB rm (l.length+1) ⟨l,0,false⟩).2.order.2.bound za1).2.bound zap).2.b with
    | false=>rfl
    | true=>exact absurd (.inl e) hc
   have hl:(((zaB rm (l.length+1) ⟨l,0,false⟩).2.order.2.bound za1).2.bound zap).2.l=[]:=by
    rcases Nat.eq_zero_or_pos (((zaB rm (l.length+1) ⟨l,0,false⟩).2.order.2.bound za1).2.bound zap).2.l.length with e | e
    · exact List.length_eq_zero_iff.1 e
    · exact absurd (.inr e) hc
   have b1:=zU (fun q=>bound_b q) hb
   have b2:=zU (fun q=>bound_b q) b1
   have b3:=zU (fun q=>order_b q) b2
   subst h
   refine⟨rfl,b3,?_⟩
   generalize (zaB rm (l.length+1) ⟨l,0,false⟩).2=u at*
   have pos:∀ (x:ByteArray),(0:Int)≤numV x:=fun x=>by unfold numV;omega
   have word:∀ (s:Rd) (ts:List ByteArray),(s.take 1 ts).2.1=true→∃ y m,s.l=y::m∧y.k=1:=fun s ts hq=>by
    have hg:=za0 (by decide) hq
    have hl:s.l≠[]:=is_ne' (k:=1) (by decide) hg.2.2.2.2
    obtain ⟨y,m,e⟩:=List.exists_cons_of_ne_nil hl
    refine⟨y,m,e,?_⟩
    have:=is_k hg.2.2.2.2
    unfold Rd.pk at this;rw[e] at this;exact this
   by_cases ho:(u.take 1 [zbj]).2.1=true
   · refine .inr ⟨.inl ?_,word u _ ho⟩
     show u.order.1≠0
     unfold Rd.order;simp only
     rw[if_neg (by rw[ho];decide)]
     split
     · show (2:Int)≠0;decide
     · show (1:Int)≠0;decide
   · have ho':(u.take 1 [zbj]).2.1=false:=by simpa using ho
     have hu2:(u.take 1 [zbj]).2.2=u:=by
      unfold Rd.take at ho' ⊢;split
      · rfl
      · rename_i hc2;rw[if_neg hc2] at ho';cases ho'
     have eo:u.order=(0,u):=by unfold Rd.order;simp only;rw[if_pos ho',hu2]
     rw[eo] at hl b1 b2 ⊢
     simp only at hl b1 b2 ⊢
     have bd:∀ (s:Rd) (w:ByteArray),(s.take 1 [w]).2.1=false→s.bound w=(-1,s):=fun s w hw=>by
      have:(s.take 1 [w]).2.2=s:=by
       unfold Rd.take at hw ⊢;split
       · rfl
       · rename_i hc2;rw[if_neg hc2] at hw;cases hw
      unfold Rd.bound;rw[if_pos hw,this]
     have bp:∀ (s:Rd) (w:ByteArray),¬(s.take 1 [w]).2.1=false→0≤(s.bound w).1:=fun s w hw=>by
      unfold Rd.bound;rw[if_neg hw];exact pos _
     by_cases h1:(u.take 1 [za1]).2.1=false
     · rw[bd u za1 h1] at hl b1 ⊢
       simp only at hl b1 ⊢
       by_cases h2:(u.take 1 [zap]).2.1=false
       · rw[bd u zap h2] at hl ⊢
         exact .inl ⟨by first | rfl | trivial,by first | rfl | trivial,by first | rfl | trivial,hl⟩
       · exact .inr ⟨.inr (.inr (bp u zap h2)),word u _ (by simpa using h2)⟩
     · exact .inr ⟨.inr (.inl (bp u za1 h1)),word u _ (by simpa using h1)⟩
end
theorem read_words {s:ByteArray} {ts:List TokD} (hs:s.size≤600) (h:z6 (bl8 s) 0=some ts):lexL s=ts∧lexE s=0:=by
 unfold lexL lexE
 rw[if_neg (by omega),if_neg (by omega),h];exact⟨rfl,rfl⟩
end Lp
set_option linter.unusedVariables false
namespace Lp
open Go
def Lx (s:ByteArray) (W:List TokD):Prop:=∃ vs,z6 (bl8 s) 0=some vs∧vs.map er=W.map er
theorem zcp (a b:ByteArray):bl8 (a++b)=bl8 a++bl8 b:=by simp[bl8]
theorem Lx.cat {s r:ByteArray} {W V:List TokD} (h:Lx s W) (k:Lx r V) (hr:Stop (bl8 r)):Lx (s++r) (W++V):=by
 obtain ⟨vs,e1,e2⟩:=h
 obtain ⟨us,e3,e4⟩:=k
 obtain ⟨ws,e5,e6⟩:=words_cat hr e1 e3
 refine⟨ws,by rw[zcp];exact e5,?_⟩
 rw[e6,List.map_append,List.map_append,e2,e4]
theorem Lx.lex {s:ByteArray} {W:List TokD} (h:Lx s W) (hs:s.size≤600):lexE s=0∧(lexL s).map er=W.map er:=by
 obtain ⟨vs,e1,e2⟩:=h
 obtain ⟨a,b⟩:=read_words hs e1
 exact⟨b,by rw[a];exact e2⟩
theorem zeH {s:ByteArray} {ts:List TokD} (h:lexL s=ts∧lexE s=0):Lx s ts:=by
 obtain ⟨h1,h2⟩:=zel h.2
 exact⟨_,h2,by rw[h.1]⟩
abbrev wk (t:ByteArray):TokD:=⟨1,0,t⟩
theorem lx_asc:Lx tOAsc [wk zbj,wk tAsc]:=by
 obtain ⟨vs,a,b⟩:=zeH (s:=tOAsc) (ts:=[⟨1,1,zbj⟩,⟨1,7,tAsc⟩]) (zbS (by kernel_rfl) (by decide) (by decide))
 exact⟨vs,a,b⟩
theorem lx_desc:Lx tODesc [wk zbj,wk zd5]:=by
 obtain ⟨vs,a,b⟩:=zeH (s:=tODesc) (ts:=[⟨1,1,zbj⟩,⟨1,7,zd5⟩]) (zbS (by kernel_rfl) (by decide) (by decide))
 exact⟨vs,a,b⟩
abbrev tLimit0:ByteArray:=⟨#[32,108,105,109,105,116]⟩
abbrev tOffset0:ByteArray:=⟨#[32,111,102,102,115,101,116]⟩
theorem lx_limit:Lx tLimit0 [wk za1]:=by
 obtain ⟨vs,a,b⟩:=zeH (s:=tLimit0) (ts:=[⟨1,1,za1⟩]) (zbS (by kernel_rfl) (by decide) (by decide))
 exact⟨vs,a,b⟩
theorem lx_offset:Lx tOffset0 [wk zap]:=by
 obtain ⟨vs,a,b⟩:=zeH (s:=tOffset0) (ts:=[⟨1,1,zap⟩]) (zbS (by kernel_rfl) (by decide) (by decide))
 exact⟨vs,a,b⟩
theorem lx_dig {v:Nat} (hv:v≤1000000000000):Lx (digB v) [⟨2,0,digB v⟩]:=by
 have h:=words_join1 (good_num hv) 0
 rw[zdB (show ¬(2:Int)=3 by decide) (show ¬(2:Int)=4 by decide)] at h
 exact⟨_,h,rfl⟩
theorem zeV {s:ByteArray} {W:List TokD} (h:Lx s W):Lx (tSp++s) W:=by
 obtain ⟨vs,e1,e2⟩:=h
 obtain ⟨us,e3,e4⟩:=words_er (a:=1) e1
 refine⟨us,?_,e4.trans e2⟩
 rw[zcp]
 rw[show bl8 tSp++bl8 s=[32]++bl8 s from rfl,wordsL_blank (by intro b hb;rw[List.mem_singleton.1 hb];exact .inl rfl)]
 exact e3
theorem lx_num {k k0 x:ByteArray} {v:Nat} (hv:v≤1000000000000) (hk:k=k0++tSp) (h:Lx k0 [wk x]):Lx (k++digB v) [wk x,⟨2,0,digB v⟩]:=by
 rw[hk,ByteArray.append_assoc]
 refine h.cat (zeV (lx_dig hv)) ?_
 rw[zcp];exact zeR _
structure St (r:List TokD) (u:Rd):Prop where
 l:u.l.map er=r.map er
 b:u.b=false
section
variable {r:List TokD} {u:Rd} {x y:TokD} {k:Int} {ts:List ByteArray} {w:ByteArray}
theorem St.pk (h:St (x::r) u):u.pk.k=x.k∧u.pk.t=x.t:=by
 have e1:=zfE (s:=u);rw[h.l] at e1
 exact zfJ (show er u.pk=er x from e1)
theorem St.yes (h:St (x::r) u) (hk:x.k=k) (ht:hasN ts x.t=true):u.take k ts=(x.t,true,⟨u.l.tail,u.n,u.b⟩)∧St r ⟨u.l.tail,u.n,u.b⟩:=by
 obtain ⟨e2,e3⟩:=h.pk
 have hi:u.is k ts=true:=by unfold Rd.is;rw[e2,e3,hk,ht];simp
 refine⟨by unfold Rd.take;rw[if_neg (by rw[h.b,hi];simp),e3],?_,h.b⟩
 show u.l.tail.map er=_
 rw[List.map_tail,h.l];rfl
theorem St.not (h:St r u) (hn:r=[]∨∃ z r',r=z::r'∧(z.k≠k∨hasN ts z.t=false)) (hk:k≠0):u.take k ts=(ByteArray.empty,false,u):=by
 refine zev (.inr ?_)
 rcases hn with rfl | ⟨z,r',rfl,hz⟩
 · exact zen (List.map_eq_nil_iff.1 h.l) hk
 · obtain ⟨e2,e3⟩:=h.pk
   unfold Rd.is;rw[e2,e3]
   rcases hz with hz | hz
   · rw[decide_eq_false hz];rfl
   · rw[hz,Bool.and_false]
theorem St.any (h:St (x::r) u) (hk:x.k=k):u.any k=(x.t,⟨u.l.tail,u.n,u.b⟩)∧St r ⟨u.l.tail,u.n,u.b⟩:=by
 obtain ⟨e2,e3⟩:=h.pk
 refine⟨by unfold Rd.any;rw[if_neg (by rw[h.b,e2,hk];simp),e3],?_,h.b⟩
 show u.l.tail.map er=_
 rw[List.map_tail,h.l];rfl
theorem St.asc (h:St (wk zbj::wk tAsc::r) u):∃ v,u.order=(1,v)∧St r v:=by
 obtain ⟨a1,a2⟩:=h.yes (k:=1) (ts:=[zbj]) rfl (by decide)
 have b1:=a2.not (k:=1) (ts:=[zd5]) (.inr ⟨_,_,rfl,.inr (by decide)⟩) (by decide)
 obtain ⟨c1,c2⟩:=a2.any (k:=1) rfl
 refine⟨_,?_,c2⟩
 unfold Rd.order;simp only
 rw[a1];simp only
 rw[b1];simp only
 rw[c1]
 rw[if_neg (by decide),if_neg (by decide)]
 simp only[ne_eq,not_true_eq_false,decide_false,Bool.or_false]
theorem St.desc (h:St (wk zbj::wk zd5::r) u):∃ v,u.order=(2,v)∧St r v:=by
 obtain ⟨a1,a2⟩:=h.yes (k:=1) (ts:=[zbj]) rfl (by decide)
 obtain ⟨b1,b2⟩:=a2.yes (k:=1) (ts:=[zd5]) rfl (by decide)
 refine⟨_,?_,b2⟩
 unfold Rd.order;simp only
 rw[a1];simp only
 rw[b1]
 rw[if_neg (by decide),if_pos rfl]
theorem St.ord0 (h:St r u) (hn:r=[]∨∃ z r',r=z::r'∧(z.k≠1∨hasN [zbj] z.t=false)):u.order=(0,u):=by
 unfold Rd.order;rw[h.not hn (by decide)];simp
theorem St.bnd {v:Nat} (h:St (wk w::⟨2,0,digB v⟩::r) u):∃ z,u.bound w=((v:Int),z)∧z.l.map er=r.map er∧z.b=decide (2000<(v:Int)):=by
 obtain ⟨a1,a2⟩:=h.yes (k:=1) (ts:=[w]) rfl (by simp[hasN])
 obtain ⟨c1,c2⟩:=a2.any (k:=2) rfl
 have hb:u.b=false:=h.b
 refine⟨⟨u.l.tail.tail,u.n,u.b||decide (2000<numV (digB v))⟩,?_,c2.l,?_⟩
 · unfold Rd.bound
   rw[a1,if_neg (by simp)]
   unfold Rd.number;rw[c1]
   show (numV (digB v),_)=_
   rw[zdT]
 · show (u.b||decide (2000<numV (digB v)))=_
   rw[hb,zdT];rfl
theorem St.bnd0 (h:St r u) (hn:r=[]∨∃ z r',r=z::r'∧(z.k≠1∨hasN [w] z.t=false)):u.bound w=(-1,u):=by
 unfold Rd.bound;rw[h.not hn (by decide)];simp
end
def ordW (o:Int):List TokD:=if o=1 then [wk zbj,wk tAsc] else if o=2 then [wk zbj,wk zd5] else []
def numW (x:ByteArray) (n:Int):List TokD:=if 0≤n then [wk x,⟨2,0,digB n.toNat⟩] else []
theorem Lx.ord {s:ByteArray} {W:List TokD} (h:Lx s W) (o:Int):Lx (ordP o s) (W++ordW o):=by
 unfold ordP ordW
 split
 · exact h.cat lx_asc (zeR _)
 · split
   · exact h.cat lx_desc (zeR _)
   · rw[List.append_nil];exact h
theorem Lx.lim {s:ByteArray} {W:List TokD} (h:Lx s W) {n:Int} (hn:n≤1000000000000):Lx (limP zbE n s) (W++numW za1 n):=by
 unfold limP numW
 split
 · exact h.cat (lx_num (k0:=tLimit0) (by omega) rfl lx_limit) (zeR _)
 · rw[List.append_nil];exact h
theorem Lx.off {s:ByteArray} {W:List TokD} (h:Lx s W) {n:Int} (hn:n≤1000000000000):Lx (limP zcn n s) (W++numW zap n):=by
 unfold limP numW
 split
 · exact h.cat (lx_num (k0:=tOffset0) (by omega) rfl lx_offset) (zeR _)
 · rw[List.append_nil];exact h
def endQ (u:Rd):Int×Int×Int×Rd:=(u.order.1,(u.order.2.bound za1).1,((u.order.2.bound za1).2.bound zap).1,((u.order.2.bound za1).2.bound zap).2)
theorem end_is {V:List TokD} (hV:V=[]∨∃ r',V=wk zbj::r') {o l f:Int} (ho:o=0∨o=1∨o=2) (hl: -1≤l) (hf: -1≤f) (hv:V=[]∨0<o∨0≤l∨0≤f) {u:Rd} (h:St (ordW o++(numW za1 l++(numW zap f++V))) u):
 if 2000<l∨2000<f then(endQ u).2.2.2.b=true else(endQ u).1=o∧(endQ u).2.1=l∧(endQ u).2.2.1=f∧(endQ u).2.2.2.l.map er=V.map er∧(endQ u).2.2.2.b=false:=by
 have h1:∃ v,u.order=(o,v)∧St (numW za1 l++(numW zap f++V)) v:=by
  rcases ho with rfl | rfl | rfl
  · refine⟨u,h.ord0 ?_,h⟩
    show numW za1 l++(numW zap f++V)=[]∨∃ z r',numW za1 l++(numW zap f++V)=z::r'∧_
    unfold numW
    split
    · exact .inr ⟨_,_,rfl,.inr (by decide)⟩
    · split
      · exact .inr ⟨_,_,rfl,.inr (by decide)⟩
      · rcases hv with rfl | hv | hv | hv
        · exact .inl rfl
        · omega
        · omega
        · omega
  · exact h.asc
  · exact h.desc
 obtain ⟨v,e1,s1⟩:=h1
 unfold endQ
 rw[e1];simp only
 have hlw:¬0≤l→numW zap f++V=[]∨∃ z r',numW zap f++V=z::r'∧(z.k≠1∨hasN [za1] z.t=false):=fun _=>by
  unfold numW;split
  · exact .inr ⟨_,_,rfl,.inr (by decide)⟩
  · rcases hV with rfl | ⟨r',rfl⟩
    · exact .inl rfl
    · exact .inr ⟨_,_,rfl,.inr (by decide)⟩
 have hfw:¬0≤f→V=[]∨∃ z r',V=z::r'∧(z.k≠1∨hasN [zap] z.t=false):=fun _=>by
  rcases hV with rfl | ⟨r',rfl⟩
  · exact .inl rfl
  · exact .inr ⟨_,_,rfl,.inr (by decide)⟩
 have h2:∃ z,v.bound za1=(l,z)∧z.l.map er=(numW zap f++V).map er∧z.b=decide (2000<l):=by
  by_cases hl0:0≤l
  · unfold numW at s1;rw[if_pos hl0] at s1
    obtain ⟨z,a,b,c⟩:=s1.bnd
    rw[show ((l.toNat:Nat):Int)=l by omega] at a c
    exact⟨z,a,b,c⟩
  · have e:numW za1 l=[]:=by unfold numW;rw[if_neg hl0]
    rw[e,List.nil_append] at s1
    refine⟨v,?_,s1.l,?_⟩
    · rw[s1.bnd0 (hlw hl0),show l= -1 by omega]
    · rw[s1.b,decide_eq_false (by omega)]
 obtain ⟨z,e2,e3,e4⟩:=h2
 rw[e2];simp only
 by_cases hl2:2000<l
 · rw[if_pos (.inl hl2)]
   exact bound_b (by rw[e4,decide_eq_true hl2])
 · rw[decide_eq_false hl2] at e4
   have s2:St (numW zap f++V) z:=⟨e3,e4⟩
   have h3:∃ y,z.bound zap=(f,y)∧y.l.map er=V.map er∧y.b=decide (2000<f):=by
    by_cases hf0:0≤f
    · unfold numW at s2;rw[if_pos hf0] at s2
      obtain ⟨y,a,b,c⟩:=s2.bnd
      rw[show ((f.toNat:Nat):Int)=f by omega] at a c
      exact⟨y,a,b,c⟩
    · have e:numW zap f=[]:=by unfold numW;rw[if_neg hf0]
      rw[e,List.nil_append] at s2
      refine⟨z,?_,s2.l,?_⟩
      · rw[s2.bnd0 (hfw hf0),show f= -1 by omega]
      · rw[s2.b,decide_eq_false (by omega)]
   obtain ⟨y,e5,e6,e7⟩:=h3
   rw[e5];simp only
   by_cases hf2:2000<f
   · rw[if_pos (.inr hf2),e7,decide_eq_true hf2]
   · rw[if_neg (by omega)]
     exact⟨trivial,trivial,trivial,e6,by rw[e7,decide_eq_false hf2]⟩
theorem parse_endQ (rm:List MatD→Bool) {L:List TokD} {n:Nd} {u:Rd} (e:zaB rm (L.length+1) ⟨L,0,false⟩=(n,u)):zbs rm L=if (endQ u).2.2.2.b=true∨0<(endQ u).2.2.2.l.length then none else some ⟨n,(endQ u).1,(endQ u).2.1,(endQ u).2.2.1⟩:=by
 unfold zbs;simp only
 rw[e];rfl
theorem ordW_hq (o:Int) {V:List TokD} (h:Hq V):Hq (ordW o++V):=by
 unfold ordW;split
 · exact fun y e=>by injection e with e;subst e;exact .inr ⟨rfl,.inl rfl⟩
 · split
   · exact fun y e=>by injection e with e;subst e;exact .inr ⟨rfl,.inl rfl⟩
   · exact h
theorem numW_hq {x:ByteArray} (hx:x=za1∨x=zap) (n:Int) {V:List TokD} (h:Hq V):Hq (numW x n++V):=by
 unfold numW;split
 · exact fun y e=>by injection e with e;subst e;exact .inr ⟨rfl,.inr hx⟩
 · exact h
theorem read_some {s:ByteArray} {q:QryD} (hE:lexE s=0) (h:zbs rmD (lexL s)=some q):zbI s=0∧zaH s=q:=by unfold zbI zaH;rw[if_pos hE,if_pos hE,h];exact⟨rfl,rfl⟩
theorem limP_sz {k t:ByteArray} {n:Int} (hn:n≤1000000000000) (hk:k.size≤8):(limP k n t).size≤t.size+28:=by
 unfold limP;split
 · have:=zba (show n.toNat≤1000000000000 by omega)
   simp only[ByteArray.size_append];omega
 · omega
theorem ordP_sz (o:Int) (t:ByteArray):(ordP o t).size≤t.size+11:=by
 have h1:tOAsc.size=10:=rfl
 have h2:tODesc.size=11:=rfl
 unfold ordP;split
 · simp only[ByteArray.size_append];omega
 · split
   · simp only[ByteArray.size_append];omega
   · omega
end Lp
set_option linter.unusedSimpArgs false
set_option linter.unusedVariables false
set_option maxHeartbeats 4000000
set_option maxRecDepth 100000
namespace Lp
open Go Go.RowKit Go.Proofs
namespace HdYtheccaeefigajaaGreatDoorV107
theorem zbF (b o:Nat):∀ w,(Instr.fieldAt 29 (.pointer (some ⟨b,o,none⟩)) 0).run Tryz.prog w=.ok (.pointer (some ⟨b,o+0,none⟩)) w:=fun _=>by kernel_rfl
theorem fa_29_1 (b o:Nat):∀ w,(Instr.fieldAt 29 (.pointer (some ⟨b,o,none⟩)) 1).run Tryz.prog w=.ok (.pointer (some ⟨b,o+7,none⟩)) w:=fun _=>by kernel_rfl
theorem fa_29_2 (b o:Nat):∀ w,(Instr.fieldAt 29 (.pointer (some ⟨b,o,none⟩)) 2).run Tryz.prog w=.ok (.pointer (some ⟨b,o+8,none⟩)) w:=fun _=>by kernel_rfl
theorem fa_29_3 (b o:Nat):∀ w,(Instr.fieldAt 29 (.pointer (some ⟨b,o,none⟩)) 3).run Tryz.prog w=.ok (.pointer (some ⟨b,o+9,none⟩)) w:=fun _=>by kernel_rfl
end HdYtheccaeefigajaaGreatDoorV107
open HdYtheccaeefigajaaGreatDoorV107
theorem itoa_i (n:Int) (h:0≤n∧n≤1000000000000):CD Tryz.prog 97 [HPow] [dI n] (PrT (digB n.toNat)):=by
 obtain ⟨m,rfl⟩:∃ m:Nat,n=m:=⟨n.toNat,by omega⟩
 exact zem m (by omega)
theorem print_s (xa xb:ByteArray) (xc xd:Int) (xe:List ByteArray) (xf:List MatD) (xg:List Nd) (ord lim off:Int) (t:ByteArray) (ht:t.size≤10000000) (hl:lim≤1000000000000) (ho:off≤1000000000000) (hx:CD Tryz.prog 34 [HPow] [.agg [.s xa,.s xb,dI xc,dI xd,.sh 1 (xe.map D.s),.sh 3 (xf.map MatD.d),.sh 7 (Nd.ds xg)]] (PrT t)):
 CD Tryz.prog 32 [HPow] [.agg [.s xa,.s xb,dI xc,dI xd,.sh 1 (xe.map D.s),.sh 3 (xf.map MatD.d),.sh 7 (Nd.ds xg),dI ord,dI lim,dI off]] (PrT (limP zcn off (limP zbE lim (ordP ord t)))):=by
 refine zr Tryz.func32 rfl (N:=36) rfl rfl (fun C=>?_)
 refine jk [0] rfl ?_
 refine JD.bd 0 rfl (fun bd0=>?_)
 have hz1:=ordP_sz ord t
 have hz2:=limP_sz (k:=zbE) (t:=ordP ord t) (n:=lim) hl (by decide)
 refine jT rfl (oE rfl (zaG rfl (CellD.agg)) ?_)
 rintro _ _ ⟨g1,rfl,rfl⟩
 refine oR 1 rfl (oZ rfl (jT rfl (oP rfl (zd rfl zbF rfl) (oP rfl (zx (d:=.agg [.s xa,.s xb,dI xc,dI xd,.sh 1 (xe.map D.s),.sh 3 (xf.map MatD.d),.sh 7 (Nd.ds xg)]) rfl (i:=0) rfl Tryz.isAgg27 Tryz.sizeOf27 rfl rfl) (OpsD.subH (HSub.perm (zc (i:=1) rfl)) (on rfl (oE rfl (zn [HPow] [.bx g1 29 (.agg [.s xa,.s xb,dI xc,dI xd,.sh 1 (xe.map D.s),.sh 3 (xf.map MatD.d),.sh 7 (Nd.ds xg),dI ord,dI lim,dI off])] [] rfl rfl (.cons ArgC.id .nil) zi Tryz.call34 (hx) (.inl rfl)) ?_)))))))
 rintro _ _ ⟨_,⟨rfl,rfl⟩,rfl⟩
 refine on rfl (oR 1 rfl (oZ rfl (jS rfl (jT rfl (oP rfl (zd rfl fa_29_1 rfl) (oP rfl (ze rfl (i:=1) rfl Tryz.isAgg3 rfl) (oZ rfl (jB rfl (jT rfl (oP rfl (zG rfl rfl rfl) (oR 1 rfl (oZ rfl ?_))))))))))))
 refine zcG (fun (jg:Unit)=>[(1,dP g1 0),(2,.v (.string ByteArray.empty)),(3,.s (ordP ord t))]) (fun (jg:Unit)=>[HPow,.bx g1 29 (.agg [.s xa,.s xb,dI xc,dI xd,.sh 1 (xe.map D.s),.sh 3 (xf.map MatD.d),.sh 7 (Nd.ds xg),dI ord,dI lim,dI off])]) (fun (jg:Unit)=>True) (fun _ hQ2=>?_) ?_
 · skip
   refine jD rfl (fun hc3=>?_) (fun hc3=>?_)
   · skip
     refine zg rfl (oR 1 rfl (oP rfl (zar rfl rfl (by unfold maxLen;(try simp only[ByteArray.size_append]);(try (have kl:=zba (show lim.toNat≤1000000000000 by omega)));(try (have ko:=zba (show off.toNat≤1000000000000 by omega)));(try simp only[ByteArray.size_append]);have kz:=catz;omega)) (oR 1 rfl (zq rfl (pn rfl ?_)))))
     exact PD.sub [(1,dP g1 0),(2,.v (.string ByteArray.empty)),(3,.s (ordP ord t))] ⟨sk rfl,sk rfl,sc rfl (Cv.eq (congrArg D.s (show _=ordP ord t from by unfold ordP;rw[if_pos hc3]))),trivial⟩ (hQ2 () trivial)
   · skip
     refine jT rfl (oP rfl (zG rfl rfl rfl) (oR 1 rfl (oZ rfl (jk [1,2,3,13] rfl ?_))))
     refine jD rfl (fun hc4=>?_) (fun hc4=>?_)
     · skip
       refine zg rfl (oR 1 rfl (oP rfl (zar rfl rfl (by unfold maxLen;(try simp only[ByteArray.size_append]);(try (have kl:=zba (show lim.toNat≤1000000000000 by omega)));(try (have ko:=zba (show off.toNat≤1000000000000 by omega)));(try simp only[ByteArray.size_append]);have kz:=catz;omega)) (oR 1 rfl (zq rfl (pn rfl ?_)))))
       exact PD.sub [(1,dP g1 0),(2,.v (.string ByteArray.empty)),(3,.s (ordP ord t))] ⟨sk rfl,sk rfl,sc rfl (Cv.eq (congrArg D.s (show _=ordP ord t from by unfold ordP;rw[if_neg hc3,if_pos hc4]))),trivial⟩ (hQ2 () trivial)
     · skip
       refine zp rfl (pn rfl ?_)
       exact PD.sub [(1,dP g1 0),(2,.v (.string ByteArray.empty)),(3,.s (ordP ord t))] ⟨sk rfl,sk rfl,sc rfl (Cv.eq (congrArg D.s (show _=ordP ord t from by unfold ordP;rw[if_neg hc3,if_neg hc4]))),trivial⟩ (hQ2 () trivial)
 · skip
   rintro _ _
   refine pk [1,2,3] rfl (pn rfl (zE (zl (jS rfl (jT rfl (oP rfl (zd rfl fa_29_2 rfl) (oP rfl (ze rfl (i:=1) rfl Tryz.isAgg3 rfl) (oP rfl (zaM rfl rfl rfl) (oZ rfl ?_)))))))))
   refine zcG (fun (jg:Unit)=>[(1,dP g1 0),(2,.v (.string ByteArray.empty)),(3,.s (limP zbE lim (ordP ord t)))]) (fun (jg:Unit)=>[HPow,.bx g1 29 (.agg [.s xa,.s xb,dI xc,dI xd,.sh 1 (xe.map D.s),.sh 3 (xf.map MatD.d),.sh 7 (Nd.ds xg),dI ord,dI lim,dI off])]) (fun (jg:Unit)=>True) (fun _ hQ5=>?_) ?_
   · skip
     refine jD rfl (fun hc6=>?_) (fun hc6=>?_)
     · skip
       refine zg rfl (oR 1 rfl (oP rfl (zd rfl fa_29_2 rfl) (oP rfl (ze rfl (i:=1) rfl Tryz.isAgg3 rfl) (oE rfl (zn [HPow] [.bx g1 29 (.agg [.s xa,.s xb,dI xc,dI xd,.sh 1 (xe.map D.s),.sh 3 (xf.map MatD.d),.sh 7 (Nd.ds xg),dI ord,dI lim,dI off])] [] rfl rfl (.cons ArgC.id .nil) zi Tryz.call97 (itoa_i lim (by omega)) (.inl rfl)) ?_))))
       rintro _ _ ⟨_,⟨rfl,rfl⟩,rfl⟩
       refine on rfl (oP rfl (zar rfl rfl (by unfold maxLen;(try simp only[ByteArray.size_append]);(try (have kl:=zba (show lim.toNat≤1000000000000 by omega)));(try (have ko:=zba (show off.toNat≤1000000000000 by omega)));(try simp only[ByteArray.size_append]);have kz:=catz;omega)) (oP rfl (zar rfl rfl (by unfold maxLen;(try simp only[ByteArray.size_append]);(try (have kl:=zba (show lim.toNat≤1000000000000 by omega)));(try (have ko:=zba (show off.toNat≤1000000000000 by omega)));(try simp only[ByteArray.size_append]);have kz:=catz;omega)) (oR 1 rfl (zq rfl (pn rfl ?_)))))
       exact PD.sub [(1,dP g1 0),(2,.v (.string ByteArray.empty)),(3,.s (limP zbE lim (ordP ord t)))] ⟨sk rfl,sk rfl,sc rfl (Cv.eq (congrArg D.s (show _=limP zbE lim (ordP ord t) from by unfold limP;rw[if_pos hc6]))),trivial⟩ (hQ5 () trivial)
     · skip
       refine zp rfl (pn rfl ?_)
       exact PD.sub [(1,dP g1 0),(2,.v (.string ByteArray.empty)),(3,.s (limP zbE lim (ordP ord t)))] ⟨sk rfl,sk rfl,sc rfl (Cv.eq (congrArg D.s (show _=limP zbE lim (ordP ord t) from by unfold limP;rw[if_neg hc6]))),trivial⟩ (hQ5 () trivial)
   · skip
     rintro _ _
     refine pk [1,2,3] rfl (pn rfl (zl (jS rfl (jT rfl (oP rfl (zd rfl fa_29_3 rfl) (oP rfl (ze rfl (i:=1) rfl Tryz.isAgg3 rfl) (oP rfl (zaM rfl rfl rfl) (oZ rfl ?_))))))))
     refine zcG (fun (jg:Unit)=>[(2,.v (.string ByteArray.empty)),(3,.s (limP zcn off (limP zbE lim (ordP ord t))))]) (fun (jg:Unit)=>[HPow,.bx g1 29 (.agg [.s xa,.s xb,dI xc,dI xd,.sh 1 (xe.map D.s),.sh 3 (xf.map MatD.d),.sh 7 (Nd.ds xg),dI ord,dI lim,dI off])]) (fun (jg:Unit)=>True) (fun _ hQ7=>?_) ?_
     · skip
       refine jD rfl (fun hc8=>?_) (fun hc8=>?_)
       · skip
         refine zg rfl (oR 1 rfl (oP rfl (zd rfl fa_29_3 rfl) (oP rfl (ze rfl (i:=1) rfl Tryz.isAgg3 rfl) (oE rfl (zn [HPow] [.bx g1 29 (.agg [.s xa,.s xb,dI xc,dI xd,.sh 1 (xe.map D.s),.sh 3 (xf.map MatD.d),.sh 7 (Nd.ds xg),dI ord,dI lim,dI off])] [] rfl rfl (.cons ArgC.id .nil) zi Tryz.call97 (itoa_i off (by omega)) (.inl rfl)) ?_))))
         rintro _ _ ⟨_,⟨rfl,rfl⟩,rfl⟩
         refine on rfl (oP rfl (zar rfl rfl (by unfold maxLen;(try simp only[ByteArray.size_append]);(try (have kl:=zba (show lim.toNat≤1000000000000 by omega)));(try (have ko:=zba (show off.toNat≤1000000000000 by omega)));(try simp only[ByteArray.size_append]);have kz:=catz;omega)) (oP rfl (zar rfl rfl (by unfold maxLen;(try simp only[ByteArray.size_append]);(try (have kl:=zba (show lim.toNat≤1000000000000 by omega)));(try (have ko:=zba (show off.toNat≤1000000000000 by omega)));(try simp only[ByteArray.size_append]);have kz:=catz;omega)) (oR 1 rfl (zq rfl (pn rfl ?_)))))
         exact PD.sub [(2,.v (.string ByteArray.empty)),(3,.s (limP zcn off (limP zbE lim (ordP ord t))))] ⟨sk rfl,sc rfl (Cv.eq (congrArg D.s (show _=limP zcn off (limP zbE lim (ordP ord t)) from by unfold limP;rw[if_pos hc8]))),trivial⟩ (hQ7 () trivial)
       · skip
         refine zp rfl (pn rfl ?_)
         exact PD.sub [(2,.v (.string ByteArray.empty)),(3,.s (limP zcn off (limP zbE lim (ordP ord t))))] ⟨sk rfl,sc rfl (Cv.eq (congrArg D.s (show _=limP zcn off (limP zbE lim (ordP ord t)) from by unfold limP;rw[if_neg hc8]))),trivial⟩ (hQ7 () trivial)
     · skip
       rintro _ _
       refine pk [2,3] rfl (pn rfl (zl (jT rfl (oR 2 rfl (oZ rfl (zm rfl (pn rfl ?_)))))))
       exact zh Tryz.results32 (.cons (zu (zk rfl) (Cv.eq (congrArg D.s (show (limP zcn off (limP zbE lim (ordP ord t)))=limP zcn off (limP zbE lim (ordP ord t)) from(by rfl))))) .nil) rfl (HSub.fst 1 rfl) ⟨rfl,rfl⟩
end Lp
set_option linter.unusedVariables false
namespace Lp
open Go
def zd9 (m:Nat) (p:Rd→Nd×Rd):Prop:=∀ s:Rd,s.l.length≤m→TOk s.l→(p s).2.b=false→Wf (p s).1
theorem mode_names (s:Rd) (a b:ByteArray):(s.mode a b).1=0∧(s.mode a b).2.1=[]∨(s.mode a b).1=1∨(s.mode a b).1=2:=by
 unfold Rd.mode;split
 · exact .inl ⟨rfl,rfl⟩
 · split
   · exact .inr (.inl rfl)
   · exact .inr (.inr rfl)
theorem zeU {s:Rd} {k:Int} (hk:k=2∨k=4) (hT:TOk s.l):∃ n:Nat,(s.number k).1=(n:Int)∧n≤1000000000000:=by
 have h:=zdS (s:=s) (s':=(s.number k).2) (k:=k) (v:=(s.number k).1) rfl hk hT
 exact⟨(s.number k).1.toNat,by omega,by omega⟩
theorem good_levelF {part:Rd→Nd×Rd} {ts:List ByteArray} (hb:Bad part) (hs:∀ s,Stp 1 s (part s).2) {m:Nat} (hp:zd9 m part):∀ (F:Nat) (o:Nd) (s:Rd),s.l.length≤m→TOk s.l→Wf o→(zaF part ts F o s).2.b=false→Wf (zaF part ts F o s).1
 | 0,o,s,_,_,h,_=>h
 | F+1,o,s,hm,hT,h,e=>by
  unfold zaF at e ⊢
  split
  · exact h
  · rename_i hc
    rw[if_neg hc] at e
    simp only at e ⊢
    have t1:TOk (s.take 5 ts).2.2.l:=hT.suf (zH s 5 ts).l
    have t2:TOk ((s.take 5 ts).2.2.mode tOn zJ).2.2.l:=t1.suf (zaW _ _ _).l
    have ep:(part ((s.take 5 ts).2.2.mode tOn zJ).2.2).2.b=false:=zU zbC (zU (fun q=>zcD q) e)
    have k1:=(zH s 5 ts).len
    have k2:=(zaW (s.take 5 ts).2.2 tOn zJ).len
    have k3:=(hs ((s.take 5 ts).2.2.mode tOn zJ).2.2).len
    have w:=hp _ (by omega) t2 ep
    refine good_levelF hb hs hp F _ _ (by show (part _).2.l.length≤m;omega) ?_ (.bin (mode_names _ _ _ |>.imp (fun x=>x) (fun x=>x)) h w) e
    exact t2.suf (hs _).l
theorem good_level {part:Rd→Nd×Rd} {ts:List ByteArray} (hb:Bad part) (hs:∀ s,Stp 1 s (part s).2) {m:Nat} (hp:zd9 m part):zd9 m (fun s=>s.level part ts):=fun s hm hT e=>by
 have ep:(part s).2.b=false:=zU (fun q=>zcD q) e
 have k3:=(hs s).len
 exact good_levelF hb hs hp _ _ _ (by omega) (hT.suf (hs s).l) (hp s hm hT ep) e
section
variable (rm:List MatD→Bool)
theorem opM_4 {s:Rd} (h:(s.take 5 [tEq,tNe,zai,zL]).2.1=true):1≤opM (s.take 5 [tEq,tNe,zai,zL]).1∧opM (s.take 5 [tEq,tNe,zai,zL]).1≤4:=by
 have hg:=za0 (by decide) h
 have hi:=hg.2.2.2.2
 have e1:(s.take 5 [tEq,tNe,zai,zL]).1=s.pk.t:=by unfold Rd.take;rw[if_neg (by rw[hg.2.2.1,hi];simp)]
 rw[e1]
 have hh:hasN [tEq,tNe,zai,zL] s.pk.t=true:=by unfold Rd.is at hi;exact(Bool.and_eq_true _ _ ▸ hi).2
 unfold opM
 by_cases a1:s.pk.t=tEq
 · rw[if_pos a1];decide
 · by_cases a2:s.pk.t=tNe
   · rw[if_neg a1,if_pos a2];decide
   · by_cases a3:s.pk.t=zai
     · rw[if_neg a1,if_neg a2,if_pos a3];decide
     · by_cases a4:s.pk.t=zL
       · rw[if_neg a1,if_neg a2,if_neg a3,if_pos a4];decide
       · exfalso
         unfold hasN at hh
         simp only[List.any_cons,List.any_nil,Bool.or_eq_true,decide_eq_true_eq,Bool.or_false] at hh
         rcases hh with hh | hh | hh | hh
         · exact a1 hh.symm
         · exact a2 hh.symm
         · exact a3 hh.symm
         · exact a4 hh.symm
theorem good_bracesF:∀ (F:Nat) (o:List MatD) (s:Rd),(∀ m∈o,1≤m.op∧m.op≤4)→(zaa F o s).2.b=false→∀ m∈(zaa F o s).1,1≤m.op∧m.op≤4
 | 0,o,s,h,_=>h
 | F+1,o,s,h,e=>by
  unfold zaa at e ⊢
  split
  · exact h
  · rename_i hb
    rw[if_neg hb] at e
    simp only at e ⊢
    have hv:(Rd.any ⟨((s.any 1).2.take 5 [tEq,tNe,zai,zL]).2.2.l,((s.any 1).2.take 5 [tEq,tNe,zai,zL]).2.2.n,((s.any 1).2.take 5 [tEq,tNe,zai,zL]).2.2.b||!((s.any 1).2.take 5 [tEq,tNe,zai,zL]).2.1⟩ 3).2.b=false:=by
     split at e
     · rename_i hq;exact(za0 (by decide) hq).2.2.1
     · rw[zec] at e;exact e
    have hc:(((s.any 1).2.take 5 [tEq,tNe,zai,zL]).2.2.b||!((s.any 1).2.take 5 [tEq,tNe,zai,zL]).2.1)=false:=zU (fun q=>zes (s:=⟨_,_,_⟩) q) hv
    have hop:=opM_4 (by have:=(Bool.or_eq_false_iff.1 hc).2;simpa using this)
    have hn:∀ m∈o++[(⟨(s.any 1).1,opM ((s.any 1).2.take 5 [tEq,tNe,zai,zL]).1,(Rd.any ⟨((s.any 1).2.take 5 [tEq,tNe,zai,zL]).2.2.l,((s.any 1).2.take 5 [tEq,tNe,zai,zL]).2.2.n,((s.any 1).2.take 5 [tEq,tNe,zai,zL]).2.2.b||!((s.any 1).2.take 5 [tEq,tNe,zai,zL]).2.1⟩ 3).1⟩:MatD)],1≤m.op∧m.op≤4:=fun m hm=>by
     rcases List.mem_append.1 hm with hm | hm
     · exact h m hm
     · rw[List.mem_singleton.1 hm];exact hop
    split
    · rename_i hq
      rw[if_pos hq] at e
      exact good_bracesF F _ _ hn e
    · exact hn
theorem good_sel:∀ s:Rd,TOk s.l→(s.selector rm).2.b=false→Wf (s.selector rm).1:=fun s hT e=>by
 unfold Rd.selector at e ⊢
 simp only at e ⊢
 have e3:=zU zbC e
 have e2:=zU selWin_b e3
 have t1:TOk s.selName.2.l:=by
  unfold Rd.selName;split
  · exact hT.suf (zaI s 1).l
  · exact hT
 have t2:TOk (s.selName.2.selMs rm s.selName.1).2.l:=by
  unfold Rd.selMs;split
  · exact t1.suf (zcU rm _).l
  · exact t1
 have hw:∃ n:Nat,(s.selName.2.selMs rm s.selName.1).2.selWin.1=(n:Int)∧n≤1000000000000:=by
  unfold Rd.selWin;split
  · exact zeU (.inr rfl) (t2.suf (zH _ 5 _).l)
  · exact⟨0,rfl,by decide⟩
 obtain ⟨n,h1,h2⟩:=hw
 have hm:∀ m∈(s.selName.2.selMs rm s.selName.1).1,1≤m.op∧m.op≤4:=by
  unfold Rd.selMs at e2 ⊢
  split
  · rename_i hc
    rw[if_pos hc] at e2
    unfold Rd.braces at e2 ⊢
    split
    · exact fun m hm=>by cases hm
    · rename_i hd
      rw[if_neg hd] at e2
      have e2:(((zaa _ [] (s.selName.2.must zS)).2.must zQ).b||_)=false:=e2
      exact good_bracesF _ _ _ (fun m hm=>by cases hm) (zU zaN (Bool.or_eq_false_iff.1 e2).1)
  · exact fun m hm=>by cases hm
 rw[h1]
 exact .sel h2 hm
theorem good_aggr {ex:Rd→Nd×Rd} (hb:Bad ex) {m:Nat} (hx:∀ a,a<m→zd9 a ex):∀ s:Rd,s.l.length≤m→TOk s.l→(s.aggr ex).2.b=false→Wf (s.aggr ex).1:=fun s hl hT e=>by
 unfold Rd.aggr at e ⊢
 simp only at e ⊢
 have e6:=zU zaN (zU zbC e)
 have e5:=hb.no e6
 have e3:((s.any 1).2.mode tBy zC |>.2.2.must zA).b=false:=by
  by_cases hn:zag (s.any 1).1=true
  · rw[if_pos hn,if_pos hn] at e5;exact zU zes (zU zaN e5)
  · rw[if_neg hn,if_neg hn] at e5;exact e5
 have e1:(s.any 1).2.b=false:=zU mode_b (zU zaN e3)
 have l1:=zcW (s:=s) (by decide) e1
 have l2:=(zaW (s.any 1).2 tBy zC).len
 have l3:=(zz ((s.any 1).2.mode tBy zC).2.2 zA).len
 have l4:=(zaE (((s.any 1).2.mode tBy zC).2.2.must zA) 2).len
 have l5:=(zz ((((s.any 1).2.mode tBy zC).2.2.must zA).number 2).2 zR).len
 have t1:TOk (s.any 1).2.l:=hT.suf (zaI s 1).l
 have t2:TOk ((s.any 1).2.mode tBy zC).2.2.l:=t1.suf (zaW _ _ _).l
 have t3:TOk (((s.any 1).2.mode tBy zC).2.2.must zA).l:=t2.suf (zz _ _).l
 have hm:=mode_names (s.any 1).2 tBy zC
 by_cases hn:zag (s.any 1).1=true
 · simp only[if_pos hn] at e6 ⊢
   obtain ⟨n,h1,h2⟩:=zeU (k:=2) (.inl rfl) t3
   have t4:TOk ((((s.any 1).2.mode tBy zC).2.2.must zA).number 2).2.l:=t3.suf (zaE _ 2).l
   have w:=hx _ (by omega) _ (Nat.le_refl _) (t4.suf (zz _ zR).l) e6
   rw[h1]
   exact .agg h2 (fun k=>by rw[hn] at k;cases k) hm w
 · simp only[if_neg hn] at e6 ⊢
   have w:=hx _ (by omega) _ (Nat.le_refl _) t3 e6
   exact Wf.agg (n:=0) (by decide) (fun _=>rfl) hm w
theorem good_prim {ex:Rd→Nd×Rd} (hb:Bad ex) {m:Nat} (hx:∀ a,a<m→zd9 a ex):zd9 m (fun s=>s.prim rm ex):=fun s hl hT e=>by
 have h0:s.b=false:=(zfr rm ex).no e
 have hn:¬s.b=true:=by rw[h0];decide
 simp only[Rd.prim] at e ⊢
 rw[if_neg hn] at e ⊢
 split
 · obtain ⟨n,h1,h2⟩:=zeU (s:=s) (k:=2) (.inl rfl) hT
   rw[h1];exact .num h2
 · rename_i hc
   rw[if_neg hc] at e
   split
   · rename_i hd
     rw[if_pos hd] at e
     have e1:=zU zaN e
     have l1:=zcC (hb.no e1)
     exact hx _ (by omega) _ (Nat.le_refl _) (hT.suf (zz s zA).l) e1
   · rename_i hd
     rw[if_neg hd] at e
     split
     · rename_i hf
       rw[if_pos hf] at e
       exact good_aggr hb hx s hl hT e
     · rename_i hf
       rw[if_neg hf] at e
       split
       · rename_i hg
         rw[if_pos hg] at e
         simp only at e ⊢
         have e1:=zU zbC (zU zaN e)
         have l1:=zcC (hb.no e1)
         have l2:=(zaI s 1).len
         exact .fn (hx _ (by omega) _ (Nat.le_refl _) ((hT.suf (zaI s 1).l).suf (zz _ zA).l) e1)
       · rename_i hg
         rw[if_neg hg] at e
         exact good_sel rm s hT e
theorem good_unaryF {ex:Rd→Nd×Rd} {m:Nat} (hp:zd9 m (fun s=>s.prim rm ex)):∀ (F:Nat) (s:Rd),s.l.length<F→s.l.length≤m→TOk s.l→(zac rm ex F s).2.b=false→Wf (zac rm ex F s).1
 | 0,s,h,_,_,_=>absurd h (Nat.not_lt_zero _)
 | F+1,s,hF,hm,hT,e=>by
  unfold zac at e ⊢
  have k1:=(zH s 5 [zan]).len
  have t1:TOk (s.take 5 [zan]).2.2.l:=hT.suf (zH s 5 [zan]).l
  split
  · rename_i hc
    rw[if_pos hc] at e
    simp only at e ⊢
    have hg:=za0 (by decide) hc
    exact .neg (good_unaryF hp F _ (by omega) (by omega) t1 (zU zbC e))
  · rename_i hc
    rw[if_neg hc] at e
    exact hp _ (by omega) t1 e
theorem good_prod {ex:Rd→Nd×Rd} (hb:Bad ex) (hs:∀ s,Stp 1 s (ex s).2) {m:Nat} (hx:∀ a,a<m→zd9 a ex):zd9 m (zcA rm ex):=
 good_level (fun s h=>zeb rm ex _ s h) (fun s=>zb5 rm hs _ s) (fun s hm hT e=>good_unaryF rm (good_prim rm hb hx) _ s (Nat.lt_succ_self _) hm hT e)
theorem good_sum {ex:Rd→Nd×Rd} (hb:Bad ex) (hs:∀ s,Stp 1 s (ex s).2) {m:Nat} (hx:∀ a,a<m→zd9 a ex):zd9 m (sumP rm ex):=
 good_level (zfq rm ex) (fun s=>zdf rm hs s) (good_prod rm hb hs hx)
theorem good_expr:∀ f:Nat,zd9 f (zaB rm (f+1))
 | 0=>good_level (zeQ rm _) (fun s=>zco rm (zaQ rm _) s) (good_sum rm (zeo rm _) (zaQ rm _) (fun a ha=>absurd ha (Nat.not_lt_zero _)))
 | f+1=>good_level (zeQ rm _) (fun s=>zco rm (zaQ rm _) s) (good_sum rm (zeo rm _) (zaQ rm _) (fun a ha s hl hT e=>good_expr f s (by omega) hT e))
theorem parse_wf {l:List TokD} {q:QryD} (hT:TOk l) (h:zbs rm l=some q):Wf q.root:=by
 obtain ⟨h1,h2,_⟩:=parse_parts rm h
 rw[←h1];exact good_expr rm l.length ⟨l,0,false⟩ (Nat.le_refl _) hT h2
end
theorem read_wf {s:ByteArray} (h:zbI s=0):Wf (zaH s).root:=by
 obtain ⟨h1,h2⟩:=zez h
 exact parse_wf rmD (lexL_tok s) h2
end Lp
