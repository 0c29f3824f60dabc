import Derived.Test.YtheccaeefigajaaGreatDoorV106
set_option linter.unusedVariables false
namespace Lp
open Go
def asc (l:List UInt8):Bool:=l.all (λb=>decide (b.toNat<128))
theorem asc_cons {b:UInt8} {l:List UInt8} (h:asc (b::l)=true):b.toNat<128/\asc l=true:=by
 unfold asc at h ⊢;simp only[List.all_cons,cY,decide_eq_true_eq] at h;exact h
theorem asc_drop {l:List UInt8} (h:asc l=true) (n:Nat):asc (l.drop n)=true:=by
 unfold asc at h ⊢;rw[dG] at h ⊢;exact λb hb=>h b (List.mem_of_mem_drop hb)
theorem asc_take {l:List UInt8} (h:asc l=true) (n:Nat):asc (l.take n)=true:=by
 unfold asc at h ⊢;rw[dG] at h ⊢;exact λb hb=>h b (vK hb)
def runA (f:Int->Bool):List UInt8->Nat
 | []=>0
 | b::r=>if f (b.toNat:Int)=true then 1+runA f r else 0
theorem zfu (f:Int->Bool):∀ (l:List UInt8),asc l=true->runL f l=runA f l
 | [],_=>zcA
 | b::r,h=>by
  obtain ⟨h1,h2⟩:=asc_cons h;unfold runA;have hd:=zab (t:=r) h1;by_cases hf:f (b.toNat:Int)=true
  · rw[if_pos hf,zcv (by simp) (by rw[hd];exact hf),hd];show 1+runL f r=_;rw[zfu f r h2]
  rw[if_neg hf,zc6 (by rw[hd];simpa using hf)]
theorem runes_asc {l:List UInt8} (h:asc l=true):zu (mkB l)=l.map (λb=>(b.toNat:Int)):=by
 have key:∀ (n p:Nat),(mkB l).size-p=n->zaF (mkB l) p=(l.drop p).map (λb=>(b.toNat:Int)):=by
  intro n
  induction n using Nat.strongRecOn with
  | _ n ih=>
   intro p hn;rw[z8] at hn;rcases c8 p l.length with hp | hp
   · have hb:bts (mkB l) p=l.drop p:=(by unfold bts;rw[<-zbq l];rfl);obtain ⟨b,hx⟩:∃ b,l[p]?=some b:=⟨l[p],dK hp⟩;have hdr:l.drop p=b::l.drop (p+1):=by
      rw[uV hp];congr 1;rw[dK hp] at hx;injection hx
     have hb1:b.toNat<128:=(asc_cons (by rw[<-hdr];exact asc_drop h p)).1;have hd:decL (bts (mkB l) p)=(b.toNat,1):=(by rw[hb,hdr];exact zab hb1);rw[zan (by rw[z8];exact hp),zbp,zbT,hd,hdr];rw[ih (l.length-(p+1)) (by omega) (p+1) (by rw[z8])];rfl
   rw[zay (by rw[z8];exact hp),uB hp];rfl
 rw[show zu (mkB l)=zaF (mkB l) 0 from rfl,key _ 0 rfl,j7]
def digK:Nat->Nat->List UInt8
 | 0,_=>[]
 | f+1,n=>if n<10 then [UInt8.ofNat (48+n)] else digK f (n / 10)++[UInt8.ofNat (48+n % 10)]
theorem digK_eq:∀ (f n:Nat),0<f->n<10 ^ f->digK f n=digL n
 | 0,n,h,_=>absurd h (by omega)
 | f+1,n,_,h=>by
  unfold digK digL;by_cases hn:n<10
  · rw[if_pos hn,dif_pos hn]
  rw[if_neg hn,dif_neg hn];rw[Nat.pow_succ] at h;cases f with
  | zero=>simp at h;omega
  | succ f=>rw[digK_eq (f+1) (n / 10) (by omega) (by omega)]
theorem digK_B {n:Nat} (h:n<=1000000000000):mkB (digK 20 n)=digB n:=by
 unfold digB;rw[digK_eq 20 n (by decide) (wB h (by decide))]
def zbI (b:UInt8):Bool:=decide (b.toNat<128)&&decide (b.toNat≠34)&&decide (b.toNat≠92)&&decide (b.toNat≠10)
theorem enc_asc {c:Nat} (h:c<128):encR c=[UInt8.ofNat c]:=by unfold encR;rw[if_pos (by omega),Nat.mod_eq_of_lt (by omega)]
theorem quote_plain {l:List UInt8} (h:∀ b∈l,zbI b=true):zaO (mkB l)=34::(l++[34]):=by
 have key:∀ (n p:Nat),(mkB l).size-p=n->zR (mkB l) p=l.drop p:=by
  intro n
  induction n using Nat.strongRecOn with
  | _ n ih=>
   intro p hn;rw[z8] at hn;rcases c8 p l.length with hp | hp
   · have hb:bts (mkB l) p=l.drop p:=(by unfold bts;rw[<-zbq l];rfl);have hdr:l.drop p=l[p]::l.drop (p+1):=uV hp;have hq:=h l[p] (List.getElem_mem hp);unfold zbI at hq;simp only[cY,decide_eq_true_eq] at hq;obtain ⟨⟨⟨h1,h2⟩,h3⟩,h4⟩:=hq;have hd:decL (bts (mkB l) p)=(l[p].toNat,1):=(by rw[hb,hdr];exact zab h1);have hr:decR (mkB l) p=l[p].toNat:=(by rw[zbp,hd]);have hw:decW (mkB l) p=1:=(by rw[zbT,hd]);rw[zaU (by rw[z8];exact hp),piece_4 (by rw[hr];omega) (by rw[hr];exact h4) (by rw[hr];omega),hr,hw,enc_asc h1,ih (l.length-(p+1)) (by omega) (p+1) (by rw[z8]),hdr];simp
   rw[zbH (by rw[z8];exact hp),uB hp]
 unfold zaO;rw[key _ 0 rfl,j7]
def firstA (l:List UInt8):Option (TokD×Nat):=
 match l with
 | []=>none
 | c::r=>
  if zy (c.toNat:Int)=1 then
   if zdH 0 ((l.take (runA isLD l)).map (λb=>(b.toNat:Int)))=true/\0<runA isLD l then some (⟨1,0,mkB (l.take (runA isLD l))⟩,runA isLD l) else none
  else if zy (c.toNat:Int)=2 then
   if 13<runA isD l\/1000000000000<digV (l.take (runA isD l))\/runA isD l=0 then none
   else if runA isLD l=runA isD l then some (⟨2,0,mkB (digK 20 (digV (l.take (runA isD l))))⟩,runA isD l)
   else if secB (mkB ((l.take (runA isLD l)).drop (runA isD l)))=0\/1000000000 / secB (mkB ((l.take (runA isLD l)).drop (runA isD l)))<digV (l.take (runA isD l))\/1000000000000<digV (l.take (runA isD l))*secB (mkB ((l.take (runA isLD l)).drop (runA isD l)))\/runA isLD l=0 then none
   else some (⟨4,0,mkB (digK 20 (digV (l.take (runA isD l))*secB (mkB ((l.take (runA isLD l)).drop (runA isD l)))))⟩,runA isLD l)
  else if c.toNat=34 then
   if (r.drop (r.takeWhile zbI).length).head?=some 34 then some (⟨3,0,mkB (r.takeWhile zbI)⟩,(r.takeWhile zbI).length+2) else none
  else if (zbQ l).2=0 then none else some (zbQ l)
theorem firstA_ok {l:List UInt8} (ha:asc l=true) {t:TokD} {n:Nat} (h:firstA l=some (t,n)):zg l=(t,n)/\n≠0:=by
 cases l with
 | nil=>cases h
 | cons c r=>
  have hc:=(asc_cons ha).1;have hd:=zab (t:=r) hc;unfold firstA at h;simp only at h;unfold zg;rw[hd];by_cases h1:zy (c.toNat:Int)=1
  · rw[if_pos h1] at h ⊢;split at h
    · rename_i h2;injection h with h;injection h with e1 e2;subst e1;subst e2;refine⟨?_,by omega⟩;unfold zca;rw[zfu _ _ ha];have hn:zba (mkB ((c::r).take (runA isLD (c::r))))=true:=(by unfold zba;rw[runes_asc (asc_take ha _)];exact h2.1);rw[if_pos hn]
    cases h
  rw[if_neg h1] at h ⊢;by_cases h2:zy (c.toNat:Int)=2
  · rw[if_pos h2] at h ⊢;unfold numT;rw[zfu _ _ ha,zfu _ _ ha];split at h
    · cases h
    rename_i h3;rw[if_neg (by omega)];split at h
    · rename_i h4;injection h with h;injection h with e1 e2;subst e1;subst e2;rw[if_pos h4,digK_B (by omega)];exact⟨rfl,by omega⟩
    rename_i h4;split at h
    · cases h
    rename_i h5;injection h with h;injection h with e1 e2;subst e1;subst e2;rw[if_neg h4,if_neg (by omega),digK_B (by omega)];exact⟨rfl,by omega⟩
  rw[if_neg h2] at h ⊢;by_cases h3:c.toNat=34
  · rw[if_pos h3] at h;split at h
    · rename_i h4;injection h with h;injection h with e1 e2;subst e1;subst e2;refine⟨?_,by omega⟩;have hr:r=r.takeWhile zbI++34::r.drop ((r.takeWhile zbI).length+1):=by
       have e1:r=r.take (r.takeWhile zbI).length++r.drop (r.takeWhile zbI).length:=(d8 _ _).symm;have e2:r.take (r.takeWhile zbI).length=r.takeWhile zbI:=by
        have:=List.takeWhile_prefix (l:=r) zbI;exact(List.prefix_iff_eq_take.1 this).symm
       have e3:r.drop (r.takeWhile zbI).length=34::r.drop ((r.takeWhile zbI).length+1):=by
        cases hh:r.drop (r.takeWhile zbI).length with
        | nil=>rw[hh] at h4;cases h4
        | cons y z=>
         rw[hh] at h4;have:y=34:=(by simpa using h4);subst this;congr 1;have:=congrArg List.tail hh;rw[List.tail_drop] at this;exact this.symm
       rw[<-e3,<-e2];rw[e2];exact e1.trans (by rw[e2])
      have hq:=quote_plain (l:=r.takeWhile zbI) (λb hb=>by
       have:=List.all_takeWhile (p:=zbI) (l:=r);exact dG.1 this b hb)
      have hc34:c=34:=jP.1 h3;have hl:c::r=zaO (mkB (r.takeWhile zbI))++r.drop ((r.takeWhile zbI).length+1):=by
       rw[hq,hc34];simp only[jA,dQ,jI];congr 1
      have hs:=strT_quote (mkB (r.takeWhile zbI)) (r.drop ((r.takeWhile zbI).length+1));rw[<-hl] at hs;unfold zg at hs;rw[hd,if_neg h1,if_neg h2] at hs;rw[hs,hq];simp
    cases h
  rw[if_neg h3] at h;have h3':¬(c.toNat,1).1=34:=h3;rw[if_neg h3'];split at h
  · cases h
  rename_i h4;injection h with h;rw[h] at h4 ⊢;exact⟨rfl,h4⟩
def lexA:Nat->List UInt8->Nat->Option (List TokD)
 | 0,_,_=>none
 | f+1,l,a=>
  if l.drop (runA isB l)=[] then some []
  else match firstA (l.drop (runA isB l)) with
   | none=>none
   | some (t,n)=>(lexA f ((l.drop (runA isB l)).drop n) (a+runA isB l+n)).map (t.put (a+runA isB l)::·)
theorem lexA_ok:∀ (f:Nat) (l:List UInt8) (a:Nat) (ts:List TokD),asc l=true->lexA f l a=some ts->zM l a=some ts
 | 0,l,a,ts,_,h=>by cases h
 | f+1,l,a,ts,ha,h=>by
  unfold lexA at h;have hb:=zfu isB l ha;unfold zM;rw[hb];split at h
  · rename_i h0;injection h with h;subst h;rw[h0];exact zaI
  rename_i h0;cases e:firstA (l.drop (runA isB l)) with
  | none=>rw[e] at h;cases h
  | some p=>
   obtain ⟨t,n⟩:=p;rw[e] at h;simp only at h;obtain ⟨e1,e2⟩:=firstA_ok (asc_drop ha _) e;cases e3:lexA f ((l.drop (runA isB l)).drop n) (a+runA isB l+n) with
   | none=>rw[e3] at h;cases h
   | some t2=>
    rw[e3] at h;have h:t.put (a+runA isB l)::t2=ts:=(by injection h);have ih:=lexA_ok f _ _ _ (asc_drop (asc_drop ha _) n) e3;have hlen:(l.drop (runA isB l)).length<=l.length:=(by rw[cZ];omega);rw[zaN h0 (by rw[e1];exact e2) hlen,e1];simp only;rw[ih];show some _=some _;rw[<-h]
theorem lexA_lex {s:ByteArray} {ts:List TokD} (h:lexA (s.size+1) (bl8 s) 0=some ts) (ha:asc (bl8 s)=true) (hs:s.size<=600):lexL s=ts/\lexE s=0:=lex_of hs (lexA_ok _ _ _ _ ha h)
abbrev a8S1:ByteArray:=(⟨#[49,43,50,42,45,51]⟩:ByteArray)
abbrev a8S2:ByteArray:=(⟨#[115,117,109,32,98,121,32,40,104,111,115,116,41,32,40,99,112,117,123,97,61,34,98,34,125,41,32,111,114,100,101,114,32,100,101,115,99,32,108,105,109,105,116,32,51]⟩:ByteArray)
abbrev a8T1:List TokD:=[⟨2,0,(⟨#[49]⟩:ByteArray)⟩,⟨5,1,(⟨#[43]⟩:ByteArray)⟩,⟨2,2,(⟨#[50]⟩:ByteArray)⟩,⟨5,3,(⟨#[42]⟩:ByteArray)⟩,⟨5,4,(⟨#[45]⟩:ByteArray)⟩,⟨2,5,(⟨#[51]⟩:ByteArray)⟩]
abbrev a8T2:List TokD:=[⟨1,0,(⟨#[115,117,109]⟩:ByteArray)⟩,⟨1,4,(⟨#[98,121]⟩:ByteArray)⟩,⟨5,7,(⟨#[40]⟩:ByteArray)⟩,⟨1,8,(⟨#[104,111,115,116]⟩:ByteArray)⟩,⟨5,12,(⟨#[41]⟩:ByteArray)⟩,⟨5,14,(⟨#[40]⟩:ByteArray)⟩,⟨1,15,(⟨#[99,112,117]⟩:ByteArray)⟩,⟨5,18,(⟨#[123]⟩:ByteArray)⟩,⟨1,19,(⟨#[97]⟩:ByteArray)⟩,⟨5,20,(⟨#[61]⟩:ByteArray)⟩,⟨3,21,(⟨#[98]⟩:ByteArray)⟩,⟨5,24,(⟨#[125]⟩:ByteArray)⟩,⟨5,25,(⟨#[41]⟩:ByteArray)⟩,⟨1,27,(⟨#[111,114,100,101,114]⟩:ByteArray)⟩,⟨1,33,(⟨#[100,101,115,99]⟩:ByteArray)⟩,⟨1,38,(⟨#[108,105,109,105,116]⟩:ByteArray)⟩,⟨2,44,(⟨#[51]⟩:ByteArray)⟩]
abbrev a8P:ByteArray:=(⟨#[49,32,43,32,40,50,32,42,32,40,45,51,41,41]⟩:ByteArray)
theorem al8_1:lexL a8S1=a8T1/\lexE a8S1=0:=lexA_lex (by kernel_rfl) (by decide) (by decide)
theorem al8_2:lexL a8S2=a8T2/\lexE a8S2=0:=lexA_lex (by kernel_rfl) (by decide) (by decide)
def a8n (n:Nat):Nd:=.mk tNum ByteArray.empty (n:Int) 0 [] [] []
def a8K1:List Nd:=[a8n 1,.mk tBin zcu 0 0 [] [] [a8n 2,.mk tNeg ByteArray.empty 0 0 [] [] [a8n 3]]]
def a8K2:List Nd:=[.mk nSel (⟨#[99,112,117]⟩:ByteArray) 0 0 [] [⟨(⟨#[97]⟩:ByteArray),1,(⟨#[98]⟩:ByteArray)⟩] []]
theorem rd_is {s:ByteArray} {l:List TokD} {q:QryD} (h:lexL s=l/\lexE s=0) (hp:zbJ rmD l=some q):zcb s=0/\zaW s=q:=by
 unfold zcb zaW;rw[if_pos h.2,if_pos h.2,h.1,hp];exact⟨rfl,rfl⟩
theorem al8_r1:zcb a8S1=0/\zaW a8S1=⟨.mk tBin zdU 0 0 [] [] a8K1,0,-1,-1⟩:=rd_is al8_1 (by kernel_rfl)
theorem al8_r2:zcb a8S2=0/\zaW a8S2=⟨.mk tAgg (⟨#[115,117,109]⟩:ByteArray) 0 1 [(⟨#[104,111,115,116]⟩:ByteArray)] [] a8K2,2,3,-1⟩:=rd_is al8_2 (by kernel_rfl)
deriving instance DecidableEq for MatD
noncomputable def Nd.eqB (a b:Nd):Bool:=@decide (a=b) (Classical.propDecidable _)
theorem eqB_t {a b:Nd} (h:a=b):true=a.eqB b:=(@decide_eq_true _ (Classical.propDecidable _) h).symm
theorem eqB_f {a b:Nd} (h:a≠b):false=a.eqB b:=(@decide_eq_false _ (Classical.propDecidable _) h).symm
theorem eqB_is {a b:Nd}:a.eqB b=true↔a=b:=⟨λh=>@of_decide_eq_true _ (Classical.propDecidable _) h,λh=>(eqB_t h).symm⟩
theorem eqB_no {a b:Nd}:a.eqB b=false↔a≠b:=⟨λh=>@of_decide_eq_false _ (Classical.propDecidable _) h,λh=>(eqB_f h).symm⟩
theorem tk_ne {α:Type} {a b:List α} {k:Nat} {x y:α} (hx:a[k]?=some x) (hy:b[k]?=some y) (h:x≠y):a≠b:=by
 rintro rfl;rw[hx] at hy;injection hy with e;exact h e
theorem tk_go {α:Type} {a b:List α} {k:Nat} {x y:α} (hx:a[k]?=some x) (hy:b[k]?=some y) (hf:a.take k=b.take k) (h:x=y):a.take (k+1)=b.take (k+1):=by
 rw[zaT hx,zaT hy,hf,h]
theorem zet {α:Type} {a b:List α} {k:Nat} (h1:a.length<=k) (h2:b.length<=k) (hf:a.take k=b.take k):a=b:=by
 rwa [dJ h1,dJ h2] at hf
def Lx (s:ByteArray) (W:List TokD):Prop:=∃ vs,zM (bl8 s) 0=some vs/\vs.map er=W.map er
theorem zeB (a b:ByteArray):bl8 (a++b)=bl8 a++bl8 b:=by simp[bl8]
theorem Lx.cat {s r:ByteArray} {W V:List TokD} (h:Lx s W) (k:Lx r V) (hr:Stop (bl8 r)):Lx (s++r) (W++V):=by
 obtain ⟨vs,e1,e2⟩:=h;obtain ⟨us,e3,e4⟩:=k;obtain ⟨ws,e5,e6⟩:=words_cat hr e1 e3;refine⟨ws,by rw[zeB];exact e5,?_⟩;rw[e6,uF,uF,e2,e4]
abbrev wk (t:ByteArray):TokD:=⟨1,0,t⟩
structure St (r:List TokD) (u:Rd):Prop where
 l:u.l.map er=r.map er
 b:u.b=false
section
variable {r:List TokD} {u:Rd} {x y:TokD} {k:Int} {ts:List ByteArray} {w:ByteArray}
theorem St.pk (h:St (x::r) u):u.pk.k=x.k/\u.pk.t=x.t:=by
 have e1:=zgq (s:=u);rw[h.l] at e1;exact er_kt (show er u.pk=er x from e1)
theorem St.yes (h:St (x::r) u) (hk:x.k=k) (ht:hasN ts x.t=true):u.take k ts=(x.t,true,⟨u.l.tail,u.n,u.b⟩)/\St r ⟨u.l.tail,u.n,u.b⟩:=by
 obtain ⟨e2,e3⟩:=h.pk;have hi:u.is k ts=true:=by unfold Rd.is;rw[e2,e3,hk,ht];simp
 refine⟨by unfold Rd.take;rw[if_neg (by rw[h.b,hi];simp),e3],?_,h.b⟩;show u.l.tail.map er=_;rw[List.map_tail,h.l];rfl
theorem St.not (h:St r u) (hn:r=[]\/∃ z r',r=z::r'/\(z.k≠k\/hasN ts z.t=false)) (hk:k≠0):u.take k ts=(ByteArray.empty,false,u):=by
 refine zbr (.inr ?_);rcases hn with rfl | ⟨z,r',rfl,hz⟩
 · exact zey (List.map_eq_nil_iff.1 h.l) hk
 obtain ⟨e2,e3⟩:=h.pk;unfold Rd.is;rw[e2,e3];rcases hz with hz | hz
 · rw[decide_eq_false hz];rfl
 rw[hz,jE]
theorem St.any (h:St (x::r) u) (hk:x.k=k):u.any k=(x.t,⟨u.l.tail,u.n,u.b⟩)/\St r ⟨u.l.tail,u.n,u.b⟩:=by
 obtain ⟨e2,e3⟩:=h.pk;refine⟨by unfold Rd.any;rw[if_neg (by rw[h.b,e2,hk];simp),e3],?_,h.b⟩;show u.l.tail.map er=_;rw[List.map_tail,h.l];rfl
end
def endQ (u:Rd):Int×Int×Int×Rd:=(u.order.1,(u.order.2.bound za6).1,((u.order.2.bound za6).2.bound zaJ).1,((u.order.2.bound za6).2.bound zaJ).2)
theorem parse_endQ (rm:List MatD->Bool) {L:List TokD} {n:Nd} {u:Rd} (e:zaA rm (L.length+1) ⟨L,0,false⟩=(n,u)):zbJ rm L=if (endQ u).2.2.2.b=true\/0<(endQ u).2.2.2.l.length then none else some ⟨n,(endQ u).1,(endQ u).2.1,(endQ u).2.2.1⟩:=by
 unfold zbJ;simp only;rw[e];rfl
theorem limP_sz {k t:ByteArray} {n:Int} (hn:n<=1000000000000) (hk:k.size<=8):(limP k n t).size<=t.size+28:=by
 unfold limP;split
 · have:=zah (show n.toNat<=1000000000000 by omega);simp only[cQ];omega
 omega
theorem ordP_sz (o:Int) (t:ByteArray):(ordP o t).size<=t.size+11:=by
 have h1:tOAsc.size=10:=rfl;have h2:tODesc.size=11:=rfl;unfold ordP;split
 · simp only[cQ];omega
 split
 · simp only[cQ];omega
 omega
end Lp
set_option linter.unusedSimpArgs false
set_option maxHeartbeats 4000000
set_option maxRecDepth 100000
namespace Lp
open Go Go.RowKit Go.Proofs Tryz
theorem itoa_i (n:Int) (h:0<=n/\n<=1000000000000):CD prog 97 [HPow] [dI n] (PrT (digB n.toNat)):=by
 obtain ⟨m,rfl⟩:∃ m:Nat,n=m:=⟨n.toNat,by omega⟩;exact zeW m (by omega)
theorem print_s (xa xb:ByteArray) (xc xd:Int) (xe:List ByteArray) (xf:List MatD) (xg:List Nd) (ord lim off:Int) (t:ByteArray) (ht:t.size<=10000000) (hl:lim<=1000000000000) (ho:off<=1000000000000) (hx:CD prog 34 [HPow] [n7 xa xb xc xd xe xf xg] (PrT t)):
 CD prog 32 [HPow] [.agg [.s xa,.s xb,dI xc,dI xd,.sh 1 (xe.map D.s),.sh 3 (xf.map MatD.d),.sh 7 (Nd.ds xg),dI ord,dI lim,dI off]] (PrT (limP zci off (limP zbc lim (ordP ord t)))):=by
 refine tZ func32 O O (λC=>?_);refine T.bd 0 O (λbd0=>?_);have hz1:=ordP_sz ord t;have hz2:=limP_sz (k:=zbc) (t:=ordP ord t) (n:=lim) hl (by decide);refine g' 2 O ?_;refine tA O (λg1=>?_);refine gQ 7 [0] O O (tX [1] O O acs (hx) ?_);rintro _ _ ⟨rfl,rfl⟩;refine gQ 17 [1] O O ?_;refine tJ (λ(jg:Unit)=>[(1,dP g1 0),(2,cC),(3,.s (ordP ord t))]) (λ(jg:Unit)=>[HPow,.bx g1 29 (.agg [.s xa,.s xb,dI xc,dI xd,.sh 1 (xe.map D.s),.sh 3 (xf.map MatD.d),.sh 7 (Nd.ds xg),dI ord,dI lim,dI off])]) (λ(jg:Unit)=>True) (λ_ hQ2=>?_) ?_
 · refine tD O (λhc3=>?_) (λhc3=>?_)
   · refine g' 2 O (tP O (cA O O (by (try simp only[cQ]);(try (have kl:=zah (show lim.toNat<=1000000000000 by omega)));(try (have ko:=zah (show off.toNat<=1000000000000 by omega)));(try simp only[cQ]);have kz:=catz;omega)) (g' 2 O ?_));exact T.sb (hQ2 () trivial) ⟨sk O,sk O,sc O (w5 (congrArg D.s (show _=ordP ord t from by unfold ordP;rw[if_pos hc3]))),trivial⟩
   refine g' 6 O ?_;refine tD O (λhc4=>?_) (λhc4=>?_)
   · refine g' 2 O (tP O (cA O O (by (try simp only[cQ]);(try (have kl:=zah (show lim.toNat<=1000000000000 by omega)));(try (have ko:=zah (show off.toNat<=1000000000000 by omega)));(try simp only[cQ]);have kz:=catz;omega)) (g' 2 O ?_));exact T.sb (hQ2 () trivial) ⟨sk O,sk O,sc O (w5 (congrArg D.s (show _=ordP ord t from by unfold ordP;rw[if_neg hc3,if_pos hc4]))),trivial⟩
   refine g' 1 O ?_;exact T.sb (hQ2 () trivial) ⟨sk O,sk O,sc O (w5 (congrArg D.s (show _=ordP ord t from by unfold ordP;rw[if_neg hc3,if_neg hc4]))),trivial⟩
 rintro _ _;refine gQ 10 [1] O O ?_;refine tJ (λ(jg:Unit)=>[(1,dP g1 0),(2,cC),(3,.s (limP zbc lim (ordP ord t)))]) (λ(jg:Unit)=>[HPow,.bx g1 29 (.agg [.s xa,.s xb,dI xc,dI xd,.sh 1 (xe.map D.s),.sh 3 (xf.map MatD.d),.sh 7 (Nd.ds xg),dI ord,dI lim,dI off])]) (λ(jg:Unit)=>True) (λ_ hQ5=>?_) ?_
 · refine tD O (λhc6=>?_) (λhc6=>?_)
   · refine gQ 4 [1] O O (tX [0] O O acs (itoa_i lim (by omega)) ?_);rintro _ _ ⟨rfl,rfl⟩;refine tP O (cA O O (by (try simp only[cQ]);(try (have kl:=zah (show lim.toNat<=1000000000000 by omega)));(try (have ko:=zah (show off.toNat<=1000000000000 by omega)));(try simp only[cQ]);have kz:=catz;omega)) (tP O (cA O O (by (try simp only[cQ]);(try (have kl:=zah (show lim.toNat<=1000000000000 by omega)));(try (have ko:=zah (show off.toNat<=1000000000000 by omega)));(try simp only[cQ]);have kz:=catz;omega)) (g' 2 O ?_));exact T.sb (hQ5 () trivial) ⟨sk O,sk O,sc O (w5 (congrArg D.s (show _=limP zbc lim (ordP ord t) from by unfold limP;rw[if_pos hc6]))),trivial⟩
   refine g' 1 O ?_;exact T.sb (hQ5 () trivial) ⟨sk O,sk O,sc O (w5 (congrArg D.s (show _=limP zbc lim (ordP ord t) from by unfold limP;rw[if_neg hc6]))),trivial⟩
 rintro _ _;refine gQ 9 [1] O O ?_;refine tJ (λ(jg:Unit)=>[(2,cC),(3,.s (limP zci off (limP zbc lim (ordP ord t))))]) (λ(jg:Unit)=>[HPow,.bx g1 29 (.agg [.s xa,.s xb,dI xc,dI xd,.sh 1 (xe.map D.s),.sh 3 (xf.map MatD.d),.sh 7 (Nd.ds xg),dI ord,dI lim,dI off])]) (λ(jg:Unit)=>True) (λ_ hQ7=>?_) ?_
 · refine tD O (λhc8=>?_) (λhc8=>?_)
   · refine gQ 4 [1] O O (tX [0] O O acs (itoa_i off (by omega)) ?_);rintro _ _ ⟨rfl,rfl⟩;refine tP O (cA O O (by (try simp only[cQ]);(try (have kl:=zah (show lim.toNat<=1000000000000 by omega)));(try (have ko:=zah (show off.toNat<=1000000000000 by omega)));(try simp only[cQ]);have kz:=catz;omega)) (tP O (cA O O (by (try simp only[cQ]);(try (have kl:=zah (show lim.toNat<=1000000000000 by omega)));(try (have ko:=zah (show off.toNat<=1000000000000 by omega)));(try simp only[cQ]);have kz:=catz;omega)) (g' 2 O ?_));exact T.sb (hQ7 () trivial) ⟨sk O,sc O (w5 (congrArg D.s (show _=limP zci off (limP zbc lim (ordP ord t)) from by unfold limP;rw[if_pos hc8]))),trivial⟩
   refine g' 1 O ?_;exact T.sb (hQ7 () trivial) ⟨sk O,sc O (w5 (congrArg D.s (show _=limP zci off (limP zbc lim (ordP ord t)) from by unfold limP;rw[if_neg hc8]))),trivial⟩
 rintro _ _;refine g' 8 O ?_;exact tRs O results32 (.cons (zd (zc O) (w5 (congrArg D.s (show (limP zci off (limP zbc lim (ordP ord t)))=limP zci off (limP zbc lim (ordP ord t)) from(by rfl))))) .nil) O (mN 1 O) ⟨O,O⟩
theorem p_eqmat_neq {ty t':TypeId} {K:Kd} {H:List Hp} {x y:Operand} {dx dy:D} {a b:MatD} {q:Bool} (hx:opD K x=some dx) (cx:Cv dx (MatD.d a)) (hy:opD K y=some dy) (cy:Cv dy (MatD.d b)) (hq:decide (a≠b)=q):Pu prog (.binOp .neq 65 x y t') ty K H (dB q):=
 ⟨λρ w F hk _ _=>by
  obtain ⟨vs,e,u1,r1,rfl,_,⟨rfl,_⟩,u2,r2,rfl,_,rfl,u3,r3,rfl,_,⟨rfl,_⟩,rfl⟩:=cx.out _ _ _ (hk.op hx);obtain ⟨vs',e',u4,r4,rfl,_,⟨rfl,_⟩,u5,r5,rfl,_,rfl,u6,r6,rfl,_,⟨rfl,_⟩,rfl⟩:=cy.out _ _ _ (hk.op hy);refine zdl (r:=.bool q) (zl ρ [x,y]) (zb3 ρ e) (zb2 ρ e') (λw=>?_) ⟨O,O⟩;subst hq;obtain ⟨a1,a2,a3⟩:=a;obtain ⟨b1,b2,b3⟩:=b;simp[go_sem,toList_beq];by_cases h1:a1=b1<;>by_cases h2:a2=b2<;>by_cases h3:a3=b3<;>simp[h1,h2,h3]⟩
theorem read8_1 (ev es:Value) (hev:EvOk ev) (hes:EvOk es):CD prog 14 [HPow,HErr ev,HSyn es] [.v (.string a8S1)] (λr H'=>r=.tup [.agg [.s ⟨#[98,105,110]⟩,.s ⟨#[43]⟩,dI 0,dI 0,.sh 1 (([]:List ByteArray).map D.s),.sh 3 (([]:List MatD).map MatD.d),.sh 7 (Nd.ds a8K1),dI 0,dI (-1),dI (-1)],dI 0]/\H'=[HPow,HErr ev,HSyn es]):=by
 have h:=Read_c a8S1 ev es hev hes;rw[al8_r1.1,al8_r1.2] at h;refine CD.to ⟨λw F vs hvs hF hH=>h.out w F vs (by obtain ⟨u,us,e,hu,hus⟩:=hvs;exact⟨u,us,e,⟨hu,by decide⟩,hus⟩) hF hH⟩ ?_;rintro r H' ⟨op,text,n,mode,names,ms,kids,o,a,b,e,rfl,rfl⟩;injection e with e1 e2 e3 e4;subst e2;subst e3;subst e4;injection e1 with a1 a2 a3 a4 a5 a6 a7;subst a1;subst a2;subst a3;subst a4;subst a5;subst a6;subst a7;exact⟨O,O⟩
theorem read8_2 (ev es:Value) (hev:EvOk ev) (hes:EvOk es):CD prog 14 [HPow,HErr ev,HSyn es] [.v (.string a8S2)] (λr H'=>r=.tup [.agg [.s ⟨#[97,103,103]⟩,.s ⟨#[115,117,109]⟩,dI 0,dI 1,.sh 1 ([(⟨#[104,111,115,116]⟩:ByteArray)].map D.s),.sh 3 (([]:List MatD).map MatD.d),.sh 7 (Nd.ds a8K2),dI 2,dI 3,dI (-1)],dI 0]/\H'=[HPow,HErr ev,HSyn es]):=by
 have h:=Read_c a8S2 ev es hev hes;rw[al8_r2.1,al8_r2.2] at h;refine CD.to ⟨λw F vs hvs hF hH=>h.out w F vs (by obtain ⟨u,us,e,hu,hus⟩:=hvs;exact⟨u,us,e,⟨hu,by decide⟩,hus⟩) hF hH⟩ ?_;rintro r H' ⟨op,text,n,mode,names,ms,kids,o,a,b,e,rfl,rfl⟩;injection e with e1 e2 e3 e4;subst e2;subst e3;subst e4;injection e1 with a1 a2 a3 a4 a5 a6 a7;subst a1;subst a2;subst a3;subst a4;subst a5;subst a6;subst a7;exact⟨O,O⟩
theorem bintext0_c (text:ByteArray) (n:Nat) (names:List ByteArray) (ms:List MatD) (xa xb:ByteArray) (xc xd:Int) (xe:List ByteArray) (xf:List MatD) (xg:List Nd) (ya yb:ByteArray) (yc yd:Int) (ye:List ByteArray) (yf:List MatD) (yg:List Nd) (ta tb:ByteArray) (h0:text.size<=1000) (hxt:ta.size<=10000000) (hx:CD prog 99 [HPow] [n7 xa xb xc xd xe xf xg] (PrT ta)) (hyt:tb.size<=10000000) (hy:CD prog 99 [HPow] [n7 ya yb yc yd ye yf yg] (PrT tb)):
 CD prog 100 [HPow] [.agg [.s ⟨#[98,105,110]⟩,.s text,dN n,dI 0,.sh 1 (names.map D.s),.sh 3 (ms.map MatD.d),.sh 7 [n7 xa xb xc xd xe xf xg,n7 ya yb yc yd ye yf yg]]] (PrT (binP text 0 names ta tb)):=by
 refine tZ func100 O O (λC=>?_);refine T.bd 0 O (λbd0=>?_);refine g' 2 O ?_;refine tA O (λg1=>?_);refine g' 4 O (m8 1 O (T.keep [0,1,2] O ?_));refine tDr 10 [(4,dP g1 0,none),(5,dP g1 6,none),(6,.sh 7 [n7 xa xb xc xd xe xf xg,n7 ya yb yc yd ye yf yg],none),(7,.el (n7 xa xb xc xd xe xf xg) 0,none),(8,n7 xa xb xc xd xe xf xg,none),(9,.s ta,some [HPow,.bx g1 119 (.agg [.s ⟨#[98,105,110]⟩,.s text,dN n,dI 0,.sh 1 (names.map D.s),.sh 3 (ms.map MatD.d),.sh 7 [n7 xa xb xc xd xe xf xg,n7 ya yb yc yd ye yf yg]])]),(10,.s (ta++(⟨#[32]⟩:ByteArray)),none),(11,dP g1 0,none),(12,dP g1 1,none),(13,.s text,none)] [.bx g1 119 (.agg [.s ⟨#[98,105,110]⟩,.s text,dN n,dI 0,.sh 1 (names.map D.s),.sh 3 (ms.map MatD.d),.sh 7 [n7 xa xb xc xd xe xf xg,n7 ya yb yc yd ye yf yg]])] (Hn:=[HPow,.bx g1 119 (.agg [.s ⟨#[98,105,110]⟩,.s text,dN n,dI 0,.sh 1 (names.map D.s),.sh 3 (ms.map MatD.d),.sh 7 [n7 xa xb xc xd xe xf xg,n7 ya yb yc yd ye yf yg]])]) mixed O O O O (mO 1 O) O ⟨sa_p O O O (ze O zem O),sa_p O O O (ze O zfx O),sa_p O O O (zf O (i:=0) O isAgg25 O),sa_p O O O (zh (k:=0) O O runUnderlying25 sizeOf27 (by first | rfl | omega) rfl),sa_p rfl rfl rfl (zcN (d:=n7 xa xb xc xd xe xf xg) rfl isAgg27 sizeOf27 rfl rfl),sa_e rfl rfl rfl rfl (((zdX [HPow] [.bx g1 119 (.agg [.s ⟨#[98,105,110]⟩,.s text,dN n,dI 0,.sh 1 (names.map D.s),.sh 3 (ms.map MatD.d),.sh 7 [n7 xa xb xc xd xe xf xg,n7 ya yb yc yd ye yf yg]])] [] rfl rfl (ga .nil) zaX Tryz.call99 (hx) (.inl rfl))).mono (by rintro _ _ ⟨_,⟨rfl,rfl⟩,rfl⟩;exact⟨rfl,rfl⟩)) (mO 1 rfl),sa_p rfl rfl rfl (zp rfl rfl (by unfold maxLen;(try simp only[cQ]);have kz:=catz;omega)),sa_p rfl rfl rfl (ze rfl zem rfl),sa_p rfl rfl rfl (ze rfl zfy rfl),sa_p rfl rfl rfl (zf rfl (i:=0) rfl isAgg9 rfl),trivial⟩ ?_;refine tK O (tP O (cA O O (by (try simp only[cQ]);have kz:=catz;omega)) (tP O (cA O O (by (try simp only[cQ]);have kz:=catz;omega)) (gQ 9 [1] O O (tP O (zeH O O (decide_eq_false (by decide))) (gQ 11 [1] O O (tP O (zh (k:=1) O O runUnderlying25 sizeOf27 (by first | rfl | omega) O) (g' 1 O (tX [0] O O acs (hy) ?_))))))));rintro _ _ ⟨rfl,rfl⟩;refine tP O (cA O O (by (try simp only[cQ]);have kz:=catz;omega)) (g' 4 O ?_);exact tRs O results100 (.cons (zd (zc O) (w5 (congrArg D.s (show ((((ta++(⟨#[32]⟩:ByteArray))++text)++(⟨#[32]⟩:ByteArray))++tb)=binP text 0 names ta tb from(by unfold binP;rw[if_pos O]))))) .nil) O (mN 1 O) ⟨O,O⟩
theorem node_bin0 (text:ByteArray) (n:Nat) (names:List ByteArray) (ms:List MatD) (xa xb:ByteArray) (xc xd:Int) (xe:List ByteArray) (xf:List MatD) (xg:List Nd) (ya yb:ByteArray) (yc yd:Int) (ye:List ByteArray) (yf:List MatD) (yg:List Nd) (ta tb:ByteArray) (h0:text.size<=1000) (hxt:ta.size<=10000000) (hx:CD prog 99 [HPow] [n7 xa xb xc xd xe xf xg] (PrT ta)) (hyt:tb.size<=10000000) (hy:CD prog 99 [HPow] [n7 ya yb yc yd ye yf yg] (PrT tb)):
 CD prog 34 [HPow] [.agg [.s ⟨#[98,105,110]⟩,.s text,dN n,dI 0,.sh 1 (names.map D.s),.sh 3 (ms.map MatD.d),.sh 7 [n7 xa xb xc xd xe xf xg,n7 ya yb yc yd ye yf yg]]] (PrT (binP text 0 names ta tb)):=by
 refine tZ func34 O O (λC=>?_);refine T.bd 0 O (λbd0=>?_);refine g' 2 O ?_;refine tA O (λg1=>?_);refine gQ 6 [0] O O (tW O acs (lift_bin text n 0 names ms xa xb xc xd xe xf xg ya yb yc yd ye yf yg) (g' 7 O (tP O ((zN (zv:=cK) O (λ_ _=>by kernel_rfl)).cv (Cv.tup (.cons (w6 (by decide)) (gc .nil)))) (g' 3 O ?_))));refine tA O (λg2=>?_);refine gQ 16 [0] O O (tP O ((zN (zv:=n9) O (λ_ _=>by kernel_rfl)).cv (Cv.tup (.cons (w6 (by decide)) (gc .nil)))) (g' 3 O ?_));refine tA O (λg3=>?_);refine gQ 16 [0] O O (tP O (za7 O (λ_ _=>by kernel_rfl)) (g' 3 O ?_));refine tA O (λg4=>?_);refine gQ 13 [0,0] O O (tX [4] O O acs (bintext0_c text n names ms xa xb xc xd xe xf xg ya yb yc yd ye yf yg ta tb h0 hxt hx hyt hy) ?_);rintro _ _ ⟨rfl,rfl⟩;refine g' 5 O ?_;exact tRs O results34 (.cons (zd (zc O) (w5 (congrArg D.s (show (binP text 0 names ta tb)=binP text 0 names ta tb from(by rfl))))) .nil) O (mN 1 O) ⟨O,O⟩
theorem print0_s (xa xb:ByteArray) (xc xd:Int) (xe:List ByteArray) (xf:List MatD) (xg:List Nd) (t:ByteArray) (ht:t.size<=1000000) (hx:CD prog 34 [HPow] [n7 xa xb xc xd xe xf xg] (PrT t)):
 CD prog 32 [HPow] [.agg [.s xa,.s xb,dI xc,dI xd,.sh 1 (xe.map D.s),.sh 3 (xf.map MatD.d),.sh 7 (Nd.ds xg),dI 0,dI (-1),dI (-1)]] (PrT t):=by
 refine tZ func32 O O (λC=>?_);refine T.bd 0 O (λbd0=>?_);refine g' 2 O ?_;refine tA O (λg1=>?_);refine gQ 7 [0] O O (tX [1] O O acs (hx) ?_);rintro _ _ ⟨rfl,rfl⟩;refine gQ 13 [1] O O (tP O (zaw O O (decide_eq_false (by decide))) (g' 6 O (tP O (zaw O O (decide_eq_false (by decide))) (gQ 12 [1] O O (tP O (zav O O (decide_eq_false (by decide))) (gQ 10 [1] O O (tP O (zav O O (decide_eq_false (by decide))) (g' 12 O ?_))))))));exact tR O (mN 1 O) ⟨O,O⟩
theorem p8_n1:CD prog 34 [HPow] [Nd.d (.mk tNum ByteArray.empty (1:Nat) 0 [] [] [])] (PrT (⟨#[49]⟩:ByteArray)):=by
 have h:=node_num ByteArray.empty 1 0 [] [] (by decide);rw[show digB 1=(⟨#[49]⟩:ByteArray) from by kernel_rfl] at h;exact h
theorem p8_i1:CD prog 99 [HPow] [Nd.d (.mk tNum ByteArray.empty (1:Nat) 0 [] [] [])] (PrT (⟨#[49]⟩:ByteArray)):=inner_num ByteArray.empty 1 0 [] [] (⟨#[49]⟩:ByteArray) (by decide) p8_n1
theorem p8_n2:CD prog 34 [HPow] [Nd.d (.mk tNum ByteArray.empty (2:Nat) 0 [] [] [])] (PrT (⟨#[50]⟩:ByteArray)):=by
 have h:=node_num ByteArray.empty 2 0 [] [] (by decide);rw[show digB 2=(⟨#[50]⟩:ByteArray) from by kernel_rfl] at h;exact h
theorem p8_i2:CD prog 99 [HPow] [Nd.d (.mk tNum ByteArray.empty (2:Nat) 0 [] [] [])] (PrT (⟨#[50]⟩:ByteArray)):=inner_num ByteArray.empty 2 0 [] [] (⟨#[50]⟩:ByteArray) (by decide) p8_n2
theorem p8_n3:CD prog 34 [HPow] [Nd.d (.mk tNum ByteArray.empty (3:Nat) 0 [] [] [])] (PrT (⟨#[51]⟩:ByteArray)):=by
 have h:=node_num ByteArray.empty 3 0 [] [] (by decide);rw[show digB 3=(⟨#[51]⟩:ByteArray) from by kernel_rfl] at h;exact h
theorem p8_i3:CD prog 99 [HPow] [Nd.d (.mk tNum ByteArray.empty (3:Nat) 0 [] [] [])] (PrT (⟨#[51]⟩:ByteArray)):=inner_num ByteArray.empty 3 0 [] [] (⟨#[51]⟩:ByteArray) (by decide) p8_n3
theorem p8_n4:CD prog 34 [HPow] [Nd.d (.mk tNeg ByteArray.empty 0 0 [] [] [a8n 3])] (PrT (⟨#[45,51]⟩:ByteArray)):=by
 have h:=node_neg ByteArray.empty 0 0 [] [] tNum ByteArray.empty (3:Nat) 0 [] [] [] (⟨#[51]⟩:ByteArray) (by decide) p8_i3;rw[show zal++(⟨#[51]⟩:ByteArray)=(⟨#[45,51]⟩:ByteArray) from by kernel_rfl] at h;exact h
theorem p8_i4:CD prog 99 [HPow] [Nd.d (.mk tNeg ByteArray.empty 0 0 [] [] [a8n 3])] (PrT (⟨#[40,45,51,41]⟩:ByteArray)):=by
 have h:=inner_neg ByteArray.empty 0 0 [] [] tNum ByteArray.empty (3:Nat) 0 [] [] [] (⟨#[45,51]⟩:ByteArray) (by decide) p8_n4;rw[show zn++(⟨#[45,51]⟩:ByteArray)++zD=(⟨#[40,45,51,41]⟩:ByteArray) from by kernel_rfl] at h;exact h
theorem p8_n5:CD prog 34 [HPow] [Nd.d (.mk tBin zcu 0 0 [] [] [a8n 2,.mk tNeg ByteArray.empty 0 0 [] [] [a8n 3]])] (PrT (⟨#[50,32,42,32,40,45,51,41]⟩:ByteArray)):=by
 have h:=node_bin0 zcu 0 [] [] tNum ByteArray.empty (2:Nat) 0 [] [] [] tNeg ByteArray.empty 0 0 [] [] [a8n 3] (⟨#[50]⟩:ByteArray) (⟨#[40,45,51,41]⟩:ByteArray) (by decide) (by decide) p8_i2 (by decide) p8_i4;rw[show binP zcu 0 [] (⟨#[50]⟩:ByteArray) (⟨#[40,45,51,41]⟩:ByteArray)=(⟨#[50,32,42,32,40,45,51,41]⟩:ByteArray) from by kernel_rfl] at h;exact h
theorem p8_i5:CD prog 99 [HPow] [Nd.d (.mk tBin zcu 0 0 [] [] [a8n 2,.mk tNeg ByteArray.empty 0 0 [] [] [a8n 3]])] (PrT (⟨#[40,50,32,42,32,40,45,51,41,41]⟩:ByteArray)):=by
 have h:=inner_bin zcu 0 0 [] [] tNum ByteArray.empty (2:Nat) 0 [] [] [] tNeg ByteArray.empty 0 0 [] [] [a8n 3] (⟨#[50,32,42,32,40,45,51,41]⟩:ByteArray) (by decide) p8_n5;rw[show zn++(⟨#[50,32,42,32,40,45,51,41]⟩:ByteArray)++zD=(⟨#[40,50,32,42,32,40,45,51,41,41]⟩:ByteArray) from by kernel_rfl] at h;exact h
theorem p8_n6:CD prog 34 [HPow] [Nd.d (.mk tBin zdU 0 0 [] [] a8K1)] (PrT (⟨#[49,32,43,32,40,50,32,42,32,40,45,51,41,41]⟩:ByteArray)):=by
 have h:=node_bin0 zdU 0 [] [] tNum ByteArray.empty (1:Nat) 0 [] [] [] tBin zcu 0 0 [] [] [a8n 2,.mk tNeg ByteArray.empty 0 0 [] [] [a8n 3]] (⟨#[49]⟩:ByteArray) (⟨#[40,50,32,42,32,40,45,51,41,41]⟩:ByteArray) (by decide) (by decide) p8_i1 (by decide) p8_i5;rw[show binP zdU 0 [] (⟨#[49]⟩:ByteArray) (⟨#[40,50,32,42,32,40,45,51,41,41]⟩:ByteArray)=(⟨#[49,32,43,32,40,50,32,42,32,40,45,51,41,41]⟩:ByteArray) from by kernel_rfl] at h;exact h
theorem print8:CD prog 32 [HPow] [.agg [.s ⟨#[98,105,110]⟩,.s ⟨#[43]⟩,dI 0,dI 0,.sh 1 (([]:List ByteArray).map D.s),.sh 3 (([]:List MatD).map MatD.d),.sh 7 (Nd.ds a8K1),dI 0,dI (-1),dI (-1)]] (PrT a8P):=print0_s tBin zdU 0 0 [] [] a8K1 a8P (by decide) p8_n6
theorem alive8_c (ev es:Value) (hev:EvOk ev) (hes:EvOk es):
 CD prog 25 [HPow,HErr ev,HSyn es] [] (λr H'=>r=dB true/\H'=[HPow,HErr ev,HSyn es]):=by
 refine tZ func25 O O (λC=>?_);refine g' 7 O (tX [0,0,0] O O acs (read8_1 ev es hev hes) ?_);rintro _ _ ⟨rfl,rfl⟩;refine g' 3 O ?_;refine tA O (λg1=>?_);refine gQ 6 [0] O O (tX [1,1,1] O O acs (read8_2 ev es hev hes) ?_);rintro _ _ ⟨rfl,rfl⟩;refine g' 3 O ?_;refine tA O (λg2=>?_);refine gQ 5 [0] O O (m8 1 O (g' 2 O (tP O (zaw O O (decide_eq_true (by decide))) (gQ 2 [4] O O (tX [0] O O acs (print8) ?_)))));rintro _ _ ⟨rfl,rfl⟩;refine tG O (zaj O O (decide_eq_true (by decide))) (g' 3 O (tG O (zaw O O (decide_eq_true (by decide))) (gQ 4 [1] O O (tG O (zaw O O (decide_eq_true (by decide))) (gQ 4 [1] O O (tG O (zaw O O (decide_eq_true (by decide))) (gQ 4 [1] O O (tG O (zaw O O (decide_eq_true (by decide))) (gQ 5 [1] O O (tG O (zaj O O (decide_eq_true (by decide))) (g' 2 O (tW O (.cons (ArgC.cv cS) .nil) (Agg_c (⟨#[116,111,112,107]⟩:ByteArray)) (g' 5 O (m8 3 O (m8 3 O (m8 2 O ?_))))))))))))))));exact tRs O results25 (.cons (zd (zc O) (cB ((by decide)))) .nil) O (mN 3 O) ⟨O,O⟩
end Lp
namespace Lp
open Go
noncomputable def zgj (a b:List Nd):Bool:=@decide (a=b) (Classical.propDecidable _)
theorem listB_t {a b:List Nd} (h:a=b):true=zgj a b:=(@decide_eq_true _ (Classical.propDecidable _) h).symm
theorem listB_f {a b:List Nd} (h:a≠b):false=zgj a b:=(@decide_eq_false _ (Classical.propDecidable _) h).symm
theorem listB_is {a b:List Nd}:zgj a b=true↔a=b:=⟨λh=>@of_decide_eq_true _ (Classical.propDecidable _) h,λh=>(listB_t h).symm⟩
theorem eqB_and {a1 a2 b1 b2:ByteArray} {a3 a4 b3 b4:Int} {a5 b5:List ByteArray} {a6 b6:List MatD} {a7 b7:List Nd}:
 ((((((decide (a1=b1)&&decide (a2=b2))&&decide (a3=b3))&&decide (a4=b4))&&decide (a5=b5))&&decide (a6=b6))&&zgj a7 b7)=(Nd.mk a1 a2 a3 a4 a5 a6 a7).eqB (Nd.mk b1 b2 b3 b4 b5 b6 b7):=by
 rw[vE,eqB_is];simp only[cY,decide_eq_true_eq,listB_is,Nd.mk.injEq];constructor
 · rintro ⟨⟨⟨⟨⟨⟨h1,h2⟩,h3⟩,h4⟩,h5⟩,h6⟩,h7⟩;exact⟨h1,h2,h3,h4,h5,h6,h7⟩
 rintro ⟨h1,h2,h3,h4,h5,h6,h7⟩;exact⟨⟨⟨⟨⟨⟨h1,h2⟩,h3⟩,h4⟩,h5⟩,h6⟩,h7⟩
end Lp
namespace Lp
open Go Go.RowKit Go.Proofs Tryz
theorem eqT_c (a b:List ByteArray) :
 CD prog 94 [] [.sh 1 (a.map D.s),.sh 1 (b.map D.s)] (isR (dB (decide (a=b)))):=by
 refine tZ func94 O O (λC=>?_);refine T.bd 0 O (λbd0=>?_);have nl0:=zbK bd0;refine T.bd 1 O (λbd1=>?_);have nl1:=zbK bd1;refine g' 9 O (tP O (z7 (n:=a.length) O runUnderlying23 (by simp only[lm,lc,ln])) (g' 1 O (tP O (z7 (n:=b.length) O runUnderlying23 (by simp only[lm,lc,ln])) (g' 3 O ?_))));refine tD O (λhc1=>?_) (λhc1=>?_)
 · refine g' 7 O ?_;exact tRs O results94 (.cons (zd (zc O) (cB ((by first | exact(decide_eq_false (λe=>by have e:=congrArg List.length e;omega)).symm | exact(decide_eq_true (zet (by omega) (by omega) hf)).symm)))) .nil) O mM ⟨O,O⟩
 refine g' 6 O (tP O (z7 (n:=a.length) O runUnderlying23 (by simp only[lm,lc,ln])) (g' 4 O (tl1 (λ(a_:Nat)=>[(0,.sh 1 (a.map D.s)),(1,.sh 1 (b.map D.s)),(12,dN a.length),(13,dN a_)]) (λa_=>[]) (λa_=>(a_<=a.length)/\(a.take a_=b.take a_)) (λa_=>a.length-a_) 0 O (sa O) w7 ⟨cX _,O⟩ ?_)));rintro k ⟨hk,hf⟩;refine g' 6 O ?_;refine tD O (λhc2=>?_) (λhc2=>?_)
 · refine g' 11 O (T.keep [0,1,5,12,13,14,15] O ?_);obtain ⟨x1,hx1⟩:=zQ a k (by omega);obtain ⟨x2,hx2⟩:=zQ b k (by omega);refine tDr 8 [(16,.sh 1 (a.map D.s),none),(17,dN k,none),(18,.el (.s x1) 0,none),(19,.s x1,none),(20,.sh 1 (b.map D.s),none),(21,dN k,none),(22,.el (.s x2) 0,none),(23,.s x2,none)] [] (Hn:=[]) mixed O O O O w7 O ⟨sa_p O O O (zk O),sa_p O O O (zk O),sa_p O O O (zh (k:=k) O O runUnderlying23 sizeOf9 (by first | rfl | omega) (zI hx1)),sa_p O O O (zbk O isAgg9 O),sa_p O O O (zk O),sa_p O O O (zk O),sa_p O O O (zh (k:=k) O O runUnderlying23 sizeOf9 (by first | rfl | omega) (zI hx2)),sa_p O O O (zbk O isAgg9 O),trivial⟩ (tK O (g' 3 O ?_));refine tD O (λhc3=>?_) (λhc3=>?_)
   · refine g' 11 O ?_;exact tRs O results94 (.cons (zd (zc O) (cB ((by first | exact(decide_eq_false (λe=>by have e:=congrArg List.length e;omega)).symm | exact(decide_eq_false (tk_ne hx1 hx2 (by simpa using hc3))).symm | exact(decide_eq_true (zet (by omega) (by omega) hf)).symm)))) .nil) O mM ⟨O,O⟩
   refine g' 4 O (tP O (zB (c:=((k+1:Nat):Int)) O O (zo (by omega) (by omega))) (g' 2 O ?_));exact tp1 (k+1) (sa O) w7 ⟨by omega,tk_go hx1 hx2 hf (by simpa using hc3)⟩ (by omega)
 refine g' 11 O ?_;exact tRs O results94 (.cons (zd (zc O) (cB ((by first | exact(decide_eq_false (λe=>by have e:=congrArg List.length e;omega)).symm | exact(decide_eq_true (zet (by omega) (by omega) hf)).symm)))) .nil) O mM ⟨O,O⟩
theorem eqM_c (a b:List MatD) :
 CD prog 95 [] [.sh 3 (a.map MatD.d),.sh 3 (b.map MatD.d)] (isR (dB (decide (a=b)))):=by
 refine tZ func95 O O (λC=>?_);refine T.bd 0 O (λbd0=>?_);have nl0:=zbK bd0;refine T.bd 1 O (λbd1=>?_);have nl1:=zbK bd1;refine g' 9 O (tP O (z7 (n:=a.length) O runUnderlying24 (by simp only[lm,lc,ln])) (g' 1 O (tP O (z7 (n:=b.length) O runUnderlying24 (by simp only[lm,lc,ln])) (g' 3 O ?_))));refine tD O (λhc1=>?_) (λhc1=>?_)
 · refine g' 7 O ?_;exact tRs O results95 (.cons (zd (zc O) (cB ((by first | exact(decide_eq_false (λe=>by have e:=congrArg List.length e;omega)).symm | exact(decide_eq_true (zet (by omega) (by omega) hf)).symm)))) .nil) O mM ⟨O,O⟩
 refine g' 6 O (tP O (z7 (n:=a.length) O runUnderlying24 (by simp only[lm,lc,ln])) (g' 4 O (tl1 (λ(a_:Nat)=>[(0,.sh 3 (a.map MatD.d)),(1,.sh 3 (b.map MatD.d)),(12,dN a.length),(13,dN a_)]) (λa_=>[]) (λa_=>(a_<=a.length)/\(a.take a_=b.take a_)) (λa_=>a.length-a_) 0 O (sa O) w7 ⟨cX _,O⟩ ?_)));rintro k ⟨hk,hf⟩;refine g' 6 O ?_;refine tD O (λhc2=>?_) (λhc2=>?_)
 · refine g' 11 O (T.keep [0,1,5,12,13,14,15] O ?_);obtain ⟨x1,hx1⟩:=zQ a k (by omega);obtain ⟨x2,hx2⟩:=zQ b k (by omega);refine tDr 8 [(16,.sh 3 (a.map MatD.d),none),(17,dN k,none),(18,.el (MatD.d x1) 0,none),(19,MatD.d x1,none),(20,.sh 3 (b.map MatD.d),none),(21,dN k,none),(22,.el (MatD.d x2) 0,none),(23,MatD.d x2,none)] [] (Hn:=[]) mixed O O O O w7 O ⟨sa_p O O O (zk O),sa_p O O O (zk O),sa_p O O O (zh (k:=k) O O runUnderlying24 sizeOf65 (by first | rfl | omega) (zI hx1)),sa_p O O O (zcN (d:=MatD.d x1) O isAgg65 sizeOf65 O O),sa_p O O O (zk O),sa_p O O O (zk O),sa_p O O O (zh (k:=k) O O runUnderlying24 sizeOf65 (by first | rfl | omega) (zI hx2)),sa_p O O O (zcN (d:=MatD.d x2) O isAgg65 sizeOf65 O O),trivial⟩ (tK O (tP O (p_eqmat_neq (dx:=MatD.d x1) (dy:=MatD.d x2) (a:=x1) (b:=x2) O (wZ) O (wZ) O) (g' 2 O ?_)));refine tD O (λhc3=>?_) (λhc3=>?_)
   · refine g' 11 O ?_;exact tRs O results95 (.cons (zd (zc O) (cB ((by first | exact(decide_eq_false (λe=>by have e:=congrArg List.length e;omega)).symm | exact(decide_eq_false (tk_ne hx1 hx2 (by simpa using hc3))).symm | exact(decide_eq_true (zet (by omega) (by omega) hf)).symm)))) .nil) O mM ⟨O,O⟩
   refine g' 4 O (tP O (zB (c:=((k+1:Nat):Int)) O O (zo (by omega) (by omega))) (g' 2 O ?_));exact tp1 (k+1) (sa O) w7 ⟨by omega,tk_go hx1 hx2 hf (by simpa using hc3)⟩ (by omega)
 refine g' 11 O ?_;exact tRs O results95 (.cons (zd (zc O) (cB ((by first | exact(decide_eq_false (λe=>by have e:=congrArg List.length e;omega)).symm | exact(decide_eq_true (zet (by omega) (by omega) hf)).symm)))) .nil) O mM ⟨O,O⟩
theorem eqF_s (xg yg:List Nd) (ih:∀ x∈xg,∀ y:Nd,CD prog 31 [] [Nd.d x,Nd.d y] (isR (dB (x.eqB y)))):
 CD prog 96 [] [.sh 7 (xg.map Nd.d),.sh 7 (yg.map Nd.d),.fn 31 [] []] (isR (dB (zgj xg yg))):=by
 refine tZ func96 O O (λC=>?_);refine T.bd 0 O (λbd0=>?_);have nl0:=zbK bd0;refine T.bd 1 O (λbd1=>?_);have nl1:=zbK bd1;refine g' 9 O (tP O (z7 (n:=xg.length) O runUnderlying25 (by simp only[lm,lc,ln])) (g' 1 O (tP O (z7 (n:=yg.length) O runUnderlying25 (by simp only[lm,lc,ln])) (g' 3 O ?_))));refine tD O (λhc1=>?_) (λhc1=>?_)
 · refine g' 7 O ?_;exact tRs O results96 (.cons (zd (zc O) (cB ((by first | exact listB_f (λe=>by have e:=congrArg List.length e;omega) | exact listB_t (zet (by omega) (by omega) hf))))) .nil) O mM ⟨O,O⟩
 refine g' 6 O (tP O (z7 (n:=xg.length) O runUnderlying25 (by simp only[lm,lc,ln])) (g' 4 O (tl1 (λ(a_:Nat)=>[(1,.sh 7 (yg.map Nd.d)),(2,.fn 31 [] []),(15,.sh 7 (xg.map Nd.d)),(16,dN xg.length),(17,dN a_)]) (λa_=>[]) (λa_=>(a_<=xg.length)/\(xg.take a_=yg.take a_)) (λa_=>xg.length-a_) 0 O (sa O) w7 ⟨cX _,O⟩ ?_)));rintro k ⟨hk,hf⟩;refine g' 6 O ?_;refine tD O (λhc2=>?_) (λhc2=>?_)
 · refine g' 7 O ?_;obtain ⟨x1,hx1⟩:=zQ xg k (by omega);obtain ⟨kax1,kbx1,kcx1,kdx1,kex1,kfx1,kgx1⟩:=x1;refine tP O (zh (k:=k) O O runUnderlying25 sizeOf27 (by first | rfl | omega) (zI hx1)) (g' 1 O ?_);refine tA O (λg3=>?_);refine gQ 8 [0] O O ?_;obtain ⟨x2,hx2⟩:=zQ yg k (by omega);obtain ⟨kax2,kbx2,kcx2,kdx2,kex2,kfx2,kgx2⟩:=x2;refine tP O (zh (k:=k) O O runUnderlying25 sizeOf27 (by first | rfl | omega) (zI hx2)) (g' 1 O ?_);refine tA O (λg4=>?_);refine gQ 8 [0,1,0] O O (tW O acs (ih (Nd.mk kax1 kbx1 kcx1 kdx1 kex1 kfx1 kgx1) (dM hx1) (Nd.mk kax2 kbx2 kcx2 kdx2 kex2 kfx2 kgx2)) (g' 3 O ?_));refine tC O (λhc5=>?_) (λhc5=>?_)
   · simp only[bX,bJ] at hc5;refine g' 11 O ?_;exact tRs O results96 (.cons (zd (zc O) (cB ((by first | exact listB_f (λe=>by have e:=congrArg List.length e;omega) | exact listB_f (tk_ne hx1 hx2 (eqB_no.1 (by simpa using hc5))) | exact listB_t (zet (by omega) (by omega) hf))))) .nil) O mM ⟨O,O⟩
   simp only[bX,bJ] at hc5;refine g' 4 O (tP O (zB (c:=((k+1:Nat):Int)) O O (zo (by omega) (by omega))) (g' 2 O ?_));exact tp1 (k+1) (sa O) mM ⟨by omega,tk_go hx1 hx2 hf (eqB_is.1 (by simpa using hc5))⟩ (by omega)
 refine g' 11 O ?_;exact tRs O results96 (.cons (zd (zc O) (cB ((by first | exact listB_f (λe=>by have e:=congrArg List.length e;omega) | exact listB_t (zet (by omega) (by omega) hf))))) .nil) O mM ⟨O,O⟩
theorem pSame_s (xa xb:ByteArray) (xc xd:Int) (xe:List ByteArray) (xf:List MatD) (xg:List Nd) (ya yb:ByteArray) (yc yd:Int) (ye:List ByteArray) (yf:List MatD) (yg:List Nd) (ih:∀ x∈xg,∀ y:Nd,CD prog 31 [] [Nd.d x,Nd.d y] (isR (dB (x.eqB y)))):
 CD prog 31 [] [.agg [.s xa,.s xb,dI xc,dI xd,.sh 1 (xe.map D.s),.sh 3 (xf.map MatD.d),.sh 7 (xg.map Nd.d)],.agg [.s ya,.s yb,dI yc,dI yd,.sh 1 (ye.map D.s),.sh 3 (yf.map MatD.d),.sh 7 (yg.map Nd.d)]] (isR (dB ((Nd.mk xa xb xc xd xe xf xg).eqB (Nd.mk ya yb yc yd ye yf yg)))):=by
 refine tZ func31 O O (λC=>?_);refine T.bd 0 O (λbd0=>?_);refine T.bd 1 O (λbd1=>?_);refine g' 2 O ?_;refine tA O (λg1=>?_);refine tA O (λg2=>?_);refine gQ 11 [1,0] O O ?_;refine tAnd 5 5 (c:=decide (xb=yb)) O O O O O O (λhb3 nx4=>?_) ?_
 · have hf5:=of_decide_eq_true hb3;refine gQ 5 [1,0] O O ?_;exact nx4 _ O O (kx 5 O O)
 refine g' 1 O ?_;refine tAnd 12 5 (c:=decide (xc=yc)) O O O O O O (λhb6 nx7=>?_) ?_
 · obtain ⟨hf8,hf9⟩:=andT hb6;have hf10:=of_decide_eq_true hf8;have hf11:=of_decide_eq_true hf9;refine gQ 5 [1,0] O O ?_;exact nx7 _ O O (kx 5 O O)
 refine g' 1 O ?_;refine tAnd 19 5 (c:=decide (xd=yd)) O O O O O O (λhb12 nx13=>?_) ?_
 · obtain ⟨hf14,hf15⟩:=andT hb12;obtain ⟨hf16,hf17⟩:=andT hf14;have hf18:=of_decide_eq_true hf16;have hf19:=of_decide_eq_true hf17;have hf20:=of_decide_eq_true hf15;refine gQ 5 [1,0] O O ?_;exact nx13 _ O O (kx 5 O O)
 refine g' 1 O ?_;refine tAnd 26 5 (c:=decide (xe=ye)) O O O O O O (λhb21 nx22=>?_) ?_
 · obtain ⟨hf23,hf24⟩:=andT hb21;obtain ⟨hf25,hf26⟩:=andT hf23;obtain ⟨hf27,hf28⟩:=andT hf25;have hf29:=of_decide_eq_true hf27;have hf30:=of_decide_eq_true hf28;have hf31:=of_decide_eq_true hf26;have hf32:=of_decide_eq_true hf24;refine gQ 4 [1,0] O O (tW O acs (eqT_c xe ye) ?_);exact nx22 _ O O (kx 5 O O)
 refine g' 1 O ?_;refine tAnd 33 5 (c:=decide (xf=yf)) O O O O O O (λhb33 nx34=>?_) ?_
 · obtain ⟨hf35,hf36⟩:=andT hb33;obtain ⟨hf37,hf38⟩:=andT hf35;obtain ⟨hf39,hf40⟩:=andT hf37;obtain ⟨hf41,hf42⟩:=andT hf39;have hf43:=of_decide_eq_true hf41;have hf44:=of_decide_eq_true hf42;have hf45:=of_decide_eq_true hf40;have hf46:=of_decide_eq_true hf38;refine gQ 4 [1,0] O O (tW O acs (eqM_c xf yf) ?_);exact nx34 _ O O (kx 5 O O)
 refine g' 1 O ?_;refine tAnd 40 5 (c:=(zgj xg yg)) O O O O O O (λhb47 nx48=>?_) ?_
 · obtain ⟨hf49,hf50⟩:=andT hb47;obtain ⟨hf51,hf52⟩:=andT hf49;obtain ⟨hf53,hf54⟩:=andT hf51;obtain ⟨hf55,hf56⟩:=andT hf53;obtain ⟨hf57,hf58⟩:=andT hf55;have hf59:=of_decide_eq_true hf57;have hf60:=of_decide_eq_true hf58;have hf61:=of_decide_eq_true hf56;have hf62:=of_decide_eq_true hf54;refine gQ 4 [1,0] O O (tW O acs (eqF_s xg yg ih) ?_);exact nx48 _ O O (kx 5 O O)
 refine g' 4 O ?_;exact tRs O results31 (.cons (zd (zc O) (cB ((by exact eqB_and)))) .nil) O mM ⟨O,O⟩
theorem pSame_c:∀ a b:Nd,CD prog 31 [] [Nd.d a,Nd.d b] (isR (dB (a.eqB b))):=Nd.ind (λop text n mode names ms kids ih b=>by
 obtain ⟨ya,yb,yc,yd,ye,yf,yg⟩:=b;rw[Nd.d_mk,Nd.d_mk];exact pSame_s op text n mode names ms kids ya yb yc yd ye yf yg (λx hx y=>ih x hx y))
end Lp
