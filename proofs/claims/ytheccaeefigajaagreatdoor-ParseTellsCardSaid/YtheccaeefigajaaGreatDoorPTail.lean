import Derived.Test.YtheccaeefigajaaGreatDoorV106
set_option linter.unusedSimpArgs false
set_option linter.unusedVariables false
namespace Lp
open Go
def asc (l:List UInt8):Bool:=l.all (λb=>decide (b.toNat<128))
theorem nY {b:UInt8} {l:List UInt8} (h:asc (b::l)=true):b.toNat<128/\asc l=true:=by
 unfold asc at h ⊢;simp only[List.all_cons,cY,aI] at h;exact h
theorem hG {l:List UInt8} (h:asc l=true) (n:Nat):asc (l.drop n)=true:=by
 unfold asc at h ⊢;rw[dG] at h ⊢;exact λb hb=>h b (List.mem_of_mem_drop hb)
theorem aMf {l:List UInt8} (h:asc l=true) (n:Nat):asc (l.take n)=true:=by
 unfold asc at h ⊢;rw[dG] at h ⊢;exact λb hb=>h b (vK hb)
def runA (f:Int->Bool):List UInt8->Nat
 | []=>0
 | b::r=>if f (b.toNat:Int)=true then 1+runA f r else 0
theorem zfI (f:Int->Bool):∀ (l:List UInt8),asc l=true->runL f l=runA f l
 | [],_=>zcH
 | b::r,h=>by
  obtain ⟨h1,h2⟩:=nY h;unfold runA;have hd:=zai (t:=r) h1;by_cases hf:f (b.toNat:Int)=true
  · rw[aB hf,zcD (by simp) (by rw[hd];exact hf),hd];show 1+runL f r=_;rw[zfI f r h2]
  rw[aA hf,zdc (by rw[hd];simpa using hf)]
theorem aKu {l:List UInt8} (h:asc l=true):zB (mkB l)=l.map (λb=>(b.toNat:Int)):=by
 have key:∀ (n p:Nat),(mkB l).size-p=n->zaW (mkB l) p=(l.drop p).map (λb=>(b.toNat:Int)):=by
  intro n
  induction n using Nat.strongRecOn with
  | _ n ih=>
   intro p hn;rw[zah] at hn;rcases c8 p l.length with hp | hp
   · have hb:bts (mkB l) p=l.drop p:=(by unfold bts;rw[<-zbt l];rfl);obtain ⟨b,hx⟩:∃ b,l[p]?=some b:=⟨l[p],dO hp⟩;have hdr:l.drop p=b::l.drop (p+1):=by
      rw[uX hp];congr 1;rw[dO hp] at hx;injection hx
     have hb1:b.toNat<128:=(nY (by rw[<-hdr];exact hG h p)).1;have hd:decL (bts (mkB l) p)=(b.toNat,1):=(by rw[hb,hdr];exact zai hb1);rw[zaw (by rw[zah];exact hp),zbs,zb9,hd,hdr];rw[ih (l.length-(p+1)) (by omega) (p+1) (by rw[zah])];rfl
   rw[zaG (by rw[zah];exact hp),uC hp];rfl
 rw[show zB (mkB l)=zaW (mkB l) 0 from rfl,key _ 0 rfl,j7]
def digK:Nat->Nat->List UInt8
 | 0,_=>[]
 | f+1,n=>if n<10 then [UInt8.ofNat (48+n)] else digK f (n / 10)++[UInt8.ofNat (48+n % 10)]
theorem aH5:∀ (f n:Nat),0<f->n<10 ^ f->digK f n=digL n
 | 0,n,h,_=>aH h (by omega)
 | f+1,n,_,h=>by
  unfold digK digL;by_cases hn:n<10
  · rw[aB hn,dif_pos hn]
  rw[aA hn,dif_neg hn];rw[Nat.pow_succ] at h;cases f with
  | zero=>simp at h;omega
  | succ f=>rw[aH5 (f+1) (n / 10) (by omega) (by omega)]
theorem aSk {n:Nat} (h:n<=1000000000000):mkB (digK 20 n)=digB n:=by
 unfold digB;rw[aH5 20 n (by decide) (wC h (by decide))]
def zbM (b:UInt8):Bool:=decide (b.toNat<128)&&decide (b.toNat≠34)&&decide (b.toNat≠92)&&decide (b.toNat≠10)
theorem aWc {c:Nat} (h:c<128):encR c=[UInt8.ofNat c]:=by unfold encR;rw[aB (by omega),Nat.mod_eq_of_lt (by omega)]
theorem aA3 {l:List UInt8} (h:∀ b∈l,zbM b=true):zaU (mkB l)=34::(l++[34]):=by
 have key:∀ (n p:Nat),(mkB l).size-p=n->zT (mkB l) p=l.drop p:=by
  intro n
  induction n using Nat.strongRecOn with
  | _ n ih=>
   intro p hn;rw[zah] at hn;rcases c8 p l.length with hp | hp
   · have hb:bts (mkB l) p=l.drop p:=(by unfold bts;rw[<-zbt l];rfl);have hdr:l.drop p=l[p]::l.drop (p+1):=uX hp;have hq:=h l[p] (List.getElem_mem hp);unfold zbM at hq;simp only[cY,aI] at hq;obtain ⟨⟨⟨h1,h2⟩,h3⟩,h4⟩:=hq;have hd:decL (bts (mkB l) p)=(l[p].toNat,1):=(by rw[hb,hdr];exact zai h1);have hr:decR (mkB l) p=l[p].toNat:=(by rw[zbs,hd]);have hw:decW (mkB l) p=1:=(by rw[zb9,hd]);rw[za1 (by rw[zah];exact hp),pG (by rw[hr];omega) (by rw[hr];exact h4) (by rw[hr];omega),hr,hw,aWc h1,ih (l.length-(p+1)) (by omega) (p+1) (by rw[zah]),hdr];simp
   rw[zbL (by rw[zah];exact hp),uC hp]
 unfold zaU;rw[key _ 0 rfl,j7]
def aBi (l:List UInt8):Option (TokD×Nat):=
 match l with
 | []=>none
 | c::r=>
  if zD (c.toNat:Int)=1 then
   if zdT 0 ((l.take (runA isLD l)).map (λb=>(b.toNat:Int)))=true/\0<runA isLD l then some (⟨1,0,mkB (l.take (runA isLD l))⟩,runA isLD l) else none
  else if zD (c.toNat:Int)=2 then
   if 13<runA isD l\/1000000000000<digV (l.take (runA isD l))\/runA isD l=0 then none
   else if runA isLD l=runA isD l then some (⟨2,0,mkB (digK 20 (digV (l.take (runA isD l))))⟩,runA isD l)
   else if secB (mkB ((l.take (runA isLD l)).drop (runA isD l)))=0\/1000000000 / secB (mkB ((l.take (runA isLD l)).drop (runA isD l)))<digV (l.take (runA isD l))\/1000000000000<digV (l.take (runA isD l))*secB (mkB ((l.take (runA isLD l)).drop (runA isD l)))\/runA isLD l=0 then none
   else some (⟨4,0,mkB (digK 20 (digV (l.take (runA isD l))*secB (mkB ((l.take (runA isLD l)).drop (runA isD l)))))⟩,runA isLD l)
  else if c.toNat=34 then
   if (r.drop (r.takeWhile zbM).length).head?=some 34 then some (⟨3,0,mkB (r.takeWhile zbM)⟩,(r.takeWhile zbM).length+2) else none
  else if (zbS l).2=0 then none else some (zbS l)
theorem aHm {l:List UInt8} (ha:asc l=true) {t:TokD} {n:Nat} (h:aBi l=some (t,n)):zg l=(t,n)/\n≠0:=by
 cases l with
 | nil=>cases h
 | cons c r=>
  have hc:=(nY ha).1;have hd:=zai (t:=r) hc;unfold aBi at h;simp only at h;unfold zg;rw[hd];by_cases h1:zD (c.toNat:Int)=1
  · rw[aB h1] at h ⊢;split at h
    · rename_i h2;injection h with h;injection h with e1 e2;subst e1;subst e2;refine⟨?_,by omega⟩;unfold zcg;rw[zfI _ _ ha];have hn:zcC (mkB ((c::r).take (runA isLD (c::r))))=true:=(by unfold zcC;rw[aKu (aMf ha _)];exact h2.1);rw[aB hn]
    cases h
  rw[aA h1] at h ⊢;by_cases h2:zD (c.toNat:Int)=2
  · rw[aB h2] at h ⊢;unfold numT;rw[zfI _ _ ha,zfI _ _ ha];split at h
    · cases h
    rename_i h3;rw[aA (by omega)];split at h
    · rename_i h4;injection h with h;injection h with e1 e2;subst e1;subst e2;rw[aB h4,aSk (by omega)];exact⟨rfl,by omega⟩
    rename_i h4;split at h
    · cases h
    rename_i h5;injection h with h;injection h with e1 e2;subst e1;subst e2;rw[aA h4,aA (by omega),aSk (by omega)];exact⟨rfl,by omega⟩
  rw[aA h2] at h ⊢;by_cases h3:c.toNat=34
  · rw[aB h3] at h;split at h
    · rename_i h4;injection h with h;injection h with e1 e2;subst e1;subst e2;refine⟨?_,by omega⟩;have hr:r=r.takeWhile zbM++34::r.drop ((r.takeWhile zbM).length+1):=by
       have e1:r=r.take (r.takeWhile zbM).length++r.drop (r.takeWhile zbM).length:=(d8 _ _).symm;have e2:r.take (r.takeWhile zbM).length=r.takeWhile zbM:=by
        have:=List.takeWhile_prefix (l:=r) zbM;exact(List.prefix_iff_eq_take.1 this).symm
       have e3:r.drop (r.takeWhile zbM).length=34::r.drop ((r.takeWhile zbM).length+1):=by
        cases hh:r.drop (r.takeWhile zbM).length with
        | nil=>rw[hh] at h4;cases h4
        | cons y z=>
         rw[hh] at h4;have:y=34:=(by simpa using h4);subst this;congr 1;have:=aG List.tail hh;rw[List.tail_drop] at this;exact this.symm
       rw[<-e3,<-e2];rw[e2];exact e1.trans (by rw[e2])
      have hq:=aA3 (l:=r.takeWhile zbM) (λb hb=>by
       have:=List.all_takeWhile (p:=zbM) (l:=r);exact dG.1 this b hb)
      have hc34:c=34:=jR.1 h3;have hl:c::r=zaU (mkB (r.takeWhile zbM))++r.drop ((r.takeWhile zbM).length+1):=by
       rw[hq,hc34];simp only[d9,dM,jG];congr 1
      have hs:=nP (mkB (r.takeWhile zbM)) (r.drop ((r.takeWhile zbM).length+1));rw[<-hl] at hs;unfold zg at hs;rw[hd,aA h1,aA h2] at hs;rw[hs,hq];simp
    cases h
  rw[aA h3] at h;have h3':¬(c.toNat,1).1=34:=h3;rw[aA h3'];split at h
  · cases h
  rename_i h4;injection h with h;rw[h] at h4 ⊢;exact⟨rfl,h4⟩
def lexA:Nat->List UInt8->Nat->Option (List TokD)
 | 0,_,_=>none
 | f+1,l,a=>
  if l.drop (runA isB l)=[] then some []
  else match aBi (l.drop (runA isB l)) with
   | none=>none
   | some (t,n)=>(lexA f ((l.drop (runA isB l)).drop n) (a+runA isB l+n)).map (t.put (a+runA isB l)::·)
theorem aL2:∀ (f:Nat) (l:List UInt8) (a:Nat) (ts:List TokD),asc l=true->lexA f l a=some ts->zQ l a=some ts
 | 0,l,a,ts,_,h=>by cases h
 | f+1,l,a,ts,ha,h=>by
  unfold lexA at h;have hb:=zfI isB l ha;unfold zQ;rw[hb];split at h
  · rename_i h0;injection h with h;subst h;rw[h0];exact zaP
  rename_i h0;cases e:aBi (l.drop (runA isB l)) with
  | none=>rw[e] at h;cases h
  | some p=>
   obtain ⟨t,n⟩:=p;rw[e] at h;simp only at h;obtain ⟨e1,e2⟩:=aHm (hG ha _) e;cases e3:lexA f ((l.drop (runA isB l)).drop n) (a+runA isB l+n) with
   | none=>rw[e3] at h;cases h
   | some t2=>
    rw[e3] at h;have h:t.put (a+runA isB l)::t2=ts:=(by injection h);have ih:=aL2 f _ _ _ (hG (hG ha _) n) e3;have hlen:(l.drop (runA isB l)).length<=l.length:=(by rw[cZ];omega);rw[zaT h0 (by rw[e1];exact e2) hlen,e1];simp only;rw[ih];show some _=some _;rw[<-h]
theorem zb8 {s:ByteArray} {ts:List TokD} (h:lexA (s.size+1) (bl8 s) 0=some ts) (ha:asc (bl8 s)=true) (hs:s.size<=600):lexL s=ts/\lexE s=0:=aZd hs (aL2 _ _ _ _ ha h)
abbrev a8S1:ByteArray:=(⟨#[49,43,50,42,45,51]⟩:ByteArray)
abbrev a8S2:ByteArray:=(⟨#[115,117,109,32,98,121,32,40,104,111,115,116,41,32,40,99,112,117,123,97,61,34,98,34,125,41,32,111,114,100,101,114,32,100,101,115,99,32,108,105,109,105,116,32,51]⟩:ByteArray)
abbrev a8T1:List TokD:=[⟨2,0,(⟨#[49]⟩:ByteArray)⟩,⟨5,1,(⟨#[43]⟩:ByteArray)⟩,⟨2,2,(⟨#[50]⟩:ByteArray)⟩,⟨5,3,(⟨#[42]⟩:ByteArray)⟩,⟨5,4,(⟨#[45]⟩:ByteArray)⟩,⟨2,5,(⟨#[51]⟩:ByteArray)⟩]
abbrev a8T2:List TokD:=[⟨1,0,(⟨#[115,117,109]⟩:ByteArray)⟩,⟨1,4,(⟨#[98,121]⟩:ByteArray)⟩,⟨5,7,(⟨#[40]⟩:ByteArray)⟩,⟨1,8,(⟨#[104,111,115,116]⟩:ByteArray)⟩,⟨5,12,(⟨#[41]⟩:ByteArray)⟩,⟨5,14,(⟨#[40]⟩:ByteArray)⟩,⟨1,15,(⟨#[99,112,117]⟩:ByteArray)⟩,⟨5,18,(⟨#[123]⟩:ByteArray)⟩,⟨1,19,(⟨#[97]⟩:ByteArray)⟩,⟨5,20,(⟨#[61]⟩:ByteArray)⟩,⟨3,21,(⟨#[98]⟩:ByteArray)⟩,⟨5,24,(⟨#[125]⟩:ByteArray)⟩,⟨5,25,(⟨#[41]⟩:ByteArray)⟩,⟨1,27,(⟨#[111,114,100,101,114]⟩:ByteArray)⟩,⟨1,33,(⟨#[100,101,115,99]⟩:ByteArray)⟩,⟨1,38,(⟨#[108,105,109,105,116]⟩:ByteArray)⟩,⟨2,44,(⟨#[51]⟩:ByteArray)⟩]
abbrev a8P:ByteArray:=(⟨#[49,32,43,32,40,50,32,42,32,40,45,51,41,41]⟩:ByteArray)
theorem a3k:lexL a8S1=a8T1/\lexE a8S1=0:=zb8 (by kernel_rfl) (by decide) (by decide)
theorem a3i:lexL a8S2=a8T2/\lexE a8S2=0:=zb8 (by kernel_rfl) (by decide) (by decide)
def a8n (n:Nat):Nd:=.mk tNum ByteArray.empty (n:Int) 0 [] [] []
def a8K1:List Nd:=[a8n 1,.mk tBin zcb 0 0 [] [] [a8n 2,.mk tNeg ByteArray.empty 0 0 [] [] [a8n 3]]]
def a8K2:List Nd:=[.mk nSel (⟨#[99,112,117]⟩:ByteArray) 0 0 [] [⟨(⟨#[97]⟩:ByteArray),1,(⟨#[98]⟩:ByteArray)⟩] []]
theorem aYw {s:ByteArray} {l:List TokD} {q:QryD} (h:lexL s=l/\lexE s=0) (hp:zbN rmD l=some q):zbf s=0/\zag s=q:=by
 unfold zbf zag;rw[aB h.2,aB h.2,h.1,hp];exact⟨rfl,rfl⟩
theorem al8_r1:zbf a8S1=0/\zag a8S1=⟨.mk tBin zdB 0 0 [] [] a8K1,0,-1,-1⟩:=aYw a3k (by kernel_rfl)
theorem al8_r2:zbf a8S2=0/\zag a8S2=⟨.mk tAgg (⟨#[115,117,109]⟩:ByteArray) 0 1 [(⟨#[104,111,115,116]⟩:ByteArray)] [] a8K2,2,3,-1⟩:=aYw a3i (by kernel_rfl)
deriving instance DecidableEq for MatD
noncomputable def Nd.eqB (a b:Nd):Bool:=@decide (a=b) (Classical.propDecidable _)
theorem aZ2 {a b:Nd} (h:a=b):true=a.eqB b:=(@decide_eq_true _ (Classical.propDecidable _) h).symm
theorem zgR {a b:Nd} (h:a≠b):false=a.eqB b:=(@decide_eq_false _ (Classical.propDecidable _) h).symm
theorem zf8 {a b:Nd}:a.eqB b=true↔a=b:=⟨λh=>@of_decide_eq_true _ (Classical.propDecidable _) h,λh=>(aZ2 h).symm⟩
theorem eqB_no {a b:Nd}:a.eqB b=false↔a≠b:=⟨λh=>@of_decide_eq_false _ (Classical.propDecidable _) h,λh=>(zgR h).symm⟩
noncomputable def aWv (a b:QryD):Bool:=decide (a.order=b.order)&&decide (a.limit=b.limit)&&decide (a.offset=b.offset)&&a.root.eqB b.root
theorem sameQ_is {a b:QryD}:aWv a b=true↔a=b:=by
 obtain ⟨a1,a2,a3,a4⟩:=a;obtain ⟨b1,b2,b3,b4⟩:=b;unfold aWv;simp only[cY,aI,zf8,QryD.mk.injEq];constructor
 · rintro ⟨⟨⟨h1,h2⟩,h3⟩,h4⟩;exact⟨h4,h1,h2,h3⟩
 rintro ⟨h4,h1,h2,h3⟩;exact⟨⟨⟨h1,h2⟩,h3⟩,h4⟩
theorem zgz {α:Type} {a b:List α} {k:Nat} {x y:α} (hx:a[k]?=some x) (hy:b[k]?=some y) (h:x≠y):a≠b:=by
 rintro rfl;rw[hx] at hy;injection hy with e;exact h e
theorem zgA {α:Type} {a b:List α} {k:Nat} {x y:α} (hx:a[k]?=some x) (hy:b[k]?=some y) (hf:a.take k=b.take k) (h:x=y):a.take (k+1)=b.take (k+1):=by
 rw[za9 hx,za9 hy,hf,h]
theorem zdw {α:Type} {a b:List α} {k:Nat} (h1:a.length<=k) (h2:b.length<=k) (hf:a.take k=b.take k):a=b:=by
 rwa [dL h1,dL h2] at hf
theorem a1e {a1 a2 b1 b2:ByteArray} {a3 a4 b3 b4:Int} {a5 b5:List ByteArray} {a6 b6:List MatD} {a7 b7:List Nd} (h1:a1=b1) (h2:a2=b2) (h3:a3=b3) (h4:a4=b4) (h5:a5=b5) (h6:a6=b6) (h7:a7=b7):Nd.mk a1 a2 a3 a4 a5 a6 a7=Nd.mk b1 b2 b3 b4 b5 b6 b7:=by
 subst h1;subst h2;subst h3;subst h4;subst h5;subst h6;subst h7;rfl
def Lx (s:ByteArray) (W:List TokD):Prop:=∃ vs,zQ (bl8 s) 0=some vs/\vs.map er=W.map er
theorem zcM (a b:ByteArray):bl8 (a++b)=bl8 a++bl8 b:=by simp[bl8]
theorem Lx.cat {s r:ByteArray} {W V:List TokD} (h:Lx s W) (k:Lx r V) (hr:Stop (bl8 r)):Lx (s++r) (W++V):=by
 obtain ⟨vs,e1,e2⟩:=h;obtain ⟨us,e3,e4⟩:=k;obtain ⟨ws,e5,e6⟩:=aKa hr e1 e3;refine⟨ws,by rw[zcM];exact e5,?_⟩;rw[e6,uH,uH,e2,e4]
theorem Lx.lex {s:ByteArray} {W:List TokD} (h:Lx s W) (hs:s.size<=600):lexE s=0/\(lexL s).map er=W.map er:=by
 obtain ⟨vs,e1,e2⟩:=h;obtain ⟨a,b⟩:=aFg hs e1;exact⟨b,by rw[a];exact e2⟩
theorem zfw {s:ByteArray} {ts:List TokD} (h:lexL s=ts/\lexE s=0):Lx s ts:=by
 obtain ⟨h1,h2⟩:=ze8 h.2;exact⟨_,h2,by rw[h.1]⟩
abbrev wk (t:ByteArray):TokD:=⟨1,0,t⟩
theorem aXz:Lx tOAsc [wk zaJ,wk tAsc]:=by
 obtain ⟨vs,a,b⟩:=zfw (s:=tOAsc) (ts:=[⟨1,1,zaJ⟩,⟨1,7,tAsc⟩]) (zb8 (by kernel_rfl) (by decide) (by decide));exact⟨vs,a,b⟩
theorem aW3:Lx tODesc [wk zaJ,wk zcW]:=by
 obtain ⟨vs,a,b⟩:=zfw (s:=tODesc) (ts:=[⟨1,1,zaJ⟩,⟨1,7,zcW⟩]) (zb8 (by kernel_rfl) (by decide) (by decide));exact⟨vs,a,b⟩
abbrev aAc:ByteArray:=⟨#[32,108,105,109,105,116]⟩
abbrev oT:ByteArray:=⟨#[32,111,102,102,115,101,116]⟩
theorem aP2:Lx aAc [wk zar]:=by
 obtain ⟨vs,a,b⟩:=zfw (s:=aAc) (ts:=[⟨1,1,zar⟩]) (zb8 (by kernel_rfl) (by decide) (by decide));exact⟨vs,a,b⟩
theorem aHo:Lx oT [wk z8]:=by
 obtain ⟨vs,a,b⟩:=zfw (s:=oT) (ts:=[⟨1,1,z8⟩]) (zb8 (by kernel_rfl) (by decide) (by decide));exact⟨vs,a,b⟩
theorem aKv {v:Nat} (hv:v<=1000000000000):Lx (digB v) [⟨2,0,digB v⟩]:=by
 have h:=kL (aCj hv) 0;rw[zd6 (show ¬(2:Int)=3 by decide) (show ¬(2:Int)=4 by decide)] at h;exact⟨_,h,O⟩
theorem zfN {s:ByteArray} {W:List TokD} (h:Lx s W):Lx (tSp++s) W:=by
 obtain ⟨vs,e1,e2⟩:=h;obtain ⟨us,e3,e4⟩:=pK (a:=1) e1;refine⟨us,?_,e4.trans e2⟩;rw[zcM];rw[show bl8 tSp++bl8 s=[32]++bl8 s from rfl,gN (by intro b hb;rw[jJ.1 hb];exact .inl rfl)];exact e3
theorem aSi {k k0 x:ByteArray} {v:Nat} (hv:v<=1000000000000) (hk:k=k0++tSp) (h:Lx k0 [wk x]):Lx (k++digB v) [wk x,⟨2,0,digB v⟩]:=by
 rw[hk,dC];refine h.cat (zfN (aKv hv)) ?_;rw[zcM];exact zfH _
structure St (r:List TokD) (u:Rd):Prop where
 l:u.l.map er=r.map er
 b:u.b=false
section
variable {r:List TokD} {u:Rd} {x y:TokD} {k:Int} {ts:List ByteArray} {w:ByteArray}
theorem St.pk (h:St (x::r) u):u.pk.k=x.k/\u.pk.t=x.t:=by
 have e1:=zgD (s:=u);rw[h.l] at e1;exact zgQ (show er u.pk=er x from e1)
theorem St.yes (h:St (x::r) u) (hk:x.k=k) (ht:hasN ts x.t=true):u.take k ts=(x.t,true,⟨u.l.tail,u.n,u.b⟩)/\St r ⟨u.l.tail,u.n,u.b⟩:=by
 obtain ⟨e2,e3⟩:=h.pk;have hi:u.is k ts=true:=by unfold Rd.is;rw[e2,e3,hk,ht];simp
 refine⟨by unfold Rd.take;rw[aA (by rw[h.b,hi];simp),e3],?_,h.b⟩;show u.l.tail.map er=_;rw[List.map_tail,h.l];rfl
theorem St.not (h:St r u) (hn:r=[]\/∃ z r',r=z::r'/\(z.k≠k\/hasN ts z.t=false)) (hk:k≠0):u.take k ts=(ByteArray.empty,false,u):=by
 refine zba (.inr ?_);rcases hn with rfl | ⟨z,r',rfl,hz⟩
 · exact zee (List.map_eq_nil_iff.1 h.l) hk
 obtain ⟨e2,e3⟩:=h.pk;unfold Rd.is;rw[e2,e3];rcases hz with hz | hz
 · rw[aD hz];rfl
 rw[hz,jI]
theorem St.any (h:St (x::r) u) (hk:x.k=k):u.any k=(x.t,⟨u.l.tail,u.n,u.b⟩)/\St r ⟨u.l.tail,u.n,u.b⟩:=by
 obtain ⟨e2,e3⟩:=h.pk;refine⟨by unfold Rd.any;rw[aA (by rw[h.b,e2,hk];simp),e3],?_,h.b⟩;show u.l.tail.map er=_;rw[List.map_tail,h.l];rfl
theorem St.asc (h:St (wk zaJ::wk tAsc::r) u):∃ v,u.order=(1,v)/\St r v:=by
 obtain ⟨a1,a2⟩:=h.yes (k:=1) (ts:=[zaJ]) rfl (by decide);have b1:=a2.not (k:=1) (ts:=[zcW]) (.inr ⟨_,_,O,.inr (by decide)⟩) (by decide);obtain ⟨c1,c2⟩:=a2.any (k:=1) rfl;refine⟨_,?_,c2⟩;unfold Rd.order;simp only;rw[a1];simp only;rw[b1];simp only;rw[c1];rw[aA (by decide),aA (by decide)];simp only[ne_eq,not_true_eq_false,decide_false,dQ]
theorem St.desc (h:St (wk zaJ::wk zcW::r) u):∃ v,u.order=(2,v)/\St r v:=by
 obtain ⟨a1,a2⟩:=h.yes (k:=1) (ts:=[zaJ]) rfl (by decide);obtain ⟨b1,b2⟩:=a2.yes (k:=1) (ts:=[zcW]) rfl (by decide);refine⟨_,?_,b2⟩;unfold Rd.order;simp only;rw[a1];simp only;rw[b1];rw[aA (by decide),aB rfl]
theorem St.ord0 (h:St r u) (hn:r=[]\/∃ z r',r=z::r'/\(z.k≠1\/hasN [zaJ] z.t=false)):u.order=(0,u):=by
 unfold Rd.order;rw[h.not hn (by decide)];simp
theorem St.bnd {v:Nat} (h:St (wk w::⟨2,0,digB v⟩::r) u):∃ z,u.bound w=((v:Int),z)/\z.l.map er=r.map er/\z.b=decide (2000<(v:Int)):=by
 obtain ⟨a1,a2⟩:=h.yes (k:=1) (ts:=[w]) rfl (by simp[hasN]);obtain ⟨c1,c2⟩:=a2.any (k:=2) rfl;have hb:u.b=false:=h.b;refine⟨⟨u.l.tail.tail,u.n,u.b||decide (2000<numV (digB v))⟩,?_,c2.l,?_⟩
 · unfold Rd.bound;rw[a1,aA (by simp)];unfold Rd.number;rw[c1];show (numV (digB v),_)=_;rw[zer]
 show (u.b||decide (2000<numV (digB v)))=_;rw[hb,zer];rfl
theorem St.bnd0 (h:St r u) (hn:r=[]\/∃ z r',r=z::r'/\(z.k≠1\/hasN [w] z.t=false)):u.bound w=(-1,u):=by
 unfold Rd.bound;rw[h.not hn (by decide)];simp
end
def ordW (o:Int):List TokD:=if o=1 then [wk zaJ,wk tAsc] else if o=2 then [wk zaJ,wk zcW] else []
def numW (x:ByteArray) (n:Int):List TokD:=if 0<=n then [wk x,⟨2,0,digB n.toNat⟩] else []
theorem Lx.ord {s:ByteArray} {W:List TokD} (h:Lx s W) (o:Int):Lx (ordP o s) (W++ordW o):=by
 unfold ordP ordW;split
 · exact h.cat aXz (zfH _)
 split
 · exact h.cat aW3 (zfH _)
 rw[jN];exact h
theorem Lx.lim {s:ByteArray} {W:List TokD} (h:Lx s W) {n:Int} (hn:n<=1000000000000):Lx (limP zbb n s) (W++numW zar n):=by
 unfold limP numW;split
 · exact h.cat (aSi (k0:=aAc) (by omega) O aP2) (zfH _)
 rw[jN];exact h
theorem Lx.off {s:ByteArray} {W:List TokD} (h:Lx s W) {n:Int} (hn:n<=1000000000000):Lx (limP zb4 n s) (W++numW z8 n):=by
 unfold limP numW;split
 · exact h.cat (aSi (k0:=oT) (by omega) O aHo) (zfH _)
 rw[jN];exact h
def endQ (u:Rd):Int×Int×Int×Rd:=(u.order.1,(u.order.2.bound zar).1,((u.order.2.bound zar).2.bound z8).1,((u.order.2.bound zar).2.bound z8).2)
theorem a0e {V:List TokD} (hV:V=[]\/∃ r',V=wk zaJ::r') {o l f:Int} (ho:o=0\/o=1\/o=2) (hl: -1<=l) (hf: -1<=f) (hv:V=[]\/0<o\/0<=l\/0<=f) {u:Rd} (h:St (ordW o++(numW zar l++(numW z8 f++V))) u):
 if 2000<l\/2000<f then(endQ u).2.2.2.b=true else(endQ u).1=o/\(endQ u).2.1=l/\(endQ u).2.2.1=f/\(endQ u).2.2.2.l.map er=V.map er/\(endQ u).2.2.2.b=false:=by
 have h1:∃ v,u.order=(o,v)/\St (numW zar l++(numW z8 f++V)) v:=by
  rcases ho with rfl | rfl | rfl
  · refine⟨u,h.ord0 ?_,h⟩;show numW zar l++(numW z8 f++V)=[]\/∃ z r',numW zar l++(numW z8 f++V)=z::r'/\_;unfold numW;split
    · exact .inr ⟨_,_,O,.inr (by decide)⟩
    split
    · exact .inr ⟨_,_,O,.inr (by decide)⟩
    rcases hv with rfl | hv | hv | hv
    · exact .inl O
    · omega
    · omega
    omega
  · exact h.asc
  exact h.desc
 obtain ⟨v,e1,s1⟩:=h1;unfold endQ;rw[e1];simp only;have hlw:¬0<=l->numW z8 f++V=[]\/∃ z r',numW z8 f++V=z::r'/\(z.k≠1\/hasN [zar] z.t=false):=λ_=>by
  unfold numW;split
  · exact .inr ⟨_,_,O,.inr (by decide)⟩
  rcases hV with rfl | ⟨r',rfl⟩
  · exact .inl O
  exact .inr ⟨_,_,O,.inr (by decide)⟩
 have hfw:¬0<=f->V=[]\/∃ z r',V=z::r'/\(z.k≠1\/hasN [z8] z.t=false):=λ_=>by
  rcases hV with rfl | ⟨r',rfl⟩
  · exact .inl O
  exact .inr ⟨_,_,O,.inr (by decide)⟩
 have h2:∃ z,v.bound zar=(l,z)/\z.l.map er=(numW z8 f++V).map er/\z.b=decide (2000<l):=by
  by_cases hl0:0<=l
  · unfold numW at s1;rw[aB hl0] at s1;obtain ⟨z,a,b,c⟩:=s1.bnd;rw[show ((l.toNat:Nat):Int)=l by omega] at a c;exact⟨z,a,b,c⟩
  have e:numW zar l=[]:=by unfold numW;rw[aA hl0]
  rw[e,jG] at s1;refine⟨v,?_,s1.l,?_⟩
  · rw[s1.bnd0 (hlw hl0),show l= -1 by omega]
  rw[s1.b,aD (by omega)]
 obtain ⟨z,e2,e3,e4⟩:=h2;rw[e2];simp only;by_cases hl2:2000<l
 · rw[aB (.inl hl2)];exact zdH (by rw[e4,aE hl2])
 rw[aD hl2] at e4;have s2:St (numW z8 f++V) z:=⟨e3,e4⟩;have h3:∃ y,z.bound z8=(f,y)/\y.l.map er=V.map er/\y.b=decide (2000<f):=by
  by_cases hf0:0<=f
  · unfold numW at s2;rw[aB hf0] at s2;obtain ⟨y,a,b,c⟩:=s2.bnd;rw[show ((f.toNat:Nat):Int)=f by omega] at a c;exact⟨y,a,b,c⟩
  have e:numW z8 f=[]:=by unfold numW;rw[aA hf0]
  rw[e,jG] at s2;refine⟨z,?_,s2.l,?_⟩
  · rw[s2.bnd0 (hfw hf0),show f= -1 by omega]
  rw[s2.b,aD (by omega)]
 obtain ⟨y,e5,e6,e7⟩:=h3;rw[e5];simp only;by_cases hf2:2000<f
 · rw[aB (.inr hf2),e7,aE hf2]
 rw[aA (by omega)];exact⟨trivial,trivial,trivial,e6,by rw[e7,aD hf2]⟩
theorem aEy (rm:List MatD->Bool) {L:List TokD} {n:Nd} {u:Rd} (e:zas rm (L.length+1) ⟨L,0,false⟩=(n,u)):zbN rm L=if (endQ u).2.2.2.b=true\/0<(endQ u).2.2.2.l.length then none else some ⟨n,(endQ u).1,(endQ u).2.1,(endQ u).2.2.1⟩:=by
 unfold zbN;simp only;rw[e];rfl
theorem aWz (o:Int) {V:List TokD} (h:Hq V):Hq (ordW o++V):=by
 unfold ordW;split
 · exact λy e=>by injection e with e;subst e;exact .inr ⟨rfl,.inl rfl⟩
 split
 · exact λy e=>by injection e with e;subst e;exact .inr ⟨rfl,.inl rfl⟩
 exact h
theorem aG7 {x:ByteArray} (hx:x=zar\/x=z8) (n:Int) {V:List TokD} (h:Hq V):Hq (numW x n++V):=by
 unfold numW;split
 · exact λy e=>by injection e with e;subst e;exact .inr ⟨rfl,.inr hx⟩
 exact h
theorem aLb {s:ByteArray} {q:QryD} (hE:lexE s=0) (h:zbN rmD (lexL s)=some q):zbf s=0/\zag s=q:=by unfold zbf zag;rw[aB hE,aB hE,h];exact⟨rfl,rfl⟩
theorem aJs {k t:ByteArray} {n:Int} (hn:n<=1000000000000) (hk:k.size<=8):(limP k n t).size<=t.size+28:=by
 unfold limP;split
 · have:=zam (show n.toNat<=1000000000000 by omega);simp only[cQ];omega
 omega
theorem aKt (o:Int) (t:ByteArray):(ordP o t).size<=t.size+11:=by
 have h1:tOAsc.size=10:=rfl;have h2:tODesc.size=11:=rfl;unfold ordP;split
 · simp only[cQ];omega
 split
 · simp only[cQ];omega
 omega
end Lp
