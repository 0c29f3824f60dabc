import Derived.Lib.AppendStr
import Derived.Lib.UnsafeStr
import Derived.Test.YtpbcckjedaieoaaGreatDoorDG
set_option linter.unusedSimpArgs false
set_option linter.unusedVariables false
namespace Lp
open Go Go.RowKit
open Go.Lib (strCells strCells_eq byteCells byteCells_length run_append_own_string)
abbrev dU8 (b:UInt8):D:=.v (.int .u8 (b.toNat:Int))
theorem zcP {n:Int} {m:Nat} (h:n=(m:Int)) (hm:m<256):D.v (.int .u8 n)=dU8 (UInt8.ofNat m):=by
 have:(UInt8.ofNat m).toNat=m:=by simp[UInt8.toNat_ofNat'];omega
 unfold dU8;rw[this,h]
theorem newRow_at {P:Program} {E:TypeId} {c:Array Value} {a:Addr} {w w1:World} (h:(newRow E c).run P w=.ok a w1):a=⟨w.heap.size,0,none⟩:=by
 simp[newRow] at h;exact h.1.symm
theorem append_moved_s {P:Program} {w w':World} {t u ty E n cap:Nat} {A:Option Addr} {s:ByteArray} {v':Value} {i:TypeInfo} (ht:P.underlying t=some (.slice E)) (hu:P.underlying u=some .string) (hi:P.info? E=some i) (hn:cap<n+s.size) (hm:n+s.size<=maxLen)
 (h:(Builtin.append_ #[t,u] ty #[.slice A n cap,.string s]).run P w=.ok v' w'):Ext w w'/\v'.ownBlock=some w.heap.size:=by
 simp[Builtin.append_,run_underlying ht,run_underlying hu,Go.sizeOf,typeInfo,hi,Builtin.lenOf,show ¬n+s.size<=cap by omega] at h;have fin:∀ {W:World} {k:Nat} {f:Addr->World->Result Value},Ext w W->W.heap.size=w.heap.size->(∀ a w1 v w2,f a w1=.ok v w2->w2=w1/\v.ownBlock=some a.block)->((Sem.run P (Builtin.firstCells i.size n (Value.slice A n cap)) W).andThen λa w'=>
  (Sem.run P (Builtin.firstCells i.size s.size (.string s)) w').andThen λa_1 w'=>
   (Sem.run P (zeroValue E) w').andThen λa_2 w'=>
    (Sem.run P (newRow E (a++(a_1++Builtin.zeroCells a_2.cells k))) w').andThen f)=.ok v' w'->Ext w w'/\v'.ownBlock=some w.heap.size:=by
  intro W k f hE hsz hf h;obtain ⟨a,w1,h1,h⟩:=zda h;obtain ⟨a1,w2,h2,h⟩:=zda h;obtain ⟨a2,w3,h3,h⟩:=zda h;obtain ⟨a3,w4,h4,h⟩:=zda h;have e1:=firstCells_same h1;have e2:w2=w1:=by simp[Builtin.firstCells] at h2;exact h2.2.symm
  have e3:=zero_same h3;have e4:=newRow_ext h4;have e5:=newRow_at h4;have e6:=hf _ _ _ _ h;subst e1;subst e2;subst e3;rw[e6.1];exact⟨hE.trans e4,by rw[e6.2,e5,hsz]⟩
 have hcond:¬(9223372036854775807<(n:Int)+(s.size:Int)/\i.bytes=0):=by
  rintro ⟨h1,_⟩;unfold maxLen at hm;omega
 rw[if_neg hcond] at h;split at h
 · obtain ⟨_,_,h,_⟩:=zda h;obtain ⟨_,_,_,h⟩:=zda h;cases h
 split at h
 · refine fin (W:=w) (k:=0) (f:=λa w'=>Result.ok (.slice (some a) (n+s.size) 0) w') wV rfl (λ_ _ _ _ h=>by cases h;exact⟨rfl,rfl⟩) ?_;simpa [Builtin.firstCells] using h
 refine fin (W:=w.drew) (k:=(Question.appendCap (n+s.size) cap E).cut (w.tape w.drawn (Question.appendCap (n+s.size) cap E))-(n+s.size)) (f:=λa w'=>Result.ok (.slice (some a) (n+s.size) ((Question.appendCap (n+s.size) cap E).cut (w.tape w.drawn (Question.appendCap (n+s.size) cap E)))) w') (Ext.drew w) rfl (λ_ _ _ _ h=>by cases h;exact⟨rfl,rfl⟩) ?_;simpa [Builtin.firstCells] using h
theorem append_inplace_s {P:Program} {w w':World} {t u ty E n cap:Nat} {A:Option Addr} {s:ByteArray} {v':Value} {i:TypeInfo} (ht:P.underlying t=some (.slice E)) (hu:P.underlying u=some .string) (hi:P.info? E=some i) (hn:n+s.size<=cap)
 (h:(Builtin.append_ #[t,u] ty #[.slice A n cap,.string s]).run P w=.ok v' w'):v'=.slice A (n+s.size) cap:=by
 simp[Builtin.append_,run_underlying ht,run_underlying hu,Go.sizeOf,typeInfo,hi,Builtin.lenOf,hn] at h;obtain ⟨a,w1,h1,h⟩:=zda h;cases A with
 | none=>simp at h;exact h.1.symm
 | some ad=>
  simp at h;obtain ⟨_,_,_,h⟩:=zda h;cases h;rfl
theorem strCells_get {s:ByteArray}:∀ u∈strCells s,u.oneCell'=true:=by
 intro u hu;rw[strCells_eq] at hu;simp only[byteCells,jX] at hu;obtain ⟨b,_,rfl⟩:=hu;rfl
theorem flat_one:∀ {us:List Value},(∀ u∈us,u.oneCell'=true)->us.flatMap vcs=us
 | [],_=>rfl
 | u::r,h=>by rw[jM,vcs_one (h u c6),flat_one (λx hx=>h x (dC _ hx))];rfl
theorem repE_bytes {w:World} {F:Nat->Prop}:∀ l:List UInt8,RepE w F 1 (l.map dU8) (byteCells l)
 | []=>rfl
 | b::r=>⟨_,_,rfl,rfl,One.one rfl,rfl,repE_bytes r⟩
section
variable {P:Program} {ty:TypeId} {K:Kd} {H:List Hp}
theorem ef_append_s {t u:TypeId} {x y:Operand} {i:Nat} {v:Value} {T:TypeId} {bs:List UInt8} {s:ByteArray} (hx:opO K x=some v) (hm:nth H i=some (.sl v 1 T (bs.map dU8))) (hy:opS K y=some s) (ht:P.underlying t=some (.slice T)) (hu:P.underlying u=some .string)
 (hi':∃ i,P.info? T=some i/\i.zero=some (.int .u8 0)/\i.size=1/\i.bytes=1) (hlen:bs.length+s.size<=140737488355328):
 Ef P (.call { callee:=.builtin .append,args:=#[x,y],argTypes:=#[t,u] }) ty K H (λd H'=>∃ v',d=.ov v'/\H'=H.set i (.sl v' 1 T ((bs++s.data.toList).map dU8))):=
 ⟨λC ρ w F hk gd=>by
  obtain ⟨us,hus,hown⟩:=gd.h.ok _ (zR hm);have hul:=hus.len;rw[cW] at hul;obtain ⟨i,q1,q2,q3,q4⟩:=hi';have hmx:us.length+s.size<=maxLen:=by unfold maxLen;omega
  obtain ⟨v',w',r1,r2,r3,_⟩:=run_append_own_string (P:=P) (w:=w) 0 t u ty T i ht hu q1 q2 q3 q4 v us.length _ hown.1 s hmx (by omega) (c7 _);refine wW (v:=v') (w':=w') (by
   have e1:=hk.opO hx;have e2:=hk.opS hy;simp[execOp,z1,resolve,invoke,builtin,e1,e2,r1]) ?_
  obtain ⟨A,cp,ev,_⟩:=hown.sl.capOk;have hblk:v'.ownBlock=v.ownBlock\/v'.ownBlock=some w.heap.size:=by
   rw[ev] at r1;by_cases hin:us.length+s.size<=cp
   · left;rw[append_inplace_s ht hu q1 hin r1,ev];cases A<;>rfl
   right;exact(append_moved_s ht hu q1 (by omega) hmx r1).2
  have hone:∀ x∈strCells s,(vcs x).length=1:=λx hx=>by rw[vcs_one (strCells_get x hx)];rfl
  have hsz:(strCells s).length=s.size:=by rw[strCells_eq,byteCells_length];simp
  have how:Own vcs 1 T w' 0 v' (us++strCells s):=by
   refine⟨?_,λx hx=>?_⟩
   · rw[cX,hsz,jW,flat_one strCells_get];exact r2
   rcases jK.1 hx with hx | hx
   · exact hown.2 x hx
   exact hone x hx
  have:=gd.turn (h':=.sl v' 1 T ((bs++s.data.toList).map dU8)) hm (λc hc hn=>r3.block c hc (λe=>hn e.symm)) r3.size r3.os r3.tape r3.output (Dr.run r1) (λc e=>by
   rcases hblk with h3 | h3
   · exact .inl (by show v.ownBlock=_;rw[<-h3];exact e)
   have e':v'.ownBlock=some c:=e;rw[h3] at e';cases e';exact .inr (dD _)) (λkp=>⟨us++strCells s,by rw[uN,strCells_eq];exact(hus.keep kp).app (repE_bytes _),how⟩)
  exact⟨F,.ov v',_,⟨v',rfl,rfl⟩,⟨rfl,how.one⟩,this.1,this.2⟩⟩
theorem Good.lose {C:Ctx} {H:List Hp} {w w':World} {F:Nat->Prop} {i:Nat} {h:Hp} (g:Good C H w F) (hi:nth H i=some h)
 (hupd:∀ b,b<w.heap.size->¬h.blk b->w'.heap[b]?=w.heap[b]?) (hsz:w.heap.size<=w'.heap.size) (hos:w'.os=w.os) (htp:w'.tape=w.tape) (hout:w'.output=w.output) (hdr:Dr w w'):Good C (H.take i++H.drop (i+1)) w' F/\Keep w F w' F:=by
 have hmem:=zR hi;have hp:=(zbZ hi);have gp:=(mF hp).out _ _ _ g;have hap:=dS.1 gp.h.apart;have hk:Keep w F w' F:=⟨λ_ h=>h,λb hF hlt=>hupd b hlt (λe=>(g.h.mine b ⟨h,hmem,e⟩).2 hF)⟩;refine⟨⟨jA g.size hsz,hos.trans g.os,htp.trans g.tape,hout.trans g.output,Dr.trans g.drawn hdr,λb hb1 hn=>?_,g.fsub,g.fnew,λb hF=>j9 (g.flt b hF) hsz,hap.2,λx hx=>?_,λb ⟨x,hx,e⟩=>gp.h.mine b ⟨x,dC _ hx,e⟩⟩,hk⟩
 · rw[hupd b (j9 hb1 g.size) (λe=>?_)]
   · exact g.frame b hb1 hn
   rcases (g.h.mine b ⟨h,hmem,e⟩).1 with h1 | h1
   · omega
   exact hn h1
 have hox:=gp.h.ok x (dC _ hx);exact Hp.keep hox hk (λb hb1=>hupd b (Hp.lt hox hb1) (λe=>hap.1 x hx b e hb1))
theorem p_sliceData {x:Operand} {t:Array TypeId} {i z:Nat} {v:Value} {T:TypeId} {xs:List D} (hx:opO K x=some v) (hm:nth H i=some (.sl v z T xs)) (hn:0<xs.length):Pu P (.call { callee:=.builtin .unsafeSliceData,args:=#[x],argTypes:=t }) ty K H (.v (.pointer (some ⟨bl v,0,none⟩))):=
 ⟨λρ w F hk _ hH=>by
  obtain ⟨us,hus,hown⟩:=hH _ (zR hm);have hul:=hus.len;obtain ⟨cap,r,e,_,_,hc,_⟩:=hown.form (by omega);refine wW (v:=.pointer (some ⟨bl v,0,none⟩)) (w':=w) ?_ ⟨rfl,rfl⟩;have e1:=hk.opO hx;rw[e] at e1;have hr:=Lib.run_unsafeSliceData_row (P:=P) (w:=w) t ty ⟨bl v,0,none⟩ us.length cap (by omega);simp[execOp,z1,resolve,invoke,builtin,e1,hr]⟩
theorem ef_unsafeString {x y:Operand} {t1 t2 i:Nat} {v:Value} {T:TypeId} {bs:List UInt8} {n:Int} (hx:opD K x=some (.v (.pointer (some ⟨bl v,0,none⟩)))) (hy:opD K y=some (.v (.int .i64 n))) (hn:n=(bs.length:Int)) (hm:nth H i=some (.sl v 1 T (bs.map dU8))) (h0:bs≠[])
 (hp:P.underlying t1=some (.pointer T)) (hc:P.cellsOf T=1):Ef P (.call { callee:=.builtin .unsafeString,args:=#[x,y],argTypes:=#[t1,t2] }) ty K H (λd H'=>d=.s ⟨bs.toArray⟩/\H'=H.take i++H.drop (i+1)):=
 ⟨λC ρ w F hk gd=>by
  obtain ⟨us,hus,hown⟩:=gd.h.ok _ (zR hm);have hul:=hus.len;rw[cW] at hul;have hpos:0<bs.length:=jE.2 h0;obtain ⟨cap,r,e,_,hB,hc1,hc2,hc3⟩:=hown.form (by omega);have hmx:bs.length<=9223372036854775807:=by unfold maxLen at hc2;omega
  have hsh:w.shape? (bl v)=some (T,cap):=by
   unfold Box at hB;simp only[World.shape?,hB];simp only[List.size_toArray,hc3,u6]
  have hcell:∀ j x,bs[j]?=some x->w.cell? ⟨bl v,j,none⟩=some (.int .u8 x.toNat):=by
   intro j b hj;obtain ⟨u,h1,h2,_⟩:=hus.get (k:=j) (x:=dU8 b) (by rw[jB,hj];rfl);have:=hown.sl.at_ h1;have hof:of_ v=0:=(by rw[e];rfl);rw[hof,d6,u6] at this;have hu:u=.int .u8 (b.toNat:Int):=h2;subst hu;exact this.2 0 _ rfl
  have hrun:=Lib.run_unsafeString_row (P:=P) (w:=w) t1 t2 ty T hp hc (bl v) cap hsh bs h0 (by omega) hmx;subst hn;have e1:ev ρ x=_:=hk.op hx;have e2:ev ρ y=_:=hk.op hy;have hf:∀ k,k≠bl v->(w.freeze ⟨bl v,0,none⟩ bs.length).heap[k]?=w.heap[k]?:=by
   intro k hk';unfold World.freeze;split
   · rfl
   simp only[Array.getElem?_modify];rw[if_neg (λh=>hk' h.symm)]
  have hsz:(w.freeze ⟨bl v,0,none⟩ bs.length).heap.size=w.heap.size:=by
   unfold World.freeze;split<;>simp
  have hos:(w.freeze ⟨bl v,0,none⟩ bs.length).os=w.os/\(w.freeze ⟨bl v,0,none⟩ bs.length).tape=w.tape/\(w.freeze ⟨bl v,0,none⟩ bs.length).output=w.output:=by
   unfold World.freeze;split<;>exact⟨rfl,rfl,rfl⟩
  have:=gd.lose (w':=w.freeze ⟨bl v,0,none⟩ bs.length) hm (λb hb hn=>hf b (λe'=>hn (by subst e';show v.ownBlock=_;rw[e];rfl))) (Nat.le_of_eq hsz.symm) hos.1 hos.2.1 hos.2.2 (Dr.of (Nat.le_of_eq (freeze_drawn _ _ _).symm));refine wW (v:=.string ⟨bs.toArray⟩) (w':=w.freeze ⟨bl v,0,none⟩ bs.length) ?_ ⟨F,_,_,⟨rfl,rfl⟩,⟨rfl,?_⟩,this.1,this.2⟩
  · have:=hrun (λj x hj=>by rw[show (⟨bl v,0,none⟩:Addr).add j=⟨bl v,j,none⟩ by cases j<;>simp[Addr.add]];exact hcell j x hj);simp[execOp,z1,resolve,invoke,builtin,e1,e2,this]
  show bs.toArray.size<=maxLen;unfold maxLen;simp;omega⟩
theorem zcZ {x:Operand} {t:TypeId} {s:ByteArray} (hx:opS K x=some s) (ht:∀ w,(underlying t).run P w=.ok .string w):Ef P (.range t x) ty K H (λd H'=>∃ g,d=.v (.pointer (some ⟨g,0,none⟩))/\H'=.it g s 0::H):=
 ⟨λC ρ w F hk gd=>by
  have e:=hk.opS hx;refine wW (v:=.pointer (some ⟨w.heap.size,0,none⟩)) (w':=w.alloc (.stringIter s 0)) (by simp[execOp,z1,e,Instr.range,ht]) ?_;have E:=Ext.alloc w (.stringIter s 0);have g':=gd.ext E;refine⟨F,_,_,⟨w.heap.size,rfl,rfl⟩,rfl,g'.more (heap_alloc_new w _) (λb hb=>?_),Keep.ext E⟩;cases hb;exact⟨gd.size,λhF=>by have:=gd.flt _ hF;omega,λhB=>by have:=zfh gd.h hB;omega⟩⟩
def decR (s:ByteArray) (p:Nat):Nat:=(Utf8.decode s p).1
def decW (s:ByteArray) (p:Nat):Nat:=(Utf8.decode s p).2
theorem zce {x:Operand} {s:ByteArray} {g p i:Nat} (hx:opD K x=some (.v (.pointer (some ⟨g,0,none⟩)))) (hm:nth H i=some (.it g s p)) (hp:p<s.size):
 Ef P (.next x true) ty K H (λd H'=>d=.tup [.v (.bool true),.v (.int .i64 (p:Int)),.v (.int .i32 (decR s p:Int))]/\H'=H.set i (.it g s (p+decW s p))):=
 ⟨λC ρ w F hk gd=>by
  have e:ev ρ x=_:=hk.op hx;have hb:w.heap[g]?=some (.stringIter s p):=gd.h.ok _ (zR hm);have hlt:=(jP.1 hb).1;refine wW (v:=.tuple #[.bool true,.int .i64 (p:Int),.int .i32 (decR s p:Int)]) (w':={ w with heap:=w.heap.setIfInBounds g (.stringIter s (p+decW s p)) }) ?_ ?_
  · simp[execOp,z1,e,Instr.next,getObj,setObj,Sem.run,hb,hp,decR,decW,goInt]
  have:=gd.turn (h':=.it g s (p+decW s p)) (w':={ w with heap:=w.heap.setIfInBounds g (.stringIter s (p+decW s p)) }) hm (λb _ hn=>by
   have:¬g=b:=hn;simp only[Array.getElem?_setIfInBounds];rw[if_neg this]) (by simp) rfl rfl rfl (Dr.of (dD _)) (λb hb=>.inl hb) (λ_=>by
   show _=_;simp only[Array.getElem?_setIfInBounds,if_true,hlt])
  exact⟨F,_,_,⟨rfl,rfl⟩,⟨_,rfl,_,_,rfl,rfl,_,_,rfl,rfl,_,_,rfl,rfl,rfl⟩,this.1,this.2⟩⟩
theorem zcT {x:Operand} {s:ByteArray} {g p i:Nat} (hx:opD K x=some (.v (.pointer (some ⟨g,0,none⟩)))) (hm:nth H i=some (.it g s p)) (hp:s.size<=p):Pu P (.next x true) ty K H (.tup [.v (.bool false)]):=
 ⟨λρ w F hk _ hH=>by
  have e:ev ρ x=_:=hk.op hx;have hb:w.heap[g]?=some (.stringIter s p):=hH _ (zR hm);refine wW (v:=.tuple #[.bool false]) (w':=w) ?_ ⟨rfl,_,rfl,_,_,rfl,rfl,rfl⟩;simp[execOp,z1,e,Instr.next,getObj,Sem.run,hb,show ¬p<s.size by omega]⟩
theorem zL (s:ByteArray) (p:Nat):1<=decW s p:=by
 unfold decW Utf8.decode;simp only
 (repeat' split)<;>simp
theorem zai (s:ByteArray) (p:Nat) (h:p<s.size):p+decW s p<=s.size:=by
 unfold decW Utf8.decode;simp only[c8,decide_eq_true_eq]
 (repeat' split)<;>simp<;>omega
def zaB (s:ByteArray) (p:Nat):List Int:=if h:p<s.size then(decR s p:Int)::zaB s (p+decW s p) else []
termination_by s.size-p
decreasing_by have:=zL s p;omega
theorem zav {s:ByteArray} {p:Nat} (h:p<s.size):zaB s p=(decR s p:Int)::zaB s (p+decW s p):=by
 conv=>lhs;unfold zaB
 rw[dif_pos h]
theorem zaH {s:ByteArray} {p:Nat} (h:s.size<=p):zaB s p=[]:=by
 unfold zaB;rw[dif_neg (by omega)]
def zS (s:ByteArray):List Int:=zaB s 0
theorem runesAt_len (s:ByteArray):∀ (n p:Nat),s.size-p=n->(zaB s p).length<=s.size-p:=by
 intro n
 induction n using Nat.strongRecOn with
 | _ n ih=>
  intro p hp;rcases dH p s.size with h | h
  · have h1:=zL s p;rw[zav h,dM];have:=ih (s.size-(p+decW s p)) (by omega) _ rfl;omega
  rw[zaH h];simp
theorem zcA (s:ByteArray) (p:Nat):decR s p<1114112:=by
 unfold decR Utf8.decode;simp only[c8,decide_eq_true_eq];have hv:∀ c,Utf8.valid c=true->c<1114112:=by
  intro c;unfold Utf8.valid;simp;intros;omega
 (repeat' split)
 all_goals first
  | (simp only[Utf8.runeError];omega)
  | (simp only;omega)
  | (rename_i h;have:=hv _ h.2;simp only;omega)
end
end Lp
namespace Lp
open Go
abbrev dN (n:Nat):D:=.v (.int .i64 (n:Int))
structure RowD where
 ls:List Lbl
 v:Int
 deriving DecidableEq
abbrev LLs:=List (List RowD)
def Lbl.d (x:Lbl):D:=.agg [.s x.n,.s x.v]
def RowD.d (x:RowD):D:=.agg [.sh 2 (x.ls.map Lbl.d),.v (.int .i64 x.v)]
def or2 (a b:Int):Int:=if a≠0 then a else b
def za0:List Int->Int
 | []=>0
 | a::r=>if a≠0 then a else za0 r
theorem firstNZ_two (a b:Int):za0 [a,b]=or2 a b:=by
 unfold za0 za0 za0 or2;split
 · rfl
 split<;>omega
def zz (a b:Lbl):Int:=or2 (cmpS a.n b.n) (cmpS a.v b.v)
def zw:List Lbl->List Lbl->Int
 | [],[]=>0
 | [],_::_=> -1
 | _::_,[]=>1
 | a::r,b::s=>if zz a b≠0 then zz a b else zw r s
def cmpI (a b:Int):Int:=if a<b then -1 else if b<a then 1 else 0
def zi (o:Int) (a b:RowD):Int:=
 if o=1 then or2 (cmpI a.v b.v) (zw a.ls b.ls) else if o=2 then or2 (cmpI b.v a.v) (zw a.ls b.ls) else zw a.ls b.ls
theorem zaY {α:Type} {xs:List α} {k:Nat} {x:α} (h:xs[k]?=some x):xs.drop k=x::xs.drop (k+1):=by
 have hk:=get_lt h;rw[uS hk];congr 1;exact(cZ.1 h).2
theorem cmpLs_at {a b:List Lbl} {k:Nat} {x y:Lbl} (hx:a[k]?=some x) (hy:b[k]?=some y) (hd:zw a b=zw (a.drop k) (b.drop k)) (hc:zz x y≠0):zw a b=zz x y:=by
 rw[hd,zaY hx,zaY hy];unfold zw;rw[if_pos hc]
theorem cmpLs_next {a b:List Lbl} {k:Nat} {x y:Lbl} (hx:a[k]?=some x) (hy:b[k]?=some y) (hd:zw a b=zw (a.drop k) (b.drop k)) (hc:zz x y=0):zw a b=zw (a.drop (k+1)) (b.drop (k+1)):=by
 rw[hd,zaY hx,zaY hy]
 conv=>lhs;unfold zw
 rw[if_neg (by omega)]
theorem cmpLs_right {a b:List Lbl} {k:Nat} {x:Lbl} (hx:a[k]?=some x) (hy:b.length<=k) (hd:zw a b=zw (a.drop k) (b.drop k)):zw a b=1:=by
 rw[hd,zaY hx,d8 hy];rfl
theorem cmpLs_end {a b:List Lbl} {k:Nat} (hx:a.length<=k) (hd:zw a b=zw (a.drop k) (b.drop k)) (hk:k<=a.length):zw a b=if a.length<b.length then -1 else 0:=by
 rw[hd,d8 hx];split
 · have:b.drop k≠[]:=(by intro h;have:=congrArg List.length h;simp at this;omega);cases h:b.drop k with
   | nil=>exact absurd h this
   | cons y s=>rfl
 rw[d8 (by omega)];rfl
theorem firstNZ_next {ns:List Int} {k:Nat} {x:Int} (hx:ns[k]?=some x) (h:za0 ns=za0 (ns.drop k)) (hz:x=0):za0 ns=za0 (ns.drop (k+1)):=by
 rw[h,zaY hx];conv=>lhs;unfold za0
 rw[if_neg (by omega)]
theorem firstNZ_at {ns:List Int} {k:Nat} {x:Int} (hx:ns[k]?=some x) (h:za0 ns=za0 (ns.drop k)) (hz:x≠0):za0 ns=x:=by
 rw[h,zaY hx];unfold za0;rw[if_pos hz]
theorem cmpLs_nil {a b:List Lbl} {k:Nat} (h1:a.length<=k) (h2:b.length<=k) (_h:k<=a.length):zw (a.drop k) (b.drop k)=0:=by
 rw[d8 h1,d8 h2];rfl
theorem cmpLs_nil_l {a b:List Lbl} {k:Nat} (h1:a.length<=k) (h2:k<b.length):zw (a.drop k) (b.drop k)= -1:=by
 obtain ⟨y,hy⟩:=zj b k h2;rw[d8 h1,zaY hy];rfl
theorem cmpLs_nil_r {a b:List Lbl} {k:Nat} (h1:k<a.length) (h2:b.length<=k):zw (a.drop k) (b.drop k)=1:=by
 obtain ⟨y,hy⟩:=zj a k h1;rw[d8 h2,zaY hy];rfl
def zcs (ls:List Lbl):Bool:=(ls.take 30).all (λx=>decide (x.n.size<=200)&&decide (x.v.size<=200))&&decide (ls.length<=20)
theorem all_take_snoc {α:Type} {f:α->Bool} {xs:List α} {k:Nat} {x:α} (hx:xs[k]?=some x) (h:(xs.take k).all f=true) (hf:f x=true):(xs.take (k+1)).all f=true:=by
 rw[zU hx,List.all_append,h];simp[hf]
theorem all_take_bad {α:Type} {f:α->Bool} {xs:List α} {k n:Nat} {x:α} (hx:xs[k]?=some x) (hk:k<n) (hf:f x=false):(xs.take n).all f=false:=by
 rw[vH];refine⟨x,?_,by simp[hf]⟩;have:(xs.take n)[k]?=some x:=by rw[j8,if_pos hk];exact hx
 exact d4 this
theorem all_take_le {α:Type} {f:α->Bool} {xs:List α} {k n:Nat} (h:(xs.take k).all f=true) (hk:xs.length<=k\/n<=k):(xs.take n).all f=true:=by
 rw[dK] at h ⊢;intro x hx;refine h x ?_;rcases hk with hk | hk
 · rw[dE hk];exact uH hx
 have:xs.take n=(xs.take k).take n:=by rw[vK,vW hk]
 rw[this] at hx;exact uH hx
theorem zaw {α:Type} {xs:List α} {k:Nat} {x:α} (h:xs[k]?=some x):x∈xs:=d4 h
theorem zb9 {α:Type} [DecidableEq α] {a b:List α} (h:a.length≠b.length):decide (a=b)=false:=by
 rw[decide_eq_false];rintro rfl;exact h rfl
theorem same_ne_at {α:Type} [DecidableEq α] {a b:List α} {k:Nat} {x y:α} (hx:a[k]?=some x) (hy:b[k]?=some y) (h:x≠y):decide (a=b)=false:=by
 rw[decide_eq_false];rintro rfl;rw[hx] at hy;cases hy;exact h rfl
theorem zdS {α:Type} [DecidableEq α] {a b:List α} {k:Nat} (hl:a.length=b.length) (hk:a.length<=k) (h:a.take k=b.take k):decide (a=b)=true:=by
 rw[decide_eq_true];rwa [dE hk,dE (by omega)] at h
theorem same_snoc {α:Type} {a b:List α} {k:Nat} {x y:α} (hx:a[k]?=some x) (hy:b[k]?=some y) (h:a.take k=b.take k) (he:x=y):a.take (k+1)=b.take (k+1):=by rw[zU hx,zU hy,h,he]
theorem lightL_bad {xs:List Lbl} {k:Nat} {x:Lbl} (hx:xs[k]?=some x) (hk:k<30) (h:200<x.n.size\/200<x.v.size):zcs xs=false:=by
 unfold zcs;rw[all_take_bad hx hk]
 · rfl
 rw[wO,decide_eq_false_iff_not,decide_eq_false_iff_not];omega
theorem lightL_end {xs:List Lbl} {k:Nat} (h:(xs.take k).all (λx=>decide (x.n.size<=200)&&decide (x.v.size<=200))=true) (hk:xs.length<=k\/30<=k):zcs xs=decide (xs.length<=20):=by
 unfold zcs;rw[all_take_le h hk,uY]
theorem lightL_len {ls:List Lbl} (h:zcs ls=true):ls.length<=20:=by
 unfold zcs at h;simp only[c8,decide_eq_true_eq] at h;exact h.2
def hd (ll:LLs) (k:Nat):Option RowD:=(ll[k]?).bind List.head?
theorem or2_neg {a b:Int}:or2 (-a) (-b)= - or2 a b:=by unfold or2;split<;>split<;>omega
theorem cmpI_neg (a b:Int):cmpI b a= - cmpI a b:=by unfold cmpI;split<;>split<;>(try split)<;>omega
theorem cmpLbl_neg (a b:Lbl):zz b a= - zz a b:=by unfold zz;rw[zeF a.n,zeF a.v,or2_neg]
theorem zd5:∀ a b:List Lbl,zw b a= - zw a b
 | [],[]=>rfl
 | [],_::_=>rfl
 | _::_,[]=>rfl
 | a::r,b::s=>by
  unfold zw;rw[cmpLbl_neg a b,zd5 r s];split<;>split<;>omega
theorem cmpRow_neg (o:Int) (a b:RowD):zi o b a= - zi o a b:=by
 unfold zi;rw[zd5 a.ls b.ls];split
 · rw[cmpI_neg a.v b.v,or2_neg]
 split
 · rw[cmpI_neg b.v a.v,or2_neg]
 rfl
structure Tr (c:Int) (d:Int) (e:Int):Prop where
 le:c<=0->d<=0->e<=0
 lt1:c<0->d<=0->e<0
 lt2:c<=0->d<0->e<0
 e1:c=0->e=d
 e2:d=0->e=c
theorem cmpS_tr (a b c:ByteArray):Tr (cmpS a b) (cmpS b c) (cmpS a c):=by
 have n1:=zeF a b;have n2:=zeF b c;have t:=cmpS_trans a b c;refine⟨t,λh1 h2=>?_,λh1 h2=>?_,λh=>?_,λh=>?_⟩
 · have:=t (by omega) h2;rcases Int.lt_or_eq_of_le this with h | h
   · exact h
   rw[zcD] at h;subst h;omega
 · have:=t h1 (by omega);rcases Int.lt_or_eq_of_le this with h | h
   · exact h
   rw[zcD] at h;subst h;omega
 · rw[zcD] at h;rw[h]
 rw[zcD] at h;rw[h]
theorem cmpI_tr (a b c:Int):Tr (cmpI a b) (cmpI b c) (cmpI a c):=by
 unfold cmpI;refine⟨?_,?_,?_,?_,?_⟩<;>(repeat' split)<;>omega
theorem or2_tr {a b c d e f:Int} (h:Tr a b c) (h':Tr d e f):Tr (or2 a d) (or2 b e) (or2 c f):=by
 obtain ⟨h1,h2,h3,h4,h5⟩:=h;obtain ⟨k1,k2,k3,k4,k5⟩:=h';unfold or2;by_cases ha:a=0
 · have hc:=h4 ha;subst hc;rw[if_neg (by omega)];by_cases hb:c=0
   · rw[if_neg (by omega),if_neg (by omega)];exact⟨k1,k2,k3,k4,k5⟩
   rw[if_pos hb,if_pos hb];exact⟨λ_ h=>h,λ_ h=>by omega,λ_ h=>h,λ_=>rfl,λh=>by omega⟩
 by_cases hb:b=0
 · have hc:=h5 hb;subst hc;rw[if_pos ha,if_neg (by omega),if_pos ha];exact⟨λh _=>h,λh _=>h,λh _=>by omega,λh=>by omega,λ_=>rfl⟩
 rw[if_pos ha,if_pos hb];have:a<=0->b<=0->c<0:=λp q=>h2 (by omega) q
 refine⟨λp q=>?_,λp q=>?_,λp q=>?_,λh=>by omega,λh=>by omega⟩
 · rw[if_pos (by have:=this p q;omega)];exact h1 p q
 · have:=this (by omega) q;rw[if_pos (by omega)];exact this
 have:=this p (by omega);rw[if_pos (by omega)];exact this
theorem cmpLbl_tr (a b c:Lbl):Tr (zz a b) (zz b c) (zz a c):=or2_tr (cmpS_tr _ _ _) (cmpS_tr _ _ _)
theorem Tr.zero:Tr 0 0 0:=⟨λh _=>h,λh _=>h,λ_ h=>h,λ_=>rfl,λ_=>rfl⟩
theorem zd4:∀ a b c:List Lbl,Tr (zw a b) (zw b c) (zw a c)
 | [],[],[]=>Tr.zero
 | [],[],_::_=>by constructor<;>(intros;simp_all [zw])
 | [],_::_,[]=>by constructor<;>(intros;simp_all [zw])
 | _::_,[],[]=>by constructor<;>(intros;simp_all [zw])
 | [],_::_,_::_=>by
  constructor<;>intros<;>simp_all [zw]
 | _::_,[],_::_=>by constructor<;>(intros;simp_all [zw])
 | _::_,_::_,[]=>by constructor<;>(intros;simp_all [zw])
 | a::r,b::s,c::t=>by
  have h:=cmpLbl_tr a b c;have ih:=zd4 r s t;have e:∀ x y:Lbl,∀ p q:List Lbl,zw (x::p) (y::q)=or2 (zz x y) (zw p q):=by
   intro x y p q
   conv=>lhs;unfold zw
   rfl
  rw[e,e,e];exact or2_tr h ih
theorem cmpRow_tr (o:Int) (a b c:RowD):Tr (zi o a b) (zi o b c) (zi o a c):=by
 unfold zi;split
 · exact or2_tr (cmpI_tr _ _ _) (zd4 _ _ _)
 split
 · have:=cmpI_tr c.v b.v a.v;refine or2_tr ⟨λh1 h2=>this.le h2 h1,λh1 h2=>this.lt2 h2 h1,λh1 h2=>this.lt1 h2 h1,this.e2,this.e1⟩ (zd4 _ _ _)
 exact zd4 _ _ _
def zJ (r:Int):Int:=
 if r<0\/r=65533 then 0 else if (97<=r/\r<=122)\/(65<=r/\r<=90)\/r=95\/128<=r then 1 else if 48<=r/\r<=57 then 2 else if r=32\/r=9\/r=10 then 3 else 4
abbrev dR (n:Int):D:=.v (.int .i32 n)
def zds:Nat->List Int->Bool
 | n,[]=>decide (1<=n)&&decide (n<=30)
 | n,r::rs=>if zJ r≠1/\(zJ r≠2\/n=0) then false else zds (n+1) rs
def zbu (s:ByteArray):Bool:=zds 0 (zS s)
theorem nameR_bad {n:Nat} {r:Int} {rs:List Int} (h:zJ r≠1/\(zJ r≠2\/n=0)):zds n (r::rs)=false:=by unfold zds;rw[if_pos h]
theorem nameR_next {n:Nat} {r:Int} {rs:List Int} (h:¬(zJ r≠1/\(zJ r≠2\/n=0))):zds n (r::rs)=zds (n+1) rs:=by
 show (if zJ r≠1/\(zJ r≠2\/n=0) then false else zds (n+1) rs)=_;rw[if_neg h]
def zdP (rs:List Int):Bool:=rs.all λr=>decide (zJ r=1\/zJ r=2)
theorem wordR_cons {r:Int} {rs:List Int}:zdP (r::rs)=(decide (zJ r=1\/zJ r=2)&&zdP rs):=rfl
theorem nameR_word:∀ (rs:List Int) (n:Nat),1<=n->zds n rs=(zdP rs&&decide (n+rs.length<=30))
 | [],n,h=>by simp[zds,zdP,h]
 | r::rs,n,h=>by
  by_cases hr:zJ r=1\/zJ r=2
  · rw[nameR_next (by omega),nameR_word rs (n+1) (by omega),wordR_cons,decide_eq_true hr,uY];congr 1;rw[decide_eq_decide,dM];omega
  rw[nameR_bad (by omega),wordR_cons,decide_eq_false hr];rfl
theorem zcb (rs:List Int):zds 0 rs=(decide (1<=rs.length)&&decide (rs.length<=30)&&decide (zJ (rs.getD 0 0)=1)&&zdP rs):=by
 cases rs with
 | nil=>simp[zds]
 | cons r rs=>
  by_cases hr:zJ r=1
  · rw[nameR_next (by omega),nameR_word rs 1 (by omega),wordR_cons,decide_eq_true (show zJ r=1\/zJ r=2 from .inl hr),uY,Bool.and_comm (zdP rs)];have e1:decide (zJ ((r::rs).getD 0 0)=1)=true:=decide_eq_true hr;rw[e1,Bool.and_true];congr 1;rw[wP];simp[Nat.add_comm]
  rw[nameR_bad (by omega)];have e1:decide (zJ ((r::rs).getD 0 0)=1)=false:=decide_eq_false hr;rw[e1,Bool.and_false];rfl
theorem wordR_take {rs:List Int} {k:Nat} {x:Int} (hx:rs[k]?=some x) (h:zdP (rs.take k)=true) (hk:zJ x=1\/zJ x=2):zdP (rs.take (k+1))=true:=by
 unfold zdP at*;exact all_take_snoc hx h (by simpa using hk)
theorem wordR_bad {rs:List Int} {k:Nat} {x:Int} (hx:rs[k]?=some x) (hk:¬(zJ x=1\/zJ x=2)):zdP rs=false:=by
 unfold zdP;rw[vH];exact⟨x,d4 hx,by simpa using hk⟩
section
variable {α:Type} {c:α->α->Int}
structure Cmp (c:α->α->Int):Prop where
 neg:∀ a b,c b a= - c a b
 tr:∀ a b d,Tr (c a b) (c b d) (c a d)
theorem Cmp.self (h:Cmp c) (a:α):c a a=0:=by have:=h.neg a a;omega
def Srt (c:α->α->Int) (l:List α):Prop:=l.Pairwise (λa b=>c a b<=0)
def eqv (c:α->α->Int) (k x:α):Bool:=decide (c k x=0)
structure Stab (c:α->α->Int) (l r:List α):Prop where
 srt:Srt c r
 same:∀ k,r.filter (eqv c k)=l.filter (eqv c k)
theorem zdA (h:Cmp c) (a:α):eqv c a a=true:=by unfold eqv;simp[h.self a]
theorem mW (h:Cmp c):∀ a b:List α,Srt c a->Srt c b->(∀ k,a.filter (eqv c k)=b.filter (eqv c k))->a=b
 | [],[],_,_,_=>rfl
 | [],y::b,_,_,hs=>by
  have:=hs y;rw[List.filter_cons_of_pos (zdA h y)] at this;cases this
 | x::a,[],_,_,hs=>by
  have:=hs x;rw[List.filter_cons_of_pos (zdA h x)] at this;cases this
 | x::a,y::b,ha,hb,hs=>by
  have hx:x∈y::b:=by
   have:x∈(y::b).filter (eqv c x):=(by rw[<-hs x,List.filter_cons_of_pos (zdA h x)];exact c6);exact(jZ.1 this).1
  have hy:y∈x::a:=by
   have:y∈(x::a).filter (eqv c y):=(by rw[hs y,List.filter_cons_of_pos (zdA h y)];exact c6);exact(jZ.1 this).1
  have h1:c y x<=0:=by
   rcases dO.1 hx with e | e
   · rw[e,h.self];exact vC _
   exact(dS.1 hb).1 x e
  have h2:c x y<=0:=by
   rcases dO.1 hy with e | e
   · rw[e,h.self];exact vC _
   exact(dS.1 ha).1 y e
  have h3:c x y=0:=by have:=h.neg x y;omega
  have e1:eqv c x y=true:=by unfold eqv;simp[h3]
  have:=hs x;rw[List.filter_cons_of_pos (zdA h x),List.filter_cons_of_pos e1] at this;injection this with hxy _;subst hxy;congr 1;refine mW h a b (dS.1 ha).2 (dS.1 hb).2 (λk=>?_);have:=hs k;simp only[List.filter_cons] at this;split at this
  · injection this
  exact this
theorem Stab.eq (h:Cmp c) {l a b:List α} (ha:Stab c l a) (hb:Stab c l b):a=b:=mW h a b ha.srt hb.srt (λk=>(ha.same k).trans (hb.same k).symm)
theorem Stab.mem (h:Cmp c) {l a:List α} (ha:Stab c l a) (x:α):x∈a↔x∈l:=by
 have:=ha.same x;constructor
 · intro hx;have:x∈l.filter (eqv c x):=(by rw[<-this];exact jZ.2 ⟨hx,zdA h x⟩);exact(jZ.1 this).1
 intro hx;have:x∈a.filter (eqv c x):=by rw[this];exact jZ.2 ⟨hx,zdA h x⟩
 exact(jZ.1 this).1
def insB (c:α->α->Int) (x:α):List α->List α
 | []=>[x]
 | y::r=>if c x y<0 then y::insB c x r else x::y::r
def ins (c:α->α->Int) (x:α) (l:List α):List α:=(insB c x l.reverse).reverse
theorem ins_nil (x:α):ins c x []=[x]:=rfl
theorem ins_lt {x y:α} {l:List α} (h:c x y<0):ins c x (l++[y])=ins c x l++[y]:=by
 unfold ins;rw[List.reverse_append];simp[insB,h]
theorem ins_ge {x y:α} {l:List α} (h:¬c x y<0):ins c x (l++[y])=l++[y,x]:=by
 unfold ins;rw[List.reverse_append];simp[insB,h]
theorem insB_len (x:α):∀ l:List α,(insB c x l).length=l.length+1
 | []=>rfl
 | y::r=>by unfold insB;split<;>simp[insB_len x r]
theorem ins_len (x:α) (l:List α):(ins c x l).length=l.length+1:=by unfold ins;simp[insB_len]
theorem ins_stab (h:Cmp c) (x:α):∀ (n:Nat) (l:List α),l.length=n->Srt c l->Srt c (ins c x l)/\(∀ k,(ins c x l).filter (eqv c k)=(l++[x]).filter (eqv c k))/\∀ z∈ins c x l,z=x\/z∈l:=by
 intro n
 induction n with
 | zero=>
  intro l hl _;have:l=[]:=dJ hl;subst this;exact⟨by simp[Srt,ins_nil],λk=>rfl,λz hz=>by simp[ins_nil] at hz;exact .inl hz⟩
 | succ n ih=>
  intro l hl hs;obtain ⟨l,y,rfl⟩:∃ q y,l=q++[y]:=by
   have hne:l≠[]:=(by intro e;rw[e] at hl;simp at hl);exact⟨l.dropLast,l.getLast hne,(List.dropLast_concat_getLast hne).symm⟩
  have hq:=jG.1 hs;by_cases hc:c x y<0
  · obtain ⟨i1,i2,i3⟩:=ih l (by simpa using hl) hq.1;rw[ins_lt hc];refine⟨jG.2 ⟨i1,by simp,λa ha b hb=>?_⟩,λk=>?_,λz hz=>?_⟩
    · simp at hb;subst hb;rcases i3 a ha with rfl | ha'
      · omega
      exact hq.2.2 a ha' b (by simp)
    · rw[List.filter_append,i2 k];simp only[List.filter_append,cY];congr 1;by_cases hx:eqv c k x=true
      · have hy:eqv c k y=false:=by
         unfold eqv at hx ⊢;simp only[decide_eq_true_eq,decide_eq_false_iff_not] at hx ⊢;intro hy;have e1:=(h.tr k x y).e1 hx;have e2:c k y=0:=hy;omega
        simp[hx,hy]
      simp[hx]
    rcases jK.1 hz with hz | hz
    · rcases i3 z hz with e | e
      · exact .inl e
      exact .inr (uL _ e)
    exact .inr (uJ _ hz)
  rw[ins_ge hc];refine⟨?_,λk=>by simp,λz hz=>by simp at hz ⊢;rcases hz with h | h | h<;>simp[h]⟩;have hyx:c y x<=0:=by have:=h.neg x y;omega
  rw[show l++[y,x]=(l++[y])++[x] by simp];refine jG.2 ⟨hs,by simp,λa ha b hb=>?_⟩;simp at hb;subst hb;rcases jK.1 ha with ha | ha
  · exact(h.tr a y b).le (hq.2.2 a ha y (by simp)) hyx
  simp at ha;subst ha;exact hyx
def zx (c:α->α->Int) (l:List α):List α:=l.foldl (λr x=>ins c x r) []
theorem isort_snoc (l:List α) (x:α):zx c (l++[x])=ins c x (zx c l):=by unfold zx;rw[uZ];rfl
theorem zd0:∀ (n:Nat) (l:List α),l.length=n->(zx c l).length=n
 | 0,l,h=>by rw[dJ h];rfl
 | n+1,l,h=>by
  have hne:l≠[]:=by intro e;rw[e] at h;simp at h
  rw[<-List.dropLast_concat_getLast hne,isort_snoc,ins_len,zd0 n _ (by simp[h])]
theorem zap (h:Cmp c):∀ (n:Nat) (l:List α),l.length=n->Stab c l (zx c l)
 | 0,l,hl=>by rw[dJ hl];exact⟨by simp[Srt,zx],λ_=>rfl⟩
 | n+1,l,hl=>by
  have hne:l≠[]:=by intro e;rw[e] at hl;simp at hl
  have ih:=zap h n l.dropLast (by simp[hl]);have hi:=ins_stab h (l.getLast hne) _ (zx c l.dropLast) rfl ih.srt
  conv=>arg 2;rw[<-List.dropLast_concat_getLast hne]
  conv=>arg 3;rw[<-List.dropLast_concat_getLast hne]
  rw[isort_snoc];refine⟨hi.1,λk=>?_⟩;rw[hi.2.1 k,List.filter_append,List.filter_append,ih.same k]
def bub (c:α->α->Int) (a:Nat):Nat->List α->List α
 | 0,L=>L
 | j+1,L=>if a<j+1 then match L[j+1]?,L[j]? with
  | some x,some y=>if c x y<0 then bub c a j ((L.set (j+1) y).set j x) else L
  | _,_=>L
 else L
theorem bub_lt {a j:Nat} {L:List α} {x y:α} (h:a<j+1) (hx:L[j+1]?=some x) (hy:L[j]?=some y) (hc:c x y<0):bub c a (j+1) L=bub c a j ((L.set (j+1) y).set j x):=by
 conv=>lhs;unfold bub
 rw[if_pos h,hx,hy];simp only;rw[if_pos hc]
theorem bub_ge {a j:Nat} {L:List α} {x y:α} (hx:L[j+1]?=some x) (hy:L[j]?=some y) (hc:¬c x y<0):bub c a (j+1) L=L:=by
 unfold bub;split
 · rw[hx,hy];simp only;rw[if_neg hc]
 rfl
theorem bub_lt' {a j:Nat} {L:List α} {x y:α} (h:a<j) (hx:L[j]?=some x) (hy:L[j-1]?=some y) (hc:c x y<0):bub c a j L=bub c a (j-1) ((L.set j y).set (j-1) x):=by
 obtain ⟨m,rfl⟩:∃ m,j=m+1:=⟨j-1,by omega⟩;exact bub_lt h hx hy hc
theorem bub_ge' {a j:Nat} {L:List α} {x y:α} (hx:L[j]?=some x) (hy:L[j-1]?=some y) (hc:¬c x y<0):bub c a j L=L:=by
 cases j with
 | zero=>rfl
 | succ j=>exact bub_ge hx hy hc
theorem bub_end {a j:Nat} {L:List α} (h:j<=a):bub c a j L=L:=by
 cases j with
 | zero=>rfl
 | succ j=>unfold bub;rw[if_neg (by omega)]
theorem set_swap {A R:List α} {x y:α}:((A++y::x::R).set (A.length+1) y).set A.length x=A++x::y::R:=by
 rw[List.set_append_right _ _ (by omega),List.set_append_right _ _ (by omega)];simp
theorem bub_ins {A R:List α} {x:α}:∀ (n:Nat) (P:List α),P.length=n->bub c A.length (A.length+n) (A++P++x::R)=A++ins c x P++R:=by
 intro n
 induction n generalizing R with
 | zero=>intro P hP;rw[dJ hP,bub_end (by omega),ins_nil];simp
 | succ n ih=>
  intro P hP;obtain ⟨P,y,rfl⟩:∃ q y,P=q++[y]:=by
   have hne:P≠[]:=(by intro e;rw[e] at hP;simp at hP);exact⟨P.dropLast,P.getLast hne,(List.dropLast_concat_getLast hne).symm⟩
  have hPn:P.length=n:=by simpa using hP
  have e:A++(P++[y])++x::R=(A++P)++y::x::R:=by simp
  have hx:((A++P)++y::x::R)[A.length+n+1]?=some x:=by rw[jH (by simp;omega)];simp[hPn]
  have hy:((A++P)++y::x::R)[A.length+n]?=some y:=by rw[jH (by simp;omega)];simp[hPn]
  rw[e,show A.length+(n+1)=A.length+n+1 by omega];by_cases hc:c x y<0
  · rw[bub_lt (by omega) hx hy hc,ins_lt hc];have:=set_swap (A:=A++P) (R:=R) (x:=x) (y:=y);rw[cX,hPn] at this;rw[this];have:=ih (R:=y::R) P hPn;rw[cY A P] at this ⊢;rw[this];simp
  rw[bub_ge hx hy hc,ins_ge hc];simp
def isrt (c:α->α->Int) (a b:Nat):Nat->Nat->List α->List α
 | 0,_,L=>L
 | n+1,i,L=>if i<b then isrt c a b n (i+1) (bub c a i L) else L
theorem za8 {a b n i:Nat} {L:List α} (h:i<b):isrt c a b (n+1) i L=isrt c a b n (i+1) (bub c a i L):=by
 conv=>lhs;unfold isrt
 rw[if_pos h]
theorem zaZ {a b n i:Nat} {L:List α} (h:b<=i):isrt c a b n i L=L:=by
 cases n with
 | zero=>rfl
 | succ n=>unfold isrt;rw[if_neg (by omega)]
theorem isrt_isort {A R:List α}:∀ (n:Nat) (S T:List α),T.length=n->isrt c A.length (A.length+S.length+n) n (A.length+S.length) (A++zx c S++T++R)=A++zx c (S++T)++R:=by
 intro n
 induction n with
 | zero=>intro S T hT;rw[dJ hT];simp[isrt]
 | succ n ih=>
  intro S T hT;cases T with
  | nil=>simp at hT
  | cons x T=>
   have hTn:T.length=n:=(by simpa using hT);rw[za8 (by omega)];have hb:=bub_ins (c:=c) (A:=A) (R:=T++R) (x:=x) S.length (zx c S) (zd0 _ _ rfl);rw[show A++zx c S++(x::T)++R=A++zx c S++x::(T++R) by simp,hb];have:=ih (S++[x]) T hTn;rw[isort_snoc,cX,dA] at this;rw[show A.length+S.length+(n+1)=A.length+(S.length+1)+n by omega,show A.length+S.length+1=A.length+(S.length+1) by omega];rw[show A++ins c x (zx c S)++(T++R)=A++ins c x (zx c S)++T++R by simp,this];simp
theorem isrt_all (l:List α):isrt c 0 l.length l.length 1 l=zx c l:=by
 cases l with
 | nil=>rfl
 | cons x r=>
  have:=isrt_isort (c:=c) (A:=[]) (R:=[]) r.length [x] r rfl;simp only[uO,d6,dA,d9,j5] at this;have e:zx c [x]=[x]:=rfl;rw[e] at this;have h2:isrt c 0 (x::r).length (x::r).length 1 (x::r)=isrt c 0 (1+r.length) r.length 1 ([x]++r):=by
   rw[dM,Nat.add_comm];cases hr:r.length with
   | zero=>rw[zaZ (by omega),zaZ (by omega)];rfl
   | succ n=>
    have more:∀ (k i:Nat) (L:List α),1+(n+1)<=i+k->isrt c 0 (1+(n+1)) (k+1) i L=isrt c 0 (1+(n+1)) k i L:=by
     intro k
     induction k with
     | zero=>intro i L hk;rw[zaZ (by omega),zaZ (by omega)]
     | succ k ih=>
      intro i L hk;by_cases hi:i<1+(n+1)
      · rw[za8 hi,za8 hi,ih (i+1) _ (by omega)]
      rw[zaZ (by omega),zaZ (by omega)]
    have:=more (n+1) 1 (x::r) (by omega);have e1:1+(n+1)=n+1+1:=(by omega);rw[e1] at this ⊢;exact this
  rw[h2,this];rfl
theorem cmpLbl_cmp:Cmp zz:=⟨λa b=>cmpLbl_neg a b,λa b d=>cmpLbl_tr a b d⟩
end
end Lp
namespace Lp
open Go
def okL (x:Lbl):Bool:=zbu x.n&&(!decide (x.v=ByteArray.empty)&&decide (x.v.size<=60))
def zcR:Option ByteArray->List Lbl->Bool
 | _,[]=>true
 | p,x::r=>okL x&&(!decide (p=some x.n)&&zcR (some x.n) r)
def zeT (o:List Lbl):Nat->Option ByteArray
 | 0=>none
 | k+1=>(o[k]?).map (·.n)
def zbX (o:List Lbl) (k:Nat):Bool:=zcR (zeT o k) (o.drop k)
def zeh (o:List Lbl):Bool:=zbX o 0
def zas (l:List Lbl):Bool:=decide (l.length<=8)&&zeh (zx zz l)
def zY (l:List Lbl):List Lbl:=bif zas l then zx zz l else []
def zbI (l:List Lbl):Int:=bif zas l then 0 else 1
theorem zey {x:Lbl} (h:zbu x.n=false):okL x=false:=by simp[okL,h]
theorem zex {x:Lbl} (h:x.v=ByteArray.empty):okL x=false:=by simp[okL,h]
theorem zew {x:Lbl} (h:(60:Int)<((x.v.size:Nat):Int)):okL x=false:=by
 have:¬x.v.size<=60:=by omega
 simp[okL,this]
theorem okL_t {x:Lbl} (h1:zbu x.n=true) (h2:¬x.v=ByteArray.empty) (h3:¬(60:Int)<((x.v.size:Nat):Int)):okL x=true:=by
 have:x.v.size<=60:=by omega
 simp[okL,h1,h2,this]
theorem zdV {o:List Lbl} {k:Nat} {y:Lbl} (h:(0:Int)<((k:Nat):Int)) (hy:o[k-1]?=some y):zeT o k=some y.n:=by
 cases k with
 | zero=>simp at h
 | succ k=>simp at hy;simp[zeT,hy]
theorem prevN_zero {o:List Lbl} {k:Nat} (h:¬(0:Int)<((k:Nat):Int)):zeT o k=none:=by
 have:k=0:=by omega
 subst this;rfl
theorem zbv {α:Type} {o:List α} {k:Nat} {x:α} (h:o[k]?=some x):o.drop k=x::o.drop (k+1):=by
 obtain ⟨hk,e⟩:=cZ.1 h;rw[<-e];exact uS hk
theorem tidyAt_next {o:List Lbl} {k:Nat} {x:Lbl} (h:o[k]?=some x):zbX o k=(okL x&&(!decide (zeT o k=some x.n)&&zbX o (k+1))):=by
 unfold zbX;rw[zbv h];simp only[zcR,zeT,h,Option.map_some]
theorem tidyAt_end {o:List Lbl} {k:Nat} (h:o.length<=k):zbX o k=true:=by
 unfold zbX;rw[j7.2 h];rfl
section
variable {l:List Lbl} {k:Nat} {x:Lbl}
theorem tidy_ok (h:zas l=false):[]=zY l/\1=zbI l:=by simp[zY,zbI,h]
theorem tidy_long (h:(8:Int)<((l.length:Nat):Int)):[]=zY l/\1=zbI l:=tidy_ok (by
 have:¬l.length<=8:=by omega
 simp[zas,this])
theorem zaX (hk:zeh (zx zz l)=zbX (zx zz l) k) (hx:(zx zz l)[k]?=some x) (h:okL x=false):[]=zY l/\1=zbI l:=tidy_ok (by simp[zas,hk,tidyAt_next hx,h])
theorem tidy_bad2 (hk:zeh (zx zz l)=zbX (zx zz l) k) (hx:(zx zz l)[k]?=some x) {n:ByteArray} (h:zeT (zx zz l) k=some n) (hn:n=x.n):[]=zY l/\1=zbI l:=tidy_ok (by simp[zas,hk,tidyAt_next hx,h,hn])
theorem tidy_good (hk:zeh (zx zz l)=zbX (zx zz l) k) (hx:(zx zz l).length<=k) (h:l.length<=8):zx zz l=zY l/\0=zbI l:=by
 have:zas l=true:=by simp[zas,hk,tidyAt_end hx,h]
 simp[zY,zbI,this]
theorem tidy_step0 (hk:zeh (zx zz l)=zbX (zx zz l) k) (hx:(zx zz l)[k]?=some x) (h:okL x=true) (hp:zeT (zx zz l) k=none):zeh (zx zz l)=zbX (zx zz l) (k+1):=by
 rw[hk,tidyAt_next hx,h,hp];simp
theorem tidy_step (hk:zeh (zx zz l)=zbX (zx zz l) k) (hx:(zx zz l)[k]?=some x) (h:okL x=true) {n:ByteArray} (hp:zeT (zx zz l) k=some n) (hn:¬n=x.n):zeh (zx zz l)=zbX (zx zz l) (k+1):=by
 rw[hk,tidyAt_next hx,h,hp];simp[hn]
end
def hasN (ns:List ByteArray) (n:ByteArray):Bool:=ns.any (λm=>decide (m=n))
def zbl (l:List Lbl) (ns:List ByteArray) (w:Bool):List Lbl:=l.filter (λx=>hasN ns x.n==w)
def getL (l:List Lbl) (n:ByteArray):ByteArray:=((l.find? (λx=>decide (x.n=n))).map (·.v)).getD ByteArray.empty
def idxN (n:ByteArray):Nat->List ByteArray->Int
 | _,[]=> -1
 | k,m::r=>if n=m then(k:Int) else idxN n (k+1) r
theorem idxN_has (n:ByteArray):∀ (ns:List ByteArray) (k:Nat),decide (0<=idxN n k ns)=hasN ns n
 | [],k=>rfl
 | m::r,k=>by
  unfold idxN hasN;by_cases h:n=m
  · have h0:(0:Int)<=(k:Nat):=(by omega);simp[h,h0]
  have h':¬m=n:=λe=>h e.symm
  have:=idxN_has n r (k+1);unfold hasN at this;rw[if_neg h,this];simp[h']
theorem idxN_at {n m:ByteArray} {ns:List ByteArray} {k:Nat} (hm:ns[k]?=some m) (h:idxN n 0 ns=idxN n k (ns.drop k)) (e:n=m):((k:Nat):Int)=idxN n 0 ns:=by
 rw[h,zbv hm];unfold idxN;rw[if_pos e]
theorem idxN_next {n m:ByteArray} {ns:List ByteArray} {k:Nat} (hm:ns[k]?=some m) (h:idxN n 0 ns=idxN n k (ns.drop k)) (e:¬n=m):idxN n 0 ns=idxN n (k+1) (ns.drop (k+1)):=by
 rw[h,zbv hm];conv=>lhs;unfold idxN
 rw[if_neg e]
theorem idxN_end {n:ByteArray} {ns:List ByteArray} {k:Nat} (hk:ns.length<=k) (h:idxN n 0 ns=idxN n k (ns.drop k)): -1=idxN n 0 ns:=by
 rw[h,j7.2 hk];rfl
theorem getL_at {l:List Lbl} {n:ByteArray} {k:Nat} {x:Lbl} (hx:l[k]?=some x) (h:getL l n=getL (l.drop k) n) (e:x.n=n):x.v=getL l n:=by
 rw[h,zbv hx];unfold getL;rw[List.find?_cons_of_pos (by simp[e])];rfl
theorem getL_next {l:List Lbl} {n:ByteArray} {k:Nat} {x:Lbl} (hx:l[k]?=some x) (h:getL l n=getL (l.drop k) n) (e:¬x.n=n):getL l n=getL (l.drop (k+1)) n:=by
 rw[h,zbv hx];unfold getL;rw[List.find?_cons_of_neg (by simp[e])]
theorem getL_end {l:List Lbl} {n:ByteArray} {k:Nat} (hk:l.length<=k) (h:getL l n=getL (l.drop k) n):ByteArray.empty=getL l n:=by
 rw[h,j7.2 hk];rfl
theorem pickL_snoc {l:List Lbl} {ns:List ByteArray} {w:Bool} {k:Nat} {x:Lbl} (hx:l[k]?=some x) (h:(hasN ns x.n==w)=true):zbl (l.take (k+1)) ns w=zbl (l.take k) ns w++[x]:=by
 rw[zU hx];unfold zbl;rw[List.filter_append];simp[h]
theorem pickL_skip {l:List Lbl} {ns:List ByteArray} {w:Bool} {k:Nat} {x:Lbl} (hx:l[k]?=some x) (h:(hasN ns x.n==w)=false):zbl (l.take (k+1)) ns w=zbl (l.take k) ns w:=by
 rw[zU hx];unfold zbl;rw[List.filter_append];simp[h]
theorem pickL_len (l:List Lbl) (ns:List ByteArray) (w:Bool):(zbl l ns w).length<=l.length:=List.length_filter_le _ _
end Lp
namespace Lp
open Go
variable {s:ByteArray} {p:Nat}
def encR (x:Nat):List UInt8:=
 if x<=127 then [UInt8.ofNat (x % 256)]
 else if x<=2047 then [UInt8.ofNat (192+x / 64 % 256),UInt8.ofNat (128+x % 256 % 64)]
 else if x<55296\/(57343<x/\x<=65535) then [UInt8.ofNat (224+x / 4096 % 256),UInt8.ofNat (128+x / 64 % 256 % 64),UInt8.ofNat (128+x % 256 % 64)]
 else if 65535<x/\x<=1114111 then [UInt8.ofNat (240+x / 262144 % 256),UInt8.ofNat (128+x / 4096 % 256 % 64),UInt8.ofNat (128+x / 64 % 256 % 64),UInt8.ofNat (128+x % 256 % 64)]
 else [239,191,189]
theorem zeE (x:Nat):(encR x).length<=4:=by unfold encR;(repeat' split)<;>simp
def hasP (a b:ByteArray):Bool:=decide (b.size<=a.size)&&decide (a.extract 0 b.size=b)
def wide:ByteArray:=⟨#[239,191,189]⟩
def hexd:ByteArray:=⟨#[48,49,50,51,52,53,54,55,56,57,97,98,99,100,101,102]⟩
def hexB (n:Nat):UInt8:=hexd[n]?.getD 0
def zM (s:ByteArray) (p:Nat):Nat:=(s[p]?.getD 0).toNat
def zdW (s:ByteArray) (p:Nat):List UInt8:=
 if decR s p=34\/decR s p=92 then 92::encR (decR s p)
 else if decR s p=10 then [92,110]
 else if decR s p=65533/\hasP (s.extract p s.size) wide=false then [92,120,hexB (zM s p / 16),hexB (zM s p % 16)]
 else encR (decR s p)
def zab (s:ByteArray) (p:Nat):List UInt8:=if h:p<s.size then zdW s p++zab s (p+decW s p) else []
termination_by s.size-p
decreasing_by have:=zL s p;omega
theorem zaK (h:p<s.size):zab s p=zdW s p++zab s (p+decW s p):=by
 conv=>lhs;unfold zab
 rw[dif_pos h]
theorem zbf (h:s.size<=p):zab s p=[]:=by
 unfold zab;rw[dif_neg (by omega)]
def zaI (s:ByteArray):List UInt8:=34::(zab s 0++[34])
def zaJ (s:ByteArray):ByteArray:=⟨(zaI s).toArray⟩
def joinL (sep:ByteArray):List ByteArray->List UInt8
 | []=>[]
 | [x]=>x.data.toList
 | x::y::r=>x.data.toList++sep.data.toList++joinL sep (y::r)
def joinB (sep:ByteArray) (l:List ByteArray):ByteArray:=⟨(joinL sep l).toArray⟩
def partB (x:Lbl):ByteArray:=x.n++(⟨#[61]⟩:ByteArray)++zaJ x.v
def textB (l:List Lbl):ByteArray:=(⟨#[123]⟩:ByteArray)++joinB ⟨#[44]⟩ (l.map partB)++(⟨#[125]⟩:ByteArray)
theorem piece_1 (h:decR s p=34\/decR s p=92):zdW s p=[92]++encR (decR s p):=by unfold zdW;rw[if_pos h];rfl
theorem piece_2 (h:¬(decR s p=34\/decR s p=92)) (h2:decR s p=10):zdW s p=[92,110]:=by unfold zdW;rw[if_neg h,if_pos h2]
theorem piece_3 (h:¬(decR s p=34\/decR s p=92)) (h2:¬decR s p=10) (h3:decR s p=65533/\hasP (s.extract p s.size) wide=false):zdW s p=[92,120,hexB (zM s p / 16),hexB (zM s p % 16)]:=by unfold zdW;rw[if_neg h,if_neg h2,if_pos h3]
theorem piece_4 (h:¬(decR s p=34\/decR s p=92)) (h2:¬decR s p=10) (h3:¬(decR s p=65533/\hasP (s.extract p s.size) wide=false)):zdW s p=encR (decR s p):=by unfold zdW;rw[if_neg h,if_neg h2,if_neg h3]
theorem hexB_at {n:Nat} {u:UInt8} (h:hexd[n]?=some u):u=hexB n:=by unfold hexB;rw[h];rfl
theorem zN {u:UInt8} (h:s[p]?=some u):u.toNat=zM s p:=by unfold zM;rw[h];rfl
theorem len_toList (x:ByteArray):x.data.toList.length=x.size:=by simp
theorem cmpLs_self (a:List Lbl):zw a a=0:=by have:=zd5 a a;omega
theorem cmpLbl_eq {a b:Lbl}:zz a b=0↔a=b:=by
 constructor
 · intro h;unfold zz or2 at h;split at h
   · contradiction
   rename_i h1;have h1:cmpS a.n b.n=0:=(by omega);have e1:=(zcD _ _).1 h1;have e2:=(zcD _ _).1 h;obtain ⟨_,_⟩:=a;obtain ⟨_,_⟩:=b;simp at e1 e2;simp[e1,e2]
 rintro rfl;have:=cmpLbl_neg a a;omega
theorem zeG:∀ {a b:List Lbl},zw a b=0↔a=b
 | [],[]=>by simp[zw]
 | [],_::_=>by simp[zw]
 | _::_,[]=>by simp[zw]
 | a::r,b::s=>by
  unfold zw;split
  · rename_i h;constructor
    · intro h';contradiction
    intro h';cases h';exact absurd (cmpLbl_eq.2 rfl) h
  rename_i h;have h:zz a b=0:=by omega
  rw[zeG,cmpLbl_eq.1 h];simp
theorem tidyE_cases (l:List Lbl):(zbI l=0/\zas l=true/\zY l=zx zz l)\/(zbI l=1/\zY l=[]):=by
 unfold zY zbI;cases zas l<;>simp
theorem tidy_srt (l:List Lbl):Srt zz (zY l):=by
 rcases tidyE_cases l with ⟨_,_,h⟩ | ⟨_,h⟩<;>rw[h]
 · exact(zap cmpLbl_cmp _ l rfl).srt
 exact List.Pairwise.nil
theorem tidy_ok_len {l:List Lbl} (h:zas l=true):l.length<=8:=by unfold zas at h;simp at h;exact h.1
theorem tidy_ok_b {l:List Lbl} (h:zas l=true):zeh (zx zz l)=true:=by unfold zas at h;simp at h;exact h.2
end Lp
