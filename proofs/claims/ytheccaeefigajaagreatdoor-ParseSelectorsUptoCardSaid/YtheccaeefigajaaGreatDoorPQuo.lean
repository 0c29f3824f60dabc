import Derived.Lib.AppendStr
import Derived.Lib.UnsafeStr
import Derived.Test.YtheccaeefigajaaGreatDoorDG
set_option linter.unusedSimpArgs false
set_option linter.unusedVariables false
namespace Lp
open Go Go.RowKit
open Go.Lib (strCells strCells_eq byteCells byteCells_length run_append_own_string)
abbrev dU8 (b:UInt8):D:=.v (.int .u8 (b.toNat:Int))
theorem zc1 {n:Int} {m:Nat} (h:n=(m:Int)) (hm:m<256):D.v (.int .u8 n)=dU8 (UInt8.ofNat m):=by
 have:(UInt8.ofNat m).toNat=m:=by simp[UInt8.toNat_ofNat'];omega
 unfold dU8;rw[this,h]
theorem newRow_at {P:Program} {E:TypeId} {c:Array Value} {a:Addr} {w w1:World} (h:(newRow E c).run P w=.ok a w1):a=⟨w.heap.size,0,none⟩:=by
 simp[newRow] at h;exact h.1.symm
theorem append_moved_s {P:Program} {w w':World} {t u ty E n cap:Nat} {A:Option Addr} {s:ByteArray} {v':Value} {i:TypeInfo} (ht:P.underlying t=some (.slice E)) (hu:P.underlying u=some .string) (hi:P.info? E=some i) (hn:cap<n+s.size) (hm:n+s.size<=maxLen)
 (h:(Builtin.append_ #[t,u] ty #[.slice A n cap,.string s]).run P w=.ok v' w'):Ext w w'/\v'.ownBlock=some w.heap.size:=by
 simp[Builtin.append_,run_underlying ht,run_underlying hu,Go.sizeOf,typeInfo,hi,Builtin.lenOf,show ¬n+s.size<=cap by omega] at h;have fin:∀ {W:World} {k:Nat} {f:Addr->World->Result Value},Ext w W->W.heap.size=w.heap.size->(∀ a w1 v w2,f a w1=.ok v w2->w2=w1/\v.ownBlock=some a.block)->((Sem.run P (Builtin.firstCells i.size n (Value.slice A n cap)) W).andThen λa w'=>
  (Sem.run P (Builtin.firstCells i.size s.size (.string s)) w').andThen λa_1 w'=>
   (Sem.run P (zeroValue E) w').andThen λa_2 w'=>
    (Sem.run P (newRow E (a++(a_1++Builtin.zeroCells a_2.cells k))) w').andThen f)=.ok v' w'->Ext w w'/\v'.ownBlock=some w.heap.size:=by
  intro W k f hE hsz hf h;obtain ⟨a,w1,h1,h⟩:=zdt h;obtain ⟨a1,w2,h2,h⟩:=zdt h;obtain ⟨a2,w3,h3,h⟩:=zdt h;obtain ⟨a3,w4,h4,h⟩:=zdt h;have e1:=firstCells_same h1;have e2:w2=w1:=by simp[Builtin.firstCells] at h2;exact h2.2.symm
  have e3:=zero_same h3;have e4:=newRow_ext h4;have e5:=newRow_at h4;have e6:=hf _ _ _ _ h;subst e1;subst e2;subst e3;rw[e6.1];exact⟨hE.trans e4,by rw[e6.2,e5,hsz]⟩
 have hcond:¬(9223372036854775807<(n:Int)+(s.size:Int)/\i.bytes=0):=by
  rintro ⟨h1,_⟩;unfold maxLen at hm;omega
 rw[if_neg hcond] at h;split at h
 · obtain ⟨_,_,h,_⟩:=zdt h;obtain ⟨_,_,_,h⟩:=zdt h;cases h
 split at h
 · refine fin (W:=w) (k:=0) (f:=λa w'=>Result.ok (.slice (some a) (n+s.size) 0) w') wR rfl (λ_ _ _ _ h=>by cases h;exact⟨rfl,rfl⟩) ?_;simpa [Builtin.firstCells] using h
 refine fin (W:=w.drew) (k:=(Question.appendCap (n+s.size) cap E).cut (w.tape w.drawn (Question.appendCap (n+s.size) cap E))-(n+s.size)) (f:=λa w'=>Result.ok (.slice (some a) (n+s.size) ((Question.appendCap (n+s.size) cap E).cut (w.tape w.drawn (Question.appendCap (n+s.size) cap E)))) w') (Ext.drew w) rfl (λ_ _ _ _ h=>by cases h;exact⟨rfl,rfl⟩) ?_;simpa [Builtin.firstCells] using h
theorem append_inplace_s {P:Program} {w w':World} {t u ty E n cap:Nat} {A:Option Addr} {s:ByteArray} {v':Value} {i:TypeInfo} (ht:P.underlying t=some (.slice E)) (hu:P.underlying u=some .string) (hi:P.info? E=some i) (hn:n+s.size<=cap)
 (h:(Builtin.append_ #[t,u] ty #[.slice A n cap,.string s]).run P w=.ok v' w'):v'=.slice A (n+s.size) cap:=by
 simp[Builtin.append_,run_underlying ht,run_underlying hu,Go.sizeOf,typeInfo,hi,Builtin.lenOf,hn] at h;obtain ⟨a,w1,h1,h⟩:=zdt h;cases A with
 | none=>simp at h;exact h.1.symm
 | some ad=>
  simp at h;obtain ⟨_,_,_,h⟩:=zdt h;cases h;rfl
theorem strCells_get {s:ByteArray}:∀ u∈strCells s,u.oneCell'=true:=by
 intro u hu;rw[strCells_eq] at hu;simp only[byteCells,uD] at hu;obtain ⟨b,_,rfl⟩:=hu;rfl
theorem flat_one:∀ {us:List Value},(∀ u∈us,u.oneCell'=true)->us.flatMap vcs=us
 | [],_=>rfl
 | u::r,h=>by rw[uC,vcs_one (h u cW),flat_one (λx hx=>h x (c7 _ hx))];rfl
theorem repE_bytes {w:World} {F:Nat->Prop}:∀ l:List UInt8,RepE w F 1 (l.map dU8) (byteCells l)
 | []=>rfl
 | b::r=>⟨_,_,rfl,rfl,One.one rfl,rfl,repE_bytes r⟩
section
variable {P:Program} {ty:TypeId} {K:Kd} {H:List Hp}
theorem ef_append_s {t u:TypeId} {x y:Operand} {i:Nat} {v:Value} {T:TypeId} {bs:List UInt8} {s:ByteArray} (hx:opO K x=some v) (hm:nth H i=some (.sl v 1 T (bs.map dU8))) (hy:opS K y=some s) (ht:P.underlying t=some (.slice T)) (hu:P.underlying u=some .string)
 (hi':∃ i,P.info? T=some i/\i.zero=some (.int .u8 0)/\i.size=1/\i.bytes=1) (hlen:bs.length+s.size<=140737488355328):
 Ef P (.call { callee:=.builtin .append,args:=#[x,y],argTypes:=#[t,u] }) ty K H (λd H'=>∃ v',d=.ov v'/\H'=H.set i (.sl v' 1 T ((bs++s.data.toList).map dU8))):=
 ⟨λC ρ w F hk gd=>by
  obtain ⟨us,hus,hown⟩:=gd.h.ok _ (zaq hm);have hul:=hus.len;rw[cV] at hul;obtain ⟨i,q1,q2,q3,q4⟩:=hi';have hmx:us.length+s.size<=maxLen:=by unfold maxLen;omega
  obtain ⟨v',w',r1,r2,r3,_⟩:=run_append_own_string (P:=P) (w:=w) 0 t u ty T i ht hu q1 q2 q3 q4 v us.length _ hown.1 s hmx (by omega) (cX _);refine wS (v:=v') (w':=w') (by
   have e1:=hk.opO hx;have e2:=hk.opS hy;simp[execOp,zam,resolve,invoke,builtin,e1,e2,r1]) ?_
  obtain ⟨A,cp,ev,_⟩:=hown.sl.capOk;have hblk:v'.ownBlock=v.ownBlock\/v'.ownBlock=some w.heap.size:=by
   rw[ev] at r1;by_cases hin:us.length+s.size<=cp
   · left;rw[append_inplace_s ht hu q1 hin r1,ev];cases A<;>rfl
   right;exact(append_moved_s ht hu q1 (by omega) hmx r1).2
  have hone:∀ x∈strCells s,(vcs x).length=1:=λx hx=>by rw[vcs_one (strCells_get x hx)];rfl
  have hsz:(strCells s).length=s.size:=by rw[strCells_eq,byteCells_length];simp
  have how:Own vcs 1 T w' 0 v' (us++strCells s):=by
   refine⟨?_,λx hx=>?_⟩
   · rw[dA,hsz,List.flatMap_append,flat_one strCells_get];exact r2
   rcases jX.1 hx with hx | hx
   · exact hown.2 x hx
   exact hone x hx
  have:=gd.turn (h':=.sl v' 1 T ((bs++s.data.toList).map dU8)) hm (λc hc hn=>r3.block c hc (λe=>hn e.symm)) r3.size r3.os r3.tape r3.output (Dr.run r1) (λc e=>by
   rcases hblk with h3 | h3
   · exact .inl (by show v.ownBlock=_;rw[<-h3];exact e)
   have e':v'.ownBlock=some c:=e;rw[h3] at e';cases e';exact .inr (cU _)) (λkp=>⟨us++strCells s,by rw[uF,strCells_eq];exact(hus.keep kp).app (repE_bytes _),how⟩)
  exact⟨F,.ov v',_,⟨v',rfl,rfl⟩,⟨rfl,how.one⟩,this.1,this.2⟩⟩
theorem Good.lose {C:Ctx} {H:List Hp} {w w':World} {F:Nat->Prop} {i:Nat} {h:Hp} (g:Good C H w F) (hi:nth H i=some h)
 (hupd:∀ b,b<w.heap.size->¬h.blk b->w'.heap[b]?=w.heap[b]?) (hsz:w.heap.size<=w'.heap.size) (hos:w'.os=w.os) (htp:w'.tape=w.tape) (hout:w'.output=w.output) (hdr:Dr w w'):Good C (H.take i++H.drop (i+1)) w' F/\Keep w F w' F:=by
 have hmem:=zaq hi;have hp:=(perm_front hi);have gp:=(w9 hp).out _ _ _ g;have hap:=vP.1 gp.h.apart;have hk:Keep w F w' F:=⟨λ_ h=>h,λb hF hlt=>hupd b hlt (λe=>(g.h.mine b ⟨h,hmem,e⟩).2 hF)⟩;refine⟨⟨dY g.size hsz,hos.trans g.os,htp.trans g.tape,hout.trans g.output,Dr.trans g.drawn hdr,λb hb1 hn=>?_,g.fsub,g.fnew,λb hF=>jW (g.flt b hF) hsz,hap.2,λx hx=>?_,λb ⟨x,hx,e⟩=>gp.h.mine b ⟨x,c7 _ hx,e⟩⟩,hk⟩
 · rw[hupd b (jW hb1 g.size) (λe=>?_)]
   · exact g.frame b hb1 hn
   rcases (g.h.mine b ⟨h,hmem,e⟩).1 with h1 | h1
   · omega
   exact hn h1
 have hox:=gp.h.ok x (c7 _ hx);exact Hp.keep hox hk (λb hb1=>hupd b (Hp.lt hox hb1) (λe=>hap.1 x hx b e hb1))
theorem p_sliceData {x:Operand} {t:Array TypeId} {i z:Nat} {v:Value} {T:TypeId} {xs:List D} (hx:opO K x=some v) (hm:nth H i=some (.sl v z T xs)) (hn:0<xs.length):Pu P (.call { callee:=.builtin .unsafeSliceData,args:=#[x],argTypes:=t }) ty K H (.v (.pointer (some ⟨bl v,0,none⟩))):=
 ⟨λρ w F hk _ hH=>by
  obtain ⟨us,hus,hown⟩:=hH _ (zaq hm);have hul:=hus.len;obtain ⟨cap,r,e,_,_,hc,_⟩:=hown.form (by omega);refine wS (v:=.pointer (some ⟨bl v,0,none⟩)) (w':=w) ?_ ⟨rfl,rfl⟩;have e1:=hk.opO hx;rw[e] at e1;have hr:=Lib.run_unsafeSliceData_row (P:=P) (w:=w) t ty ⟨bl v,0,none⟩ us.length cap (by omega);simp[execOp,zam,resolve,invoke,builtin,e1,hr]⟩
theorem ef_unsafeString {x y:Operand} {t1 t2 i:Nat} {v:Value} {T:TypeId} {bs:List UInt8} {n:Int} (hx:opD K x=some (.v (.pointer (some ⟨bl v,0,none⟩)))) (hy:opD K y=some (.v (.int .i64 n))) (hn:n=(bs.length:Int)) (hm:nth H i=some (.sl v 1 T (bs.map dU8))) (h0:bs≠[])
 (hp:P.underlying t1=some (.pointer T)) (hc:P.cellsOf T=1):Ef P (.call { callee:=.builtin .unsafeString,args:=#[x,y],argTypes:=#[t1,t2] }) ty K H (λd H'=>d=.s ⟨bs.toArray⟩/\H'=H.take i++H.drop (i+1)):=
 ⟨λC ρ w F hk gd=>by
  obtain ⟨us,hus,hown⟩:=gd.h.ok _ (zaq hm);have hul:=hus.len;rw[cV] at hul;have hpos:0<bs.length:=dD.2 h0;obtain ⟨cap,r,e,_,hB,hc1,hc2,hc3⟩:=hown.form (by omega);have hmx:bs.length<=9223372036854775807:=by unfold maxLen at hc2;omega
  have hsh:w.shape? (bl v)=some (T,cap):=by
   unfold Box at hB;simp only[World.shape?,hB];simp only[List.size_toArray,hc3,Nat.mul_one]
  have hcell:∀ j x,bs[j]?=some x->w.cell? ⟨bl v,j,none⟩=some (.int .u8 x.toNat):=by
   intro j b hj;obtain ⟨u,h1,h2,_⟩:=hus.get (k:=j) (x:=dU8 b) (by rw[j0,hj];rfl);have:=hown.sl.at_ h1;have hof:of_ v=0:=(by rw[e];rfl);rw[hof,dX,Nat.mul_one] at this;have hu:u=.int .u8 (b.toNat:Int):=h2;subst hu;exact this.2 0 _ rfl
  have hrun:=Lib.run_unsafeString_row (P:=P) (w:=w) t1 t2 ty T hp hc (bl v) cap hsh bs h0 (by omega) hmx;subst hn;have e1:ev ρ x=_:=hk.op hx;have e2:ev ρ y=_:=hk.op hy;have hf:∀ k,k≠bl v->(w.freeze ⟨bl v,0,none⟩ bs.length).heap[k]?=w.heap[k]?:=by
   intro k hk';unfold World.freeze;split
   · rfl
   simp only[Array.getElem?_modify];rw[if_neg (λh=>hk' h.symm)]
  have hsz:(w.freeze ⟨bl v,0,none⟩ bs.length).heap.size=w.heap.size:=by
   unfold World.freeze;split<;>simp
  have hos:(w.freeze ⟨bl v,0,none⟩ bs.length).os=w.os/\(w.freeze ⟨bl v,0,none⟩ bs.length).tape=w.tape/\(w.freeze ⟨bl v,0,none⟩ bs.length).output=w.output:=by
   unfold World.freeze;split<;>exact⟨rfl,rfl,rfl⟩
  have:=gd.lose (w':=w.freeze ⟨bl v,0,none⟩ bs.length) hm (λb hb hn=>hf b (λe'=>hn (by subst e';show v.ownBlock=_;rw[e];rfl))) (Nat.le_of_eq hsz.symm) hos.1 hos.2.1 hos.2.2 (Dr.of (Nat.le_of_eq (freeze_drawn _ _ _).symm));refine wS (v:=.string ⟨bs.toArray⟩) (w':=w.freeze ⟨bl v,0,none⟩ bs.length) ?_ ⟨F,_,_,⟨rfl,rfl⟩,⟨rfl,?_⟩,this.1,this.2⟩
  · have:=hrun (λj x hj=>by rw[show (⟨bl v,0,none⟩:Addr).add j=⟨bl v,j,none⟩ by cases j<;>simp[Addr.add]];exact hcell j x hj);simp[execOp,zam,resolve,invoke,builtin,e1,e2,this]
  show bs.toArray.size<=maxLen;unfold maxLen;simp;omega⟩
theorem zcr {x:Operand} {t:TypeId} {s:ByteArray} (hx:opS K x=some s) (ht:∀ w,(underlying t).run P w=.ok .string w):Ef P (.range t x) ty K H (λd H'=>∃ g,d=.v (.pointer (some ⟨g,0,none⟩))/\H'=.it g s 0::H):=
 ⟨λC ρ w F hk gd=>by
  have e:=hk.opS hx;refine wS (v:=.pointer (some ⟨w.heap.size,0,none⟩)) (w':=w.alloc (.stringIter s 0)) (by simp[execOp,zam,e,Instr.range,ht]) ?_;have E:=Ext.alloc w (.stringIter s 0);have g':=gd.ext E;refine⟨F,_,_,⟨w.heap.size,rfl,rfl⟩,rfl,g'.more (heap_alloc_new w _) (λb hb=>?_),Keep.ext E⟩;cases hb;exact⟨gd.size,λhF=>by have:=gd.flt _ hF;omega,λhB=>by have:=zfA gd.h hB;omega⟩⟩
def decR (s:ByteArray) (p:Nat):Nat:=(Utf8.decode s p).1
def decW (s:ByteArray) (p:Nat):Nat:=(Utf8.decode s p).2
theorem zbv {x:Operand} {s:ByteArray} {g p i:Nat} (hx:opD K x=some (.v (.pointer (some ⟨g,0,none⟩)))) (hm:nth H i=some (.it g s p)) (hp:p<s.size):
 Ef P (.next x true) ty K H (λd H'=>d=.tup [.v (.bool true),.v (.int .i64 (p:Int)),.v (.int .i32 (decR s p:Int))]/\H'=H.set i (.it g s (p+decW s p))):=
 ⟨λC ρ w F hk gd=>by
  have e:ev ρ x=_:=hk.op hx;have hb:w.heap[g]?=some (.stringIter s p):=gd.h.ok _ (zaq hm);have hlt:=(d9.1 hb).1;refine wS (v:=.tuple #[.bool true,.int .i64 (p:Int),.int .i32 (decR s p:Int)]) (w':={ w with heap:=w.heap.setIfInBounds g (.stringIter s (p+decW s p)) }) ?_ ?_
  · simp[execOp,zam,e,Instr.next,getObj,setObj,Sem.run,hb,hp,decR,decW,goInt]
  have:=gd.turn (h':=.it g s (p+decW s p)) (w':={ w with heap:=w.heap.setIfInBounds g (.stringIter s (p+decW s p)) }) hm (λb _ hn=>by
   have:¬g=b:=hn;simp only[Array.getElem?_setIfInBounds];rw[if_neg this]) (by simp) rfl rfl rfl (Dr.of (cU _)) (λb hb=>.inl hb) (λ_=>by
   show _=_;simp only[Array.getElem?_setIfInBounds,if_true,hlt])
  exact⟨F,_,_,⟨rfl,rfl⟩,⟨_,rfl,_,_,rfl,rfl,_,_,rfl,rfl,_,_,rfl,rfl,rfl⟩,this.1,this.2⟩⟩
theorem zcj {x:Operand} {s:ByteArray} {g p i:Nat} (hx:opD K x=some (.v (.pointer (some ⟨g,0,none⟩)))) (hm:nth H i=some (.it g s p)) (hp:s.size<=p):Pu P (.next x true) ty K H (.tup [.v (.bool false)]):=
 ⟨λρ w F hk _ hH=>by
  have e:ev ρ x=_:=hk.op hx;have hb:w.heap[g]?=some (.stringIter s p):=hH _ (zaq hm);refine wS (v:=.tuple #[.bool false]) (w':=w) ?_ ⟨rfl,_,rfl,_,_,rfl,rfl,rfl⟩;simp[execOp,zam,e,Instr.next,getObj,Sem.run,hb,show ¬p<s.size by omega]⟩
theorem zz (s:ByteArray) (p:Nat):1<=decW s p:=by
 unfold decW Utf8.decode;simp only
 (repeat' split)<;>simp
theorem zZ (s:ByteArray) (p:Nat) (h:p<s.size):p+decW s p<=s.size:=by
 unfold decW Utf8.decode;simp only[cY,decide_eq_true_eq]
 (repeat' split)<;>simp<;>omega
def zaF (s:ByteArray) (p:Nat):List Int:=if h:p<s.size then(decR s p:Int)::zaF s (p+decW s p) else []
termination_by s.size-p
decreasing_by have:=zz s p;omega
theorem zan {s:ByteArray} {p:Nat} (h:p<s.size):zaF s p=(decR s p:Int)::zaF s (p+decW s p):=by
 conv=>lhs;unfold zaF
 rw[dif_pos h]
theorem zay {s:ByteArray} {p:Nat} (h:s.size<=p):zaF s p=[]:=by
 unfold zaF;rw[dif_neg (by omega)]
def zu (s:ByteArray):List Int:=zaF s 0
theorem runesAt_len (s:ByteArray):∀ (n p:Nat),s.size-p=n->(zaF s p).length<=s.size-p:=by
 intro n
 induction n using Nat.strongRecOn with
 | _ n ih=>
  intro p hp;rcases c8 p s.size with h | h
  · have h1:=zz s p;rw[zan h,dC];have:=ih (s.size-(p+decW s p)) (by omega) _ rfl;omega
  rw[zay h];simp
theorem zbN (s:ByteArray) (p:Nat):decR s p<1114112:=by
 unfold decR Utf8.decode;simp only[cY,decide_eq_true_eq];have hv:∀ c,Utf8.valid c=true->c<1114112:=by
  intro c;unfold Utf8.valid;simp;intros;omega
 (repeat' split)
 all_goals first
  | (simp only[Utf8.runeError];omega)
  | (simp only;omega)
  | (rename_i h;have:=hv _ h.2;simp only;omega)
end
end Lp
namespace Lp
open Go
abbrev dN (n:Nat):D:=.v (.int .i64 (n:Int))
structure RowD where
 ls:List Lbl
 v:Int
 deriving DecidableEq
abbrev LLs:=List (List RowD)
theorem all_take_snoc {α:Type} {f:α->Bool} {xs:List α} {k:Nat} {x:α} (hx:xs[k]?=some x) (h:(xs.take k).all f=true) (hf:f x=true):(xs.take (k+1)).all f=true:=by
 rw[zaT hx,List.all_append,h];simp[hf]
def hd (ll:LLs) (k:Nat):Option RowD:=(ll[k]?).bind List.head?
def zy (r:Int):Int:=
 if r<0\/r=65533 then 0 else if (97<=r/\r<=122)\/(65<=r/\r<=90)\/r=95\/128<=r then 1 else if 48<=r/\r<=57 then 2 else if r=32\/r=9\/r=10 then 3 else 4
abbrev dR (n:Int):D:=.v (.int .i32 n)
def zdH:Nat->List Int->Bool
 | n,[]=>decide (1<=n)&&decide (n<=30)
 | n,r::rs=>if zy r≠1/\(zy r≠2\/n=0) then false else zdH (n+1) rs
def zba (s:ByteArray):Bool:=zdH 0 (zu s)
theorem nameR_bad {n:Nat} {r:Int} {rs:List Int} (h:zy r≠1/\(zy r≠2\/n=0)):zdH n (r::rs)=false:=by unfold zdH;rw[if_pos h]
theorem nameR_next {n:Nat} {r:Int} {rs:List Int} (h:¬(zy r≠1/\(zy r≠2\/n=0))):zdH n (r::rs)=zdH (n+1) rs:=by
 show (if zy r≠1/\(zy r≠2\/n=0) then false else zdH (n+1) rs)=_;rw[if_neg h]
def zdT (rs:List Int):Bool:=rs.all λr=>decide (zy r=1\/zy r=2)
theorem zdD {r:Int} {rs:List Int}:zdT (r::rs)=(decide (zy r=1\/zy r=2)&&zdT rs):=rfl
theorem nameR_word:∀ (rs:List Int) (n:Nat),1<=n->zdH n rs=(zdT rs&&decide (n+rs.length<=30))
 | [],n,h=>by simp[zdH,zdT,h]
 | r::rs,n,h=>by
  by_cases hr:zy r=1\/zy r=2
  · rw[nameR_next (by omega),nameR_word rs (n+1) (by omega),zdD,decide_eq_true hr,j6];congr 1;rw[decide_eq_decide,dC];omega
  rw[nameR_bad (by omega),zdD,decide_eq_false hr];rfl
theorem zbX (rs:List Int):zdH 0 rs=(decide (1<=rs.length)&&decide (rs.length<=30)&&decide (zy (rs.getD 0 0)=1)&&zdT rs):=by
 cases rs with
 | nil=>simp[zdH]
 | cons r rs=>
  by_cases hr:zy r=1
  · rw[nameR_next (by omega),nameR_word rs 1 (by omega),zdD,decide_eq_true (show zy r=1\/zy r=2 from .inl hr),j6,Bool.and_comm (zdT rs)];have e1:decide (zy ((r::rs).getD 0 0)=1)=true:=decide_eq_true hr;rw[e1,vG];congr 1;rw[vE];simp[wN]
  rw[nameR_bad (by omega)];have e1:decide (zy ((r::rs).getD 0 0)=1)=false:=decide_eq_false hr;rw[e1,jE];rfl
theorem wordR_take {rs:List Int} {k:Nat} {x:Int} (hx:rs[k]?=some x) (h:zdT (rs.take k)=true) (hk:zy x=1\/zy x=2):zdT (rs.take (k+1))=true:=by
 unfold zdT at*;exact all_take_snoc hx h (by simpa using hk)
theorem wordR_bad {rs:List Int} {k:Nat} {x:Int} (hx:rs[k]?=some x) (hk:¬(zy x=1\/zy x=2)):zdT rs=false:=by
 unfold zdT;rw[List.all_eq_false];exact⟨x,dM hx,by simpa using hk⟩
theorem zez {α:Type} {o:List α} {k:Nat} {x:α} (h:o[k]?=some x):o.drop k=x::o.drop (k+1):=by
 obtain ⟨hk,e⟩:=dE.1 h;rw[<-e];exact uV hk
section
variable {l:List Lbl} {k:Nat} {x:Lbl}
end
def hasN (ns:List ByteArray) (n:ByteArray):Bool:=ns.any (λm=>decide (m=n))
def pickL (l:List Lbl) (ns:List ByteArray) (w:Bool):List Lbl:=l.filter (λx=>hasN ns x.n==w)
def idxN (n:ByteArray):Nat->List ByteArray->Int
 | _,[]=> -1
 | k,m::r=>if n=m then(k:Int) else idxN n (k+1) r
theorem idxN_has (n:ByteArray):∀ (ns:List ByteArray) (k:Nat),decide (0<=idxN n k ns)=hasN ns n
 | [],k=>rfl
 | m::r,k=>by
  unfold idxN hasN;by_cases h:n=m
  · have h0:(0:Int)<=(k:Nat):=(by omega);simp[h,h0]
  have h':¬m=n:=λe=>h e.symm
  have:=idxN_has n r (k+1);unfold hasN at this;rw[if_neg h,this];simp[h']
theorem idxN_at {n m:ByteArray} {ns:List ByteArray} {k:Nat} (hm:ns[k]?=some m) (h:idxN n 0 ns=idxN n k (ns.drop k)) (e:n=m):((k:Nat):Int)=idxN n 0 ns:=by
 rw[h,zez hm];unfold idxN;rw[if_pos e]
theorem idxN_next {n m:ByteArray} {ns:List ByteArray} {k:Nat} (hm:ns[k]?=some m) (h:idxN n 0 ns=idxN n k (ns.drop k)) (e:¬n=m):idxN n 0 ns=idxN n (k+1) (ns.drop (k+1)):=by
 rw[h,zez hm];conv=>lhs;unfold idxN
 rw[if_neg e]
theorem idxN_end {n:ByteArray} {ns:List ByteArray} {k:Nat} (hk:ns.length<=k) (h:idxN n 0 ns=idxN n k (ns.drop k)): -1=idxN n 0 ns:=by
 rw[h,jJ.2 hk];rfl
end Lp
namespace Lp
open Go
variable {s:ByteArray} {p:Nat} {l:List ByteArray} {sep:ByteArray} {x:ByteArray} {o:ByteArray} {u:UInt8} {n:Nat} {k:Nat} {r:List UInt8}
def encR (x:Nat):List UInt8:=
 if x<=127 then [UInt8.ofNat (x % 256)]
 else if x<=2047 then [UInt8.ofNat (192+x / 64 % 256),UInt8.ofNat (128+x % 256 % 64)]
 else if x<55296\/(57343<x/\x<=65535) then [UInt8.ofNat (224+x / 4096 % 256),UInt8.ofNat (128+x / 64 % 256 % 64),UInt8.ofNat (128+x % 256 % 64)]
 else if 65535<x/\x<=1114111 then [UInt8.ofNat (240+x / 262144 % 256),UInt8.ofNat (128+x / 4096 % 256 % 64),UInt8.ofNat (128+x / 64 % 256 % 64),UInt8.ofNat (128+x % 256 % 64)]
 else [239,191,189]
theorem ze1 (x:Nat):(encR x).length<=4:=by unfold encR;(repeat' split)<;>simp
def hasP (a b:ByteArray):Bool:=decide (b.size<=a.size)&&decide (a.extract 0 b.size=b)
def wide:ByteArray:=⟨#[239,191,189]⟩
def hexd:ByteArray:=⟨#[48,49,50,51,52,53,54,55,56,57,97,98,99,100,101,102]⟩
def hexB (n:Nat):UInt8:=hexd[n]?.getD 0
def zC (s:ByteArray) (p:Nat):Nat:=(s[p]?.getD 0).toNat
def zcX (s:ByteArray) (p:Nat):List UInt8:=
 if decR s p=34\/decR s p=92 then 92::encR (decR s p)
 else if decR s p=10 then [92,110]
 else if decR s p=65533/\hasP (s.extract p s.size) wide=false then [92,120,hexB (zC s p / 16),hexB (zC s p % 16)]
 else encR (decR s p)
def zR (s:ByteArray) (p:Nat):List UInt8:=if h:p<s.size then zcX s p++zR s (p+decW s p) else []
termination_by s.size-p
decreasing_by have:=zz s p;omega
theorem zaU (h:p<s.size):zR s p=zcX s p++zR s (p+decW s p):=by
 conv=>lhs;unfold zR
 rw[dif_pos h]
theorem zbH (h:s.size<=p):zR s p=[]:=by
 unfold zR;rw[dif_neg (by omega)]
def zaO (s:ByteArray):List UInt8:=34::(zR s 0++[34])
def zad (s:ByteArray):ByteArray:=⟨(zaO s).toArray⟩
def zce (sep:ByteArray):List ByteArray->List UInt8
 | []=>[]
 | [x]=>x.data.toList
 | x::y::r=>x.data.toList++sep.data.toList++zce sep (y::r)
def za2 (sep:ByteArray) (l:List ByteArray):ByteArray:=⟨(zce sep l).toArray⟩
def partB (x:Lbl):ByteArray:=x.n++(⟨#[61]⟩:ByteArray)++zad x.v
def textB (l:List Lbl):ByteArray:=(⟨#[123]⟩:ByteArray)++za2 ⟨#[44]⟩ (l.map partB)++(⟨#[125]⟩:ByteArray)
theorem piece_1 (h:decR s p=34\/decR s p=92):zcX s p=[92]++encR (decR s p):=by unfold zcX;rw[if_pos h];rfl
theorem piece_2 (h:¬(decR s p=34\/decR s p=92)) (h2:decR s p=10):zcX s p=[92,110]:=by unfold zcX;rw[if_neg h,if_pos h2]
theorem piece_3 (h:¬(decR s p=34\/decR s p=92)) (h2:¬decR s p=10) (h3:decR s p=65533/\hasP (s.extract p s.size) wide=false):zcX s p=[92,120,hexB (zC s p / 16),hexB (zC s p % 16)]:=by unfold zcX;rw[if_neg h,if_neg h2,if_pos h3]
theorem piece_4 (h:¬(decR s p=34\/decR s p=92)) (h2:¬decR s p=10) (h3:¬(decR s p=65533/\hasP (s.extract p s.size) wide=false)):zcX s p=encR (decR s p):=by unfold zcX;rw[if_neg h,if_neg h2,if_neg h3]
theorem hexB_at (h:hexd[n]?=some u):u=hexB n:=by unfold hexB;rw[h];rfl
theorem zJ (h:s[p]?=some u):u.toNat=zC s p:=by unfold zC;rw[h];rfl
def zX (l:List ByteArray):Nat:=(l.map ByteArray.size).sum
theorem zc5 (h:l[k]?=some x):zX (l.take (k+1))=zX (l.take k)+x.size:=by
 rw[zaT h];simp[zX]
theorem zdg (l:List ByteArray) (k:Nat):zX (l.take k)<=zX l:=by
 conv=>rhs;rw[<-d8 k l]
 unfold zX;rw[uF,List.sum_append];omega
theorem joinL_snoc (sep:ByteArray):∀ (l:List ByteArray) (x:ByteArray),l≠[]->zce sep (l++[x])=zce sep l++sep.data.toList++x.data.toList
 | [],x,h=>absurd rfl h
 | [a],x,_=>by simp[zce]
 | a::b::r,x,_=>by
  have:=joinL_snoc sep (b::r) x (by simp);show a.data.toList++sep.data.toList++zce sep ((b::r)++[x])=_;rw[this];simp[zce,dQ]
theorem joinL_take (h:l[k+1]?=some x):zce sep (l.take (k+2))=zce sep (l.take (k+1))++sep.data.toList++x.data.toList:=by
 rw[zaT h,joinL_snoc];intro e;have h0:(l.take (k+1)).length=0:=by rw[e];rfl
 have hk:=(dE.1 h).1;rw[d5] at h0;omega
theorem joinL_one (h:l[0]?=some x):zce sep (l.take 1)=x.data.toList:=by
 rw[show (1:Nat)=0+1 from rfl,zaT h];simp[zce]
theorem joinB_none (h:l.length=0):ByteArray.empty=za2 sep l:=by
 rw[d4 h];rfl
theorem joinB_one (h:l[0]?=some x) (hl:l.length=1):x=za2 sep l:=by
 have:=joinL_one (sep:=sep) h;rw[dJ (by omega)] at this;unfold za2;rw[this]
theorem joinB_all {bs:List UInt8} (h:bs=zce sep (l.take (k+1))) (hl:l.length<=k+1):(⟨bs.toArray⟩:ByteArray)=za2 sep l:=by
 rw[h,dJ hl];rfl
theorem zbn (x:ByteArray):x.data.toList.length=x.size:=by simp
theorem joinL_len {sep:ByteArray} (h:sep.size=1):∀ l:List ByteArray,(zce sep l).length<=zX l+l.length
 | []=>by simp[zce]
 | [x]=>by simp[zce,zX]
 | x::y::r=>by
  have:=joinL_len h (y::r);simp only[zce,dA,zbn,zX,jQ,List.sum_cons,dC] at*;omega
theorem zat (h:sep.size=1) (l:List ByteArray):(za2 sep l).size<=zX l+l.length:=by
 have:=joinL_len h l;show (zce sep l).toArray.size<=_;simpa using this
def bts (s:ByteArray) (p:Nat):List UInt8:=s.data.toList.drop p
theorem zaE (h:p<s.size):bts s p=s.get! p::bts s (p+1):=by
 unfold bts;have h':p<s.data.toList.length:=by simpa using h
 rw[uV h'];congr 1;simp[ByteArray.get!,h]
theorem ofNat_eq {a b:Nat} (h:UInt8.ofNat a=UInt8.ofNat b):a % 256=b % 256:=by
 have:=congrArg UInt8.toNat h;simpa using this
theorem zfg {b:UInt8} (h:b.toNat=n % 256):b=UInt8.ofNat n:=by
 apply jP.1;simpa using h
theorem zaY:(s.extract p s.size).data.toList=bts s p:=by
 unfold bts;simp only[uM,uX,List.extract];rw[dJ];simp
theorem hasP_bts (h:hasP (s.extract p s.size) wide=true):∃ r,bts s p=239::191::189::r:=by
 unfold hasP at h;simp only[cY,decide_eq_true_eq] at h;have e:=congrArg (λb:ByteArray=>b.data.toList) h.2;simp only[uM,uX,List.extract] at e;have e2:(s.extract p s.size).data.toList.take 3=[239,191,189]:=by
  have e3:List.take wide.size (List.take (s.size-p) (List.drop p s.data.toList))=[239,191,189]:=by simpa [wide] using e
  rw[show wide.size=3 from rfl] at e3;simpa using e3
 rw[zaY] at e2;refine⟨(bts s p).drop 3,?_⟩;have:=(d8 3 (bts s p)).symm;rw[e2] at this;simpa using this
theorem not_lt_bts (h:s.size<=p):bts s p=[]:=by unfold bts;rw[jJ];simpa using h
theorem bts_lt {a:UInt8} (h:bts s p=a::r):p<s.size:=by
 rcases c8 p s.size with h' | h'
 · exact h'
 rw[not_lt_bts h'] at h;cases h
theorem bts_head {a:UInt8} (h:bts s p=a::r):s.get! p=a/\bts s (p+1)=r:=by
 rw[zaE (bts_lt h)] at h;injection h with h1 h2;exact⟨h1,h2⟩
theorem dec_cases (s:ByteArray) (p:Nat) (h:p<s.size):
 (bts s p=encR (decR s p)++bts s (p+decW s p))\/(decR s p=65533/\decW s p=1/\hasP (s.extract p s.size) wide=false):=by
 by_cases hw:hasP (s.extract p s.size) wide=true
 · left;obtain ⟨r,hr⟩:=hasP_bts hw;obtain ⟨g0,b1⟩:=bts_head hr;obtain ⟨g1,b2⟩:=bts_head b1;obtain ⟨g2,b3⟩:=bts_head b2;have l2:=bts_lt b2;have hd:Utf8.decode s p=(65533,3):=by
    unfold Utf8.decode;simp only[jY,g0,g1,show p+2=p+1+1 from rfl,g2,show p+1<s.size by omega,l2,decide_true,j6];simp[Utf8.valid]
   have e1:decR s p=65533:=(by unfold decR;rw[hd]);have e2:decW s p=3:=(by unfold decW;rw[hd]);rw[e1,e2,hr,show p+3=p+1+1+1 from rfl,b3];rfl
 have hw:hasP (s.extract p s.size) wide=false:=by simpa using hw
 have l0:(s.get! p).toNat<256:=uK _;have l1:(s.get! (p+1)).toNat<256:=uK _;have l2:(s.get! (p+2)).toNat<256:=uK _;have l3:(s.get! (p+3)).toNat<256:=uK _;have c0:=zaE h;unfold decR decW;unfold Utf8.decode;simp only[jY,Utf8.runeError,cY,decide_eq_true_eq,beq_iff_eq];by_cases h1:(s.get! p).toNat<128
 · left;rw[if_pos h1];show _=encR (s.get! p).toNat++_;unfold encR;rw[if_pos (show (s.get! p).toNat<=127 by omega),c0];congr 1;exact zfg (by omega)
 rw[if_neg h1];by_cases h2:(s.get! p).toNat / 32=6/\p+1<s.size/\(s.get! (p+1)).toNat / 64=2
 · rw[if_pos h2];have c1:=zaE h2.2.1;by_cases h3:(s.get! p).toNat % 32*64+(s.get! (p+1)).toNat % 64>=128
   · left;rw[if_pos h3];show _=encR ((s.get! p).toNat % 32*64+(s.get! (p+1)).toNat % 64)++_;unfold encR;rw[if_neg (by omega),if_pos (by omega),c0,c1];show _=_::_::_;congr 1
     · exact zfg (by omega)
     congr 1;exact zfg (by omega)
   right;rw[if_neg h3];exact⟨rfl,rfl,hw⟩
 rw[if_neg h2];by_cases h4:((s.get! p).toNat / 16=14/\p+1<s.size/\(s.get! (p+1)).toNat / 64=2)/\p+2<s.size/\(s.get! (p+2)).toNat / 64=2
 · rw[if_pos h4];have c1:=zaE h4.1.2.1;have c2:=zaE h4.2.1;by_cases h3:(s.get! p).toNat % 16*4096+(s.get! (p+1)).toNat % 64*64+(s.get! (p+2)).toNat % 64>=2048/\Utf8.valid (((s.get! p).toNat % 16*4096+(s.get! (p+1)).toNat % 64*64+(s.get! (p+2)).toNat % 64:Nat):Int)=true
   · left;rw[if_pos h3];show _=encR ((s.get! p).toNat % 16*4096+(s.get! (p+1)).toNat % 64*64+(s.get! (p+2)).toNat % 64)++_;have hv:=h3.2;unfold Utf8.valid at hv;simp only[d6,cY,decide_eq_true_eq] at hv;unfold encR;rw[if_neg (by omega),if_neg (by omega),if_pos (by omega),c0,c1,c2];show _=_::_::_::_;congr 1
     · exact zfg (by omega)
     congr 1
     · exact zfg (by omega)
     congr 1;exact zfg (by omega)
   right;rw[if_neg h3];exact⟨rfl,rfl,hw⟩
 rw[if_neg h4];by_cases h5:(((s.get! p).toNat / 8=30/\p+1<s.size/\(s.get! (p+1)).toNat / 64=2)/\p+2<s.size/\(s.get! (p+2)).toNat / 64=2)/\p+3<s.size/\(s.get! (p+3)).toNat / 64=2
 · rw[if_pos h5];have c1:=zaE h5.1.1.2.1;have c2:=zaE h5.1.2.1;have c3:=zaE h5.2.1;by_cases h3:(s.get! p).toNat % 8*262144+(s.get! (p+1)).toNat % 64*4096+(s.get! (p+2)).toNat % 64*64+(s.get! (p+3)).toNat % 64>=65536/\Utf8.valid (((s.get! p).toNat % 8*262144+(s.get! (p+1)).toNat % 64*4096+(s.get! (p+2)).toNat % 64*64+(s.get! (p+3)).toNat % 64:Nat):Int)=true
   · left;rw[if_pos h3];show _=encR ((s.get! p).toNat % 8*262144+(s.get! (p+1)).toNat % 64*4096+(s.get! (p+2)).toNat % 64*64+(s.get! (p+3)).toNat % 64)++_;have hv:=h3.2;unfold Utf8.valid at hv;simp only[d6,cY,decide_eq_true_eq] at hv;unfold encR;rw[if_neg (by omega),if_neg (by omega),if_neg (by omega),if_pos (by omega),c0,c1,c2,c3];show _=_::_::_::_::_;congr 1
     · exact zfg (by omega)
     congr 1
     · exact zfg (by omega)
     congr 1
     · exact zfg (by omega)
     congr 1;exact zfg (by omega)
   right;rw[if_neg h3];exact⟨rfl,rfl,hw⟩
 right;rw[if_neg h5];exact⟨rfl,rfl,hw⟩
theorem encR_no {c:Nat} {x:UInt8} (hx:x.toNat<128) (h:x∈encR c):c=x.toNat:=by
 unfold encR at h;split at h
 · simp at h;rw[h];simp;omega
 exfalso;have key:∀ n:Nat,128<=n % 256->x≠UInt8.ofNat n:=λn hn e=>by rw[e] at hx;simp at hx;omega
 split at h
 · simp only[dW,vA,or_false] at h;rcases h with h | h<;>exact key _ (by omega) h
 split at h
 · simp only[dW,vA,or_false] at h;rcases h with h | h | h<;>exact key _ (by omega) h
 split at h
 · simp only[dW,vA,or_false] at h;rcases h with h | h | h | h<;>exact key _ (by omega) h
 simp only[dW,vA,or_false] at h;rcases h with h | h | h<;>(rw[h] at hx;revert hx;decide)
inductive Tok:List UInt8->List UInt8->Prop where
 | esc {c:UInt8}:c=34\/c=92->Tok [92,c] [c]
 | nl:Tok [92,110] [10]
 | hex {b:UInt8}:Tok [92,120,hexB (b.toNat / 16),hexB (b.toNat % 16)] [b]
 | raw {c:Nat}:c<1114112->c≠34->c≠92->c≠10->Tok (encR c) (encR c)
theorem zdc (h:p<s.size):zC s p=(s.get! p).toNat:=by
 unfold zC;congr 1;simp[ByteArray.get!,h];rfl
theorem zc8 (h:p<s.size):∃ src,Tok (zcX s p) src/\bts s p=src++bts s (p+decW s p):=by
 have hl:=zbN s p;rcases dec_cases s p h with e | ⟨e1,e2,e3⟩
 · by_cases h1:decR s p=34\/decR s p=92
   · refine⟨encR (decR s p),?_,e⟩;rw[piece_1 h1];rcases h1 with h1 | h1<;>rw[h1]
     · exact .esc (.inl rfl)
     exact .esc (.inr rfl)
   by_cases h2:decR s p=10
   · refine⟨encR (decR s p),?_,e⟩;rw[piece_2 h1 h2,h2];exact .nl
   by_cases h3:decR s p=65533/\hasP (s.extract p s.size) wide=false
   · exfalso;have hr:bts s p=239::191::189::bts s (p+decW s p):=(by rw[e,h3.1];rfl);have:hasP (s.extract p s.size) wide=true:=by
      unfold hasP;have e4:=zaY (s:=s) (p:=p);rw[hr] at e4;have hsz:3<=(s.extract p s.size).size:=by
       have:=congrArg List.length e4;simp only[u9,dC] at this;show 3<=(s.extract p s.size).data.size;omega
      have hx:(s.extract p s.size).extract 0 wide.size=wide:=by
       apply uE;apply jV.1;rw[uM,uX,List.extract,e4];rfl
      rw[hx,show wide.size=3 from rfl,decide_eq_true hsz];simp
     rw[h3.2] at this;cases this
   refine⟨encR (decR s p),?_,e⟩;rw[piece_4 h1 h2 h3];exact .raw hl (λe=>h1 (.inl e)) (λe=>h1 (.inr e)) h2
 refine⟨[s.get! p],?_,?_⟩
 · rw[piece_3 (by rw[e1];decide) (by rw[e1];decide) ⟨e1,e3⟩,zdc h];exact .hex
 rw[e2];exact zaE h
def elen (b:UInt8):Nat:=if b.toNat<192 then 1 else if b.toNat<224 then 2 else if b.toNat<240 then 3 else 4
def olen:List UInt8->Nat
 | []=>0
 | b::r=>if b=92 then(if r.head?=some 120 then 4 else 2) else elen b
theorem encR_head {c:Nat} (hc:c<1114112):∃ b r,encR c=b::r/\(encR c).length=elen b/\(b=92->c=92)/\(b=34->c=34):=by
 have ne:∀ n m:Nat,m<128->128<=n % 256->UInt8.ofNat n≠UInt8.ofNat m:=λn m hm hn e=>by have:=ofNat_eq e;omega
 unfold encR elen;split
 · refine⟨_,_,rfl,?_,?_,?_⟩
   · have:(UInt8.ofNat (c % 256)).toNat<192:=(by simp;omega);rw[if_pos this];rfl
   · intro e;have:=ofNat_eq (b:=92) e;omega
   intro e;have:=ofNat_eq (b:=34) e;omega
 split
 · refine⟨_,_,rfl,?_,?_,?_⟩
   · have h1:¬(UInt8.ofNat (192+c / 64 % 256)).toNat<192:=(by simp;omega);have h2:(UInt8.ofNat (192+c / 64 % 256)).toNat<224:=(by simp;omega);rw[if_neg h1,if_pos h2];rfl
   · intro e;exact absurd e (ne _ 92 (by decide) (by omega))
   intro e;exact absurd e (ne _ 34 (by decide) (by omega))
 split
 · refine⟨_,_,rfl,?_,?_,?_⟩
   · have h1:¬(UInt8.ofNat (224+c / 4096 % 256)).toNat<192:=(by simp;omega);have h2:¬(UInt8.ofNat (224+c / 4096 % 256)).toNat<224:=(by simp;omega);have h3:(UInt8.ofNat (224+c / 4096 % 256)).toNat<240:=(by simp;omega);rw[if_neg h1,if_neg h2,if_pos h3];rfl
   · intro e;exact absurd e (ne _ 92 (by decide) (by omega))
   intro e;exact absurd e (ne _ 34 (by decide) (by omega))
 split
 · refine⟨_,_,rfl,?_,?_,?_⟩
   · have h1:¬(UInt8.ofNat (240+c / 262144 % 256)).toNat<192:=(by simp;omega);have h2:¬(UInt8.ofNat (240+c / 262144 % 256)).toNat<224:=(by simp;omega);have h3:¬(UInt8.ofNat (240+c / 262144 % 256)).toNat<240:=(by simp;omega);rw[if_neg h1,if_neg h2,if_neg h3];rfl
   · intro e;exact absurd e (ne _ 92 (by decide) (by omega))
   intro e;exact absurd e (ne _ 34 (by decide) (by omega))
 refine⟨_,_,rfl,by decide,λe=>absurd e (by decide),λe=>absurd e (by decide)⟩
theorem tok_len {o s:List UInt8} (h:Tok o s) (r:List UInt8):olen (o++r)=o.length:=by
 cases h with
 | esc h=>rcases h with h | h<;>rw[h]<;>rfl
 | nl=>rfl
 | hex=>rfl
 | raw hc _ h92 _=>
  obtain ⟨b,t,e,el,hb,_⟩:=encR_head hc;rw[el,e];show (if b=92 then _ else elen b)=_;rw[if_neg (λe=>h92 (hb e))]
theorem hexB_inj:∀ a:Nat,a<16->∀ b:Nat,b<16->hexB a=hexB b->a=b:=by decide
theorem tok_src {o s t:List UInt8} (h:Tok o s) (h':Tok o t):s=t:=by
 have hh:∀ {c:Nat} {x:UInt8} {l:List UInt8},c<1114112->c≠92->encR c=92::l->False:=λ{c _ l} hc hn e=>by
  obtain ⟨b,t,e',_,hb,_⟩:=encR_head hc;rw[e'] at e;injection e with e _;exact hn (hb e)
 generalize ho:o=o' at h';cases h with
 | esc h=>
  cases h' with
  | esc _=>cases ho;rfl
  | nl=>injection ho with _ ho;injection ho with ho;rw[ho] at h;exact absurd h (by decide)
  | hex=>cases ho
  | raw hc _ h92 _=>exact(hh (x:=0) hc h92 ho.symm).elim
 | nl=>
  cases h' with
  | esc h=>injection ho with _ ho;injection ho with ho;rw[<-ho] at h;exact absurd h (by decide)
  | nl=>rfl
  | hex=>cases ho
  | raw hc _ h92 _=>exact(hh (x:=0) hc h92 ho.symm).elim
 | @hex a=>
  cases h' with
  | esc h=>cases ho
  | nl=>cases ho
  | @hex b=>
   injection ho with _ ho;injection ho with _ ho;injection ho with h1 ho;injection ho with h2 _;have la:=uK a;have lb:=uK b;have e1:=hexB_inj _ (by omega) _ (by omega) h1;have e2:=hexB_inj _ (by omega) _ (by omega) h2;have:a=b:=jP.1 (by omega);rw[this]
  | raw hc _ h92 _=>exact(hh (x:=0) hc h92 ho.symm).elim
 | raw hc _ h92 _=>
  cases h' with
  | esc h=>exact(hh (x:=0) hc h92 ho).elim
  | nl=>exact(hh (x:=0) hc h92 ho).elim
  | hex=>exact(hh (x:=0) hc h92 ho).elim
  | raw _ _ _ _=>exact ho
theorem tok_no {o s r t:List UInt8} (h:Tok o s):o++r≠34::t:=by
 cases h with
 | esc _=>intro e;injection e with e _;revert e;decide
 | nl=>intro e;injection e with e _;revert e;decide
 | hex=>intro e;injection e with e _;revert e;decide
 | raw hc h34 _ _=>
  obtain ⟨b,u,e,_,_,hb⟩:=encR_head hc;rw[e];intro e';injection e' with e' _;exact h34 (hb e')
theorem tok_inj {o s o' s' r r':List UInt8} (h:Tok o s) (h':Tok o' s') (e:o++r=o'++r'):s=s'/\r=r':=by
 have hl:o.length=o'.length:=by rw[<-tok_len h r,<-tok_len h' r',e]
 obtain ⟨e1,e2⟩:=List.append_inj e hl;subst e1;exact⟨tok_src h h',e2⟩
theorem quote_inj:∀ (n:Nat) (s t:ByteArray) (p q:Nat) (r r':List UInt8),s.size-p=n->zR s p++34::r=zR t q++34::r'->bts s p=bts t q/\r=r':=by
 intro n
 induction n using Nat.strongRecOn with
 | _ n ih=>
  intro s t p q r r' hn e;rcases c8 p s.size with h | h<;>rcases c8 q t.size with h' | h'
  · obtain ⟨s1,k1,b1⟩:=zc8 h;obtain ⟨s2,k2,b2⟩:=zc8 h';rw[zaU h,zaU h',dQ,dQ] at e;obtain ⟨e1,e2⟩:=tok_inj k1 k2 e;have hp:=zz s p;obtain ⟨e3,e4⟩:=ih _ (by omega) s t _ _ r r' rfl e2;rw[b1,b2,e1,e3];exact⟨rfl,e4⟩
  · obtain ⟨s1,k1,_⟩:=zc8 h;rw[zaU h,zbH h',dQ] at e;exact(tok_no k1 e).elim
  · obtain ⟨s2,k2,_⟩:=zc8 h';rw[zbH h,zaU h',dQ] at e;exact(tok_no k2 e.symm).elim
  rw[zbH h,zbH h'] at e;injection e with _ e;rw[not_lt_bts h,not_lt_bts h'];exact⟨rfl,e⟩
theorem bts_inj {s t:ByteArray} (h:bts s 0=bts t 0):s=t:=by
 unfold bts at h;simp only[j7] at h;exact uE (jV.1 h)
theorem quoteB_inj {s t:ByteArray} (h:zad s=zad t):s=t:=by
 have e:=congrArg (λb:ByteArray=>b.data.toList) h;simp only[zad,zaO] at e;injection e with _ e;exact bts_inj (quote_inj _ s t 0 0 [] [] rfl e).1
theorem get_extract {p k:Nat}:(s.extract p s.size).get! k=s.get! (p+k):=by
 have hsz:(s.extract p s.size).size=s.size-p:=by simp
 rcases c8 (p+k) s.size with h | h
 · have h1:=zaE (s:=s.extract p s.size) (p:=k) (by omega);have h2:=zaE h;have e:bts (s.extract p s.size) k=bts s (p+k):=by
    show (s.extract p s.size).data.toList.drop k=_;rw[zaY];unfold bts;rw[wD]
   rw[e,h2] at h1;injection h1 with h1 _;exact h1.symm
 have e1:(s.extract p s.size).get! k=default:=by
  show (s.extract p s.size).data[k]! =_;exact getElem!_neg _ _ (by simpa using (by omega:s.size-p<=k))
 have e2:s.get! (p+k)=default:=by
  show s.data[p+k]! =_;exact getElem!_neg _ _ (by simpa using h)
 rw[e1,e2]
theorem decode_extract {p q:Nat}:Utf8.decode (s.extract p s.size) q=Utf8.decode s (p+q):=by
 have hsz:(s.extract p s.size).size=s.size-p:=by simp
 have hc:∀ k,decide (q+k<s.size-p)=decide (p+q+k<s.size):=λk=>by rw[decide_eq_decide];omega
 unfold Utf8.decode;simp only[get_extract,hsz,hc,<-vN]
theorem decW_extract {p q:Nat}:decW (s.extract p s.size) q=decW s (p+q):=by unfold decW;rw[decode_extract]
theorem decR_extract {p q:Nat}:decR (s.extract p s.size) q=decR s (p+q):=by unfold decR;rw[decode_extract]
def cutB (s:ByteArray) (p:Nat):ByteArray:=s.extract p (p+decW s p)
theorem cutB_bts:(cutB s p).data.toList=(bts s p).take (decW s p):=by
 unfold cutB bts;simp only[uM,uX,List.extract];congr 1;omega
theorem zbi (h:p<s.size):(cutB s p).size=decW s p:=by
 have:=zZ s p h;unfold cutB;simp;omega
theorem zeA (s:ByteArray) (p:Nat):(bts s p).length=s.size-p:=by unfold bts;simp
theorem cutB_enc (h:p<s.size) (e:bts s p=encR (decR s p)++bts s (p+decW s p)):(cutB s p).data.toList=encR (decR s p):=by
 have hw:=zZ s p h;have hl:=congrArg List.length e;rw[dA,zeA,zeA] at hl;rw[cutB_bts,e,vR (by omega)]
theorem rq_bad (h:p<s.size) (h1:decR s p=65533) (h2:¬cutB s p=wide):decW s p=1/\hasP (s.extract p s.size) wide=false:=by
 rcases dec_cases s p h with e | ⟨_,e2,e3⟩
 · exfalso;refine h2 (uE (jV.1 ?_));rw[cutB_enc h e,h1];rfl
 exact⟨e2,e3⟩
theorem rq_good (h:p<s.size) (h1:¬(decR s p=65533/\¬cutB s p=wide)):(cutB s p).data.toList=encR (decR s p):=by
 rcases dec_cases s p h with e | ⟨e1,e2,e3⟩
 · exact cutB_enc h e
 exfalso;have hw:cutB s p=wide:=by
  by_cases hw:cutB s p=wide
  · exact hw
  exact absurd ⟨e1,hw⟩ h1
 have:=zbi h;rw[hw,e2] at this;exact absurd this (by decide)
theorem rq_1 (h:p<s.size) (h1:decR s p=65533) (h2:¬cutB s p=wide):zcX s p=[92,120,hexB (zC s p / 16),hexB (zC s p % 16)]:=
 piece_3 (by rw[h1];decide) (by rw[h1];decide) ⟨h1,(rq_bad h h1 h2).2⟩
theorem rq_2 (h:p<s.size) (h1:decR s p=34\/decR s p=92):zcX s p=92::(cutB s p).data.toList:=by
 rw[piece_1 h1,rq_good h (λe=>by rcases h1 with h1 | h1<;>(rw[h1] at e;exact absurd e.1 (by decide)))];rfl
theorem rq_4 (h:p<s.size) (h1:¬(decR s p=65533/\¬cutB s p=wide)) (h2:¬(decR s p=34\/decR s p=92)) (h3:¬decR s p=10):zcX s p=(cutB s p).data.toList:=by
 rw[rq_good h h1];by_cases h4:decR s p=65533/\hasP (s.extract p s.size) wide=false
 · exfalso;have hg:=rq_good h h1;rw[h4.1] at hg;refine absurd h4.2 ?_;have hc:cutB s p=wide:=uE (jV.1 hg);have hz:=zbi h;rw[hc] at hz;have hw:decW s p=3:=hz.symm;have hle:=zZ s p h;have e:(s.extract p s.size).extract 0 wide.size=wide:=by
    rw[<-hc];unfold cutB;rw[hw];apply uE;apply jV.1;simp only[uM,uX,List.extract,j7,Nat.sub_zero,cR];rw[List.take_take];congr 1;omega
   unfold hasP;rw[e];have:wide.size=3:=rfl;rw[this,decide_eq_true (show 3<=(s.extract p s.size).size by simp;omega)];simp
 exact piece_4 h2 h3 h4
theorem hex_sub (h:n<16):hexd.extract n (n+1)=⟨#[hexB n]⟩:=by
 revert h;revert n;decide
theorem zcM {w:List UInt8} (hq:34::zR s 0=o.data.toList++zR s p) (h:p<s.size) (hp:zcX s p=w) {o':ByteArray} (ho:o'.data.toList=o.data.toList++w):34::zR s 0=o'.data.toList++zR s (p+decW s p):=by
 rw[hq,zaU h,hp,ho,dQ]
theorem quote_end (hq:34::zR s 0=o.data.toList++zR s p) (h:s.size<=p):o++(⟨#[34]⟩:ByteArray)=zad s:=by
 rw[zbH h,jO] at hq;apply uE;apply jV.1;rw[ByteArray.data_append,Array.toList_append,<-hq];show _=(zaO s).toArray.toList;unfold zaO;simp
theorem rq_byte (h:p<s.size) (hu:(s.extract p (p+decW s p))[0]?=some u):u.toNat=zC s p:=by
 have hz:0<(cutB s p).size:=by rw[zbi h];have:=zz s p;omega
 have e1:=zJ hu;rw[e1];show zC (cutB s p) 0=_;rw[zdc hz,zdc h];congr 1;have h1:=zaE hz;have h2:=zaE h;have e:bts (cutB s p) 0=(bts s p).take (decW s p):=by
  show (cutB s p).data.toList.drop 0=_;rw[j7,cutB_bts]
 rw[h1,h2] at e;obtain ⟨w,hw⟩:∃ w,decW s p=w+1:=⟨decW s p-1,by have:=zz s p;omega⟩;rw[hw,vM] at e;injection e
theorem zeD (a b:ByteArray):(a++b).data.toList=a.data.toList++b.data.toList:=by simp
theorem rq_out {n m:Nat} (hn:n<16) (hm:m<16):(o++(⟨#[92,120]⟩:ByteArray)++hexd.extract n (n+1)++hexd.extract m (m+1)).data.toList=o.data.toList++[92,120,hexB n,hexB m]:=by
 rw[hex_sub hn,hex_sub hm];simp only[zeD,dQ];rfl
end Lp
