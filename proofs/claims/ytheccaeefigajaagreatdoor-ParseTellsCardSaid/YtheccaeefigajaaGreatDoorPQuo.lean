import Derived.Lib.AppendStr
import Derived.Lib.UnsafeStr
import Derived.Test.YtheccaeefigajaaGreatDoorDG
set_option linter.unusedSimpArgs false
set_option linter.unusedVariables false
namespace Lp
open Go Go.RowKit
open Go.Lib (strCells strCells_eq byteCells byteCells_length run_append_own_string)
abbrev dU8 (b:UInt8):D:=.v (.int .u8 (b.toNat:Int))
theorem zc7 {n:Int} {m:Nat} (h:n=(m:Int)) (hm:m<256):D.v (.int .u8 n)=dU8 (UInt8.ofNat m):=by
 have:(UInt8.ofNat m).toNat=m:=by simp[UInt8.toNat_ofNat'];omega
 unfold dU8;rw[this,h]
theorem aHs {P:Program} {E:TypeId} {c:Array Value} {a:Addr} {w w1:World} (h:(newRow E c).run P w=.ok a w1):a=⟨w.heap.size,0,none⟩:=by
 simp[newRow] at h;exact h.1.symm
theorem lI {P:Program} {w w':World} {t u ty E n cap:Nat} {A:Option Addr} {s:ByteArray} {v':Value} {i:TypeInfo} (ht:P.underlying t=some (.slice E)) (hu:P.underlying u=some .string) (hi:P.info? E=some i) (hn:cap<n+s.size) (hm:n+s.size<=maxLen)
 (h:(Builtin.append_ #[t,u] ty #[.slice A n cap,.string s]).run P w=.ok v' w'):Ext w w'/\v'.ownBlock=some w.heap.size:=by
 simp[Builtin.append_,run_underlying ht,run_underlying hu,Go.sizeOf,typeInfo,hi,Builtin.lenOf,show ¬n+s.size<=cap by omega] at h;have fin:∀ {W:World} {k:Nat} {f:Addr->World->Result Value},Ext w W->W.heap.size=w.heap.size->(∀ a w1 v w2,f a w1=.ok v w2->w2=w1/\v.ownBlock=some a.block)->((Sem.run P (Builtin.firstCells i.size n (Value.slice A n cap)) W).andThen λa w'=>
  (Sem.run P (Builtin.firstCells i.size s.size (.string s)) w').andThen λa_1 w'=>
   (Sem.run P (zeroValue E) w').andThen λa_2 w'=>
    (Sem.run P (newRow E (a++(a_1++Builtin.zeroCells a_2.cells k))) w').andThen f)=.ok v' w'->Ext w w'/\v'.ownBlock=some w.heap.size:=by
  intro W k f hE hsz hf h;obtain ⟨a,w1,h1,h⟩:=zdE h;obtain ⟨a1,w2,h2,h⟩:=zdE h;obtain ⟨a2,w3,h3,h⟩:=zdE h;obtain ⟨a3,w4,h4,h⟩:=zdE h;have e1:=iT h1;have e2:w2=w1:=by simp[Builtin.firstCells] at h2;exact h2.2.symm
  have e3:=aJo h3;have e4:=aFd h4;have e5:=aHs h4;have e6:=hf _ _ _ _ h;subst e1;subst e2;subst e3;rw[e6.1];exact⟨hE.trans e4,by rw[e6.2,e5,hsz]⟩
 have hcond:¬(9223372036854775807<(n:Int)+(s.size:Int)/\i.bytes=0):=by
  rintro ⟨h1,_⟩;unfold maxLen at hm;omega
 rw[aA hcond] at h;split at h
 · obtain ⟨_,_,h,_⟩:=zdE h;obtain ⟨_,_,_,h⟩:=zdE h;cases h
 split at h
 · refine fin (W:=w) (k:=0) (f:=λa w'=>Result.ok (.slice (some a) (n+s.size) 0) w') wU rfl (λ_ _ _ _ h=>by cases h;exact⟨rfl,rfl⟩) ?_;simpa [Builtin.firstCells] using h
 refine fin (W:=w.drew) (k:=(Question.appendCap (n+s.size) cap E).cut (w.tape w.drawn (Question.appendCap (n+s.size) cap E))-(n+s.size)) (f:=λa w'=>Result.ok (.slice (some a) (n+s.size) ((Question.appendCap (n+s.size) cap E).cut (w.tape w.drawn (Question.appendCap (n+s.size) cap E)))) w') (Ext.drew w) rfl (λ_ _ _ _ h=>by cases h;exact⟨rfl,rfl⟩) ?_;simpa [Builtin.firstCells] using h
theorem gR {P:Program} {w w':World} {t u ty E n cap:Nat} {A:Option Addr} {s:ByteArray} {v':Value} {i:TypeInfo} (ht:P.underlying t=some (.slice E)) (hu:P.underlying u=some .string) (hi:P.info? E=some i) (hn:n+s.size<=cap)
 (h:(Builtin.append_ #[t,u] ty #[.slice A n cap,.string s]).run P w=.ok v' w'):v'=.slice A (n+s.size) cap:=by
 simp[Builtin.append_,run_underlying ht,run_underlying hu,Go.sizeOf,typeInfo,hi,Builtin.lenOf,hn] at h;obtain ⟨a,w1,h1,h⟩:=zdE h;cases A with
 | none=>simp at h;exact h.1.symm
 | some ad=>
  simp at h;obtain ⟨_,_,_,h⟩:=zdE h;cases h;rfl
theorem gO {s:ByteArray}:∀ u∈strCells s,u.oneCell'=true:=by
 intro u hu;rw[strCells_eq] at hu;simp only[byteCells,vE] at hu;obtain ⟨b,_,rfl⟩:=hu;rfl
theorem qI:∀ {us:List Value},(∀ u∈us,u.oneCell'=true)->us.flatMap vcs=us
 | [],_=>rfl
 | u::r,h=>by rw[uD,pR (h u cW),qI (λx hx=>h x (dA _ hx))];rfl
theorem nS {w:World} {F:Nat->Prop}:∀ l:List UInt8,RepE w F 1 (l.map dU8) (byteCells l)
 | []=>rfl
 | b::r=>⟨_,_,rfl,rfl,One.one rfl,rfl,nS r⟩
section
variable {P:Program} {ty:TypeId} {K:Kd} {H:List Hp}
theorem yH {t u:TypeId} {x y:Operand} {i:Nat} {v:Value} {T:TypeId} {bs:List UInt8} {s:ByteArray} (hx:opO K x=some v) (hm:nth H i=some (.sl v 1 T (bs.map dU8))) (hy:opS K y=some s) (ht:P.underlying t=some (.slice T)) (hu:P.underlying u=some .string)
 (hi':∃ i,P.info? T=some i/\i.zero=some (.int .u8 0)/\i.size=1/\i.bytes=1) (hlen:bs.length+s.size<=140737488355328):
 Ef P (.call { callee:=.builtin .append,args:=#[x,y],argTypes:=#[t,u] }) ty K H (λd H'=>∃ v',d=.ov v'/\H'=H.set i (.sl v' 1 T ((bs++s.data.toList).map dU8))):=
 ⟨λC ρ w F hk gd=>by
  obtain ⟨us,hus,hown⟩:=gd.h.ok _ (zau hm);have hul:=hus.len;rw[cV] at hul;obtain ⟨i,q1,q2,q3,q4⟩:=hi';have hmx:us.length+s.size<=maxLen:=by unfold maxLen;omega
  obtain ⟨v',w',r1,r2,r3,_⟩:=run_append_own_string (P:=P) (w:=w) 0 t u ty T i ht hu q1 q2 q3 q4 v us.length _ hown.1 s hmx (by omega) (cX _);refine wV (v:=v') (w':=w') (by
   have e1:=hk.opO hx;have e2:=hk.opS hy;simp[execOp,zaq,resolve,invoke,builtin,e1,e2,r1]) ?_
  obtain ⟨A,cp,ev,_⟩:=hown.sl.capOk;have hblk:v'.ownBlock=v.ownBlock\/v'.ownBlock=some w.heap.size:=by
   rw[ev] at r1;by_cases hin:us.length+s.size<=cp
   · left;rw[gR ht hu q1 hin r1,ev];cases A<;>rfl
   right;exact(lI ht hu q1 (by omega) hmx r1).2
  have hone:∀ x∈strCells s,(vcs x).length=1:=λx hx=>by rw[pR (gO x hx)];rfl
  have hsz:(strCells s).length=s.size:=by rw[strCells_eq,byteCells_length];simp
  have how:Own vcs 1 T w' 0 v' (us++strCells s):=by
   refine⟨?_,λx hx=>?_⟩
   · rw[c7,hsz,List.flatMap_append,qI gO];exact r2
   rcases jV.1 hx with hx | hx
   · exact hown.2 x hx
   exact hone x hx
  have:=gd.turn (h':=.sl v' 1 T ((bs++s.data.toList).map dU8)) hm (λc hc hn=>r3.block c hc (λe=>hn e.symm)) r3.size r3.os r3.tape r3.output (Dr.run r1) (λc e=>by
   rcases hblk with h3 | h3
   · exact .inl (by show v.ownBlock=_;rw[<-h3];exact e)
   have e':v'.ownBlock=some c:=e;rw[h3] at e';cases e';exact .inr (cU _)) (λkp=>⟨us++strCells s,by rw[uH,strCells_eq];exact(hus.keep kp).app (nS _),how⟩)
  exact⟨F,.ov v',_,⟨v',rfl,rfl⟩,⟨rfl,how.one⟩,this.1,this.2⟩⟩
theorem Good.lose {C:Ctx} {H:List Hp} {w w':World} {F:Nat->Prop} {i:Nat} {h:Hp} (g:Good C H w F) (hi:nth H i=some h)
 (hupd:∀ b,b<w.heap.size->¬h.blk b->w'.heap[b]?=w.heap[b]?) (hsz:w.heap.size<=w'.heap.size) (hos:w'.os=w.os) (htp:w'.tape=w.tape) (hout:w'.output=w.output) (hdr:Dr w w'):Good C (H.take i++H.drop (i+1)) w' F/\Keep w F w' F:=by
 have hmem:=zau hi;have hp:=(fU hi);have gp:=(mB hp).out _ _ _ g;have hap:=vR.1 gp.h.apart;have hk:Keep w F w' F:=⟨λ_ h=>h,λb hF hlt=>hupd b hlt (λe=>(g.h.mine b ⟨h,hmem,e⟩).2 hF)⟩;refine⟨⟨dY g.size hsz,hos.trans g.os,htp.trans g.tape,hout.trans g.output,Dr.trans g.drawn hdr,λb hb1 hn=>?_,g.fsub,g.fnew,λb hF=>jZ (g.flt b hF) hsz,hap.2,λx hx=>?_,λb ⟨x,hx,e⟩=>gp.h.mine b ⟨x,dA _ hx,e⟩⟩,hk⟩
 · rw[hupd b (jZ hb1 g.size) (λe=>?_)]
   · exact g.frame b hb1 hn
   rcases (g.h.mine b ⟨h,hmem,e⟩).1 with h1 | h1
   · omega
   exact hn h1
 have hox:=gp.h.ok x (dA _ hx);exact Hp.keep hox hk (λb hb1=>hupd b (Hp.lt hox hb1) (λe=>hap.1 x hx b e hb1))
theorem aAs {x:Operand} {t:Array TypeId} {i z:Nat} {v:Value} {T:TypeId} {xs:List D} (hx:opO K x=some v) (hm:nth H i=some (.sl v z T xs)) (hn:0<xs.length):Pu P (.call { callee:=.builtin .unsafeSliceData,args:=#[x],argTypes:=t }) ty K H (.v (.pointer (some ⟨bl v,0,none⟩))):=
 ⟨λρ w F hk _ hH=>by
  obtain ⟨us,hus,hown⟩:=hH _ (zau hm);have hul:=hus.len;obtain ⟨cap,r,e,_,_,hc,_⟩:=hown.form (by omega);refine wV (v:=.pointer (some ⟨bl v,0,none⟩)) (w':=w) ?_ ⟨rfl,rfl⟩;have e1:=hk.opO hx;rw[e] at e1;have hr:=Lib.run_unsafeSliceData_row (P:=P) (w:=w) t ty ⟨bl v,0,none⟩ us.length cap (by omega);simp[execOp,zaq,resolve,invoke,builtin,e1,hr]⟩
theorem kM {x y:Operand} {t1 t2 i:Nat} {v:Value} {T:TypeId} {bs:List UInt8} {n:Int} (hx:opD K x=some (.v (.pointer (some ⟨bl v,0,none⟩)))) (hy:opD K y=some (.v (.int .i64 n))) (hn:n=(bs.length:Int)) (hm:nth H i=some (.sl v 1 T (bs.map dU8))) (h0:bs≠[])
 (hp:P.underlying t1=some (.pointer T)) (hc:P.cellsOf T=1):Ef P (.call { callee:=.builtin .unsafeString,args:=#[x,y],argTypes:=#[t1,t2] }) ty K H (λd H'=>d=.s ⟨bs.toArray⟩/\H'=H.take i++H.drop (i+1)):=
 ⟨λC ρ w F hk gd=>by
  obtain ⟨us,hus,hown⟩:=gd.h.ok _ (zau hm);have hul:=hus.len;rw[cV] at hul;have hpos:0<bs.length:=dE.2 h0;obtain ⟨cap,r,e,_,hB,hc1,hc2,hc3⟩:=hown.form (by omega);have hmx:bs.length<=9223372036854775807:=by unfold maxLen at hc2;omega
  have hsh:w.shape? (bl v)=some (T,cap):=by
   unfold Box at hB;simp only[World.shape?,hB];simp only[List.size_toArray,hc3,Nat.mul_one]
  have hcell:∀ j x,bs[j]?=some x->w.cell? ⟨bl v,j,none⟩=some (.int .u8 x.toNat):=by
   intro j b hj;obtain ⟨u,h1,h2,_⟩:=hus.get (k:=j) (x:=dU8 b) (by rw[uE,hj];rfl);have:=hown.sl.at_ h1;have hof:of_ v=0:=(by rw[e];rfl);rw[hof,dW,Nat.mul_one] at this;have hu:u=.int .u8 (b.toNat:Int):=h2;subst hu;exact this.2 0 _ rfl
  have hrun:=Lib.run_unsafeString_row (P:=P) (w:=w) t1 t2 ty T hp hc (bl v) cap hsh bs h0 (by omega) hmx;subst hn;have e1:ev ρ x=_:=hk.op hx;have e2:ev ρ y=_:=hk.op hy;have hf:∀ k,k≠bl v->(w.freeze ⟨bl v,0,none⟩ bs.length).heap[k]?=w.heap[k]?:=by
   intro k hk';unfold World.freeze;split
   · rfl
   simp only[Array.getElem?_modify];rw[aA (λh=>hk' h.symm)]
  have hsz:(w.freeze ⟨bl v,0,none⟩ bs.length).heap.size=w.heap.size:=by
   unfold World.freeze;split<;>simp
  have hos:(w.freeze ⟨bl v,0,none⟩ bs.length).os=w.os/\(w.freeze ⟨bl v,0,none⟩ bs.length).tape=w.tape/\(w.freeze ⟨bl v,0,none⟩ bs.length).output=w.output:=by
   unfold World.freeze;split<;>exact⟨rfl,rfl,rfl⟩
  have:=gd.lose (w':=w.freeze ⟨bl v,0,none⟩ bs.length) hm (λb hb hn=>hf b (λe'=>hn (by subst e';show v.ownBlock=_;rw[e];rfl))) (Nat.le_of_eq hsz.symm) hos.1 hos.2.1 hos.2.2 (Dr.of (Nat.le_of_eq (gL _ _ _).symm));refine wV (v:=.string ⟨bs.toArray⟩) (w':=w.freeze ⟨bl v,0,none⟩ bs.length) ?_ ⟨F,_,_,⟨rfl,rfl⟩,⟨rfl,?_⟩,this.1,this.2⟩
  · have:=hrun (λj x hj=>by rw[show (⟨bl v,0,none⟩:Addr).add j=⟨bl v,j,none⟩ by cases j<;>simp[Addr.add]];exact hcell j x hj);simp[execOp,zaq,resolve,invoke,builtin,e1,e2,this]
  show bs.toArray.size<=maxLen;unfold maxLen;simp;omega⟩
theorem zcw {x:Operand} {t:TypeId} {s:ByteArray} (hx:opS K x=some s) (ht:∀ w,(underlying t).run P w=.ok .string w):Ef P (.range t x) ty K H (λd H'=>∃ g,d=.v (.pointer (some ⟨g,0,none⟩))/\H'=.it g s 0::H):=
 ⟨λC ρ w F hk gd=>by
  have e:=hk.opS hx;refine wV (v:=.pointer (some ⟨w.heap.size,0,none⟩)) (w':=w.alloc (.stringIter s 0)) (by simp[execOp,zaq,e,Instr.range,ht]) ?_;have E:=Ext.alloc w (.stringIter s 0);have g':=gd.ext E;refine⟨F,_,_,⟨w.heap.size,rfl,rfl⟩,rfl,g'.more (heap_alloc_new w _) (λb hb=>?_),Keep.ext E⟩;cases hb;exact⟨gd.size,λhF=>by have:=gd.flt _ hF;omega,λhB=>by have:=zfQ gd.h hB;omega⟩⟩
def decR (s:ByteArray) (p:Nat):Nat:=(Utf8.decode s p).1
def decW (s:ByteArray) (p:Nat):Nat:=(Utf8.decode s p).2
theorem zbA {x:Operand} {s:ByteArray} {g p i:Nat} (hx:opD K x=some (.v (.pointer (some ⟨g,0,none⟩)))) (hm:nth H i=some (.it g s p)) (hp:p<s.size):
 Ef P (.next x true) ty K H (λd H'=>d=.tup [.v (.bool true),.v (.int .i64 (p:Int)),.v (.int .i32 (decR s p:Int))]/\H'=H.set i (.it g s (p+decW s p))):=
 ⟨λC ρ w F hk gd=>by
  have e:ev ρ x=_:=hk.op hx;have hb:w.heap[g]?=some (.stringIter s p):=gd.h.ok _ (zau hm);have hlt:=(jP.1 hb).1;refine wV (v:=.tuple #[.bool true,.int .i64 (p:Int),.int .i32 (decR s p:Int)]) (w':={ w with heap:=w.heap.setIfInBounds g (.stringIter s (p+decW s p)) }) ?_ ?_
  · simp[execOp,zaq,e,Instr.next,getObj,setObj,Sem.run,hb,hp,decR,decW,goInt]
  have:=gd.turn (h':=.it g s (p+decW s p)) (w':={ w with heap:=w.heap.setIfInBounds g (.stringIter s (p+decW s p)) }) hm (λb _ hn=>by
   have:¬g=b:=hn;simp only[Array.getElem?_setIfInBounds];rw[aA this]) (by simp) rfl rfl rfl (Dr.of (cU _)) (λb hb=>.inl hb) (λ_=>by
   show _=_;simp only[Array.getElem?_setIfInBounds,if_true,hlt])
  exact⟨F,_,_,⟨rfl,rfl⟩,⟨_,rfl,_,_,rfl,rfl,_,_,rfl,rfl,_,_,rfl,rfl,rfl⟩,this.1,this.2⟩⟩
theorem zco {x:Operand} {s:ByteArray} {g p i:Nat} (hx:opD K x=some (.v (.pointer (some ⟨g,0,none⟩)))) (hm:nth H i=some (.it g s p)) (hp:s.size<=p):Pu P (.next x true) ty K H (.tup [.v (.bool false)]):=
 ⟨λρ w F hk _ hH=>by
  have e:ev ρ x=_:=hk.op hx;have hb:w.heap[g]?=some (.stringIter s p):=hH _ (zau hm);refine wV (v:=.tuple #[.bool false]) (w':=w) ?_ ⟨rfl,_,rfl,_,_,rfl,rfl,rfl⟩;simp[execOp,zaq,e,Instr.next,getObj,Sem.run,hb,show ¬p<s.size by omega]⟩
theorem zF (s:ByteArray) (p:Nat):1<=decW s p:=by
 unfold decW Utf8.decode;simp only
 (repeat' split)<;>simp
theorem zae (s:ByteArray) (p:Nat) (h:p<s.size):p+decW s p<=s.size:=by
 unfold decW Utf8.decode;simp only[cY,aI]
 (repeat' split)<;>simp<;>omega
def zaW (s:ByteArray) (p:Nat):List Int:=if h:p<s.size then(decR s p:Int)::zaW s (p+decW s p) else []
termination_by s.size-p
decreasing_by have:=zF s p;omega
theorem zaw {s:ByteArray} {p:Nat} (h:p<s.size):zaW s p=(decR s p:Int)::zaW s (p+decW s p):=by
 conv=>lhs;unfold zaW
 rw[dif_pos h]
theorem zaG {s:ByteArray} {p:Nat} (h:s.size<=p):zaW s p=[]:=by
 unfold zaW;rw[dif_neg (by omega)]
def zB (s:ByteArray):List Int:=zaW s 0
theorem yJ (s:ByteArray):∀ (n p:Nat),s.size-p=n->(zaW s p).length<=s.size-p:=by
 intro n
 induction n using Nat.strongRecOn with
 | _ n ih=>
  intro p hp;rcases c8 p s.size with h | h
  · have h1:=zF s p;rw[zaw h,dD];have:=ih (s.size-(p+decW s p)) (by omega) _ rfl;omega
  rw[zaG h];simp
theorem zbQ (s:ByteArray) (p:Nat):decR s p<1114112:=by
 unfold decR Utf8.decode;simp only[cY,aI];have hv:∀ c,Utf8.valid c=true->c<1114112:=by
  intro c;unfold Utf8.valid;simp;intros;omega
 (repeat' split)
 all_goals first
  | (simp only[Utf8.runeError];omega)
  | (simp only;omega)
  | (rename_i h;have:=hv _ h.2;simp only;omega)
end
end Lp
namespace Lp
open Go
abbrev dN (n:Nat):D:=.v (.int .i64 (n:Int))
structure RowD where
 ls:List Lbl
 v:Int
 deriving DecidableEq
abbrev LLs:=List (List RowD)
theorem oS {α:Type} {f:α->Bool} {xs:List α} {k:Nat} {x:α} (hx:xs[k]?=some x) (h:(xs.take k).all f=true) (hf:f x=true):(xs.take (k+1)).all f=true:=by
 rw[za9 hx,List.all_append,h];simp[hf]
def hd (ll:LLs) (k:Nat):Option RowD:=(ll[k]?).bind List.head?
def zD (r:Int):Int:=
 if r<0\/r=65533 then 0 else if (97<=r/\r<=122)\/(65<=r/\r<=90)\/r=95\/128<=r then 1 else if 48<=r/\r<=57 then 2 else if r=32\/r=9\/r=10 then 3 else 4
abbrev dR (n:Int):D:=.v (.int .i32 n)
def zdT:Nat->List Int->Bool
 | n,[]=>decide (1<=n)&&decide (n<=30)
 | n,r::rs=>if zD r≠1/\(zD r≠2\/n=0) then false else zdT (n+1) rs
def zcC (s:ByteArray):Bool:=zdT 0 (zB s)
theorem iL {n:Nat} {r:Int} {rs:List Int} (h:zD r≠1/\(zD r≠2\/n=0)):zdT n (r::rs)=false:=by unfold zdT;rw[aB h]
theorem gH {n:Nat} {r:Int} {rs:List Int} (h:¬(zD r≠1/\(zD r≠2\/n=0))):zdT n (r::rs)=zdT (n+1) rs:=by
 show (if zD r≠1/\(zD r≠2\/n=0) then false else zdT (n+1) rs)=_;rw[aA h]
def zd4 (rs:List Int):Bool:=rs.all λr=>decide (zD r=1\/zD r=2)
theorem zdQ {r:Int} {rs:List Int}:zd4 (r::rs)=(decide (zD r=1\/zD r=2)&&zd4 rs):=rfl
theorem nR:∀ (rs:List Int) (n:Nat),1<=n->zdT n rs=(zd4 rs&&decide (n+rs.length<=30))
 | [],n,h=>by simp[zdT,zd4,h]
 | r::rs,n,h=>by
  by_cases hr:zD r=1\/zD r=2
  · rw[gH (by omega),nR rs (n+1) (by omega),zdQ,aE hr,uF];congr 1;rw[decide_eq_decide,dD];omega
  rw[iL (by omega),zdQ,aD hr];rfl
theorem zcr (rs:List Int):zdT 0 rs=(decide (1<=rs.length)&&decide (rs.length<=30)&&decide (zD (rs.getD 0 0)=1)&&zd4 rs):=by
 cases rs with
 | nil=>simp[zdT]
 | cons r rs=>
  by_cases hr:zD r=1
  · rw[gH (by omega),nR rs 1 (by omega),zdQ,aE (show zD r=1\/zD r=2 from .inl hr),uF,Bool.and_comm (zd4 rs)];have e1:decide (zD ((r::rs).getD 0 0)=1)=true:=aE hr;rw[e1,vP];congr 1;rw[vF];simp[wQ]
  rw[iL (by omega)];have e1:decide (zD ((r::rs).getD 0 0)=1)=false:=aD hr;rw[e1,jI];rfl
theorem aE0 {rs:List Int} {k:Nat} {x:Int} (hx:rs[k]?=some x) (h:zd4 (rs.take k)=true) (hk:zD x=1\/zD x=2):zd4 (rs.take (k+1))=true:=by
 unfold zd4 at*;exact oS hx h (by simpa using hk)
theorem sX {rs:List Int} {k:Nat} {x:Int} (hx:rs[k]?=some x) (hk:¬(zD x=1\/zD x=2)):zd4 rs=false:=by
 unfold zd4;rw[List.all_eq_false];exact⟨x,dT hx,by simpa using hk⟩
theorem zeL {α:Type} {o:List α} {k:Nat} {x:α} (h:o[k]?=some x):o.drop k=x::o.drop (k+1):=by
 obtain ⟨hk,e⟩:=dJ.1 h;rw[<-e];exact uX hk
section
variable {l:List Lbl} {k:Nat} {x:Lbl}
end
def hasN (ns:List ByteArray) (n:ByteArray):Bool:=ns.any (λm=>decide (m=n))
def aNk (l:List Lbl) (ns:List ByteArray) (w:Bool):List Lbl:=l.filter (λx=>hasN ns x.n==w)
def idxN (n:ByteArray):Nat->List ByteArray->Int
 | _,[]=> -1
 | k,m::r=>if n=m then(k:Int) else idxN n (k+1) r
theorem aDs (n:ByteArray):∀ (ns:List ByteArray) (k:Nat),decide (0<=idxN n k ns)=hasN ns n
 | [],k=>rfl
 | m::r,k=>by
  unfold idxN hasN;by_cases h:n=m
  · have h0:(0:Int)<=(k:Nat):=(by omega);simp[h,h0]
  have h':¬m=n:=λe=>h e.symm
  have:=aDs n r (k+1);unfold hasN at this;rw[aA h,this];simp[h']
theorem aTm {n m:ByteArray} {ns:List ByteArray} {k:Nat} (hm:ns[k]?=some m) (h:idxN n 0 ns=idxN n k (ns.drop k)) (e:n=m):((k:Nat):Int)=idxN n 0 ns:=by
 rw[h,zeL hm];unfold idxN;rw[aB e]
theorem aJ6 {n m:ByteArray} {ns:List ByteArray} {k:Nat} (hm:ns[k]?=some m) (h:idxN n 0 ns=idxN n k (ns.drop k)) (e:¬n=m):idxN n 0 ns=idxN n (k+1) (ns.drop (k+1)):=by
 rw[h,zeL hm];conv=>lhs;unfold idxN
 rw[aA e]
theorem aPq {n:ByteArray} {ns:List ByteArray} {k:Nat} (hk:ns.length<=k) (h:idxN n 0 ns=idxN n k (ns.drop k)): -1=idxN n 0 ns:=by
 rw[h,jO.2 hk];rfl
end Lp
namespace Lp
open Go
variable {s:ByteArray} {p:Nat} {l:List ByteArray} {sep:ByteArray} {x:ByteArray} {o:ByteArray} {u:UInt8} {n:Nat} {k:Nat} {r:List UInt8}
def encR (x:Nat):List UInt8:=
 if x<=127 then [UInt8.ofNat (x % 256)]
 else if x<=2047 then [UInt8.ofNat (192+x / 64 % 256),UInt8.ofNat (128+x % 256 % 64)]
 else if x<55296\/(57343<x/\x<=65535) then [UInt8.ofNat (224+x / 4096 % 256),UInt8.ofNat (128+x / 64 % 256 % 64),UInt8.ofNat (128+x % 256 % 64)]
 else if 65535<x/\x<=1114111 then [UInt8.ofNat (240+x / 262144 % 256),UInt8.ofNat (128+x / 4096 % 256 % 64),UInt8.ofNat (128+x / 64 % 256 % 64),UInt8.ofNat (128+x % 256 % 64)]
 else [239,191,189]
theorem zfd (x:Nat):(encR x).length<=4:=by unfold encR;(repeat' split)<;>simp
def hasP (a b:ByteArray):Bool:=decide (b.size<=a.size)&&decide (a.extract 0 b.size=b)
def wide:ByteArray:=⟨#[239,191,189]⟩
def hexd:ByteArray:=⟨#[48,49,50,51,52,53,54,55,56,57,97,98,99,100,101,102]⟩
def hexB (n:Nat):UInt8:=hexd[n]?.getD 0
def zG (s:ByteArray) (p:Nat):Nat:=(s[p]?.getD 0).toNat
def zcZ (s:ByteArray) (p:Nat):List UInt8:=
 if decR s p=34\/decR s p=92 then 92::encR (decR s p)
 else if decR s p=10 then [92,110]
 else if decR s p=65533/\hasP (s.extract p s.size) wide=false then [92,120,hexB (zG s p / 16),hexB (zG s p % 16)]
 else encR (decR s p)
def zT (s:ByteArray) (p:Nat):List UInt8:=if h:p<s.size then zcZ s p++zT s (p+decW s p) else []
termination_by s.size-p
decreasing_by have:=zF s p;omega
theorem za1 (h:p<s.size):zT s p=zcZ s p++zT s (p+decW s p):=by
 conv=>lhs;unfold zT
 rw[dif_pos h]
theorem zbL (h:s.size<=p):zT s p=[]:=by
 unfold zT;rw[dif_neg (by omega)]
def zaU (s:ByteArray):List UInt8:=34::(zT s 0++[34])
def zak (s:ByteArray):ByteArray:=⟨(zaU s).toArray⟩
def zck (sep:ByteArray):List ByteArray->List UInt8
 | []=>[]
 | [x]=>x.data.toList
 | x::y::r=>x.data.toList++sep.data.toList++zck sep (y::r)
def za4 (sep:ByteArray) (l:List ByteArray):ByteArray:=⟨(zck sep l).toArray⟩
def a1p (x:Lbl):ByteArray:=x.n++(⟨#[61]⟩:ByteArray)++zak x.v
def a2f (l:List Lbl):ByteArray:=(⟨#[123]⟩:ByteArray)++za4 ⟨#[44]⟩ (l.map a1p)++(⟨#[125]⟩:ByteArray)
theorem aAq (h:decR s p=34\/decR s p=92):zcZ s p=[92]++encR (decR s p):=by unfold zcZ;rw[aB h];rfl
theorem qX (h:¬(decR s p=34\/decR s p=92)) (h2:decR s p=10):zcZ s p=[92,110]:=by unfold zcZ;rw[aA h,aB h2]
theorem yI (h:¬(decR s p=34\/decR s p=92)) (h2:¬decR s p=10) (h3:decR s p=65533/\hasP (s.extract p s.size) wide=false):zcZ s p=[92,120,hexB (zG s p / 16),hexB (zG s p % 16)]:=by unfold zcZ;rw[aA h,aA h2,aB h3]
theorem pG (h:¬(decR s p=34\/decR s p=92)) (h2:¬decR s p=10) (h3:¬(decR s p=65533/\hasP (s.extract p s.size) wide=false)):zcZ s p=encR (decR s p):=by unfold zcZ;rw[aA h,aA h2,aA h3]
theorem aIw (h:hexd[n]?=some u):u=hexB n:=by unfold hexB;rw[h];rfl
theorem zM (h:s[p]?=some u):u.toNat=zG s p:=by unfold zG;rw[h];rfl
def zac (l:List ByteArray):Nat:=(l.map ByteArray.size).sum
theorem zdb (h:l[k]?=some x):zac (l.take (k+1))=zac (l.take k)+x.size:=by
 rw[za9 h];simp[zac]
theorem zdo (l:List ByteArray) (k:Nat):zac (l.take k)<=zac l:=by
 conv=>rhs;rw[<-d8 k l]
 unfold zac;rw[uH,List.sum_append];omega
theorem lP (sep:ByteArray):∀ (l:List ByteArray) (x:ByteArray),l≠[]->zck sep (l++[x])=zck sep l++sep.data.toList++x.data.toList
 | [],x,h=>aH rfl h
 | [a],x,_=>by simp[zck]
 | a::b::r,x,_=>by
  have:=lP sep (b::r) x (by simp);show a.data.toList++sep.data.toList++zck sep ((b::r)++[x])=_;rw[this];simp[zck,dM]
theorem aEj (h:l[k+1]?=some x):zck sep (l.take (k+2))=zck sep (l.take (k+1))++sep.data.toList++x.data.toList:=by
 rw[za9 h,lP];intro e;have h0:(l.take (k+1)).length=0:=by rw[e];rfl
 have hk:=(dJ.1 h).1;rw[d6] at h0;omega
theorem rI (h:l[0]?=some x):zck sep (l.take 1)=x.data.toList:=by
 rw[show (1:Nat)=0+1 from rfl,za9 h];simp[zck]
theorem fY (h:l.length=0):ByteArray.empty=za4 sep l:=by
 rw[d5 h];rfl
theorem rD (h:l[0]?=some x) (hl:l.length=1):x=za4 sep l:=by
 have:=rI (sep:=sep) h;rw[dL (by omega)] at this;unfold za4;rw[this]
theorem aGe {bs:List UInt8} (h:bs=zck sep (l.take (k+1))) (hl:l.length<=k+1):(⟨bs.toArray⟩:ByteArray)=za4 sep l:=by
 rw[h,dL hl];rfl
theorem zbq (x:ByteArray):x.data.toList.length=x.size:=by simp
theorem sZ {sep:ByteArray} (h:sep.size=1):∀ l:List ByteArray,(zck sep l).length<=zac l+l.length
 | []=>by simp[zck]
 | [x]=>by simp[zck,zac]
 | x::y::r=>by
  have:=sZ h (y::r);simp only[zck,c7,zbq,zac,jS,List.sum_cons,dD] at*;omega
theorem zaC (h:sep.size=1) (l:List ByteArray):(za4 sep l).size<=zac l+l.length:=by
 have:=sZ h l;show (zck sep l).toArray.size<=_;simpa using this
def bts (s:ByteArray) (p:Nat):List UInt8:=s.data.toList.drop p
theorem zaN (h:p<s.size):bts s p=s.get! p::bts s (p+1):=by
 unfold bts;have h':p<s.data.toList.length:=by simpa using h
 rw[uX h'];congr 1;simp[ByteArray.get!,h]
theorem pY {a b:Nat} (h:UInt8.ofNat a=UInt8.ofNat b):a % 256=b % 256:=by
 have:=aG UInt8.toNat h;simpa using this
theorem zfu {b:UInt8} (h:b.toNat=n % 256):b=UInt8.ofNat n:=by
 apply jR.1;simpa using h
theorem za5:(s.extract p s.size).data.toList=bts s p:=by
 unfold bts;simp only[uO,uZ,List.extract];rw[dL];simp
theorem aOh (h:hasP (s.extract p s.size) wide=true):∃ r,bts s p=239::191::189::r:=by
 unfold hasP at h;simp only[cY,aI] at h;have e:=aG (λb:ByteArray=>b.data.toList) h.2;simp only[uO,uZ,List.extract] at e;have e2:(s.extract p s.size).data.toList.take 3=[239,191,189]:=by
  have e3:List.take wide.size (List.take (s.size-p) (List.drop p s.data.toList))=[239,191,189]:=by simpa [wide] using e
  rw[show wide.size=3 from rfl] at e3;simpa using e3
 rw[za5] at e2;refine⟨(bts s p).drop 3,?_⟩;have:=(d8 3 (bts s p)).symm;rw[e2] at this;simpa using this
theorem eY (h:s.size<=p):bts s p=[]:=by unfold bts;rw[jO];simpa using h
theorem aRc {a:UInt8} (h:bts s p=a::r):p<s.size:=by
 rcases c8 p s.size with h' | h'
 · exact h'
 rw[eY h'] at h;cases h
theorem rA {a:UInt8} (h:bts s p=a::r):s.get! p=a/\bts s (p+1)=r:=by
 rw[zaN (aRc h)] at h;injection h with h1 h2;exact⟨h1,h2⟩
theorem fK (s:ByteArray) (p:Nat) (h:p<s.size):
 (bts s p=encR (decR s p)++bts s (p+decW s p))\/(decR s p=65533/\decW s p=1/\hasP (s.extract p s.size) wide=false):=by
 by_cases hw:hasP (s.extract p s.size) wide=true
 · left;obtain ⟨r,hr⟩:=aOh hw;obtain ⟨g0,b1⟩:=rA hr;obtain ⟨g1,b2⟩:=rA b1;obtain ⟨g2,b3⟩:=rA b2;have l2:=aRc b2;have hd:Utf8.decode s p=(65533,3):=by
    unfold Utf8.decode;simp only[uB,g0,g1,show p+2=p+1+1 from rfl,g2,show p+1<s.size by omega,l2,decide_true,uF];simp[Utf8.valid]
   have e1:decR s p=65533:=(by unfold decR;rw[hd]);have e2:decW s p=3:=(by unfold decW;rw[hd]);rw[e1,e2,hr,show p+3=p+1+1+1 from rfl,b3];rfl
 have hw:hasP (s.extract p s.size) wide=false:=by simpa using hw
 have l0:(s.get! p).toNat<256:=uL _;have l1:(s.get! (p+1)).toNat<256:=uL _;have l2:(s.get! (p+2)).toNat<256:=uL _;have l3:(s.get! (p+3)).toNat<256:=uL _;have c0:=zaN h;unfold decR decW;unfold Utf8.decode;simp only[uB,Utf8.runeError,cY,aI,beq_iff_eq];by_cases h1:(s.get! p).toNat<128
 · left;rw[aB h1];show _=encR (s.get! p).toNat++_;unfold encR;rw[aB (show (s.get! p).toNat<=127 by omega),c0];congr 1;exact zfu (by omega)
 rw[aA h1];by_cases h2:(s.get! p).toNat / 32=6/\p+1<s.size/\(s.get! (p+1)).toNat / 64=2
 · rw[aB h2];have c1:=zaN h2.2.1;by_cases h3:(s.get! p).toNat % 32*64+(s.get! (p+1)).toNat % 64>=128
   · left;rw[aB h3];show _=encR ((s.get! p).toNat % 32*64+(s.get! (p+1)).toNat % 64)++_;unfold encR;rw[aA (by omega),aB (by omega),c0,c1];show _=_::_::_;congr 1
     · exact zfu (by omega)
     congr 1;exact zfu (by omega)
   right;rw[aA h3];exact⟨rfl,rfl,hw⟩
 rw[aA h2];by_cases h4:((s.get! p).toNat / 16=14/\p+1<s.size/\(s.get! (p+1)).toNat / 64=2)/\p+2<s.size/\(s.get! (p+2)).toNat / 64=2
 · rw[aB h4];have c1:=zaN h4.1.2.1;have c2:=zaN h4.2.1;by_cases h3:(s.get! p).toNat % 16*4096+(s.get! (p+1)).toNat % 64*64+(s.get! (p+2)).toNat % 64>=2048/\Utf8.valid (((s.get! p).toNat % 16*4096+(s.get! (p+1)).toNat % 64*64+(s.get! (p+2)).toNat % 64:Nat):Int)=true
   · left;rw[aB h3];show _=encR ((s.get! p).toNat % 16*4096+(s.get! (p+1)).toNat % 64*64+(s.get! (p+2)).toNat % 64)++_;have hv:=h3.2;unfold Utf8.valid at hv;simp only[d7,cY,aI] at hv;unfold encR;rw[aA (by omega),aA (by omega),aB (by omega),c0,c1,c2];show _=_::_::_::_;congr 1
     · exact zfu (by omega)
     congr 1
     · exact zfu (by omega)
     congr 1;exact zfu (by omega)
   right;rw[aA h3];exact⟨rfl,rfl,hw⟩
 rw[aA h4];by_cases h5:(((s.get! p).toNat / 8=30/\p+1<s.size/\(s.get! (p+1)).toNat / 64=2)/\p+2<s.size/\(s.get! (p+2)).toNat / 64=2)/\p+3<s.size/\(s.get! (p+3)).toNat / 64=2
 · rw[aB h5];have c1:=zaN h5.1.1.2.1;have c2:=zaN h5.1.2.1;have c3:=zaN h5.2.1;by_cases h3:(s.get! p).toNat % 8*262144+(s.get! (p+1)).toNat % 64*4096+(s.get! (p+2)).toNat % 64*64+(s.get! (p+3)).toNat % 64>=65536/\Utf8.valid (((s.get! p).toNat % 8*262144+(s.get! (p+1)).toNat % 64*4096+(s.get! (p+2)).toNat % 64*64+(s.get! (p+3)).toNat % 64:Nat):Int)=true
   · left;rw[aB h3];show _=encR ((s.get! p).toNat % 8*262144+(s.get! (p+1)).toNat % 64*4096+(s.get! (p+2)).toNat % 64*64+(s.get! (p+3)).toNat % 64)++_;have hv:=h3.2;unfold Utf8.valid at hv;simp only[d7,cY,aI] at hv;unfold encR;rw[aA (by omega),aA (by omega),aA (by omega),aB (by omega),c0,c1,c2,c3];show _=_::_::_::_::_;congr 1
     · exact zfu (by omega)
     congr 1
     · exact zfu (by omega)
     congr 1
     · exact zfu (by omega)
     congr 1;exact zfu (by omega)
   right;rw[aA h3];exact⟨rfl,rfl,hw⟩
 right;rw[aA h5];exact⟨rfl,rfl,hw⟩
theorem aU3 {c:Nat} {x:UInt8} (hx:x.toNat<128) (h:x∈encR c):c=x.toNat:=by
 unfold encR at h;split at h
 · simp at h;rw[h];simp;omega
 exfalso;have key:∀ n:Nat,128<=n % 256->x≠UInt8.ofNat n:=λn hn e=>by rw[e] at hx;simp at hx;omega
 split at h
 · simp only[dH,jA,or_false] at h;rcases h with h | h<;>exact key _ (by omega) h
 split at h
 · simp only[dH,jA,or_false] at h;rcases h with h | h | h<;>exact key _ (by omega) h
 split at h
 · simp only[dH,jA,or_false] at h;rcases h with h | h | h | h<;>exact key _ (by omega) h
 simp only[dH,jA,or_false] at h;rcases h with h | h | h<;>(rw[h] at hx;revert hx;decide)
inductive Tok:List UInt8->List UInt8->Prop where
 | esc {c:UInt8}:c=34\/c=92->Tok [92,c] [c]
 | nl:Tok [92,110] [10]
 | hex {b:UInt8}:Tok [92,120,hexB (b.toNat / 16),hexB (b.toNat % 16)] [b]
 | raw {c:Nat}:c<1114112->c≠34->c≠92->c≠10->Tok (encR c) (encR c)
theorem zdj (h:p<s.size):zG s p=(s.get! p).toNat:=by
 unfold zG;congr 1;simp[ByteArray.get!,h];rfl
theorem zdf (h:p<s.size):∃ src,Tok (zcZ s p) src/\bts s p=src++bts s (p+decW s p):=by
 have hl:=zbQ s p;rcases fK s p h with e | ⟨e1,e2,e3⟩
 · by_cases h1:decR s p=34\/decR s p=92
   · refine⟨encR (decR s p),?_,e⟩;rw[aAq h1];rcases h1 with h1 | h1<;>rw[h1]
     · exact .esc (.inl rfl)
     exact .esc (.inr rfl)
   by_cases h2:decR s p=10
   · refine⟨encR (decR s p),?_,e⟩;rw[qX h1 h2,h2];exact .nl
   by_cases h3:decR s p=65533/\hasP (s.extract p s.size) wide=false
   · exfalso;have hr:bts s p=239::191::189::bts s (p+decW s p):=(by rw[e,h3.1];rfl);have:hasP (s.extract p s.size) wide=true:=by
      unfold hasP;have e4:=za5 (s:=s) (p:=p);rw[hr] at e4;have hsz:3<=(s.extract p s.size).size:=by
       have:=aG List.length e4;simp only[vN,dD] at this;show 3<=(s.extract p s.size).data.size;omega
      have hx:(s.extract p s.size).extract 0 wide.size=wide:=by
       apply uG;apply jW.1;rw[uO,uZ,List.extract,e4];rfl
      rw[hx,show wide.size=3 from rfl,aE hsz];simp
     rw[h3.2] at this;cases this
   refine⟨encR (decR s p),?_,e⟩;rw[pG h1 h2 h3];exact .raw hl (λe=>h1 (.inl e)) (λe=>h1 (.inr e)) h2
 refine⟨[s.get! p],?_,?_⟩
 · rw[yI (by rw[e1];decide) (by rw[e1];decide) ⟨e1,e3⟩,zdj h];exact .hex
 rw[e2];exact zaN h
def elen (b:UInt8):Nat:=if b.toNat<192 then 1 else if b.toNat<224 then 2 else if b.toNat<240 then 3 else 4
def olen:List UInt8->Nat
 | []=>0
 | b::r=>if b=92 then(if r.head?=some 120 then 4 else 2) else elen b
theorem fS {c:Nat} (hc:c<1114112):∃ b r,encR c=b::r/\(encR c).length=elen b/\(b=92->c=92)/\(b=34->c=34):=by
 have ne:∀ n m:Nat,m<128->128<=n % 256->UInt8.ofNat n≠UInt8.ofNat m:=λn m hm hn e=>by have:=pY e;omega
 unfold encR elen;split
 · refine⟨_,_,rfl,?_,?_,?_⟩
   · have:(UInt8.ofNat (c % 256)).toNat<192:=(by simp;omega);rw[aB this];rfl
   · intro e;have:=pY (b:=92) e;omega
   intro e;have:=pY (b:=34) e;omega
 split
 · refine⟨_,_,rfl,?_,?_,?_⟩
   · have h1:¬(UInt8.ofNat (192+c / 64 % 256)).toNat<192:=(by simp;omega);have h2:(UInt8.ofNat (192+c / 64 % 256)).toNat<224:=(by simp;omega);rw[aA h1,aB h2];rfl
   · intro e;exact aH e (ne _ 92 (by decide) (by omega))
   intro e;exact aH e (ne _ 34 (by decide) (by omega))
 split
 · refine⟨_,_,rfl,?_,?_,?_⟩
   · have h1:¬(UInt8.ofNat (224+c / 4096 % 256)).toNat<192:=(by simp;omega);have h2:¬(UInt8.ofNat (224+c / 4096 % 256)).toNat<224:=(by simp;omega);have h3:(UInt8.ofNat (224+c / 4096 % 256)).toNat<240:=(by simp;omega);rw[aA h1,aA h2,aB h3];rfl
   · intro e;exact aH e (ne _ 92 (by decide) (by omega))
   intro e;exact aH e (ne _ 34 (by decide) (by omega))
 split
 · refine⟨_,_,rfl,?_,?_,?_⟩
   · have h1:¬(UInt8.ofNat (240+c / 262144 % 256)).toNat<192:=(by simp;omega);have h2:¬(UInt8.ofNat (240+c / 262144 % 256)).toNat<224:=(by simp;omega);have h3:¬(UInt8.ofNat (240+c / 262144 % 256)).toNat<240:=(by simp;omega);rw[aA h1,aA h2,aA h3];rfl
   · intro e;exact aH e (ne _ 92 (by decide) (by omega))
   intro e;exact aH e (ne _ 34 (by decide) (by omega))
 refine⟨_,_,rfl,by decide,λe=>aH e (by decide),λe=>aH e (by decide)⟩
theorem aKh {o s:List UInt8} (h:Tok o s) (r:List UInt8):olen (o++r)=o.length:=by
 cases h with
 | esc h=>rcases h with h | h<;>rw[h]<;>rfl
 | nl=>rfl
 | hex=>rfl
 | raw hc _ h92 _=>
  obtain ⟨b,t,e,el,hb,_⟩:=fS hc;rw[el,e];show (if b=92 then _ else elen b)=_;rw[aA (λe=>h92 (hb e))]
theorem aC8:∀ a:Nat,a<16->∀ b:Nat,b<16->hexB a=hexB b->a=b:=by decide
theorem aT5 {o s t:List UInt8} (h:Tok o s) (h':Tok o t):s=t:=by
 have hh:∀ {c:Nat} {x:UInt8} {l:List UInt8},c<1114112->c≠92->encR c=92::l->False:=λ{c _ l} hc hn e=>by
  obtain ⟨b,t,e',_,hb,_⟩:=fS hc;rw[e'] at e;injection e with e _;exact hn (hb e)
 generalize ho:o=o' at h';cases h with
 | esc h=>
  cases h' with
  | esc _=>cases ho;rfl
  | nl=>injection ho with _ ho;injection ho with ho;rw[ho] at h;exact aH h (by decide)
  | hex=>cases ho
  | raw hc _ h92 _=>exact(hh (x:=0) hc h92 ho.symm).elim
 | nl=>
  cases h' with
  | esc h=>injection ho with _ ho;injection ho with ho;rw[<-ho] at h;exact aH h (by decide)
  | nl=>rfl
  | hex=>cases ho
  | raw hc _ h92 _=>exact(hh (x:=0) hc h92 ho.symm).elim
 | @hex a=>
  cases h' with
  | esc h=>cases ho
  | nl=>cases ho
  | @hex b=>
   injection ho with _ ho;injection ho with _ ho;injection ho with h1 ho;injection ho with h2 _;have la:=uL a;have lb:=uL b;have e1:=aC8 _ (by omega) _ (by omega) h1;have e2:=aC8 _ (by omega) _ (by omega) h2;have:a=b:=jR.1 (by omega);rw[this]
  | raw hc _ h92 _=>exact(hh (x:=0) hc h92 ho.symm).elim
 | raw hc _ h92 _=>
  cases h' with
  | esc h=>exact(hh (x:=0) hc h92 ho).elim
  | nl=>exact(hh (x:=0) hc h92 ho).elim
  | hex=>exact(hh (x:=0) hc h92 ho).elim
  | raw _ _ _ _=>exact ho
theorem aSg {o s r t:List UInt8} (h:Tok o s):o++r≠34::t:=by
 cases h with
 | esc _=>intro e;injection e with e _;revert e;decide
 | nl=>intro e;injection e with e _;revert e;decide
 | hex=>intro e;injection e with e _;revert e;decide
 | raw hc h34 _ _=>
  obtain ⟨b,u,e,_,_,hb⟩:=fS hc;rw[e];intro e';injection e' with e' _;exact h34 (hb e')
theorem aWf {o s o' s' r r':List UInt8} (h:Tok o s) (h':Tok o' s') (e:o++r=o'++r'):s=s'/\r=r':=by
 have hl:o.length=o'.length:=by rw[<-aKh h r,<-aKh h' r',e]
 obtain ⟨e1,e2⟩:=List.append_inj e hl;subst e1;exact⟨aT5 h h',e2⟩
theorem aKg:∀ (n:Nat) (s t:ByteArray) (p q:Nat) (r r':List UInt8),s.size-p=n->zT s p++34::r=zT t q++34::r'->bts s p=bts t q/\r=r':=by
 intro n
 induction n using Nat.strongRecOn with
 | _ n ih=>
  intro s t p q r r' hn e;rcases c8 p s.size with h | h<;>rcases c8 q t.size with h' | h'
  · obtain ⟨s1,k1,b1⟩:=zdf h;obtain ⟨s2,k2,b2⟩:=zdf h';rw[za1 h,za1 h',dM,dM] at e;obtain ⟨e1,e2⟩:=aWf k1 k2 e;have hp:=zF s p;obtain ⟨e3,e4⟩:=ih _ (by omega) s t _ _ r r' rfl e2;rw[b1,b2,e1,e3];exact⟨rfl,e4⟩
  · obtain ⟨s1,k1,_⟩:=zdf h;rw[za1 h,zbL h',dM] at e;exact(aSg k1 e).elim
  · obtain ⟨s2,k2,_⟩:=zdf h';rw[zbL h,za1 h',dM] at e;exact(aSg k2 e.symm).elim
  rw[zbL h,zbL h'] at e;injection e with _ e;rw[eY h,eY h'];exact⟨rfl,e⟩
theorem aSu {s t:ByteArray} (h:bts s 0=bts t 0):s=t:=by
 unfold bts at h;simp only[j7] at h;exact uG (jW.1 h)
theorem aEv {s t:ByteArray} (h:zak s=zak t):s=t:=by
 have e:=aG (λb:ByteArray=>b.data.toList) h;simp only[zak,zaU] at e;injection e with _ e;exact aSu (aKg _ s t 0 0 [] [] rfl e).1
theorem xT {p k:Nat}:(s.extract p s.size).get! k=s.get! (p+k):=by
 have hsz:(s.extract p s.size).size=s.size-p:=by simp
 rcases c8 (p+k) s.size with h | h
 · have h1:=zaN (s:=s.extract p s.size) (p:=k) (by omega);have h2:=zaN h;have e:bts (s.extract p s.size) k=bts s (p+k):=by
    show (s.extract p s.size).data.toList.drop k=_;rw[za5];unfold bts;rw[wE]
   rw[e,h2] at h1;injection h1 with h1 _;exact h1.symm
 have e1:(s.extract p s.size).get! k=default:=by
  show (s.extract p s.size).data[k]! =_;exact getElem!_neg _ _ (by simpa using (by omega:s.size-p<=k))
 have e2:s.get! (p+k)=default:=by
  show s.data[p+k]! =_;exact getElem!_neg _ _ (by simpa using h)
 rw[e1,e2]
theorem fA {p q:Nat}:Utf8.decode (s.extract p s.size) q=Utf8.decode s (p+q):=by
 have hsz:(s.extract p s.size).size=s.size-p:=by simp
 have hc:∀ k,decide (q+k<s.size-p)=decide (p+q+k<s.size):=λk=>by rw[decide_eq_decide];omega
 unfold Utf8.decode;simp only[xT,hsz,hc,<-wA]
theorem gJ {p q:Nat}:decW (s.extract p s.size) q=decW s (p+q):=by unfold decW;rw[fA]
theorem eS {p q:Nat}:decR (s.extract p s.size) q=decR s (p+q):=by unfold decR;rw[fA]
def cutB (s:ByteArray) (p:Nat):ByteArray:=s.extract p (p+decW s p)
theorem aDo:(cutB s p).data.toList=(bts s p).take (decW s p):=by
 unfold cutB bts;simp only[uO,uZ,List.extract];congr 1;omega
theorem zbn (h:p<s.size):(cutB s p).size=decW s p:=by
 have:=zae s p h;unfold cutB;simp;omega
theorem zeM (s:ByteArray) (p:Nat):(bts s p).length=s.size-p:=by unfold bts;simp
theorem aCp (h:p<s.size) (e:bts s p=encR (decR s p)++bts s (p+decW s p)):(cutB s p).data.toList=encR (decR s p):=by
 have hw:=zae s p h;have hl:=aG List.length e;rw[c7,zeM,zeM] at hl;rw[aDo,e,vU (by omega)]
theorem aLm (h:p<s.size) (h1:decR s p=65533) (h2:¬cutB s p=wide):decW s p=1/\hasP (s.extract p s.size) wide=false:=by
 rcases fK s p h with e | ⟨_,e2,e3⟩
 · exfalso;refine h2 (uG (jW.1 ?_));rw[aCp h e,h1];rfl
 exact⟨e2,e3⟩
theorem yR (h:p<s.size) (h1:¬(decR s p=65533/\¬cutB s p=wide)):(cutB s p).data.toList=encR (decR s p):=by
 rcases fK s p h with e | ⟨e1,e2,e3⟩
 · exact aCp h e
 exfalso;have hw:cutB s p=wide:=by
  by_cases hw:cutB s p=wide
  · exact hw
  exact aH ⟨e1,hw⟩ h1
 have:=zbn h;rw[hw,e2] at this;exact aH this (by decide)
theorem rq_1 (h:p<s.size) (h1:decR s p=65533) (h2:¬cutB s p=wide):zcZ s p=[92,120,hexB (zG s p / 16),hexB (zG s p % 16)]:=
 yI (by rw[h1];decide) (by rw[h1];decide) ⟨h1,(aLm h h1 h2).2⟩
theorem rq_2 (h:p<s.size) (h1:decR s p=34\/decR s p=92):zcZ s p=92::(cutB s p).data.toList:=by
 rw[aAq h1,yR h (λe=>by rcases h1 with h1 | h1<;>(rw[h1] at e;exact aH e.1 (by decide)))];rfl
theorem rq_4 (h:p<s.size) (h1:¬(decR s p=65533/\¬cutB s p=wide)) (h2:¬(decR s p=34\/decR s p=92)) (h3:¬decR s p=10):zcZ s p=(cutB s p).data.toList:=by
 rw[yR h h1];by_cases h4:decR s p=65533/\hasP (s.extract p s.size) wide=false
 · exfalso;have hg:=yR h h1;rw[h4.1] at hg;refine aH h4.2 ?_;have hc:cutB s p=wide:=uG (jW.1 hg);have hz:=zbn h;rw[hc] at hz;have hw:decW s p=3:=hz.symm;have hle:=zae s p h;have e:(s.extract p s.size).extract 0 wide.size=wide:=by
    rw[<-hc];unfold cutB;rw[hw];apply uG;apply jW.1;simp only[uO,uZ,List.extract,j7,Nat.sub_zero,cR];rw[List.take_take];congr 1;omega
   unfold hasP;rw[e];have:wide.size=3:=rfl;rw[this,aE (show 3<=(s.extract p s.size).size by simp;omega)];simp
 exact pG h2 h3 h4
theorem aJ2 (h:n<16):hexd.extract n (n+1)=⟨#[hexB n]⟩:=by
 revert h;revert n;decide
theorem zcO {w:List UInt8} (hq:34::zT s 0=o.data.toList++zT s p) (h:p<s.size) (hp:zcZ s p=w) {o':ByteArray} (ho:o'.data.toList=o.data.toList++w):34::zT s 0=o'.data.toList++zT s (p+decW s p):=by
 rw[hq,za1 h,hp,ho,dM]
theorem aH8 (hq:34::zT s 0=o.data.toList++zT s p) (h:s.size<=p):o++(⟨#[34]⟩:ByteArray)=zak s:=by
 rw[zbL h,jN] at hq;apply uG;apply jW.1;rw[ByteArray.data_append,Array.toList_append,<-hq];show _=(zaU s).toArray.toList;unfold zaU;simp
theorem aKf (h:p<s.size) (hu:(s.extract p (p+decW s p))[0]?=some u):u.toNat=zG s p:=by
 have hz:0<(cutB s p).size:=by rw[zbn h];have:=zF s p;omega
 have e1:=zM hu;rw[e1];show zG (cutB s p) 0=_;rw[zdj hz,zdj h];congr 1;have h1:=zaN hz;have h2:=zaN h;have e:bts (cutB s p) 0=(bts s p).take (decW s p):=by
  show (cutB s p).data.toList.drop 0=_;rw[j7,aDo]
 rw[h1,h2] at e;obtain ⟨w,hw⟩:∃ w,decW s p=w+1:=⟨decW s p-1,by have:=zF s p;omega⟩;rw[hw,vO] at e;injection e
theorem zeN (a b:ByteArray):(a++b).data.toList=a.data.toList++b.data.toList:=by simp
theorem aRl {n m:Nat} (hn:n<16) (hm:m<16):(o++(⟨#[92,120]⟩:ByteArray)++hexd.extract n (n+1)++hexd.extract m (m+1)).data.toList=o.data.toList++[92,120,hexB n,hexB m]:=by
 rw[aJ2 hn,aJ2 hm];simp only[zeN,dM];rfl
end Lp
