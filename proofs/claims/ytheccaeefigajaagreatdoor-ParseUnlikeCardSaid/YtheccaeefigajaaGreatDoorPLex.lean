import Derived.Lib.AppendStr
import Derived.Lib.UnsafeStr
import Derived.Test.YtheccaeefigajaaGreatDoorDG
set_option linter.unusedVariables false
namespace Lp
open Go Go.RowKit
open Go.Lib (strCells strCells_eq byteCells byteCells_length run_append_own_string)
abbrev dU8 (b:UInt8):D:=.v (.int .u8 (b.toNat:Int))
theorem zcX {n:Int} {m:Nat} (h:n=(m:Int)) (hm:m<256):D.v (.int .u8 n)=dU8 (UInt8.ofNat m):=by
 have:(UInt8.ofNat m).toNat=m:=by simp[UInt8.toNat_ofNat'];omega
 unfold dU8;rw[this,h]
theorem newRow_at {P:Program} {E:TypeId} {c:Array Value} {a:Addr} {w w1:World} (h:(newRow E c).run P w=.ok a w1):a=⟨w.heap.size,0,none⟩:=by
 simp[newRow] at h
 exact h.1.symm
theorem append_moved_s {P:Program} {w w':World} {t u ty E n cap:Nat} {A:Option Addr} {s:ByteArray} {v':Value} {i:TypeInfo} (ht:P.underlying t=some (.slice E)) (hu:P.underlying u=some .string) (hi:P.info? E=some i) (hn:cap<n+s.size) (hm:n+s.size≤maxLen)
 (h:(Builtin.append_ #[t,u] ty #[.slice A n cap,.string s]).run P w=.ok v' w'):Ext w w'∧v'.ownBlock=some w.heap.size:=by
 simp[Builtin.append_,run_underlying ht,run_underlying hu,Go.sizeOf,typeInfo,hi,Builtin.lenOf,show ¬n+s.size≤cap by omega] at h
 have fin:∀ {W:World} {k:Nat} {f:Addr→World→Result Value},Ext w W→W.heap.size=w.heap.size→(∀ a w1 v w2,f a w1=.ok v w2→w2=w1∧v.ownBlock=some a.block)→((Sem.run P (Builtin.firstCells i.size n (Value.slice A n cap)) W).andThen fun a w'=>
  (Sem.run P (Builtin.firstCells i.size s.size (.string s)) w').andThen fun a_1 w'=>
   (Sem.run P (zeroValue E) w').andThen fun a_2 w'=>
    (Sem.run P (newRow E (a++(a_1++Builtin.zeroCells a_2.cells k))) w').andThen f)=.ok v' w'→Ext w w'∧v'.ownBlock=some w.heap.size:=by
  intro W k f hE hsz hf h
  obtain ⟨a,w1,h1,h⟩:=zdd h
  obtain ⟨a1,w2,h2,h⟩:=zdd h
  obtain ⟨a2,w3,h3,h⟩:=zdd h
  obtain ⟨a3,w4,h4,h⟩:=zdd h
  have e1:=firstCells_same h1
  have e2:w2=w1:=by simp[Builtin.firstCells] at h2;exact h2.2.symm
  have e3:=zero_same h3
  have e4:=newRow_ext h4
  have e5:=newRow_at h4
  have e6:=hf _ _ _ _ h
  subst e1;subst e2;subst e3
  rw[e6.1]
  exact⟨hE.trans e4,by rw[e6.2,e5,hsz]⟩
 have hcond:¬(9223372036854775807<(n:Int)+(s.size:Int)∧i.bytes=0):=by
  rintro ⟨h1,_⟩;unfold maxLen at hm;omega
 rw[if_neg hcond] at h
 split at h
 · obtain ⟨_,_,h,_⟩:=zdd h;obtain ⟨_,_,_,h⟩:=zdd h;cases h
 · split at h
   · refine fin (W:=w) (k:=0) (f:=fun a w'=>Result.ok (.slice (some a) (n+s.size) 0) w') Ext.rfl' rfl (fun _ _ _ _ h=>by cases h;exact⟨rfl,rfl⟩) ?_
     simpa [Builtin.firstCells] using h
   · refine fin (W:=w.drew) (k:=(Question.appendCap (n+s.size) cap E).cut (w.tape w.drawn (Question.appendCap (n+s.size) cap E))-(n+s.size)) (f:=fun a w'=>Result.ok (.slice (some a) (n+s.size) ((Question.appendCap (n+s.size) cap E).cut (w.tape w.drawn (Question.appendCap (n+s.size) cap E)))) w') (Ext.drew w) rfl (fun _ _ _ _ h=>by cases h;exact⟨rfl,rfl⟩) ?_
     simpa [Builtin.firstCells] using h
theorem append_inplace_s {P:Program} {w w':World} {t u ty E n cap:Nat} {A:Option Addr} {s:ByteArray} {v':Value} {i:TypeInfo} (ht:P.underlying t=some (.slice E)) (hu:P.underlying u=some .string) (hi:P.info? E=some i) (hn:n+s.size≤cap)
 (h:(Builtin.append_ #[t,u] ty #[.slice A n cap,.string s]).run P w=.ok v' w'):v'=.slice A (n+s.size) cap:=by
 simp[Builtin.append_,run_underlying ht,run_underlying hu,Go.sizeOf,typeInfo,hi,Builtin.lenOf,hn] at h
 obtain ⟨a,w1,h1,h⟩:=zdd h
 cases A with
 | none=>simp at h;exact h.1.symm
 | some ad=>
  simp at h
  obtain ⟨_,_,_,h⟩:=zdd h
  cases h;rfl
theorem strCells_get {s:ByteArray}:∀ u∈strCells s,u.oneCell'=true:=by
 intro u hu
 rw[strCells_eq] at hu
 simp only[byteCells,List.mem_map] at hu
 obtain ⟨b,_,rfl⟩:=hu
 rfl
theorem flat_one:∀ {us:List Value},(∀ u∈us,u.oneCell'=true)→us.flatMap vcs=us
 | [],_=>rfl
 | u::r,h=>by rw[List.flatMap_cons,vcs_one (h u List.mem_cons_self),flat_one (fun x hx=>h x (List.mem_cons_of_mem _ hx))];rfl
theorem repE_bytes {w:World} {F:Nat→Prop}:∀ l:List UInt8,RepE w F 1 (l.map dU8) (byteCells l)
 | []=>rfl
 | b::r=>⟨_,_,rfl,rfl,One.one rfl,rfl,repE_bytes r⟩
section
variable {P:Program} {ty:TypeId} {K:Kd} {H:List Hp}
theorem ef_append_s {t u:TypeId} {x y:Operand} {i:Nat} {v:Value} {T:TypeId} {bs:List UInt8} {s:ByteArray} (hx:opO K x=some v) (hm:nth H i=some (.sl v 1 T (bs.map dU8))) (hy:opS K y=some s) (ht:P.underlying t=some (.slice T)) (hu:P.underlying u=some .string)
 (hi':∃ i,P.info? T=some i∧i.zero=some (.int .u8 0)∧i.size=1∧i.bytes=1) (hlen:bs.length+s.size≤140737488355328):
 Ef P (.call { callee:=.builtin .append,args:=#[x,y],argTypes:=#[t,u] }) ty K H (fun d H'=>∃ v',d=.ov v'∧H'=H.set i (.sl v' 1 T ((bs++s.data.toList).map dU8))):=
 ⟨fun C ρ w F hk gd=>by
  obtain ⟨us,hus,hown⟩:=gd.h.ok _ (zaW hm)
  have hul:=hus.len
  rw[List.length_map] at hul
  obtain ⟨i,q1,q2,q3,q4⟩:=hi'
  have hmx:us.length+s.size≤maxLen:=by unfold maxLen;omega
  obtain ⟨v',w',r1,r2,r3,_⟩:=run_append_own_string (P:=P) (w:=w) 0 t u ty T i ht hu q1 q2 q3 q4 v us.length _ hown.1 s hmx (by omega) (Nat.zero_le _)
  refine EOp.of_run (v:=v') (w':=w') (by
   have e1:=hk.opO hx
   have e2:=hk.opS hy
   simp[execOp,zaH,resolve,invoke,builtin,e1,e2,r1]) ?_
  obtain ⟨A,cp,ev,_⟩:=hown.sl.capOk
  have hblk:v'.ownBlock=v.ownBlock∨v'.ownBlock=some w.heap.size:=by
   rw[ev] at r1
   by_cases hin:us.length+s.size≤cp
   · left;rw[append_inplace_s ht hu q1 hin r1,ev];cases A<;>rfl
   · right;exact(append_moved_s ht hu q1 (by omega) hmx r1).2
  have hone:∀ x∈strCells s,(vcs x).length=1:=fun x hx=>by rw[vcs_one (strCells_get x hx)];rfl
  have hsz:(strCells s).length=s.size:=by rw[strCells_eq,byteCells_length];simp
  have how:Own vcs 1 T w' 0 v' (us++strCells s):=by
   refine⟨?_,fun x hx=>?_⟩
   · rw[List.length_append,hsz,List.flatMap_append,flat_one strCells_get];exact r2
   · rcases List.mem_append.1 hx with hx | hx
     · exact hown.2 x hx
     · exact hone x hx
  have:=gd.turn (h':=.sl v' 1 T ((bs++s.data.toList).map dU8)) hm (fun c hc hn=>r3.block c hc (fun e=>hn e.symm)) r3.size r3.os r3.tape r3.output (Dr.run r1) (fun c e=>by
   rcases hblk with h3 | h3
   · exact .inl (by show v.ownBlock=_;rw[←h3];exact e)
   · have e':v'.ownBlock=some c:=e
     rw[h3] at e';cases e';exact .inr (Nat.le_refl _)) (fun kp=>⟨us++strCells s,by rw[List.map_append,strCells_eq];exact(hus.keep kp).app (repE_bytes _),how⟩)
  exact⟨F,.ov v',_,⟨v',rfl,rfl⟩,⟨rfl,how.one⟩,this.1,this.2⟩⟩
theorem Good.lose {C:Ctx} {H:List Hp} {w w':World} {F:Nat→Prop} {i:Nat} {h:Hp} (g:Good C H w F) (hi:nth H i=some h)
 (hupd:∀ b,b<w.heap.size→¬h.blk b→w'.heap[b]?=w.heap[b]?) (hsz:w.heap.size≤w'.heap.size) (hos:w'.os=w.os) (htp:w'.tape=w.tape) (hout:w'.output=w.output) (hdr:Dr w w'):Good C (H.take i++H.drop (i+1)) w' F∧Keep w F w' F:=by
 have hmem:=zaW hi
 have hp:=(zd hi)
 have gp:=(HSub.perm hp).out _ _ _ g
 have hap:=List.pairwise_cons.1 gp.h.apart
 have hk:Keep w F w' F:=⟨fun _ h=>h,fun b hF hlt=>hupd b hlt (fun e=>(g.h.mine b ⟨h,hmem,e⟩).2 hF)⟩
 refine⟨⟨Nat.le_trans g.size hsz,hos.trans g.os,htp.trans g.tape,hout.trans g.output,Dr.trans g.drawn hdr,fun b hb1 hn=>?_,g.fsub,g.fnew,fun b hF=>Nat.lt_of_lt_of_le (g.flt b hF) hsz,hap.2,fun x hx=>?_,fun b ⟨x,hx,e⟩=>gp.h.mine b ⟨x,List.mem_cons_of_mem _ hx,e⟩⟩,hk⟩
 · rw[hupd b (Nat.lt_of_lt_of_le hb1 g.size) (fun e=>?_)]
   · exact g.frame b hb1 hn
   · rcases (g.h.mine b ⟨h,hmem,e⟩).1 with h1 | h1
     · omega
     · exact hn h1
 · have hox:=gp.h.ok x (List.mem_cons_of_mem _ hx)
   exact Hp.keep hox hk (fun b hb1=>hupd b (Hp.lt hox hb1) (fun e=>hap.1 x hx b e hb1))
theorem p_sliceData {x:Operand} {t:Array TypeId} {i z:Nat} {v:Value} {T:TypeId} {xs:List D} (hx:opO K x=some v) (hm:nth H i=some (.sl v z T xs)) (hn:0<xs.length):Pu P (.call { callee:=.builtin .unsafeSliceData,args:=#[x],argTypes:=t }) ty K H (.v (.pointer (some ⟨bl v,0,none⟩))):=
 ⟨fun ρ w F hk _ hH=>by
  obtain ⟨us,hus,hown⟩:=hH _ (zaW hm)
  have hul:=hus.len
  obtain ⟨cap,r,e,_,_,hc,_⟩:=hown.form (by omega)
  refine EOp.of_run (v:=.pointer (some ⟨bl v,0,none⟩)) (w':=w) ?_ ⟨rfl,rfl⟩
  have e1:=hk.opO hx
  rw[e] at e1
  have hr:=Lib.run_unsafeSliceData_row (P:=P) (w:=w) t ty ⟨bl v,0,none⟩ us.length cap (by omega)
  simp[execOp,zaH,resolve,invoke,builtin,e1,hr]⟩
theorem ef_unsafeString {x y:Operand} {t1 t2 i:Nat} {v:Value} {T:TypeId} {bs:List UInt8} {n:Int} (hx:opD K x=some (.v (.pointer (some ⟨bl v,0,none⟩)))) (hy:opD K y=some (.v (.int .i64 n))) (hn:n=(bs.length:Int)) (hm:nth H i=some (.sl v 1 T (bs.map dU8))) (h0:bs≠[])
 (hp:P.underlying t1=some (.pointer T)) (hc:P.cellsOf T=1):Ef P (.call { callee:=.builtin .unsafeString,args:=#[x,y],argTypes:=#[t1,t2] }) ty K H (fun d H'=>d=.s ⟨bs.toArray⟩∧H'=H.take i++H.drop (i+1)):=
 ⟨fun C ρ w F hk gd=>by
  obtain ⟨us,hus,hown⟩:=gd.h.ok _ (zaW hm)
  have hul:=hus.len
  rw[List.length_map] at hul
  have hpos:0<bs.length:=List.length_pos_iff.2 h0
  obtain ⟨cap,r,e,_,hB,hc1,hc2,hc3⟩:=hown.form (by omega)
  have hmx:bs.length≤9223372036854775807:=by unfold maxLen at hc2;omega
  have hsh:w.shape? (bl v)=some (T,cap):=by
   unfold Box at hB
   simp only[World.shape?,hB]
   simp only[List.size_toArray,hc3,Nat.mul_one]
  have hcell:∀ j x,bs[j]?=some x→w.cell? ⟨bl v,j,none⟩=some (.int .u8 x.toNat):=by
   intro j b hj
   obtain ⟨u,h1,h2,_⟩:=hus.get (k:=j) (x:=dU8 b) (by rw[List.getElem?_map,hj];rfl)
   have:=hown.sl.at_ h1
   have hof:of_ v=0:=by rw[e];rfl
   rw[hof,Nat.zero_add,Nat.mul_one] at this
   have hu:u=.int .u8 (b.toNat:Int):=h2
   subst hu
   exact this.2 0 _ rfl
  have hrun:=Lib.run_unsafeString_row (P:=P) (w:=w) t1 t2 ty T hp hc (bl v) cap hsh bs h0 (by omega) hmx
  subst hn
  have e1:ev ρ x=_:=hk.op hx
  have e2:ev ρ y=_:=hk.op hy
  have hf:∀ k,k≠bl v→(w.freeze ⟨bl v,0,none⟩ bs.length).heap[k]?=w.heap[k]?:=by
   intro k hk'
   unfold World.freeze
   split
   · rfl
   · simp only[Array.getElem?_modify];rw[if_neg (fun h=>hk' h.symm)]
  have hsz:(w.freeze ⟨bl v,0,none⟩ bs.length).heap.size=w.heap.size:=by
   unfold World.freeze;split<;>simp
  have hos:(w.freeze ⟨bl v,0,none⟩ bs.length).os=w.os∧(w.freeze ⟨bl v,0,none⟩ bs.length).tape=w.tape∧(w.freeze ⟨bl v,0,none⟩ bs.length).output=w.output:=by
   unfold World.freeze;split<;>exact⟨rfl,rfl,rfl⟩
  have:=gd.lose (w':=w.freeze ⟨bl v,0,none⟩ bs.length) hm (fun b hb hn=>hf b (fun e'=>hn (by subst e';show v.ownBlock=_;rw[e];rfl))) (Nat.le_of_eq hsz.symm) hos.1 hos.2.1 hos.2.2 (Dr.of (Nat.le_of_eq (freeze_drawn _ _ _).symm))
  refine EOp.of_run (v:=.string ⟨bs.toArray⟩) (w':=w.freeze ⟨bl v,0,none⟩ bs.length) ?_ ⟨F,_,_,⟨rfl,rfl⟩,⟨rfl,?_⟩,this.1,this.2⟩
  · have:=hrun (fun j x hj=>by rw[show (⟨bl v,0,none⟩:Addr).add j=⟨bl v,j,none⟩ by cases j<;>simp[Addr.add]];exact hcell j x hj)
    simp[execOp,zaH,resolve,invoke,builtin,e1,e2,this]
  · show bs.toArray.size≤maxLen
    unfold maxLen;simp;omega⟩
theorem zdX {x:Operand} {t:TypeId} {s:ByteArray} (hx:opS K x=some s) (ht:∀ w,(underlying t).run P w=.ok .string w):Ef P (.range t x) ty K H (fun d H'=>∃ g,d=.v (.pointer (some ⟨g,0,none⟩))∧H'=.it g s 0::H):=
 ⟨fun C ρ w F hk gd=>by
  have e:=hk.opS hx
  refine EOp.of_run (v:=.pointer (some ⟨w.heap.size,0,none⟩)) (w':=w.alloc (.stringIter s 0)) (by simp[execOp,zaH,e,Instr.range,ht]) ?_
  have E:=Ext.alloc w (.stringIter s 0)
  have g':=gd.ext E
  refine⟨F,_,_,⟨w.heap.size,rfl,rfl⟩,rfl,g'.more (heap_alloc_new w _) (fun b hb=>?_),Keep.ext E⟩
  cases hb
  exact⟨gd.size,fun hF=>by have:=gd.flt _ hF;omega,fun hB=>by have:=zeX gd.h hB;omega⟩⟩
def decR (s:ByteArray) (p:Nat):Nat:=(Utf8.decode s p).1
def decW (s:ByteArray) (p:Nat):Nat:=(Utf8.decode s p).2
theorem zdl {x:Operand} {s:ByteArray} {g p i:Nat} (hx:opD K x=some (.v (.pointer (some ⟨g,0,none⟩)))) (hm:nth H i=some (.it g s p)) (hp:p<s.size):
 Ef P (.next x true) ty K H (fun d H'=>d=.tup [.v (.bool true),.v (.int .i64 (p:Int)),.v (.int .i32 (decR s p:Int))]∧H'=H.set i (.it g s (p+decW s p))):=
 ⟨fun C ρ w F hk gd=>by
  have e:ev ρ x=_:=hk.op hx
  have hb:w.heap[g]?=some (.stringIter s p):=gd.h.ok _ (zaW hm)
  have hlt:=(Array.getElem?_eq_some_iff.1 hb).1
  refine EOp.of_run (v:=.tuple #[.bool true,.int .i64 (p:Int),.int .i32 (decR s p:Int)]) (w':={ w with heap:=w.heap.setIfInBounds g (.stringIter s (p+decW s p)) }) ?_ ?_
  · simp[execOp,zaH,e,Instr.next,getObj,setObj,Sem.run,hb,hp,decR,decW,goInt]
  have:=gd.turn (h':=.it g s (p+decW s p)) (w':={ w with heap:=w.heap.setIfInBounds g (.stringIter s (p+decW s p)) }) hm (fun b _ hn=>by
   have:¬g=b:=hn
   simp only[Array.getElem?_setIfInBounds];rw[if_neg this]) (by simp) rfl rfl rfl (Dr.of (Nat.le_refl _)) (fun b hb=>.inl hb) (fun _=>by
   show _=_
   simp only[Array.getElem?_setIfInBounds,if_true,hlt])
  exact⟨F,_,_,⟨rfl,rfl⟩,⟨_,rfl,_,_,rfl,rfl,_,_,rfl,rfl,_,_,rfl,rfl,rfl⟩,this.1,this.2⟩⟩
theorem zdO {x:Operand} {s:ByteArray} {g p i:Nat} (hx:opD K x=some (.v (.pointer (some ⟨g,0,none⟩)))) (hm:nth H i=some (.it g s p)) (hp:s.size≤p):Pu P (.next x true) ty K H (.tup [.v (.bool false)]):=
 ⟨fun ρ w F hk _ hH=>by
  have e:ev ρ x=_:=hk.op hx
  have hb:w.heap[g]?=some (.stringIter s p):=hH _ (zaW hm)
  refine EOp.of_run (v:=.tuple #[.bool false]) (w':=w) ?_ ⟨rfl,_,rfl,_,_,rfl,rfl,rfl⟩
  simp[execOp,zaH,e,Instr.next,getObj,Sem.run,hb,show ¬p<s.size by omega]⟩
theorem zag (s:ByteArray) (p:Nat):1≤decW s p:=by
 unfold decW Utf8.decode
 simp only
 (repeat' split)<;>simp
theorem zbj (s:ByteArray) (p:Nat) (h:p<s.size):p+decW s p≤s.size:=by
 unfold decW Utf8.decode
 simp only[Bool.and_eq_true,decide_eq_true_eq]
 (repeat' split)<;>simp<;>omega
def zbq (s:ByteArray) (p:Nat):List Int:=if h:p<s.size then(decR s p:Int)::zbq s (p+decW s p) else []
termination_by s.size-p
decreasing_by have:=zag s p;omega
theorem zbl {s:ByteArray} {p:Nat} (h:p<s.size):zbq s p=(decR s p:Int)::zbq s (p+decW s p):=by
 conv=>lhs;unfold zbq
 rw[dif_pos h]
theorem zbz {s:ByteArray} {p:Nat} (h:s.size≤p):zbq s p=[]:=by
 unfold zbq;rw[dif_neg (by omega)]
def zaE (s:ByteArray):List Int:=zbq s 0
theorem runesAt_len (s:ByteArray):∀ (n p:Nat),s.size-p=n→(zbq s p).length≤s.size-p:=by
 intro n
 induction n using Nat.strongRecOn with
 | _ n ih=>
  intro p hp
  rcases Nat.lt_or_ge p s.size with h | h
  · have h1:=zag s p
    rw[zbl h,List.length_cons]
    have:=ih (s.size-(p+decW s p)) (by omega) _ rfl
    omega
  · rw[zbz h];simp
theorem zdf (s:ByteArray) (p:Nat):decR s p<1114112:=by
 unfold decR Utf8.decode
 simp only[Bool.and_eq_true,decide_eq_true_eq]
 have hv:∀ c,Utf8.valid c=true→c<1114112:=by
  intro c;unfold Utf8.valid;simp;intros;omega
 (repeat' split)
 all_goals first
  | (simp only[Utf8.runeError];omega)
  | (simp only;omega)
  | (rename_i h;have:=hv _ h.2;simp only;omega)
end
end Lp
namespace Lp
open Go
abbrev dN (n:Nat):D:=.v (.int .i64 (n:Int))
structure RowD where
 ls:List Lbl
 v:Int
 deriving DecidableEq
abbrev LLs:=List (List RowD)
end Lp
set_option linter.unusedVariables false
namespace Lp
open Go
def hd (ll:LLs) (k:Nat):Option RowD:=(ll[k]?).bind List.head?
end Lp
set_option linter.unusedVariables false
namespace Lp
open Go
def zN (r:Int):Int:=
 if r<0∨r=65533 then 0 else if (97≤r∧r≤122)∨(65≤r∧r≤90)∨r=95∨128≤r then 1 else if 48≤r∧r≤57 then 2 else if r=32∨r=9∨r=10 then 3 else 4
abbrev dR (n:Int):D:=.v (.int .i32 n)
def zdr:Nat→List Int→Bool
 | n,[]=>decide (1≤n)&&decide (n≤30)
 | n,r::rs=>if zN r≠1∧(zN r≠2∨n=0) then false else zdr (n+1) rs
def zcK (s:ByteArray):Bool:=zdr 0 (zaE s)
theorem nameR_bad {n:Nat} {r:Int} {rs:List Int} (h:zN r≠1∧(zN r≠2∨n=0)):zdr n (r::rs)=false:=by unfold zdr;rw[if_pos h]
theorem nameR_next {n:Nat} {r:Int} {rs:List Int} (h:¬(zN r≠1∧(zN r≠2∨n=0))):zdr n (r::rs)=zdr (n+1) rs:=by
 show (if zN r≠1∧(zN r≠2∨n=0) then false else zdr (n+1) rs)=_
 rw[if_neg h]
def zfi (rs:List Int):Bool:=rs.all fun r=>decide (zN r=1∨zN r=2)
theorem wordR_cons {r:Int} {rs:List Int}:zfi (r::rs)=(decide (zN r=1∨zN r=2)&&zfi rs):=rfl
theorem nameR_word:∀ (rs:List Int) (n:Nat),1≤n→zdr n rs=(zfi rs&&decide (n+rs.length≤30))
 | [],n,h=>by simp[zdr,zfi,h]
 | r::rs,n,h=>by
  by_cases hr:zN r=1∨zN r=2
  · rw[nameR_next (by omega),nameR_word rs (n+1) (by omega),wordR_cons,decide_eq_true hr,Bool.true_and]
    congr 1;rw[decide_eq_decide,List.length_cons];omega
  · rw[nameR_bad (by omega),wordR_cons,decide_eq_false hr];rfl
theorem nameR_start (rs:List Int):zdr 0 rs=(decide (1≤rs.length)&&decide (rs.length≤30)&&decide (zN (rs.getD 0 0)=1)&&zfi rs):=by
 cases rs with
 | nil=>simp[zdr]
 | cons r rs=>
  by_cases hr:zN r=1
  · rw[nameR_next (by omega),nameR_word rs 1 (by omega),wordR_cons,decide_eq_true (show zN r=1∨zN r=2 from .inl hr),Bool.true_and,Bool.and_comm (zfi rs)]
    have e1:decide (zN ((r::rs).getD 0 0)=1)=true:=decide_eq_true hr
    rw[e1,Bool.and_true]
    congr 1
    rw[Bool.eq_iff_iff];simp[Nat.add_comm]
  · rw[nameR_bad (by omega)]
    have e1:decide (zN ((r::rs).getD 0 0)=1)=false:=decide_eq_false hr
    rw[e1,Bool.and_false];rfl
end Lp
set_option linter.unusedVariables false
namespace Lp
open Go
theorem zd1 {α:Type} {o:List α} {k:Nat} {x:α} (h:o[k]?=some x):o.drop k=x::o.drop (k+1):=by
 obtain ⟨hk,e⟩:=List.getElem?_eq_some_iff.1 h
 rw[←e];exact List.drop_eq_getElem_cons hk
section
variable {l:List Lbl} {k:Nat} {x:Lbl}
end
def hasN (ns:List ByteArray) (n:ByteArray):Bool:=ns.any (fun m=>decide (m=n))
def pickL (l:List Lbl) (ns:List ByteArray) (w:Bool):List Lbl:=l.filter (fun x=>hasN ns x.n==w)
def idxN (n:ByteArray):Nat→List ByteArray→Int
 | _,[]=> -1
 | k,m::r=>if n=m then(k:Int) else idxN n (k+1) r
theorem idxN_has (n:ByteArray):∀ (ns:List ByteArray) (k:Nat),decide (0≤idxN n k ns)=hasN ns n
 | [],k=>rfl
 | m::r,k=>by
  unfold idxN hasN
  by_cases h:n=m
  · have h0:(0:Int)≤(k:Nat):=by omega
    simp[h,h0]
  · have h':¬m=n:=fun e=>h e.symm
    have:=idxN_has n r (k+1)
    unfold hasN at this
    rw[if_neg h,this];simp[h']
theorem idxN_at {n m:ByteArray} {ns:List ByteArray} {k:Nat} (hm:ns[k]?=some m) (h:idxN n 0 ns=idxN n k (ns.drop k)) (e:n=m):((k:Nat):Int)=idxN n 0 ns:=by
 rw[h,zd1 hm];unfold idxN;rw[if_pos e]
theorem idxN_next {n m:ByteArray} {ns:List ByteArray} {k:Nat} (hm:ns[k]?=some m) (h:idxN n 0 ns=idxN n k (ns.drop k)) (e:¬n=m):idxN n 0 ns=idxN n (k+1) (ns.drop (k+1)):=by
 rw[h,zd1 hm];conv=>lhs;unfold idxN
 rw[if_neg e]
theorem idxN_end {n:ByteArray} {ns:List ByteArray} {k:Nat} (hk:ns.length≤k) (h:idxN n 0 ns=idxN n k (ns.drop k)): -1=idxN n 0 ns:=by
 rw[h,List.drop_eq_nil_iff.2 hk];rfl
end Lp
set_option linter.unusedVariables false
namespace Lp
open Go
def encR (x:Nat):List UInt8:=
 if x≤127 then [UInt8.ofNat (x % 256)]
 else if x≤2047 then [UInt8.ofNat (192+x / 64 % 256),UInt8.ofNat (128+x % 256 % 64)]
 else if x<55296∨(57343<x∧x≤65535) then [UInt8.ofNat (224+x / 4096 % 256),UInt8.ofNat (128+x / 64 % 256 % 64),UInt8.ofNat (128+x % 256 % 64)]
 else if 65535<x∧x≤1114111 then [UInt8.ofNat (240+x / 262144 % 256),UInt8.ofNat (128+x / 4096 % 256 % 64),UInt8.ofNat (128+x / 64 % 256 % 64),UInt8.ofNat (128+x % 256 % 64)]
 else [239,191,189]
theorem zem (x:Nat):(encR x).length≤4:=by unfold encR;(repeat' split)<;>simp
def hasP (a b:ByteArray):Bool:=decide (b.size≤a.size)&&decide (a.extract 0 b.size=b)
def wide:ByteArray:=⟨#[239,191,189]⟩
def hexd:ByteArray:=⟨#[48,49,50,51,52,53,54,55,56,57,97,98,99,100,101,102]⟩
def hexB (n:Nat):UInt8:=hexd[n]?.getD 0
def zW (s:ByteArray) (p:Nat):Nat:=(s[p]?.getD 0).toNat
def zcI (s:ByteArray) (p:Nat):List UInt8:=
 if decR s p=34∨decR s p=92 then 92::encR (decR s p)
 else if decR s p=10 then [92,110]
 else if decR s p=65533∧hasP (s.extract p s.size) wide=false then [92,120,hexB (zW s p / 16),hexB (zW s p % 16)]
 else encR (decR s p)
def zaA (s:ByteArray) (p:Nat):List UInt8:=if h:p<s.size then zcI s p++zaA s (p+decW s p) else []
termination_by s.size-p
decreasing_by have:=zag s p;omega
theorem zbm {s:ByteArray} {p:Nat} (h:p<s.size):zaA s p=zcI s p++zaA s (p+decW s p):=by
 conv=>lhs;unfold zaA
 rw[dif_pos h]
theorem zbL {s:ByteArray} {p:Nat} (h:s.size≤p):zaA s p=[]:=by
 unfold zaA;rw[dif_neg (by omega)]
def zbe (s:ByteArray):List UInt8:=34::(zaA s 0++[34])
def zaO (s:ByteArray):ByteArray:=⟨(zbe s).toArray⟩
def zcz (sep:ByteArray):List ByteArray→List UInt8
 | []=>[]
 | [x]=>x.data.toList
 | x::y::r=>x.data.toList++sep.data.toList++zcz sep (y::r)
def zce (sep:ByteArray) (l:List ByteArray):ByteArray:=⟨(zcz sep l).toArray⟩
def partB (x:Lbl):ByteArray:=x.n++(⟨#[61]⟩:ByteArray)++zaO x.v
def textB (l:List Lbl):ByteArray:=(⟨#[123]⟩:ByteArray)++zce ⟨#[44]⟩ (l.map partB)++(⟨#[125]⟩:ByteArray)
theorem piece_1 {s:ByteArray} {p:Nat} (h:decR s p=34∨decR s p=92):zcI s p=[92]++encR (decR s p):=by unfold zcI;rw[if_pos h];rfl
theorem piece_2 {s:ByteArray} {p:Nat} (h:¬(decR s p=34∨decR s p=92)) (h2:decR s p=10):zcI s p=[92,110]:=by unfold zcI;rw[if_neg h,if_pos h2]
theorem piece_3 {s:ByteArray} {p:Nat} (h:¬(decR s p=34∨decR s p=92)) (h2:¬decR s p=10) (h3:decR s p=65533∧hasP (s.extract p s.size) wide=false):zcI s p=[92,120,hexB (zW s p / 16),hexB (zW s p % 16)]:=by unfold zcI;rw[if_neg h,if_neg h2,if_pos h3]
theorem piece_4 {s:ByteArray} {p:Nat} (h:¬(decR s p=34∨decR s p=92)) (h2:¬decR s p=10) (h3:¬(decR s p=65533∧hasP (s.extract p s.size) wide=false)):zcI s p=encR (decR s p):=by unfold zcI;rw[if_neg h,if_neg h2,if_neg h3]
theorem hexB_at {n:Nat} {u:UInt8} (h:hexd[n]?=some u):u=hexB n:=by unfold hexB;rw[h];rfl
theorem zY {s:ByteArray} {p:Nat} {u:UInt8} (h:s[p]?=some u):u.toNat=zW s p:=by unfold zW;rw[h];rfl
def zae (l:List ByteArray):Nat:=(l.map ByteArray.size).sum
theorem zcM {l:List ByteArray} {k:Nat} {x:ByteArray} (h:l[k]?=some x):zae (l.take (k+1))=zae (l.take k)+x.size:=by
 rw[zcL h];simp[zae]
theorem zdK (l:List ByteArray) (k:Nat):zae (l.take k)≤zae l:=by
 conv=>rhs;rw[←List.take_append_drop k l]
 unfold zae;rw[List.map_append,List.sum_append];omega
theorem joinL_snoc (sep:ByteArray):∀ (l:List ByteArray) (x:ByteArray),l≠[]→zcz sep (l++[x])=zcz sep l++sep.data.toList++x.data.toList
 | [],x,h=>absurd rfl h
 | [a],x,_=>by simp[zcz]
 | a::b::r,x,_=>by
  have:=joinL_snoc sep (b::r) x (by simp)
  show a.data.toList++sep.data.toList++zcz sep ((b::r)++[x])=_
  rw[this];simp[zcz,List.append_assoc]
theorem joinL_take {sep:ByteArray} {l:List ByteArray} {k:Nat} {x:ByteArray} (h:l[k+1]?=some x):zcz sep (l.take (k+2))=zcz sep (l.take (k+1))++sep.data.toList++x.data.toList:=by
 rw[zcL h,joinL_snoc]
 intro e
 have h0:(l.take (k+1)).length=0:=by rw[e];rfl
 have hk:=(List.getElem?_eq_some_iff.1 h).1
 rw[List.length_take] at h0
 omega
theorem joinL_one {sep:ByteArray} {l:List ByteArray} {x:ByteArray} (h:l[0]?=some x):zcz sep (l.take 1)=x.data.toList:=by
 rw[show (1:Nat)=0+1 from rfl,zcL h];simp[zcz]
theorem joinB_none {sep:ByteArray} {l:List ByteArray} (h:l.length=0):ByteArray.empty=zce sep l:=by
 rw[List.eq_nil_of_length_eq_zero h];rfl
theorem joinB_one {sep:ByteArray} {l:List ByteArray} {x:ByteArray} (h:l[0]?=some x) (hl:l.length=1):x=zce sep l:=by
 have:=joinL_one (sep:=sep) h
 rw[List.take_of_length_le (by omega)] at this
 unfold zce;rw[this]
theorem joinB_all {sep:ByteArray} {l:List ByteArray} {k:Nat} {bs:List UInt8} (h:bs=zcz sep (l.take (k+1))) (hl:l.length≤k+1):(⟨bs.toArray⟩:ByteArray)=zce sep l:=by
 rw[h,List.take_of_length_le hl];rfl
theorem zbr (x:ByteArray):x.data.toList.length=x.size:=by simp
theorem joinL_len {sep:ByteArray} (h:sep.size=1):∀ l:List ByteArray,(zcz sep l).length≤zae l+l.length
 | []=>by simp[zcz]
 | [x]=>by simp[zcz,zae]
 | x::y::r=>by
  have:=joinL_len h (y::r)
  simp only[zcz,List.length_append,zbr,zae,List.map_cons,List.sum_cons,List.length_cons] at*
  omega
theorem za0 {sep:ByteArray} (h:sep.size=1) (l:List ByteArray):(zce sep l).size≤zae l+l.length:=by
 have:=joinL_len h l
 show (zcz sep l).toArray.size≤_
 simpa using this
end Lp
set_option linter.unusedVariables false
namespace Lp
open Go
def bts (s:ByteArray) (p:Nat):List UInt8:=s.data.toList.drop p
theorem zbT {s:ByteArray} {p:Nat} (h:p<s.size):bts s p=s.get! p::bts s (p+1):=by
 unfold bts
 have h':p<s.data.toList.length:=by simpa using h
 rw[List.drop_eq_getElem_cons h']
 congr 1
 simp[ByteArray.get!,h]
theorem ofNat_eq {a b:Nat} (h:UInt8.ofNat a=UInt8.ofNat b):a % 256=b % 256:=by
 have:=congrArg UInt8.toNat h;simpa using this
theorem zey {b:UInt8} {n:Nat} (h:b.toNat=n % 256):b=UInt8.ofNat n:=by
 apply UInt8.toNat_inj.1;simpa using h
theorem zbJ {s:ByteArray} {p:Nat}:(s.extract p s.size).data.toList=bts s p:=by
 unfold bts
 simp only[ByteArray.data_extract,Array.toList_extract,List.extract]
 rw[List.take_of_length_le]
 simp
theorem hasP_bts {s:ByteArray} {p:Nat} (h:hasP (s.extract p s.size) wide=true):∃ r,bts s p=239::191::189::r:=by
 unfold hasP at h
 simp only[Bool.and_eq_true,decide_eq_true_eq] at h
 have e:=congrArg (fun b:ByteArray=>b.data.toList) h.2
 simp only[ByteArray.data_extract,Array.toList_extract,List.extract] at e
 have e2:(s.extract p s.size).data.toList.take 3=[239,191,189]:=by
  have e3:List.take wide.size (List.take (s.size-p) (List.drop p s.data.toList))=[239,191,189]:=by simpa [wide] using e
  rw[show wide.size=3 from rfl] at e3
  simpa using e3
 rw[zbJ] at e2
 refine⟨(bts s p).drop 3,?_⟩
 have:=(List.take_append_drop 3 (bts s p)).symm
 rw[e2] at this;simpa using this
theorem not_lt_bts {s:ByteArray} {p:Nat} (h:s.size≤p):bts s p=[]:=by unfold bts;rw[List.drop_eq_nil_iff];simpa using h
theorem bts_lt {s:ByteArray} {p:Nat} {a:UInt8} {r:List UInt8} (h:bts s p=a::r):p<s.size:=by
 rcases Nat.lt_or_ge p s.size with h' | h'
 · exact h'
 · rw[not_lt_bts h'] at h;cases h
theorem bts_head {s:ByteArray} {p:Nat} {a:UInt8} {r:List UInt8} (h:bts s p=a::r):s.get! p=a∧bts s (p+1)=r:=by
 rw[zbT (bts_lt h)] at h;injection h with h1 h2;exact⟨h1,h2⟩
theorem dec_cases (s:ByteArray) (p:Nat) (h:p<s.size):
 (bts s p=encR (decR s p)++bts s (p+decW s p))∨(decR s p=65533∧decW s p=1∧hasP (s.extract p s.size) wide=false):=by
 by_cases hw:hasP (s.extract p s.size) wide=true
 · left
   obtain ⟨r,hr⟩:=hasP_bts hw
   obtain ⟨g0,b1⟩:=bts_head hr
   obtain ⟨g1,b2⟩:=bts_head b1
   obtain ⟨g2,b3⟩:=bts_head b2
   have l2:=bts_lt b2
   have hd:Utf8.decode s p=(65533,3):=by
    unfold Utf8.decode
    simp only[Nat.add_zero,g0,g1,show p+2=p+1+1 from rfl,g2,show p+1<s.size by omega,l2,decide_true,Bool.true_and]
    simp[Utf8.valid]
   have e1:decR s p=65533:=by unfold decR;rw[hd]
   have e2:decW s p=3:=by unfold decW;rw[hd]
   rw[e1,e2,hr,show p+3=p+1+1+1 from rfl,b3]
   rfl
 · have hw:hasP (s.extract p s.size) wide=false:=by simpa using hw
   have l0:(s.get! p).toNat<256:=UInt8.toNat_lt _
   have l1:(s.get! (p+1)).toNat<256:=UInt8.toNat_lt _
   have l2:(s.get! (p+2)).toNat<256:=UInt8.toNat_lt _
   have l3:(s.get! (p+3)).toNat<256:=UInt8.toNat_lt _
   have c0:=zbT h
   unfold decR decW
   unfold Utf8.decode
   simp only[Nat.add_zero,Utf8.runeError,Bool.and_eq_true,decide_eq_true_eq,beq_iff_eq]
   by_cases h1:(s.get! p).toNat<128
   · left
     rw[if_pos h1]
     show _=encR (s.get! p).toNat++_
     unfold encR
     rw[if_pos (show (s.get! p).toNat≤127 by omega),c0]
     congr 1;exact zey (by omega)
   · rw[if_neg h1]
     by_cases h2:(s.get! p).toNat / 32=6∧p+1<s.size∧(s.get! (p+1)).toNat / 64=2
     · rw[if_pos h2]
       have c1:=zbT h2.2.1
       by_cases h3:(s.get! p).toNat % 32*64+(s.get! (p+1)).toNat % 64≥128
       · left
         rw[if_pos h3]
         show _=encR ((s.get! p).toNat % 32*64+(s.get! (p+1)).toNat % 64)++_
         unfold encR
         rw[if_neg (by omega),if_pos (by omega),c0,c1]
         show _=_::_::_
         congr 1
         · exact zey (by omega)
         · congr 1;exact zey (by omega)
       · right;rw[if_neg h3];exact⟨rfl,rfl,hw⟩
     · rw[if_neg h2]
       by_cases h4:((s.get! p).toNat / 16=14∧p+1<s.size∧(s.get! (p+1)).toNat / 64=2)∧p+2<s.size∧(s.get! (p+2)).toNat / 64=2
       · rw[if_pos h4]
         have c1:=zbT h4.1.2.1
         have c2:=zbT h4.2.1
         by_cases h3:(s.get! p).toNat % 16*4096+(s.get! (p+1)).toNat % 64*64+(s.get! (p+2)).toNat % 64≥2048∧Utf8.valid (((s.get! p).toNat % 16*4096+(s.get! (p+1)).toNat % 64*64+(s.get! (p+2)).toNat % 64:Nat):Int)=true
         · left
           rw[if_pos h3]
           show _=encR ((s.get! p).toNat % 16*4096+(s.get! (p+1)).toNat % 64*64+(s.get! (p+2)).toNat % 64)++_
           have hv:=h3.2
           unfold Utf8.valid at hv
           simp only[Bool.or_eq_true,Bool.and_eq_true,decide_eq_true_eq] at hv
           unfold encR
           rw[if_neg (by omega),if_neg (by omega),if_pos (by omega),c0,c1,c2]
           show _=_::_::_::_
           congr 1
           · exact zey (by omega)
           · congr 1
             · exact zey (by omega)
             · congr 1;exact zey (by omega)
         · right;rw[if_neg h3];exact⟨rfl,rfl,hw⟩
       · rw[if_neg h4]
         by_cases h5:(((s.get! p).toNat / 8=30∧p+1<s.size∧(s.get! (p+1)).toNat / 64=2)∧p+2<s.size∧(s.get! (p+2)).toNat / 64=2)∧p+3<s.size∧(s.get! (p+3)).toNat / 64=2
         · rw[if_pos h5]
           have c1:=zbT h5.1.1.2.1
           have c2:=zbT h5.1.2.1
           have c3:=zbT h5.2.1
           by_cases h3:(s.get! p).toNat % 8*262144+(s.get! (p+1)).toNat % 64*4096+(s.get! (p+2)).toNat % 64*64+(s.get! (p+3)).toNat % 64≥65536∧Utf8.valid (((s.get! p).toNat % 8*262144+(s.get! (p+1)).toNat % 64*4096+(s.get! (p+2)).toNat % 64*64+(s.get! (p+3)).toNat % 64:Nat):Int)=true
           · left
             rw[if_pos h3]
             show _=encR ((s.get! p).toNat % 8*262144+(s.get! (p+1)).toNat % 64*4096+(s.get! (p+2)).toNat % 64*64+(s.get! (p+3)).toNat % 64)++_
             have hv:=h3.2
             unfold Utf8.valid at hv
             simp only[Bool.or_eq_true,Bool.and_eq_true,decide_eq_true_eq] at hv
             unfold encR
             rw[if_neg (by omega),if_neg (by omega),if_neg (by omega),if_pos (by omega),c0,c1,c2,c3]
             show _=_::_::_::_::_
             congr 1
             · exact zey (by omega)
             · congr 1
               · exact zey (by omega)
               · congr 1
                 · exact zey (by omega)
                 · congr 1;exact zey (by omega)
           · right;rw[if_neg h3];exact⟨rfl,rfl,hw⟩
         · right;rw[if_neg h5];exact⟨rfl,rfl,hw⟩
theorem encR_no {c:Nat} {x:UInt8} (hx:x.toNat<128) (h:x∈encR c):c=x.toNat:=by
 unfold encR at h
 split at h
 · simp at h;rw[h];simp;omega
 · exfalso
   have key:∀ n:Nat,128≤n % 256→x≠UInt8.ofNat n:=fun n hn e=>by rw[e] at hx;simp at hx;omega
   split at h
   · simp only[List.mem_cons,List.not_mem_nil,or_false] at h
     rcases h with h | h<;>exact key _ (by omega) h
   · split at h
     · simp only[List.mem_cons,List.not_mem_nil,or_false] at h
       rcases h with h | h | h<;>exact key _ (by omega) h
     · split at h
       · simp only[List.mem_cons,List.not_mem_nil,or_false] at h
         rcases h with h | h | h | h<;>exact key _ (by omega) h
       · simp only[List.mem_cons,List.not_mem_nil,or_false] at h
         rcases h with h | h | h<;>(rw[h] at hx;revert hx;decide)
inductive Tok:List UInt8→List UInt8→Prop where
 | esc {c:UInt8}:c=34∨c=92→Tok [92,c] [c]
 | nl:Tok [92,110] [10]
 | hex {b:UInt8}:Tok [92,120,hexB (b.toNat / 16),hexB (b.toNat % 16)] [b]
 | raw {c:Nat}:c<1114112→c≠34→c≠92→c≠10→Tok (encR c) (encR c)
theorem byteAt_get {s:ByteArray} {p:Nat} (h:p<s.size):zW s p=(s.get! p).toNat:=by
 unfold zW;congr 1;simp[ByteArray.get!,h];rfl
theorem zcO {s:ByteArray} {p:Nat} (h:p<s.size):∃ src,Tok (zcI s p) src∧bts s p=src++bts s (p+decW s p):=by
 have hl:=zdf s p
 rcases dec_cases s p h with e | ⟨e1,e2,e3⟩
 · by_cases h1:decR s p=34∨decR s p=92
   · refine⟨encR (decR s p),?_,e⟩
     rw[piece_1 h1]
     rcases h1 with h1 | h1<;>rw[h1]
     · exact .esc (.inl rfl)
     · exact .esc (.inr rfl)
   · by_cases h2:decR s p=10
     · refine⟨encR (decR s p),?_,e⟩
       rw[piece_2 h1 h2,h2];exact .nl
     · by_cases h3:decR s p=65533∧hasP (s.extract p s.size) wide=false
       · exfalso
         have hr:bts s p=239::191::189::bts s (p+decW s p):=by rw[e,h3.1];rfl
         have:hasP (s.extract p s.size) wide=true:=by
          unfold hasP
          have e4:=zbJ (s:=s) (p:=p)
          rw[hr] at e4
          have hsz:3≤(s.extract p s.size).size:=by
           have:=congrArg List.length e4
           simp only[Array.length_toList,List.length_cons] at this
           show 3≤(s.extract p s.size).data.size
           omega
          have hx:(s.extract p s.size).extract 0 wide.size=wide:=by
           apply ByteArray.ext
           apply Array.toList_inj.1
           rw[ByteArray.data_extract,Array.toList_extract,List.extract,e4]
           rfl
          rw[hx,show wide.size=3 from rfl,decide_eq_true hsz];simp
         rw[h3.2] at this;cases this
       · refine⟨encR (decR s p),?_,e⟩
         rw[piece_4 h1 h2 h3]
         exact .raw hl (fun e=>h1 (.inl e)) (fun e=>h1 (.inr e)) h2
 · refine⟨[s.get! p],?_,?_⟩
   · rw[piece_3 (by rw[e1];decide) (by rw[e1];decide) ⟨e1,e3⟩,byteAt_get h];exact .hex
   · rw[e2];exact zbT h
def elen (b:UInt8):Nat:=if b.toNat<192 then 1 else if b.toNat<224 then 2 else if b.toNat<240 then 3 else 4
def olen:List UInt8→Nat
 | []=>0
 | b::r=>if b=92 then(if r.head?=some 120 then 4 else 2) else elen b
theorem encR_head {c:Nat} (hc:c<1114112):∃ b r,encR c=b::r∧(encR c).length=elen b∧(b=92→c=92)∧(b=34→c=34):=by
 have ne:∀ n m:Nat,m<128→128≤n % 256→UInt8.ofNat n≠UInt8.ofNat m:=fun n m hm hn e=>by have:=ofNat_eq e;omega
 unfold encR elen
 split
 · refine⟨_,_,rfl,?_,?_,?_⟩
   · have:(UInt8.ofNat (c % 256)).toNat<192:=by simp;omega
     rw[if_pos this];rfl
   · intro e;have:=ofNat_eq (b:=92) e;omega
   · intro e;have:=ofNat_eq (b:=34) e;omega
 · split
   · refine⟨_,_,rfl,?_,?_,?_⟩
     · have h1:¬(UInt8.ofNat (192+c / 64 % 256)).toNat<192:=by simp;omega
       have h2:(UInt8.ofNat (192+c / 64 % 256)).toNat<224:=by simp;omega
       rw[if_neg h1,if_pos h2];rfl
     · intro e;exact absurd e (ne _ 92 (by decide) (by omega))
     · intro e;exact absurd e (ne _ 34 (by decide) (by omega))
   · split
     · refine⟨_,_,rfl,?_,?_,?_⟩
       · have h1:¬(UInt8.ofNat (224+c / 4096 % 256)).toNat<192:=by simp;omega
         have h2:¬(UInt8.ofNat (224+c / 4096 % 256)).toNat<224:=by simp;omega
         have h3:(UInt8.ofNat (224+c / 4096 % 256)).toNat<240:=by simp;omega
         rw[if_neg h1,if_neg h2,if_pos h3];rfl
       · intro e;exact absurd e (ne _ 92 (by decide) (by omega))
       · intro e;exact absurd e (ne _ 34 (by decide) (by omega))
     · split
       · refine⟨_,_,rfl,?_,?_,?_⟩
         · have h1:¬(UInt8.ofNat (240+c / 262144 % 256)).toNat<192:=by simp;omega
           have h2:¬(UInt8.ofNat (240+c / 262144 % 256)).toNat<224:=by simp;omega
           have h3:¬(UInt8.ofNat (240+c / 262144 % 256)).toNat<240:=by simp;omega
           rw[if_neg h1,if_neg h2,if_neg h3];rfl
         · intro e;exact absurd e (ne _ 92 (by decide) (by omega))
         · intro e;exact absurd e (ne _ 34 (by decide) (by omega))
       · refine⟨_,_,rfl,by decide,fun e=>absurd e (by decide),fun e=>absurd e (by decide)⟩
theorem tok_len {o s:List UInt8} (h:Tok o s) (r:List UInt8):olen (o++r)=o.length:=by
 cases h with
 | esc h=>rcases h with h | h<;>rw[h]<;>rfl
 | nl=>rfl
 | hex=>rfl
 | raw hc _ h92 _=>
  obtain ⟨b,t,e,el,hb,_⟩:=encR_head hc
  rw[el,e]
  show (if b=92 then _ else elen b)=_
  rw[if_neg (fun e=>h92 (hb e))]
theorem hexB_inj:∀ a:Nat,a<16→∀ b:Nat,b<16→hexB a=hexB b→a=b:=by decide
theorem tok_src {o s t:List UInt8} (h:Tok o s) (h':Tok o t):s=t:=by
 have hh:∀ {c:Nat} {x:UInt8} {l:List UInt8},c<1114112→c≠92→encR c=92::l→False:=fun {c _ l} hc hn e=>by
  obtain ⟨b,t,e',_,hb,_⟩:=encR_head hc
  rw[e'] at e;injection e with e _;exact hn (hb e)
 generalize ho:o=o' at h'
 cases h with
 | esc h=>
  cases h' with
  | esc _=>cases ho;rfl
  | nl=>injection ho with _ ho;injection ho with ho;rw[ho] at h;exact absurd h (by decide)
  | hex=>cases ho
  | raw hc _ h92 _=>exact(hh (x:=0) hc h92 ho.symm).elim
 | nl=>
  cases h' with
  | esc h=>injection ho with _ ho;injection ho with ho;rw[←ho] at h;exact absurd h (by decide)
  | nl=>rfl
  | hex=>cases ho
  | raw hc _ h92 _=>exact(hh (x:=0) hc h92 ho.symm).elim
 | @hex a=>
  cases h' with
  | esc h=>cases ho
  | nl=>cases ho
  | @hex b=>
   injection ho with _ ho;injection ho with _ ho;injection ho with h1 ho;injection ho with h2 _
   have la:=UInt8.toNat_lt a
   have lb:=UInt8.toNat_lt b
   have e1:=hexB_inj _ (by omega) _ (by omega) h1
   have e2:=hexB_inj _ (by omega) _ (by omega) h2
   have:a=b:=UInt8.toNat_inj.1 (by omega)
   rw[this]
  | raw hc _ h92 _=>exact(hh (x:=0) hc h92 ho.symm).elim
 | raw hc _ h92 _=>
  cases h' with
  | esc h=>exact(hh (x:=0) hc h92 ho).elim
  | nl=>exact(hh (x:=0) hc h92 ho).elim
  | hex=>exact(hh (x:=0) hc h92 ho).elim
  | raw _ _ _ _=>exact ho
theorem tok_no {o s r t:List UInt8} (h:Tok o s):o++r≠34::t:=by
 cases h with
 | esc _=>intro e;injection e with e _;revert e;decide
 | nl=>intro e;injection e with e _;revert e;decide
 | hex=>intro e;injection e with e _;revert e;decide
 | raw hc h34 _ _=>
  obtain ⟨b,u,e,_,_,hb⟩:=encR_head hc
  rw[e];intro e';injection e' with e' _;exact h34 (hb e')
theorem tok_inj {o s o' s' r r':List UInt8} (h:Tok o s) (h':Tok o' s') (e:o++r=o'++r'):s=s'∧r=r':=by
 have hl:o.length=o'.length:=by rw[←tok_len h r,←tok_len h' r',e]
 obtain ⟨e1,e2⟩:=List.append_inj e hl
 subst e1;exact⟨tok_src h h',e2⟩
theorem quote_inj:∀ (n:Nat) (s t:ByteArray) (p q:Nat) (r r':List UInt8),s.size-p=n→zaA s p++34::r=zaA t q++34::r'→bts s p=bts t q∧r=r':=by
 intro n
 induction n using Nat.strongRecOn with
 | _ n ih=>
  intro s t p q r r' hn e
  rcases Nat.lt_or_ge p s.size with h | h<;>rcases Nat.lt_or_ge q t.size with h' | h'
  · obtain ⟨s1,k1,b1⟩:=zcO h
    obtain ⟨s2,k2,b2⟩:=zcO h'
    rw[zbm h,zbm h',List.append_assoc,List.append_assoc] at e
    obtain ⟨e1,e2⟩:=tok_inj k1 k2 e
    have hp:=zag s p
    obtain ⟨e3,e4⟩:=ih _ (by omega) s t _ _ r r' rfl e2
    rw[b1,b2,e1,e3];exact⟨rfl,e4⟩
  · obtain ⟨s1,k1,_⟩:=zcO h
    rw[zbm h,zbL h',List.append_assoc] at e
    exact(tok_no k1 e).elim
  · obtain ⟨s2,k2,_⟩:=zcO h'
    rw[zbL h,zbm h',List.append_assoc] at e
    exact(tok_no k2 e.symm).elim
  · rw[zbL h,zbL h'] at e
    injection e with _ e
    rw[not_lt_bts h,not_lt_bts h'];exact⟨rfl,e⟩
theorem bts_inj {s t:ByteArray} (h:bts s 0=bts t 0):s=t:=by
 unfold bts at h;simp only[List.drop_zero] at h
 exact ByteArray.ext (Array.toList_inj.1 h)
theorem quoteB_inj {s t:ByteArray} (h:zaO s=zaO t):s=t:=by
 have e:=congrArg (fun b:ByteArray=>b.data.toList) h
 simp only[zaO,zbe] at e
 injection e with _ e
 exact bts_inj (quote_inj _ s t 0 0 [] [] rfl e).1
end Lp
set_option linter.unusedVariables false
namespace Lp
open Go
theorem zeW (s:ByteArray) (p:Nat):(bts s p).length=s.size-p:=by unfold bts;simp
end Lp
set_option linter.unusedVariables false
namespace Lp
open Go
def gb (l:List UInt8) (k:Nat):Nat:=(l.getD k 0).toNat
def zbp (l:List UInt8) (k:Nat):Bool:=decide (k<l.length)&&gb l k / 64==2
def decL (l:List UInt8):Nat×Nat:=
 if gb l 0<128 then(gb l 0,1)
 else if (gb l 0 / 32==6&&zbp l 1)=true then
  if gb l 0 % 32*64+gb l 1 % 64≥128 then(gb l 0 % 32*64+gb l 1 % 64,2) else(65533,1)
 else if (gb l 0 / 16==14&&zbp l 1&&zbp l 2)=true then
  if (decide (gb l 0 % 16*4096+gb l 1 % 64*64+gb l 2 % 64≥2048)&&Utf8.valid ((gb l 0 % 16*4096+gb l 1 % 64*64+gb l 2 % 64:Nat):Int))=true then(gb l 0 % 16*4096+gb l 1 % 64*64+gb l 2 % 64,3) else(65533,1)
 else if (gb l 0 / 8==30&&zbp l 1&&zbp l 2&&zbp l 3)=true then
  if (decide (gb l 0 % 8*262144+gb l 1 % 64*4096+gb l 2 % 64*64+gb l 3 % 64≥65536)&&Utf8.valid ((gb l 0 % 8*262144+gb l 1 % 64*4096+gb l 2 % 64*64+gb l 3 % 64:Nat):Int))=true then(gb l 0 % 8*262144+gb l 1 % 64*4096+gb l 2 % 64*64+gb l 3 % 64,4) else(65533,1)
 else(65533,1)
theorem gb_bts {s:ByteArray} {p k:Nat}:gb (bts s p) k=(s.get! (p+k)).toNat:=by
 unfold gb bts
 rw[List.getD_eq_getElem?_getD,List.getElem?_drop]
 rcases Nat.lt_or_ge (p+k) s.size with h | h
 · have h':p+k<s.data.toList.length:=by simpa using h
   rw[List.getElem?_eq_getElem h']
   congr 1
   simp[ByteArray.get!,h]
 · rw[List.getElem?_eq_none (by simpa using h)]
   have e2:s.get! (p+k)=default:=by
    show s.data[p+k]! =_
    exact getElem!_neg _ _ (by simpa using h)
   rw[e2];rfl
theorem cont_bts {s:ByteArray} {p k:Nat}:zbp (bts s p) k=(decide (p+k<s.size)&&(s.get! (p+k)).toNat / 64==2):=by
 unfold zbp
 rw[gb_bts,zeW]
 congr 1;rw[decide_eq_decide];omega
theorem decode_bts {s:ByteArray} {p:Nat}:Utf8.decode s p=decL (bts s p):=by
 unfold Utf8.decode decL
 simp only[gb_bts,cont_bts,Nat.add_zero,Utf8.runeError]
theorem zcD {s:ByteArray} {p:Nat}:decR s p=(decL (bts s p)).1:=by unfold decR;rw[decode_bts]
theorem zcC {s:ByteArray} {p:Nat}:decW s p=(decL (bts s p)).2:=by unfold decW;rw[decode_bts]
theorem bts_mk (l:List UInt8):bts ⟨l.toArray⟩ 0=l:=by unfold bts;simp
theorem zc5 {s:ByteArray} {p k:Nat}:(bts s p).drop k=bts s (p+k):=by unfold bts;rw[List.drop_drop]
theorem zcE (l:List UInt8):1≤(decL l).2:=by have:=zag ⟨l.toArray⟩ 0;rw[zcC,bts_mk] at this;exact this
theorem zeU {l:List UInt8} (h:l≠[]):(decL l).2≤l.length:=by
 have:=zbj ⟨l.toArray⟩ 0 (by
  have:=List.length_pos_iff.2 h
  show 0<l.toArray.size;simpa using this)
 rw[zcC,bts_mk] at this
 have e:ByteArray.size ⟨l.toArray⟩=l.length:=by show l.toArray.size=_;simp
 omega
theorem zen {s:ByteArray} {p:Nat} (h:p<s.size):bts s p≠[]:=by rw[zbT h];simp
theorem zeV {s:ByteArray} {p:Nat} (h:s.size≤p):bts s p=[]:=not_lt_bts h
def runL (f:Int→Bool) (l:List UInt8):Nat:=if h:l≠[]∧f ((decL l).1:Int)=true then(decL l).2+runL f (l.drop (decL l).2) else 0
termination_by l.length
decreasing_by
 have h1:=zcE l
 have h2:=List.length_pos_iff.2 h.1
 rw[List.length_drop];omega
theorem zcN {f:Int→Bool} {l:List UInt8} (h:l≠[]) (hf:f ((decL l).1:Int)=true):runL f l=(decL l).2+runL f (l.drop (decL l).2):=by
 conv=>lhs;unfold runL
 rw[dif_pos ⟨h,hf⟩]
theorem zdo {f:Int→Bool} {l:List UInt8} (hf:f ((decL l).1:Int)=false):runL f l=0:=by
 unfold runL;rw[dif_neg (by rw[hf];simp)]
theorem zcZ {f:Int→Bool}:runL f []=0:=by unfold runL;rw[dif_neg (by simp)]
theorem runL_le (f:Int→Bool):∀ (n:Nat) (l:List UInt8),l.length=n→runL f l≤l.length:=by
 intro n
 induction n using Nat.strongRecOn with
 | _ n ih=>
  intro l hl
  by_cases h:l≠[]∧f ((decL l).1:Int)=true
  · have h1:=zcE l
    have h2:=zeU h.1
    have h3:=ih (l.length-(decL l).2) (by omega) (l.drop (decL l).2) List.length_drop
    rw[List.length_drop] at h3
    rw[zcN h.1 h.2];omega
  · unfold runL;rw[dif_neg h];omega
theorem zbv (f:Int→Bool) (l:List UInt8):runL f l≤l.length:=runL_le f _ l rfl
def inK (ks:List Int) (r:Int):Bool:=ks.any (fun k=>decide (k=zN r))
def idxI (n:Int):Nat→List Int→Int
 | _,[]=> -1
 | k,m::r=>if n=m then(k:Int) else idxI n (k+1) r
def hasI (ns:List Int) (n:Int):Bool:=ns.any (fun m=>decide (m=n))
theorem idxI_has (n:Int):∀ (ns:List Int) (k:Nat),decide (0≤idxI n k ns)=hasI ns n
 | [],k=>rfl
 | m::r,k=>by
  unfold idxI hasI
  by_cases h:n=m
  · have h0:(0:Int)≤(k:Nat):=by omega
    simp[h,h0]
  · have h':¬m=n:=fun e=>h e.symm
    have:=idxI_has n r (k+1)
    unfold hasI at this
    rw[if_neg h,this];simp[h']
theorem idxI_at {n m:Int} {ns:List Int} {k:Nat} (hm:ns[k]?=some m) (h:idxI n 0 ns=idxI n k (ns.drop k)) (e:n=m):((k:Nat):Int)=idxI n 0 ns:=by
 rw[h,zd1 hm];unfold idxI;rw[if_pos e]
theorem idxI_next {n m:Int} {ns:List Int} {k:Nat} (hm:ns[k]?=some m) (h:idxI n 0 ns=idxI n k (ns.drop k)) (e:¬n=m):idxI n 0 ns=idxI n (k+1) (ns.drop (k+1)):=by
 rw[h,zd1 hm];conv=>lhs;unfold idxI
 rw[if_neg e]
theorem idxI_end {n:Int} {ns:List Int} {k:Nat} (hk:ns.length≤k) (h:idxI n 0 ns=idxI n k (ns.drop k)): -1=idxI n 0 ns:=by
 rw[h,List.drop_eq_nil_iff.2 hk];rfl
abbrev isLD:Int→Bool:=inK [1,2]
abbrev isD:Int→Bool:=inK [2]
abbrev isB:Int→Bool:=inK [3]
abbrev bl8 (s:ByteArray):List UInt8:=s.data.toList
def mkB (l:List UInt8):ByteArray:=⟨l.toArray⟩
theorem zcn (l:List UInt8):bl8 (mkB l)=l:=by simp[bl8,mkB]
theorem zfp (s:ByteArray):mkB (bl8 s)=s:=ByteArray.ext (Array.toList_inj.1 (by simp[bl8,mkB]))
theorem zcP {s:ByteArray} {a b:Nat} (h:b≤s.size):s.extract a b=mkB (((bl8 s).take b).drop a):=by
 apply ByteArray.ext;apply Array.toList_inj.1
 simp only[mkB,ByteArray.data_extract,Array.toList_extract,List.extract,bl8]
 rw[List.drop_take]
theorem zax (l:List UInt8):(mkB l).size=l.length:=by show l.toArray.size=_;simp
theorem zav (s:ByteArray):(bl8 s).length=s.size:=by simp[bl8]
structure TokD where
 k:Int
 a:Int
 t:ByteArray
deriving DecidableEq
def TokD.d (x:TokD):D:=.agg [.v (.int .i64 x.k),.v (.int .i64 x.a),.s x.t]
def zbO:TokD:=⟨0,0,ByteArray.empty⟩
def zb5 (l:List UInt8):TokD×Nat:=if zcK (mkB (l.take (runL isLD l)))=true then(⟨1,0,mkB (l.take (runL isLD l))⟩,runL isLD l) else(zbO,0)
def digV (l:List UInt8):Nat:=l.foldl (fun n b=>10*n+(b.toNat-48)) 0
def digL (n:Nat):List UInt8:=if h:n<10 then [UInt8.ofNat (48+n)] else digL (n / 10)++[UInt8.ofNat (48+n % 10)]
termination_by n
decreasing_by omega
def digB (n:Nat):ByteArray:=mkB (digL n)
def secB (s:ByteArray):Nat:=if s=⟨#[115]⟩ then 1 else if s=⟨#[109]⟩ then 60 else if s=⟨#[104]⟩ then 3600 else 0
def numT (l:List UInt8):TokD×Nat:=
 if 13<runL isD l∨1000000000000<digV (l.take (runL isD l)) then(zbO,0)
 else if runL isLD l=runL isD l then(⟨2,0,digB (digV (l.take (runL isD l)))⟩,runL isD l)
 else if secB (mkB ((l.take (runL isLD l)).drop (runL isD l)))=0∨1000000000 / secB (mkB ((l.take (runL isLD l)).drop (runL isD l)))<digV (l.take (runL isD l)) then(zbO,0)
 else(⟨4,0,digB (digV (l.take (runL isD l))*secB (mkB ((l.take (runL isLD l)).drop (runL isD l))))⟩,runL isLD l)
def zar (b:Bool) (l:List UInt8):Option Nat:=
 if h:l=[] then none
 else if b=true then(zar false (l.drop (decL l).2)).map (· +(decL l).2)
 else if (decL l).1=92 then(zar true (l.drop (decL l).2)).map (· +(decL l).2)
 else if (decL l).1=34 then some 0
 else(zar false (l.drop (decL l).2)).map (· +(decL l).2)
termination_by l.length
decreasing_by all_goals (have h1:=zcE l;have h2:=List.length_pos_iff.2 h;rw[List.length_drop];omega)
noncomputable def unqB (s:ByteArray):Option ByteArray:=open Classical in if h:∃ t,zaO t=s then some h.choose else none
theorem unqB_some {s t:ByteArray} (h:zaO t=s):unqB s=some t:=by
 unfold unqB
 have hx:∃ t,zaO t=s:=⟨t,h⟩
 rw[dif_pos hx]
 congr 1
 exact quoteB_inj (hx.choose_spec.trans h.symm)
theorem unqB_none {s:ByteArray} (h:∀ t,zaO t≠s):unqB s=none:=by
 unfold unqB;rw[dif_neg];rintro ⟨t,ht⟩;exact h t ht
noncomputable def unqT (s:ByteArray):ByteArray:=(unqB s).getD ByteArray.empty
noncomputable def zd8 (s:ByteArray):Bool:=(unqB s).isSome
noncomputable def strT (l:List UInt8):TokD×Nat:=
 match zar true l with
 | none=>(zbO,0)
 | some i=>match unqB (mkB (l.take (i+1))) with
  | none=>(zbO,0)
  | some t=>(⟨3,0,t⟩,i+1)
def zaC:List ByteArray:=[⟨#[61,61]⟩,⟨#[33,61]⟩,⟨#[60,61]⟩,⟨#[62,61]⟩,⟨#[61,126]⟩,⟨#[33,126]⟩,⟨#[43]⟩,⟨#[45]⟩,⟨#[42]⟩,⟨#[47]⟩,⟨#[37]⟩,⟨#[40]⟩,⟨#[41]⟩,⟨#[123]⟩,⟨#[125]⟩,⟨#[91]⟩,⟨#[93]⟩,⟨#[44]⟩,⟨#[61]⟩,⟨#[60]⟩,⟨#[62]⟩]
def zaT:List ByteArray→List UInt8→TokD×Nat
 | [],_=>(zbO,0)
 | x::r,l=>if (bl8 x).isPrefixOf l=true then(⟨5,0,x⟩,x.size) else zaT r l
def zb0 (l:List UInt8):TokD×Nat:=zaT zaC l
noncomputable def zu (l:List UInt8):TokD×Nat:=
 if zN ((decL l).1:Int)=1 then zb5 l else if zN ((decL l).1:Int)=2 then numT l else if (decL l).1=34 then strT l else zb0 l
def TokD.put (x:TokD) (a:Nat):TokD:=⟨x.k,(a:Int),x.t⟩
noncomputable def zbG:Nat→List UInt8→Nat→Option (List TokD)
 | 0,l,_=>if l=[] then some [] else none
 | n+1,l,a=>if l=[] then some [] else
  if (zu l).2=0 then none
  else(zbG n ((l.drop (zu l).2).drop (runL isB (l.drop (zu l).2))) (a+(zu l).2+runL isB (l.drop (zu l).2))).map (((zu l).1.put a)::·)
noncomputable def zZ (l:List UInt8) (a:Nat):Option (List TokD):=zbG l.length (l.drop (runL isB l)) (a+runL isB l)
theorem za9 {n a:Nat}:zbG n [] a=some []:=by cases n<;>simp[zbG]
theorem zbK {n a:Nat} {l:List UInt8} (h:l≠[]) (h0:(zu l).2=0):zbG n l a=none:=by cases n<;>simp[zbG,h,h0]
theorem wordsF_next {n a:Nat} {l:List UInt8} (h:l≠[]) (h0:(zu l).2≠0):zbG (n+1) l a=(zbG n ((l.drop (zu l).2).drop (runL isB (l.drop (zu l).2))) (a+(zu l).2+runL isB (l.drop (zu l).2))).map (((zu l).1.put a)::·):=by
 conv=>lhs;unfold zbG
 rw[if_neg h,if_neg h0]
theorem wordsF_more:∀ (n m:Nat) (l:List UInt8) (a:Nat),l.length≤n→l.length≤m→zbG n l a=zbG m l a:=by
 intro n
 induction n with
 | zero=>
  intro m l a h1 _
  have:l=[]:=List.eq_nil_of_length_eq_zero (by omega)
  subst this;rw[za9,za9]
 | succ n ih=>
  intro m l a h1 h2
  by_cases h:l=[]
  · subst h;rw[za9,za9]
  · have hp:=List.length_pos_iff.2 h
    obtain ⟨m,rfl⟩:∃ k,m=k+1:=⟨m-1,by omega⟩
    by_cases h0:(zu l).2=0
    · rw[zbK h h0,zbK h h0]
    · rw[wordsF_next h h0,wordsF_next h h0,ih m _ _ (by simp only[List.length_drop];omega) (by simp only[List.length_drop];omega)]
theorem zca {n a:Nat} {l:List UInt8} (h:l.length≤n):zZ l a=zbG n (l.drop (runL isB l)) (a+runL isB l):=wordsF_more _ _ _ _ (by simp only[List.length_drop];omega) (by simp only[List.length_drop];omega)
theorem zbd {n a:Nat} {l:List UInt8} (h:l≠[]) (h0:(zu l).2≠0) (hn:l.length≤n):zbG n l a=(zZ (l.drop (zu l).2) (a+(zu l).2)).map (((zu l).1.put a)::·):=by
 have hp:=List.length_pos_iff.2 h
 obtain ⟨n,rfl⟩:∃ k,n=k+1:=⟨n-1,by omega⟩
 rw[wordsF_next h h0,zca (n:=n) (by simp only[List.length_drop];omega)]
noncomputable def lexL (s:ByteArray):List TokD:=if 600<s.size then [] else(zZ (bl8 s) 0).getD []
noncomputable def lexE (s:ByteArray):Int:=if 600<s.size then 1 else if (zZ (bl8 s) 0).isSome then 0 else 2
end Lp
