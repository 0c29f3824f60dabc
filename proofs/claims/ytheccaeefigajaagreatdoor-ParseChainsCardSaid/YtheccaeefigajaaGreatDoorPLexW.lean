import Derived.Lib.QuietBelow
import Derived.Lib.SmallJoins
import Derived.Test.YtheccaeefigajaaGreatDoorPLex
set_option linter.unusedVariables false
namespace Lp
open Go Go.RowKit Go.Proofs
theorem cd_ext {P:Program} {f:FuncId} {H:List Hp} {ds:List D} {R:D→List Hp→Prop} (h:∀ w F vs,D.repA w F ds vs→(∀ x∈H,x.ok w F)→Calls P f vs.toArray w (Ret fun res w'=>Ext w w'∧∃ r,R r H∧D.rep w' F r res)):CD P f H ds R:=
 ⟨fun w F vs hvs hF hH=>(h w F vs hvs hH.ok).mono fun e w' he=>by
  obtain ⟨v,rfl,E,r,hR,hr⟩:=he
  have k:Keep w F w' F:=⟨fun _ h=>h,fun b hb hlt=>E.block b hlt (.inr (Nat.zero_le _))⟩
  refine⟨v,rfl,F,r,H,hR,hr,⟨E.size,E.os,E.tape,E.output,E.drawn,fun b hb _=>E.block b hb (.inr (Nat.zero_le _)),fun _ h=>h,fun _ h=>.inl h,fun b hb=>Nat.lt_of_lt_of_le (hF b hb) E.size,⟨hH.apart,fun x hx=>?_,fun g hg=>⟨.inr hg,(hH.mine g hg).2⟩⟩⟩⟩
  have ok:=hH.ok x hx
  exact Hp.keep ok k (fun g hg=>E.block g (Hp.lt ok hg) (.inr (Nat.zero_le _)))⟩
theorem tab_of {P:Program} {w:World} {name:String} {g:Nat} {k:IntKind} {zs:List Int} {T:TypeId} {fr:Nat×Nat} (hg:P.globalNamed name=some g) (h:w.heap[g]?=some (.cells (zs.map fun z=>Value.int k z).toArray T fr)):Lib.TabIs P w name k zs:=by
 unfold Lib.TabIs World.var?
 rw[hg]
 show (match w.heap[g]? with | some (.cells cs _ _)=>some cs | _=>none)=_
 rw[h]
theorem zc7 {w w':World} (h:Below w.heap.size w w'):Ext w w':=⟨h.os,h.tape,h.output,h.size,fun k hk _=>h.block k hk,by unfold Dr;trivial⟩
def zdp:Array Value:=(Lib.pow10Tab.map fun z=>Value.int .u64 z).toArray
abbrev HPow:Hp:=.tab 0 zdp
abbrev HErr (ev:Value):Hp:=.tab 2 #[ev]
def EvOk (ev:Value):Prop:=ev=.nilIface∨∃ te pe,ev=.iface te pe
theorem digL_dec:∀ n:Nat,digL n=Lib.decDigits n:=by
 intro n
 induction n using Nat.strongRecOn with
 | _ n ih=>
  unfold digL Lib.decDigits
  split
  · rfl
  · rw[ih (n / 10) (by omega)]
theorem digL_len:∀ n:Nat,(digL n).length≤n+1:=by
 intro n
 induction n using Nat.strongRecOn with
 | _ n ih=>
  unfold digL
  split
  · simp
  · rw[List.length_append];have:=ih (n / 10) (by omega);simp only[List.length_cons,List.length_nil];omega
theorem digB_size (n:Nat):(digB n).size≤n+1:=by unfold digB;rw[z7];exact digL_len n
theorem itoa_c (n:Nat) (hn:n≤1000000000000):CD Tryz.prog 97 [HPow] [dN n] (fun r H'=>r=.s (digB n)∧H'=[HPow]):=
 cd_ext fun w F vs hvs hok=>by
  obtain ⟨u,us,rfl,hu,hus⟩:=hvs
  have hu:u=_:=hu
  have hus:us=[]:=hus
  subst hu;subst hus
  obtain ⟨hF,T,fr,hh⟩:=hok _ List.mem_cons_self
  refine(Any.strconv_Itoa Tryz.laysM171 (n:Int) (by omega) (by omega) w (tab_of (by kernel_rfl) hh)).mono fun e w' he=>?_
  obtain ⟨rfl,k,os,rfl⟩:=he
  refine⟨_,rfl,zc7 (below_regrown w (w.drawn+k) os),.s (digB n),⟨rfl,rfl⟩,?_,?_⟩
  · show Value.string _=Value.string _
    congr 1
    show _=mkB (digL n)
    unfold mkB Lib.itoa
    rw[if_neg (by omega),digL_dec];rfl
  · have:=digB_size n;unfold maxLen;omega
def Digs (l:List UInt8):Prop:=∀ b∈l,48≤b.toNat∧b.toNat≤57
theorem parse_no:∀ (l:List UInt8) (acc:Nat),Digs l→(∃ u,Lib.parseUint10 acc l=.ok u)∨Lib.parseUint10 acc l=.range
 | [],acc,_=>.inl ⟨_,rfl⟩
 | c::r,acc,h=>by
  have hc:=h c List.mem_cons_self
  unfold Lib.parseUint10
  rw[if_pos hc]
  split
  · exact .inr rfl
  · split
    · exact .inr rfl
    · exact parse_no r _ (fun b hb=>h b (List.mem_cons_of_mem _ hb))
theorem parse_ok:∀ (l:List UInt8) (acc k:Nat),Digs l→acc<10 ^ k→l.length+k≤13→Lib.parseUint10 acc l=.ok (l.foldl (fun n b=>10*n+(b.toNat-48)) acc)∧l.foldl (fun n b=>10*n+(b.toNat-48)) acc<10 ^ 13
 | [],acc,k,_,ha,hl=>⟨rfl,Nat.lt_of_lt_of_le ha (Nat.pow_le_pow_right (by omega) (by simpa using hl))⟩
 | c::r,acc,k,h,ha,hl=>by
  have hc:=h c List.mem_cons_self
  have hk:10 ^ k≤10 ^ 13:=Nat.pow_le_pow_right (by omega) (by omega)
  have h13:(10:Nat) ^ 13=10000000000000:=by decide
  have ih:=parse_ok r (10*acc+(c.toNat-48)) (k+1) (fun b hb=>h b (List.mem_cons_of_mem _ hb)) (by rw[Nat.pow_succ];omega) (by simp only[List.length_cons] at hl;omega)
  unfold Lib.parseUint10
  rw[if_pos hc,if_neg (by omega),if_neg (by omega),Nat.mul_comm acc 10]
  exact ih
theorem atoi_ok {l:List UInt8} (h:Digs l) (hne:l≠[]) (hl:l.length≤13):Lib.atoiAll l=.ok (digV l:Int):=by
 cases l with
 | nil=>exact absurd rfl hne
 | cons c r=>
  have hc:=h c List.mem_cons_self
  obtain ⟨h1,h2⟩:=parse_ok (c::r) 0 0 h (by decide) (by omega)
  have h13:(10:Nat) ^ 13=10000000000000:=by decide
  rw[Lib.atoiAll_plain c r (by omega) (by omega)]
  unfold Lib.parseMag
  rw[if_neg (by simp),h1]
  unfold Lib.signless
  simp only[]
  rw[if_neg (by omega)];rfl
theorem atoi_no {l:List UInt8} (h:Digs l) (hne:l≠[]):(∃ v,Lib.atoiAll l=.ok v)∨Lib.atoiAll l=.range:=by
 cases l with
 | nil=>exact absurd rfl hne
 | cons c r=>
  have hc:=h c List.mem_cons_self
  have hp:=parse_no (c::r) 0 h
  rw[Lib.atoiAll_plain c r (by omega) (by omega)]
  unfold Lib.parseMag
  rw[if_neg (by simp)]
  unfold Lib.signless
  rcases hp with ⟨u,e⟩ | e
  · rw[e]
    simp only[]
    split
    · first | exact .inr rfl | exact .inl ⟨_,rfl⟩
    · first | exact .inl ⟨_,rfl⟩ | exact .inr rfl
  · rw[e];exact .inr rfl
theorem atoi_c (s:ByteArray) (ev:Value) (hev:EvOk ev) (hd:Digs (bl8 s)) (hne:bl8 s≠[]) (hs:s.size≤1000000):CD Tryz.prog 160 [HErr ev] [.s s] (fun r H'=>∃ v x,r=.tup [dI v,x]∧H'=[HErr ev]∧(s.size≤13→v=(digV (bl8 s):Int)∧x=.v .nilIface)∧ -9223372036854775808≤v∧v≤9223372036854775807):=
 cd_ext fun w F vs hvs hok=>by
  obtain ⟨u,us,rfl,hu,hus⟩:=hvs
  obtain ⟨hu,hm⟩:=hu
  have hus:us=[]:=hus
  subst hu;subst hus
  rcases atoi_no hd hne with ⟨v,ha⟩ | ha
  · skip
    have hb:=Lib.atoiAll_bounds ha
    refine(Any.strconv_Atoi_ok Tryz.laysC172 s (by omega) v ha w).mono fun e w' he=>?_
    obtain ⟨rfl,hw⟩:=he
    refine⟨_,rfl,?_,.tup [dI v,.v .nilIface],⟨v,_,rfl,rfl,fun h13=>⟨?_,rfl⟩,hb.1,hb.2⟩,⟨_,rfl,_,_,rfl,rfl,_,_,rfl,rfl,rfl⟩⟩
    · rcases hw with rfl | ⟨t,rfl⟩
      · exact Ext.rfl'
      · exact zc7 (Joins.below_bytesWorld _ w _ t (Nat.le_refl _))
    · have:=atoi_ok hd hne (by rw[zai];exact h13)
      rw[this] at ha;injection ha with ha;exact ha.symm
  · skip
    have hb:=Lib.atoiSat_bounds (bl8 s)
    obtain ⟨hF,T,fr,hh⟩:=hok _ List.mem_cons_self
    have hcell:w.cell? ⟨2,0,none⟩=some ev:=by
     unfold World.cell?
     rw[hh];rfl
    refine(Any.strconv_Atoi_range Tryz.laysC172 s (by omega) ha ev w hcell hev).mono fun e w' he=>?_
    obtain ⟨N,rfl,_,_,hbel⟩:=he
    refine⟨_,rfl,zc7 hbel,.tup [dI (Lib.atoiSat (bl8 s)),.any],⟨_,_,rfl,rfl,fun h13=>?_,hb.1,hb.2⟩,⟨_,rfl,_,_,rfl,rfl,_,_,rfl,rfl,rfl⟩⟩
    have:=atoi_ok hd hne (by rw[zai];exact h13)
    rw[this] at ha;cases ha
end Lp
set_option linter.unusedVariables false
namespace Lp
open Go
def rightV (v:Int):Bool:=decide (-1000000000000≤v)&&decide (v≤1000000000000)
end Lp
set_option linter.unusedVariables false
namespace Lp
open Go
section
variable {l:List RowD} {k:Nat} {x:RowD}
end
section
variable {l:List RowD} {i:Nat} {x y:RowD}
end
def metB:ByteArray:=⟨#[109,101,116,114,105,99]⟩
def keyL (mode:Int) (ns:List ByteArray) (l:List Lbl):List Lbl:=
 if mode=1 then pickL l ns true else if mode=2 then pickL (pickL l ns false) [metB] false else pickL l [metB] false
section
variable {f:RowD→Int×Int} {l:List RowD} {k:Nat} {x:RowD}
end
section
variable {op:ByteArray} {v:Int} {left:Bool} {l:List RowD} {k:Nat} {x:RowD}
end
def keyT (mode:Int) (ns:List ByteArray) (r:RowD):ByteArray:=textB (keyL mode ns r.ls)
def keyTs (mode:Int) (ns:List ByteArray) (l:List RowD):List ByteArray:=l.map (keyT mode ns)
def ndT (mode:Int) (ns:List ByteArray) (l:List RowD):Prop:=(keyTs mode ns l).Nodup
instance (mode:Int) (ns:List ByteArray) (l:List RowD):Decidable (ndT mode ns l):=inferInstanceAs (Decidable (List.Nodup _))
section
variable {op:ByteArray} {mode:Int} {ns:List ByteArray} {a b:List RowD} {k:Nat} {x:RowD}
end
end Lp
set_option linter.unusedVariables false
namespace Lp
open Go
structure MatD where
 n:ByteArray
 op:Int
 v:ByteArray
def MatD.d (m:MatD):D:=.agg [.s m.n,.v (.int .i64 m.op),.s m.v]
inductive Nd where
 | mk (op text:ByteArray) (n mode:Int) (names:List ByteArray) (ms:List MatD) (kids:List Nd)
mutual
def Nd.d:Nd→D
 | .mk op text n mode names ms kids=>.agg [.s op,.s text,.v (.int .i64 n),.v (.int .i64 mode),.sh 1 (names.map D.s),.sh 3 (ms.map MatD.d),.sh 7 (Nd.ds kids)]
def Nd.ds:List Nd→List D
 | []=>[]
 | x::r=>Nd.d x::Nd.ds r
end
theorem Nd.ds_eq:∀ l:List Nd,Nd.ds l=l.map Nd.d
 | []=>rfl
 | x::r=>congrArg (Nd.d x::·) (Nd.ds_eq r)
theorem Nd.d_mk (op text:ByteArray) (n mode:Int) (names:List ByteArray) (ms:List MatD) (kids:List Nd):
 Nd.d (.mk op text n mode names ms kids)=.agg [.s op,.s text,.v (.int .i64 n),.v (.int .i64 mode),.sh 1 (names.map D.s),.sh 3 (ms.map MatD.d),.sh 7 (kids.map Nd.d)]:=by
 rw[←Nd.ds_eq];rfl
abbrev nSel:ByteArray:=⟨#[115,101,108]⟩
end Lp
set_option linter.unusedVariables false
namespace Lp
open Go
inductive Way where
 | sums (mean:Bool)
 | least
 | most
 | many
 | rank (p:Int)
 | top (n:Int)
def aggN:List ByteArray:=[⟨#[115,117,109]⟩,⟨#[109,105,110]⟩,⟨#[109,97,120]⟩,⟨#[99,111,117,110,116]⟩,⟨#[97,118,103]⟩,⟨#[116,111,112,107]⟩,⟨#[113,117,97,110,116,105,108,101]⟩]
abbrev nTop:ByteArray:=⟨#[116,111,112,107]⟩
abbrev nQ:ByteArray:=⟨#[113,117,97,110,116,105,108,101]⟩
section
variable {f:List RowD→Int×Int} {gs:List (List RowD)} {k:Nat} {x:List RowD}
end
section
variable {mode:Int} {names:List ByteArray} {l:List RowD} {w:Way}
end
end Lp
set_option linter.unusedVariables false
namespace Lp
open Go
structure Rd where
 l:List TokD
 n:Int
 b:Bool
def Rd.pk (s:Rd):TokD:=s.l.headD zbk
def Rd.is (s:Rd) (k:Int) (ts:List ByteArray):Bool:=decide (s.pk.k=k)&&hasN ts s.pk.t
def Rd.take (s:Rd) (k:Int) (ts:List ByteArray):ByteArray×Bool×Rd:=if s.b=true∨s.is k ts=false then(ByteArray.empty,false,s) else(s.pk.t,true,⟨s.l.tail,s.n,s.b⟩)
def Rd.must (s:Rd) (t:ByteArray):Rd:=⟨(s.take 5 [t]).2.2.l,(s.take 5 [t]).2.2.n,(s.take 5 [t]).2.2.b||!(s.take 5 [t]).2.1⟩
def Rd.any (s:Rd) (k:Int):ByteArray×Rd:=if s.b=true∨s.pk.k≠k then(ByteArray.empty,⟨s.l,s.n,true⟩) else(s.pk.t,⟨s.l.tail,s.n,s.b⟩)
def numV (t:ByteArray):Int:=(digV (bl8 t):Int)
def Rd.number (s:Rd) (k:Int):Int×Rd:=(numV (s.any k).1,(s.any k).2)
def Rd.node (s:Rd):Rd:=⟨s.l,s.n+1,s.b||decide (200<s.n+1)⟩
abbrev zR:ByteArray:=⟨#[40]⟩
abbrev zJ:ByteArray:=⟨#[41]⟩
abbrev za8:ByteArray:=⟨#[44]⟩
abbrev zbf:ByteArray:=⟨#[123]⟩
abbrev zbr:ByteArray:=⟨#[125]⟩
abbrev tSq:ByteArray:=⟨#[91]⟩
abbrev tSqE:ByteArray:=⟨#[93]⟩
abbrev zeb:ByteArray:=⟨#[43]⟩
abbrev zbv:ByteArray:=⟨#[45]⟩
abbrev zcT:ByteArray:=⟨#[42]⟩
abbrev tOver:ByteArray:=⟨#[47]⟩
abbrev tMod:ByteArray:=⟨#[37]⟩
abbrev tEqq:ByteArray:=⟨#[61,61]⟩
abbrev tNe:ByteArray:=⟨#[33,61]⟩
abbrev tLt:ByteArray:=⟨#[60]⟩
abbrev tLe:ByteArray:=⟨#[60,61]⟩
abbrev tGt:ByteArray:=⟨#[62]⟩
abbrev tGe:ByteArray:=⟨#[62,61]⟩
abbrev tEq:ByteArray:=⟨#[61]⟩
abbrev zaS:ByteArray:=⟨#[61,126]⟩
abbrev zab:ByteArray:=⟨#[33,126]⟩
abbrev tOn:ByteArray:=⟨#[111,110]⟩
abbrev za7:ByteArray:=⟨#[105,103,110,111,114,105,110,103]⟩
abbrev tBy:ByteArray:=⟨#[98,121]⟩
abbrev zbO:ByteArray:=⟨#[119,105,116,104,111,117,116]⟩
abbrev tBin:ByteArray:=⟨#[98,105,110]⟩
abbrev tNeg:ByteArray:=⟨#[110,101,103]⟩
abbrev tNum:ByteArray:=⟨#[110,117,109]⟩
abbrev tAgg:ByteArray:=⟨#[97,103,103]⟩
abbrev tFn:ByteArray:=⟨#[102,110]⟩
abbrev zcE:ByteArray:=⟨#[111,114,100,101,114]⟩
abbrev tAsc:ByteArray:=⟨#[97,115,99]⟩
abbrev zer:ByteArray:=⟨#[100,101,115,99]⟩
abbrev zei:ByteArray:=⟨#[108,105,109,105,116]⟩
abbrev zdN:ByteArray:=⟨#[111,102,102,115,101,116]⟩
def namesF:Nat→List ByteArray→Rd→List ByteArray×Rd
 | 0,o,s=>(o,s)
 | f+1,o,s=>
  if s.b=true then(o,s)
  else if ((s.any 1).2.take 5 [za8]).2.1=true then namesF f (o++[(s.any 1).1]) ((s.any 1).2.take 5 [za8]).2.2
  else(o++[(s.any 1).1],((s.any 1).2.take 5 [za8]).2.2)
def Rd.names (s:Rd):List ByteArray×Rd:=
 if (s.must zR).is 5 [zJ]=true then([],(s.must zR).must zJ)
 else((namesF ((s.must zR).l.length+1) [] (s.must zR)).1,(namesF ((s.must zR).l.length+1) [] (s.must zR)).2.must zJ)
def Rd.mode (s:Rd) (a b:ByteArray):Int×List ByteArray×Rd:=
 if (s.take 1 [a,b]).2.1=false then(0,[],(s.take 1 [a,b]).2.2)
 else if (s.take 1 [a,b]).1=a then(1,(s.take 1 [a,b]).2.2.names) else(2,(s.take 1 [a,b]).2.2.names)
def za5 (part:Rd→Nd×Rd) (signs:List ByteArray):Nat→Nd→Rd→Nd×Rd
 | 0,o,s=>(o,s)
 | f+1,o,s=>
  if (s.take 5 signs).2.1=false then(o,(s.take 5 signs).2.2)
  else
   let m:=(s.take 5 signs).2.2.mode tOn za7
   let q:=part m.2.2
   za5 part signs f (.mk tBin (s.take 5 signs).1 0 m.1 m.2.1 [] [o,q.1]) q.2.node
def Rd.level (s:Rd) (part:Rd→Nd×Rd) (signs:List ByteArray):Nd×Rd:=za5 part signs ((part s).2.l.length+1) (part s).1 (part s).2
def noNd:Nd:=.mk ByteArray.empty ByteArray.empty 0 0 [] [] []
def fnN:List ByteArray:=[⟨#[115,117,109,95,111,118,101,114]⟩,⟨#[97,118,103,95,111,118,101,114]⟩,⟨#[109,105,110,95,111,118,101,114]⟩,⟨#[109,97,120,95,111,118,101,114]⟩,⟨#[99,111,117,110,116,95,111,118,101,114]⟩,⟨#[108,97,115,116,95,111,118,101,114]⟩,⟨#[105,110,99,114,101,97,115,101]⟩,⟨#[114,97,116,101]⟩]
def zdS (t:ByteArray):Bool:=hasN aggN t||hasN fnN t||hasN [⟨#[111,114,100,101,114]⟩,⟨#[108,105,109,105,116]⟩,⟨#[111,102,102,115,101,116]⟩,⟨#[97,115,99]⟩,⟨#[100,101,115,99]⟩,⟨#[111,110]⟩,⟨#[105,103,110,111,114,105,110,103]⟩,⟨#[98,121]⟩,⟨#[119,105,116,104,111,117,116]⟩] t
def zbz (t:ByteArray):Bool:=decide (t=nTop)||decide (t=nQ)
def opM (t:ByteArray):Int:=if t=tEq then 1 else if t=tNe then 2 else if t=zaS then 3 else if t=zab then 4 else 0
def bracesF:Nat→List MatD→Rd→List MatD×Rd
 | 0,o,s=>(o,s)
 | f+1,o,s=>
  if s.b=true then(o,s)
  else
   let a:=s.any 1
   let c:=a.2.take 5 [tEq,tNe,zaS,zab]
   let v:=Rd.any ⟨c.2.2.l,c.2.2.n,c.2.2.b||!c.2.1⟩ 3
   let d:=v.2.take 5 [za8]
   if d.2.1=true then bracesF f (o++[⟨a.1,opM c.1,v.1⟩]) d.2.2 else(o++[⟨a.1,opM c.1,v.1⟩],d.2.2)
section
variable (rm:List MatD→Bool)
def Rd.braces (s:Rd):List MatD×Rd:=
 if (s.must zbf).is 5 [zbr]=true then([],(s.must zbf).must zbr)
 else
  let r:=bracesF ((s.must zbf).l.length+1) [] (s.must zbf)
  (r.1,⟨(r.2.must zbr).l,(r.2.must zbr).n,(r.2.must zbr).b||!rm r.1⟩)
def Rd.selName (s:Rd):ByteArray×Rd:=if s.pk.k=1∧zdS s.pk.t=false then s.any 1 else(ByteArray.empty,s)
def Rd.selMs (s:Rd) (text:ByteArray):List MatD×Rd:=if s.is 5 [zbf]=true then s.braces rm else([],⟨s.l,s.n,s.b||decide (text=ByteArray.empty)⟩)
def Rd.selWin (s:Rd):Int×Rd:=if (s.take 5 [tSq]).2.1=true then((Rd.number (s.take 5 [tSq]).2.2 4).1,(Rd.number (s.take 5 [tSq]).2.2 4).2.must tSqE) else(0,(s.take 5 [tSq]).2.2)
def Rd.selector (s:Rd):Nd×Rd:=
 let a:=s.selName
 let m:=a.2.selMs rm a.1
 let w:=m.2.selWin
 (.mk nSel a.1 w.1 0 [] m.1 [],w.2.node)
def Rd.aggr (s:Rd) (ex:Rd→Nd×Rd):Nd×Rd:=
 let a:=s.any 1
 let m:=a.2.mode tBy zbO
 let p:=m.2.2.must zR
 let k:=if zbz a.1=true then(p.number 2) else(0,p)
 let p2:=if zbz a.1=true then k.2.must za8 else k.2
 let q:=ex p2
 (.mk tAgg a.1 k.1 m.1 m.2.1 [] [q.1],(q.2.must zJ).node)
def Rd.prim (s:Rd) (ex:Rd→Nd×Rd):Nd×Rd:=
 if s.b=true then(noNd,s)
 else if s.pk.k=2 then(.mk tNum ByteArray.empty (s.number 2).1 0 [] [] [],(s.number 2).2.node)
 else if s.is 5 [zR]=true then((ex (s.must zR)).1,(ex (s.must zR)).2.must zJ)
 else if s.pk.k=1∧hasN aggN s.pk.t=true then s.aggr ex
 else if s.pk.k=1∧hasN fnN s.pk.t=true then
  let a:=s.any 1
  let q:=ex (a.2.must zR)
  (.mk tFn a.1 0 0 [] [] [q.1],q.2.node.must zJ)
 else s.selector rm
def zaD (ex:Rd→Nd×Rd):Nat→Rd→Nd×Rd
 | 0,s=>(noNd,s)
 | f+1,s=>
  if (s.take 5 [zbv]).2.1=true then
   let q:=zaD ex f (s.take 5 [zbv]).2.2
   (.mk tNeg ByteArray.empty 0 0 [] [] [q.1],q.2.node)
  else Rd.prim rm (s.take 5 [zbv]).2.2 ex
def zdP (ex:Rd→Nd×Rd) (s:Rd):Nd×Rd:=s.level (fun s=>zaD rm ex (s.l.length+1) s) [zcT,tOver,tMod]
def sumP (ex:Rd→Nd×Rd) (s:Rd):Nd×Rd:=s.level (zdP rm ex) [zeb,zbv]
def zaO:Nat→Rd→Nd×Rd
 | 0,s=>(noNd,s)
 | f+1,s=>s.level (sumP rm (zaO f)) [tEqq,tNe,tLt,tLe,tGt,tGe]
def Rd.bound (s:Rd) (w:ByteArray):Int×Rd:=
 if (s.take 1 [w]).2.1=false then(-1,(s.take 1 [w]).2.2)
 else(((s.take 1 [w]).2.2.number 2).1,⟨((s.take 1 [w]).2.2.number 2).2.l,((s.take 1 [w]).2.2.number 2).2.n,((s.take 1 [w]).2.2.number 2).2.b||decide (2000<((s.take 1 [w]).2.2.number 2).1)⟩)
def Rd.order (s:Rd):Int×Rd:=
 let a:=s.take 1 [zcE]
 if a.2.1=false then(0,a.2.2)
 else
  let d:=a.2.2.take 1 [zer]
  if d.2.1=true then(2,d.2.2)
  else(1,⟨(d.2.2.any 1).2.l,(d.2.2.any 1).2.n,(d.2.2.any 1).2.b||decide ((d.2.2.any 1).1≠tAsc)⟩)
structure QryD where
 root:Nd
 order:Int
 limit:Int
 offset:Int
def zcU (l:List TokD):Option QryD:=
 let e:=zaO rm (l.length+1) ⟨l,0,false⟩
 let o:=e.2.order
 let a:=o.2.bound zei
 let b:=a.2.bound zdN
 if b.2.b=true∨0<b.2.l.length then none else some ⟨e.1,o.1,a.1,b.1⟩
end
end Lp
set_option linter.unusedVariables false
namespace Lp
open Go
def Rd.w (s:Rd):Int:=s.n+2*(s.l.length:Int)
structure Stp (c:Int) (s t:Rd):Prop where
 l:t.l <:+s.l
 w:t.w≤s.w+c
 n:s.n≤t.n
theorem Stp.rfl' (s:Rd):Stp 0 s s:=⟨List.suffix_refl _,by omega,Int.le_refl _⟩
theorem Stp.len {c:Int} {s t:Rd} (h:Stp c s t):t.l.length≤s.l.length:=h.l.length_le
theorem Stp.trans {c d:Int} {s t u:Rd} (h:Stp c s t) (k:Stp d t u):Stp (c+d) s u:=⟨k.l.trans h.l,by have:=h.w;have:=k.w;omega,Int.le_trans h.n k.n⟩
theorem Stp.le {c d:Int} {s t:Rd} (h:Stp c s t) (hc:c≤d):Stp d s t:=⟨h.l,by have:=h.w;omega,h.n⟩
theorem Stp.bad {c:Int} {s t:Rd} (h:Stp c s t) (b:Bool):Stp c s ⟨t.l,t.n,b⟩:=⟨h.l,h.w,h.n⟩
theorem tail_len {l:List TokD} (h:l≠[]):l.tail.length+1=l.length:=by
 cases l with
 | nil=>exact absurd rfl h
 | cons x l=>rfl
theorem zew {s:Rd} {k:Int} (hk:k≠0) (h:s.pk.k=k):s.l≠[]:=fun e=>by
 unfold Rd.pk at h;rw[e] at h;exact hk h.symm
theorem zah (s:Rd) (k:Int) (ts:List ByteArray):Stp 0 s (s.take k ts).2.2:=by
 unfold Rd.take
 split
 · exact Stp.rfl' s
 · refine⟨List.tail_suffix _,?_,Int.le_refl _⟩
   unfold Rd.w;simp only[List.length_tail];omega
theorem zaR {s:Rd} {k:Int} {ts:List ByteArray} (hk:k≠0) (h:(s.take k ts).2.1=true):(s.take k ts).2.2.l.length+1=s.l.length∧Stp (-2) s (s.take k ts).2.2∧s.b=false∧(s.take k ts).2.2.b=false∧s.is k ts=true:=by
 unfold Rd.take at h ⊢
 split at h
 · cases h
 · rename_i hc
   rw[if_neg hc]
   have hb:s.b=false:=by cases e:s.b with
    | false=>rfl
    | true=>exact absurd (Or.inl e) hc
   have hi:s.is k ts=true:=by cases e:s.is k ts with
    | true=>rfl
    | false=>exact absurd (Or.inr e) hc
   have hne:s.l≠[]:=zew hk (by unfold Rd.is at hi;simp only[Bool.and_eq_true,decide_eq_true_eq] at hi;exact hi.1)
   have hl:=tail_len hne
   refine⟨hl,⟨List.tail_suffix _,?_,Int.le_refl _⟩,hb,hb,hi⟩
   unfold Rd.w;simp only;omega
theorem zaq (s:Rd) (t:ByteArray):Stp 0 s (s.must t):=(zah s 5 [t]).bad _
theorem zcd (s:Rd) (k:Int):Stp 0 s (s.any k).2:=by
 unfold Rd.any
 split
 · exact(Stp.rfl' s).bad _
 · refine⟨List.tail_suffix _,?_,Int.le_refl _⟩
   unfold Rd.w;simp only[List.length_tail];omega
theorem any_got {s:Rd} {k:Int} (hk:k≠0) (hb:s.b=false) (h:s.pk.k=k):(s.any k).2.l.length+1=s.l.length∧Stp (-2) s (s.any k).2∧(s.any k).1=s.pk.t∧(s.any k).2.b=false:=by
 unfold Rd.any
 rw[if_neg (by rw[hb,h];simp)]
 have hl:=tail_len (zew hk h)
 refine⟨hl,⟨List.tail_suffix _,?_,Int.le_refl _⟩,rfl,hb⟩
 unfold Rd.w;simp only;omega
theorem zck (s:Rd):Stp 1 s s.node:=⟨List.suffix_refl _,by unfold Rd.node Rd.w;simp only;omega,by unfold Rd.node;simp only;omega⟩
theorem namesF_stp:∀ (f:Nat) (o:List ByteArray) (s:Rd),Stp 0 s (namesF f o s).2
 | 0,o,s=>Stp.rfl' s
 | f+1,o,s=>by
  unfold namesF
  split
  · exact Stp.rfl' s
  · have h:=(zcd s 1).trans (zah (s.any 1).2 5 [za8])
    split
    · exact(h.trans (namesF_stp f _ _)).le (by omega)
    · exact h.le (by omega)
theorem names_stp (s:Rd):Stp 0 s s.names.2:=by
 unfold Rd.names
 split
 · exact((zaq s _).trans (zaq _ _)).le (by omega)
 · exact(((zaq s _).trans (namesF_stp _ _ _)).trans (zaq _ _)).le (by omega)
theorem zc4 (s:Rd) (a b:ByteArray):Stp 0 s (s.mode a b).2.2:=by
 unfold Rd.mode
 split
 · exact zah s 1 _
 · split
   · exact((zah s 1 _).trans (names_stp _)).le (by omega)
   · exact((zah s 1 _).trans (names_stp _)).le (by omega)
theorem levelF_stp {part:Rd→Nd×Rd} {signs:List ByteArray} (hp:∀ s,Stp 1 s (part s).2):∀ (f:Nat) (o:Nd) (s:Rd),Stp 0 s (za5 part signs f o s).2
 | 0,o,s=>Stp.rfl' s
 | f+1,o,s=>by
  unfold za5
  split
  · exact zah s 5 _
  · rename_i h
    have h:(s.take 5 signs).2.1=true:=by simpa using h
    have h1:=(zaR (by decide) h).2.1
    have h2:=h1.trans (zc4 (s.take 5 signs).2.2 tOn za7)
    have h3:=h2.trans (hp ((s.take 5 signs).2.2.mode tOn za7).2.2)
    have h4:=h3.trans (zck _)
    exact(h4.trans (levelF_stp hp f _ _)).le (by omega)
theorem level_stp {part:Rd→Nd×Rd} (hp:∀ s,Stp 1 s (part s).2) (s:Rd) (signs:List ByteArray):Stp 1 s (s.level part signs).2:=by
 unfold Rd.level
 exact((hp s).trans (levelF_stp hp _ _ _)).le (by omega)
theorem bracesF_stp:∀ (f:Nat) (o:List MatD) (s:Rd),Stp 0 s (bracesF f o s).2
 | 0,o,s=>Stp.rfl' s
 | f+1,o,s=>by
  unfold bracesF
  split
  · exact Stp.rfl' s
  · have h:=((((zcd s 1).trans (zah (s.any 1).2 5 [tEq,tNe,zaS,zab])).bad (((s.any 1).2.take 5 [tEq,tNe,zaS,zab]).2.2.b||!((s.any 1).2.take 5 [tEq,tNe,zaS,zab]).2.1)).trans (zcd _ 3)).trans (zah _ 5 [za8])
    simp only
    split
    · exact(h.trans (bracesF_stp f _ _)).le (by omega)
    · exact h.le (by omega)
theorem zbA (s:Rd) (k:Int):Stp 0 s (s.number k).2:=zcd s k
section
variable (rm:List MatD→Bool)
theorem braces_stp (s:Rd):Stp 0 s (s.braces rm).2:=by
 unfold Rd.braces
 split
 · exact((zaq s _).trans (zaq _ _)).le (by omega)
 · exact((((zaq s _).trans (bracesF_stp _ _ _)).trans (zaq _ _)).bad _).le (by omega)
theorem selector_stp (s:Rd):Stp 1 s (s.selector rm).2:=by
 have h1:Stp 0 s s.selName.2:=by unfold Rd.selName;split;exact zcd s 1;exact Stp.rfl' s
 have h2:∀ (s:Rd) t,Stp 0 s (s.selMs rm t).2:=fun s t=>by unfold Rd.selMs;split;exact braces_stp rm s;exact(Stp.rfl' s).bad _
 have h3:∀ s:Rd,Stp 0 s s.selWin.2:=fun s=>by
  unfold Rd.selWin;split
  · exact(((zah s 5 [tSq]).trans (zbA _ 4)).trans (zaq _ _)).le (by omega)
  · exact zah s 5 _
 exact(((h1.trans (h2 _ _)).trans (h3 _)).trans (zck _)).le (by omega)
theorem aggr_stp {s:Rd} {ex:Rd→Nd×Rd} (hp:∀ s,Stp 1 s (ex s).2) (hb:s.b=false) (hk:s.pk.k=1):Stp 1 s (s.aggr ex).2:=by
 have h1:=(any_got (by decide) hb hk).2.1
 have h2:=(h1.trans (zc4 (s.any 1).2 tBy zbO)).trans (zaq _ zR)
 unfold Rd.aggr
 simp only
 split
 · exact(((((h2.trans (zbA _ 2)).trans (zaq _ za8)).trans (hp _)).trans (zaq _ zJ)).trans (zck _)).le (by omega)
 · exact(((h2.trans (hp _)).trans (zaq _ zJ)).trans (zck _)).le (by omega)
theorem prim_stp {ex:Rd→Nd×Rd} (hp:∀ s,Stp 1 s (ex s).2) (s:Rd):Stp 1 s (s.prim rm ex).2:=by
 unfold Rd.prim
 split
 · exact(Stp.rfl' s).le (by omega)
 · rename_i hb
   have hb:s.b=false:=by simpa using hb
   split
   · exact((zbA s 2).trans (zck _)).le (by omega)
   · split
     · exact(((zaq s zR).trans (hp _)).trans (zaq _ zJ)).le (by omega)
     · split
       · rename_i h;exact aggr_stp hp hb h.1
       · split
         · rename_i h
           have h1:=(any_got (by decide) hb h.1).2.1
           exact((((h1.trans (zaq _ zR)).trans (hp _)).trans (zck _)).trans (zaq _ zJ)).le (by omega)
         · exact selector_stp rm s
theorem zb4 {ex:Rd→Nd×Rd} (hp:∀ s,Stp 1 s (ex s).2):∀ (f:Nat) (s:Rd),Stp 1 s (zaD rm ex f s).2
 | 0,s=>(Stp.rfl' s).le (by omega)
 | f+1,s=>by
  unfold zaD
  split
  · rename_i h
    exact(((zaR (by decide) h).2.1.trans (zb4 hp f _)).trans (zck _)).le (by omega)
  · exact((zah s 5 _).trans (prim_stp rm hp _)).le (by omega)
theorem prodP_stp {ex:Rd→Nd×Rd} (hp:∀ s,Stp 1 s (ex s).2) (s:Rd):Stp 1 s (zdP rm ex s).2:=level_stp (fun s=>zb4 rm hp _ s) s _
theorem zcg {ex:Rd→Nd×Rd} (hp:∀ s,Stp 1 s (ex s).2) (s:Rd):Stp 1 s (sumP rm ex s).2:=level_stp (fun s=>prodP_stp rm hp s) s _
theorem zaz:∀ (f:Nat) (s:Rd),Stp 1 s (zaO rm f s).2
 | 0,s=>(Stp.rfl' s).le (by omega)
 | f+1,s=>by unfold zaO;exact level_stp (fun s=>zcg rm (zaz f) s) s _
end
end Lp
set_option linter.unusedVariables false
namespace Lp
open Go
structure RngD where
 lo:Int
 hi:Int
structure SetD where
 all:Bool
 nt:Bool
 items:List RngD
inductive Pt where
 | one (s:SetD)
 | row (l:List Pt)
 | alt (l:List Pt)
 | rep (x:Pt) (none again:Bool)
structure PR where
 l:List Int
 b:Bool
def PR.has (s:PR) (c:Int):Bool:=decide (s.l.head?=some c)
def PR.take (s:PR) (c:Int):Bool×PR:=if s.has c=true then(true,⟨s.l.tail,s.b⟩) else(false,s)
def PR.any (s:PR):Int×PR:=match s.l with
 | []=>(0,⟨[],true⟩)
 | c::r=>(c,⟨r,s.b⟩)
def PR.times (s:PR) (x:Pt):Pt×PR:=
 if s.has 42=true then(.rep x true true,(s.take 42).2)
 else if s.has 43=true then(.rep x false true,(s.take 43).2)
 else if s.has 63=true then(.rep x true false,(s.take 63).2)
 else(x,s)
def PR.member (s:PR):Int×PR:=if s.any.1=92 then s.any.2.any else s.any
def PR.item (s:PR):RngD×PR:=
 let m:=s.member
 if 1<m.2.l.length∧m.2.l.headD 0=45∧m.2.l.tail.headD 0≠93 then(⟨m.1,m.2.any.2.member.1⟩,m.2.any.2.member.2) else(⟨m.1,m.1⟩,m.2)
def zbq (nt:Bool):Nat→List RngD→PR→SetD×PR
 | 0,o,s=>(⟨false,nt,o⟩,s)
 | f+1,o,s=>
  if s.b=true then(⟨false,nt,o⟩,s)
  else if 0<o.length∧s.has 93=true then(⟨false,nt,o⟩,(s.take 93).2)
  else if s.l=[]∨s.has 93=true then(⟨false,nt,o⟩,⟨s.l,true⟩)
  else
   let x:=s.item
   zbq nt f (o++[x.1]) ⟨x.2.l,x.2.b||decide (x.1.hi<x.1.lo)⟩
def PR.cls (s:PR):SetD×PR:=zbq (s.take 94).1 ((s.take 94).2.l.length+2) [] (s.take 94).2
def sgnN:List Int:=[42,43,63,124,41,93]
def PR.atom (s:PR) (alt:PR→Pt×PR):Pt×PR:=
 let c:=s.any
 if c.1=40 then
  let x:=alt c.2
  if x.2.b=true then(x.1,x.2) else(x.1,⟨(x.2.take 41).2.l,!(x.2.take 41).1⟩)
 else if c.1=91 then(.one c.2.cls.1,c.2.cls.2)
 else if c.1=46 then(.one ⟨true,false,[]⟩,c.2)
 else if c.1=92 then(.one ⟨false,false,[⟨c.2.any.1,c.2.any.1⟩]⟩,c.2.any.2)
 else(.one ⟨false,false,[⟨c.1,c.1⟩]⟩,⟨c.2.l,c.2.b||sgnN.any (fun x=>decide (x=c.1))⟩)
def PR.stop (s:PR):Bool:=decide (s.l=[])||s.has 124||s.has 41
def za3 (alt:PR→Pt×PR):Nat→List Pt→PR→List Pt×PR
 | 0,o,s=>(o,s)
 | f+1,o,s=>
  if s.b=true∨s.stop=true then(o,s)
  else
   let a:=s.atom alt
   let t:=a.2.times a.1
   za3 alt f (o++[t.1]) t.2
def PR.parts (s:PR) (alt:PR→Pt×PR):Pt×PR:=(.row (za3 alt (s.l.length+1) [] s).1,(za3 alt (s.l.length+1) [] s).2)
def zbX (alt:PR→Pt×PR):Nat→List Pt→PR→List Pt×PR
 | 0,o,s=>(o,s)
 | f+1,o,s=>
  if s.has 124=true then
   let p:=(s.take 124).2.parts alt
   zbX alt f (o++[p.1]) p.2
  else(o,s)
def altF:Nat→PR→Pt×PR
 | 0,s=>(.row [],s)
 | f+1,s=>
  let p:=s.parts (altF f)
  let r:=zbX (altF f) (p.2.l.length+1) [p.1] p.2
  (.alt r.1,r.2)
def patR (l:List Int):Bool:=decide (l.length≤40)&&!(altF (l.length+1) ⟨l,false⟩).2.b&&decide ((altF (l.length+1) ⟨l,false⟩).2.l=[])
theorem PR.take_le (s:PR) (c:Int):(s.take c).2.l.length≤s.l.length:=by unfold PR.take;split<;>simp
theorem PR.take_lt {s:PR} {c:Int} (h:s.has c=true):(s.take c).2.l.length+1=s.l.length:=by
 unfold PR.take;rw[if_pos h]
 unfold PR.has at h;simp only[decide_eq_true_eq] at h
 cases e:s.l with
 | nil=>rw[e] at h;cases h
 | cons x r=>simp
theorem PR.any_le (s:PR):s.any.2.l.length≤s.l.length:=by unfold PR.any;cases e:s.l<;>simp
theorem PR.any_lt {s:PR} (h:s.l≠[]):s.any.2.l.length+1=s.l.length:=by
 unfold PR.any;cases e:s.l with
 | nil=>exact absurd e h
 | cons x r=>simp
theorem PR.times_le (s:PR) (x:Pt):(s.times x).2.l.length≤s.l.length:=by
 unfold PR.times;repeat' split
 all_goals first | exact PR.take_le _ _ | exact Nat.le_refl _
theorem PR.member_le (s:PR):s.member.2.l.length≤s.l.length:=by
 unfold PR.member;split
 · exact Nat.le_trans (PR.any_le _) (PR.any_le _)
 · exact PR.any_le _
theorem PR.member_lt {s:PR} (h:s.l≠[]):s.member.2.l.length<s.l.length:=by
 have:=PR.any_lt h
 unfold PR.member;split
 · have:=PR.any_le s.any.2;omega
 · omega
theorem PR.item_lt {s:PR} (h:s.l≠[]):s.item.2.l.length<s.l.length:=by
 have h1:=PR.member_lt h
 unfold PR.item;simp only;split
 · have h2:=PR.any_le s.member.2
   have h3:=PR.member_le s.member.2.any.2
   simp only;omega
 · exact h1
theorem classF_le (nt:Bool):∀ (f:Nat) (o:List RngD) (s:PR),(zbq nt f o s).2.l.length≤s.l.length
 | 0,o,s=>Nat.le_refl _
 | f+1,o,s=>by
  unfold zbq
  split
  · exact Nat.le_refl _
  · split
    · exact PR.take_le _ _
    · split
      · exact Nat.le_refl _
      · rename_i h
        have h1:=PR.item_lt (s:=s) (fun e=>h (Or.inl e))
        have h2:=classF_le nt f (o++[s.item.1]) ⟨s.item.2.l,s.item.2.b||decide (s.item.1.hi<s.item.1.lo)⟩
        simp only at h2 ⊢;omega
theorem PR.cls_le (s:PR):s.cls.2.l.length≤s.l.length:=Nat.le_trans (classF_le _ _ _ _) (PR.take_le _ _)
theorem PR.atom_lt {s:PR} {alt:PR→Pt×PR} (ha:∀ s,(alt s).2.l.length≤s.l.length) (h:s.l≠[]):(s.atom alt).2.l.length<s.l.length:=by
 have h1:=PR.any_lt h
 unfold PR.atom;simp only
 split
 · have h2:=ha s.any.2
   have h3:=PR.take_le (alt s.any.2).2 41
   split<;>simp only<;>omega
 · split
   · have:=PR.cls_le s.any.2;simp only;omega
   · split
     · simp only;omega
     · split
       · have:=PR.any_le s.any.2;simp only;omega
       · simp only;omega
theorem partsF_le {alt:PR→Pt×PR} (ha:∀ s,(alt s).2.l.length≤s.l.length):∀ (f:Nat) (o:List Pt) (s:PR),(za3 alt f o s).2.l.length≤s.l.length
 | 0,o,s=>Nat.le_refl _
 | f+1,o,s=>by
  unfold za3
  split
  · exact Nat.le_refl _
  · rename_i h
    have hne:s.l≠[]:=fun e=>h (Or.inr (by unfold PR.stop;rw[decide_eq_true e];rfl))
    have h1:=PR.atom_lt ha hne
    have h2:=PR.times_le (s.atom alt).2 (s.atom alt).1
    have h3:=partsF_le ha f (o++[((s.atom alt).2.times (s.atom alt).1).1]) ((s.atom alt).2.times (s.atom alt).1).2
    simp only;omega
theorem PR.parts_le {alt:PR→Pt×PR} (ha:∀ s,(alt s).2.l.length≤s.l.length) (s:PR):(s.parts alt).2.l.length≤s.l.length:=partsF_le ha _ _ _
theorem altsF_le {alt:PR→Pt×PR} (ha:∀ s,(alt s).2.l.length≤s.l.length):∀ (f:Nat) (o:List Pt) (s:PR),(zbX alt f o s).2.l.length≤s.l.length
 | 0,o,s=>Nat.le_refl _
 | f+1,o,s=>by
  unfold zbX
  split
  · rename_i h
    have h1:=PR.take_lt h
    have h2:=PR.parts_le ha (s.take 124).2
    have h3:=altsF_le ha f (o++[((s.take 124).2.parts alt).1]) ((s.take 124).2.parts alt).2
    simp only;omega
  · exact Nat.le_refl _
theorem altF_le:∀ (f:Nat) (s:PR),(altF f s).2.l.length≤s.l.length
 | 0,s=>Nat.le_refl _
 | f+1,s=>by
  unfold altF;simp only
  exact Nat.le_trans (altsF_le (altF_le f) _ _ _) (PR.parts_le (altF_le f) s)
end Lp
set_option linter.unusedVariables false
namespace Lp
open Go
theorem zZ {b:UInt8} {t:List UInt8} (h:b.toNat<128):decL (b::t)=(b.toNat,1):=by
 unfold decL
 have:gb (b::t) 0=b.toNat:=rfl
 rw[this,if_pos h]
theorem zcH {b:Bool} {l:List UInt8} (h:l≠[]):zaf b l=if b=true then(zaf false (l.drop (decL l).2)).map (· +(decL l).2)
 else if (decL l).1=92 then(zaf true (l.drop (decL l).2)).map (· +(decL l).2)
 else if (decL l).1=34 then some 0
 else(zaf false (l.drop (decL l).2)).map (· +(decL l).2):=by
 conv=>lhs;unfold zaf
 rw[dif_neg h]
theorem qscan_nil {b:Bool}:zaf b []=none:=by unfold zaf;rw[dif_pos rfl]
theorem qscan_lt:∀ (n:Nat) (l:List UInt8) (b:Bool) (i:Nat),l.length=n→zaf b l=some i→i<l.length:=by
 intro n
 induction n using Nat.strongRecOn with
 | _ n ih=>
  intro l b i hl h
  by_cases hn:l=[]
  · subst hn;rw[qscan_nil] at h;cases h
  · have h1:=zcP l
    have h2:=decL_le hn
    have key:∀ (b':Bool),(zaf b' (l.drop (decL l).2)).map (· +(decL l).2)=some i→i<l.length:=by
     intro b' h
     cases e:zaf b' (l.drop (decL l).2) with
     | none=>rw[e] at h;cases h
     | some j=>
      rw[e] at h;injection h with h
      have:=ih (l.length-(decL l).2) (by omega) _ b' j List.length_drop e
      rw[List.length_drop] at this
      have h:j+(decL l).2=i:=h
      omega
    rw[zcH hn] at h
    split at h
    · exact key _ h
    · split at h
      · exact key _ h
      · split at h
        · injection h with h;omega
        · exact key _ h
theorem signIn_size:∀ (xs:List ByteArray) (l:List UInt8),(zaL xs l).2≤l.length
 | [],l=>Nat.zero_le _
 | x::xs,l=>by
  unfold zaL;split
  · rename_i h
    rw[List.isPrefixOf_iff_prefix] at h
    have:=h.length_le
    rw[zai] at this;exact this
  · exact signIn_size xs l
theorem firstT_le {l:List UInt8}:(zt l).2≤l.length:=by
 unfold zt
 split
 · unfold zbH;split
   · exact zbx _ _
   · exact Nat.zero_le _
 · split
   · unfold numT;split
     · exact Nat.zero_le _
     · split
       · exact zbx _ _
       · split
         · exact Nat.zero_le _
         · exact zbx _ _
   · split
     · cases e:zaf true l with
       | none=>unfold strT;rw[e];exact Nat.zero_le _
       | some i=>
        have h2:=qscan_lt _ l true i rfl e
        unfold strT;rw[e]
        show (match unqB (mkB (l.take (i+1))) with | none=>(zbk,0) | some t=>((⟨3,0,t⟩:TokD),i+1)).2≤_
        split
        · exact Nat.zero_le _
        · exact h2
     · exact signIn_size _ _
theorem run_blank_all {g:List UInt8} (hg:∀ b∈g,b=32∨b=9∨b=10) (x:List UInt8):runL isB (g++x)=g.length+runL isB x:=by
 induction g with
 | nil=>simp
 | cons b t ih=>
  have hb:=hg b List.mem_cons_self
  have hlt:b.toNat<128:=by rcases hb with rfl | rfl | rfl<;>decide
  have hk:isB ((decL (b::(t++x))).1:Int)=true:=by
   rw[zZ hlt]
   rcases hb with rfl | rfl | rfl<;>decide
  rw[List.cons_append,zcG (by simp) hk,zZ hlt]
  show 1+runL isB (t++x)=_
  rw[ih (fun c hc=>hg c (List.mem_cons_of_mem _ hc)),List.length_cons];omega
theorem wordsL_blank {g:List UInt8} (hg:∀ b∈g,b=32∨b=9∨b=10) (x:List UInt8) (a:Nat):zV (g++x) a=zV x (a+g.length):=by
 rw[zcw (n:=g.length+x.length) (by simp),zcw (n:=g.length+x.length) (by simp),run_blank_all hg]
 rw[←List.drop_drop,List.drop_left]
 congr 1;omega
def TokD.by (x:TokD) (c:Nat):TokD:=⟨x.k,x.a+(c:Int),x.t⟩
theorem wordsL_by (c:Nat):∀ (n:Nat) (l:List UInt8) (a:Nat),l.length=n→zV l (a+c)=(zV l a).map (·.map (·.by c)):=by
 intro n
 induction n using Nat.strongRecOn with
 | _ n ih=>
  intro l a hn
  have hrl:=zbx isB l
  generalize hm:l.drop (runL isB l)=m
  have hml:m.length=l.length-runL isB l:=by rw[←hm,List.length_drop]
  unfold zV
  rw[hm]
  by_cases hne:m=[]
  · subst hne;rw[zax,zax];rfl
  · by_cases h0:(zt m).2=0
    · rw[zbu hne h0,zbu hne h0];rfl
    · have hpos:=List.length_pos_iff.2 hne
      rw[zaX hne h0 (by omega),zaX hne h0 (by omega)]
      have e:a+c+runL isB l+(zt m).2=a+runL isB l+(zt m).2+c:=by omega
      rw[e,ih (m.drop (zt m).2).length (by rw[List.length_drop];omega) _ _ rfl]
      have e2:(zt m).1.put (a+c+runL isB l)=((zt m).1.put (a+runL isB l)).by c:=by
       unfold TokD.put TokD.by;congr 1
       show ((a+c+runL isB l:Nat):Int)=((a+runL isB l:Nat):Int)+(c:Int)
       omega
      rw[e2]
      cases zV (m.drop (zt m).2) (a+runL isB l+(zt m).2)<;>simp
end Lp
set_option linter.unusedVariables false
namespace Lp
open Go
variable {s:ByteArray} {p:Nat} {f:Int→Bool}
theorem run_start:runL f (bl8 s)=0+runL f (bts s 0):=by rw[Nat.zero_add];rfl
theorem run_next (hf:runL f (bl8 s)=p+runL f (bts s p)) (h:p<s.size) (ht:f ((decR s p:Nat):Int)=true):runL f (bl8 s)=(p+decW s p)+runL f (bts s (p+decW s p)):=by
 rw[zbW] at ht
 rw[hf,zcG (zdw h) ht,zcn,←zbV,Nat.add_assoc]
theorem run_stop (hf:runL f (bl8 s)=p+runL f (bts s p)) (ht:f ((decR s p:Nat):Int)=false):p=runL f (bl8 s):=by
 rw[zbW] at ht
 rw[hf,zco ht];rfl
theorem run_end (hf:runL f (bl8 s)=p+runL f (bts s p)) (h:s.size≤p) (hp:p≤s.size):s.size=runL f (bl8 s):=by
 rw[hf,zdV h,zbR];omega
theorem zbQ (f:Int→Bool) (s:ByteArray):runL f (bl8 s)≤s.size:=by rw[←zai];exact zbx f _
theorem hasI_inK (ks:List Int) (r:Int):hasI ks (zG r)=inK ks r:=rfl
theorem zcO {n:Nat} (h:n≤s.size):s.extract 0 n=mkB ((bl8 s).take n):=by rw[zb8 h,List.drop_zero]
theorem ext_drop:s.extract p s.size=mkB ((bl8 s).drop p):=by
 rw[zb8 (Nat.le_refl _),List.take_of_length_le (by rw[zai];omega)]
theorem run_mono {f g:Int→Bool} (h:∀ r,f r=true→g r=true):∀ (n:Nat) (l:List UInt8),l.length=n→runL f l≤runL g l:=by
 intro n
 induction n using Nat.strongRecOn with
 | _ n ih=>
  intro l hl
  by_cases hf:l≠[]∧f ((decL l).1:Int)=true
  · have h1:=zcP l
    have h2:=List.length_pos_iff.2 hf.1
    rw[zcG hf.1 hf.2,zcG hf.1 (h _ hf.2)]
    have:=ih (l.length-(decL l).2) (by omega) _ List.length_drop
    omega
  · have:runL f l=0:=by unfold runL;rw[dif_neg hf]
    omega
theorem nD_le (s:ByteArray):runL (inK [2]) (bl8 s)≤runL (inK [1,2]) (bl8 s):=run_mono (fun r hr=>by
 unfold inK at*
 simp only[List.any_cons,List.any_nil,Bool.or_false,decide_eq_true_eq,Bool.or_eq_true] at*
 exact .inr hr) _ _ rfl
theorem wordT_t (h:zb0 (s.extract 0 (runL isLD (bl8 s)))=true):zbH (bl8 s)=(⟨1,0,s.extract 0 (runL isLD (bl8 s))⟩,runL isLD (bl8 s)):=by
 unfold zbH;rw[←zcO (zbQ _ s),if_pos h]
theorem wordT_f (h:zb0 (s.extract 0 (runL isLD (bl8 s)))=false):zbH (bl8 s)=(zbk,0):=by
 unfold zbH;rw[←zcO (zbQ _ s),if_neg (by rw[h];simp)]
abbrev nD (s:ByteArray):Nat:=runL isD (bl8 s)
abbrev nA (s:ByteArray):Nat:=runL isLD (bl8 s)
abbrev vD (s:ByteArray):Nat:=digV ((bl8 s).take (nD s))
theorem numT_1 (h:13<nD s∨1000000000000<vD s):numT (bl8 s)=(zbk,0):=by unfold numT;rw[if_pos h]
theorem numT_2 (h:¬(13<nD s∨1000000000000<vD s)) (h2:nA s=nD s):numT (bl8 s)=(⟨2,0,digB (vD s)⟩,nD s):=by unfold numT;rw[if_neg h,if_pos h2]
theorem cut_mid (h:nA s≤s.size):mkB (((bl8 s).take (nA s)).drop (nD s))=s.extract (nD s) (nA s):=(zb8 h).symm
theorem numT_3 (h:¬(13<nD s∨1000000000000<vD s)) (h2:¬nA s=nD s) (h3:secB (s.extract (nD s) (nA s))=0∨1000000000 / secB (s.extract (nD s) (nA s))<vD s):numT (bl8 s)=(zbk,0):=by
 unfold numT;rw[if_neg h,if_neg h2,cut_mid (zbQ _ s),if_pos h3]
theorem numT_4 (h:¬(13<nD s∨1000000000000<vD s)) (h2:¬nA s=nD s) (h3:¬(secB (s.extract (nD s) (nA s))=0∨1000000000 / secB (s.extract (nD s) (nA s))<vD s)):numT (bl8 s)=(⟨4,0,digB (vD s*secB (s.extract (nD s) (nA s)))⟩,nA s):=by
 unfold numT;rw[if_neg h,if_neg h2,cut_mid (zbQ _ s),if_neg h3]
theorem run_digits:∀ (n:Nat) (l:List UInt8),l.length=n→∀ b∈l.take (runL isD l),48≤b.toNat∧b.toNat≤57:=by
 intro n
 induction n using Nat.strongRecOn with
 | _ n ih=>
  intro l hl b hb
  by_cases h:l≠[]∧isD ((decL l).1:Int)=true
  · have h2:zG ((decL l).1:Int)=2:=by
     have h':inK [2] ((decL l).1:Int)=true:=h.2
     unfold inK at h'
     simp only[List.any_cons,List.any_nil,Bool.or_false,decide_eq_true_eq] at h'
     exact h'.symm
    have hr:48≤(decL l).1∧(decL l).1≤57:=by unfold zG at h2;(repeat (split at h2))<;>omega
    cases l with
    | nil=>exact absurd rfl h.1
    | cons c r=>
     have hc:c.toNat=(decL (c::r)).1∧(decL (c::r)).2=1:=by
      have hg:gb (c::r) 0=c.toNat:=rfl
      by_cases h1:c.toNat<128
      · unfold decL;rw[hg,if_pos h1];exact⟨rfl,rfl⟩
      · exfalso
        revert hr
        unfold decL
        rw[hg,if_neg h1]
        have l0:c.toNat<256:=UInt8.toNat_lt _
        (repeat (any_goals split))<;>simp_all<;>omega
     rw[zcG h.1 h.2,hc.2,Nat.add_comm,List.take_succ_cons,List.drop_one,List.tail_cons] at hb
     rcases List.mem_cons.1 hb with e | e
     · rw[e];omega
     · exact ih r.length (by simp only[List.length_cons] at hl;omega) r rfl b e
  · unfold runL at hb;rw[dif_neg h] at hb;cases hb
theorem vD_le {l:List UInt8} (h:∀ b∈l,48≤b.toNat∧b.toNat≤57) (hl:l.length≤13):digV l<10000000000000:=by
 have key:∀ (l:List UInt8) (acc k:Nat),(∀ b∈l,48≤b.toNat∧b.toNat≤57)→acc<10 ^ k→l.length+k≤13→l.foldl (fun n b=>10*n+(b.toNat-48)) acc<10 ^ 13:=by
  intro l
  induction l with
  | nil=>intro acc k _ ha hl;exact Nat.lt_of_lt_of_le ha (Nat.pow_le_pow_right (by omega) (by simpa using hl))
  | cons c r ih=>
   intro acc k h ha hl
   have hc:=h c List.mem_cons_self
   exact ih _ (k+1) (fun b hb=>h b (List.mem_cons_of_mem _ hb)) (by show 10*acc+(c.toNat-48)<10 ^ (k+1);rw[Nat.pow_succ];omega) (by simp only[List.length_cons] at hl;omega)
 have:=key l 0 0 h (by decide) (by omega)
 have h13:(10:Nat) ^ 13=10000000000000:=by decide
 unfold digV;omega
theorem secB_cases (s:ByteArray):secB s=0∨secB s=1∨secB s=60∨secB s=3600:=by unfold secB;(repeat (any_goals split))<;>simp
def qInv (s:ByteArray) (p:Nat) (b:Bool):Prop:=zaf true (bl8 s)=(zaf b (bts s p)).map (· +p)
theorem qInv_zero:qInv s 0 true:=by
 unfold qInv
 show _=(zaf true (bts s 0)).map (· +0)
 rw[show bts s 0=bl8 s from rfl]
 cases zaf true (bl8 s)<;>rfl
theorem map_add (o:Option Nat) (a b:Nat):(o.map (· +a)).map (· +b)=o.map (· +(b+a)):=by
 cases o with
 | none=>rfl
 | some x=>show some (x+a+b)=some (x+(b+a));congr 1;omega
theorem zdo {b:Bool} {l:List UInt8} (h:l≠[]):zaf b l=if b=true then(zaf false (l.drop (decL l).2)).map (· +(decL l).2)
 else if (decL l).1=92 then(zaf true (l.drop (decL l).2)).map (· +(decL l).2)
 else if (decL l).1=34 then some 0
 else(zaf false (l.drop (decL l).2)).map (· +(decL l).2):=by
 conv=>lhs;unfold zaf
 rw[dif_neg h]
theorem qInv_skip (hq:qInv s p true) (h:p<s.size):qInv s (p+decW s p) false:=by
 unfold qInv at*
 rw[hq,zdo (zdw h),if_pos rfl,zcn,←zbV,map_add]
theorem qInv_esc (hq:qInv s p false) (h:p<s.size) (hr:decR s p=92):qInv s (p+decW s p) true:=by
 unfold qInv at*
 rw[zbW] at hr
 rw[hq,zdo (zdw h),if_neg (by simp),if_pos hr,zcn,←zbV,map_add]
theorem qInv_next (hq:qInv s p false) (h:p<s.size) (hr:¬decR s p=92) (hr2:¬decR s p=34):qInv s (p+decW s p) false:=by
 unfold qInv at*
 rw[zbW] at hr hr2
 rw[hq,zdo (zdw h),if_neg (by simp),if_neg hr,if_neg hr2,zcn,←zbV,map_add]
theorem qInv_found (hq:qInv s p false) (h:p<s.size) (hr:decR s p=34):zaf true (bl8 s)=some p:=by
 unfold qInv at*
 rw[zbW] at hr
 rw[hq,zdo (zdw h),if_neg (by simp),if_neg (by omega),if_pos hr]
 show some (0+p)=_;rw[Nat.zero_add]
theorem qInv_none {b:Bool} (hq:qInv s p b) (h:s.size≤p):strT (bl8 s)=(zbk,0):=by
 unfold qInv at hq
 have e:zaf b []=none:=by unfold zaf;rw[dif_pos rfl]
 rw[zdV h,e] at hq
 unfold strT;rw[hq];rfl
theorem strT_f (hq:zaf true (bl8 s)=some p) (h:p<s.size) (hu:zdm (s.extract 0 (p+1))=false):strT (bl8 s)=(zbk,0):=by
 unfold strT;rw[hq]
 simp only[←zcO (show p+1≤s.size by omega)]
 unfold zdm at hu
 cases e:unqB (s.extract 0 (p+1)) with
 | none=>rfl
 | some t=>rw[e] at hu;cases hu
theorem strT_t (hq:zaf true (bl8 s)=some p) (h:p<s.size) (hu:zdm (s.extract 0 (p+1))=true):strT (bl8 s)=(⟨3,0,unqT (s.extract 0 (p+1))⟩,p+1):=by
 unfold strT;rw[hq]
 simp only[←zcO (show p+1≤s.size by omega)]
 unfold zdm at hu;unfold unqT
 cases e:unqB (s.extract 0 (p+1)) with
 | none=>rw[e] at hu;cases hu
 | some t=>rfl
theorem hasP_pre (a b:ByteArray):hasP a b=(bl8 b).isPrefixOf (bl8 a):=by
 rw[Bool.eq_iff_iff,List.isPrefixOf_iff_prefix]
 unfold hasP
 rw[Bool.and_eq_true,decide_eq_true_eq,decide_eq_true_eq]
 constructor
 · rintro ⟨h1,h2⟩
   rw[zcO h1] at h2
   have:=congrArg bl8 h2
   rw[zbL] at this
   exact⟨(bl8 a).drop b.size,by rw[←this,List.take_append_drop]⟩
 · rintro ⟨t,ht⟩
   have hl:=congrArg List.length ht
   rw[List.length_append,zai,zai] at hl
   have h1:b.size≤a.size:=by omega
   refine⟨h1,?_⟩
   rw[zcO h1,←ht,List.take_left' (zai b),zd4]
theorem signIn_at {xs:List ByteArray} {k:Nat} {x:ByteArray} (hx:xs[k]?=some x) (h:zaL xs (bl8 s)=zaL (xs.drop k) (bl8 s)) (hp:hasP s x=true):zaL xs (bl8 s)=(⟨5,0,x⟩,x.size):=by
 rw[hasP_pre] at hp
 rw[h,zdg hx];unfold zaL;rw[if_pos hp]
theorem signIn_next {xs:List ByteArray} {k:Nat} {x:ByteArray} (hx:xs[k]?=some x) (h:zaL xs (bl8 s)=zaL (xs.drop k) (bl8 s)) (hp:hasP s x=false):zaL xs (bl8 s)=zaL (xs.drop (k+1)) (bl8 s):=by
 rw[hasP_pre] at hp
 rw[h,zdg hx];conv=>lhs;unfold zaL
 rw[if_neg (by rw[hp];simp)]
theorem signIn_end {xs:List ByteArray} {k:Nat} (h:zaL xs (bl8 s)=zaL (xs.drop k) (bl8 s)) (hk:xs.length≤k):zaL xs (bl8 s)=(zbk,0):=by
 rw[h,List.drop_eq_nil_iff.2 hk];rfl
theorem dec0:(decL (bl8 s)).1=decR s 0:=by rw[zbW];rfl
theorem firstT_1 (h:zG ((decR s 0:Nat):Int)=1):zt (bl8 s)=zbH (bl8 s):=by unfold zt;rw[dec0,if_pos h]
theorem firstT_2 (h:¬zG ((decR s 0:Nat):Int)=1) (h2:zG ((decR s 0:Nat):Int)=2):zt (bl8 s)=numT (bl8 s):=by unfold zt;rw[dec0,if_neg h,if_pos h2]
theorem firstT_3 (h:¬zG ((decR s 0:Nat):Int)=1) (h2:¬zG ((decR s 0:Nat):Int)=2) (h3:decR s 0=34):zt (bl8 s)=strT (bl8 s):=by unfold zt;rw[dec0,if_neg h,if_neg h2,if_pos h3]
theorem firstT_4 (h:¬zG ((decR s 0:Nat):Int)=1) (h2:¬zG ((decR s 0:Nat):Int)=2) (h3:¬decR s 0=34):zt (bl8 s)=zbD (bl8 s):=by unfold zt;rw[dec0,if_neg h,if_neg h2,if_neg h3]
theorem bl8_ne (h:0<s.size):bl8 s≠[]:=fun e=>by
 have:=congrArg List.length e
 rw[zai] at this
 simp only[List.length_nil] at this;omega
theorem run_digit_pos (h:0<s.size) (h2:zG ((decR s 0:Nat):Int)=2):1≤nD s:=by
 have hk:isD ((decL (bl8 s)).1:Int)=true:=by
  rw[dec0];show inK [2] _=true;unfold inK;simp[h2]
 unfold nD
 rw[zcG (bl8_ne h) hk]
 have:=zcP (bl8 s);omega
theorem signIn_le:∀ (xs:List ByteArray) (l:List UInt8),(zaL xs l).2≤l.length
 | [],l=>Nat.zero_le _
 | x::xs,l=>by
  unfold zaL;split
  · rename_i h
    rw[List.isPrefixOf_iff_prefix] at h
    have:=h.length_le
    rw[zai] at this;exact this
  · exact signIn_le xs l
theorem strT_le {l:List UInt8}:(strT l).2≤l.length:=by
 have key:∀ (n:Nat) (l:List UInt8) (b:Bool) (i:Nat),l.length=n→zaf b l=some i→i<l.length:=by
  intro n
  induction n using Nat.strongRecOn with
  | _ n ih=>
   intro l b i hl h
   by_cases hn:l=[]
   · subst hn;unfold zaf at h;rw[dif_pos rfl] at h;cases h
   · have h1:=zcP l
     have h2:=decL_le hn
     have k2:∀ (b':Bool),(zaf b' (l.drop (decL l).2)).map (· +(decL l).2)=some i→i<l.length:=by
      intro b' h
      cases e:zaf b' (l.drop (decL l).2) with
      | none=>rw[e] at h;cases h
      | some j=>
       rw[e] at h;injection h with h
       have:=ih (l.length-(decL l).2) (by omega) _ b' j List.length_drop e
       rw[List.length_drop] at this
       have h:j+(decL l).2=i:=h
       omega
     rw[zdo hn] at h
     split at h
     · exact k2 _ h
     · split at h
       · exact k2 _ h
       · split at h
         · injection h with h;omega
         · exact k2 _ h
 cases e:zaf true l with
 | none=>unfold strT;rw[e];exact Nat.zero_le _
 | some i=>
  have h2:=key _ l true i rfl e
  unfold strT;rw[e]
  show (match unqB (mkB (l.take (i+1))) with | none=>(zbk,0) | some t=>((⟨3,0,t⟩:TokD),i+1)).2≤_
  split
  · exact Nat.zero_le _
  · exact h2
theorem firstT_le' {l:List UInt8}:(zt l).2≤l.length:=by
 unfold zt
 split
 · unfold zbH;split
   · exact zbx _ _
   · exact Nat.zero_le _
 · split
   · unfold numT;split
     · exact Nat.zero_le _
     · split
       · exact zbx _ _
       · split
         · exact Nat.zero_le _
         · exact zbx _ _
   · split
     · exact strT_le
     · exact signIn_le _ _
def WInv (s:ByteArray) (p:Nat) (o:List TokD):Prop:=zV (bl8 s) 0=(zbp s.size (bts s p) p).map (o++·)
theorem WInv.zero:WInv s (runL isB (bl8 s)) []:=by
 unfold WInv
 rw[zcw (n:=s.size) (by rw[zai];exact Nat.le_refl _),Nat.zero_add]
 show zbp s.size (bts s (runL isB (bl8 s))) _=_
 cases zbp s.size (bts s (runL isB (bl8 s))) (runL isB (bl8 s))<;>rfl
theorem WInv.next {o:List TokD} (h:WInv s p o) (hp:p<s.size) (h0:¬(zt (bl8 (s.extract p s.size))).2=0):
 WInv s (p+(zt (bl8 (s.extract p s.size))).2+runL isB (bl8 (s.extract (p+(zt (bl8 (s.extract p s.size))).2) s.size))) (o++[(zt (bl8 (s.extract p s.size))).1.put p]):=by
 have e1:bl8 (s.extract p s.size)=bts s p:=zbd
 have e2:∀ q,bl8 (s.extract q s.size)=bts s q:=fun q=>zbd
 unfold WInv at*
 simp only[e2]
 rw[e1] at h0
 rw[h,zaX (zdw hp) h0 (by rw[zdW];omega),zcn,zcw (n:=s.size) (by rw[zdW];omega),zcn]
 cases zbp s.size (bts s (p+(zt (bts s p)).2+runL isB (bts s (p+(zt (bts s p)).2)))) (p+(zt (bts s p)).2+runL isB (bts s (p+(zt (bts s p)).2)))<;>simp
theorem WInv.done {o:List TokD} (h:WInv s p o) (hp:s.size≤p):zV (bl8 s) 0=some o:=by
 unfold WInv at h
 rw[h,zdV hp,zax];simp
theorem WInv.bad {o:List TokD} (h:WInv s p o) (hp:p<s.size) (h0:(zt (bl8 (s.extract p s.size))).2=0):zV (bl8 s) 0=none:=by
 unfold WInv at h
 rw[show bl8 (s.extract p s.size)=bts s p from zbd] at h0
 rw[h,zbu (zdw hp) h0];rfl
theorem lex_long (h:600<s.size):[]=lexL s∧1=lexE s:=by unfold lexL lexE;rw[if_pos h,if_pos h];exact⟨rfl,rfl⟩
theorem lex_bad (h:¬600<s.size) (h2:zV (bl8 s) 0=none):[]=lexL s∧2=lexE s:=by unfold lexL lexE;rw[if_neg h,if_neg h,h2];exact⟨rfl,rfl⟩
theorem lex_ok {o:List TokD} (h:¬600<s.size) (h2:zV (bl8 s) 0=some o):o=lexL s∧0=lexE s:=by unfold lexL lexE;rw[if_neg h,if_neg h,h2];exact⟨rfl,rfl⟩
theorem first_run_le (h:p≤s.size):p+(zt (bl8 (s.extract p s.size))).2≤s.size∧(zt (bl8 (s.extract p s.size))).2≤s.size:=by
 have h1:=firstT_le' (l:=bl8 (s.extract p s.size))
 rw[zai,ByteArray.size_extract] at h1
 omega
end Lp
