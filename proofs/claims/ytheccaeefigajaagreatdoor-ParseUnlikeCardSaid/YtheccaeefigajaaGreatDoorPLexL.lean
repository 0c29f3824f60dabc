import Derived.Lib.QuietBelow
import Derived.Lib.SmallJoins
import Derived.Test.YtheccaeefigajaaGreatDoorPLex
set_option linter.unusedVariables false
namespace Lp
open Go Go.RowKit Go.Proofs
theorem cd_ext {P:Program} {f:FuncId} {H:List Hp} {ds:List D} {R:D→List Hp→Prop} (h:∀ w F vs,D.repA w F ds vs→(∀ x∈H,x.ok w F)→Calls P f vs.toArray w (Ret fun res w'=>Ext w w'∧∃ r,R r H∧D.rep w' F r res)):CD P f H ds R:=
 ⟨fun w F vs hvs hF hH=>(h w F vs hvs hH.ok).mono fun e w' he=>by
  obtain ⟨v,rfl,E,r,hR,hr⟩:=he
  have k:Keep w F w' F:=⟨fun _ h=>h,fun b hb hlt=>E.block b hlt (.inr (Nat.zero_le _))⟩
  refine⟨v,rfl,F,r,H,hR,hr,⟨E.size,E.os,E.tape,E.output,E.drawn,fun b hb _=>E.block b hb (.inr (Nat.zero_le _)),fun _ h=>h,fun _ h=>.inl h,fun b hb=>Nat.lt_of_lt_of_le (hF b hb) E.size,⟨hH.apart,fun x hx=>?_,fun g hg=>⟨.inr hg,(hH.mine g hg).2⟩⟩⟩⟩
  have ok:=hH.ok x hx
  exact Hp.keep ok k (fun g hg=>E.block g (Hp.lt ok hg) (.inr (Nat.zero_le _)))⟩
theorem tab_of {P:Program} {w:World} {name:String} {g:Nat} {k:IntKind} {zs:List Int} {T:TypeId} {fr:Nat×Nat} (hg:P.globalNamed name=some g) (h:w.heap[g]?=some (.cells (zs.map fun z=>Value.int k z).toArray T fr)):Lib.TabIs P w name k zs:=by
 unfold Lib.TabIs World.var?
 rw[hg]
 show (match w.heap[g]? with | some (.cells cs _ _)=>some cs | _=>none)=_
 rw[h]
theorem zdW {w w':World} (h:Below w.heap.size w w'):Ext w w':=⟨h.os,h.tape,h.output,h.size,fun k hk _=>h.block k hk,by unfold Dr;trivial⟩
def zee:Array Value:=(Lib.pow10Tab.map fun z=>Value.int .u64 z).toArray
abbrev HPow:Hp:=.tab 0 zee
abbrev HErr (ev:Value):Hp:=.tab 2 #[ev]
def EvOk (ev:Value):Prop:=ev=.nilIface∨∃ te pe,ev=.iface te pe
theorem digL_dec:∀ n:Nat,digL n=Lib.decDigits n:=by
 intro n
 induction n using Nat.strongRecOn with
 | _ n ih=>
  unfold digL Lib.decDigits
  split
  · rfl
  · rw[ih (n / 10) (by omega)]
theorem digL_len:∀ n:Nat,(digL n).length≤n+1:=by
 intro n
 induction n using Nat.strongRecOn with
 | _ n ih=>
  unfold digL
  split
  · simp
  · rw[List.length_append];have:=ih (n / 10) (by omega);simp only[List.length_cons,List.length_nil];omega
theorem digB_size (n:Nat):(digB n).size≤n+1:=by unfold digB;rw[zax];exact digL_len n
theorem zej (n:Nat) (hn:n≤1000000000000):CD Tryz.prog 97 [HPow] [dN n] (fun r H'=>r=.s (digB n)∧H'=[HPow]):=
 cd_ext fun w F vs hvs hok=>by
  obtain ⟨u,us,rfl,hu,hus⟩:=hvs
  have hu:u=_:=hu
  have hus:us=[]:=hus
  subst hu;subst hus
  obtain ⟨hF,T,fr,hh⟩:=hok _ List.mem_cons_self
  refine(Any.strconv_Itoa Tryz.laysM171 (n:Int) (by omega) (by omega) w (tab_of (by kernel_rfl) hh)).mono fun e w' he=>?_
  obtain ⟨rfl,k,os,rfl⟩:=he
  refine⟨_,rfl,zdW (below_regrown w (w.drawn+k) os),.s (digB n),⟨rfl,rfl⟩,?_,?_⟩
  · show Value.string _=Value.string _
    congr 1
    show _=mkB (digL n)
    unfold mkB Lib.itoa
    rw[if_neg (by omega),digL_dec];rfl
  · have:=digB_size n;unfold maxLen;omega
def Digs (l:List UInt8):Prop:=∀ b∈l,48≤b.toNat∧b.toNat≤57
theorem parse_no:∀ (l:List UInt8) (acc:Nat),Digs l→(∃ u,Lib.parseUint10 acc l=.ok u)∨Lib.parseUint10 acc l=.range
 | [],acc,_=>.inl ⟨_,rfl⟩
 | c::r,acc,h=>by
  have hc:=h c List.mem_cons_self
  unfold Lib.parseUint10
  rw[if_pos hc]
  split
  · exact .inr rfl
  · split
    · exact .inr rfl
    · exact parse_no r _ (fun b hb=>h b (List.mem_cons_of_mem _ hb))
theorem parse_ok:∀ (l:List UInt8) (acc k:Nat),Digs l→acc<10 ^ k→l.length+k≤13→Lib.parseUint10 acc l=.ok (l.foldl (fun n b=>10*n+(b.toNat-48)) acc)∧l.foldl (fun n b=>10*n+(b.toNat-48)) acc<10 ^ 13
 | [],acc,k,_,ha,hl=>⟨rfl,Nat.lt_of_lt_of_le ha (Nat.pow_le_pow_right (by omega) (by simpa using hl))⟩
 | c::r,acc,k,h,ha,hl=>by
  have hc:=h c List.mem_cons_self
  have hk:10 ^ k≤10 ^ 13:=Nat.pow_le_pow_right (by omega) (by omega)
  have h13:(10:Nat) ^ 13=10000000000000:=by decide
  have ih:=parse_ok r (10*acc+(c.toNat-48)) (k+1) (fun b hb=>h b (List.mem_cons_of_mem _ hb)) (by rw[Nat.pow_succ];omega) (by simp only[List.length_cons] at hl;omega)
  unfold Lib.parseUint10
  rw[if_pos hc,if_neg (by omega),if_neg (by omega),Nat.mul_comm acc 10]
  exact ih
theorem atoi_ok {l:List UInt8} (h:Digs l) (hne:l≠[]) (hl:l.length≤13):Lib.atoiAll l=.ok (digV l:Int):=by
 cases l with
 | nil=>exact absurd rfl hne
 | cons c r=>
  have hc:=h c List.mem_cons_self
  obtain ⟨h1,h2⟩:=parse_ok (c::r) 0 0 h (by decide) (by omega)
  have h13:(10:Nat) ^ 13=10000000000000:=by decide
  rw[Lib.atoiAll_plain c r (by omega) (by omega)]
  unfold Lib.parseMag
  rw[if_neg (by simp),h1]
  unfold Lib.signless
  simp only[]
  rw[if_neg (by omega)];rfl
theorem atoi_no {l:List UInt8} (h:Digs l) (hne:l≠[]):(∃ v,Lib.atoiAll l=.ok v)∨Lib.atoiAll l=.range:=by
 cases l with
 | nil=>exact absurd rfl hne
 | cons c r=>
  have hc:=h c List.mem_cons_self
  have hp:=parse_no (c::r) 0 h
  rw[Lib.atoiAll_plain c r (by omega) (by omega)]
  unfold Lib.parseMag
  rw[if_neg (by simp)]
  unfold Lib.signless
  rcases hp with ⟨u,e⟩ | e
  · rw[e]
    simp only[]
    split
    · first | exact .inr rfl | exact .inl ⟨_,rfl⟩
    · first | exact .inl ⟨_,rfl⟩ | exact .inr rfl
  · rw[e];exact .inr rfl
theorem atoi_c (s:ByteArray) (ev:Value) (hev:EvOk ev) (hd:Digs (bl8 s)) (hne:bl8 s≠[]) (hs:s.size≤1000000):CD Tryz.prog 160 [HErr ev] [.s s] (fun r H'=>∃ v x,r=.tup [dI v,x]∧H'=[HErr ev]∧(s.size≤13→v=(digV (bl8 s):Int)∧x=.v .nilIface)∧ -9223372036854775808≤v∧v≤9223372036854775807):=
 cd_ext fun w F vs hvs hok=>by
  obtain ⟨u,us,rfl,hu,hus⟩:=hvs
  obtain ⟨hu,hm⟩:=hu
  have hus:us=[]:=hus
  subst hu;subst hus
  rcases atoi_no hd hne with ⟨v,ha⟩ | ha
  · skip
    have hb:=Lib.atoiAll_bounds ha
    refine(Any.strconv_Atoi_ok Tryz.laysC172 s (by omega) v ha w).mono fun e w' he=>?_
    obtain ⟨rfl,hw⟩:=he
    refine⟨_,rfl,?_,.tup [dI v,.v .nilIface],⟨v,_,rfl,rfl,fun h13=>⟨?_,rfl⟩,hb.1,hb.2⟩,⟨_,rfl,_,_,rfl,rfl,_,_,rfl,rfl,rfl⟩⟩
    · rcases hw with rfl | ⟨t,rfl⟩
      · exact Ext.rfl'
      · exact zdW (Joins.below_bytesWorld _ w _ t (Nat.le_refl _))
    · have:=atoi_ok hd hne (by rw[zav];exact h13)
      rw[this] at ha;injection ha with ha;exact ha.symm
  · skip
    have hb:=Lib.atoiSat_bounds (bl8 s)
    obtain ⟨hF,T,fr,hh⟩:=hok _ List.mem_cons_self
    have hcell:w.cell? ⟨2,0,none⟩=some ev:=by
     unfold World.cell?
     rw[hh];rfl
    refine(Any.strconv_Atoi_range Tryz.laysC172 s (by omega) ha ev w hcell hev).mono fun e w' he=>?_
    obtain ⟨N,rfl,_,_,hbel⟩:=he
    refine⟨_,rfl,zdW hbel,.tup [dI (Lib.atoiSat (bl8 s)),.any],⟨_,_,rfl,rfl,fun h13=>?_,hb.1,hb.2⟩,⟨_,rfl,_,_,rfl,rfl,_,_,rfl,rfl,rfl⟩⟩
    have:=atoi_ok hd hne (by rw[zav];exact h13)
    rw[this] at ha;cases ha
end Lp
set_option linter.unusedVariables false
namespace Lp
open Go
def rightV (v:Int):Bool:=decide (-1000000000000≤v)&&decide (v≤1000000000000)
end Lp
set_option linter.unusedVariables false
namespace Lp
open Go
section
variable {l:List RowD} {k:Nat} {x:RowD}
end
section
variable {l:List RowD} {i:Nat} {x y:RowD}
end
def metB:ByteArray:=⟨#[109,101,116,114,105,99]⟩
def keyL (mode:Int) (ns:List ByteArray) (l:List Lbl):List Lbl:=
 if mode=1 then pickL l ns true else if mode=2 then pickL (pickL l ns false) [metB] false else pickL l [metB] false
section
variable {f:RowD→Int×Int} {l:List RowD} {k:Nat} {x:RowD}
end
section
variable {op:ByteArray} {v:Int} {left:Bool} {l:List RowD} {k:Nat} {x:RowD}
end
def keyT (mode:Int) (ns:List ByteArray) (r:RowD):ByteArray:=textB (keyL mode ns r.ls)
def keyTs (mode:Int) (ns:List ByteArray) (l:List RowD):List ByteArray:=l.map (keyT mode ns)
def ndT (mode:Int) (ns:List ByteArray) (l:List RowD):Prop:=(keyTs mode ns l).Nodup
instance (mode:Int) (ns:List ByteArray) (l:List RowD):Decidable (ndT mode ns l):=inferInstanceAs (Decidable (List.Nodup _))
section
variable {op:ByteArray} {mode:Int} {ns:List ByteArray} {a b:List RowD} {k:Nat} {x:RowD}
end
end Lp
set_option linter.unusedVariables false
namespace Lp
open Go
structure MatD where
 n:ByteArray
 op:Int
 v:ByteArray
def MatD.d (m:MatD):D:=.agg [.s m.n,.v (.int .i64 m.op),.s m.v]
inductive Nd where
 | mk (op text:ByteArray) (n mode:Int) (names:List ByteArray) (ms:List MatD) (kids:List Nd)
mutual
def Nd.d:Nd→D
 | .mk op text n mode names ms kids=>.agg [.s op,.s text,.v (.int .i64 n),.v (.int .i64 mode),.sh 1 (names.map D.s),.sh 3 (ms.map MatD.d),.sh 7 (Nd.ds kids)]
def Nd.ds:List Nd→List D
 | []=>[]
 | x::r=>Nd.d x::Nd.ds r
end
theorem Nd.ds_eq:∀ l:List Nd,Nd.ds l=l.map Nd.d
 | []=>rfl
 | x::r=>congrArg (Nd.d x::·) (Nd.ds_eq r)
theorem Nd.d_mk (op text:ByteArray) (n mode:Int) (names:List ByteArray) (ms:List MatD) (kids:List Nd):
 Nd.d (.mk op text n mode names ms kids)=.agg [.s op,.s text,.v (.int .i64 n),.v (.int .i64 mode),.sh 1 (names.map D.s),.sh 3 (ms.map MatD.d),.sh 7 (kids.map Nd.d)]:=by
 rw[←Nd.ds_eq];rfl
abbrev nSel:ByteArray:=⟨#[115,101,108]⟩
end Lp
set_option linter.unusedVariables false
namespace Lp
open Go
inductive Way where
 | sums (mean:Bool)
 | least
 | most
 | many
 | rank (p:Int)
 | top (n:Int)
def aggN:List ByteArray:=[⟨#[115,117,109]⟩,⟨#[109,105,110]⟩,⟨#[109,97,120]⟩,⟨#[99,111,117,110,116]⟩,⟨#[97,118,103]⟩,⟨#[116,111,112,107]⟩,⟨#[113,117,97,110,116,105,108,101]⟩]
abbrev nTop:ByteArray:=⟨#[116,111,112,107]⟩
abbrev nQ:ByteArray:=⟨#[113,117,97,110,116,105,108,101]⟩
section
variable {f:List RowD→Int×Int} {gs:List (List RowD)} {k:Nat} {x:List RowD}
end
section
variable {mode:Int} {names:List ByteArray} {l:List RowD} {w:Way}
end
end Lp
set_option linter.unusedVariables false
namespace Lp
open Go
structure Rd where
 l:List TokD
 n:Int
 b:Bool
def Rd.pk (s:Rd):TokD:=s.l.headD zbO
def Rd.is (s:Rd) (k:Int) (ts:List ByteArray):Bool:=decide (s.pk.k=k)&&hasN ts s.pk.t
def Rd.take (s:Rd) (k:Int) (ts:List ByteArray):ByteArray×Bool×Rd:=if s.b=true∨s.is k ts=false then(ByteArray.empty,false,s) else(s.pk.t,true,⟨s.l.tail,s.n,s.b⟩)
def Rd.must (s:Rd) (t:ByteArray):Rd:=⟨(s.take 5 [t]).2.2.l,(s.take 5 [t]).2.2.n,(s.take 5 [t]).2.2.b||!(s.take 5 [t]).2.1⟩
def Rd.any (s:Rd) (k:Int):ByteArray×Rd:=if s.b=true∨s.pk.k≠k then(ByteArray.empty,⟨s.l,s.n,true⟩) else(s.pk.t,⟨s.l.tail,s.n,s.b⟩)
def numV (t:ByteArray):Int:=(digV (bl8 t):Int)
def Rd.number (s:Rd) (k:Int):Int×Rd:=(numV (s.any k).1,(s.any k).2)
def Rd.node (s:Rd):Rd:=⟨s.l,s.n+1,s.b||decide (200<s.n+1)⟩
abbrev zC:ByteArray:=⟨#[40]⟩
abbrev zS:ByteArray:=⟨#[41]⟩
abbrev zU:ByteArray:=⟨#[44]⟩
abbrev zQ:ByteArray:=⟨#[123]⟩
abbrev zP:ByteArray:=⟨#[125]⟩
abbrev tSq:ByteArray:=⟨#[91]⟩
abbrev tSqE:ByteArray:=⟨#[93]⟩
abbrev zfd:ByteArray:=⟨#[43]⟩
abbrev zaz:ByteArray:=⟨#[45]⟩
abbrev zdD:ByteArray:=⟨#[42]⟩
abbrev tOver:ByteArray:=⟨#[47]⟩
abbrev tMod:ByteArray:=⟨#[37]⟩
abbrev tEqq:ByteArray:=⟨#[61,61]⟩
abbrev tNe:ByteArray:=⟨#[33,61]⟩
abbrev tLt:ByteArray:=⟨#[60]⟩
abbrev tLe:ByteArray:=⟨#[60,61]⟩
abbrev tGt:ByteArray:=⟨#[62]⟩
abbrev tGe:ByteArray:=⟨#[62,61]⟩
abbrev tEq:ByteArray:=⟨#[61]⟩
abbrev zai:ByteArray:=⟨#[61,126]⟩
abbrev zJ:ByteArray:=⟨#[33,126]⟩
abbrev tOn:ByteArray:=⟨#[111,110]⟩
abbrev zM:ByteArray:=⟨#[105,103,110,111,114,105,110,103]⟩
abbrev tBy:ByteArray:=⟨#[98,121]⟩
abbrev zF:ByteArray:=⟨#[119,105,116,104,111,117,116]⟩
abbrev tBin:ByteArray:=⟨#[98,105,110]⟩
abbrev tNeg:ByteArray:=⟨#[110,101,103]⟩
abbrev tNum:ByteArray:=⟨#[110,117,109]⟩
abbrev tAgg:ByteArray:=⟨#[97,103,103]⟩
abbrev tFn:ByteArray:=⟨#[102,110]⟩
abbrev zbk:ByteArray:=⟨#[111,114,100,101,114]⟩
abbrev tAsc:ByteArray:=⟨#[97,115,99]⟩
abbrev zd2:ByteArray:=⟨#[100,101,115,99]⟩
abbrev za1:ByteArray:=⟨#[108,105,109,105,116]⟩
abbrev zas:ByteArray:=⟨#[111,102,102,115,101,116]⟩
def zaZ:Nat→List ByteArray→Rd→List ByteArray×Rd
 | 0,o,s=>(o,s)
 | f+1,o,s=>
  if s.b=true then(o,s)
  else if ((s.any 1).2.take 5 [zU]).2.1=true then zaZ f (o++[(s.any 1).1]) ((s.any 1).2.take 5 [zU]).2.2
  else(o++[(s.any 1).1],((s.any 1).2.take 5 [zU]).2.2)
def Rd.names (s:Rd):List ByteArray×Rd:=
 if (s.must zC).is 5 [zS]=true then([],(s.must zC).must zS)
 else((zaZ ((s.must zC).l.length+1) [] (s.must zC)).1,(zaZ ((s.must zC).l.length+1) [] (s.must zC)).2.must zS)
def Rd.mode (s:Rd) (a b:ByteArray):Int×List ByteArray×Rd:=
 if (s.take 1 [a,b]).2.1=false then(0,[],(s.take 1 [a,b]).2.2)
 else if (s.take 1 [a,b]).1=a then(1,(s.take 1 [a,b]).2.2.names) else(2,(s.take 1 [a,b]).2.2.names)
def zaP (part:Rd→Nd×Rd) (signs:List ByteArray):Nat→Nd→Rd→Nd×Rd
 | 0,o,s=>(o,s)
 | f+1,o,s=>
  if (s.take 5 signs).2.1=false then(o,(s.take 5 signs).2.2)
  else
   let m:=(s.take 5 signs).2.2.mode tOn zM
   let q:=part m.2.2
   zaP part signs f (.mk tBin (s.take 5 signs).1 0 m.1 m.2.1 [] [o,q.1]) q.2.node
def Rd.level (s:Rd) (part:Rd→Nd×Rd) (signs:List ByteArray):Nd×Rd:=zaP part signs ((part s).2.l.length+1) (part s).1 (part s).2
def noNd:Nd:=.mk ByteArray.empty ByteArray.empty 0 0 [] [] []
def fnN:List ByteArray:=[⟨#[115,117,109,95,111,118,101,114]⟩,⟨#[97,118,103,95,111,118,101,114]⟩,⟨#[109,105,110,95,111,118,101,114]⟩,⟨#[109,97,120,95,111,118,101,114]⟩,⟨#[99,111,117,110,116,95,111,118,101,114]⟩,⟨#[108,97,115,116,95,111,118,101,114]⟩,⟨#[105,110,99,114,101,97,115,101]⟩,⟨#[114,97,116,101]⟩]
def zdt (t:ByteArray):Bool:=hasN aggN t||hasN fnN t||hasN [⟨#[111,114,100,101,114]⟩,⟨#[108,105,109,105,116]⟩,⟨#[111,102,102,115,101,116]⟩,⟨#[97,115,99]⟩,⟨#[100,101,115,99]⟩,⟨#[111,110]⟩,⟨#[105,103,110,111,114,105,110,103]⟩,⟨#[98,121]⟩,⟨#[119,105,116,104,111,117,116]⟩] t
def zaj (t:ByteArray):Bool:=decide (t=nTop)||decide (t=nQ)
def opM (t:ByteArray):Int:=if t=tEq then 1 else if t=tNe then 2 else if t=zai then 3 else if t=zJ then 4 else 0
def zaa:Nat→List MatD→Rd→List MatD×Rd
 | 0,o,s=>(o,s)
 | f+1,o,s=>
  if s.b=true then(o,s)
  else
   let a:=s.any 1
   let c:=a.2.take 5 [tEq,tNe,zai,zJ]
   let v:=Rd.any ⟨c.2.2.l,c.2.2.n,c.2.2.b||!c.2.1⟩ 3
   let d:=v.2.take 5 [zU]
   if d.2.1=true then zaa f (o++[⟨a.1,opM c.1,v.1⟩]) d.2.2 else(o++[⟨a.1,opM c.1,v.1⟩],d.2.2)
section
variable (rm:List MatD→Bool)
def Rd.braces (s:Rd):List MatD×Rd:=
 if (s.must zQ).is 5 [zP]=true then([],(s.must zQ).must zP)
 else
  let r:=zaa ((s.must zQ).l.length+1) [] (s.must zQ)
  (r.1,⟨(r.2.must zP).l,(r.2.must zP).n,(r.2.must zP).b||!rm r.1⟩)
def Rd.selName (s:Rd):ByteArray×Rd:=if s.pk.k=1∧zdt s.pk.t=false then s.any 1 else(ByteArray.empty,s)
def Rd.selMs (s:Rd) (text:ByteArray):List MatD×Rd:=if s.is 5 [zQ]=true then s.braces rm else([],⟨s.l,s.n,s.b||decide (text=ByteArray.empty)⟩)
def Rd.selWin (s:Rd):Int×Rd:=if (s.take 5 [tSq]).2.1=true then((Rd.number (s.take 5 [tSq]).2.2 4).1,(Rd.number (s.take 5 [tSq]).2.2 4).2.must tSqE) else(0,(s.take 5 [tSq]).2.2)
def Rd.selector (s:Rd):Nd×Rd:=
 let a:=s.selName
 let m:=a.2.selMs rm a.1
 let w:=m.2.selWin
 (.mk nSel a.1 w.1 0 [] m.1 [],w.2.node)
def Rd.aggr (s:Rd) (ex:Rd→Nd×Rd):Nd×Rd:=
 let a:=s.any 1
 let m:=a.2.mode tBy zF
 let p:=m.2.2.must zC
 let k:=if zaj a.1=true then(p.number 2) else(0,p)
 let p2:=if zaj a.1=true then k.2.must zU else k.2
 let q:=ex p2
 (.mk tAgg a.1 k.1 m.1 m.2.1 [] [q.1],(q.2.must zS).node)
def Rd.prim (s:Rd) (ex:Rd→Nd×Rd):Nd×Rd:=
 if s.b=true then(noNd,s)
 else if s.pk.k=2 then(.mk tNum ByteArray.empty (s.number 2).1 0 [] [] [],(s.number 2).2.node)
 else if s.is 5 [zC]=true then((ex (s.must zC)).1,(ex (s.must zC)).2.must zS)
 else if s.pk.k=1∧hasN aggN s.pk.t=true then s.aggr ex
 else if s.pk.k=1∧hasN fnN s.pk.t=true then
  let a:=s.any 1
  let q:=ex (a.2.must zC)
  (.mk tFn a.1 0 0 [] [] [q.1],q.2.node.must zS)
 else s.selector rm
def zaf (ex:Rd→Nd×Rd):Nat→Rd→Nd×Rd
 | 0,s=>(noNd,s)
 | f+1,s=>
  if (s.take 5 [zaz]).2.1=true then
   let q:=zaf ex f (s.take 5 [zaz]).2.2
   (.mk tNeg ByteArray.empty 0 0 [] [] [q.1],q.2.node)
  else Rd.prim rm (s.take 5 [zaz]).2.2 ex
def zcH (ex:Rd→Nd×Rd) (s:Rd):Nd×Rd:=s.level (fun s=>zaf rm ex (s.l.length+1) s) [zdD,tOver,tMod]
def sumP (ex:Rd→Nd×Rd) (s:Rd):Nd×Rd:=s.level (zcH rm ex) [zfd,zaz]
def zaJ:Nat→Rd→Nd×Rd
 | 0,s=>(noNd,s)
 | f+1,s=>s.level (sumP rm (zaJ f)) [tEqq,tNe,tLt,tLe,tGt,tGe]
def Rd.bound (s:Rd) (w:ByteArray):Int×Rd:=
 if (s.take 1 [w]).2.1=false then(-1,(s.take 1 [w]).2.2)
 else(((s.take 1 [w]).2.2.number 2).1,⟨((s.take 1 [w]).2.2.number 2).2.l,((s.take 1 [w]).2.2.number 2).2.n,((s.take 1 [w]).2.2.number 2).2.b||decide (2000<((s.take 1 [w]).2.2.number 2).1)⟩)
def Rd.order (s:Rd):Int×Rd:=
 let a:=s.take 1 [zbk]
 if a.2.1=false then(0,a.2.2)
 else
  let d:=a.2.2.take 1 [zd2]
  if d.2.1=true then(2,d.2.2)
  else(1,⟨(d.2.2.any 1).2.l,(d.2.2.any 1).2.n,(d.2.2.any 1).2.b||decide ((d.2.2.any 1).1≠tAsc)⟩)
structure QryD where
 root:Nd
 order:Int
 limit:Int
 offset:Int
def zcf (l:List TokD):Option QryD:=
 let e:=zaJ rm (l.length+1) ⟨l,0,false⟩
 let o:=e.2.order
 let a:=o.2.bound za1
 let b:=a.2.bound zas
 if b.2.b=true∨0<b.2.l.length then none else some ⟨e.1,o.1,a.1,b.1⟩
end
end Lp
set_option linter.unusedVariables false
namespace Lp
open Go
def Rd.w (s:Rd):Int:=s.n+2*(s.l.length:Int)
structure Stp (c:Int) (s t:Rd):Prop where
 l:t.l <:+s.l
 w:t.w≤s.w+c
 n:s.n≤t.n
theorem Stp.rfl' (s:Rd):Stp 0 s s:=⟨List.suffix_refl _,by omega,Int.le_refl _⟩
theorem Stp.len {c:Int} {s t:Rd} (h:Stp c s t):t.l.length≤s.l.length:=h.l.length_le
theorem Stp.trans {c d:Int} {s t u:Rd} (h:Stp c s t) (k:Stp d t u):Stp (c+d) s u:=⟨k.l.trans h.l,by have:=h.w;have:=k.w;omega,Int.le_trans h.n k.n⟩
theorem Stp.le {c d:Int} {s t:Rd} (h:Stp c s t) (hc:c≤d):Stp d s t:=⟨h.l,by have:=h.w;omega,h.n⟩
theorem Stp.bad {c:Int} {s t:Rd} (h:Stp c s t) (b:Bool):Stp c s ⟨t.l,t.n,b⟩:=⟨h.l,h.w,h.n⟩
theorem tail_len {l:List TokD} (h:l≠[]):l.tail.length+1=l.length:=by
 cases l with
 | nil=>exact absurd rfl h
 | cons x l=>rfl
theorem pk_ne {s:Rd} {k:Int} (hk:k≠0) (h:s.pk.k=k):s.l≠[]:=fun e=>by
 unfold Rd.pk at h;rw[e] at h;exact hk h.symm
theorem zG (s:Rd) (k:Int) (ts:List ByteArray):Stp 0 s (s.take k ts).2.2:=by
 unfold Rd.take
 split
 · exact Stp.rfl' s
 · refine⟨List.tail_suffix _,?_,Int.le_refl _⟩
   unfold Rd.w;simp only[List.length_tail];omega
theorem za5 {s:Rd} {k:Int} {ts:List ByteArray} (hk:k≠0) (h:(s.take k ts).2.1=true):(s.take k ts).2.2.l.length+1=s.l.length∧Stp (-2) s (s.take k ts).2.2∧s.b=false∧(s.take k ts).2.2.b=false∧s.is k ts=true:=by
 unfold Rd.take at h ⊢
 split at h
 · cases h
 · rename_i hc
   rw[if_neg hc]
   have hb:s.b=false:=by cases e:s.b with
    | false=>rfl
    | true=>exact absurd (Or.inl e) hc
   have hi:s.is k ts=true:=by cases e:s.is k ts with
    | true=>rfl
    | false=>exact absurd (Or.inr e) hc
   have hne:s.l≠[]:=pk_ne hk (by unfold Rd.is at hi;simp only[Bool.and_eq_true,decide_eq_true_eq] at hi;exact hi.1)
   have hl:=tail_len hne
   refine⟨hl,⟨List.tail_suffix _,?_,Int.le_refl _⟩,hb,hb,hi⟩
   unfold Rd.w;simp only;omega
theorem zB (s:Rd) (t:ByteArray):Stp 0 s (s.must t):=(zG s 5 [t]).bad _
theorem zaK (s:Rd) (k:Int):Stp 0 s (s.any k).2:=by
 unfold Rd.any
 split
 · exact(Stp.rfl' s).bad _
 · refine⟨List.tail_suffix _,?_,Int.le_refl _⟩
   unfold Rd.w;simp only[List.length_tail];omega
theorem any_got {s:Rd} {k:Int} (hk:k≠0) (hb:s.b=false) (h:s.pk.k=k):(s.any k).2.l.length+1=s.l.length∧Stp (-2) s (s.any k).2∧(s.any k).1=s.pk.t∧(s.any k).2.b=false:=by
 unfold Rd.any
 rw[if_neg (by rw[hb,h];simp)]
 have hl:=tail_len (pk_ne hk h)
 refine⟨hl,⟨List.tail_suffix _,?_,Int.le_refl _⟩,rfl,hb⟩
 unfold Rd.w;simp only;omega
theorem zc2 (s:Rd):Stp 1 s s.node:=⟨List.suffix_refl _,by unfold Rd.node Rd.w;simp only;omega,by unfold Rd.node;simp only;omega⟩
theorem namesF_stp:∀ (f:Nat) (o:List ByteArray) (s:Rd),Stp 0 s (zaZ f o s).2
 | 0,o,s=>Stp.rfl' s
 | f+1,o,s=>by
  unfold zaZ
  split
  · exact Stp.rfl' s
  · have h:=(zaK s 1).trans (zG (s.any 1).2 5 [zU])
    split
    · exact(h.trans (namesF_stp f _ _)).le (by omega)
    · exact h.le (by omega)
theorem names_stp (s:Rd):Stp 0 s s.names.2:=by
 unfold Rd.names
 split
 · exact((zB s _).trans (zB _ _)).le (by omega)
 · exact(((zB s _).trans (namesF_stp _ _ _)).trans (zB _ _)).le (by omega)
theorem za3 (s:Rd) (a b:ByteArray):Stp 0 s (s.mode a b).2.2:=by
 unfold Rd.mode
 split
 · exact zG s 1 _
 · split
   · exact((zG s 1 _).trans (names_stp _)).le (by omega)
   · exact((zG s 1 _).trans (names_stp _)).le (by omega)
theorem levelF_stp {part:Rd→Nd×Rd} {signs:List ByteArray} (hp:∀ s,Stp 1 s (part s).2):∀ (f:Nat) (o:Nd) (s:Rd),Stp 0 s (zaP part signs f o s).2
 | 0,o,s=>Stp.rfl' s
 | f+1,o,s=>by
  unfold zaP
  split
  · exact zG s 5 _
  · rename_i h
    have h:(s.take 5 signs).2.1=true:=by simpa using h
    have h1:=(za5 (by decide) h).2.1
    have h2:=h1.trans (za3 (s.take 5 signs).2.2 tOn zM)
    have h3:=h2.trans (hp ((s.take 5 signs).2.2.mode tOn zM).2.2)
    have h4:=h3.trans (zc2 _)
    exact(h4.trans (levelF_stp hp f _ _)).le (by omega)
theorem level_stp {part:Rd→Nd×Rd} (hp:∀ s,Stp 1 s (part s).2) (s:Rd) (signs:List ByteArray):Stp 1 s (s.level part signs).2:=by
 unfold Rd.level
 exact((hp s).trans (levelF_stp hp _ _ _)).le (by omega)
theorem bracesF_stp:∀ (f:Nat) (o:List MatD) (s:Rd),Stp 0 s (zaa f o s).2
 | 0,o,s=>Stp.rfl' s
 | f+1,o,s=>by
  unfold zaa
  split
  · exact Stp.rfl' s
  · have h:=((((zaK s 1).trans (zG (s.any 1).2 5 [tEq,tNe,zai,zJ])).bad (((s.any 1).2.take 5 [tEq,tNe,zai,zJ]).2.2.b||!((s.any 1).2.take 5 [tEq,tNe,zai,zJ]).2.1)).trans (zaK _ 3)).trans (zG _ 5 [zU])
    simp only
    split
    · exact(h.trans (bracesF_stp f _ _)).le (by omega)
    · exact h.le (by omega)
theorem zaU (s:Rd) (k:Int):Stp 0 s (s.number k).2:=zaK s k
section
variable (rm:List MatD→Bool)
theorem zcQ (s:Rd):Stp 0 s (s.braces rm).2:=by
 unfold Rd.braces
 split
 · exact((zB s _).trans (zB _ _)).le (by omega)
 · exact((((zB s _).trans (bracesF_stp _ _ _)).trans (zB _ _)).bad _).le (by omega)
theorem selector_stp (s:Rd):Stp 1 s (s.selector rm).2:=by
 have h1:Stp 0 s s.selName.2:=by unfold Rd.selName;split;exact zaK s 1;exact Stp.rfl' s
 have h2:∀ (s:Rd) t,Stp 0 s (s.selMs rm t).2:=fun s t=>by unfold Rd.selMs;split;exact zcQ rm s;exact(Stp.rfl' s).bad _
 have h3:∀ s:Rd,Stp 0 s s.selWin.2:=fun s=>by
  unfold Rd.selWin;split
  · exact(((zG s 5 [tSq]).trans (zaU _ 4)).trans (zB _ _)).le (by omega)
  · exact zG s 5 _
 exact(((h1.trans (h2 _ _)).trans (h3 _)).trans (zc2 _)).le (by omega)
theorem aggr_stp {s:Rd} {ex:Rd→Nd×Rd} (hp:∀ s,Stp 1 s (ex s).2) (hb:s.b=false) (hk:s.pk.k=1):Stp 1 s (s.aggr ex).2:=by
 have h1:=(any_got (by decide) hb hk).2.1
 have h2:=(h1.trans (za3 (s.any 1).2 tBy zF)).trans (zB _ zC)
 unfold Rd.aggr
 simp only
 split
 · exact(((((h2.trans (zaU _ 2)).trans (zB _ zU)).trans (hp _)).trans (zB _ zS)).trans (zc2 _)).le (by omega)
 · exact(((h2.trans (hp _)).trans (zB _ zS)).trans (zc2 _)).le (by omega)
theorem prim_stp {ex:Rd→Nd×Rd} (hp:∀ s,Stp 1 s (ex s).2) (s:Rd):Stp 1 s (s.prim rm ex).2:=by
 unfold Rd.prim
 split
 · exact(Stp.rfl' s).le (by omega)
 · rename_i hb
   have hb:s.b=false:=by simpa using hb
   split
   · exact((zaU s 2).trans (zc2 _)).le (by omega)
   · split
     · exact(((zB s zC).trans (hp _)).trans (zB _ zS)).le (by omega)
     · split
       · rename_i h;exact aggr_stp hp hb h.1
       · split
         · rename_i h
           have h1:=(any_got (by decide) hb h.1).2.1
           exact((((h1.trans (zB _ zC)).trans (hp _)).trans (zc2 _)).trans (zB _ zS)).le (by omega)
         · exact selector_stp rm s
theorem zb6 {ex:Rd→Nd×Rd} (hp:∀ s,Stp 1 s (ex s).2):∀ (f:Nat) (s:Rd),Stp 1 s (zaf rm ex f s).2
 | 0,s=>(Stp.rfl' s).le (by omega)
 | f+1,s=>by
  unfold zaf
  split
  · rename_i h
    exact(((za5 (by decide) h).2.1.trans (zb6 hp f _)).trans (zc2 _)).le (by omega)
  · exact((zG s 5 _).trans (prim_stp rm hp _)).le (by omega)
theorem zdh {ex:Rd→Nd×Rd} (hp:∀ s,Stp 1 s (ex s).2) (s:Rd):Stp 1 s (zcH rm ex s).2:=level_stp (fun s=>zb6 rm hp _ s) s _
theorem zck {ex:Rd→Nd×Rd} (hp:∀ s,Stp 1 s (ex s).2) (s:Rd):Stp 1 s (sumP rm ex s).2:=level_stp (fun s=>zdh rm hp s) s _
theorem zaQ:∀ (f:Nat) (s:Rd),Stp 1 s (zaJ rm f s).2
 | 0,s=>(Stp.rfl' s).le (by omega)
 | f+1,s=>by unfold zaJ;exact level_stp (fun s=>zck rm (zaQ f) s) s _
end
end Lp
set_option linter.unusedVariables false
namespace Lp
open Go
structure RngD where
 lo:Int
 hi:Int
structure SetD where
 all:Bool
 nt:Bool
 items:List RngD
inductive Pt where
 | one (s:SetD)
 | row (l:List Pt)
 | alt (l:List Pt)
 | rep (x:Pt) (none again:Bool)
structure PR where
 l:List Int
 b:Bool
def PR.has (s:PR) (c:Int):Bool:=decide (s.l.head?=some c)
def PR.take (s:PR) (c:Int):Bool×PR:=if s.has c=true then(true,⟨s.l.tail,s.b⟩) else(false,s)
def PR.any (s:PR):Int×PR:=match s.l with
 | []=>(0,⟨[],true⟩)
 | c::r=>(c,⟨r,s.b⟩)
def PR.times (s:PR) (x:Pt):Pt×PR:=
 if s.has 42=true then(.rep x true true,(s.take 42).2)
 else if s.has 43=true then(.rep x false true,(s.take 43).2)
 else if s.has 63=true then(.rep x true false,(s.take 63).2)
 else(x,s)
def PR.member (s:PR):Int×PR:=if s.any.1=92 then s.any.2.any else s.any
def PR.item (s:PR):RngD×PR:=
 let m:=s.member
 if 1<m.2.l.length∧m.2.l.headD 0=45∧m.2.l.tail.headD 0≠93 then(⟨m.1,m.2.any.2.member.1⟩,m.2.any.2.member.2) else(⟨m.1,m.1⟩,m.2)
def zbY (nt:Bool):Nat→List RngD→PR→SetD×PR
 | 0,o,s=>(⟨false,nt,o⟩,s)
 | f+1,o,s=>
  if s.b=true then(⟨false,nt,o⟩,s)
  else if 0<o.length∧s.has 93=true then(⟨false,nt,o⟩,(s.take 93).2)
  else if s.l=[]∨s.has 93=true then(⟨false,nt,o⟩,⟨s.l,true⟩)
  else
   let x:=s.item
   zbY nt f (o++[x.1]) ⟨x.2.l,x.2.b||decide (x.1.hi<x.1.lo)⟩
def PR.cls (s:PR):SetD×PR:=zbY (s.take 94).1 ((s.take 94).2.l.length+2) [] (s.take 94).2
def sgnN:List Int:=[42,43,63,124,41,93]
def PR.atom (s:PR) (alt:PR→Pt×PR):Pt×PR:=
 let c:=s.any
 if c.1=40 then
  let x:=alt c.2
  if x.2.b=true then(x.1,x.2) else(x.1,⟨(x.2.take 41).2.l,!(x.2.take 41).1⟩)
 else if c.1=91 then(.one c.2.cls.1,c.2.cls.2)
 else if c.1=46 then(.one ⟨true,false,[]⟩,c.2)
 else if c.1=92 then(.one ⟨false,false,[⟨c.2.any.1,c.2.any.1⟩]⟩,c.2.any.2)
 else(.one ⟨false,false,[⟨c.1,c.1⟩]⟩,⟨c.2.l,c.2.b||sgnN.any (fun x=>decide (x=c.1))⟩)
def PR.stop (s:PR):Bool:=decide (s.l=[])||s.has 124||s.has 41
def zbB (alt:PR→Pt×PR):Nat→List Pt→PR→List Pt×PR
 | 0,o,s=>(o,s)
 | f+1,o,s=>
  if s.b=true∨s.stop=true then(o,s)
  else
   let a:=s.atom alt
   let t:=a.2.times a.1
   zbB alt f (o++[t.1]) t.2
def PR.parts (s:PR) (alt:PR→Pt×PR):Pt×PR:=(.row (zbB alt (s.l.length+1) [] s).1,(zbB alt (s.l.length+1) [] s).2)
def zcF (alt:PR→Pt×PR):Nat→List Pt→PR→List Pt×PR
 | 0,o,s=>(o,s)
 | f+1,o,s=>
  if s.has 124=true then
   let p:=(s.take 124).2.parts alt
   zcF alt f (o++[p.1]) p.2
  else(o,s)
def altF:Nat→PR→Pt×PR
 | 0,s=>(.row [],s)
 | f+1,s=>
  let p:=s.parts (altF f)
  let r:=zcF (altF f) (p.2.l.length+1) [p.1] p.2
  (.alt r.1,r.2)
def patR (l:List Int):Bool:=decide (l.length≤40)&&!(altF (l.length+1) ⟨l,false⟩).2.b&&decide ((altF (l.length+1) ⟨l,false⟩).2.l=[])
theorem PR.take_le (s:PR) (c:Int):(s.take c).2.l.length≤s.l.length:=by unfold PR.take;split<;>simp
theorem PR.take_lt {s:PR} {c:Int} (h:s.has c=true):(s.take c).2.l.length+1=s.l.length:=by
 unfold PR.take;rw[if_pos h]
 unfold PR.has at h;simp only[decide_eq_true_eq] at h
 cases e:s.l with
 | nil=>rw[e] at h;cases h
 | cons x r=>simp
theorem PR.any_le (s:PR):s.any.2.l.length≤s.l.length:=by unfold PR.any;cases e:s.l<;>simp
theorem PR.any_lt {s:PR} (h:s.l≠[]):s.any.2.l.length+1=s.l.length:=by
 unfold PR.any;cases e:s.l with
 | nil=>exact absurd e h
 | cons x r=>simp
theorem PR.times_le (s:PR) (x:Pt):(s.times x).2.l.length≤s.l.length:=by
 unfold PR.times;repeat' split
 all_goals first | exact PR.take_le _ _ | exact Nat.le_refl _
theorem PR.member_le (s:PR):s.member.2.l.length≤s.l.length:=by
 unfold PR.member;split
 · exact Nat.le_trans (PR.any_le _) (PR.any_le _)
 · exact PR.any_le _
theorem PR.member_lt {s:PR} (h:s.l≠[]):s.member.2.l.length<s.l.length:=by
 have:=PR.any_lt h
 unfold PR.member;split
 · have:=PR.any_le s.any.2;omega
 · omega
theorem PR.item_lt {s:PR} (h:s.l≠[]):s.item.2.l.length<s.l.length:=by
 have h1:=PR.member_lt h
 unfold PR.item;simp only;split
 · have h2:=PR.any_le s.member.2
   have h3:=PR.member_le s.member.2.any.2
   simp only;omega
 · exact h1
theorem classF_le (nt:Bool):∀ (f:Nat) (o:List RngD) (s:PR),(zbY nt f o s).2.l.length≤s.l.length
 | 0,o,s=>Nat.le_refl _
 | f+1,o,s=>by
  unfold zbY
  split
  · exact Nat.le_refl _
  · split
    · exact PR.take_le _ _
    · split
      · exact Nat.le_refl _
      · rename_i h
        have h1:=PR.item_lt (s:=s) (fun e=>h (Or.inl e))
        have h2:=classF_le nt f (o++[s.item.1]) ⟨s.item.2.l,s.item.2.b||decide (s.item.1.hi<s.item.1.lo)⟩
        simp only at h2 ⊢;omega
theorem PR.cls_le (s:PR):s.cls.2.l.length≤s.l.length:=Nat.le_trans (classF_le _ _ _ _) (PR.take_le _ _)
theorem PR.atom_lt {s:PR} {alt:PR→Pt×PR} (ha:∀ s,(alt s).2.l.length≤s.l.length) (h:s.l≠[]):(s.atom alt).2.l.length<s.l.length:=by
 have h1:=PR.any_lt h
 unfold PR.atom;simp only
 split
 · have h2:=ha s.any.2
   have h3:=PR.take_le (alt s.any.2).2 41
   split<;>simp only<;>omega
 · split
   · have:=PR.cls_le s.any.2;simp only;omega
   · split
     · simp only;omega
     · split
       · have:=PR.any_le s.any.2;simp only;omega
       · simp only;omega
theorem partsF_le {alt:PR→Pt×PR} (ha:∀ s,(alt s).2.l.length≤s.l.length):∀ (f:Nat) (o:List Pt) (s:PR),(zbB alt f o s).2.l.length≤s.l.length
 | 0,o,s=>Nat.le_refl _
 | f+1,o,s=>by
  unfold zbB
  split
  · exact Nat.le_refl _
  · rename_i h
    have hne:s.l≠[]:=fun e=>h (Or.inr (by unfold PR.stop;rw[decide_eq_true e];rfl))
    have h1:=PR.atom_lt ha hne
    have h2:=PR.times_le (s.atom alt).2 (s.atom alt).1
    have h3:=partsF_le ha f (o++[((s.atom alt).2.times (s.atom alt).1).1]) ((s.atom alt).2.times (s.atom alt).1).2
    simp only;omega
theorem PR.parts_le {alt:PR→Pt×PR} (ha:∀ s,(alt s).2.l.length≤s.l.length) (s:PR):(s.parts alt).2.l.length≤s.l.length:=partsF_le ha _ _ _
theorem altsF_le {alt:PR→Pt×PR} (ha:∀ s,(alt s).2.l.length≤s.l.length):∀ (f:Nat) (o:List Pt) (s:PR),(zcF alt f o s).2.l.length≤s.l.length
 | 0,o,s=>Nat.le_refl _
 | f+1,o,s=>by
  unfold zcF
  split
  · rename_i h
    have h1:=PR.take_lt h
    have h2:=PR.parts_le ha (s.take 124).2
    have h3:=altsF_le ha f (o++[((s.take 124).2.parts alt).1]) ((s.take 124).2.parts alt).2
    simp only;omega
  · exact Nat.le_refl _
theorem altF_le:∀ (f:Nat) (s:PR),(altF f s).2.l.length≤s.l.length
 | 0,s=>Nat.le_refl _
 | f+1,s=>by
  unfold altF;simp only
  exact Nat.le_trans (altsF_le (altF_le f) _ _ _) (PR.parts_le (altF_le f) s)
end Lp
set_option linter.unusedVariables false
namespace Lp
open Go
def zfj:List UInt8:=[32,9,10,40,41,44,91,93,123,125,43,45,42,47,37,60,62,33,34]
def Stop (r:List UInt8):Prop:=r=[]∨∃ b t,r=b::t∧b∈zfj
theorem stopL_ok:∀ b∈zfj,b.toNat<128∧¬zN ((b.toNat:Nat):Int)=1∧¬zN ((b.toNat:Nat):Int)=2:=by decide
def Rem (r:List UInt8):Prop:=r=[]∨∃ b t,r=b::t∧b.toNat<128∧¬zN ((b.toNat:Nat):Int)=1∧¬zN ((b.toNat:Nat):Int)=2
theorem Stop.rem {r:List UInt8} (h:Stop r):Rem r:=by
 rcases h with h | ⟨b,t,e,hb⟩
 · exact .inl h
 · exact .inr ⟨b,t,e,stopL_ok b hb⟩
theorem zfq {l r:List UInt8} {k:Nat} (h:k<l.length):gb (l++r) k=gb l k:=by
 unfold gb;rw[List.getD_eq_getElem?_getD,List.getD_eq_getElem?_getD,List.getElem?_append_left h]
theorem gb_far {l r:List UInt8} (hr:Rem r):gb (l++r) l.length<128:=by
 unfold gb
 rw[List.getD_eq_getElem?_getD,List.getElem?_append_right (Nat.le_refl _),Nat.sub_self]
 rcases hr with rfl | ⟨b,t,rfl,h⟩
 · simp
 · simpa using h.1
theorem cont_app {l r:List UInt8} {k:Nat} (hr:Rem r) (h:k≤l.length):zbp (l++r) k=zbp l k:=by
 rcases Nat.lt_or_ge k l.length with hk | hk
 · unfold zbp;rw[zfq hk,List.length_append]
   congr 1;rw[decide_eq_decide];omega
 · obtain rfl:k=l.length:=by omega
   have h2:=gb_far (l:=l) hr
   have e1:zbp (l++r) l.length=false:=by
    unfold zbp
    have:¬gb (l++r) l.length / 64=2:=by omega
    simp[this]
   have e2:zbp l l.length=false:=by unfold zbp;simp
   rw[e1,e2]
theorem cont_lt' {l:List UInt8} {k:Nat} (h:zbp l k=true):k<l.length:=by unfold zbp at h;simp at h;exact h.1
theorem decL_app {l r:List UInt8} (hl:l≠[]) (hr:Rem r):decL (l++r)=decL l:=by
 have hp:=List.length_pos_iff.2 hl
 have g0:=zfq (l:=l) (r:=r) hp
 have c1:=cont_app (l:=l) hr (k:=1) (by omega)
 unfold decL
 rw[g0,c1]
 by_cases h1:zbp l 1=true
 · have l1:=cont_lt' h1
   have g1:=zfq (l:=l) (r:=r) l1
   have c2:=cont_app (l:=l) hr (k:=2) (by omega)
   rw[g1,c2]
   by_cases h2:zbp l 2=true
   · have l2:=cont_lt' h2
     have g2:=zfq (l:=l) (r:=r) l2
     have c3:=cont_app (l:=l) hr (k:=3) (by omega)
     rw[g2,c3]
     by_cases h3:zbp l 3=true
     · have l3:=cont_lt' h3
       rw[zfq (l:=l) (r:=r) l3]
     · have h3:zbp l 3=false:=by simpa using h3
       simp only[h3,Bool.and_false,Bool.false_eq_true,if_false]
   · have h2:zbp l 2=false:=by simpa using h2
     simp only[h2,Bool.and_false,Bool.false_and,Bool.false_eq_true,if_false]
 · have h1:zbp l 1=false:=by simpa using h1
   simp only[h1,Bool.and_false,Bool.false_and,Bool.false_eq_true,if_false]
theorem zaN {b:UInt8} {t:List UInt8} (h:b.toNat<128):decL (b::t)=(b.toNat,1):=by
 unfold decL
 have:gb (b::t) 0=b.toNat:=rfl
 rw[this,if_pos h]
theorem stop_dec {r:List UInt8} (hr:Rem r) (hn:r≠[]):¬zN ((decL r).1:Int)=1∧¬zN ((decL r).1:Int)=2:=by
 rcases hr with rfl | ⟨b,t,rfl,h⟩
 · exact absurd rfl hn
 · rw[zaN h.1]
   exact h.2
theorem stop_run {r:List UInt8} (hr:Rem r) {ks:List Int} (h:∀ k∈ks,k=1∨k=2):runL (inK ks) r=0:=by
 by_cases hn:r=[]
 · rw[hn,zcZ]
 · refine zdo ?_
   unfold inK;rw[List.any_eq_false]
   intro k hk
   intro e;rw[decide_eq_true_eq] at e
   rcases h k hk with rfl | rfl
   · exact(stop_dec hr hn).1 e.symm
   · exact(stop_dec hr hn).2 e.symm
theorem runL_app {f:Int→Bool} {r:List UInt8} (hr:Rem r):∀ (n:Nat) (l:List UInt8),l.length=n→runL f (l++r)=runL f l+(if runL f l=l.length then runL f r else 0):=by
 intro n
 induction n using Nat.strongRecOn with
 | _ n ih=>
  intro l hl
  by_cases h:l=[]
  · subst h;rw[zcZ];simp
  · have hd:=decL_app h hr
    have hle:=zeU h
    have hpos:=zcE l
    by_cases hf:f ((decL l).1:Int)=true
    · rw[zcN (by simp[h]) (by rw[hd];exact hf),hd,List.drop_append_of_le_length hle,ih (l.length-(decL l).2) (by omega) _ List.length_drop,zcN h hf]
      have e:(runL f (l.drop (decL l).2)=(l.drop (decL l).2).length)=((decL l).2+runL f (l.drop (decL l).2)=l.length):=by
       rw[List.length_drop,eq_iff_iff];omega
      simp only[e];omega
    · have hf:f ((decL l).1:Int)=false:=by simpa using hf
      rw[zdo (by rw[hd];exact hf),zdo hf,if_neg (by have:=List.length_pos_iff.2 h;omega)]
theorem runL_stop {ks:List Int} {l r:List UInt8} (hr:Rem r) (h:∀ k∈ks,k=1∨k=2):runL (inK ks) (l++r)=runL (inK ks) l:=by
 rw[runL_app hr _ l rfl,stop_run hr h];split<;>rfl
theorem take_run {f:Int→Bool} {l r:List UInt8}:(l++r).take (runL f l)=l.take (runL f l):=List.take_append_of_le_length (zbv f l)
theorem zcu {b:Bool} {l:List UInt8} (h:l≠[]):zar b l=if b=true then(zar false (l.drop (decL l).2)).map (· +(decL l).2)
 else if (decL l).1=92 then(zar true (l.drop (decL l).2)).map (· +(decL l).2)
 else if (decL l).1=34 then some 0
 else(zar false (l.drop (decL l).2)).map (· +(decL l).2):=by
 conv=>lhs;unfold zar
 rw[dif_neg h]
theorem qscan_nil {b:Bool}:zar b []=none:=by unfold zar;rw[dif_pos rfl]
theorem qscan_lt:∀ (n:Nat) (l:List UInt8) (b:Bool) (i:Nat),l.length=n→zar b l=some i→i<l.length:=by
 intro n
 induction n using Nat.strongRecOn with
 | _ n ih=>
  intro l b i hl h
  by_cases hn:l=[]
  · subst hn;rw[qscan_nil] at h;cases h
  · have h1:=zcE l
    have h2:=zeU hn
    have key:∀ (b':Bool),(zar b' (l.drop (decL l).2)).map (· +(decL l).2)=some i→i<l.length:=by
     intro b' h
     cases e:zar b' (l.drop (decL l).2) with
     | none=>rw[e] at h;cases h
     | some j=>
      rw[e] at h;injection h with h
      have:=ih (l.length-(decL l).2) (by omega) _ b' j List.length_drop e
      rw[List.length_drop] at this
      have h:j+(decL l).2=i:=h
      omega
    rw[zcu hn] at h
    split at h
    · exact key _ h
    · split at h
      · exact key _ h
      · split at h
        · injection h with h;omega
        · exact key _ h
theorem qscan_app {r:List UInt8} (hr:Rem r):∀ (n:Nat) (l:List UInt8) (b:Bool) (i:Nat),l.length=n→zar b l=some i→zar b (l++r)=some i:=by
 intro n
 induction n using Nat.strongRecOn with
 | _ n ih=>
  intro l b i hl h
  by_cases hn:l=[]
  · subst hn;rw[qscan_nil] at h;cases h
  · have hd:=decL_app hn hr
    have h1:=zcE l
    have h2:=zeU hn
    have key:∀ (b':Bool),(zar b' (l.drop (decL l).2)).map (· +(decL l).2)=some i→(zar b' (l.drop (decL l).2++r)).map (· +(decL l).2)=some i:=by
     intro b' h
     cases e:zar b' (l.drop (decL l).2) with
     | none=>rw[e] at h;cases h
     | some j=>rw[e] at h;rw[ih (l.length-(decL l).2) (by omega) _ b' j List.length_drop e];exact h
    rw[zcu hn] at h
    rw[zcu (by simp[hn]),hd,List.drop_append_of_le_length h2]
    split
    · rw[if_pos (by assumption)] at h;exact key _ h
    · rw[if_neg (by assumption)] at h
      split
      · rw[if_pos (by assumption)] at h;exact key _ h
      · rw[if_neg (by assumption)] at h
        split
        · rw[if_pos (by assumption)] at h;exact h
        · rw[if_neg (by assumption)] at h;exact key _ h
theorem prefix_app {x l r:List UInt8} (hl:l≠[]) (hr:Stop r) (hx:∀ b∈x.tail,b ∉ zfj):x.isPrefixOf (l++r)=x.isPrefixOf l:=by
 rw[Bool.eq_iff_iff,List.isPrefixOf_iff_prefix,List.isPrefixOf_iff_prefix]
 constructor
 · rintro ⟨t,ht⟩
   rcases Nat.lt_or_ge l.length x.length with h | h
   · exfalso
     have e:x[l.length]?=(l++r)[l.length]?:=by rw[←ht,List.getElem?_append_left h]
     rw[List.getElem?_append_right (Nat.le_refl _),Nat.sub_self] at e
     rw[List.getElem?_eq_getElem h] at e
     rcases hr with rfl | ⟨b,t',rfl,hb⟩
     · simp at e
     · have e:x[l.length]=b:=by simpa using e
       have hp:=List.length_pos_iff.2 hl
       refine hx b ?_ hb
       rw[←e]
       cases x with
       | nil=>exact absurd h (Nat.not_lt_zero _)
       | cons y x=>
        obtain ⟨k,hk⟩:∃ k,l.length=k+1:=⟨l.length-1,by omega⟩
        have h':k<x.length:=by rw[hk] at h;simpa using h
        have:(y::x)[l.length]=x[k]:=by simp[hk]
        rw[this];exact List.getElem_mem h'
   · refine⟨l.drop x.length,?_⟩
     have e1:x=l.take x.length:=by
      have:=congrArg (List.take x.length) ht
      rw[List.take_left',List.take_append_of_le_length h] at this
      · exact this
      · rfl
     conv=>lhs;lhs;rw[e1]
     exact List.take_append_drop _ _
 · rintro ⟨t,rfl⟩;exact⟨t++r,by simp⟩
theorem signs_plain:∀ x∈zaC,∀ b∈(bl8 x).tail,b ∉ zfj:=by decide
theorem signIn_app {l r:List UInt8} (hl:l≠[]) (hr:Stop r):∀ (xs:List ByteArray),(∀ x∈xs,∀ b∈(bl8 x).tail,b ∉ zfj)→zaT xs (l++r)=zaT xs l
 | [],_=>rfl
 | x::xs,h=>by
  unfold zaT
  rw[prefix_app hl hr (h x List.mem_cons_self),signIn_app hl hr xs (fun y hy=>h y (List.mem_cons_of_mem _ hy))]
theorem signIn_size:∀ (xs:List ByteArray) (l:List UInt8),(zaT xs l).2≤l.length
 | [],l=>Nat.zero_le _
 | x::xs,l=>by
  unfold zaT;split
  · rename_i h
    rw[List.isPrefixOf_iff_prefix] at h
    have:=h.length_le
    rw[zav] at this;exact this
  · exact signIn_size xs l
theorem numT_app {l r:List UInt8} (hr:Rem r):numT (l++r)=numT l:=by
 have h1:runL isD (l++r)=runL isD l:=runL_stop hr (by decide)
 have h2:runL isLD (l++r)=runL isLD l:=runL_stop hr (by decide)
 have h3:(l++r).take (runL isD l)=l.take (runL isD l):=take_run
 have h4:(l++r).take (runL isLD l)=l.take (runL isLD l):=take_run
 unfold numT;rw[h1,h2,h3,h4]
theorem strT_app {l r:List UInt8} (hr:Rem r) (h0:(strT l).2≠0):strT (l++r)=strT l:=by
 cases e:zar true l with
 | none=>unfold strT at h0;rw[e] at h0;exact absurd rfl h0
 | some i=>
  have h1:=qscan_app hr _ l true i rfl e
  have h2:=qscan_lt _ l true i rfl e
  unfold strT;rw[h1,e]
  simp only[List.take_append_of_le_length (show i+1≤l.length by omega)]
theorem firstT_app {l r:List UInt8} (hl:l≠[]) (hr:Stop r) (h0:(zu l).2≠0):zu (l++r)=zu l:=by
 have hd:=decL_app hl hr.rem
 unfold zu at h0 ⊢
 rw[hd]
 split
 · have h2:runL isLD (l++r)=runL isLD l:=runL_stop hr.rem (by decide)
   have h4:(l++r).take (runL isLD l)=l.take (runL isLD l):=take_run
   unfold zb5;rw[h2,h4]
 · split
   · exact numT_app hr.rem
   · split
     · rename_i a b c
       rw[if_neg a,if_neg b,if_pos c] at h0
       exact strT_app hr.rem h0
     · exact signIn_app hl hr _ signs_plain
theorem firstT_rem {l r:List UInt8} (hl:l≠[]) (hr:Rem r) (h0:(zu l).2≠0) (hk:(zu l).1.k≠5):zu (l++r)=zu l:=by
 have hd:=decL_app hl hr
 unfold zu at h0 hk ⊢
 rw[hd]
 split
 · have h2:runL isLD (l++r)=runL isLD l:=runL_stop hr (by decide)
   have h4:(l++r).take (runL isLD l)=l.take (runL isLD l):=take_run
   unfold zb5;rw[h2,h4]
 · split
   · exact numT_app hr
   · split
     · rename_i a b c
       rw[if_neg a,if_neg b,if_pos c] at h0
       exact strT_app hr h0
     · rename_i a b c
       rw[if_neg a,if_neg b,if_neg c] at h0 hk
       exfalso
       have key:∀ xs:List ByteArray,(zaT xs l).2≠0→(zaT xs l).1.k=5:=by
        intro xs
        induction xs with
        | nil=>intro h;exact absurd rfl h
        | cons x xs ih=>
         unfold zaT
         split
         · exact fun _=>rfl
         · exact ih
       exact hk (key _ h0)
theorem firstT_le {l:List UInt8}:(zu l).2≤l.length:=by
 unfold zu
 split
 · unfold zb5;split
   · exact zbv _ _
   · exact Nat.zero_le _
 · split
   · unfold numT;split
     · exact Nat.zero_le _
     · split
       · exact zbv _ _
       · split
         · exact Nat.zero_le _
         · exact zbv _ _
   · split
     · cases e:zar true l with
       | none=>unfold strT;rw[e];exact Nat.zero_le _
       | some i=>
        have h2:=qscan_lt _ l true i rfl e
        unfold strT;rw[e]
        show (match unqB (mkB (l.take (i+1))) with | none=>(zbO,0) | some t=>((⟨3,0,t⟩:TokD),i+1)).2≤_
        split
        · exact Nat.zero_le _
        · exact h2
     · exact signIn_size _ _
theorem run_blank_all {g:List UInt8} (hg:∀ b∈g,b=32∨b=9∨b=10) (x:List UInt8):runL isB (g++x)=g.length+runL isB x:=by
 induction g with
 | nil=>simp
 | cons b t ih=>
  have hb:=hg b List.mem_cons_self
  have hlt:b.toNat<128:=by rcases hb with rfl | rfl | rfl<;>decide
  have hk:isB ((decL (b::(t++x))).1:Int)=true:=by
   rw[zaN hlt]
   rcases hb with rfl | rfl | rfl<;>decide
  rw[List.cons_append,zcN (by simp) hk,zaN hlt]
  show 1+runL isB (t++x)=_
  rw[ih (fun c hc=>hg c (List.mem_cons_of_mem _ hc)),List.length_cons];omega
theorem wordsL_blank {g:List UInt8} (hg:∀ b∈g,b=32∨b=9∨b=10) (x:List UInt8) (a:Nat):zZ (g++x) a=zZ x (a+g.length):=by
 rw[zca (n:=g.length+x.length) (by simp),zca (n:=g.length+x.length) (by simp),run_blank_all hg]
 rw[←List.drop_drop,List.drop_left]
 congr 1;omega
theorem drop_run_app {f:Int→Bool} {l r:List UInt8}:(l++r).drop (runL f l)=l.drop (runL f l)++r:=List.drop_append_of_le_length (zbv f l)
theorem wordsL_app {r:List UInt8} (hr:Stop r):∀ (n:Nat) (l:List UInt8) (a:Nat) (ts:List TokD),l.length=n→zZ l a=some ts→zZ (l++r) a=(zZ r (a+l.length)).map (ts++·):=by
 intro n
 induction n using Nat.strongRecOn with
 | _ n ih=>
  intro l a ts hn h
  have hb:=runL_app (f:=isB) hr.rem _ l rfl
  by_cases hall:runL isB l=l.length
  · rw[if_pos hall,hall] at hb
    have e0:l.drop (runL isB l)=[]:=by rw[List.drop_eq_nil_iff];omega
    have ht:ts=[]:=by
     unfold zZ at h;rw[e0,za9] at h;injection h with h;exact h.symm
    subst ht
    rw[zca (n:=(l++r).length) (Nat.le_refl _),zca (n:=(l++r).length) (l:=r) (by simp),hb]
    rw[←List.drop_drop,List.drop_left]
    rw[show a+(l.length+runL isB r)=a+l.length+runL isB r by omega]
    simp
  · rw[if_neg hall,Nat.add_zero] at hb
    have hrl:=zbv isB l
    have hne:l.drop (runL isB l)≠[]:=by rw[Ne,List.drop_eq_nil_iff];omega
    generalize hm:l.drop (runL isB l)=m at hne
    have hml:m.length=l.length-runL isB l:=by rw[←hm,List.length_drop]
    have e1:zZ (l++r) a=zbG (l++r).length (m++r) (a+runL isB l):=by
     rw[zca (n:=(l++r).length) (Nat.le_refl _),hb,drop_run_app,hm]
    have h0:(zu m).2≠0:=by
     intro h0
     unfold zZ at h;rw[hm,zbK hne h0] at h;cases h
    have hf:=firstT_app hne hr h0
    have hfl:=firstT_le (l:=m)
    have h':zbG l.length m (a+runL isB l)=some ts:=by unfold zZ at h;rw[hm] at h;exact h
    rw[zbd hne h0 (by omega)] at h'
    rw[e1,zbd (by simp[hne]) (by rw[hf];exact h0) (by simp only[List.length_append];omega),hf,List.drop_append_of_le_length hfl]
    cases e2:zZ (m.drop (zu m).2) (a+runL isB l+(zu m).2) with
    | none=>rw[e2] at h';cases h'
    | some ts2=>
     rw[e2] at h'
     have h':(zu m).1.put (a+runL isB l)::ts2=ts:=by injection h'
     rw[ih (m.drop (zu m).2).length (by rw[List.length_drop];omega) _ _ ts2 rfl e2,←h']
     have e3:a+runL isB l+(zu m).2+(m.drop (zu m).2).length=a+l.length:=by rw[List.length_drop];omega
     rw[e3]
     cases zZ r (a+l.length)<;>simp
def TokD.by (x:TokD) (c:Nat):TokD:=⟨x.k,x.a+(c:Int),x.t⟩
theorem wordsL_by (c:Nat):∀ (n:Nat) (l:List UInt8) (a:Nat),l.length=n→zZ l (a+c)=(zZ l a).map (·.map (·.by c)):=by
 intro n
 induction n using Nat.strongRecOn with
 | _ n ih=>
  intro l a hn
  have hrl:=zbv isB l
  generalize hm:l.drop (runL isB l)=m
  have hml:m.length=l.length-runL isB l:=by rw[←hm,List.length_drop]
  unfold zZ
  rw[hm]
  by_cases hne:m=[]
  · subst hne;rw[za9,za9];rfl
  · by_cases h0:(zu m).2=0
    · rw[zbK hne h0,zbK hne h0];rfl
    · have hpos:=List.length_pos_iff.2 hne
      rw[zbd hne h0 (by omega),zbd hne h0 (by omega)]
      have e:a+c+runL isB l+(zu m).2=a+runL isB l+(zu m).2+c:=by omega
      rw[e,ih (m.drop (zu m).2).length (by rw[List.length_drop];omega) _ _ rfl]
      have e2:(zu m).1.put (a+c+runL isB l)=((zu m).1.put (a+runL isB l)).by c:=by
       unfold TokD.put TokD.by;congr 1
       show ((a+c+runL isB l:Nat):Int)=((a+runL isB l:Nat):Int)+(c:Int)
       omega
      rw[e2]
      cases zZ (m.drop (zu m).2) (a+runL isB l+(zu m).2)<;>simp
end Lp
