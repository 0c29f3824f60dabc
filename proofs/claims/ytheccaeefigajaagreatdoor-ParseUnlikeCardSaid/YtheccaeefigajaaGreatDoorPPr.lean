import Derived.Test.YtheccaeefigajaaGreatDoorV101
set_option linter.unusedVariables false
namespace Lp
open Go
abbrev tSp:ByteArray:=⟨#[32]⟩
abbrev tSec:ByteArray:=⟨#[115,93]⟩
abbrev tOAsc:ByteArray:=⟨#[32,111,114,100,101,114,32,97,115,99]⟩
abbrev tODesc:ByteArray:=⟨#[32,111,114,100,101,114,32,100,101,115,99]⟩
abbrev zbF:ByteArray:=⟨#[32,108,105,109,105,116,32]⟩
abbrev zcj:ByteArray:=⟨#[32,111,102,102,115,101,116,32]⟩
theorem catz:(⟨#[32]⟩:ByteArray).size=1∧(⟨#[40]⟩:ByteArray).size=1∧(⟨#[41]⟩:ByteArray).size=1∧(⟨#[44]⟩:ByteArray).size=1∧(⟨#[123]⟩:ByteArray).size=1∧(⟨#[125]⟩:ByteArray).size=1∧(⟨#[91]⟩:ByteArray).size=1∧(⟨#[115,93]⟩:ByteArray).size=2∧(⟨#[45]⟩:ByteArray).size=1∧(⟨#[32,111,114,100,101,114,32,97,115,99]⟩:ByteArray).size=10∧(⟨#[32,111,114,100,101,114,32,100,101,115,99]⟩:ByteArray).size=11∧(⟨#[32,108,105,109,105,116,32]⟩:ByteArray).size=7∧(⟨#[32,111,102,102,115,101,116,32]⟩:ByteArray).size=8:=⟨rfl,rfl,rfl,rfl,rfl,rfl,rfl,rfl,rfl,rfl,rfl,rfl,rfl⟩
def namP (l:List ByteArray):ByteArray:=zC++zce zU l++zS
def zcd (mode:Int) (a b:ByteArray):ByteArray:=if mode=1 then a else b
def zcG (two:Bool) (t:ByteArray):ByteArray:=if two=true then zC++t++zS else t
def zb7 (op:Int):ByteArray:=if op=1 then tEq else if op=2 then tNe else if op=3 then zai else if op=4 then zJ else ByteArray.empty
def matP (m:MatD):ByteArray:=m.n++zb7 m.op++zaO m.v
def binP (text:ByteArray) (mode:Int) (names:List ByteArray) (a b:ByteArray):ByteArray:=
 if mode=0 then a++tSp++text++tSp++b else a++tSp++text++tSp++(zcd mode tOn zM++namP names++tSp)++b
def aggA (text:ByteArray) (mode:Int) (names:List ByteArray):ByteArray:=
 if mode=0 then text else text++(tSp++zcd mode tBy zF++tSp++namP names++tSp)
def aggP (text:ByteArray) (n:Nat) (mode:Int) (names:List ByteArray) (a:ByteArray):ByteArray:=
 (if zaj text=true then aggA text mode names++zC++(digB n++zU) else aggA text mode names++zC)++a++zS
def selA (text:ByteArray) (ms:List MatD):ByteArray:=
 if text=ByteArray.empty∨0<ms.length then text++(zQ++zce zU (ms.map matP)++zP) else text
def selP (text:ByteArray) (n:Nat) (ms:List MatD):ByteArray:=
 if 0<n then selA text ms++(tSq++digB n++tSec) else selA text ms
def fnP (text a:ByteArray):ByteArray:=text++zC++a++zS
def Nd.two:Nd→Bool
 | .mk op _ _ _ _ _ _=>decide (op=tNeg)||decide (op=tBin)
def prOf (op text:ByteArray) (n:Nat) (mode:Int) (names:List ByteArray) (ms:List MatD) (ps:List ByteArray) (tw:List Bool):ByteArray:=
 if op=tNum then digB n
 else if op=tNeg then zaz++zcG (tw.headD false) (ps.headD ByteArray.empty)
 else if op=tBin then binP text mode names (zcG (tw.headD false) (ps.headD ByteArray.empty)) (zcG (tw.tail.headD false) (ps.tail.headD ByteArray.empty))
 else if op=tAgg then aggP text n mode names (ps.headD ByteArray.empty)
 else if op=tFn then fnP text (ps.headD ByteArray.empty)
 else selP text n ms
mutual
def Nd.pr:Nd→ByteArray
 | .mk op text n mode names ms kids=>prOf op text n.toNat mode names ms (Nd.prs kids) (kids.map Nd.two)
def Nd.prs:List Nd→List ByteArray
 | []=>[]
 | x::r=>Nd.pr x::Nd.prs r
end
inductive Wf:Nd→Prop
 | num {n:Nat} (h:n≤1000000000000):Wf (.mk tNum ByteArray.empty (n:Int) 0 [] [] [])
 | neg {x:Nd}:Wf x→Wf (.mk tNeg ByteArray.empty 0 0 [] [] [x])
 | bin {text:ByteArray} {mode:Int} {names:List ByteArray} {x y:Nd} (h:mode=0∧names=[]∨mode=1∨mode=2):Wf x→Wf y→Wf (.mk tBin text 0 mode names [] [x,y])
 | agg {text:ByteArray} {n:Nat} {mode:Int} {names:List ByteArray} {x:Nd} (h:n≤1000000000000) (hn:zaj text=false→n=0) (hm:mode=0∧names=[]∨mode=1∨mode=2):Wf x→Wf (.mk tAgg text (n:Int) mode names [] [x])
 | fn {text:ByteArray} {x:Nd}:Wf x→Wf (.mk tFn text 0 0 [] [] [x])
 | sel {text:ByteArray} {n:Nat} {ms:List MatD} (h:n≤1000000000000) (hm:∀ m∈ms,1≤m.op∧m.op≤4):Wf (.mk nSel text (n:Int) 0 [] ms [])
section
variable {text:ByteArray} {n:Nat} {mode:Int} {names:List ByteArray} {ms:List MatD} {x y:Nd}
theorem pr_num:(Nd.mk tNum text (n:Int) mode names ms []).pr=digB n:=by
 simp only[Nd.pr];unfold prOf;rw[if_pos rfl,Int.toNat_natCast]
theorem pr_neg:(Nd.mk tNeg text (n:Int) mode names ms [x]).pr=zaz++zcG x.two x.pr:=by
 simp only[Nd.pr,Nd.prs];unfold prOf;rw[if_neg (by decide),if_pos rfl];rfl
theorem pr_bin:(Nd.mk tBin text (n:Int) mode names ms [x,y]).pr=binP text mode names (zcG x.two x.pr) (zcG y.two y.pr):=by
 simp only[Nd.pr,Nd.prs];unfold prOf;rw[if_neg (by decide),if_neg (by decide),if_pos rfl];rfl
theorem pr_agg:(Nd.mk tAgg text (n:Int) mode names ms [x]).pr=aggP text n mode names x.pr:=by
 simp only[Nd.pr,Nd.prs];unfold prOf;rw[if_neg (by decide),if_neg (by decide),if_neg (by decide),if_pos rfl,Int.toNat_natCast];rfl
theorem pr_fn:(Nd.mk tFn text (n:Int) mode names ms [x]).pr=fnP text x.pr:=by
 simp only[Nd.pr,Nd.prs];unfold prOf;rw[if_neg (by decide),if_neg (by decide),if_neg (by decide),if_neg (by decide),if_pos rfl];rfl
theorem pr_sel:(Nd.mk nSel text (n:Int) mode names ms []).pr=selP text n ms:=by
 simp only[Nd.pr,Nd.prs];unfold prOf;rw[if_neg (by decide),if_neg (by decide),if_neg (by decide),if_neg (by decide),if_neg (by decide),Int.toNat_natCast]
end
def wtOf (text:ByteArray) (names:List ByteArray) (ms:List MatD):Nat:=100+text.size+(zae names+20*names.length)+(zae (ms.map matP)+20*ms.length)
mutual
def Nd.wt:Nd→Nat
 | .mk _ text _ _ names ms kids=>wtOf text names ms+Nd.wtL kids
def Nd.wtL:List Nd→Nat
 | []=>0
 | x::r=>Nd.wt x+Nd.wtL r
end
theorem zbc {n:Nat} (h:n≤1000000000000):(digB n).size≤20:=(by unfold digB;rw[zax];have:=digL_13 h;omega)
theorem zdF (b:Bool) (t:ByteArray):(zcG b t).size≤t.size+2∧t.size≤(zcG b t).size:=by
 unfold zcG;split
 · have h1:zC.size=1:=rfl
   have h2:zS.size=1:=rfl
   simp only[ByteArray.size_append];omega
 · omega
theorem namP_sz (l:List ByteArray):(namP l).size≤zae l+l.length+2:=by
 have h:=za0 (sep:=zU) rfl l
 have h1:zC.size=1:=rfl
 have h2:zS.size=1:=rfl
 unfold namP;simp only[ByteArray.size_append];omega
theorem zdG (m:Int) {a b:ByteArray} {k:Nat} (ha:a.size≤k) (hb:b.size≤k):(zcd m a b).size≤k:=by unfold zcd;split<;>assumption
theorem binP_sz (text:ByteArray) (mode:Int) (names:List ByteArray) (a b:ByteArray):(binP text mode names a b).size≤text.size+(zae names+names.length)+a.size+b.size+20:=by
 have h1:=namP_sz names
 have h2:=zdG mode (show tOn.size≤8 by decide) (show zM.size≤8 by decide)
 have h3:tSp.size=1:=rfl
 unfold binP;split<;>(simp only[ByteArray.size_append];omega)
theorem aggA_sz (text:ByteArray) (mode:Int) (names:List ByteArray):(aggA text mode names).size≤text.size+(zae names+names.length)+20:=by
 have h1:=namP_sz names
 have h2:=zdG mode (show tBy.size≤8 by decide) (show zF.size≤8 by decide)
 have h3:tSp.size=1:=rfl
 unfold aggA;split<;>(try simp only[ByteArray.size_append])<;>omega
theorem aggP_sz (text:ByteArray) {n:Nat} (hn:n≤1000000000000) (mode:Int) (names:List ByteArray) (a:ByteArray):(aggP text n mode names a).size≤text.size+(zae names+names.length)+a.size+60:=by
 have h1:=aggA_sz text mode names
 have h2:=zbc hn
 have h3:zC.size=1:=rfl
 have h4:zS.size=1:=rfl
 have h5:zU.size=1:=rfl
 unfold aggP;split<;>(simp only[ByteArray.size_append];omega)
theorem selA_sz (text:ByteArray) (ms:List MatD):(selA text ms).size≤text.size+(zae (ms.map matP)+ms.length)+2:=by
 have h:=za0 (sep:=zU) rfl (ms.map matP)
 rw[List.length_map] at h
 have h3:zQ.size=1:=rfl
 have h4:zP.size=1:=rfl
 unfold selA;split<;>(try simp only[ByteArray.size_append])<;>omega
theorem selP_sz (text:ByteArray) {n:Nat} (hn:n≤1000000000000) (ms:List MatD):(selP text n ms).size≤text.size+(zae (ms.map matP)+ms.length)+30:=by
 have h1:=selA_sz text ms
 have h2:=zbc hn
 have h3:tSq.size=1:=rfl
 have h4:tSec.size=2:=rfl
 unfold selP;split<;>(try simp only[ByteArray.size_append])<;>omega
theorem zfx {q:Nd} (h:Wf q):q.pr.size+10≤q.wt:=by
 induction h with
 | num h=>rw[pr_num];have:=zbc h;simp only[Nd.wt,wtOf,Nd.wtL];omega
 | @neg x _ ih=>
  rw[show (Nd.mk tNeg ByteArray.empty 0 0 [] [] [x]).pr=_ from pr_neg (n:=0)]
  have h1:=(zdF x.two x.pr).1
  have h2:zaz.size=1:=rfl
  simp only[Nd.wt,wtOf,Nd.wtL,ByteArray.size_append];omega
 | @bin text mode names x y h _ _ ih1 ih2=>
  rw[show (Nd.mk tBin text 0 mode names [] [x,y]).pr=_ from pr_bin (n:=0)]
  have h1:=(zdF x.two x.pr).1
  have h2:=(zdF y.two y.pr).1
  have h3:=binP_sz text mode names (zcG x.two x.pr) (zcG y.two y.pr)
  simp only[Nd.wt,wtOf,Nd.wtL];omega
 | @agg text n mode names x h hn hm _ ih=>
  rw[pr_agg]
  have h3:=aggP_sz text h mode names x.pr
  simp only[Nd.wt,wtOf,Nd.wtL];omega
 | @fn text x _ ih=>
  rw[show (Nd.mk tFn text 0 0 [] [] [x]).pr=_ from pr_fn (n:=0)]
  have h3:zC.size=1:=rfl
  have h4:zS.size=1:=rfl
  simp only[Nd.wt,wtOf,Nd.wtL,fnP,ByteArray.size_append];omega
 | @sel text n ms h hm=>
  rw[pr_sel]
  have h3:=selP_sz text h ms
  simp only[Nd.wt,wtOf,Nd.wtL];omega
theorem matP_mem {l:List MatD} {m:MatD} (h:m∈l):(matP m).size≤zae (l.map matP):=by
 induction l with
 | nil=>cases h
 | cons y l ih=>
  have e:zae ((y::l).map matP)=(matP y).size+zae (l.map matP):=by simp[zae]
  rcases List.mem_cons.1 h with h | h
  · rw[e,h];omega
  · have:=ih h;omega
theorem matP_take (l:List MatD) (k:Nat):zae ((l.take k).map matP)≤zae (l.map matP):=by
 have:=zdK (l.map matP) k
 rwa [←List.map_take] at this
theorem matP_eq (m:MatD):(matP m).size=m.n.size+(zb7 m.op).size+(zaO m.v).size:=by unfold matP;simp only[ByteArray.size_append]
def ordP (o:Int) (t:ByteArray):ByteArray:=if o=1 then t++tOAsc else if o=2 then t++tODesc else t
def limP (k:ByteArray) (n:Int) (t:ByteArray):ByteArray:=if 0≤n then t++(k++digB n.toNat) else t
def QryD.pr (q:QryD):ByteArray:=limP zcj q.offset (limP zbF q.limit (ordP q.order q.root.pr))
end Lp
