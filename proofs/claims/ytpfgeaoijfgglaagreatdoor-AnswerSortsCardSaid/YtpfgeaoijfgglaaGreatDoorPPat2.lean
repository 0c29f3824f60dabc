import Derived.Test.YtpfgeaoijfgglaaGreatDoorV40
set_option linter.unusedVariables false
namespace Lp
open Go
section
variable {s s' s1 s2 s3 s4 s5 z:Rd} {k:Int} {ts:List ByteArray} {t t' a b:ByteArray} {q:Bool} {x:TokD}
theorem pk_0 (h:s.l.length=0):s.pk=zbu:=by unfold Rd.pk;rw[jN.1 h];rfl
theorem pk_x (h:s.l[0]?=some x):s.pk=x:=by
 unfold Rd.pk;cases e:s.l with
 | nil=>rw[e] at h;cases h
 | cons y l=>rw[e] at h;injection h
theorem pk_len (hk:k≠0) (h:s.pk.k=k):0<s.l.length:=dV.2 (pk_ne hk h)
theorem is_k (h:s.is k ts=true):s.pk.k=k:=by unfold Rd.is at h;simp only[cY,decide_eq_true_eq] at h;exact h.1
theorem is_ne (hk:k≠0) (h:s.is k ts=true):0<s.l.length:=pk_len hk (is_k h)
theorem take_no (h:s.b=true\/s.is k ts=false):s.take k ts=(ByteArray.empty,false,s):=by unfold Rd.take;rw[if_pos h]
theorem tail_td (l:List TokD):(l.take l.length).drop 1=l.tail:=by rw[jK,List.drop_one]
theorem take_ok (hb:s.b=false) (hi:s.is k ts=true) (hx:s.l[0]?=some x):s.take k ts=(x.t,true,⟨(s.l.take s.l.length).drop 1,s.n,s.b⟩):=by
 unfold Rd.take;rw[if_neg (by rw[hb,hi];simp),pk_x hx,tail_td]
theorem any_no (h:s.b=true\/s.pk.k≠k):s.any k=(ByteArray.empty,⟨s.l,s.n,true⟩):=by unfold Rd.any;rw[if_pos h]
theorem any_ok (hb:s.b=false) (h:s.pk.k=k):s.any k=(s.pk.t,⟨(s.l.take s.l.length).drop 1,s.n,s.b⟩):=by
 unfold Rd.any;rw[if_neg (by rw[hb,h];simp),tail_td]
theorem must_of (e:(t',q,s')=s.take 5 [t]):(⟨s'.l,s'.n,s'.b||!q⟩:Rd)=s.must t:=by unfold Rd.must;rw[<-e]
theorem number_of (e:(t,s')=s.any k):(numV t,s')=s.number k:=by unfold Rd.number;rw[<-e]
theorem zeJ (e:s'=s.node):Stp 1 s s':=by rw[e];exact zcq s
theorem nd_e {c:Int} {p:Nd×Rd} {n:Nd} (e:(n,s')=p) (h:Stp c s p.2):Stp c s s':=by rw[<-e] at h;exact h
variable {f:Nat} {o l:List ByteArray}
theorem names_bad (hb:z.b=true):zbD (f+1) o z=(o,z):=by unfold zbD;rw[if_pos hb]
theorem names_go (hb:z.b=false) (e1:(t,s1)=z.any 1) (e2:(t',q,s2)=s1.take 5 [zbc]) (hq:q=true):zbD (f+1) o z=zbD f (o++[t]) s2:=by
 conv=>lhs;unfold zbD
 rw[if_neg (by rw[hb];simp),<-e1];simp only;rw[<-e2,if_pos hq]
theorem names_end (hb:z.b=false) (e1:(t,s1)=z.any 1) (e2:(t',q,s2)=s1.take 5 [zbc]) (hq:¬q=true):zbD (f+1) o z=(o++[t],s2):=by
 conv=>lhs;unfold zbD
 rw[if_neg (by rw[hb];simp),<-e1];simp only;rw[<-e2,if_neg hq]
theorem names_0 (e1:s1=s.must za5) (hi:s1.is 5 [za0]=true) (e2:s2=s1.must za0):([],s2)=s.names:=by
 unfold Rd.names;rw[<-e1,if_pos hi,e2]
theorem names_1 (e1:s1=s.must za5) (hi:¬s1.is 5 [za0]=true) (hf:zbD (s1.l.length+1) [] s1=(l,s2)) (e2:s3=s2.must za0):(l,s3)=s.names:=by
 unfold Rd.names;rw[<-e1,if_neg hi,hf,e2]
theorem mode_0 (e:(t,q,s1)=s.take 1 [a,b]) (hq:q=false):(0,[],s1)=s.mode a b:=by unfold Rd.mode;rw[<-e,if_pos hq]
theorem mode_1 (e:(t,q,s1)=s.take 1 [a,b]) (hq:¬q=false) (ht:t=a) (e2:(l,s2)=s1.names):(1,l,s2)=s.mode a b:=by unfold Rd.mode;rw[<-e,if_neg hq,if_pos ht,e2]
theorem mode_2 (e:(t,q,s1)=s.take 1 [a,b]) (hq:¬q=false) (ht:¬t=a) (e2:(l,s2)=s1.names):(2,l,s2)=s.mode a b:=by unfold Rd.mode;rw[<-e,if_neg hq,if_neg ht,e2]
variable {part:Rd->Nd×Rd} {n p:Nd} {m:Int} {sg:List ByteArray}
theorem level_stop (e:(t,q,s1)=z.take 5 sg) (hq:q=false):zcy part sg (f+1) n z=(n,s1):=by
 conv=>lhs;unfold zcy
 rw[<-e,if_pos hq]
theorem level_go (e:(t,q,s1)=z.take 5 sg) (hq:¬q=false) (e2:(m,l,s2)=s1.mode tOn tIgnoring) (e3:(p,s3)=part s2) (e4:s4=s3.node):zcy part sg (f+1) n z=zcy part sg f (.mk tBin t 0 m l [] [n,p]) s4:=by
 conv=>lhs;unfold zcy
 rw[<-e,if_neg hq];simp only;rw[<-e2];simp only;rw[<-e3,e4]
theorem level_of (e:(n,s1)=part s):zcy part sg (s1.l.length+1) n s1=s.level part sg:=by unfold Rd.level;rw[<-e]
variable {om:List MatD} {c v:ByteArray}
theorem braces_bad (hb:z.b=true):zba (f+1) om z=(om,z):=by unfold zba;rw[if_pos hb]
theorem braces_go (hb:z.b=false) (e1:(t,s1)=z.any 1) (e2:(c,q,s2)=s1.take 5 [tEq,tNe,zdL,zbN]) (e3:s3=⟨s2.l,s2.n,s2.b||!q⟩) (e4:(v,s4)=s3.any 3) {q':Bool} (e5:(t',q',s5)=s4.take 5 [zbc]) (hq:q'=true):
 zba (f+1) om z=zba f (om++[⟨t,opM c,v⟩]) s5:=by
 conv=>lhs;unfold zba
 rw[if_neg (by rw[hb];simp),<-e1];simp only;rw[<-e2];simp only;rw[<-e3,<-e4];simp only;rw[<-e5,if_pos hq]
theorem braces_end (hb:z.b=false) (e1:(t,s1)=z.any 1) (e2:(c,q,s2)=s1.take 5 [tEq,tNe,zdL,zbN]) (e3:s3=⟨s2.l,s2.n,s2.b||!q⟩) (e4:(v,s4)=s3.any 3) {q':Bool} (e5:(t',q',s5)=s4.take 5 [zbc]) (hq:¬q'=true):
 zba (f+1) om z=(om++[⟨t,opM c,v⟩],s5):=by
 conv=>lhs;unfold zba
 rw[if_neg (by rw[hb];simp),<-e1];simp only;rw[<-e2];simp only;rw[<-e3,<-e4];simp only;rw[<-e5,if_neg hq]
variable (rm:List MatD->Bool)
theorem braces_0 (e1:s1=s.must zcS) (hi:s1.is 5 [zcE]=true) (e2:s2=s1.must zcE):([],s2)=s.braces rm:=by
 unfold Rd.braces;rw[<-e1,if_pos hi,e2]
theorem braces_1 (e1:s1=s.must zcS) (hi:¬s1.is 5 [zcE]=true) (hf:zba (s1.l.length+1) [] s1=(om,s2)) (e2:s3=s2.must zcE):(om,(⟨s3.l,s3.n,s3.b||!rm om⟩:Rd))=s.braces rm:=by
 unfold Rd.braces;rw[<-e1,if_neg hi,hf,e2]
theorem braces_e {ms:List MatD} (e:(ms,s')=s.braces rm):Stp 0 s s':=by have h:=braces_stp rm s;rw[<-e] at h;exact h
theorem selName_1 (h:s.pk.k=1/\ze5 s.pk.t=false) (e:(t,s1)=s.any 1):(t,s1)=s.selName:=by unfold Rd.selName;rw[if_pos h,e]
theorem selName_0 (h:¬(s.pk.k=1/\ze5 s.pk.t=false)):(ByteArray.empty,s)=s.selName:=by unfold Rd.selName;rw[if_neg h]
theorem selMs_1 (h:s.is 5 [zcS]=true) {ms:List MatD} (e:(ms,s1)=s.braces rm):(ms,s1)=s.selMs rm t:=by unfold Rd.selMs;rw[if_pos h,e]
theorem selMs_0 (h:¬s.is 5 [zcS]=true):([],(⟨s.l,s.n,s.b||decide (t=ByteArray.empty)⟩:Rd))=s.selMs rm t:=by unfold Rd.selMs;rw[if_neg h]
theorem selWin_1 (e:(t,q,s1)=s.take 5 [tSq]) (hq:q=true) {w:Int} (e2:(w,s2)=s1.number 4) (e3:s3=s2.must tSqE):(w,s3)=s.selWin:=by unfold Rd.selWin;rw[<-e,if_pos hq,<-e2,e3]
theorem selWin_0 (e:(t,q,s1)=s.take 5 [tSq]) (hq:¬q=true):(0,s1)=s.selWin:=by unfold Rd.selWin;rw[<-e,if_neg hq]
theorem selector_of {ms:List MatD} {w:Int} (e1:(t,s1)=s.selName) (e2:(ms,s2)=s1.selMs rm t) (e3:(w,s3)=s2.selWin) (e4:s4=s3.node):(Nd.mk nSel t w 0 [] ms [],s4)=s.selector rm:=by
 unfold Rd.selector;simp only;rw[<-e1];simp only;rw[<-e2];simp only;rw[<-e3,e4]
variable {ex:Rd->Nd×Rd}
theorem aggr_1 {s6 s7:Rd} {w:Int} (e1:(t,s1)=s.any 1) (e2:(m,l,s2)=s1.mode tBy zdJ) (e3:s3=s2.must za5) (hn:zbV t=true) (e4:(w,s4)=s3.number 2) (e5:s5=s4.must zbc) (e6:(n,s6)=ex s5) {s8:Rd} (e7:s7=s6.must za0) (e8:s8=s7.node):
 (Nd.mk tAgg t w m l [] [n],s8)=s.aggr ex:=by
 unfold Rd.aggr;simp only;rw[<-e1];simp only;rw[<-e2];simp only;rw[if_pos hn,if_pos hn,<-e3,<-e4];simp only;rw[<-e5,<-e6,e8,e7]
theorem aggr_0 {s6 s7:Rd} (e1:(t,s1)=s.any 1) (e2:(m,l,s2)=s1.mode tBy zdJ) (e3:s3=s2.must za5) (hn:¬zbV t=true) (e6:(n,s6)=ex s3) {s8:Rd} (e7:s7=s6.must za0) (e8:s8=s7.node):
 (Nd.mk tAgg t 0 m l [] [n],s8)=s.aggr ex:=by
 unfold Rd.aggr;simp only;rw[<-e1];simp only;rw[<-e2];simp only;rw[if_neg hn,if_neg hn,<-e3];simp only;rw[<-e6,e8,e7]
theorem prim_bad (hb:s.b=true):(noNd,s)=s.prim rm ex:=by unfold Rd.prim;rw[if_pos hb]
theorem prim_num (hb:¬s.b=true) (hk:s.pk.k=2) {w:Int} (e:(w,s1)=s.number 2) (e2:s2=s1.node):(Nd.mk tNum ByteArray.empty w 0 [] [] [],s2)=s.prim rm ex:=by
 unfold Rd.prim;rw[if_neg hb,if_pos hk,<-e,e2]
theorem prim_brk (hb:¬s.b=true) (hk:¬s.pk.k=2) (hi:s.is 5 [za5]=true) (e1:s1=s.must za5) (e2:(n,s2)=ex s1) (e3:s3=s2.must za0):(n,s3)=s.prim rm ex:=by
 unfold Rd.prim;rw[if_neg hb,if_neg hk,if_pos hi,<-e1,<-e2,e3]
theorem prim_agg (hb:¬s.b=true) (hk:¬s.pk.k=2) (hi:¬s.is 5 [za5]=true) (ha:s.pk.k=1/\hasN aggN s.pk.t=true) (e:(n,s1)=s.aggr ex):(n,s1)=s.prim rm ex:=by
 unfold Rd.prim;rw[if_neg hb,if_neg hk,if_neg hi,if_pos ha,e]
theorem prim_fn (hb:¬s.b=true) (hk:¬s.pk.k=2) (hi:¬s.is 5 [za5]=true) (ha:¬(s.pk.k=1/\hasN aggN s.pk.t=true)) (hf:s.pk.k=1/\hasN fnN s.pk.t=true) (e1:(t,s1)=s.any 1) (e2:s2=s1.must za5) (e3:(n,s3)=ex s2) (e4:s4=s3.node) (e5:s5=s4.must za0):
 (Nd.mk tFn t 0 0 [] [] [n],s5)=s.prim rm ex:=by
 unfold Rd.prim;rw[if_neg hb,if_neg hk,if_neg hi,if_neg ha,if_pos hf];simp only;rw[<-e1];simp only;rw[<-e2,<-e3,e5,e4]
theorem prim_sel (hb:¬s.b=true) (hk:¬s.pk.k=2) (hi:¬s.is 5 [za5]=true) (ha:¬(s.pk.k=1/\hasN aggN s.pk.t=true)) (hf:¬(s.pk.k=1/\hasN fnN s.pk.t=true)) (e:(n,s1)=s.selector rm):(n,s1)=s.prim rm ex:=by
 unfold Rd.prim;rw[if_neg hb,if_neg hk,if_neg hi,if_neg ha,if_neg hf,e]
theorem unary_1 (e:(t,q,s1)=s.take 5 [zeF]) (hq:q=true) (e2:(n,s2)=zbL rm ex f s1) (e3:s3=s2.node):(Nd.mk tNeg ByteArray.empty 0 0 [] [] [n],s3)=zbL rm ex (f+1) s:=by
 unfold zbL;rw[<-e,if_pos hq];simp only;rw[<-e2,e3]
theorem unary_0 (e:(t,q,s1)=s.take 5 [zeF]) (hq:¬q=true) (e2:(n,s2)=s1.prim rm ex):(n,s2)=zbL rm ex (f+1) s:=by
 unfold zbL;rw[<-e,if_neg hq,e2]
theorem bound_0 (e:(t,q,s1)=s.take 1 [a]) (hq:q=false):(-1,s1)=s.bound a:=by unfold Rd.bound;rw[<-e,if_pos hq]
theorem bound_1 (e:(t,q,s1)=s.take 1 [a]) (hq:¬q=false) {w:Int} (e2:(w,s2)=s1.number 2):(w,(⟨s2.l,s2.n,s2.b||decide (2000<w)⟩:Rd))=s.bound a:=by unfold Rd.bound;rw[<-e,if_neg hq,<-e2]
theorem bound_e {w:Int} (e:(w,s')=s.bound a):Stp 0 s s':=by
 have h:s'=(s.bound a).2:=congrArg Prod.snd e;rw[h];unfold Rd.bound;split
 · exact zag s 1 _
 exact(((zag s 1 [a]).trans (zbC _ 2)).le (by omega)).bad _
theorem order_0 (e:(t,q,s1)=s.take 1 [zdK]) (hq:¬q=true):(0,s1)=s.order:=by
 unfold Rd.order;simp only;rw[<-e,if_pos (by simpa using hq)]
theorem order_2 (e:(t,q,s1)=s.take 1 [zdK]) (hq:q=true) {q':Bool} (e2:(t',q',s2)=s1.take 1 [zfh]) (hq':q'=true):(2,s2)=s.order:=by
 unfold Rd.order;simp only;rw[<-e,if_neg (by simp[hq])];simp only;rw[<-e2,if_pos hq']
theorem order_1 (e:(t,q,s1)=s.take 1 [zdK]) (hq:q=true) {q':Bool} (e2:(t',q',s2)=s1.take 1 [zfh]) (hq':¬q'=true) (e3:(c,s3)=s2.any 1):(1,(⟨s3.l,s3.n,s3.b||decide (c≠tAsc)⟩:Rd))=s.order:=by
 unfold Rd.order;simp only;rw[<-e,if_neg (by simp[hq])];simp only;rw[<-e2,if_neg hq',<-e3]
end
end Lp
set_option linter.unusedSimpArgs false
set_option maxHeartbeats 4000000
set_option maxRecDepth 100000
namespace Lp
open Go Go.RowKit Go.Proofs
variable {u:Int} {ty:TypeId} {x:Operand}
theorem infz_9:IzP Tryz.prog 9 (.string ByteArray.empty) 1 16:=za3 (by kernel_rfl)
theorem und_56:Tryz.prog.underlying 56=some (.slice 9):=by kernel_rfl
abbrev RB (g:Nat) (s:Rd):Hp:=.bx g 94 (.agg [.sh 3 (s.l.map TokD.d),dI s.n,dB s.b])
def NdR (g:Nat) (ev es:Value) (p:Nd×Rd):D->List Hp->Prop:=λr H'=>∃ op text n mode names ms kids s',(Nd.mk op text n mode names ms kids,s')=p/\r=.agg [.s op,.s text,dI n,dI mode,.sh 1 (names.map D.s),.sh 3 (ms.map MatD.d),.sh 7 (Nd.ds kids)]/\H'=[RB g s',HPow,HErr ev,HSyn es]
theorem peek_c (g:Nat) (s:Rd) (hw:s.n+2*(s.l.length:Int)<=3000000) (hn:0<=s.n) (hT:TOk s.l):
 CD Tryz.prog 76 [RB g s] [dP g 0] (λr H'=>r=TokD.d s.pk/\H'=[RB g s]):=by
 refine tZ Tryz.func76 O O (λC=>?_);refine g' 2 O ?_;refine tA O (λg1=>?_);refine gQ 9 [1] O O (tP O (zJ (n:=s.l.length) O Tryz.runUnderlying89 (by simp only[lm,lc,ln])) (g' 3 O ?_));refine tD O (λhc2=>?_) (λhc2=>?_)
 · refine g' 2 O (tP O (zr [] [] (zv:=(.agg #[(.int .i64 0),(.int .i64 0),(.string ByteArray.empty)])) O O (.nil) (Tryz.runUnderlying119) Tryz.zeroValue119 zch ⟨O,O,O,trivial⟩ O) (gQ 5 [0] O O (mR 1 O ?_)));exact tRs O Tryz.results76 (.cons (zf (zI (X:=.agg [dI 0,dI 0,.v (.string ByteArray.empty)]) (d:=.agg [dI 0,dI 0,.v (.string ByteArray.empty)]) (i:=1) O O Tryz.isAgg119 Tryz.sizeOf119 O O) ((Cv.agg (gc (gc (.cons (cS) .nil)))).trans (wO (congrArg TokD.d (show (TokD.mk 0 0 ByteArray.empty)=s.pk from(pk_0 (by omega)).symm))))) .nil) O (mB 1 O) ⟨O,O⟩
 refine gQ 8 [1] O O ?_;obtain ⟨x1,hx1⟩:=zj s.l 0 (by omega);refine tP O (zi (k:=0) O O Tryz.runUnderlying89 Tryz.sizeOf119 (by first | rfl | omega) (ze hx1)) (gQ 5 [0] O O (mR 1 O ?_));exact tRs O Tryz.results76 (.cons (zf (zI (X:=TokD.d x1) (d:=TokD.d x1) (i:=1) O O Tryz.isAgg119 Tryz.sizeOf119 O O) ((wN).trans (wO (congrArg TokD.d (show x1=s.pk from(pk_x hx1).symm))))) .nil) O (mB 1 O) ⟨O,O⟩
theorem is_c (g:Nat) (s:Rd) (k:Int) (ts:List ByteArray) (hw:s.n+2*(s.l.length:Int)<=3000000) (hn:0<=s.n) (hT:TOk s.l):
 CD Tryz.prog 75 [RB g s] [dP g 0,dI k,.sh 1 (ts.map D.s)] (λr H'=>r=dB (s.is k ts)/\H'=[RB g s]):=by
 refine tZ Tryz.func75 O O (λC=>?_);refine T.bd 2 O (λbd2=>?_);have nl2:=zz bd2;refine g' 8 O (tX [0] O O acs (peek_c g s (by omega) (by omega) hT) ?_);rintro _ _ ⟨rfl,rfl⟩;refine tA O (λg2=>?_);refine gQ 10 [0,0] O O ?_;refine tAnd 4 4 (c:=hasN ts s.pk.t) O O O O O O (λhb3 nx4=>?_) ?_
 · have hf5:=of_decide_eq_true hb3;refine gQ 3 [0] O O (tW O acs (zcs ts s.pk.t) ?_);exact nx4 _ O O (kx 4 O O)
 refine g' 4 O (mR 1 O ?_);exact tRs O Tryz.results75 (.cons (zf (zd O) (wO (congrArg dB (show (decide (s.pk.k=k)&&hasN ts s.pk.t)=s.is k ts from O)))) .nil) O (mB 1 O) ⟨O,O⟩
theorem zcR (g:Nat) (s:Rd) (k:Int) (ts:List ByteArray) (hw:s.n+2*(s.l.length:Int)<=3000000) (hn:0<=s.n) (hT:TOk s.l) (hk:k≠0):
 CD Tryz.prog 48 [RB g s] [dP g 0,dI k,.sh 1 (ts.map D.s)] (λr H'=>∃ t q s',(t,q,s')=s.take k ts/\r=.tup [.s t,dB q]/\H'=[RB g s']):=by
 refine tZ Tryz.func48 O O (λC=>?_);refine T.bd 2 O (λbd2=>?_);have nl2:=zz bd2;refine gQ 14 [0] O O ?_;refine tOr 4 5 (c:=!((s.is k ts))) O O O O O O (λhb1 nx2=>?_) ?_
 · refine g' 3 O (tX [0] O O acs (is_c g s k ts (by omega) (by omega) hT) ?_);rintro _ _ ⟨rfl,rfl⟩;refine g' 1 O ?_;exact nx2 _ O O (kx 5 O O)
 refine g' 2 O ?_;refine tC O (λhc4=>?_) (λhc4=>?_)
 · simp only[bX,bJ] at hc4;have hor:s.b=true\/s.is k ts=false:=(by simpa using hc4);refine g' 8 O ?_;exact tRs O Tryz.results48 (.cons (zf (zd O) (cS)) (.cons (zd O) .nil)) O (mB 1 O) ⟨_,_,⟨s.l,s.n,s.b⟩,(take_no hor).symm,O,O⟩
 simp only[bX,bJ] at hc4;have hand:s.b=false/\s.is k ts=true:=by simpa using hc4
 have hne:=is_ne hk hand.2;refine gQ 8 [0] O O ?_;obtain ⟨x1,hx1⟩:=zj s.l 0 (by omega);refine tP O (zi (k:=0) O O Tryz.runUnderlying89 Tryz.sizeOf119 (by first | rfl | omega) (ze hx1)) (g' 1 O ?_);refine tA O (λg5=>?_);refine gQ 10 [0,1] O O (tP O ((zdd (a:=1) (b:=s.l.length) O O O (by first | rfl | (show _=_;(try simp only[lm]);omega) | exact cP _) (by first | rfl | (show _=_;(try simp only[lm]);omega) | exact cP _) Tryz.runUnderlying89 Tryz.sizeOf119 (by omega) (by simp only[lm];omega)).cv (wO (by rw[<-jF,<-jJ]))) (gQ 14 [1,0] O O (mR 1 O ?_)));exact tR O (mB 1 O) ⟨_,_,⟨((s.l.take s.l.length).drop 1),s.n,s.b⟩,(take_ok hand.1 hand.2 hx1).symm,O,O⟩
theorem zeV (g:Nat) (s:Rd) (k:Int) (hw:s.n+2*(s.l.length:Int)<=3000000) (hn:0<=s.n) (hT:TOk s.l) (hk:k≠0):
 CD Tryz.prog 49 [RB g s] [dP g 0,dI k] (λr H'=>∃ t s',(t,s')=s.any k/\r=.s t/\H'=[RB g s']):=by
 refine tZ Tryz.func49 O O (λC=>?_);refine g' 8 O (tX [0] O O acs (peek_c g s (by omega) (by omega) hT) ?_);rintro _ _ ⟨rfl,rfl⟩;refine tA O (λg2=>?_);refine gQ 11 [0,1] O O ?_;refine tOr 4 4 (c:=decide (s.pk.k≠k)) O O O O O O (λhb3 nx4=>?_) ?_
 · refine gQ 4 [0] O O ?_;exact nx4 _ O O (kx 4 O O)
 refine g' 2 O ?_;refine tC O (λhc5=>?_) (λhc5=>?_)
 · simp only[bX,bJ] at hc5;have hor:s.b=true\/s.pk.k≠k:=(by simpa using hc5);refine gQ 15 [1] O O (mR 1 O ?_);exact tRs O Tryz.results49 (.cons (zf (zd O) (cS)) .nil) O (mB 1 O) ⟨_,⟨s.l,s.n,true⟩,(any_no hor).symm,O,O⟩
 simp only[bX,bJ] at hc5;have hand:s.b=false/\s.pk.k=k:=by simpa using hc5
 have hne:=pk_len hk hand.2;refine gQ 9 [1] O O (tP O ((zdd (a:=1) (b:=s.l.length) O O O (by first | rfl | (show _=_;(try simp only[lm]);omega) | exact cP _) (by first | rfl | (show _=_;(try simp only[lm]);omega) | exact cP _) Tryz.runUnderlying89 Tryz.sizeOf119 (by omega) (by simp only[lm];omega)).cv (wO (by rw[<-jF,<-jJ]))) (gQ 13 [1,0] O O (mR 1 O ?_)));exact tR O (mB 1 O) ⟨_,⟨((s.l.take s.l.length).drop 1),s.n,s.b⟩,(any_ok hand.1 hand.2).symm,O,O⟩
theorem zbr (g:Nat) (s:Rd) (t:ByteArray) (hw:s.n+2*(s.l.length:Int)<=3000000) (hn:0<=s.n) (hT:TOk s.l):
 CD Tryz.prog 192 [RB g s] [dP g 0,.s t] (λr H'=>∃ s',s'=s.must t/\r=.tup []/\H'=[RB g s']):=by
 refine tZ Tryz.func192 O O (λC=>?_);refine T.bd 1 O (λbd1=>?_);have sz1:t.size<=9223372036854775807:=bd1;refine g' 4 O (tE O (Qu.ef (d:=.sh 1 ([t].map D.s)) (zn [.tmp 8] O O (.cons CellD.s .nil) O Tryz.runUnderlying56 Tryz.sizeOf9 Tryz.zeroValue9 O O O O)) ?_);rintro _ _ ⟨rfl,rfl⟩;refine tX [0] O O acs (zcR g s 5 [t] (by omega) (by omega) hT (by decide)) ?_;rintro _ _ ⟨t1,q1,s1,e1,rfl,rfl⟩;obtain ⟨ka1,kb1,kc1,hT1⟩:=(zcQ e1).out hT;have kz1:=zcP e1 hT;refine gQ 14 [0] O O ?_;refine tOr 5 2 (c:=!q1) O O O O O O (λhb2 nx3=>?_) ?_
 · refine g' 2 O ?_;exact nx3 _ O O (kx 2 O O)
 refine gQ 4 [0] O O ?_;exact tR O (mB 1 O) ⟨⟨s1.l,s1.n,(s1.b||!q1)⟩,must_of e1,O,O⟩
theorem zeK (g:Nat) (s:Rd) (x0 x1 x2 x3 x4 x5 x6:D) (hw:s.n+2*(s.l.length:Int)<=3000000) (hn:0<=s.n) (hT:TOk s.l):
 CD Tryz.prog 112 [RB g s] [dP g 0,.agg [x0,x1,x2,x3,x4,x5,x6]] (λr H'=>∃ s',s'=s.node/\r=.agg [x0,x1,x2,x3,x4,x5,x6]/\H'=[RB g s']):=by
 refine tZ Tryz.func112 O O (λC=>?_);refine T.bd 1 O (λbd1=>?_);refine g' 2 O ?_;refine tA O (λg1=>?_);refine tA O (λg2=>?_);refine gQ 8 [2] O O (tP O (zw (c:=(s.n+1)) O O (zk (by omega) (by omega))) (gQ 13 [2,2] O O ?_));refine tOr 5 5 (c:=decide ((200:Int)<(s.n+1))) O O O O O O (λhb3 nx4=>?_) ?_
 · refine gQ 5 [2] O O ?_;exact nx4 _ O O (kx 5 O O)
 refine gQ 12 [2,1,0] O O (mR 2 O ?_);exact tRs O Tryz.results112 (.cons (zI (i:=1) O O Tryz.isAgg64 Tryz.sizeOf64 O O) .nil) O (mB 1 O) ⟨⟨s.l,(s.n+1),(s.b||decide ((200:Int)<(s.n+1)))⟩,O,O,O⟩
theorem rdnum_c (g:Nat) (s:Rd) (k:Int) (ev es:Value) (hev:EvOk ev) (hes:EvOk es) (hw:s.n+2*(s.l.length:Int)<=3000000) (hn:0<=s.n) (hT:TOk s.l) (hk:k=2\/k=4):
 CD Tryz.prog 77 [RB g s,HPow,HErr ev,HSyn es] [dP g 0,dI k] (λr H'=>∃ v s',(v,s')=s.number k/\r=dI v/\H'=[RB g s',HPow,HErr ev,HSyn es]):=by
 refine tZ Tryz.func77 O O (λC=>?_);have hk0:k≠0:=by omega
 refine g' 9 O (tX [0] O O acs (zeV g s k (by omega) (by omega) hT hk0) ?_);rintro _ _ ⟨t1,s1,e1,rfl,rfl⟩;obtain ⟨ka1,kb1,kc1,hT1⟩:=(zeU e1).out hT;have kz1:=zeT e1 hT;refine tX [2,2] O O acs (atoi_e t1 ev es hev hes (any_num e1 hk hT)) ?_;rintro _ _ ⟨ax,rfl,rfl⟩;refine g' 14 O (mR 1 O (mR 1 O (mR 3 O (mR 3 O ?_))));exact tR O (mB 4 O) ⟨_,⟨s1.l,s1.n,s1.b⟩,number_of e1,O,O⟩
theorem names_c (g:Nat) (s:Rd) (hw:s.n+2*(s.l.length:Int)<=3000000) (hn:0<=s.n) (hT:TOk s.l):
 CD Tryz.prog 154 [RB g s] [dP g 0] (λr H'=>∃ l s',(l,s')=s.names/\r=.sh 1 (l.map D.s)/\H'=[RB g s']):=by
 refine tZ Tryz.func154 O O (λC=>?_);refine g' 13 O (tX [0] O O (ga (.cons (ArgC.cv cS) .nil)) (zbr g s (⟨#[40]⟩:ByteArray) (by omega) (by omega) hT) ?_);rintro _ _ ⟨s1,e1,rfl,rfl⟩;obtain ⟨ka1,kb1,kc1,hT1⟩:=(zbq e1).out hT;refine g' 6 O (tE O (Qu.ef (d:=.sh 1 ([(⟨#[41]⟩:ByteArray)].map D.s)) ((zn [.const (.string ⟨#[41]⟩)] O O (.cons (CellD.v O) .nil) O Tryz.runUnderlying56 Tryz.sizeOf9 Tryz.zeroValue9 O O O O).cv (mA (.cons cS .nil)))) ?_);rintro _ _ ⟨rfl,rfl⟩;refine tX [0] O O acs (is_c g s1 5 [(⟨#[41]⟩:ByteArray)] (by omega) (by omega) hT1) ?_;rintro _ _ ⟨rfl,rfl⟩;refine g' 2 O ?_;refine tC O (λhc3=>?_) (λhc3=>?_)
 · refine g' 3 O (tX [0] O O (ga (.cons (ArgC.cv cS) .nil)) (zbr g s1 (⟨#[41]⟩:ByteArray) (by omega) (by omega) hT1) ?_);rintro _ _ ⟨s4,e4,rfl,rfl⟩;obtain ⟨ka4,kb4,kc4,hT4⟩:=(zbq e4).out hT1;refine g' 9 O ?_;exact tRs O Tryz.results154 (.cons (zf (zd O) (Cv.nil)) .nil) O (mB 1 O) ⟨[],⟨s4.l,s4.n,s4.b⟩,names_0 e1 hc3 e4,O,O⟩
 refine g' 4 O (tl4 (λ(a_:Nat) (b_:Rd) (c_:Value) (d_:List ByteArray)=>[(0,dP g 0),(2,dZ),(3,.ov c_)]) (λa_ b_ c_ d_=>[.sl c_ 1 9 (d_.map D.s),RB g b_]) (λa_ b_ c_ d_=>(b_.l.length<a_)/\(zbD a_ d_ b_=zbD (s1.l.length+1) [] s1)/\(b_.n+2*(b_.l.length:Int)<=3000000)/\(0<=b_.n)/\(TOk b_.l)/\(d_.length+b_.l.length<=1500000)) (λa_ b_ c_ d_=>a_) (s1.l.length+1) s1 (.slice none 0 0) [] O ⟨sk O,sk O,sc O (Cv.ov O),trivial⟩ (HSub.nil 1 9) ⟨Nat.lt_succ_self _,O,(by omega),(by omega),hT1,(by show 0+s1.l.length<=_;omega)⟩ ?_);rintro f z ov o ⟨hlf,hf,hzw,hzn,hz,hol⟩;obtain ⟨f,rfl⟩:∃ k,f=k+1:=⟨f-1,by omega⟩;refine gQ 10 [1] O O ?_;refine tC O (λhc5=>?_) (λhc5=>?_)
 · simp only[bX,bJ] at hc5;have hbf:z.b=false:=(by simpa using hc5);refine g' 7 O (tX [1] O O acs (zeV g z 1 (by omega) (by omega) hz (by decide)) ?_);rintro _ _ ⟨t6,s6,e6,rfl,rfl⟩;obtain ⟨ka6,kb6,kc6,hT6⟩:=(zeU e6).out hz;have kz6:=zeT e6 hz;refine tE O (Qu.ef (d:=.sh 1 ([t6].map D.s)) (zn [.tmp 20] O O (.cons CellD.s .nil) O Tryz.runUnderlying56 Tryz.sizeOf9 Tryz.zeroValue9 O O O O)) ?_;rintro _ _ ⟨rfl,rfl⟩;refine tE O (zx (f:=D.s) (l:=o) (l':=[t6]) (i:=1) O O O (SrcD.sh) und_56 infz_9 O O (by unfold maxLen;(try simp only[la,lc,ln,lm,lt',ld,ls,lr]);omega) (by (try simp only[la,lc,ln,lm,lt',ld,ls,lr]);omega)) ?_;rintro _ _ ⟨v7,rfl,rfl⟩;refine g' 6 O (tE O (Qu.ef (d:=.sh 1 ([(⟨#[44]⟩:ByteArray)].map D.s)) ((zn [.const (.string ⟨#[44]⟩)] O O (.cons (CellD.v O) .nil) O Tryz.runUnderlying56 Tryz.sizeOf9 Tryz.zeroValue9 O O O O).cv (mA (.cons cS .nil)))) ?_);rintro _ _ ⟨rfl,rfl⟩;refine tX [0] O O acs (zcR g s6 5 [(⟨#[44]⟩:ByteArray)] (by omega) (by omega) hT6 (by decide)) ?_;rintro _ _ ⟨t8,q8,s8,e8,rfl,rfl⟩;obtain ⟨ka8,kb8,kc8,hT8⟩:=(zcQ e8).out hT6;have kz8:=zcP e8 hT6;refine g' 13 O ?_;refine tC O (λhc9=>?_) (λhc9=>?_)
   · simp only[bX,bJ] at hc9;have hff:=hf.symm.trans (names_end hbf e6 e8 (by simpa using hc9));refine g' 8 O (tX [0] O O (ga (.cons (ArgC.cv cS) .nil)) (zbr g s8 (⟨#[41]⟩:ByteArray) (by omega) (by omega) hT8) ?_);rintro _ _ ⟨s10,e10,rfl,rfl⟩;obtain ⟨ka10,kb10,kc10,hT10⟩:=(zbq e10).out hT8;refine g' 9 O (mR 1 O ?_);refine mO (Mv.freeze (K':=[(0,dP g 0),(2,.sh 1 ((o++[t6]).map D.s)),(3,.sh 1 ((o++[t6]).map D.s)),(4,.s t8),(5,dB q8),(13,dP g 0),(14,dP g 0),(15,dP g 2),(16,dB z.b),(17,dB (!z.b)),(18,.ov ov),(19,dP g 0),(20,.s t6),(21,.sh 1 ([t6].map D.s)),(22,.sh 1 ((o++[t6]).map D.s)),(23,.tup [.s t8,dB q8]),(24,dP g 0),(25,.sh 1 ([(⟨#[44]⟩:ByteArray)].map D.s)),(26,.tup [.s t8,dB q8]),(27,.s t8),(28,dB q8),(29,dB q8),(30,dB (!q8)),(31,dP g 0),(32,.tup []),(33,.sh 1 ((o++[t6]).map D.s))]) [.sl v7 1 9 ((o++[t6]).map D.s)] (H1:=[RB g s10]) (H1':=[RB g s10]) ⟨⟨_,O,w6⟩,⟨_,O,w7 (j:=0) O O⟩,⟨_,O,w7 (j:=0) O O⟩,⟨_,O,w6⟩,⟨_,O,w6⟩,⟨_,O,w6⟩,⟨_,O,w6⟩,⟨_,O,w6⟩,⟨_,O,w6⟩,⟨_,O,w6⟩,⟨_,O,w6⟩,⟨_,O,w6⟩,⟨_,O,w6⟩,⟨_,O,w6⟩,⟨_,O,w7 (j:=0) O O⟩,⟨_,O,w6⟩,⟨_,O,w6⟩,⟨_,O,w6⟩,⟨_,O,w6⟩,⟨_,O,w6⟩,⟨_,O,w6⟩,⟨_,O,w6⟩,⟨_,O,w6⟩,⟨_,O,w6⟩,⟨_,O,w6⟩,⟨_,O,w7 (j:=0) O O⟩,trivial⟩ (.same .nil)) ?_;exact tR O (mB 1 O) ⟨(o++[t6]),⟨s10.l,s10.n,s10.b⟩,names_1 e1 (by simpa using hc3) hff e10,O,O⟩
   simp only[bX,bJ] at hc9;obtain ⟨ky,_⟩:=take_y e8 (by decide) (by simpa using hc9);refine g' 2 O (mR 1 O ?_);exact tp4 f s8 v7 (o++[t6]) (sa O) wQ ⟨by omega,(names_go hbf e6 e8 (by simpa using hc9)).symm.trans hf,by omega,by omega,hT8,by simp only[la,cR];omega⟩ (by omega)
 simp only[bX,bJ] at hc5;have hff:=hf.symm.trans (names_bad (by simpa using hc5));refine g' 8 O (tX [1] O O (ga (.cons (ArgC.cv cS) .nil)) (zbr g z (⟨#[41]⟩:ByteArray) (by omega) (by omega) hz) ?_);rintro _ _ ⟨s11,e11,rfl,rfl⟩;obtain ⟨ka11,kb11,kc11,hT11⟩:=(zbq e11).out hz;refine g' 9 O (mR 1 O (mO (Mv.freeze (K':=[(0,dP g 0),(2,.sh 1 (o.map D.s)),(3,.sh 1 (o.map D.s)),(13,dP g 0),(14,dP g 0),(15,dP g 2),(16,dB z.b),(17,dB (!z.b)),(31,dP g 0),(32,.tup []),(33,.sh 1 (o.map D.s))]) [.sl ov 1 9 (o.map D.s)] (H1:=[RB g s11]) (H1':=[RB g s11]) ⟨⟨_,O,w6⟩,⟨_,O,w7 (j:=0) O O⟩,⟨_,O,w7 (j:=0) O O⟩,⟨_,O,w6⟩,⟨_,O,w6⟩,⟨_,O,w6⟩,⟨_,O,w6⟩,⟨_,O,w6⟩,⟨_,O,w6⟩,⟨_,O,w6⟩,⟨_,O,w7 (j:=0) O O⟩,trivial⟩ (.same .nil)) ?_));exact tR O (mB 1 O) ⟨o,⟨s11.l,s11.n,s11.b⟩,names_1 e1 (by simpa using hc3) hff e11,O,O⟩
theorem mode_c (g:Nat) (s:Rd) (a b:ByteArray) (hw:s.n+2*(s.l.length:Int)<=3000000) (hn:0<=s.n) (hT:TOk s.l):
 CD Tryz.prog 111 [RB g s] [dP g 0,.s a,.s b] (λr H'=>∃ m l s',(m,l,s')=s.mode a b/\r=.tup [dI m,.sh 1 (l.map D.s)]/\H'=[RB g s']):=by
 refine tZ Tryz.func111 O O (λC=>?_);refine T.bd 1 O (λbd1=>?_);have sz1:a.size<=9223372036854775807:=bd1;refine T.bd 2 O (λbd2=>?_);have sz2:b.size<=9223372036854775807:=bd2;refine g' 11 O (tE O (Qu.ef (d:=.sh 1 ([a,b].map D.s)) (zn [.tmp 12,.tmp 13] O O (.cons CellD.s (.cons CellD.s .nil)) O Tryz.runUnderlying56 Tryz.sizeOf9 Tryz.zeroValue9 O O O O)) ?_);rintro _ _ ⟨rfl,rfl⟩;refine tX [0] O O acs (zcR g s 1 [a,b] (by omega) (by omega) hT (by decide)) ?_;rintro _ _ ⟨t1,q1,s1,e1,rfl,rfl⟩;obtain ⟨ka1,kb1,kc1,hT1⟩:=(zcQ e1).out hT;have kz1:=zcP e1 hT;refine g' 16 O ?_;refine tC O (λhc2=>?_) (λhc2=>?_)
 · simp only[bX,bJ] at hc2;refine g' 9 O ?_;exact tRs O Tryz.results111 (.cons (zd O) (.cons (zf (zd O) (Cv.nil)) .nil)) O (mB 1 O) ⟨0,[],⟨s1.l,s1.n,s1.b⟩,mode_0 e1 (by simpa using hc2),O,O⟩
 simp only[bX,bJ] at hc2;refine g' 8 O ?_;refine tD O (λhc3=>?_) (λhc3=>?_)
 · refine g' 3 O (tX [0] O O acs (names_c g s1 (by omega) (by omega) hT1) ?_);rintro _ _ ⟨l4,s4,e4,rfl,rfl⟩;obtain ⟨ka4,kb4,kc4,hT4⟩:=(names_e e4).out hT1;refine g' 7 O ?_;exact tR O (mB 1 O) ⟨1,l4,⟨s4.l,s4.n,s4.b⟩,mode_1 e1 (by simpa using hc2) hc3 e4,O,O⟩
 refine g' 6 O (tX [0] O O acs (names_c g s1 (by omega) (by omega) hT1) ?_);rintro _ _ ⟨l5,s5,e5,rfl,rfl⟩;obtain ⟨ka5,kb5,kc5,hT5⟩:=(names_e e5).out hT1;refine g' 5 O ?_;exact tR O (mB 1 O) ⟨2,l5,⟨s5.l,s5.n,s5.b⟩,mode_2 e1 (by simpa using hc2) hc3 e5,O,O⟩
theorem cv_21_5 {a:Int} (h:0<=a/\a<=255):∀ w,(convert 21 5 (.int .i32 a)).run Tryz.prog w=.ok (.int .u8 a) w:=λw=>by
 have e:IntKind.u8.wrap a=a:=by simp[IntKind.wrap,IntKind.bits,IntKind.signed];omega
 simp[convert,run_underlying (show Tryz.prog.underlying 21=some _ by kernel_rfl),run_underlying (show Tryz.prog.underlying 5=some _ by kernel_rfl),Conv.intToInt,e]
abbrev tSig:ByteArray:=⟨#[42,43,63,124,41,93]⟩
theorem ext_idxB (s:ByteArray) (u:Int) (w:World):(callFunc 325 #[.string s,.int .u8 u]).run Tryz.prog w=.ok (.value (.int .i64 (firstIdx s u.toNat.toUInt8))) w:=by
 rw[run_callFunc_extern Tryz.func325 (by kernel_rfl) (by kernel_rfl) (by kernel_rfl) (e:=Extern.BytealgIndexByte.indexByte) (by kernel_rfl),run_indexByte_string];rfl
theorem p_idxB {ty:TypeId} {K:Kd} {H:List Hp} {x y:Operand} {ats:Array TypeId} {s:ByteArray} (hx:opS K x=some s) (hy:opD K y=some (.v (.int .u8 u))):Pu Tryz.prog (.call { callee:=.value (.func 325),args:=#[x,y],argTypes:=ats }) ty K H (dI (firstIdx s u.toNat.toUInt8)):=
 ⟨λρ w F hk _ _=>e_ext (vs:=[.string s,.int .u8 u]) (zm ρ [x,y]) (by rw[show (#[x,y]:Array Operand).toList=[x,y] from rfl,zbU ρ [x,y] [x,y] (λ_ h=>h)];have e:ev ρ y=_:=hk.op hy;simp[hk.opS hx,e]) (ext_idxB s u) ⟨rfl,rfl⟩⟩
theorem p_runeStr {K:Kd} {H:List Hp} (hx:opD K x=some (.v (.int .i32 u))):Pu Tryz.prog (.convert 21 9 x) ty K H (.v (.string (Utf8.encode u))):=
 ⟨λρ w F hk _ _=>by
  have e:ev ρ x=_:=hk.op hx;refine wD (v:=.string (Utf8.encode u)) (w':=w) ?_ ⟨O,O⟩;have:=za6 (run_convert_int_string (P:=Tryz.prog) w 21 9 .i32 u (by kernel_rfl) (by kernel_rfl));simpa [execOp,zX,e] using this⟩
theorem sig_any (h0:0<=u) (h1:u<128):decide (0<=firstIdx tSig u.toNat.toUInt8)=sgnN.any (λx=>decide (x=u)):=by
 obtain ⟨n,rfl⟩:∃ n:Nat,u=n:=⟨u.toNat,by omega⟩;have key:∀ n:Nat,n<128->decide (0<=firstIdx tSig (n:Int).toNat.toUInt8)=sgnN.any (λx=>decide (x=(n:Int))):=by decide+kernel
 exact key n (by omega)
theorem sig_no (h:¬(0<=u/\u<128)):sgnN.any (λx=>decide (x=u))=false:=by
 show (decide (42=u)||(decide (43=u)||(decide (63=u)||(decide (124=u)||(decide (41=u)||(decide (93=u)||false))))))=false;simp only[uP,uE,decide_eq_false_iff_not];refine⟨?_,?_,?_,?_,?_,?_⟩<;>omega
theorem sig_dec:∀ p,p<6->¬(((decR tSig p:Nat):Int)=65533):=by decide+kernel
theorem sig_lt:∀ b∈tSig.data.toList,b.toNat<128:=by decide
theorem sig_at {i:Nat} {u:UInt8} (h:tSig[i]?=some u):u.toNat<128:=sig_lt u (by
 obtain ⟨hi,e⟩:=getElem?_eq_some_iff.1 h;rw[<-e];exact Array.getElem_mem_toList (xs:=tSig.data) hi)
theorem enc_last (hv:Utf8.valid u=true) (h:128<=u) {k:Nat} {b:UInt8} (hk:k+1=(Utf8.encode u).size) (hb:(Utf8.encode u)[k]?=some b):128<=b.toNat:=by
 obtain ⟨hi,e⟩:=getElem?_eq_some_iff.1 hb;have h3:=(encode_facts u hv h).2.2;rw[<-e];have hk':k=(Utf8.encode u).size-1:=by omega
 subst hk';exact h3 hi
theorem p_slice_strC {P:Program} {K:Kd} {H:List Hp} {t:TypeId} {a c:Nat} {lo hi:Option Operand} {b:ByteArray} {rl rh:Option Int} (hx:opS K x=some b) (hm:b.size<=maxLen) (hlo:bndD K lo=some rl) (hhi:bndD K hi=some rh) (ha:Bnd rl 0 a) (hb:Bnd rh b.size c)
 (ht:∀ w,(underlying t).run P w=.ok .string w) (hab:a<=c) (hbn:c<=b.size):Pu P (.slice t x lo hi none) ty K H (.s (b.extract a c)):=
 ⟨λρ w F hk hF _=>e_slice_str (zm ρ [x]) (opv1 ρ (hk.opS hx)) rfl rfl (ha.out (zaW hk hlo)) (hb.out (zaW hk hhi)) ht hab hbn ⟨rfl,rfl,d4 (by rw[dG];omega) hm⟩⟩
theorem idxB0_c (s:ByteArray) (c:Int) :
 CD Tryz.prog 289 [] [.s s,.v (.int .u8 c)] (isR (dI (firstIdx s c.toNat.toUInt8))):=by
 refine tZ Tryz.func289 O O (λC=>?_);refine T.bd 0 O (λbd0=>?_);have sz0:s.size<=9223372036854775807:=bd0;refine g' 9 O (tP O (p_idxB (s:=s) (u:=c) O O) (g' 4 O ?_));exact tRs O Tryz.results289 (.cons (zf (zd O) (wO (congrArg (λn=>D.v (.int .i64 n)) (by rfl)))) .nil) O HSub.none ⟨O,O⟩
theorem idxB_c (s:ByteArray) (c:Int) :
 CD Tryz.prog 244 [] [.s s,.v (.int .u8 c)] (isR (dI (firstIdx s c.toNat.toUInt8))):=by
 refine tZ Tryz.func244 O O (λC=>?_);refine T.bd 0 O (λbd0=>?_);have sz0:s.size<=9223372036854775807:=bd0;refine g' 9 O (tW O acs (idxB0_c s c) (g' 4 O ?_));exact tRs O Tryz.results244 (.cons (zf (zd O) (wO (congrArg (λn=>D.v (.int .i64 n)) (by rfl)))) .nil) O HSub.none ⟨O,O⟩
theorem validR_c (u:Int) :
 CD Tryz.prog 377 [] [.v (.int .i32 u)] (isR (dB (Utf8.valid u))):=by
 refine tZ Tryz.func377 O O (λC=>?_);refine g' 12 O ?_;refine tAnd 2 2 (c:=decide (u<(55296:Int))) O O O O O O (λhb1 nx2=>?_) ?_
 · have hf3:=of_decide_eq_true hb1;refine g' 2 O ?_;exact nx2 _ O O (kx 2 O O)
 refine g' 3 O ?_;refine tC O (λhc4=>?_) (λhc4=>?_)
 · simp only[bX,bJ] at hc4;refine g' 8 O ?_;exact tRs O Tryz.results377 (.cons (zf (zd O) (cB ((by rw[validRune_eq];unfold validRune;simp only[eq_comm (a:=true),eq_comm (a:=false),decide_eq_true_eq,decide_eq_false_iff_not];omega)))) .nil) O HSub.none ⟨O,O⟩
 simp only[bX,bJ] at hc4;refine g' 5 O ?_;refine tAnd 2 2 (c:=decide (u<=(1114111:Int))) O O O O O O (λhb5 nx6=>?_) ?_
 · have hf7:=of_decide_eq_true hb5;refine g' 2 O ?_;exact nx6 _ O O (kx 2 O O)
 refine g' 3 O ?_;refine tC O (λhc8=>?_) (λhc8=>?_)
 · simp only[bX,bJ] at hc8;refine g' 8 O ?_;exact tRs O Tryz.results377 (.cons (zf (zd O) (cB ((by rw[validRune_eq];unfold validRune;simp only[eq_comm (a:=true),eq_comm (a:=false),decide_eq_true_eq,decide_eq_false_iff_not];omega)))) .nil) O HSub.none ⟨O,O⟩
 simp only[bX,bJ] at hc8;refine g' 9 O ?_;exact tRs O Tryz.results377 (.cons (zf (zd O) (cB ((by rw[validRune_eq];unfold validRune;simp only[eq_comm (a:=true),eq_comm (a:=false),decide_eq_true_eq,decide_eq_false_iff_not];omega)))) .nil) O HSub.none ⟨O,O⟩
theorem indexRune_c (u:Int) (h0:0<=u) (h1:u<1114112):
 CD Tryz.prog 376 [] [.v (.string ⟨#[42,43,63,124,41,93]⟩),.v (.int .i32 u)] (λr H'=>(∃ i:Int,r=dI i/\decide (0<=i)=sgnN.any (λx=>decide (x=u)))/\H'=[]):=by
 refine tZ Tryz.func376 O O (λC=>?_);have hz6:tSig.size=6:=rfl;refine g' 11 O ?_;refine tAnd 2 2 (c:=decide (u<(128:Int))) O O O O O O (λhb1 nx2=>?_) ?_
 · have hf3:=of_decide_eq_true hb1;refine g' 2 O ?_;exact nx2 _ O O (kx 2 O O)
 refine g' 3 O ?_;refine tC O (λhc4=>?_) (λhc4=>?_)
 · simp only[bX,bJ] at hc4;have ha:0<=u/\u<128:=(by simpa using hc4);refine g' 4 O (tP O (zR O (c:=u) (cv_21_5 (by omega))) (tW O (.cons (ArgC.cv cS) (ga .nil)) (idxB_c (⟨#[42,43,63,124,41,93]⟩:ByteArray) u) (g' 5 O ?_)));exact tR O HSub.none ⟨⟨firstIdx (⟨#[42,43,63,124,41,93]⟩:ByteArray) (u).toNat.toUInt8,O,sig_any ha.1 ha.2⟩,O⟩
 simp only[bX,bJ] at hc4;have hna:¬(0<=u/\u<128):=by have h:=hc4;omega
 refine g' 7 O ?_;refine tD O (λhc5=>?_) (λhc5=>?_)
 · refine g' 4 O (tE O (zc9 O Tryz.runUnderlying9) ?_);rintro _ _ ⟨g6,rfl,rfl⟩;refine g' 3 O (tl1 (λ(a_:Nat)=>[(175,dP g6 0)]) (λa_=>[.it g6 (⟨#[42,43,63,124,41,93]⟩:ByteArray) a_]) (λa_=>(a_<=(⟨#[42,43,63,124,41,93]⟩:ByteArray).size)) (λa_=>(⟨#[42,43,63,124,41,93]⟩:ByteArray).size-a_) 0 O (sa O) wQ (cU _) ?_);rintro p hp;rcases c6 p (⟨#[42,43,63,124,41,93]⟩:ByteArray).size with hlt | hge
   · have hrune:=zao hlt;have hrl:=zcj (⟨#[42,43,63,124,41,93]⟩:ByteArray) p;have hdw:=zaf (⟨#[42,43,63,124,41,93]⟩:ByteArray) p hlt;have hdp:=zF (⟨#[42,43,63,124,41,93]⟩:ByteArray) p;refine g' 2 O (tE O (zcg (i:=0) O O hlt) ?_);rintro _ _ ⟨rfl,rfl⟩;refine g' 22 O ?_;refine tD O (λhc7=>?_) (λhc7=>?_)
     · exfalso;exact sig_dec p (show p<6 from hlt) hc7
     refine g' 2 O ?_;exact tp1 (p+decW (⟨#[42,43,63,124,41,93]⟩:ByteArray) p) (sa O) wQ (by have:=zaf (⟨#[42,43,63,124,41,93]⟩:ByteArray) p hlt;omega) (by have:=zF (⟨#[42,43,63,124,41,93]⟩:ByteArray) p;omega)
   have hrune:=zaE hge;refine g' 2 O (tP O (zcX (i:=0) O O hge) (g' 17 O ?_));exact tR O HSub.none ⟨⟨(-1),O,(sig_no hna).symm⟩,O⟩
 refine g' 3 O (tW O acs (validR_c u) (g' 4 O ?_));refine tC O (λhc8=>?_) (λhc8=>?_)
 · simp only[bX,bJ] at hc8;refine g' 7 O ?_;exact tR O HSub.none ⟨⟨(-1),O,(sig_no hna).symm⟩,O⟩
 simp only[bX,bJ] at hc8;have hval:Utf8.valid u=true:=by simpa using hc8
 refine g' 4 O ?_;obtain ⟨en1,en2,_⟩:=encode_facts u hval (by omega);refine tP O ((p_runeStr O).cv (Cv.str (by unfold maxLen;omega))) (g' 6 O (tP O (zV O Tryz.runUnderlying9) (tP O (zM (c:=((((Utf8.encode u).size)-1:Nat):Int)) O O (zk (by omega) (by omega))) (g' 16 O (tl1 (λ(_:Unit)=>[(0,.v (.string ⟨#[42,43,63,124,41,93]⟩)),(1,.v (.int .i32 u)),(7,.s (Utf8.encode u)),(8,dN (((Utf8.encode u).size)-1)),(9,dN (((Utf8.encode u).size)-1)),(10,dI 0)]) (λ_=>[]) (λ_=>True) (λ_=>0) () O (sa O) wQ trivial ?_)))));rintro _ _;refine g' 5 O (tP O (zV O Tryz.runUnderlying9) (g' 3 O ?_));refine tD O (λhc9=>?_) (λhc9=>?_)
 · refine g' 6 O ?_;obtain ⟨u1,hu1⟩:=zbv tSig (((Utf8.encode u).size)-1) (by show _<6;omega);have hl1:=sig_at hu1;obtain ⟨u2,hu2⟩:=zbv (Utf8.encode u) (((Utf8.encode u).size)-1) (by omega);have hl2:=enc_last hval (by omega) (by omega) hu2;have hl3:=u2.toNat_lt;have hne:((u1.toNat:Nat):Int)≠((u2.toNat:Nat):Int):=(by omega);refine T.keep [0,1,7,8,9,10,23,24,25,26] O (tDr 6 [(27,.v (.string ⟨#[42,43,63,124,41,93]⟩),none),(28,dN (((Utf8.encode u).size)-1),none),(29,.v (.int .u8 ((u1.toNat:Nat):Int)),none),(30,.s (Utf8.encode u),none),(31,dN (((Utf8.encode u).size)-1),none),(32,.v (.int .u8 ((u2.toNat:Nat):Int)),none)] [] (Hn:=[]) mixed O O O O wQ O ⟨sa_p O O O (zc O),sa_p O O O (zc O),sa_p O O O (z8 (k:=((Utf8.encode u).size)-1) O O Tryz.runUnderlying9 (by first | rfl | omega) hu1),sa_p O O O (zc O),sa_p O O O (zc O),sa_p O O O (z8 (k:=((Utf8.encode u).size)-1) O O Tryz.runUnderlying9 (by first | rfl | omega) hu2),trivial⟩ (tK O (tP O (zeu O O (decide_eq_true hne)) (g' 4 O (T.keep [0,1,7,8,9,10,23,24,25,26,27,28,29,30,31,32,33] O ?_)))));refine tDr 7 [(34,.v (.string ⟨#[42,43,63,124,41,93]⟩),none),(35,dN (((Utf8.encode u).size)-1),none),(36,dN ((((Utf8.encode u).size)-1)+1),none),(37,.s ((⟨#[42,43,63,124,41,93]⟩:ByteArray).extract ((((Utf8.encode u).size)-1)+1) ((⟨#[42,43,63,124,41,93]⟩:ByteArray).size)),none),(38,.s (Utf8.encode u),none),(39,dN (((Utf8.encode u).size)-1),none),(40,.v (.int .u8 ((u2.toNat:Nat):Int)),none)] [] (Hn:=[]) mixed O O O O wQ O ⟨sa_p O O O (zc O),sa_p O O O (zc O),sa_p O O O (zw (c:=(((((Utf8.encode u).size)-1)+1:Nat):Int)) O O (zk (by omega) (by omega))),sa_p O O O (p_slice_strC (a:=(((Utf8.encode u).size)-1)+1) (c:=(⟨#[42,43,63,124,41,93]⟩:ByteArray).size) O (by decide) O O (by first | rfl | (show _=_;omega)) (by first | rfl | (show _=_;omega)) Tryz.runUnderlying9 (by show _<=6;omega) (cX _)),sa_p O O O (zc O),sa_p O O O (zc O),sa_p O O O (z8 (k:=((Utf8.encode u).size)-1) O O Tryz.runUnderlying9 (by first | rfl | omega) hu2),trivial⟩ (tK O ?_);refine tW O acs (idxB_c ((⟨#[42,43,63,124,41,93]⟩:ByteArray).extract ((((Utf8.encode u).size)-1)+1) ((⟨#[42,43,63,124,41,93]⟩:ByteArray).size)) ((u2.toNat:Nat):Int)) (g' 5 O ?_);have hneg:firstIdx ((⟨#[42,43,63,124,41,93]⟩:ByteArray).extract ((((Utf8.encode u).size)-1)+1) ((⟨#[42,43,63,124,41,93]⟩:ByteArray).size)) (((u2.toNat:Nat):Int)).toNat.toUInt8= -1:=firstIdx_ascii _ _ _ _ sig_lt (by have:=hl2;have:=hl3;show 128<=(((u2.toNat:Nat):Int).toNat.toUInt8).toNat;rw[Int.toNat_natCast];simp;omega);have hlt0:firstIdx ((⟨#[42,43,63,124,41,93]⟩:ByteArray).extract ((((Utf8.encode u).size)-1)+1) ((⟨#[42,43,63,124,41,93]⟩:ByteArray).size)) (((u2.toNat:Nat):Int)).toNat.toUInt8<(0:Int):=(by omega);refine g' 2 O (tP O (zee O O (decide_eq_true hlt0)) (g' 18 O ?_));exact tR O HSub.none ⟨⟨(-1),O,(sig_no hna).symm⟩,O⟩
 refine g' 15 O ?_;exact tR O HSub.none ⟨⟨(-1),O,(sig_no hna).symm⟩,O⟩
end Lp
namespace Lp
open Go
mutual
def Pt.sz:Pt->Nat
 | .one _=>1
 | .row l=>Pt.szL l+1
 | .alt l=>Pt.szL l+1
 | .rep x _ _=>Pt.sz x+1
def Pt.szL:List Pt->Nat
 | []=>0
 | x::r=>Pt.sz x+Pt.szL r
end
mutual
def Pt.ok:Pt->Prop
 | .one _=>True
 | .row l=>Pt.okL l
 | .alt l=>l≠[]/\Pt.okL l
 | .rep x _ _=>Pt.ok x
def Pt.okL:List Pt->Prop
 | []=>True
 | x::r=>Pt.ok x/\Pt.okL r
end
theorem szL_app:∀ a b:List Pt,Pt.szL (a++b)=Pt.szL a+Pt.szL b
 | [],b=>by simp[Pt.szL]
 | x::a,b=>by simp only[d8,Pt.szL,szL_app a b];omega
theorem okL_app:∀ a b:List Pt,Pt.okL (a++b)↔Pt.okL a/\Pt.okL b
 | [],b=>by simp[Pt.okL]
 | x::a,b=>by simp only[d8,Pt.okL,okL_app a b];exact and_assoc.symm
theorem szL_one (x:Pt):Pt.szL [x]=x.sz:=by simp[Pt.szL]
theorem okL_one (x:Pt):Pt.okL [x]↔x.ok:=by simp[Pt.okL]
theorem sz_pos (x:Pt):1<=x.sz:=by cases x<;>simp[Pt.sz]
theorem szL_len:∀ l:List Pt,l.length<=Pt.szL l
 | []=>cX _
 | x::l=>by have:=szL_len l;have:=sz_pos x;simp only[Pt.szL,dE];omega
theorem szL_get:∀ {l:List Pt} {k:Nat} {x:Pt},l[k]?=some x->x.sz+Pt.szL (l.eraseIdx k)=Pt.szL l
 | [],k,x,h=>by simp at h
 | y::l,0,x,h=>by simp at h;subst h;simp[Pt.szL]
 | y::l,k+1,x,h=>by
  have:=szL_get (l:=l) (k:=k) (x:=x) (by simpa using h);simp only[List.eraseIdx_cons_succ,Pt.szL];omega
theorem szL_mem {l:List Pt} {k:Nat} {x:Pt} (h:l[k]?=some x):x.sz<=Pt.szL l:=by have:=szL_get h;omega
theorem okL_get:∀ {l:List Pt} {k:Nat} {x:Pt},Pt.okL l->l[k]?=some x->x.ok
 | [],k,x,_,h=>by simp at h
 | y::l,0,x,hk,h=>by simp at h;subst h;exact hk.1
 | y::l,k+1,x,hk,h=>okL_get (l:=l) (k:=k) hk.2 (by simpa using h)
theorem szL_take:∀ (l:List Pt) (k:Nat) {x:Pt},l[k]?=some x->Pt.szL (l.take (k+1))=Pt.szL (l.take k)+x.sz
 | [],k,x,h=>by simp at h
 | y::l,0,x,h=>by simp at h;subst h;simp[Pt.szL]
 | y::l,k+1,x,h=>by
  have:=szL_take l k (x:=x) (by simpa using h);simp only[u7,Pt.szL,this];omega
theorem szL_drop:∀ (l:List Pt) (k:Nat) {x:Pt},l[k]?=some x->Pt.szL (l.drop k)=x.sz+Pt.szL (l.drop (k+1))
 | [],k,x,h=>by simp at h
 | y::l,0,x,h=>by simp at h;subst h;simp[Pt.szL]
 | y::l,k+1,x,h=>by
  have:=szL_drop l k (x:=x) (by simpa using h);simpa using this
def PSz (p:PR->Pt×PR):Prop:=∀ s,(p s).1.sz+3*(p s).2.l.length<=3*s.l.length+2/\(p s).1.ok
theorem atom_sz {s:PR} {alt:PR->Pt×PR} (ha:PSz alt) (h:s.l≠[]):(s.atom alt).1.sz+3*(s.atom alt).2.l.length+1<=3*s.l.length/\(s.atom alt).1.ok:=by
 have h1:=mJ h;unfold PR.atom;simp only;split
 · obtain ⟨h2,h2'⟩:=ha s.any.2;have h3:=mG (alt s.any.2).2 41;split
   · simp only;exact⟨by omega,h2'⟩
   simp only;exact⟨by omega,h2'⟩
 split
 · have:=PR.cls_le s.any.2;simp only[Pt.sz,Pt.ok];exact⟨by omega,trivial⟩
 split
 · simp only[Pt.sz,Pt.ok];exact⟨by omega,trivial⟩
 split
 · have:=mI s.any.2;simp only[Pt.sz,Pt.ok];exact⟨by omega,trivial⟩
 simp only[Pt.sz,Pt.ok];exact⟨by omega,trivial⟩
theorem times_sz {s:PR} {x:Pt} (hx:x.ok):(s.times x).1.sz+3*(s.times x).2.l.length<=x.sz+3*s.l.length/\(s.times x).1.ok:=by
 unfold PR.times
 repeat' split
 all_goals first
  | (rename_i h;have:=mH h;simp only[Pt.sz,Pt.ok];exact⟨by omega,hx⟩)
  | exact⟨cX _,hx⟩
theorem partsF_sz {alt:PR->Pt×PR} (ha:PSz alt):∀ (f:Nat) (o:List Pt) (s:PR),Pt.okL o->Pt.szL (zaN alt f o s).1+3*(zaN alt f o s).2.l.length<=Pt.szL o+3*s.l.length/\Pt.okL (zaN alt f o s).1
 | 0,o,s,ho=>⟨cX _,ho⟩
 | f+1,o,s,ho=>by
  unfold zaN;split
  · exact⟨cX _,ho⟩
  rename_i h;have hne:s.l≠[]:=λe=>h (Or.inr (by unfold PR.stop;rw[decide_eq_true e];rfl))
  obtain ⟨h1,h1'⟩:=atom_sz ha hne;obtain ⟨h2,h2'⟩:=times_sz (s:=(s.atom alt).2) h1';obtain ⟨h3,h3'⟩:=partsF_sz ha f (o++[((s.atom alt).2.times (s.atom alt).1).1]) ((s.atom alt).2.times (s.atom alt).1).2 ((okL_app _ _).2 ⟨ho,(okL_one _).2 h2'⟩);rw[szL_app,szL_one] at h3;exact⟨by simp only;omega,h3'⟩
theorem parts_sz {alt:PR->Pt×PR} (ha:PSz alt) (s:PR):(s.parts alt).1.sz+3*(s.parts alt).2.l.length<=3*s.l.length+1/\(s.parts alt).1.ok:=by
 obtain ⟨h,h'⟩:=partsF_sz ha (s.l.length+1) [] s trivial;unfold PR.parts;simp only[Pt.sz,Pt.ok];exact⟨by simp only[Pt.szL] at h;omega,h'⟩
theorem altsF_sz {alt:PR->Pt×PR} (ha:PSz alt):∀ (f:Nat) (o:List Pt) (s:PR),Pt.okL o->Pt.szL (zb3 alt f o s).1+3*(zb3 alt f o s).2.l.length<=Pt.szL o+3*s.l.length/\Pt.okL (zb3 alt f o s).1/\(o≠[]->(zb3 alt f o s).1≠[])
 | 0,o,s,ho=>⟨cX _,ho,λh=>h⟩
 | f+1,o,s,ho=>by
  unfold zb3;split
  · rename_i h;have h1:=mH h;obtain ⟨h2,h2'⟩:=parts_sz ha (s.take 124).2;obtain ⟨h3,h3',h3''⟩:=altsF_sz ha f (o++[((s.take 124).2.parts alt).1]) ((s.take 124).2.parts alt).2 ((okL_app _ _).2 ⟨ho,(okL_one _).2 h2'⟩);rw[szL_app,szL_one] at h3;exact⟨by simp only;omega,h3',λ_=>h3'' (by simp)⟩
  exact⟨cX _,ho,λh=>h⟩
theorem altF_sz:∀ f:Nat,PSz (altF f)
 | 0=>λs=>by unfold altF;simp only[Pt.sz,Pt.szL,Pt.ok];exact⟨by omega,trivial⟩
 | f+1=>λs=>by
  unfold altF;simp only;obtain ⟨h1,h1'⟩:=parts_sz (altF_sz f) s;obtain ⟨h2,h2',h2''⟩:=altsF_sz (altF_sz f) ((s.parts (altF f)).2.l.length+1) [(s.parts (altF f)).1] (s.parts (altF f)).2 ((okL_one _).2 h1');rw[szL_one] at h2;simp only[Pt.sz,Pt.ok];exact⟨by omega,h2'' (by simp),h2'⟩
end Lp
