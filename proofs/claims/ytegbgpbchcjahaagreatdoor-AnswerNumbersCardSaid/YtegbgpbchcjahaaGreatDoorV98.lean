import Derived.Test.YtegbgpbchcjahaaGreatDoorV40
set_option linter.all false
namespace Lp
open Go
section
variable {s s' s1 s2 s3 s4 s5 z:Rd} {k:Int} {ts:List Ba} {t t' a b:Ba} {q:Bool} {x:TokD}
def pk_0 (h:s.l.length=0):s.pk=zbo:=by unfold Rd.pk;rw[List.length_eq_zero_iff.1 h];rfl
def pk_x (h:s.l[0]?=some x):s.pk=x:=by
 unfold Rd.pk;cases e:s.l with
 | nil=>rw[e] at h;cases h
 | cons y l=>rw[e] at h;injection h
def aIw (hk:k≠0) (h:s.pk.k=k):0<s.l.length:=dW.2 (zgt hk h)
def is_k (h:s.is k ts=true):s.pk.k=k:=by unfold Rd.is at h;simp only[cU,aI] at h;exact h.1
def aZt (hk:k≠0) (h:s.is k ts=true):0<s.l.length:=aIw hk (is_k h)
def zaZ (h:s.b=true\/s.is k ts=false):s.take k ts=(ByteArray.empty,false,s):=by unfold Rd.take;rw[aB h]
def pM (l:List TokD):(l.take l.length).drop 1=l.tail:=by rw[dJ,List.drop_one]
def aT1 (hb:s.b=false) (hi:s.is k ts=true) (hx:s.l[0]?=some x):s.take k ts=(x.t,true,⟨(s.l.take s.l.length).drop 1,s.n,s.b⟩):=by
 unfold Rd.take;rw[aA (by rw[hb,hi];simp),pk_x hx,pM]
def zeu (h:s.b=true\/s.pk.k≠k):s.any k=(ByteArray.empty,⟨s.l,s.n,true⟩):=by unfold Rd.any;rw[aB h]
def aPx (hb:s.b=false) (h:s.pk.k=k):s.any k=(s.pk.t,⟨(s.l.take s.l.length).drop 1,s.n,s.b⟩):=by
 unfold Rd.any;rw[aA (by rw[hb,h];simp),pM]
def aUa (e:(t',q,s')=s.take 5 [t]):(⟨s'.l,s'.n,s'.b||!q⟩:Rd)=s.must t:=by unfold Rd.must;rw[<-e]
def kM (e:(t,s')=s.any k):(numV t,s')=s.number k:=by unfold Rd.number;rw[<-e]
def zgc (e:s'=s.node):Stp 1 s s':=by rw[e];exact zdn s
def nd_e {c:Int} {p:Nd×Rd} {n:Nd} (e:(n,s')=p) (h:Stp c s p.2):Stp c s s':=by rw[<-e] at h;exact h
variable {f:Nat} {o l:List Ba}
def aIf (hb:z.b=true):namesF (f+1) o z=(o,z):=by unfold namesF;rw[aB hb]
def aJn (hb:z.b=false) (e1:(t,s1)=z.any 1) (e2:(t',q,s2)=s1.take 5 [zV]) (hq:q=true):namesF (f+1) o z=namesF f (o++[t]) s2:=by
 conv=>lhs;unfold namesF
 rw[aA (by rw[hb];simp),<-e1];simp only;rw[<-e2,aB hq]
def aGr (hb:z.b=false) (e1:(t,s1)=z.any 1) (e2:(t',q,s2)=s1.take 5 [zV]) (hq:¬q=true):namesF (f+1) o z=(o++[t],s2):=by
 conv=>lhs;unfold namesF
 rw[aA (by rw[hb];simp),<-e1];simp only;rw[<-e2,aA hq]
def aQw (e1:s1=s.must zE) (hi:s1.is 5 [zL]=true) (e2:s2=s1.must zL):([],s2)=s.names:=by
 unfold Rd.names;rw[<-e1,aB hi,e2]
def aIa (e1:s1=s.must zE) (hi:¬s1.is 5 [zL]=true) (hf:namesF (s1.l.length+1) [] s1=(l,s2)) (e2:s3=s2.must zL):(l,s3)=s.names:=by
 unfold Rd.names;rw[<-e1,aA hi,hf,e2]
def aXc (e:(t,q,s1)=s.take 1 [a,b]) (hq:q=false):(0,[],s1)=s.mode a b:=by unfold Rd.mode;rw[<-e,aB hq]
def aVy (e:(t,q,s1)=s.take 1 [a,b]) (hq:¬q=false) (ht:t=a) (e2:(l,s2)=s1.names):(1,l,s2)=s.mode a b:=by unfold Rd.mode;rw[<-e,aA hq,aB ht,e2]
def aUz (e:(t,q,s1)=s.take 1 [a,b]) (hq:¬q=false) (ht:¬t=a) (e2:(l,s2)=s1.names):(2,l,s2)=s.mode a b:=by unfold Rd.mode;rw[<-e,aA hq,aA ht,e2]
variable {part:Rd->Nd×Rd} {n p:Nd} {m:Int} {sg:List Ba}
def aC5 (e:(t,q,s1)=z.take 5 sg) (hq:q=false):zaO part sg (f+1) n z=(n,s1):=by
 conv=>lhs;unfold zaO
 rw[<-e,aB hq]
def aMi (e:(t,q,s1)=z.take 5 sg) (hq:¬q=false) (e2:(m,l,s2)=s1.mode tOn zQ) (e3:(p,s3)=part s2) (e4:s4=s3.node):zaO part sg (f+1) n z=zaO part sg f (.mk tBin t 0 m l [] [n,p]) s4:=by
 conv=>lhs;unfold zaO
 rw[<-e,aA hq];simp only;rw[<-e2];simp only;rw[<-e3,e4]
def aK8 (e:(n,s1)=part s):zaO part sg (s1.l.length+1) n s1=s.level part sg:=by unfold Rd.level;rw[<-e]
variable {om:List MatD} {c v:Ba}
variable (rm:List MatD->Bool)
def aH1 (h:s.pk.k=1/\zef s.pk.t=false) (e:(t,s1)=s.any 1):(t,s1)=s.selName:=by unfold Rd.selName;rw[aB h,e]
def aF3 (h:¬(s.pk.k=1/\zef s.pk.t=false)):(ByteArray.empty,s)=s.selName:=by unfold Rd.selName;rw[aA h]
def aIe (h:¬s.is 5 [zaq]=true):([],(⟨s.l,s.n,s.b||decide (t=ByteArray.empty)⟩:Rd))=s.selMs rm t:=by unfold Rd.selMs;rw[aA h]
def aKf (e:(t,q,s1)=s.take 5 [tSq]) (hq:q=true) {w:Int} (e2:(w,s2)=s1.number 4) (e3:s3=s2.must tSqE):(w,s3)=s.selWin:=by unfold Rd.selWin;rw[<-e,aB hq,<-e2,e3]
def aMm (e:(t,q,s1)=s.take 5 [tSq]) (hq:¬q=true):(0,s1)=s.selWin:=by unfold Rd.selWin;rw[<-e,aA hq]
def aAd {ms:List MatD} {w:Int} (e1:(t,s1)=s.selName) (e2:(ms,s2)=s1.selMs rm t) (e3:(w,s3)=s2.selWin) (e4:s4=s3.node):(Nd.mk nSel t w 0 [] ms [],s4)=s.selector rm:=by
 unfold Rd.selector;simp only;rw[<-e1];simp only;rw[<-e2];simp only;rw[<-e3,e4]
variable {ex:Rd->Nd×Rd}
def aVm {s6 s7:Rd} {w:Int} (e1:(t,s1)=s.any 1) (e2:(m,l,s2)=s1.mode tBy zN) (e3:s3=s2.must zE) (hn:zaA t=true) (e4:(w,s4)=s3.number 2) (e5:s5=s4.must zV) (e6:(n,s6)=ex s5) {s8:Rd} (e7:s7=s6.must zL) (e8:s8=s7.node):
 (Nd.mk tAgg t w m l [] [n],s8)=s.aggr ex:=by
 unfold Rd.aggr;simp only;rw[<-e1];simp only;rw[<-e2];simp only;rw[aB hn,aB hn,<-e3,<-e4];simp only;rw[<-e5,<-e6,e8,e7]
def aWq {s6 s7:Rd} (e1:(t,s1)=s.any 1) (e2:(m,l,s2)=s1.mode tBy zN) (e3:s3=s2.must zE) (hn:¬zaA t=true) (e6:(n,s6)=ex s3) {s8:Rd} (e7:s7=s6.must zL) (e8:s8=s7.node):
 (Nd.mk tAgg t 0 m l [] [n],s8)=s.aggr ex:=by
 unfold Rd.aggr;simp only;rw[<-e1];simp only;rw[<-e2];simp only;rw[aA hn,aA hn,<-e3];simp only;rw[<-e6,e8,e7]
def aJx (hb:s.b=true):(noNd,s)=s.prim rm ex:=by unfold Rd.prim;rw[aB hb]
def aK6 (hb:¬s.b=true) (hk:s.pk.k=2) {w:Int} (e:(w,s1)=s.number 2) (e2:s2=s1.node):(Nd.mk tNum ByteArray.empty w 0 [] [] [],s2)=s.prim rm ex:=by
 unfold Rd.prim;rw[aA hb,aB hk,<-e,e2]
def aJ1 (hb:¬s.b=true) (hk:¬s.pk.k=2) (hi:s.is 5 [zE]=true) (e1:s1=s.must zE) (e2:(n,s2)=ex s1) (e3:s3=s2.must zL):(n,s3)=s.prim rm ex:=by
 unfold Rd.prim;rw[aA hb,aA hk,aB hi,<-e1,<-e2,e3]
def aNd (hb:¬s.b=true) (hk:¬s.pk.k=2) (hi:¬s.is 5 [zE]=true) (ha:s.pk.k=1/\hasN aggN s.pk.t=true) (e:(n,s1)=s.aggr ex):(n,s1)=s.prim rm ex:=by
 unfold Rd.prim;rw[aA hb,aA hk,aA hi,aB ha,e]
def aUr (hb:¬s.b=true) (hk:¬s.pk.k=2) (hi:¬s.is 5 [zE]=true) (ha:¬(s.pk.k=1/\hasN aggN s.pk.t=true)) (hf:s.pk.k=1/\hasN fnN s.pk.t=true) (e1:(t,s1)=s.any 1) (e2:s2=s1.must zE) (e3:(n,s3)=ex s2) (e4:s4=s3.node) (e5:s5=s4.must zL):
 (Nd.mk tFn t 0 0 [] [] [n],s5)=s.prim rm ex:=by
 unfold Rd.prim;rw[aA hb,aA hk,aA hi,aA ha,aB hf];simp only;rw[<-e1];simp only;rw[<-e2,<-e3,e5,e4]
def aKb (hb:¬s.b=true) (hk:¬s.pk.k=2) (hi:¬s.is 5 [zE]=true) (ha:¬(s.pk.k=1/\hasN aggN s.pk.t=true)) (hf:¬(s.pk.k=1/\hasN fnN s.pk.t=true)) (e:(n,s1)=s.selector rm):(n,s1)=s.prim rm ex:=by
 unfold Rd.prim;rw[aA hb,aA hk,aA hi,aA ha,aA hf,e]
def aRb (e:(t,q,s1)=s.take 5 [zaM]) (hq:q=true) (e2:(n,s2)=zat rm ex f s1) (e3:s3=s2.node):(Nd.mk tNeg ByteArray.empty 0 0 [] [] [n],s3)=zat rm ex (f+1) s:=by
 unfold zat;rw[<-e,aB hq];simp only;rw[<-e2,e3]
def aTh (e:(t,q,s1)=s.take 5 [zaM]) (hq:¬q=true) (e2:(n,s2)=s1.prim rm ex):(n,s2)=zat rm ex (f+1) s:=by
 unfold zat;rw[<-e,aA hq,e2]
def aUk (e:(t,q,s1)=s.take 1 [a]) (hq:q=false):(-1,s1)=s.bound a:=by unfold Rd.bound;rw[<-e,aB hq]
def aQq (e:(t,q,s1)=s.take 1 [a]) (hq:¬q=false) {w:Int} (e2:(w,s2)=s1.number 2):(w,(⟨s2.l,s2.n,s2.b||decide (2000<w)⟩:Rd))=s.bound a:=by unfold Rd.bound;rw[<-e,aA hq,<-e2]
def aHg {w:Int} (e:(w,s')=s.bound a):Stp 0 s s':=by
 have h:s'=(s.bound a).2:=aG Prod.snd e;rw[h];unfold Rd.bound;split
 · exact z8 s 1 _
 exact(((z8 s 1 [a]).trans (zbu _ 2)).le (by omega)).bad _
def aUj (e:(t,q,s1)=s.take 1 [zbM]) (hq:¬q=true):(0,s1)=s.order:=by
 unfold Rd.order;simp only;rw[<-e,aB (by simpa using hq)]
def aRn (e:(t,q,s1)=s.take 1 [zbM]) (hq:q=true) {q':Bool} (e2:(t',q',s2)=s1.take 1 [zev]) (hq':q'=true):(2,s2)=s.order:=by
 unfold Rd.order;simp only;rw[<-e,aA (by simp[hq])];simp only;rw[<-e2,aB hq']
def aIs (e:(t,q,s1)=s.take 1 [zbM]) (hq:q=true) {q':Bool} (e2:(t',q',s2)=s1.take 1 [zev]) (hq':¬q'=true) (e3:(c,s3)=s2.any 1):(1,(⟨s3.l,s3.n,s3.b||decide (c≠tAsc)⟩:Rd))=s.order:=by
 unfold Rd.order;simp only;rw[<-e,aA (by simp[hq])];simp only;rw[<-e2,aA hq',<-e3]
end
end Lp
set_option maxHeartbeats 4000000
set_option maxRecDepth 100000
namespace Lp
open Go Go.RowKit Go.Proofs Tryz
variable {t:Ba} {name:Ba}
def aOp:IzP prog 9 (.string ByteArray.empty) 1 16:=zdf (by kernel_rfl)
def aOk:Tryz.prog.underlying 45=some (.slice 9):=by kernel_rfl
abbrev RB (g:Nat) (s:Rd):Hp:=.bx g 83 (.agg [.sh 3 (s.l.map TokD.d),dI s.n,dB s.b])
def NdR (g:Nat) (ev es:Value) (p:Nd×Rd):D->List Hp->Prop:=λr H'=>∃ op text n mode names ms kids s',(Nd.mk op text n mode names ms kids,s')=p/\r=n7 op text n mode names ms kids/\H'=[RB g s',HPow,HErr ev,HSyn es]
def aB8 (g:Nat) (s:Rd) (hw:s.n+2*(s.l.length:Int)<=3000000) (hn:0<=s.n) (hT:TOk s.l):
 CD prog 59 [RB g s] [dP g 0] (λr H'=>r=TokD.d s.pk/\H'=[RB g s]):=by
 refine tZ func59 O O (λC=>?_);refine g' 2 O ?_;refine tA O (λg1=>?_);refine gQ 9 [1] O O (tP O (zH (n:=s.l.length) O aQ (by simp only[lm,lc,ln])) (g' 3 O ?_));refine tD O (λhc2=>?_) (λhc2=>?_)
 · refine g' 2 O (tP O (zm [] [] (zv:=cD) O O (.nil) (aR) aS zav ⟨O,O,O,trivial⟩ O) (gQ 5 [0] O O (mY 1 O ?_)));exact tRs O results59 (.cons (zc (zu (X:=.agg [dI 0,dI 0,cC]) (d:=.agg [dI 0,dI 0,cC]) (i:=1) O O aZ aP O O) ((Cv.agg (gc (gc (.cons (cS) .nil)))).trans (w6 (aG TokD.d (show (TokD.mk 0 0 ByteArray.empty)=s.pk from(pk_0 (by omega)).symm))))) .nil) O (mO 1 O) ⟨O,O⟩
 refine gQ 8 [1] O O ?_;obtain ⟨x1,hx1⟩:=zi s.l 0 (by omega);refine tP O (zf (k:=0) O O aQ aP (by first | rfl | omega) (zd hx1)) (gQ 5 [0] O O (mY 1 O ?_));exact tRs O results59 (.cons (zc (zu (X:=TokD.d x1) (d:=TokD.d x1) (i:=1) O O aZ aP O O) ((w5).trans (w6 (aG TokD.d (show x1=s.pk from(pk_x hx1).symm))))) .nil) O (mO 1 O) ⟨O,O⟩
def is_c (g:Nat) (s:Rd) (k:Int) (ts:List Ba) (hw:s.n+2*(s.l.length:Int)<=3000000) (hn:0<=s.n) (hT:TOk s.l):
 CD prog 58 [RB g s] [dP g 0,dI k,.sh 1 (ts.map D.s)] (λr H'=>r=dB (s.is k ts)/\H'=[RB g s]):=by
 refine tZ func58 O O (λC=>?_);refine T.bd 2 O (λbd2=>?_);have nl2:=zy bd2;refine g' 8 O (tX [0] O O acs (aB8 g s (by omega) (by omega) hT) ?_);rintro _ _ ⟨rfl,rfl⟩;refine tA O (λg2=>?_);refine gQ 10 [0,0] O O ?_;refine tAnd 4 4 (c:=hasN ts s.pk.t) O O O O O O (λhb3 nx4=>?_) ?_
 · have hf5:=aF hb3;refine gQ 3 [0] O O (tW O acs (zdq ts s.pk.t) ?_);exact nx4 _ O O (kx 4 O O)
 refine g' 4 O (mY 1 O ?_);exact tRs O results58 (.cons (zc (za O) (w6 (aG dB (show (decide (s.pk.k=k)&&hasN ts s.pk.t)=s.is k ts from O)))) .nil) O (mO 1 O) ⟨O,O⟩
def zeW (g:Nat) (s:Rd) (k:Int) (ts:List Ba) (hw:s.n+2*(s.l.length:Int)<=3000000) (hn:0<=s.n) (hT:TOk s.l) (hk:k≠0):
 CD prog 33 [RB g s] [dP g 0,dI k,.sh 1 (ts.map D.s)] (λr H'=>∃ t q s',(t,q,s')=s.take k ts/\r=.tup [.s t,dB q]/\H'=[RB g s']):=by
 refine tZ func33 O O (λC=>?_);refine T.bd 2 O (λbd2=>?_);have nl2:=zy bd2;refine gQ 14 [0] O O ?_;refine tOr 4 5 (c:=!((s.is k ts))) O O O O O O (λhb1 nx2=>?_) ?_
 · refine g' 3 O (tX [0] O O acs (is_c g s k ts (by omega) (by omega) hT) ?_);rintro _ _ ⟨rfl,rfl⟩;refine g' 1 O ?_;exact nx2 _ O O (kx 5 O O)
 refine g' 2 O ?_;refine tC O (λhc4=>?_) (λhc4=>?_)
 · simp only[bX,bJ] at hc4;have hor:s.b=true\/s.is k ts=false:=(by simpa using hc4);refine g' 8 O ?_;exact tRs O results33 (.cons (zc (za O) (cS)) (.cons (za O) .nil)) O (mO 1 O) ⟨_,_,⟨s.l,s.n,s.b⟩,(zaZ hor).symm,O,O⟩
 simp only[bX,bJ] at hc4;have hand:s.b=false/\s.is k ts=true:=by simpa using hc4
 have hne:=aZt hk hand.2;refine gQ 8 [0] O O ?_;obtain ⟨x1,hx1⟩:=zi s.l 0 (by omega);refine tP O (zf (k:=0) O O aQ aP (by first | rfl | omega) (zd hx1)) (g' 1 O ?_);refine tA O (λg5=>?_);refine gQ 10 [0,1] O O (tP O ((zaX (a:=1) (b:=s.l.length) O O O (by first | rfl | (show _=_;(try simp only[lm]);omega) | exact cN _) (by first | rfl | (show _=_;(try simp only[lm]);omega) | exact cN _) aQ aP (by omega) (by simp only[lm];omega)).cv (w6 (by rw[<-dU,<-dV]))) (gQ 14 [1,0] O O (mY 1 O ?_)));exact tR O (mO 1 O) ⟨_,_,⟨((s.l.take s.l.length).drop 1),s.n,s.b⟩,(aT1 hand.1 hand.2 hx1).symm,O,O⟩
def zgM (g:Nat) (s:Rd) (k:Int) (hw:s.n+2*(s.l.length:Int)<=3000000) (hn:0<=s.n) (hT:TOk s.l) (hk:k≠0):
 CD prog 34 [RB g s] [dP g 0,dI k] (λr H'=>∃ t s',(t,s')=s.any k/\r=.s t/\H'=[RB g s']):=by
 refine tZ func34 O O (λC=>?_);refine g' 8 O (tX [0] O O acs (aB8 g s (by omega) (by omega) hT) ?_);rintro _ _ ⟨rfl,rfl⟩;refine tA O (λg2=>?_);refine gQ 11 [0,1] O O ?_;refine tOr 4 4 (c:=decide (s.pk.k≠k)) O O O O O O (λhb3 nx4=>?_) ?_
 · refine gQ 4 [0] O O ?_;exact nx4 _ O O (kx 4 O O)
 refine g' 2 O ?_;refine tC O (λhc5=>?_) (λhc5=>?_)
 · simp only[bX,bJ] at hc5;have hor:s.b=true\/s.pk.k≠k:=(by simpa using hc5);refine gQ 15 [1] O O (mY 1 O ?_);exact tRs O results34 (.cons (zc (za O) (cS)) .nil) O (mO 1 O) ⟨_,⟨s.l,s.n,true⟩,(zeu hor).symm,O,O⟩
 simp only[bX,bJ] at hc5;have hand:s.b=false/\s.pk.k=k:=by simpa using hc5
 have hne:=aIw hk hand.2;refine gQ 9 [1] O O (tP O ((zaX (a:=1) (b:=s.l.length) O O O (by first | rfl | (show _=_;(try simp only[lm]);omega) | exact cN _) (by first | rfl | (show _=_;(try simp only[lm]);omega) | exact cN _) aQ aP (by omega) (by simp only[lm];omega)).cv (w6 (by rw[<-dU,<-dV]))) (gQ 13 [1,0] O O (mY 1 O ?_)));exact tR O (mO 1 O) ⟨_,⟨((s.l.take s.l.length).drop 1),s.n,s.b⟩,(aPx hand.1 hand.2).symm,O,O⟩
def zdt (g:Nat) (s:Rd) (t:Ba) (hw:s.n+2*(s.l.length:Int)<=3000000) (hn:0<=s.n) (hT:TOk s.l):
 CD prog 182 [RB g s] [dP g 0,.s t] (λr H'=>∃ s',s'=s.must t/\r=.tup []/\H'=[RB g s']):=by
 refine tZ func182 O O (λC=>?_);refine T.bd 1 O (λbd1=>?_);have sz1:t.size<=9223372036854775807:=bd1;refine g' 4 O (tE O (Qu.ef (d:=.sh 1 ([t].map D.s)) (zp [.tmp 8] O O (.cons CellD.s .nil) O bK eE bW O O O O)) ?_);rintro _ _ ⟨rfl,rfl⟩;refine tX [0] O O acs (zeW g s 5 [t] (by omega) (by omega) hT (by decide)) ?_;rintro _ _ ⟨t1,q1,s1,e1,rfl,rfl⟩;obtain ⟨ka1,kb1,kc1,hT1⟩:=(zeV e1).out hT;have kz1:=zeU e1 hT;refine gQ 14 [0] O O ?_;refine tOr 5 2 (c:=!q1) O O O O O O (λhb2 nx3=>?_) ?_
 · refine g' 2 O ?_;exact nx3 _ O O (kx 2 O O)
 refine gQ 4 [0] O O ?_;exact tR O (mO 1 O) ⟨⟨s1.l,s1.n,(s1.b||!q1)⟩,aUa e1,O,O⟩
def zgd (g:Nat) (s:Rd) (x0 x1 x2 x3 x4 x5 x6:D) (hw:s.n+2*(s.l.length:Int)<=3000000) (hn:0<=s.n) (hT:TOk s.l):
 CD prog 98 [RB g s] [dP g 0,.agg [x0,x1,x2,x3,x4,x5,x6]] (λr H'=>∃ s',s'=s.node/\r=.agg [x0,x1,x2,x3,x4,x5,x6]/\H'=[RB g s']):=by
 refine tZ func98 O O (λC=>?_);refine T.bd 1 O (λbd1=>?_);refine g' 2 O ?_;refine tA O (λg1=>?_);refine tA O (λg2=>?_);refine gQ 8 [2] O O (tP O (zq (c:=(s.n+1)) O O (zh (by omega) (by omega))) (gQ 13 [2,2] O O ?_));refine tOr 5 5 (c:=decide ((200:Int)<(s.n+1))) O O O O O O (λhb3 nx4=>?_) ?_
 · refine gQ 5 [2] O O ?_;exact nx4 _ O O (kx 5 O O)
 refine gQ 12 [2,1,0] O O (mY 2 O ?_);exact tRs O results98 (.cons (zu (i:=1) O O bS aY O O) .nil) O (mO 1 O) ⟨⟨s.l,(s.n+1),(s.b||decide ((200:Int)<(s.n+1)))⟩,O,O,O⟩
def qW (g:Nat) (s:Rd) (k:Int) (ev es:Value) (hev:EvOk ev) (hes:EvOk es) (hw:s.n+2*(s.l.length:Int)<=3000000) (hn:0<=s.n) (hT:TOk s.l) (hk:k=2\/k=4):
 CD prog 60 [RB g s,HPow,HErr ev,HSyn es] [dP g 0,dI k] (λr H'=>∃ v s',(v,s')=s.number k/\r=dI v/\H'=[RB g s',HPow,HErr ev,HSyn es]):=by
 refine tZ func60 O O (λC=>?_);have hk0:k≠0:=by omega
 refine g' 9 O (tX [0] O O acs (zgM g s k (by omega) (by omega) hT hk0) ?_);rintro _ _ ⟨t1,s1,e1,rfl,rfl⟩;obtain ⟨ka1,kb1,kc1,hT1⟩:=(zen e1).out hT;have kz1:=zek e1 hT;refine tX [2,2] O O acs (aXv t1 ev es hev hes (zfz e1 hk hT)) ?_;rintro _ _ ⟨ax,rfl,rfl⟩;refine g' 14 O (mY 1 O (mY 1 O (mY 3 O (mY 3 O ?_))));exact tR O (mO 4 O) ⟨_,⟨s1.l,s1.n,s1.b⟩,kM e1,O,O⟩
def aG9 (g:Nat) (s:Rd) (hw:s.n+2*(s.l.length:Int)<=3000000) (hn:0<=s.n) (hT:TOk s.l):
 CD prog 142 [RB g s] [dP g 0] (λr H'=>∃ l s',(l,s')=s.names/\r=.sh 1 (l.map D.s)/\H'=[RB g s']):=by
 refine tZ func142 O O (λC=>?_);refine g' 13 O (tX [0] O O (ga (.cons (ArgC.cv cS) .nil)) (zdt g s (⟨#[40]⟩:Ba) (by omega) (by omega) hT) ?_);rintro _ _ ⟨s1,e1,rfl,rfl⟩;obtain ⟨ka1,kb1,kc1,hT1⟩:=(za9 e1).out hT;refine g' 6 O (tE O (Qu.ef (d:=.sh 1 ([(⟨#[41]⟩:Ba)].map D.s)) ((zp [.const (.string ⟨#[41]⟩)] O O (.cons (CellD.v O) .nil) O bK eE bW O O O O).cv (mN (.cons cS .nil)))) ?_);rintro _ _ ⟨rfl,rfl⟩;refine tX [0] O O acs (is_c g s1 5 [(⟨#[41]⟩:Ba)] (by omega) (by omega) hT1) ?_;rintro _ _ ⟨rfl,rfl⟩;refine g' 2 O ?_;refine tC O (λhc3=>?_) (λhc3=>?_)
 · refine g' 3 O (tX [0] O O (ga (.cons (ArgC.cv cS) .nil)) (zdt g s1 (⟨#[41]⟩:Ba) (by omega) (by omega) hT1) ?_);rintro _ _ ⟨s4,e4,rfl,rfl⟩;obtain ⟨ka4,kb4,kc4,hT4⟩:=(za9 e4).out hT1;refine g' 9 O ?_;exact tRs O results142 (.cons (zc (za O) (Cv.nil)) .nil) O (mO 1 O) ⟨[],⟨s4.l,s4.n,s4.b⟩,aQw e1 hc3 e4,O,O⟩
 refine g' 4 O (tl4 (λ(a_:Nat) (b_:Rd) (c_:Value) (d_:List Ba)=>[(0,dP g 0),(2,dZ),(3,.ov c_)]) (λa_ b_ c_ d_=>[.sl c_ 1 9 (d_.map D.s),RB g b_]) (λa_ b_ c_ d_=>(b_.l.length<a_)/\(namesF a_ d_ b_=namesF (s1.l.length+1) [] s1)/\(b_.n+2*(b_.l.length:Int)<=3000000)/\(0<=b_.n)/\(TOk b_.l)/\(d_.length+b_.l.length<=1500000)) (λa_ b_ c_ d_=>a_) (s1.l.length+1) s1 (.slice none 0 0) [] O ⟨sk O,sk O,sc O (Cv.ov O),trivial⟩ (HSub.nil 1 9) ⟨jR _,O,(by omega),(by omega),hT1,(by show 0+s1.l.length<=_;omega)⟩ ?_);rintro f z ov o ⟨hlf,hf,hzw,hzn,hz,hol⟩;obtain ⟨f,rfl⟩:∃ k,f=k+1:=⟨f-1,by omega⟩;refine gQ 10 [1] O O ?_;refine tC O (λhc5=>?_) (λhc5=>?_)
 · simp only[bX,bJ] at hc5;have hbf:z.b=false:=(by simpa using hc5);refine g' 7 O (tX [1] O O acs (zgM g z 1 (by omega) (by omega) hz (by decide)) ?_);rintro _ _ ⟨t6,s6,e6,rfl,rfl⟩;obtain ⟨ka6,kb6,kc6,hT6⟩:=(zen e6).out hz;have kz6:=zek e6 hz;refine tE O (Qu.ef (d:=.sh 1 ([t6].map D.s)) (zp [.tmp 20] O O (.cons CellD.s .nil) O bK eE bW O O O O)) ?_;rintro _ _ ⟨rfl,rfl⟩;refine tE O (zG (f:=D.s) (l:=o) (l':=[t6]) (i:=1) O O O (SrcD.sh) aOk aOp O O (by unfold maxLen;(try simp only[la,lc,ln,lm,lt',ld,ls,lr]);omega) (by (try simp only[la,lc,ln,lm,lt',ld,ls,lr]);omega)) ?_;rintro _ _ ⟨v7,rfl,rfl⟩;refine g' 6 O (tE O (Qu.ef (d:=.sh 1 ([(⟨#[44]⟩:Ba)].map D.s)) ((zp [.const (.string ⟨#[44]⟩)] O O (.cons (CellD.v O) .nil) O bK eE bW O O O O).cv (mN (.cons cS .nil)))) ?_);rintro _ _ ⟨rfl,rfl⟩;refine tX [0] O O acs (zeW g s6 5 [(⟨#[44]⟩:Ba)] (by omega) (by omega) hT6 (by decide)) ?_;rintro _ _ ⟨t8,q8,s8,e8,rfl,rfl⟩;obtain ⟨ka8,kb8,kc8,hT8⟩:=(zeV e8).out hT6;have kz8:=zeU e8 hT6;refine g' 13 O ?_;refine tC O (λhc9=>?_) (λhc9=>?_)
   · simp only[bX,bJ] at hc9;have hff:=hf.symm.trans (aGr hbf e6 e8 (by simpa using hc9));refine g' 8 O (tX [0] O O (ga (.cons (ArgC.cv cS) .nil)) (zdt g s8 (⟨#[41]⟩:Ba) (by omega) (by omega) hT8) ?_);rintro _ _ ⟨s10,e10,rfl,rfl⟩;obtain ⟨ka10,kb10,kc10,hT10⟩:=(za9 e10).out hT8;refine g' 9 O (mY 1 O ?_);refine mV (Mv.freeze (K':=[(0,dP g 0),(2,.sh 1 ((o++[t6]).map D.s)),(3,.sh 1 ((o++[t6]).map D.s)),(4,.s t8),(5,dB q8),(13,dP g 0),(14,dP g 0),(15,dP g 2),(16,dB z.b),(17,dB (!z.b)),(18,.ov ov),(19,dP g 0),(20,.s t6),(21,.sh 1 ([t6].map D.s)),(22,.sh 1 ((o++[t6]).map D.s)),(23,.tup [.s t8,dB q8]),(24,dP g 0),(25,.sh 1 ([(⟨#[44]⟩:Ba)].map D.s)),(26,.tup [.s t8,dB q8]),(27,.s t8),(28,dB q8),(29,dB q8),(30,dB (!q8)),(31,dP g 0),(32,.tup []),(33,.sh 1 ((o++[t6]).map D.s))]) [.sl v7 1 9 ((o++[t6]).map D.s)] (H1:=[RB g s10]) (H1':=[RB g s10]) ⟨⟨_,O,mJ⟩,⟨_,O,mK (j:=0) O O⟩,⟨_,O,mK (j:=0) O O⟩,⟨_,O,mJ⟩,⟨_,O,mJ⟩,⟨_,O,mJ⟩,⟨_,O,mJ⟩,⟨_,O,mJ⟩,⟨_,O,mJ⟩,⟨_,O,mJ⟩,⟨_,O,mJ⟩,⟨_,O,mJ⟩,⟨_,O,mJ⟩,⟨_,O,mJ⟩,⟨_,O,mK (j:=0) O O⟩,⟨_,O,mJ⟩,⟨_,O,mJ⟩,⟨_,O,mJ⟩,⟨_,O,mJ⟩,⟨_,O,mJ⟩,⟨_,O,mJ⟩,⟨_,O,mJ⟩,⟨_,O,mJ⟩,⟨_,O,mJ⟩,⟨_,O,mJ⟩,⟨_,O,mK (j:=0) O O⟩,trivial⟩ (.same .nil)) ?_;exact tR O (mO 1 O) ⟨(o++[t6]),⟨s10.l,s10.n,s10.b⟩,aIa e1 (by simpa using hc3) hff e10,O,O⟩
   simp only[bX,bJ] at hc9;obtain ⟨ky,_⟩:=aQe e8 (by decide) (by simpa using hc9);refine g' 2 O (mY 1 O ?_);exact tp4 f s8 v7 (o++[t6]) (sa O) w8 ⟨by omega,(aJn hbf e6 e8 (by simpa using hc9)).symm.trans hf,by omega,by omega,hT8,by simp only[la,jN];omega⟩ (by omega)
 simp only[bX,bJ] at hc5;have hff:=hf.symm.trans (aIf (by simpa using hc5));refine g' 8 O (tX [1] O O (ga (.cons (ArgC.cv cS) .nil)) (zdt g z (⟨#[41]⟩:Ba) (by omega) (by omega) hz) ?_);rintro _ _ ⟨s11,e11,rfl,rfl⟩;obtain ⟨ka11,kb11,kc11,hT11⟩:=(za9 e11).out hz;refine g' 9 O (mY 1 O (mV (Mv.freeze (K':=[(0,dP g 0),(2,.sh 1 (o.map D.s)),(3,.sh 1 (o.map D.s)),(13,dP g 0),(14,dP g 0),(15,dP g 2),(16,dB z.b),(17,dB (!z.b)),(31,dP g 0),(32,.tup []),(33,.sh 1 (o.map D.s))]) [.sl ov 1 9 (o.map D.s)] (H1:=[RB g s11]) (H1':=[RB g s11]) ⟨⟨_,O,mJ⟩,⟨_,O,mK (j:=0) O O⟩,⟨_,O,mK (j:=0) O O⟩,⟨_,O,mJ⟩,⟨_,O,mJ⟩,⟨_,O,mJ⟩,⟨_,O,mJ⟩,⟨_,O,mJ⟩,⟨_,O,mJ⟩,⟨_,O,mJ⟩,⟨_,O,mK (j:=0) O O⟩,trivial⟩ (.same .nil)) ?_));exact tR O (mO 1 O) ⟨o,⟨s11.l,s11.n,s11.b⟩,aIa e1 (by simpa using hc3) hff e11,O,O⟩
def aP7 (g:Nat) (s:Rd) (a b:Ba) (hw:s.n+2*(s.l.length:Int)<=3000000) (hn:0<=s.n) (hT:TOk s.l):
 CD prog 97 [RB g s] [dP g 0,.s a,.s b] (λr H'=>∃ m l s',(m,l,s')=s.mode a b/\r=.tup [dI m,.sh 1 (l.map D.s)]/\H'=[RB g s']):=by
 refine tZ func97 O O (λC=>?_);refine T.bd 1 O (λbd1=>?_);have sz1:a.size<=9223372036854775807:=bd1;refine T.bd 2 O (λbd2=>?_);have sz2:b.size<=9223372036854775807:=bd2;refine g' 11 O (tE O (Qu.ef (d:=.sh 1 ([a,b].map D.s)) (zp [.tmp 12,.tmp 13] O O (.cons CellD.s (.cons CellD.s .nil)) O bK eE bW O O O O)) ?_);rintro _ _ ⟨rfl,rfl⟩;refine tX [0] O O acs (zeW g s 1 [a,b] (by omega) (by omega) hT (by decide)) ?_;rintro _ _ ⟨t1,q1,s1,e1,rfl,rfl⟩;obtain ⟨ka1,kb1,kc1,hT1⟩:=(zeV e1).out hT;have kz1:=zeU e1 hT;refine g' 16 O ?_;refine tC O (λhc2=>?_) (λhc2=>?_)
 · simp only[bX,bJ] at hc2;refine g' 9 O ?_;exact tRs O results97 (.cons (za O) (.cons (zc (za O) (Cv.nil)) .nil)) O (mO 1 O) ⟨0,[],⟨s1.l,s1.n,s1.b⟩,aXc e1 (by simpa using hc2),O,O⟩
 simp only[bX,bJ] at hc2;refine g' 8 O ?_;refine tD O (λhc3=>?_) (λhc3=>?_)
 · refine g' 3 O (tX [0] O O acs (aG9 g s1 (by omega) (by omega) hT1) ?_);rintro _ _ ⟨l4,s4,e4,rfl,rfl⟩;obtain ⟨ka4,kb4,kc4,hT4⟩:=(aIn e4).out hT1;refine g' 7 O ?_;exact tR O (mO 1 O) ⟨1,l4,⟨s4.l,s4.n,s4.b⟩,aVy e1 (by simpa using hc2) hc3 e4,O,O⟩
 refine g' 6 O (tX [0] O O acs (aG9 g s1 (by omega) (by omega) hT1) ?_);rintro _ _ ⟨l5,s5,e5,rfl,rfl⟩;obtain ⟨ka5,kb5,kc5,hT5⟩:=(aIn e5).out hT1;refine g' 5 O ?_;exact tR O (mO 1 O) ⟨2,l5,⟨s5.l,s5.n,s5.b⟩,aUz e1 (by simpa using hc2) hc3 e5,O,O⟩
def aQi:BdP prog #[⟨"of",231,0,false, "", "leporello/window",0⟩] [(0,1)]:=λ_=>by kernel_rfl
def aB5:BdP prog #[⟨"of",165,0,false, "", "leporello/window",0⟩] [(0,1)]:=λ_=>by kernel_rfl
def aOt:BdP prog #[⟨"each",4,0,false, "", "leporello/window",0⟩] [(0,1)]:=λ_=>by kernel_rfl
def aW6  :
 CD prog 260 [] [] (zcA 1 9 (aggN.map D.s)):=by
 refine tZ func260 O O (λC=>?_);refine g' 7 O (tE O (zw [.const (.string ⟨#[115,117,109]⟩),.const (.string ⟨#[109,105,110]⟩),.const (.string ⟨#[109,97,120]⟩),.const (.string ⟨#[99,111,117,110,116]⟩),.const (.string ⟨#[97,118,103]⟩),.const (.string ⟨#[116,111,112,107]⟩),.const (.string ⟨#[113,117,97,110,116,105,108,101]⟩)] O O (.cons (CellD.v O) (.cons (CellD.v O) (.cons (CellD.v O) (.cons (CellD.v O) (.cons (CellD.v O) (.cons (CellD.v O) (.cons (CellD.v O) .nil))))))) O bK eE bW O O O O) ?_);rintro _ _ ⟨g1,rfl,rfl⟩;refine g' 4 O (mW (mB (h':=.sl (vS g1 7 7) 1 9 ([(⟨#[115,117,109]⟩:Ba),(⟨#[109,105,110]⟩:Ba),(⟨#[109,97,120]⟩:Ba),(⟨#[99,111,117,110,116]⟩:Ba),(⟨#[97,118,103]⟩:Ba),(⟨#[116,111,112,107]⟩:Ba),(⟨#[113,117,97,110,116,105,108,101]⟩:Ba)].map D.s)) O (mM (.cons cS (.cons cS (.cons cS (.cons cS (.cons cS (.cons cS (.cons cS .nil))))))))) (mW (w9 (zaJ (i:=0) O)) (mW (mB (h':=.sl (vS g1 7 7) 1 9 (aggN.map D.s)) O (mD (show List.map D.s [(⟨#[115,117,109]⟩:Ba),(⟨#[109,105,110]⟩:Ba),(⟨#[109,97,120]⟩:Ba),(⟨#[99,111,117,110,116]⟩:Ba),(⟨#[97,118,103]⟩:Ba),(⟨#[116,111,112,107]⟩:Ba),(⟨#[113,117,97,110,116,105,108,101]⟩:Ba)]=List.map D.s aggN from aG _ (by rfl)))) ?_)));exact tR O w8 ⟨_,O,O⟩
def aRi (name:Ba) :
 CD prog 210 [] [.s name] (isR (dB (hasN aggN name))):=by
 refine tZ func210 O O (λC=>?_);refine T.bd 0 O (λbd0=>?_);have sz0:name.size<=9223372036854775807:=bd0;refine g' 7 O (tX [] O O acs (aW6) ?_);rintro _ _ ⟨v1,rfl,rfl⟩;refine g' 1 O (tV [0] O O (.cons (mK (j:=0) O O) (ga .nil)) (zdq aggN name) O (g' 4 O ?_));exact tR O HSub.none ⟨O,O⟩
def aVr (h0:¬t=⟨#[115,117,109,95,111,118,101,114]⟩) (h1:¬t=⟨#[97,118,103,95,111,118,101,114]⟩) (h2:¬t=⟨#[109,105,110,95,111,118,101,114]⟩) (h3:¬t=⟨#[109,97,120,95,111,118,101,114]⟩) (h4:¬t=⟨#[99,111,117,110,116,95,111,118,101,114]⟩) (h5:¬t=⟨#[108,97,115,116,95,111,118,101,114]⟩) (h6:¬t=⟨#[105,110,99,114,101,97,115,101]⟩) (h7:¬t=⟨#[114,97,116,101]⟩):hasN fnN t=false:=by
 unfold hasN fnN;simp only[jY,uB,jB,jE,aJ];exact⟨uQ h0,uQ h1,uQ h2,uQ h3,uQ h4,uQ h5,uQ h6,uQ h7⟩
def aEw (name:Ba) :
 CD prog 194 [] [.s name] (λr H'=>((∃ t x,r=.ifc t x/\hasN fnN name=true)\/(r=.v .nilIface/\hasN fnN name=false))/\H'=[]):=by
 refine tZ func194 O O (λC=>?_);refine T.bd 0 O (λbd0=>?_);have sz0:name.size<=9223372036854775807:=bd0;refine g' 18 O ?_;refine tD O (λhc1=>?_) (λhc1=>?_)
 · refine g' 2 O (tP O (zm [0] [.func 247] (zv:=cJ) O O (.cons CellD.fn .nil) (runUnderlying233) zeroValue233 aQi ⟨O,trivial⟩ O) (g' 7 O ?_));exact tR O HSub.none ⟨.inl ⟨233,_,O,by rw[hc1];decide⟩,O⟩
 refine g' 6 O ?_;refine tD O (λhc2=>?_) (λhc2=>?_)
 · refine g' 2 O (tP O (zm [0] [.func 248] (zv:=cJ) O O (.cons CellD.fn .nil) (runUnderlying233) zeroValue233 aQi ⟨O,trivial⟩ O) (g' 7 O ?_));exact tR O HSub.none ⟨.inl ⟨233,_,O,by rw[hc2];decide⟩,O⟩
 refine g' 6 O ?_;refine tD O (λhc3=>?_) (λhc3=>?_)
 · refine g' 2 O (tP O (zm [0] [.func 249] (zv:=cJ) O O (.cons CellD.fn .nil) (eK) zeroValue237 aB5 ⟨O,trivial⟩ O) (g' 7 O ?_));exact tR O HSub.none ⟨.inl ⟨237,_,O,by rw[hc3];decide⟩,O⟩
 refine g' 6 O ?_;refine tD O (λhc4=>?_) (λhc4=>?_)
 · refine g' 2 O (tP O (zm [0] [.func 250] (zv:=cJ) O O (.cons CellD.fn .nil) (eK) zeroValue237 aB5 ⟨O,trivial⟩ O) (g' 7 O ?_));exact tR O HSub.none ⟨.inl ⟨237,_,O,by rw[hc4];decide⟩,O⟩
 refine g' 6 O ?_;refine tD O (λhc5=>?_) (λhc5=>?_)
 · refine g' 2 O (tP O (zm [0] [.func 251] (zv:=cJ) O O (.cons CellD.fn .nil) (eK) zeroValue237 aB5 ⟨O,trivial⟩ O) (g' 7 O ?_));exact tR O HSub.none ⟨.inl ⟨237,_,O,by rw[hc5];decide⟩,O⟩
 refine g' 6 O ?_;refine tD O (λhc6=>?_) (λhc6=>?_)
 · refine g' 2 O (tP O (zm [0] [.func 252] (zv:=cJ) O O (.cons CellD.fn .nil) (eK) zeroValue237 aB5 ⟨O,trivial⟩ O) (g' 7 O ?_));exact tR O HSub.none ⟨.inl ⟨237,_,O,by rw[hc6];decide⟩,O⟩
 refine g' 6 O ?_;refine tD O (λhc7=>?_) (λhc7=>?_)
 · refine g' 2 O (tP O (zm [] [] (zv:=(.agg #[(.bool false)])) O O (.nil) (runUnderlying240) zeroValue240 aOt ⟨O,trivial⟩ O) (g' 7 O ?_));exact tR O HSub.none ⟨.inl ⟨240,_,O,by rw[hc7];decide⟩,O⟩
 refine g' 6 O ?_;refine tD O (λhc8=>?_) (λhc8=>?_)
 · refine g' 2 O (tP O (zm [0] [.const (.bool true)] (zv:=(.agg #[(.bool false)])) O O (.cons (CellD.v O) .nil) (runUnderlying240) zeroValue240 aOt ⟨O,trivial⟩ O) (g' 7 O ?_));exact tR O HSub.none ⟨.inl ⟨240,_,O,by rw[hc8];decide⟩,O⟩
 refine g' 9 O ?_;exact tR O HSub.none ⟨.inr ⟨O,aVr hc1 hc2 hc3 hc4 hc5 hc6 hc7 hc8⟩,O⟩
def CD.to {P:Program} {f:FuncId} {H:List Hp} {ds:List D} {R R':D->List Hp->Prop} (h:CD P f H ds R) (k:∀ r H',R r H'->R' r H'):CD P f H ds R':=
 ⟨λw F vs h1 h2 h3=>(h.out w F vs h1 h2 h3).mono (by rintro e w' ⟨u,he,F',d,H',hR,hr,hg⟩;exact⟨u,he,F',d,H',k _ _ hR,hr,hg⟩)⟩
def aR9 (h:hasN fnN name=true):CD prog 194 [] [.s name] (λr H'=>∃ t x,r=.ifc t x/\H'=[]):=(aEw name).to (by
 rintro r H' ⟨⟨t,x,e,_⟩ | ⟨_,e⟩,e2⟩
 · exact⟨t,x,e,e2⟩
 rw[h] at e;cases e)
def aTo (h:hasN fnN name=false):CD prog 194 [] [.s name] (λr H'=>r=.v .nilIface/\H'=[]):=(aEw name).to (by
 rintro r H' ⟨⟨t,x,_,e⟩ | ⟨e,_⟩,e2⟩
 · rw[h] at e;cases e
 exact⟨e,e2⟩)
def aNj {ty t t':TypeId} {K:Kd} {H:List Hp} {x y:Operand} {T:TypeId} {d:D} (hx:opD K x=some (.ifc T d)) (hy:y=.const .nilIface) (ht:t=20):Pu prog (.binOp .neq t x y t') ty K H (dB true):=
 ⟨λρ F0 F hk _ _=>by
  subst hy;subst ht;obtain ⟨u,e,_⟩:=hk.op hx;exact zcb (zo ρ [x,.const .nilIface]) (zbn ρ e) (zbm ρ O) (λw=>by kernel_rfl) ⟨O,O⟩⟩
def Fn_c (name:Ba) :
 CD prog 239 [] [.s name] (isR (dB (hasN fnN name))):=by
 refine tZ func239 O O (λC=>?_);refine T.bd 0 O (λbd0=>?_);have sz0:name.size<=9223372036854775807:=bd0;rcases jA (hasN fnN name) with hw | hw
 · refine g' 8 O (tX [] O O acs (aR9 hw) ?_);rintro _ _ ⟨tw,xw,rfl,rfl⟩;refine tP O (aNj O O O) (g' 4 O ?_);exact tRs O results239 (.cons (zc (za O) (cB ((by rw[hw])))) .nil) O HSub.none ⟨O,O⟩
 refine g' 8 O (tW O acs (aTo hw) (tP O (zgv (r:=.bool false) O O (λ_=>by kernel_rfl)) (g' 4 O ?_)));exact tRs O results239 (.cons (zc (za O) (cB ((by rw[hw])))) .nil) O HSub.none ⟨O,O⟩
def aVu (s:Ba) :
 CD prog 285 [] [.s s] (isR (dB (zef s))):=by
 refine tZ func285 O O (λC=>?_);refine T.bd 0 O (λbd0=>?_);have sz0:s.size<=9223372036854775807:=bd0;refine g' 8 O (tW O acs (aRi s) (g' 1 O ?_));refine tOr 2 2 (c:=hasN fnN s) O O O O O O (λhb1 nx2=>?_) ?_
 · refine g' 1 O (tW O acs (Fn_c s) ?_);exact nx2 _ O O (kx 2 O O)
 refine g' 1 O ?_;refine tOr 6 3 (c:=hasN [(⟨#[111,114,100,101,114]⟩:Ba),(⟨#[108,105,109,105,116]⟩:Ba),(⟨#[111,102,102,115,101,116]⟩:Ba),(⟨#[97,115,99]⟩:Ba),(⟨#[100,101,115,99]⟩:Ba),(⟨#[111,110]⟩:Ba),(⟨#[105,103,110,111,114,105,110,103]⟩:Ba),(⟨#[98,121]⟩:Ba),(⟨#[119,105,116,104,111,117,116]⟩:Ba)] s) O O O O O O (λhb3 nx4=>?_) ?_
 · obtain ⟨hf5,hf6⟩:=orF hb3;refine tF O (Qu.ef (d:=.sh 1 ([(⟨#[111,114,100,101,114]⟩:Ba),(⟨#[108,105,109,105,116]⟩:Ba),(⟨#[111,102,102,115,101,116]⟩:Ba),(⟨#[97,115,99]⟩:Ba),(⟨#[100,101,115,99]⟩:Ba),(⟨#[111,110]⟩:Ba),(⟨#[105,103,110,111,114,105,110,103]⟩:Ba),(⟨#[98,121]⟩:Ba),(⟨#[119,105,116,104,111,117,116]⟩:Ba)].map D.s)) ((zp [.const (.string ⟨#[111,114,100,101,114]⟩),.const (.string ⟨#[108,105,109,105,116]⟩),.const (.string ⟨#[111,102,102,115,101,116]⟩),.const (.string ⟨#[97,115,99]⟩),.const (.string ⟨#[100,101,115,99]⟩),.const (.string ⟨#[111,110]⟩),.const (.string ⟨#[105,103,110,111,114,105,110,103]⟩),.const (.string ⟨#[98,121]⟩),.const (.string ⟨#[119,105,116,104,111,117,116]⟩)] O O (.cons (CellD.v O) (.cons (CellD.v O) (.cons (CellD.v O) (.cons (CellD.v O) (.cons (CellD.v O) (.cons (CellD.v O) (.cons (CellD.v O) (.cons (CellD.v O) (.cons (CellD.v O) .nil))))))))) O bK eE bW O O O O).cv (mN (.cons cS (.cons cS (.cons cS (.cons cS (.cons cS (.cons cS (.cons cS (.cons cS (.cons cS .nil)))))))))))) ?_;rintro _ _ ⟨rfl,rfl⟩;refine g' 1 O (tW O acs (zdq [(⟨#[111,114,100,101,114]⟩:Ba),(⟨#[108,105,109,105,116]⟩:Ba),(⟨#[111,102,102,115,101,116]⟩:Ba),(⟨#[97,115,99]⟩:Ba),(⟨#[100,101,115,99]⟩:Ba),(⟨#[111,110]⟩:Ba),(⟨#[105,103,110,111,114,105,110,103]⟩:Ba),(⟨#[98,121]⟩:Ba),(⟨#[119,105,116,104,111,117,116]⟩:Ba)] s) ?_);exact nx4 _ O O (kx 3 O O)
 refine g' 4 O ?_;exact tRs O results285 (.cons (zc (za O) (cB ((by rfl)))) .nil) O HSub.none ⟨O,O⟩
def aDt (name:Ba) :
 CD prog 284 [] [.s name] (isR (dB (zaA name))):=by
 refine tZ func284 O O (λC=>?_);refine T.bd 0 O (λbd0=>?_);have sz0:name.size<=9223372036854775807:=bd0;refine g' 10 O ?_;refine tOr 2 2 (c:=decide (name=(⟨#[113,117,97,110,116,105,108,101]⟩:Ba))) O O O O O O (λhb1 nx2=>?_) ?_
 · have hf3:=aC hb1;refine g' 2 O ?_;exact nx2 _ O O (kx 2 O O)
 refine g' 4 O ?_;exact tRs O results284 (.cons (zc (za O) (cB ((by rfl)))) .nil) O HSub.none ⟨O,O⟩
def zei:BdP prog #[⟨"Op",9,0,false, "", "",0⟩,⟨"Text",9,1,false, "", "",16⟩,⟨"N",3,2,false, "", "",32⟩,⟨"Mode",3,3,false, "", "",40⟩,⟨"Names",45,4,false, "", "",48⟩,⟨"Matchers",54,5,false, "", "",72⟩,⟨"Kids",55,6,false, "", "",96⟩] [(0,1),(1,1),(2,1),(3,1),(4,1),(5,1),(6,1)]:=λ_=>by kernel_rfl
def aGi {s s':Rd} (e:(t,s')=s.selName):Stp 0 s s':=by
 have h:s'=s.selName.2:=aG Prod.snd e;rw[h];unfold Rd.selName;split;exact zco s 1;exact mT s
def aUe {s s':Rd} {ms:List MatD} (e:(ms,s')=s.selMs rmD t):Stp 0 s s':=by
 have h:s'=(s.selMs rmD t).2:=aG Prod.snd e;rw[h];unfold Rd.selMs;split;exact nZ rmD s;exact(mT s).bad _
def aLj {s s':Rd} {w:Int} (e:(w,s')=s.selWin):Stp 0 s s':=by
 have h:s'=s.selWin.2:=aG Prod.snd e;rw[h];unfold Rd.selWin;split
 · exact(((z8 s 5 [tSq]).trans (zbu _ 4)).trans (zaa _ _)).le (by omega)
 exact z8 s 5 _
def aEi {s:Rd} (h:¬s.is 5 [zaq]=true) (ht:t=ByteArray.empty):([],(⟨s.l,s.n,true⟩:Rd))=s.selMs rmD t:=by rw[<-aIe rmD h,aE ht,vP]
def aK5 {s:Rd} (h:¬s.is 5 [zaq]=true) (ht:¬t=ByteArray.empty):([],(⟨s.l,s.n,s.b⟩:Rd))=s.selMs rmD t:=by rw[<-aIe rmD h,aD ht,jB]
def aC7 (g:Nat) (s:Rd) (ev es:Value) (hev:EvOk ev) (hes:EvOk es) (hw:s.n+2*(s.l.length:Int)<=3000000) (hn:0<=s.n) (hT:TOk s.l):
 CD prog 240 [RB g s,HPow,HErr ev,HSyn es] [dP g 0] (NdR g ev es (s.selector rmD)):=by
 refine tZ func240 O O (λC=>?_);refine g' 2 O ?_;refine tA O (λg1=>?_);refine g' 4 O (tP O (zm [0] [.const (.string ⟨#[115,101,108]⟩)] (zv:=n9) O O (.cons (CellD.v O) .nil) (eC) bV zei ⟨O,O,O,O,O,O,O,trivial⟩ O) ?_);refine tA O (λg2=>?_);refine gQ 4 [0] O O (mW (mB (h':=.bx g2 57 (n7 nSel ByteArray.empty 0 0 ([]:List Ba) ([]:List MatD) ([]:List Nd))) O (mC (Cv.agg (.cons cS (.cons cS (gc (gc (.cons Cv.nil (.cons Cv.nil (.cons Cv.nil .nil)))))))))) (g' 2 O (tX [2] O O acs (aB8 g s (by omega) (by omega) hT) ?_)));rintro _ _ ⟨rfl,rfl⟩;refine tA O (λg4=>?_);refine gQ 10 [0,0] O O ?_;refine tAnd 3 4 (c:=!(zef s.pk.t)) O O O O O O (λhb5 nx6=>?_) ?_
 · have hf7:=aF hb5;refine gQ 2 [0] O O (tW O acs (aVu s.pk.t) (g' 1 O ?_));exact nx6 _ O O (kx 4 O O)
 refine g' 2 O ?_;refine tJ (λ(jg:Ba×Rd)=>[(0,dP g 0),(2,dP g1 0),(3,dP g2 0)]) (λ(jg:Ba×Rd)=>[.bx g1 57 n8,.bx g2 57 (n7 nSel jg.1 0 0 ([]:List Ba) ([]:List MatD) ([]:List Nd)),.bx g 83 (.agg [.sh 3 (jg.2.l.map TokD.d),dI jg.2.n,dB jg.2.b]),HPow,HErr ev,HSyn es]) (λ(jg:Ba×Rd)=>((jg.1,jg.2)=s.selName)) (λ_ hQ8=>?_) ?_
 · refine tC O (λhc9=>?_) (λhc9=>?_)
   · simp only[bX,bJ] at hc9;have hkk:s.pk.k=1/\zef s.pk.t=false:=(by simpa using hc9);refine g' 2 O (tX [1] O O acs (zgM g s 1 (by omega) (by omega) hT (by decide)) ?_);rintro _ _ ⟨t10,s10,e10,rfl,rfl⟩;obtain ⟨ka10,kb10,kc10,hT10⟩:=(zen e10).out hT;have kz10:=zek e10 hT;refine gQ 3 [2] O O (mY 6 O (mY 6 O (mY 6 O (mY 3 O (mY 5 O (mY 6 O (mW (mO 6 O) ?_)))))));exact tqe (hQ8 (t10,s10) (aH1 hkk e10)) O
   simp only[bX,bJ] at hc9;have hkk:¬(s.pk.k=1/\zef s.pk.t=false):=(by rintro ⟨a,b⟩;have h:=hc9;rcases h with h | h;exact h a;(rw[b] at h;cases h));refine g' 1 O (mY 6 O (mY 6 O (mY 6 O (mY 4 O (mY 5 O (mY 6 O (mW (mO 6 O) ?_)))))));exact tqe (hQ8 (ByteArray.empty,s) (aF3 hkk)) O
 rintro ⟨t,z⟩ hsel
 replace hsel:(t,z)=s.selName:=hsel
 refine T.kk [(0,dP g 0),(2,dP g1 0),(3,dP g2 0)] O (mX [.bx g1 57 n8,.bx g2 57 (n7 nSel t 0 0 ([]:List Ba) ([]:List MatD) ([]:List Nd)),RB g z,HPow,HErr ev,HSyn es] (by rfl) (g' 3 O ?_));obtain ⟨kx1,ky1,kz1,hTj1⟩:=(aGi hsel).out hT;refine g' 2 O (tE O (Qu.ef (d:=.sh 1 ([(⟨#[123]⟩:Ba)].map D.s)) ((zp [.const (.string ⟨#[123]⟩)] O O (.cons (CellD.v O) .nil) O bK eE bW O O O O).cv (mN (.cons cS .nil)))) ?_);rintro _ _ ⟨rfl,rfl⟩;refine tX [2] O O acs (is_c g z 5 [(⟨#[123]⟩:Ba)] (by omega) (by omega) hTj1) ?_;rintro _ _ ⟨rfl,rfl⟩;refine g' 2 O ?_;refine tJ (λ(jg:List MatD×Rd)=>[(0,dP g 0),(2,dP g1 0),(3,dP g2 0)]) (λ(jg:List MatD×Rd)=>[.bx g1 57 n8,.bx g2 57 (n7 nSel t 0 0 ([]:List Ba) jg.1 ([]:List Nd)),.bx g 83 (.agg [.sh 3 (jg.2.l.map TokD.d),dI jg.2.n,dB jg.2.b]),HPow,HErr ev,HSyn es]) (λ(jg:List MatD×Rd)=>((jg.1,jg.2)=z.selMs rmD t)) (λ_ hQ12=>?_) ?_
 · refine tC O (λhc13=>?_) (λhc13=>?_)
   · exfalso;exact aE4 hTj1 hc13
   refine gQ 7 [2] O O ?_;refine tD O (λhc14=>?_) (λhc14=>?_)
   · refine gQ 6 [0] O O (mY 5 O (mY 5 O (mY 5 O (mY 3 O (mY 5 O (mY 5 O ?_))))));exact tqe (hQ12 (([]:List MatD),(⟨z.l,z.n,true⟩:Rd)) (aEi (by simpa using hc13) hc14)) O
   refine g' 1 O (mY 5 O (mY 5 O (mY 5 O (mY 3 O (mY 5 O (mY 5 O ?_))))));exact tqe (hQ12 (([]:List MatD),(⟨z.l,z.n,z.b⟩:Rd)) (aK5 (by simpa using hc13) hc14)) O
 rintro ⟨ms,y⟩ hms
 replace hms:(ms,y)=z.selMs rmD t:=hms
 refine T.kk [(0,dP g 0),(2,dP g1 0),(3,dP g2 0)] O (mX [.bx g1 57 n8,.bx g2 57 (n7 nSel t 0 0 ([]:List Ba) ms ([]:List Nd)),RB g y,HPow,HErr ev,HSyn es] (by rfl) (g' 3 O ?_));obtain ⟨kx2,ky2,kz2,hTj2⟩:=(aUe hms).out hTj1;refine g' 2 O (tE O (Qu.ef (d:=.sh 1 ([(⟨#[91]⟩:Ba)].map D.s)) ((zp [.const (.string ⟨#[91]⟩)] O O (.cons (CellD.v O) .nil) O bK eE bW O O O O).cv (mN (.cons cS .nil)))) ?_);rintro _ _ ⟨rfl,rfl⟩;refine tX [2] O O acs (zeW g y 5 [(⟨#[91]⟩:Ba)] (by omega) (by omega) hTj2 (by decide)) ?_;rintro _ _ ⟨t15,q15,s15,e15,rfl,rfl⟩;obtain ⟨ka15,kb15,kc15,hT15⟩:=(zeV e15).out hTj2;have kz15:=zeU e15 hTj2;refine g' 12 O ?_;refine tJ (λ(jg:Int×Rd)=>[(0,dP g 0),(2,dP g1 0),(3,dP g2 0)]) (λ(jg:Int×Rd)=>[.bx g1 57 n8,.bx g2 57 (n7 nSel t jg.1 0 ([]:List Ba) ms ([]:List Nd)),.bx g 83 (.agg [.sh 3 (jg.2.l.map TokD.d),dI jg.2.n,dB jg.2.b]),HPow,HErr ev,HSyn es]) (λ(jg:Int×Rd)=>((jg.1,jg.2)=y.selWin)) (λ_ hQ16=>?_) ?_
 · refine tC O (λhc17=>?_) (λhc17=>?_)
   · refine g' 3 O (tX [0,2,2,2] O O acs (qW g s15 4 ev es hev hes (by omega) (by omega) hT15 (by omega)) ?_);rintro _ _ ⟨v18,s18,e18,rfl,rfl⟩;obtain ⟨ka18,kb18,kc18,hT18⟩:=(iU e18).out hT15;have kv18:=fY e18 (by omega) hT15;refine gQ 6 [5] O O (tX [0] O O (ga (.cons (ArgC.cv cS) .nil)) (zdt g s18 (⟨#[93]⟩:Ba) (by omega) (by omega) hT18) ?_);rintro _ _ ⟨s19,e19,rfl,rfl⟩;obtain ⟨ka19,kb19,kc19,hT19⟩:=(za9 e19).out hT18;refine g' 1 O (mY 3 O (mY 3 O (mY 3 O (mY 3 O (mY 5 O (mY 5 O ?_))))));exact tqe (hQ16 (v18,s19) (aKf e15 hc17 e18 e19)) O
   refine g' 1 O (mY 5 O (mY 5 O (mY 5 O (mY 3 O (mY 5 O (mY 5 O ?_))))));exact tqe (hQ16 (0,s15) (aMm e15 (by simpa using hc17))) O
 rintro ⟨w,v⟩ hwi
 replace hwi:(w,v)=y.selWin:=hwi
 refine T.kk [(0,dP g 0),(2,dP g1 0),(3,dP g2 0)] O (mX [.bx g1 57 n8,.bx g2 57 (n7 nSel t w 0 ([]:List Ba) ms ([]:List Nd)),RB g v,HPow,HErr ev,HSyn es] (by rfl) (g' 2 O ?_));obtain ⟨kx3,ky3,kz3,hTj3⟩:=(aLj hwi).out hTj2;refine gQ 3 [1] O O (tX [2] O O acs (zgd g v (.s nSel) (.s t) (dI w) (dI 0) (.sh 1 (([]:List Ba).map D.s)) (.sh 3 (ms.map MatD.d)) (.sh 7 (Nd.ds ([]:List Nd))) (by omega) (by omega) hTj3) ?_);rintro _ _ ⟨s20,e20,rfl,rfl⟩;obtain ⟨ka20,kb20,kc20,hT20⟩:=(zgc e20).out hTj3;refine gQ 4 [1] O O (mY 5 O (mY 5 O (mY 5 O (mY 3 O ?_))));exact tRs O results240 (.cons (zu (i:=4) O O bS aY O O) .nil) O (mO 4 O) ⟨nSel,t,w,0,([]:List Ba),ms,([]:List Nd),⟨s20.l,s20.n,s20.b⟩,aAd rmD hsel hms hwi e20,O,O⟩
end Lp
