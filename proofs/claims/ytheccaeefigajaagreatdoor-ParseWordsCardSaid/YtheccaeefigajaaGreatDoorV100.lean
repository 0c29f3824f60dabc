import Derived.Test.YtheccaeefigajaaGreatDoorV123
set_option linter.unusedSimpArgs false
set_option linter.unusedVariables false
set_option maxHeartbeats 4000000
set_option maxRecDepth 100000
namespace Lp
open Go Go.RowKit Go.Proofs
theorem unary7_s (g:Nat) (s:Rd) (L:Nat) (ex:Rd→Nd×Rd) (f:Nat) (hex:zba 89 [dI 0] L ex) (hst:∀ s,Sk 1 s (ex s).2) (hL:s.l.length<L+1) (ih:∀ (g:Nat) (s:Rd),s.l.length<f→s.l.length<L+1→s.n+2*(s.l.length:Int)≤2000000→0≤s.n→TOk s.l→CD Tryz.prog 139 [RB7 g s] [dP g 0] (NdR7 g (zaV rmD ex f s))) (hf:s.l.length<f+1) (hw:s.n+2*(s.l.length:Int)≤2000000) (hn:0≤s.n) (hT:TOk s.l):
 CD Tryz.prog 139 [RB7 g s] [dP g 0] (NdR7 g (zaV rmD ex (f+1) s)):=by
 refine tZ Tryz.func139 O O (fun C=>?_)
 refine g' 2 O ?_
 refine tA O (fun g1=>?_)
 refine g' 6 O (tX [1] O O (ga (ga (.cons (ArgC.cv cS) .nil))) (zcK g s 5 (⟨#[45]⟩:ByteArray) (by omega) (by omega) hT (by decide)) ?_)
 rintro _ _ ⟨rfl,rfl⟩
 refine g' 2 O ?_
 refine tC O (fun hc3=>?_) (fun hc3=>?_)
 · skip
   have hml:=zek hc3 (by decide)
   refine gQ 7 [0] O O (tP O ((za8 (a:=1) (b:=s.l.length) O O O (by first | rfl | (show _=_;(try simp only[lm]);omega) | exact List.length_map _) (by first | rfl | (show _=_;(try simp only[lm]);omega) | exact List.length_map _) Tryz.runUnderlying67 Tryz.sizeOf135 (by omega) (by simp only[lm];omega)).cv (Cv.eq (by rw[←List.map_take,←List.map_drop]))) (gQ 6 [0] O O ?_))
   obtain ⟨s4,e4⟩:∃ x:Rd,x=⟨((s.l.take s.l.length).drop 1),s.n,s.b⟩:=⟨_,rfl⟩
   refine T.norm [RB7 g s4,.bx g1 27 n8] (by rw[e4]<;>rfl) ?_
   obtain ⟨hq4,ka4,kb4,kc4,hT4⟩:=tl_e e4 hml hT
   refine g' 3 O (tX [0] O O acs (ih g s4 (by omega) (by omega) (by omega) (by omega) hT4) ?_)
   rintro _ _ ⟨no5,nt5,nn5,nm5,nl5,ns5,nk5,s5,e5,rfl,rfl⟩
   obtain ⟨ka5,kb5,kc5,hT5⟩:=(nd_e e5 ((zck hst f s4).p)).out hT4
   refine tE O (Qu.ef (d:=.sh 7 ([(Nd.mk no5 nt5 nn5 nm5 nl5 ns5 nk5)].map Nd.d)) (ze [.tmp 15] O O (.cons CellD.agg .nil) O Tryz.runUnderlying25 Tryz.sizeOf27 Tryz.zeroValue27 O O O O)) ?_
   rintro _ _ ⟨rfl,rfl⟩
   refine tP O (zf [0,6] [.const (.string (⟨#[110,101,103]⟩:ByteArray)),.tmp 16] (zv:=n9) O O (.cons (CellD.v O) (.cons CellD.sh .nil)) (Tryz.runUnderlying27) Tryz.zeroValue27 zdd ⟨O,O,O,O,O,O,O,trivial⟩ O) (tX [0] O O acs (zei g s5 (.v (.string (⟨#[110,101,103]⟩:ByteArray))) (.v (.string ByteArray.empty)) (dI 0) (dI 0) (dZ) (dZ) (.sh 7 ([(Nd.mk no5 nt5 nn5 nm5 nl5 ns5 nk5)].map Nd.d)) (by omega) (by omega) hT5) ?_)
   rintro _ _ ⟨s6,e6,rfl,rfl⟩
   obtain ⟨ka6,kb6,kc6,hT6⟩:=(zeh e6).out hT5
   refine gQ 5 [1] O O ?_
   exact tRs O Tryz.results139 (.cons (zd (zh (X:=.agg [.v (.string (⟨#[110,101,103]⟩:ByteArray)),.v (.string ByteArray.empty),dI 0,dI 0,dZ,dZ,.sh 7 ([(Nd.mk no5 nt5 nn5 nm5 nl5 ns5 nk5)].map Nd.d)]) (d:=.agg [.v (.string (⟨#[110,101,103]⟩:ByteArray)),.v (.string ByteArray.empty),dI 0,dI 0,dZ,dZ,.sh 7 ([(Nd.mk no5 nt5 nn5 nm5 nl5 ns5 nk5)].map Nd.d)]) (i:=1) O O Tryz.isAgg27 Tryz.sizeOf27 O O) (Cv.agg (.cons (cS) (.cons (cS) (gc (gc (.cons (Cv.nil) (.cons (Cv.nil) (gc .nil))))))))) .nil) O (HSub.fst 1 O) ⟨(⟨#[110,101,103]⟩:ByteArray),ByteArray.empty,0,0,[],[],[(Nd.mk no5 nt5 nn5 nm5 nl5 ns5 nk5)],⟨s6.l,s6.n,s6.b⟩,unary7_1 hc3 hq4 e5 e6,O,O⟩
 · skip
   refine g' 5 O (tX [0] O O acs (prim7_s g s L ex hex hst (by omega) (by omega) (by omega) hT) ?_)
   rintro _ _ ⟨no7,nt7,nn7,nm7,nl7,ns7,nk7,s7,e7,rfl,rfl⟩
   obtain ⟨ka7,kb7,kc7,hT7⟩:=(nd_e e7 ((prim7_sk hst s).p)).out hT
   refine gQ 4 [1] O O ?_
   exact tRs O Tryz.results139 (.cons (zh (i:=1) O O Tryz.isAgg27 Tryz.sizeOf27 O O) .nil) O (HSub.fst 1 O) ⟨no7,nt7,nn7,nm7,nl7,ns7,nk7,⟨s7.l,s7.n,s7.b⟩,unary7_0 (by simpa using hc3) e7,O,O⟩
theorem unary7_c (L:Nat) (ex:Rd→Nd×Rd) (hex:zba 89 [dI 0] L ex) (hst:∀ s,Sk 1 s (ex s).2):zba 139 [] (L+1) (fun s=>zaV rmD ex (s.l.length+1) s):=by
 have key:∀ (f g:Nat) (s:Rd),s.l.length<f→s.l.length<L+1→s.n+2*(s.l.length:Int)≤2000000→0≤s.n→TOk s.l→CD Tryz.prog 139 [RB7 g s] [dP g 0] (NdR7 g (zaV rmD ex f s)):=by
  intro f
  induction f with
  | zero=>intro g s h;exact absurd h (by omega)
  | succ f ih=>intro g s h hL hw hn hT;exact unary7_s g s L ex f hex hst hL ih h hw hn hT
 exact fun g s hL hw hn hT=>key (s.l.length+1) g s (by omega) hL hw hn hT
def ofT (t:ByteArray):Int:=if hasN [tEqq,tNe,tLt,tLe,tGt,tGe] t=true then 0 else if t=zda∨t=zaE then 1 else if (t=zbO∨t=zex)∨t=tMod then 2 else -1
section
variable {s z z1 y s1 s2 s3:Rd} {sg:List ByteArray} {j m:Int} {l:List ByteArray} {x:TokD} {o q n:Nd} {part:Rd→Nd×Rd} {f:Nat}
theorem level7_stop (h:z.b=true∨z.is 5 sg=false):zbw part sg f o z=(o,z):=by cases f<;>unfold zbw;rfl;rw[if_pos h]
theorem is_0 (h:z.l.length=0):z.is 5 sg=false:=by unfold Rd.is;rw[pk_0 h];rfl
theorem is_k5 (hx:z.l[0]?=some x) (h:¬x.k=5):z.is 5 sg=false:=by unfold Rd.is;rw[pk_x hx,decide_eq_false h];rfl
theorem is_of (hsg:∀ t,ofT t=j↔hasN sg t=true) (hx:z.l[0]?=some x) (h:x.k=5) (hm:m=ofT x.t):z.is 5 sg=decide (m=j):=by
 unfold Rd.is;rw[pk_x hx,decide_eq_true h,Bool.true_and,hm]
 cases e:hasN sg x.t with
 | true=>rw[decide_eq_true ((hsg _).2 e)]
 | false=>rw[decide_eq_false (fun k=>by rw[(hsg _).1 k] at e;cases e)]
theorem level7_go (hb:z.b=false) (hx:z.l[0]?=some x) (hi:z.is 5 sg=true) (e1:z1=z.tl) (e2:(m,l,y)=z1.mode7 tOn zO) (e3:(q,s1)=part y) (e4:s2=s1.node7):zbw part sg (f+1) o z=zbw part sg f (.mk tBin x.t 0 m l [] [o,q]) s2:=by
 conv=>lhs;unfold zbw
 rw[if_neg (by rw[hb,hi];simp)];simp only;rw[←e1,←e2];simp only;rw[←e3,pk_x hx,e4]
theorem level7_of (e:(n,s1)=part s) (hf:zbw part sg (s1.l.length+1) n s1=(o,s2)):(o,s2)=s.level7 part sg:=by unfold Rd.level7;rw[←e];exact hf.symm
end
theorem chain3_s (g:Nat) (s:Rd) (j:Int) (L:Nat) (part:Rd→Nd×Rd) (hj:j=3) (hp:zba 139 [] L part) (hst:∀ s,Sk 1 s (part s).2) (hL:s.l.length<L) (hw:s.n+2*(s.l.length:Int)≤2000000) (hn:0≤s.n) (hT:TOk s.l):
 CD Tryz.prog 89 [RB7 g s] [dP g 0,dI j] (NdR7 g (part s)):=by
 refine tZ Tryz.func89 O O (fun C=>?_)
 refine g' 2 O ?_
 refine tA O (fun g1=>?_)
 refine g' 9 O ?_
 refine tD O (fun hc2=>?_) (fun hc2=>?_)
 · skip
   refine g' 3 O (tX [1] O O acs (hp g s (by omega) (by omega) (by omega) hT) ?_)
   rintro _ _ ⟨no3,nt3,nn3,nm3,nl3,ns3,nk3,s3,e3,rfl,rfl⟩
   obtain ⟨ka3,kb3,kc3,hT3⟩:=(nd_e e3 ((hst s).p)).out hT
   refine gQ 5 [1] O O ?_
   exact tRs O Tryz.results89 (.cons (zh (i:=1) O O Tryz.isAgg27 Tryz.sizeOf27 O O) .nil) O (HSub.fst 1 O) ⟨no3,nt3,nn3,nm3,nl3,ns3,nk3,⟨s3.l,s3.n,s3.b⟩,e3,O,O⟩
 · skip
   exfalso;omega
theorem chain7_s (g:Nat) (s:Rd) (j:Int) (sg:List ByteArray) (L:Nat) (part:Rd→Nd×Rd) (hj:0≤j∧j≤2) (hsg:∀ t,ofT t=j↔hasN sg t=true) (hp:zba 89 [dI (j+1)] L part) (hst:∀ s,Sk 1 s (part s).2) (hL:s.l.length<L) (hw:s.n+2*(s.l.length:Int)≤2000000) (hn:0≤s.n) (hT:TOk s.l):
 CD Tryz.prog 89 [RB7 g s] [dP g 0,dI j] (NdR7 g (s.level7 part sg)):=by
 refine tZ Tryz.func89 O O (fun C=>?_)
 refine g' 2 O ?_
 refine tA O (fun g1=>?_)
 refine g' 9 O ?_
 refine tD O (fun hc2=>?_) (fun hc2=>?_)
 · skip
   exfalso;omega
 · skip
   refine g' 6 O (tP O (zy (c:=(j+1)) O O (zn (by omega) (by omega))) (tX [1] O O acs (hp g s (by omega) (by omega) (by omega) hT) ?_))
   rintro _ _ ⟨no3,nt3,nn3,nm3,nl3,ns3,nk3,s3,e3,rfl,rfl⟩
   obtain ⟨ka3,kb3,kc3,hT3⟩:=(nd_e e3 ((hst s).p)).out hT
   refine tA O (fun g4=>?_)
   refine gQ 5 [0] O O (T.front 1 O (tl3 (fun (a_:Nat) (b_:Rd) (c_:Nd)=>[(0,dP g 0),(1,dI j),(4,dP g1 0),(5,dP g4 0)]) (fun a_ b_ c_=>[RB7 g b_,.bx g4 27 (Nd.d c_),.bx g1 27 n8]) (fun a_ b_ c_=>(b_.l.length<a_)∧(zbw part sg a_ c_ b_=zbw part sg (s3.l.length+1) (Nd.mk no3 nt3 nn3 nm3 nl3 ns3 nk3) s3)∧(b_.n+2*(b_.l.length:Int)≤2000001)∧(0≤b_.n)∧(TOk b_.l)∧(b_.l.length≤s.l.length)) (fun a_ b_ c_=>a_) (s3.l.length+1) s3 (Nd.mk no3 nt3 nn3 nm3 nl3 ns3 nk3) O (sa O) HSub.rfl' ⟨Nat.lt_succ_self _,O,(by omega),(by omega),hT3,(by omega)⟩ ?_))
   rintro f z o ⟨hlf,hf,hzw,hzn,hz,hzl⟩
   obtain ⟨o1,o2,o3,o4,o5,o6,o7⟩:=o
   refine g' 2 O ?_
   rcases Bool.eq_false_or_eq_true z.b with hzb | hzb
   · skip
     refine g' 4 O (tP O ((zk O (i:=0) O Tryz.isAgg4 O).cv (cB ((hzb)))) (g' 21 O ?_))
     have hff:=level7_of e3 (hf.symm.trans (level7_stop (.inl hzb)))
     refine gQ 13 [1,2] O O ?_
     exact tRs O Tryz.results89 (.cons (zh (i:=2) O O Tryz.isAgg27 Tryz.sizeOf27 O O) .nil) O (HSub.fst 1 O) ⟨o1,o2,o3,o4,o5,o6,o7,⟨z.l,z.n,z.b⟩,hff,O,O⟩
   · skip
     rcases Nat.eq_zero_or_pos z.l.length with hl0 | hl0
     · skip
       have hl1:¬(0<((z.l.length:Nat):Int)):=by omega
       refine g' 4 O (tP O ((zk O (i:=0) O Tryz.isAgg4 O).cv (cB ((hzb)))) (gQ 6 [0] O O (tG O (z8 (n:=z.l.length) O Tryz.runUnderlying67 (by simp only[lm,lc,ln])) (tG O (zca O O (decide_eq_false hl1)) (g' 13 O ?_)))))
       have hff:=level7_of e3 (hf.symm.trans (level7_stop (.inr (is_0 hl0))))
       refine gQ 13 [1,2] O O ?_
       exact tRs O Tryz.results89 (.cons (zh (i:=2) O O Tryz.isAgg27 Tryz.sizeOf27 O O) .nil) O (HSub.fst 1 O) ⟨o1,o2,o3,o4,o5,o6,o7,⟨z.l,z.n,z.b⟩,hff,O,O⟩
     · skip
       have hl1:(0<((z.l.length:Nat):Int)):=by omega
       obtain ⟨x1,hx1⟩:=zN z.l 0 (by omega)
       have hxz:=(hz x1 (List.mem_of_getElem? hx1)).z
       refine g' 4 O (tP O ((zk O (i:=0) O Tryz.isAgg4 O).cv (cB ((hzb)))) (gQ 6 [0] O O (tG O (z8 (n:=z.l.length) O Tryz.runUnderlying67 (by simp only[lm,lc,ln])) (tG O (zca O O (decide_eq_true hl1)) (gQ 6 [0] O O (tG O (zr (k:=0) O O Tryz.runUnderlying67 Tryz.sizeOf135 (by first | rfl | omega) (zI hx1)) (g' 6 O ?_)))))))
       refine tD O (fun hc5=>?_) (fun hc5=>?_)
       · skip
         have hk5:=hc5
         obtain ⟨f,rfl⟩:∃ k,f=k+1:=⟨f-1,by omega⟩
         refine gQ 9 [0] O O (tP O (zr (k:=0) O O Tryz.runUnderlying67 Tryz.sizeOf135 (by first | rfl | omega) (zI hx1)) (g' 12 O ?_))
         refine tJ (fun (jg:Int)=>[(0,dP g 0),(1,dI j),(4,dP g1 0),(5,dP g4 0),(6,.s x1.t),(17,dP g 0),(18,dP g 0),(19,dP g 2),(20,dB false),(21,dB true),(22,dB true),(23,dP g 0),(24,dP g 0),(25,dP g 0),(26,.sh 3 (z.l.map TokD.d)),(27,dN z.l.length),(28,dB true),(29,dB true),(30,dB true),(31,dP g 0),(32,dP g 0),(33,dP g 0),(34,.sh 3 (z.l.map TokD.d)),(35,.el (TokD.d x1) 0),(36,.el (TokD.d x1) 0),(37,dI x1.k),(38,dB (decide (x1.k=(5:Int)))),(39,dB (decide (x1.k=(5:Int)))),(40,dP g 0),(41,dP g 0),(42,dP g 0),(43,.sh 3 (z.l.map TokD.d)),(44,.el (TokD.d x1) 0),(45,.el (TokD.d x1) 2),(46,.s x1.t),(7,dI jg)]) (fun (jg:Int)=>[RB7 g z,.bx g4 27 (n7 o1 o2 o3 o4 o5 o6 o7),.bx g1 27 n8]) (fun (jg:Int)=>(jg=ofT x1.t)) (fun _ hQ6=>?_) ?_
         · skip
           refine g' 3 O (tW O acs (Compares7_c x1.t) (g' 3 O ?_))
           refine tC O (fun hc7=>?_) (fun hc7=>?_)
           · skip
             refine g' 3 O ?_
             exact tqe (hQ6 0 (by unfold ofT;rw[if_pos hc7])) O
           · skip
             refine g' 5 O ?_
             refine tOr 2 2 (c:=decide (x1.t=(⟨#[45]⟩:ByteArray))) O O O O O O (fun hb8 nx9=>?_) ?_
             · skip
               have hf10:=of_decide_eq_false hb8
               refine g' 2 O ?_
               exact nx9 _ O O (kx 2 O O)
             refine g' 3 O ?_
             refine tC O (fun hc11=>?_) (fun hc11=>?_)
             · simp only[bX,bJ] at hc11
               refine g' 3 O ?_
               exact tqe (hQ6 1 (by unfold ofT;rw[if_neg (by simpa using hc7),if_pos hc11])) O
             · simp only[bX,bJ] at hc11
               refine g' 5 O ?_
               refine tOr 2 2 (c:=decide (x1.t=(⟨#[47]⟩:ByteArray))) O O O O O O (fun hb12 nx13=>?_) ?_
               · skip
                 have hf14:=of_decide_eq_false hb12
                 refine g' 2 O ?_
                 exact nx13 _ O O (kx 2 O O)
               refine g' 1 O ?_
               refine tOr 6 2 (c:=decide (x1.t=(⟨#[37]⟩:ByteArray))) O O O O O O (fun hb15 nx16=>?_) ?_
               · skip
                 obtain ⟨hf17,hf18⟩:=orF hb15
                 have hf19:=of_decide_eq_false hf17
                 have hf20:=of_decide_eq_false hf18
                 refine g' 2 O ?_
                 exact nx16 _ O O (kx 2 O O)
               refine g' 3 O ?_
               refine tC O (fun hc21=>?_) (fun hc21=>?_)
               · simp only[bX,bJ] at hc21
                 refine g' 3 O ?_
                 exact tqe (hQ6 2 (by unfold ofT;rw[if_neg (by simpa using hc7),if_neg (by have h:=hc11;rintro (k | k);exact h.1 k;exact h.2 k),if_pos hc21])) rfl
               · simp only[bX,bJ] at hc21
                 refine g' 1 O ?_
                 exact tqe (hQ6 (-1) (by unfold ofT;rw[if_neg (by simpa using hc7),if_neg (by have h:=hc11;rintro (k | k);exact h.1 k;exact h.2 k),if_neg (by have h:=hc21;rintro ((k | k) | k);exact h.1.1 k;exact h.1.2 k;exact h.2 k)])) rfl
         · skip
           rintro of hof
           refine g' 10 O ?_
           refine tD O (fun hc22=>?_) (fun hc22=>?_)
           · skip
             have hff:=level7_of e3 (hf.symm.trans (level7_stop (.inr ((is_of hsg hx1 hk5 hof).trans (decide_eq_false hc22)))))
             refine gQ 13 [1,2] O O ?_
             exact tRs O Tryz.results89 (.cons (zh (i:=2) O O Tryz.isAgg27 Tryz.sizeOf27 O O) .nil) O (HSub.fst 1 O) ⟨o1,o2,o3,o4,o5,o6,o7,⟨z.l,z.n,z.b⟩,hff,O,O⟩
           · skip
             have hzi:z.is 5 sg=true:=(is_of hsg hx1 hk5 hof).trans (decide_eq_true (by have h:=hc22;omega))
             refine gQ 9 [0] O O (tP O ((za8 (a:=1) (b:=z.l.length) O O O (by first | rfl | (show _=_;(try simp only[lm]);omega) | exact List.length_map _) (by first | rfl | (show _=_;(try simp only[lm]);omega) | exact List.length_map _) Tryz.runUnderlying67 Tryz.sizeOf135 (by omega) (by simp only[lm];omega)).cv (Cv.eq (by rw[←List.map_take,←List.map_drop]))) (gQ 6 [0] O O ?_))
             obtain ⟨s23,e23⟩:∃ x:Rd,x=⟨((z.l.take z.l.length).drop 1),z.n,z.b⟩:=⟨_,rfl⟩
             refine T.norm [RB7 g s23,.bx g4 27 (n7 o1 o2 o3 o4 o5 o6 o7),.bx g1 27 n8] (by rw[e23]<;>rfl) ?_
             obtain ⟨hq23,ka23,kb23,kc23,hT23⟩:=tl_e e23 hl0 hz
             refine g' 2 O (tP O (zf [0,1] [.const (.string (⟨#[98,105,110]⟩:ByteArray)),.tmp 79] (zv:=n9) O O (.cons (CellD.v O) (.cons CellD.s .nil)) (Tryz.runUnderlying27) Tryz.zeroValue27 zdd ⟨O,O,O,O,O,O,O,trivial⟩ O) ?_)
             refine tA O (fun g24=>?_)
             refine gQ 4 [0] O O (T.subH (HSub.turn (h':=.bx g24 27 (n7 tBin x1.t 0 0 ([]:List ByteArray) ([]:List MatD) ([]:List Nd))) O (Hp.cv_bx (Cv.agg (.cons cS (gc (gc (gc (.cons Cv.nil (.cons Cv.nil (.cons Cv.nil .nil)))))))))) ?_)
             refine tJ (fun (jg:Int×List ByteArray×Rd)=>[(0,dP g 0),(1,dI j),(4,dP g1 0),(5,dP g4 0),(6,.s x1.t),(7,dI of),(8,dP g24 0),(17,dP g 0),(18,dP g 0),(19,dP g 2),(20,dB false),(21,dB true),(22,dB true),(23,dP g 0),(24,dP g 0),(25,dP g 0),(26,.sh 3 (z.l.map TokD.d)),(27,dN z.l.length),(28,dB true),(29,dB true),(30,dB true),(31,dP g 0),(32,dP g 0),(33,dP g 0),(34,.sh 3 (z.l.map TokD.d)),(35,.el (TokD.d x1) 0),(36,.el (TokD.d x1) 0),(37,dI x1.k),(38,dB (decide (x1.k=(5:Int)))),(39,dB (decide (x1.k=(5:Int)))),(40,dP g 0),(41,dP g 0),(42,dP g 0),(43,.sh 3 (z.l.map TokD.d)),(44,.el (TokD.d x1) 0),(45,.el (TokD.d x1) 2),(46,.s x1.t),(68,dI of),(69,dI j),(70,dB (decide (of≠j))),(71,dP g 0),(72,dP g 0),(73,dP g 0),(74,dP g 0),(75,.sh 3 (z.l.map TokD.d)),(76,.sh 3 (((z.l.take z.l.length).drop 1).map TokD.d)),(77,dP g 0),(78,dP g 0),(79,.s x1.t),(80,.agg [.v (.string (⟨#[98,105,110]⟩:ByteArray)),.s x1.t,dI 0,dI 0,dZ,dZ,dZ])]) (fun (jg:Int×List ByteArray×Rd)=>[.bx g24 27 (n7 tBin x1.t 0 jg.1 jg.2.1 ([]:List MatD) ([]:List Nd)),.bx g 106 (.agg [.sh 3 (jg.2.2.l.map TokD.d),dI jg.2.2.n,dB jg.2.2.b]),.bx g4 27 (n7 o1 o2 o3 o4 o5 o6 o7),.bx g1 27 n8]) (fun (jg:Int×List ByteArray×Rd)=>((jg.1,jg.2.1,jg.2.2)=s23.mode7 tOn zO)) (fun _ hQ25=>?_) ?_
             · skip
               refine g' 3 O (tX [1] O O (ga (ga (.cons (ArgC.cv cS) .nil))) (zcK g s23 1 (⟨#[111,110]⟩:ByteArray) (by omega) (by omega) hT23 (by decide)) ?_)
               rintro _ _ ⟨rfl,rfl⟩
               refine g' 1 O ?_
               refine tOr 2 2 (c:=(s23.is7 1 (⟨#[105,103,110,111,114,105,110,103]⟩:ByteArray))) O O O O O O (fun hb27 nx28=>?_) ?_
               · skip
                 refine g' 1 O (tX [0] O O (ga (ga (.cons (ArgC.cv cS) .nil))) (zcK g s23 1 (⟨#[105,103,110,111,114,105,110,103]⟩:ByteArray) (by omega) (by omega) hT23 (by decide)) ?_)
                 rintro _ _ ⟨rfl,rfl⟩
                 exact nx28 _ O O (kx 2 O O)
               refine g' 2 O ?_
               refine tC O (fun hc30=>?_) (fun hc30=>?_)
               · simp only[bX,bJ] at hc30
                 have hmo1:=hc30
                 have hml:=is7_len1 hmo1
                 refine gQ 7 [1] O O ?_
                 refine tJ (fun (jg:Int)=>[(0,dP g 0),(1,dI j),(4,dP g1 0),(5,dP g4 0),(6,.s x1.t),(7,dI of),(8,dP g24 0),(17,dP g 0),(18,dP g 0),(19,dP g 2),(20,dB false),(21,dB true),(22,dB true),(23,dP g 0),(24,dP g 0),(25,dP g 0),(26,.sh 3 (z.l.map TokD.d)),(27,dN z.l.length),(28,dB true),(29,dB true),(30,dB true),(31,dP g 0),(32,dP g 0),(33,dP g 0),(34,.sh 3 (z.l.map TokD.d)),(35,.el (TokD.d x1) 0),(36,.el (TokD.d x1) 0),(37,dI x1.k),(38,dB (decide (x1.k=(5:Int)))),(39,dB (decide (x1.k=(5:Int)))),(40,dP g 0),(41,dP g 0),(42,dP g 0),(43,.sh 3 (z.l.map TokD.d)),(44,.el (TokD.d x1) 0),(45,.el (TokD.d x1) 2),(46,.s x1.t),(68,dI of),(69,dI j),(70,dB (decide (of≠j))),(71,dP g 0),(72,dP g 0),(73,dP g 0),(74,dP g 0),(75,.sh 3 (z.l.map TokD.d)),(76,.sh 3 (((z.l.take z.l.length).drop 1).map TokD.d)),(77,dP g 0),(78,dP g 0),(79,.s x1.t),(80,.agg [.v (.string (⟨#[98,105,110]⟩:ByteArray)),.s x1.t,dI 0,dI 0,dZ,dZ,dZ])]) (fun (jg:Int)=>[RB7 g s23,.bx g24 27 (n7 tBin x1.t 0 jg ([]:List ByteArray) ([]:List MatD) ([]:List Nd)),.bx g4 27 (n7 o1 o2 o3 o4 o5 o6 o7),.bx g1 27 n8]) (fun (jg:Int)=>(jg=if s23.is7 1 zO=true then 2 else 1)) (fun _ hQ31=>?_) ?_
                 · skip
                   refine g' 3 O (tX [0] O O (ga (ga (.cons (ArgC.cv cS) .nil))) (zcK g s23 1 (⟨#[105,103,110,111,114,105,110,103]⟩:ByteArray) (by omega) (by omega) hT23 (by decide)) ?_)
                   rintro _ _ ⟨rfl,rfl⟩
                   refine g' 2 O ?_
                   refine tC O (fun hc33=>?_) (fun hc33=>?_)
                   · skip
                     refine gQ 4 [1] O O ?_
                     exact tqe (hQ31 2 ((if_pos hc33).symm)) O
                   · skip
                     refine g' 1 O ?_
                     exact tqe (hQ31 1 ((if_neg (by simpa using hc33)).symm)) O
                 · skip
                   rintro mm hmm
                   refine gQ 8 [0] O O (tP O ((za8 (a:=1) (b:=s23.l.length) O O O (by first | rfl | (show _=_;(try simp only[lm]);omega) | exact List.length_map _) (by first | rfl | (show _=_;(try simp only[lm]);omega) | exact List.length_map _) Tryz.runUnderlying67 Tryz.sizeOf135 (by omega) (by simp only[lm];omega)).cv (Cv.eq (by rw[←List.map_take,←List.map_drop]))) (gQ 5 [0] O O ?_))
                   obtain ⟨s34,e34⟩:∃ x:Rd,x=⟨((s23.l.take s23.l.length).drop 1),s23.n,s23.b⟩:=⟨_,rfl⟩
                   refine T.norm [RB7 g s34,.bx g24 27 (n7 tBin x1.t 0 mm ([]:List ByteArray) ([]:List MatD) ([]:List Nd)),.bx g4 27 (n7 o1 o2 o3 o4 o5 o6 o7),.bx g1 27 n8] (by rw[e34]<;>rfl) ?_
                   obtain ⟨hq34,ka34,kb34,kc34,hT34⟩:=tl_e e34 hml hT23
                   refine g' 2 O (tX [0] O O acs (names7_c g s34 (by omega) (by omega) hT34) ?_)
                   rintro _ _ ⟨l35,s35,e35,rfl,rfl⟩
                   obtain ⟨ka35,kb35,kc35,hT35⟩:=(names7_e e35).out hT34
                   refine gQ 3 [1] O O (T.front 3 O (T.front 3 O (T.front 2 O (T.front 3 O ?_))))
                   exact tqe (hQ25 (mm,l35,s35) (mode7_1 hmo1 hmm hq34 e35)) O
               · simp only[bX,bJ] at hc30
                 refine g' 1 O (T.front 3 O (T.front 3 O (T.front 2 O (T.front 3 O ?_))))
                 exact tqe (hQ25 (0,([]:List ByteArray),s23) (mode7_0 (by simpa using hc30))) O
             · skip
               rintro ⟨mm,ml,mz⟩ hmd
               replace hmd:(mm,ml,mz)=s23.mode7 tOn zO:=hmd
               refine T.kk [(0,dP g 0),(1,dI j),(4,dP g1 0),(5,dP g4 0),(6,.s x1.t),(7,dI of),(8,dP g24 0),(17,dP g 0),(18,dP g 0),(19,dP g 2),(20,dB false),(21,dB true),(22,dB true),(23,dP g 0),(24,dP g 0),(25,dP g 0),(26,.sh 3 (z.l.map TokD.d)),(27,dN z.l.length),(28,dB true),(29,dB true),(30,dB true),(31,dP g 0),(32,dP g 0),(33,dP g 0),(34,.sh 3 (z.l.map TokD.d)),(35,.el (TokD.d x1) 0),(36,.el (TokD.d x1) 0),(37,dI x1.k),(38,dB (decide (x1.k=(5:Int)))),(39,dB (decide (x1.k=(5:Int)))),(40,dP g 0),(41,dP g 0),(42,dP g 0),(43,.sh 3 (z.l.map TokD.d)),(44,.el (TokD.d x1) 0),(45,.el (TokD.d x1) 2),(46,.s x1.t),(68,dI of),(69,dI j),(70,dB (decide (of≠j))),(71,dP g 0),(72,dP g 0),(73,dP g 0),(74,dP g 0),(75,.sh 3 (z.l.map TokD.d)),(76,.sh 3 (((z.l.take z.l.length).drop 1).map TokD.d)),(77,dP g 0),(78,dP g 0),(79,.s x1.t),(80,.agg [.v (.string (⟨#[98,105,110]⟩:ByteArray)),.s x1.t,dI 0,dI 0,dZ,dZ,dZ])] O ?_
               refine T.norm [.bx g24 27 (n7 tBin x1.t 0 mm ml ([]:List MatD) ([]:List Nd)),RB7 g mz,.bx g4 27 (n7 o1 o2 o3 o4 o5 o6 o7),.bx g1 27 n8] (by rfl) (g' 2 O ?_)
               obtain ⟨kx0,ky0,kz0,hTm⟩:=(mode7_e hmd).out hT23
               obtain ⟨⟨p1,p2,p3,p4,p5,p6,p7⟩,z2,en⟩:∃ (p:Nd) (s1:Rd),(p,s1)=part mz:=⟨_,_,rfl⟩
               obtain ⟨ka9,kb9,kc9,hT9⟩:=(nd_e en (hst mz).p).out hTm
               refine T.front 1 O (T.keep [0,1,4,5,6,7,8,17,18,19,20,21,22,23,24,25,26,27,28,29,30,31,32,33,34,35,36,37,38,39,40,41,42,43,44,45,46,68,69,70,71,72,73,74,75,76,77,78,79,80] O ?_)
               refine tDr 5 [(102,n7 o1 o2 o3 o4 o5 o6 o7,none),(103,dP g 0,none),(104,dI j,none),(105,dI (j+1),none),(106,n7 p1 p2 p3 p4 p5 p6 p7,some [RB7 g z2,.bx g24 27 (n7 tBin x1.t 0 mm ml ([]:List MatD) ([]:List Nd)),.bx g4 27 (n7 o1 o2 o3 o4 o5 o6 o7),.bx g1 27 n8])] [.bx g24 27 (n7 tBin x1.t 0 mm ml ([]:List MatD) ([]:List Nd)),.bx g4 27 (n7 o1 o2 o3 o4 o5 o6 o7),.bx g1 27 n8] (Hn:=[RB7 g z2,.bx g24 27 (n7 tBin x1.t 0 mm ml ([]:List MatD) ([]:List Nd)),.bx g4 27 (n7 o1 o2 o3 o4 o5 o6 o7),.bx g1 27 n8]) mixed O O O O (HSub.lst 1 O) O ⟨sa_p O O O (zdv (d:=n7 o1 o2 o3 o4 o5 o6 o7) O (i:=1) O Tryz.isAgg27 Tryz.sizeOf27 O O),sa_p O O O (zi O),sa_p O O O (zi O),sa_p O O O (zy (c:=(j+1)) O O (zn (by omega) (by omega))),sa_e rfl rfl rfl rfl (((zem [RB7 g mz] [.bx g24 27 (n7 tBin x1.t 0 mm ml ([]:List MatD) ([]:List Nd)),.bx g4 27 (n7 o1 o2 o3 o4 o5 o6 o7),.bx g1 27 n8] [] rfl rfl (ga (ga .nil)) zbc Tryz.call89 (nd_nm7 en (hp g mz (by omega) (by omega) (by omega) hTm)) (.inl rfl))).mono (by rintro _ _ ⟨_,⟨rfl,rfl⟩,rfl⟩;exact⟨rfl,rfl⟩)) (HSub.lst 1 rfl),trivial⟩ ?_
               refine tK O (tE O (Qu.ef (d:=.sh 7 ([(Nd.mk o1 o2 o3 o4 o5 o6 o7),(Nd.mk p1 p2 p3 p4 p5 p6 p7)].map Nd.d)) (ze [.tmp 102,.tmp 106] O O (.cons CellD.agg (.cons CellD.agg .nil)) O Tryz.runUnderlying25 Tryz.sizeOf27 Tryz.zeroValue27 O O O O)) ?_)
               rintro _ _ ⟨rfl,rfl⟩
               refine gQ 7 [1,1] O O (tX [0] O O acs (zei g z2 (.s tBin) (.s x1.t) (dI 0) (dI mm) (.sh 1 (ml.map D.s)) (.sh 3 (([]:List MatD).map MatD.d)) (.sh 7 ([(Nd.mk o1 o2 o3 o4 o5 o6 o7),(Nd.mk p1 p2 p3 p4 p5 p6 p7)].map Nd.d)) (by omega) (by omega) hT9) ?_)
               rintro _ _ ⟨s36,e36,rfl,rfl⟩
               obtain ⟨ka36,kb36,kc36,hT36⟩:=(zeh e36).out hT9
               refine gQ 3 [2] O O (T.front 2 O (T.subH (HSub.turn (h':=.bx g4 27 (.agg [.s tBin,.s x1.t,dI 0,dI mm,.sh 1 (ml.map D.s),.sh 3 (([]:List MatD).map MatD.d),.sh 7 (Nd.ds [(Nd.mk o1 o2 o3 o4 o5 o6 o7),(Nd.mk p1 p2 p3 p4 p5 p6 p7)])])) O (Hp.cv_bx (Cv.agg (gc (gc (gc (gc (gc (gc (gc .nil)))))))))) (T.front 3 O (T.front 1 O (T.front 2 O (T.subH (HSub.fst 3 O) ?_))))))
               exact tp3 f s36 (Nd.mk tBin x1.t 0 mm ml ([]:List MatD) [(Nd.mk o1 o2 o3 o4 o5 o6 o7),(Nd.mk p1 p2 p3 p4 p5 p6 p7)]) (sa O) HSub.rfl' ⟨by omega,(level7_go hzb hx1 hzi hq23 hmd en e36).symm.trans hf,by omega,by omega,hT36,by omega⟩ (by omega)
       · skip
         have hff:=level7_of e3 (hf.symm.trans (level7_stop (.inr (is_k5 hx1 hc5))))
         refine gQ 12 [1,2] O O ?_
         exact tRs O Tryz.results89 (.cons (zh (i:=2) O O Tryz.isAgg27 Tryz.sizeOf27 O O) .nil) O (HSub.fst 1 O) ⟨o1,o2,o3,o4,o5,o6,o7,⟨z.l,z.n,z.b⟩,hff,O,O⟩
end Lp
set_option linter.unusedSimpArgs false
set_option linter.unusedVariables false
set_option maxHeartbeats 4000000
set_option maxRecDepth 100000
namespace Lp
open Go Go.RowKit Go.Proofs
theorem level_c (g:Nat) (s:Rd) (F:FuncId) (part:Rd→Nd×Rd) (sg:List ByteArray) (L:Nat) (ev es:Value) (hp:zbQ ev es F L part) (hst:∀ s,Stp 1 s (part s).2) (hcall:∀ args w,(callFunc F args).run Tryz.prog w=.ok (.enter F args) w) (hL:s.l.length<L) (hw:s.n+2*(s.l.length:Int)≤2000000) (hn:0≤s.n) (hT:TOk s.l):
 CD Tryz.prog 110 [RB g s,HPow,HErr ev,HSyn es] [dP g 0,.fn F [dP g 0] [],.sh 1 (sg.map D.s)] (NdR g ev es (s.level part sg)):=by
 refine tZ Tryz.func110 O O (fun C=>?_)
 refine T.bd 2 O (fun bd2=>?_)
 have nl2:=zbK bd2
 refine g' 2 O ?_
 refine tA O (fun g1=>?_)
 refine g' 5 O ?_
 refine tX [1,1,1,1] O O acs (hp g s (by omega) (by omega) (by omega) hT) ?_ (hc:=hcall)
 rintro _ _ ⟨no2,nt2,nn2,nm2,nl2,ns2,nk2,s2,e2,rfl,rfl⟩
 obtain ⟨ka2,kb2,kc2,hT2⟩:=(nd_e e2 (hst s)).out hT
 refine tA O (fun g3=>?_)
 refine gQ 4 [0] O O (T.front 4 O (T.front 4 O (T.front 4 O (T.front 4 O (T.front 4 O (T.front 5 O (tl3 (fun (a_:Nat) (b_:Rd) (c_:Nd)=>[(0,dP g 0),(1,.fn F [dP g 0] []),(2,.sh 1 (sg.map D.s)),(6,dP g1 0),(7,dP g3 0)]) (fun a_ b_ c_=>[.bx g1 27 n8,.bx g3 27 (Nd.d c_),RB g b_,HPow,HErr ev,HSyn es]) (fun a_ b_ c_=>(b_.l.length<a_)∧(za4 part sg a_ c_ b_=za4 part sg (s2.l.length+1) (Nd.mk no2 nt2 nn2 nm2 nl2 ns2 nk2) s2)∧(b_.n+2*(b_.l.length:Int)≤2000001)∧(0≤b_.n)∧(TOk b_.l)∧(b_.l.length≤s.l.length)) (fun a_ b_ c_=>a_) (s2.l.length+1) s2 (Nd.mk no2 nt2 nn2 nm2 nl2 ns2 nk2) O (sa O) HSub.rfl' ⟨Nat.lt_succ_self _,O,(by omega),(by omega),hT2,(by omega)⟩ ?_)))))))
 rintro f z o ⟨hlf,hf,hzw,hzn,hz,hzl⟩
 obtain ⟨f,rfl⟩:∃ k,f=k+1:=⟨f-1,by omega⟩
 obtain ⟨o1,o2,o3,o4,o5,o6,o7⟩:=o
 refine g' 5 O (tX [2] O O acs (zcW g z 5 sg (by omega) (by omega) hz (by decide)) ?_)
 rintro _ _ ⟨t4,q4,s4,e4,rfl,rfl⟩
 obtain ⟨ka4,kb4,kc4,hT4⟩:=(zcV e4).out hz
 have kz4:=zcU e4 hz
 refine g' 14 O ?_
 refine tC O (fun hc5=>?_) (fun hc5=>?_)
 · simp only[bX,bJ] at hc5
   have hff:=(hf.symm.trans (level_stop e4 (by simpa using hc5))).symm.trans (level_of e2)
   refine gQ 11 [2,1] O O (T.front 5 O (T.front 5 O (T.front 5 O (T.front 3 O ?_))))
   exact tRs O Tryz.results110 (.cons (zh (i:=4) O O Tryz.isAgg27 Tryz.sizeOf27 O O) .nil) O (HSub.fst 4 O) ⟨o1,o2,o3,o4,o5,o6,o7,⟨s4.l,s4.n,s4.b⟩,hff,O,O⟩
 · simp only[bX,bJ] at hc5
   obtain ⟨kq,kw⟩:=take_yw e4 (by decide) (by simpa using hc5)
   refine g' 5 O (tX [0] O O (ga (.cons (ArgC.cv cS) (.cons (ArgC.cv cS) .nil))) (mode_c g s4 (⟨#[111,110]⟩:ByteArray) (⟨#[105,103,110,111,114,105,110,103]⟩:ByteArray) (by omega) (by omega) hT4) ?_)
   rintro _ _ ⟨m6,l6,s6,e6,rfl,rfl⟩
   obtain ⟨ka6,kb6,kc6,hT6⟩:=(mode_e e6).out hT4
   refine g' 7 O ?_
   obtain ⟨⟨p1,p2,p3,p4,p5,p6,p7⟩,z2,en⟩:∃ (p:Nd) (s1:Rd),(p,s1)=part s6:=⟨_,_,rfl⟩
   obtain ⟨ka9,kb9,kc9,hT9⟩:=(nd_e en (hst s6)).out hT6
   refine T.front 5 O (T.front 5 O (T.front 5 O (T.front 3 O (T.keep [0,1,2,6,7,8,9,10,11,14,15,16,17,18,19,20,21,23,24,25,26,27] O ?_))))
   refine tDr 9 [(28,dP g 0,none),(29,.s t4,none),(30,dI m6,none),(31,.sh 1 (l6.map D.s),none),(32,n7 o1 o2 o3 o4 o5 o6 o7,none),(33,.fn F [dP g 0] [],none),(34,n7 p1 p2 p3 p4 p5 p6 p7,some [RB g z2,HPow,HErr ev,HSyn es,.bx g1 27 n8,.bx g3 27 (n7 o1 o2 o3 o4 o5 o6 o7)]),(35,.sh 7 ([(Nd.mk o1 o2 o3 o4 o5 o6 o7),(Nd.mk p1 p2 p3 p4 p5 p6 p7)].map Nd.d),none),(36,.agg [.v (.string (⟨#[98,105,110]⟩:ByteArray)),.s t4,dI 0,dI m6,.sh 1 (l6.map D.s),dZ,.sh 7 ([(Nd.mk o1 o2 o3 o4 o5 o6 o7),(Nd.mk p1 p2 p3 p4 p5 p6 p7)].map Nd.d)],none)] [.bx g1 27 n8,.bx g3 27 (n7 o1 o2 o3 o4 o5 o6 o7)] (Hn:=[RB g z2,HPow,HErr ev,HSyn es,.bx g1 27 n8,.bx g3 27 (n7 o1 o2 o3 o4 o5 o6 o7)]) mixed O O O O (HSub.lst 4 O) O ⟨sa_p O O O (zi O),sa_p O O O (zi O),sa_p O O O (zi O),sa_p O O O (zi O),sa_p O O O (zdv (d:=n7 o1 o2 o3 o4 o5 o6 o7) O (i:=1) O Tryz.isAgg27 Tryz.sizeOf27 O O),sa_p O O O (zi O),sa_e O O O O (((ef_callv [RB g s6,HPow,HErr ev,HSyn es] [.bx g1 27 n8,.bx g3 27 (n7 o1 o2 o3 o4 o5 o6 o7)] [] O O O (ga .nil) zbc hcall (nd_nm en (hp g s6 (by omega) (by omega) (by omega) hT6)) (.inl rfl))).mono (by rintro _ _ ⟨_,⟨rfl,rfl⟩,rfl⟩;exact⟨rfl,rfl⟩)) (HSub.lst 4 rfl),sa_q rfl rfl rfl (ze [.tmp 32,.tmp 34] rfl rfl (.cons CellD.agg (.cons CellD.agg .nil)) rfl Tryz.runUnderlying25 Tryz.sizeOf27 Tryz.zeroValue27 rfl rfl rfl rfl),sa_p rfl rfl rfl (zf [0,1,3,4,6] [.const (.string (⟨#[98,105,110]⟩:ByteArray)),.tmp 29,.tmp 30,.tmp 31,.tmp 35] (zv:=n9) rfl rfl (.cons (CellD.v rfl) (.cons CellD.s (.cons (CellD.v rfl) (.cons CellD.sh (.cons CellD.sh .nil))))) (Tryz.runUnderlying27) Tryz.zeroValue27 zdd ⟨rfl,rfl,rfl,rfl,rfl,rfl,rfl,trivial⟩ rfl),trivial⟩ ?_
   refine tK O (tX [0] O O acs (zeP g z2 (.v (.string (⟨#[98,105,110]⟩:ByteArray))) (.s t4) (dI 0) (dI m6) (.sh 1 (l6.map D.s)) (dZ) (.sh 7 ([(Nd.mk o1 o2 o3 o4 o5 o6 o7),(Nd.mk p1 p2 p3 p4 p5 p6 p7)].map Nd.d)) (by omega) (by omega) hT9) ?_)
   rintro _ _ ⟨s7,e7,rfl,rfl⟩
   obtain ⟨ka7,kb7,kc7,hT7⟩:=(zeO e7).out hT9
   refine gQ 3 [5] O O (T.front 5 O (T.subH (HSub.turn (h':=.bx g3 27 (.agg [.s tBin,.s t4,dI 0,dI m6,.sh 1 (l6.map D.s),.sh 3 (([]:List MatD).map MatD.d),.sh 7 (Nd.ds [(Nd.mk o1 o2 o3 o4 o5 o6 o7),(Nd.mk p1 p2 p3 p4 p5 p6 p7)])])) O (Hp.cv_bx (Cv.agg (.cons cS (gc (gc (gc (gc (.cons Cv.nil (gc .nil)))))))))) (T.front 4 O (T.front 4 O (T.front 4 O (T.front 4 O (T.front 4 O (T.front 5 O ?_))))))))
   exact tp3 f s7 (Nd.mk tBin t4 0 m6 l6 ([]:List MatD) [(Nd.mk o1 o2 o3 o4 o5 o6 o7),(Nd.mk p1 p2 p3 p4 p5 p6 p7)]) (sa O) HSub.rfl' ⟨by omega,(level_go e4 (by simpa using hc5) e6 en e7).symm.trans hf,by omega,by omega,hT7,by omega⟩ (by omega)
theorem unary_c (ev es:Value) (L:Nat) (ex:Rd→Nd×Rd) (hev:EvOk ev) (hes:EvOk es) (hex:zbQ ev es 39 L ex) (hst:∀ s,Stp 1 s (ex s).2):zbQ ev es 181 (L+1) (fun s=>zaK rmD ex (s.l.length+1) s):=by
 have key:∀ (f g:Nat) (s:Rd),s.l.length<f→s.l.length<L+1→s.n+2*(s.l.length:Int)≤2000000→0≤s.n→TOk s.l→CD Tryz.prog 181 [RB g s,HPow,HErr ev,HSyn es] [dP g 0] (NdR g ev es (zaK rmD ex f s)):=by
  intro f
  induction f with
  | zero=>intro g s h;exact absurd h (by omega)
  | succ f ih=>intro g s h hL hw hn hT;exact unary_s g s ev es L ex f hev hes hex hst hL ih h hw hn hT
 exact fun g s hL hw hn hT=>key (s.l.length+1) g s (by omega) hL hw hn hT
theorem product_s (g:Nat) (s:Rd) (ev es:Value) (L:Nat) (ex:Rd→Nd×Rd) (hev:EvOk ev) (hes:EvOk es) (hex:zbQ ev es 39 L ex) (hst:∀ s,Stp 1 s (ex s).2) (hL:s.l.length<L+1) (hw:s.n+2*(s.l.length:Int)≤2000000) (hn:0≤s.n) (hT:TOk s.l):
 CD Tryz.prog 159 [RB g s,HPow,HErr ev,HSyn es] [dP g 0] (NdR g ev es (zeV rmD ex s)):=by
 refine tZ Tryz.func159 O O (fun C=>?_)
 refine g' 2 O ?_
 refine tA O (fun g1=>?_)
 refine g' 7 O (tE O (Qu.ef (d:=.sh 1 ([(⟨#[42]⟩:ByteArray),(⟨#[47]⟩:ByteArray),(⟨#[37]⟩:ByteArray)].map D.s)) ((ze [.const (.string (⟨#[42]⟩:ByteArray)),.const (.string (⟨#[47]⟩:ByteArray)),.const (.string (⟨#[37]⟩:ByteArray))] O O (.cons (CellD.v O) (.cons (CellD.v O) (.cons (CellD.v O) .nil))) O Tryz.runUnderlying23 Tryz.sizeOf9 Tryz.zeroValue9 O O O O).cv (Cv.shs (.cons cS (.cons cS (.cons cS .nil)))))) ?_)
 rintro _ _ ⟨rfl,rfl⟩
 refine tX [1,1,1,1] O O acs (level_c g s 181 (fun s=>zaK rmD ex (s.l.length+1) s) [(⟨#[42]⟩:ByteArray),(⟨#[47]⟩:ByteArray),(⟨#[37]⟩:ByteArray)] (L+1) ev es (unary_c ev es L ex hev hes hex hst) (fun s=>zcj rmD hst _ s) Tryz.call181 hL (by omega) (by omega) hT) ?_
 rintro _ _ ⟨no2,nt2,nn2,nm2,nl2,ns2,nk2,s2,e2,rfl,rfl⟩
 refine gQ 4 [4] O O ?_
 exact tRs O Tryz.results159 (.cons (zh (i:=4) O O Tryz.isAgg27 Tryz.sizeOf27 O O) .nil) O (HSub.fst 4 O) ⟨no2,nt2,nn2,nm2,nl2,ns2,nk2,⟨s2.l,s2.n,s2.b⟩,e2,O,O⟩
theorem product_c (ev es:Value) (L:Nat) (ex:Rd→Nd×Rd) (hev:EvOk ev) (hes:EvOk es) (hex:zbQ ev es 39 L ex) (hst:∀ s,Stp 1 s (ex s).2):zbQ ev es 159 (L+1) (fun s=>zeV rmD ex s):=fun g s hL hw hn hT=>product_s g s ev es L ex hev hes hex hst hL hw hn hT
theorem sum_s (g:Nat) (s:Rd) (ev es:Value) (L:Nat) (ex:Rd→Nd×Rd) (hev:EvOk ev) (hes:EvOk es) (hex:zbQ ev es 39 L ex) (hst:∀ s,Stp 1 s (ex s).2) (hL:s.l.length<L+1) (hw:s.n+2*(s.l.length:Int)≤2000000) (hn:0≤s.n) (hT:TOk s.l):
 CD Tryz.prog 111 [RB g s,HPow,HErr ev,HSyn es] [dP g 0] (NdR g ev es (sumP rmD ex s)):=by
 refine tZ Tryz.func111 O O (fun C=>?_)
 refine g' 2 O ?_
 refine tA O (fun g1=>?_)
 refine g' 7 O (tE O (Qu.ef (d:=.sh 1 ([(⟨#[43]⟩:ByteArray),(⟨#[45]⟩:ByteArray)].map D.s)) ((ze [.const (.string (⟨#[43]⟩:ByteArray)),.const (.string (⟨#[45]⟩:ByteArray))] O O (.cons (CellD.v O) (.cons (CellD.v O) .nil)) O Tryz.runUnderlying23 Tryz.sizeOf9 Tryz.zeroValue9 O O O O).cv (Cv.shs (.cons cS (.cons cS .nil))))) ?_)
 rintro _ _ ⟨rfl,rfl⟩
 refine tX [1,1,1,1] O O acs (level_c g s 159 (fun s=>zeV rmD ex s) [(⟨#[43]⟩:ByteArray),(⟨#[45]⟩:ByteArray)] (L+1) ev es (product_c ev es L ex hev hes hex hst) (fun s=>prodP_stp rmD hst s) Tryz.call159 hL (by omega) (by omega) hT) ?_
 rintro _ _ ⟨no2,nt2,nn2,nm2,nl2,ns2,nk2,s2,e2,rfl,rfl⟩
 refine gQ 4 [4] O O ?_
 exact tRs O Tryz.results111 (.cons (zh (i:=4) O O Tryz.isAgg27 Tryz.sizeOf27 O O) .nil) O (HSub.fst 4 O) ⟨no2,nt2,nn2,nm2,nl2,ns2,nk2,⟨s2.l,s2.n,s2.b⟩,e2,O,O⟩
theorem sum_c (ev es:Value) (L:Nat) (ex:Rd→Nd×Rd) (hev:EvOk ev) (hes:EvOk es) (hex:zbQ ev es 39 L ex) (hst:∀ s,Stp 1 s (ex s).2):zbQ ev es 111 (L+1) (fun s=>sumP rmD ex s):=fun g s hL hw hn hT=>sum_s g s ev es L ex hev hes hex hst hL hw hn hT
theorem expr_s (g:Nat) (s:Rd) (ev es:Value) (L:Nat) (ex:Rd→Nd×Rd) (hev:EvOk ev) (hes:EvOk es) (hex:zbQ ev es 39 L ex) (hst:∀ s,Stp 1 s (ex s).2) (hL:s.l.length<L+1) (hw:s.n+2*(s.l.length:Int)≤2000000) (hn:0≤s.n) (hT:TOk s.l):
 CD Tryz.prog 39 [RB g s,HPow,HErr ev,HSyn es] [dP g 0] (NdR g ev es (s.level (sumP rmD ex) [tEqq,tNe,tLt,tLe,tGt,tGe])):=by
 refine tZ Tryz.func39 O O (fun C=>?_)
 refine g' 2 O ?_
 refine tA O (fun g1=>?_)
 refine g' 7 O (tE O (Qu.ef (d:=.sh 1 ([(⟨#[61,61]⟩:ByteArray),(⟨#[33,61]⟩:ByteArray),(⟨#[60]⟩:ByteArray),(⟨#[60,61]⟩:ByteArray),(⟨#[62]⟩:ByteArray),(⟨#[62,61]⟩:ByteArray)].map D.s)) ((ze [.const (.string (⟨#[61,61]⟩:ByteArray)),.const (.string (⟨#[33,61]⟩:ByteArray)),.const (.string (⟨#[60]⟩:ByteArray)),.const (.string (⟨#[60,61]⟩:ByteArray)),.const (.string (⟨#[62]⟩:ByteArray)),.const (.string (⟨#[62,61]⟩:ByteArray))] O O (.cons (CellD.v O) (.cons (CellD.v O) (.cons (CellD.v O) (.cons (CellD.v O) (.cons (CellD.v O) (.cons (CellD.v O) .nil)))))) O Tryz.runUnderlying23 Tryz.sizeOf9 Tryz.zeroValue9 O O O O).cv (Cv.shs (.cons cS (.cons cS (.cons cS (.cons cS (.cons cS (.cons cS .nil))))))))) ?_)
 rintro _ _ ⟨rfl,rfl⟩
 refine tX [1,1,1,1] O O acs (level_c g s 111 (fun s=>sumP rmD ex s) [(⟨#[61,61]⟩:ByteArray),(⟨#[33,61]⟩:ByteArray),(⟨#[60]⟩:ByteArray),(⟨#[60,61]⟩:ByteArray),(⟨#[62]⟩:ByteArray),(⟨#[62,61]⟩:ByteArray)] (L+1) ev es (sum_c ev es L ex hev hes hex hst) (fun s=>zdp rmD hst s) Tryz.call111 hL (by omega) (by omega) hT) ?_
 rintro _ _ ⟨no2,nt2,nn2,nm2,nl2,ns2,nk2,s2,e2,rfl,rfl⟩
 refine gQ 4 [4] O O ?_
 exact tRs O Tryz.results39 (.cons (zh (i:=4) O O Tryz.isAgg27 Tryz.sizeOf27 O O) .nil) O (HSub.fst 4 O) ⟨no2,nt2,nn2,nm2,nl2,ns2,nk2,⟨s2.l,s2.n,s2.b⟩,e2,O,O⟩
theorem expr_c (ev es:Value) (L:Nat) (ex:Rd→Nd×Rd) (hev:EvOk ev) (hes:EvOk es) (hex:zbQ ev es 39 L ex) (hst:∀ s,Stp 1 s (ex s).2):zbQ ev es 39 (L+1) (fun s=>s.level (sumP rmD ex) [tEqq,tNe,tLt,tLe,tGt,tGe]):=fun g s hL hw hn hT=>expr_s g s ev es L ex hev hes hex hst hL hw hn hT
theorem exprOk (ev es:Value) (hev:EvOk ev) (hes:EvOk es):∀ f:Nat,zbQ ev es 39 f (zdW rmD f)
 | 0=>fun g s h=>absurd h (by omega)
 | f+1=>expr_c ev es f (zdW rmD f) hev hes (exprOk ev es hev hes f) (fun s=>zbd rmD f s)
theorem bound_c (g:Nat) (s:Rd) (w:ByteArray) (ev es:Value) (hev:EvOk ev) (hes:EvOk es) (hw:s.n+2*(s.l.length:Int)≤3000000) (hn:0≤s.n) (hT:TOk s.l):
 CD Tryz.prog 42 [RB g s,HPow,HErr ev,HSyn es] [dP g 0,.s w] (fun r H'=>∃ v s',(v,s')=s.bound w∧r=dI v∧H'=[RB g s',HPow,HErr ev,HSyn es]):=by
 refine tZ Tryz.func42 O O (fun C=>?_)
 refine T.bd 1 O (fun bd1=>?_)
 have sz1:w.size≤9223372036854775807:=bd1
 refine g' 10 O (tE O (Qu.ef (d:=.sh 1 ([w].map D.s)) (ze [.tmp 10] O O (.cons CellD.s .nil) O Tryz.runUnderlying23 Tryz.sizeOf9 Tryz.zeroValue9 O O O O)) ?_)
 rintro _ _ ⟨rfl,rfl⟩
 refine tX [0] O O acs (zcW g s 1 [w] (by omega) (by omega) hT (by decide)) ?_
 rintro _ _ ⟨t1,q1,s1,e1,rfl,rfl⟩
 obtain ⟨ka1,kb1,kc1,hT1⟩:=(zcV e1).out hT
 have kz1:=zcU e1 hT
 refine g' 13 O ?_
 refine tC O (fun hc2=>?_) (fun hc2=>?_)
 · simp only[bX,bJ] at hc2
   refine g' 7 O ?_
   exact tR O (HSub.fst 4 O) ⟨_,⟨s1.l,s1.n,s1.b⟩,bound_0 e1 (by simpa using hc2),O,O⟩
 · simp only[bX,bJ] at hc2
   refine g' 5 O (tX [0,0,0,0] O O acs (rdnum_c g s1 2 ev es hev hes (by omega) (by omega) hT1 (by omega)) ?_)
   rintro _ _ ⟨v3,s3,e3,rfl,rfl⟩
   obtain ⟨ka3,kb3,kc3,hT3⟩:=(number_e e3).out hT1
   have kv3:=number_bd e3 (by omega) hT1
   refine gQ 11 [0] O O ?_
   refine tOr 5 2 (c:=decide ((2000:Int)<v3)) O O O O O O (fun hb4 nx5=>?_) ?_
   · skip
     refine g' 2 O ?_
     exact nx5 _ O O (kx 2 O O)
   refine gQ 12 [0] O O ?_
   exact tR O (HSub.fst 4 O) ⟨_,⟨s3.l,s3.n,(s3.b||decide ((2000:Int)<v3))⟩,bound_1 e1 (by simpa using hc2) e3,O,O⟩
end Lp
