import Derived.Test.YtheccaeefigajaaGreatDoorV121
set_option linter.unusedSimpArgs false
set_option linter.unusedVariables false
set_option maxHeartbeats 4000000
set_option maxRecDepth 100000
namespace Lp
open Go Go.RowKit Go.Proofs Tryz
theorem aGl (name:ByteArray) :
 CD prog 30 [] [.s name] (isR (dB (hasN aggN name))):=by
 refine tZ func30 O O (λC=>?_);refine T.bd 0 O (λbd0=>?_);have sz0:name.size<=9223372036854775807:=bd0;refine g' 10 O ?_;refine tOr 2 2 (c:=decide (name=(⟨#[109,105,110]⟩:ByteArray))) O O O O O O (λhb1 nx2=>?_) ?_
 · have hf3:=aC hb1;refine g' 2 O ?_;exact nx2 _ O O (kx 2 O O)
 refine g' 1 O ?_;refine tOr 6 2 (c:=decide (name=(⟨#[109,97,120]⟩:ByteArray))) O O O O O O (λhb4 nx5=>?_) ?_
 · obtain ⟨hf6,hf7⟩:=orF hb4;have hf8:=aC hf6;have hf9:=aC hf7;refine g' 2 O ?_;exact nx5 _ O O (kx 2 O O)
 refine g' 1 O ?_;refine tOr 10 2 (c:=decide (name=(⟨#[99,111,117,110,116]⟩:ByteArray))) O O O O O O (λhb10 nx11=>?_) ?_
 · obtain ⟨hf12,hf13⟩:=orF hb10;obtain ⟨hf14,hf15⟩:=orF hf12;have hf16:=aC hf14;have hf17:=aC hf15;have hf18:=aC hf13;refine g' 2 O ?_;exact nx11 _ O O (kx 2 O O)
 refine g' 1 O ?_;refine tOr 14 2 (c:=decide (name=(⟨#[97,118,103]⟩:ByteArray))) O O O O O O (λhb19 nx20=>?_) ?_
 · obtain ⟨hf21,hf22⟩:=orF hb19;obtain ⟨hf23,hf24⟩:=orF hf21;obtain ⟨hf25,hf26⟩:=orF hf23;have hf27:=aC hf25;have hf28:=aC hf26;have hf29:=aC hf24;have hf30:=aC hf22;refine g' 2 O ?_;exact nx20 _ O O (kx 2 O O)
 refine g' 1 O ?_;refine tOr 18 2 (c:=decide (name=(⟨#[116,111,112,107]⟩:ByteArray))) O O O O O O (λhb31 nx32=>?_) ?_
 · obtain ⟨hf33,hf34⟩:=orF hb31;obtain ⟨hf35,hf36⟩:=orF hf33;obtain ⟨hf37,hf38⟩:=orF hf35;obtain ⟨hf39,hf40⟩:=orF hf37;have hf41:=aC hf39;have hf42:=aC hf40;have hf43:=aC hf38;have hf44:=aC hf36;have hf45:=aC hf34;refine g' 2 O ?_;exact nx32 _ O O (kx 2 O O)
 refine g' 1 O ?_;refine tOr 22 2 (c:=decide (name=(⟨#[113,117,97,110,116,105,108,101]⟩:ByteArray))) O O O O O O (λhb46 nx47=>?_) ?_
 · obtain ⟨hf48,hf49⟩:=orF hb46;obtain ⟨hf50,hf51⟩:=orF hf48;obtain ⟨hf52,hf53⟩:=orF hf50;obtain ⟨hf54,hf55⟩:=orF hf52;obtain ⟨hf56,hf57⟩:=orF hf54;have hf58:=aC hf56;have hf59:=aC hf57;have hf60:=aC hf55;have hf61:=aC hf53;have hf62:=aC hf51;have hf63:=aC hf49;refine g' 2 O ?_;exact nx47 _ O O (kx 2 O O)
 refine g' 4 O ?_;exact tRs O results30 (.cons (zd (zc O) (cB ((by simp only[hasN,aggN,jL,jX,dQ,eq_comm (a:=name)];ac_rfl)))) .nil) O mO ⟨O,O⟩
theorem aZm (name:ByteArray) :
 CD prog 187 [] [.s name] (isR (dB (hasN fnN name))):=by
 refine tZ func187 O O (λC=>?_);refine T.bd 0 O (λbd0=>?_);have sz0:name.size<=9223372036854775807:=bd0;refine g' 10 O ?_;refine tOr 2 2 (c:=decide (name=(⟨#[109,105,110,95,111,118,101,114]⟩:ByteArray))) O O O O O O (λhb1 nx2=>?_) ?_
 · have hf3:=aC hb1;refine g' 2 O ?_;exact nx2 _ O O (kx 2 O O)
 refine g' 1 O ?_;refine tOr 6 2 (c:=decide (name=(⟨#[109,97,120,95,111,118,101,114]⟩:ByteArray))) O O O O O O (λhb4 nx5=>?_) ?_
 · obtain ⟨hf6,hf7⟩:=orF hb4;have hf8:=aC hf6;have hf9:=aC hf7;refine g' 2 O ?_;exact nx5 _ O O (kx 2 O O)
 refine g' 1 O ?_;refine tOr 10 2 (c:=decide (name=(⟨#[99,111,117,110,116,95,111,118,101,114]⟩:ByteArray))) O O O O O O (λhb10 nx11=>?_) ?_
 · obtain ⟨hf12,hf13⟩:=orF hb10;obtain ⟨hf14,hf15⟩:=orF hf12;have hf16:=aC hf14;have hf17:=aC hf15;have hf18:=aC hf13;refine g' 2 O ?_;exact nx11 _ O O (kx 2 O O)
 refine g' 1 O ?_;refine tOr 14 2 (c:=decide (name=(⟨#[97,118,103,95,111,118,101,114]⟩:ByteArray))) O O O O O O (λhb19 nx20=>?_) ?_
 · obtain ⟨hf21,hf22⟩:=orF hb19;obtain ⟨hf23,hf24⟩:=orF hf21;obtain ⟨hf25,hf26⟩:=orF hf23;have hf27:=aC hf25;have hf28:=aC hf26;have hf29:=aC hf24;have hf30:=aC hf22;refine g' 2 O ?_;exact nx20 _ O O (kx 2 O O)
 refine g' 1 O ?_;refine tOr 18 2 (c:=decide (name=(⟨#[108,97,115,116,95,111,118,101,114]⟩:ByteArray))) O O O O O O (λhb31 nx32=>?_) ?_
 · obtain ⟨hf33,hf34⟩:=orF hb31;obtain ⟨hf35,hf36⟩:=orF hf33;obtain ⟨hf37,hf38⟩:=orF hf35;obtain ⟨hf39,hf40⟩:=orF hf37;have hf41:=aC hf39;have hf42:=aC hf40;have hf43:=aC hf38;have hf44:=aC hf36;have hf45:=aC hf34;refine g' 2 O ?_;exact nx32 _ O O (kx 2 O O)
 refine g' 1 O ?_;refine tOr 22 2 (c:=decide (name=(⟨#[105,110,99,114,101,97,115,101]⟩:ByteArray))) O O O O O O (λhb46 nx47=>?_) ?_
 · obtain ⟨hf48,hf49⟩:=orF hb46;obtain ⟨hf50,hf51⟩:=orF hf48;obtain ⟨hf52,hf53⟩:=orF hf50;obtain ⟨hf54,hf55⟩:=orF hf52;obtain ⟨hf56,hf57⟩:=orF hf54;have hf58:=aC hf56;have hf59:=aC hf57;have hf60:=aC hf55;have hf61:=aC hf53;have hf62:=aC hf51;have hf63:=aC hf49;refine g' 2 O ?_;exact nx47 _ O O (kx 2 O O)
 refine g' 1 O ?_;refine tOr 26 2 (c:=decide (name=(⟨#[114,97,116,101]⟩:ByteArray))) O O O O O O (λhb64 nx65=>?_) ?_
 · obtain ⟨hf66,hf67⟩:=orF hb64;obtain ⟨hf68,hf69⟩:=orF hf66;obtain ⟨hf70,hf71⟩:=orF hf68;obtain ⟨hf72,hf73⟩:=orF hf70;obtain ⟨hf74,hf75⟩:=orF hf72;obtain ⟨hf76,hf77⟩:=orF hf74;have hf78:=aC hf76;have hf79:=aC hf77;have hf80:=aC hf75;have hf81:=aC hf73;have hf82:=aC hf71;have hf83:=aC hf69;have hf84:=aC hf67;refine g' 2 O ?_;exact nx65 _ O O (kx 2 O O)
 refine g' 4 O ?_;exact tRs O results187 (.cons (zd (zc O) (cB ((by simp only[hasN,fnN,jL,jX,dQ,eq_comm (a:=name)];ac_rfl)))) .nil) O mO ⟨O,O⟩
theorem aZq (name:ByteArray) :
 CD prog 207 [] [.s name] (isR (dB (zcP name))):=by
 refine tZ func207 O O (λC=>?_);refine T.bd 0 O (λbd0=>?_);have sz0:name.size<=9223372036854775807:=bd0;refine g' 8 O (tW O acs (aGl name) (g' 1 O ?_));refine tOr 2 2 (c:=hasN fnN name) O O O O O O (λhb1 nx2=>?_) ?_
 · refine g' 1 O (tW O acs (aZm name) ?_);exact nx2 _ O O (kx 2 O O)
 refine g' 1 O ?_;refine tOr 6 2 (c:=decide (name=(⟨#[111,114,100,101,114]⟩:ByteArray))) O O O O O O (λhb3 nx4=>?_) ?_
 · obtain ⟨hf5,hf6⟩:=orF hb3;refine g' 2 O ?_;exact nx4 _ O O (kx 2 O O)
 refine g' 1 O ?_;refine tOr 10 2 (c:=decide (name=(⟨#[108,105,109,105,116]⟩:ByteArray))) O O O O O O (λhb7 nx8=>?_) ?_
 · obtain ⟨hf9,hf10⟩:=orF hb7;obtain ⟨hf11,hf12⟩:=orF hf9;have hf13:=aC hf10;refine g' 2 O ?_;exact nx8 _ O O (kx 2 O O)
 refine g' 1 O ?_;refine tOr 14 2 (c:=decide (name=(⟨#[111,102,102,115,101,116]⟩:ByteArray))) O O O O O O (λhb14 nx15=>?_) ?_
 · obtain ⟨hf16,hf17⟩:=orF hb14;obtain ⟨hf18,hf19⟩:=orF hf16;obtain ⟨hf20,hf21⟩:=orF hf18;have hf22:=aC hf19;have hf23:=aC hf17;refine g' 2 O ?_;exact nx15 _ O O (kx 2 O O)
 refine g' 1 O ?_;refine tOr 18 2 (c:=decide (name=(⟨#[97,115,99]⟩:ByteArray))) O O O O O O (λhb24 nx25=>?_) ?_
 · obtain ⟨hf26,hf27⟩:=orF hb24;obtain ⟨hf28,hf29⟩:=orF hf26;obtain ⟨hf30,hf31⟩:=orF hf28;obtain ⟨hf32,hf33⟩:=orF hf30;have hf34:=aC hf31;have hf35:=aC hf29;have hf36:=aC hf27;refine g' 2 O ?_;exact nx25 _ O O (kx 2 O O)
 refine g' 1 O ?_;refine tOr 22 2 (c:=decide (name=(⟨#[100,101,115,99]⟩:ByteArray))) O O O O O O (λhb37 nx38=>?_) ?_
 · obtain ⟨hf39,hf40⟩:=orF hb37;obtain ⟨hf41,hf42⟩:=orF hf39;obtain ⟨hf43,hf44⟩:=orF hf41;obtain ⟨hf45,hf46⟩:=orF hf43;obtain ⟨hf47,hf48⟩:=orF hf45;have hf49:=aC hf46;have hf50:=aC hf44;have hf51:=aC hf42;have hf52:=aC hf40;refine g' 2 O ?_;exact nx38 _ O O (kx 2 O O)
 refine g' 1 O ?_;refine tOr 26 2 (c:=decide (name=(⟨#[111,110]⟩:ByteArray))) O O O O O O (λhb53 nx54=>?_) ?_
 · obtain ⟨hf55,hf56⟩:=orF hb53;obtain ⟨hf57,hf58⟩:=orF hf55;obtain ⟨hf59,hf60⟩:=orF hf57;obtain ⟨hf61,hf62⟩:=orF hf59;obtain ⟨hf63,hf64⟩:=orF hf61;obtain ⟨hf65,hf66⟩:=orF hf63;have hf67:=aC hf64;have hf68:=aC hf62;have hf69:=aC hf60;have hf70:=aC hf58;have hf71:=aC hf56;refine g' 2 O ?_;exact nx54 _ O O (kx 2 O O)
 refine g' 1 O ?_;refine tOr 30 2 (c:=decide (name=(⟨#[105,103,110,111,114,105,110,103]⟩:ByteArray))) O O O O O O (λhb72 nx73=>?_) ?_
 · obtain ⟨hf74,hf75⟩:=orF hb72;obtain ⟨hf76,hf77⟩:=orF hf74;obtain ⟨hf78,hf79⟩:=orF hf76;obtain ⟨hf80,hf81⟩:=orF hf78;obtain ⟨hf82,hf83⟩:=orF hf80;obtain ⟨hf84,hf85⟩:=orF hf82;obtain ⟨hf86,hf87⟩:=orF hf84;have hf88:=aC hf85;have hf89:=aC hf83;have hf90:=aC hf81;have hf91:=aC hf79;have hf92:=aC hf77;have hf93:=aC hf75;refine g' 2 O ?_;exact nx73 _ O O (kx 2 O O)
 refine g' 1 O ?_;refine tOr 34 2 (c:=decide (name=(⟨#[98,121]⟩:ByteArray))) O O O O O O (λhb94 nx95=>?_) ?_
 · obtain ⟨hf96,hf97⟩:=orF hb94;obtain ⟨hf98,hf99⟩:=orF hf96;obtain ⟨hf100,hf101⟩:=orF hf98;obtain ⟨hf102,hf103⟩:=orF hf100;obtain ⟨hf104,hf105⟩:=orF hf102;obtain ⟨hf106,hf107⟩:=orF hf104;obtain ⟨hf108,hf109⟩:=orF hf106;obtain ⟨hf110,hf111⟩:=orF hf108;have hf112:=aC hf109;have hf113:=aC hf107;have hf114:=aC hf105;have hf115:=aC hf103;have hf116:=aC hf101;have hf117:=aC hf99;have hf118:=aC hf97;refine g' 2 O ?_;exact nx95 _ O O (kx 2 O O)
 refine g' 1 O ?_;refine tOr 38 2 (c:=decide (name=(⟨#[119,105,116,104,111,117,116]⟩:ByteArray))) O O O O O O (λhb119 nx120=>?_) ?_
 · obtain ⟨hf121,hf122⟩:=orF hb119;obtain ⟨hf123,hf124⟩:=orF hf121;obtain ⟨hf125,hf126⟩:=orF hf123;obtain ⟨hf127,hf128⟩:=orF hf125;obtain ⟨hf129,hf130⟩:=orF hf127;obtain ⟨hf131,hf132⟩:=orF hf129;obtain ⟨hf133,hf134⟩:=orF hf131;obtain ⟨hf135,hf136⟩:=orF hf133;obtain ⟨hf137,hf138⟩:=orF hf135;have hf139:=aC hf136;have hf140:=aC hf134;have hf141:=aC hf132;have hf142:=aC hf130;have hf143:=aC hf128;have hf144:=aC hf126;have hf145:=aC hf124;have hf146:=aC hf122;refine g' 2 O ?_;exact nx120 _ O O (kx 2 O O)
 refine g' 4 O ?_;exact tRs O results207 (.cons (zd (zc O) (cB ((by unfold zcP;generalize hasN aggN name=a;generalize hasN fnN name=b;simp only[hasN,jL,jX,dQ,eq_comm (a:=name)];ac_rfl)))) .nil) O mO ⟨O,O⟩
theorem yF (name:ByteArray) :
 CD prog 140 [] [.s name] (isR (dB (hasN [tEqq,tNe,tLt,tLe,tGt,tGe] name))):=by
 refine tZ func140 O O (λC=>?_);refine T.bd 0 O (λbd0=>?_);have sz0:name.size<=9223372036854775807:=bd0;refine g' 10 O ?_;refine tOr 2 2 (c:=decide (name=(⟨#[33,61]⟩:ByteArray))) O O O O O O (λhb1 nx2=>?_) ?_
 · have hf3:=aC hb1;refine g' 2 O ?_;exact nx2 _ O O (kx 2 O O)
 refine g' 1 O ?_;refine tOr 6 2 (c:=decide (name=(⟨#[60]⟩:ByteArray))) O O O O O O (λhb4 nx5=>?_) ?_
 · obtain ⟨hf6,hf7⟩:=orF hb4;have hf8:=aC hf6;have hf9:=aC hf7;refine g' 2 O ?_;exact nx5 _ O O (kx 2 O O)
 refine g' 1 O ?_;refine tOr 10 2 (c:=decide (name=(⟨#[60,61]⟩:ByteArray))) O O O O O O (λhb10 nx11=>?_) ?_
 · obtain ⟨hf12,hf13⟩:=orF hb10;obtain ⟨hf14,hf15⟩:=orF hf12;have hf16:=aC hf14;have hf17:=aC hf15;have hf18:=aC hf13;refine g' 2 O ?_;exact nx11 _ O O (kx 2 O O)
 refine g' 1 O ?_;refine tOr 14 2 (c:=decide (name=(⟨#[62]⟩:ByteArray))) O O O O O O (λhb19 nx20=>?_) ?_
 · obtain ⟨hf21,hf22⟩:=orF hb19;obtain ⟨hf23,hf24⟩:=orF hf21;obtain ⟨hf25,hf26⟩:=orF hf23;have hf27:=aC hf25;have hf28:=aC hf26;have hf29:=aC hf24;have hf30:=aC hf22;refine g' 2 O ?_;exact nx20 _ O O (kx 2 O O)
 refine g' 1 O ?_;refine tOr 18 2 (c:=decide (name=(⟨#[62,61]⟩:ByteArray))) O O O O O O (λhb31 nx32=>?_) ?_
 · obtain ⟨hf33,hf34⟩:=orF hb31;obtain ⟨hf35,hf36⟩:=orF hf33;obtain ⟨hf37,hf38⟩:=orF hf35;obtain ⟨hf39,hf40⟩:=orF hf37;have hf41:=aC hf39;have hf42:=aC hf40;have hf43:=aC hf38;have hf44:=aC hf36;have hf45:=aC hf34;refine g' 2 O ?_;exact nx32 _ O O (kx 2 O O)
 refine g' 4 O ?_;exact tRs O results140 (.cons (zd (zc O) (cB ((by simp only[hasN,tEqq,tNe,tLt,tLe,tGt,tGe,jL,jX,dQ,eq_comm (a:=name)];ac_rfl)))) .nil) O mO ⟨O,O⟩
def NdR7 (g:Nat) (p:Nd×Rd):D->List Hp->Prop:=λr H'=>∃ op text n mode names ms kids s',(Nd.mk op text n mode names ms kids,s')=p/\r=n7 op text n mode names ms kids/\H'=[RB7 g s']
def Rd.opm (s:Rd) (c:ByteArray):Int×Rd:=(opM c,s.bd (decide (opM c=0)))
section
variable {s z y s1 s2 s3 s4 s5:Rd} {t n c v:ByteArray} {x:TokD} {o ms:List MatD} {f:Nat} {mo w k:Int}
theorem aE5 (hl:0<s.l.length) (hx:s.l[0]?=some x) (h:x.k=1/\zcP x.t=false) (e:(t,s1)=s.any 1):(t,s1)=s.selName7:=by unfold Rd.selName7;rw[aB ⟨hl,by rw[pk_x hx];exact h⟩,e]
theorem aEq (hx:s.l[0]?=some x) (h:¬x.k=1\/zcP x.t=true):(ByteArray.empty,s)=s.selName7:=by
 unfold Rd.selName7;rw[aA];rw[pk_x hx];rintro ⟨_,a,b⟩;rcases h with h | h;exact h a;rw[b] at h;cases h
theorem aEr (hl:s.l.length=0):(ByteArray.empty,s)=s.selName7:=by unfold Rd.selName7;rw[aA (by omega)]
theorem aFi (e:(t,s1)=s.selName7):Stp 0 s s1:=by have h:=(selName7_sk (s:=s)).p;rw[<-e] at h;exact h
theorem a2p (e:(mo,y)=s.opm c):Stp 0 s y:=by have h:=(zfx (s:=s) (b:=decide (opM c=0))).p;unfold Rd.opm at e;injection e with _ e;rw[e];exact h
theorem aMp (h:opM c=k) (hk:k≠0):(k,s)=s.opm c:=by unfold Rd.opm;rw[h,aD hk,bd_f]
theorem a3h (h:opM c=0):(0,(⟨s.l,s.n,true⟩:Rd))=s.opm c:=by unfold Rd.opm;rw[h,aE rfl];unfold Rd.bd;rw[jY]
theorem sI (h:z.b=true\/z.is7 5 zA=true):zay f o z=(o,z):=by cases f<;>unfold zay;rfl;rw[aB h]
theorem aFq (h:¬(z.b=true\/z.is7 5 zA=true)) (hy:y=if 0<o.length then z.must zu else z) (e1:(n,s1)=y.any 1) (e2:(c,s2)=s1.any 5) (hm:(mo,s3)=s2.opm c) (e3:(v,s4)=s3.any 3):zay (f+1) o z=zay f (o++[⟨n,mo,v⟩]) s4:=by
 unfold Rd.opm at hm;injection hm with m1 m2
 conv=>lhs;unfold zay
 rw[aA h];simp only;rw[<-hy,<-e1];simp only;rw[<-e2];simp only;rw[<-m2,<-e3,m1]
theorem aJj (e1:(n,s1)=y.any 1) (e2:(c,s2)=s1.any 5) (hm:(mo,s3)=s2.opm c) (e3:(v,s4)=s3.any 3):s4.b=true\/s1.l.length+1=y.l.length:=(aRx e1 (by decide)).imp (λh=>by
 unfold Rd.opm at hm;injection hm with _ m2;have q2:s2=(s1.any 5).2:=aG Prod.snd e2;have q4:s4=(s3.any 3).2:=aG Prod.snd e3;rw[q4];refine zbZ ?_;rw[m2];show (s2.b||_)=true;rw[q2,zbZ h];rfl) id
theorem aQn (h:s.is7 5 zH=true) (e:s1=s.must zH) (hf:zay (s1.l.length+1) [] s1=(o,s2)) (e2:s3=s2.must zA):(o,s3)=s.selMs7 t:=by unfold Rd.selMs7;simp only;rw[aB h,<-e,hf,e2]
theorem aNd (h:¬s.is7 5 zH=true) (ht:t=ByteArray.empty):([],(⟨s.l,s.n,true⟩:Rd))=s.selMs7 t:=by unfold Rd.selMs7;rw[aA h,aE ht];unfold Rd.bd;rw[jY]
theorem aPt (h:¬s.is7 5 zH=true) (ht:¬t=ByteArray.empty):([],s)=s.selMs7 t:=by unfold Rd.selMs7;rw[aA h,aD ht,bd_f]
theorem aO1 (e:(ms,s1)=s.selMs7 t):Stp 0 s s1:=by have h:=(sY (s:=s) (x:=t)).p;rw[<-e] at h;exact h
theorem aH0 (h:s.is7 5 tSq=true) (e1:s1=s.must tSq) (e2:(t,s2)=s1.any 4) (e3:s3=s2.must tSqE):(numV t,s3)=s.selWin7:=by unfold Rd.selWin7 Rd.number;rw[aB h,<-e1,<-e2,e3]
theorem aHh (h:¬s.is7 5 tSq=true):(0,s)=s.selWin7:=by unfold Rd.selWin7;rw[aA h]
theorem aK1 (e:(w,s1)=s.selWin7):Stp 0 s s1:=by have h:=(selWin7_sk (s:=s)).p;rw[<-e] at h;exact h
theorem aUc (e1:(t,s1)=s.selName7) (e2:(ms,s2)=s1.selMs7 t) (e3:(w,s3)=s2.selWin7) (e4:s4=⟨s3.l,s3.n,s3.b||!(rmD ms)⟩) (e5:s5=s4.node7):(Nd.mk nSel t w 0 [] ms [],s5)=s.sel7 rmD:=by
 unfold Rd.sel7;simp only;rw[<-e1];simp only;rw[<-e2];simp only;rw[<-e3,e5,e4];rfl
end
theorem aX7 (g:Nat) (s:Rd) (hw:s.n+2*(s.l.length:Int)<=3000000) (hn:0<=s.n) (hT:TOk s.l):
 CD prog 188 [RB7 g s] [dP g 0] (NdR7 g (s.sel7 rmD)):=by
 refine tZ func188 O O (λC=>?_);refine g' 2 O ?_;refine tA O (λg1=>?_);refine g' 4 O (tP O (zj [0] [.const (.string ⟨#[115,101,108]⟩)] (zv:=n9) O O (.cons (CellD.v O) .nil) (bK) aZ zd1 ⟨O,O,O,O,O,O,O,trivial⟩ O) ?_);refine tA O (λg2=>?_);refine gQ 4 [0] O O (m8 (mC (h':=.bx g2 27 (.agg [.s nSel,.s ByteArray.empty,dI 0,dI 0,.sh 1 (([]:List ByteArray).map D.s),dZ,.sh 7 (Nd.ds ([]:List Nd))])) O (mD (Cv.agg (.cons cS (.cons cS (gc (gc (.cons Cv.nil (gc (.cons Cv.nil .nil)))))))))) ?_);refine tJ (λ(jg:ByteArray×Rd)=>[(0,dP g 0),(2,dP g1 0),(3,dP g2 0)]) (λ(jg:ByteArray×Rd)=>[.bx g2 27 (.agg [.s nSel,.s jg.1,dI 0,dI 0,.sh 1 (([]:List ByteArray).map D.s),dZ,.sh 7 (Nd.ds ([]:List Nd))]),.bx g1 27 n8,.bx g 106 (.agg [.sh 3 (jg.2.l.map TokD.d),dI jg.2.n,dB jg.2.b])]) (λ(jg:ByteArray×Rd)=>((jg.1,jg.2)=s.selName7)) (λ_ hQ3=>?_) ?_
 · refine g' 1 O ?_;rcases jT s.l.length with hl0 | hl0
   · have hl1:¬(0<((s.l.length:Nat):Int)):=(by omega);refine gQ 5 [2] O O (tP O (zaa (n:=s.l.length) O aO (by simp only[lm,lc,ln])) (tP O (zcB O O (aD hl1)) (g' 25 O ?_)));exact tqe (hQ3 (ByteArray.empty,s) (aEr hl0)) O
   have hl1:(0<((s.l.length:Nat):Int)):=(by omega);obtain ⟨x1,hx1⟩:=zO s.l 0 (by omega);refine gQ 5 [2] O O (tP O (zaa (n:=s.l.length) O aO (by simp only[lm,lc,ln])) (tP O (zcB O O (aE hl1)) (gQ 5 [2] O O (tG O (zh (k:=0) O O aO aP (by first | rfl | omega) (zI hx1)) (g' 5 O ?_)))));refine tAnd 16 9 (c:=!(zcP x1.t)) O O O O O O (λhb4 nx5=>?_) ?_
   · have hf6:=aF hb4;refine gQ 4 [2] O O (tG O (zh (k:=0) O O aO aP (by first | rfl | omega) (zI hx1)) (g' 2 O (tW O acs (aZq x1.t) (g' 1 O ?_))));exact nx5 _ O O (kx 9 O O)
   refine g' 2 O ?_;refine tC O (λhc7=>?_) (λhc7=>?_)
   · simp only[bX,bJ] at hc7;refine g' 2 O (tX [2] O O acs (zcV g s 1 (by omega) (by omega) hT (by decide)) ?_);rintro _ _ ⟨t8,s8,e8,rfl,rfl⟩;obtain ⟨ka8,kb8,kc8,hT8⟩:=(zc6 e8).out hT;have kz8:=zcR e8 hT;refine gQ 3 [1] O O (kA 2 O (kA 2 O ?_));exact tqe (hQ3 (t8,s8) (aE5 hl0 hx1 hc7 e8)) O
   simp only[bX,bJ] at hc7;refine g' 1 O ?_;exact tqe (hQ3 (ByteArray.empty,s) (aEq hx1 hc7)) O
 rintro ⟨t,z⟩ hsel
 replace hsel:(t,z)=s.selName7:=hsel
 refine T.kk [(0,dP g 0),(2,dP g1 0),(3,dP g2 0)] O (m9 [.bx g2 27 (.agg [.s nSel,.s t,dI 0,dI 0,.sh 1 (([]:List ByteArray).map D.s),dZ,.sh 7 (Nd.ds ([]:List Nd))]),.bx g1 27 n8,RB7 g z] (by rfl) (g' 2 O ?_));obtain ⟨kx1,ky1,kz1,hTj1⟩:=(aFi hsel).out hT;refine tJ (λ(jg:List MatD×Rd)=>[(0,dP g 0),(2,dP g1 0),(3,dP g2 0)]) (λ(jg:List MatD×Rd)=>[.bx g2 27 (n7 nSel t 0 0 ([]:List ByteArray) jg.1 ([]:List Nd)),.bx g1 27 n8,.bx g 106 (.agg [.sh 3 (jg.2.l.map TokD.d),dI jg.2.n,dB jg.2.b])]) (λ(jg:List MatD×Rd)=>((jg.1,jg.2)=z.selMs7 t)/\(∀ x∈jg.1,x.n.size<=1000/\x.v.size<=1000)/\(jg.1.length<=2000000)) (λ_ hQ9=>?_) ?_
 · refine g' 3 O (tX [2] O O (ga (ga (.cons (ArgC.cv cS) .nil))) (zdD g z 5 (⟨#[123]⟩:ByteArray) (by omega) (by omega) hTj1 (by decide)) ?_);rintro _ _ ⟨rfl,rfl⟩;refine g' 2 O ?_;refine tC O (λhc11=>?_) (λhc11=>?_)
   · refine g' 3 O (tX [0] O O (ga (.cons (ArgC.cv cS) .nil)) (zb2 g z (⟨#[123]⟩:ByteArray) (by omega) (by omega) hTj1) ?_);rintro _ _ ⟨s12,e12,rfl,rfl⟩;obtain ⟨ka12,kb12,kc12,hT12⟩:=(zaL e12).out hTj1;refine g' 4 O (m8 (HSub.nil 3 65) (kA 2 O (m8 (mC (h':=.bx g2 27 (.agg [.s nSel,.s t,dI 0,dI 0,.sh 1 (([]:List ByteArray).map D.s),.ov (.slice none 0 0),.sh 7 (Nd.ds ([]:List Nd))])) O (mD (Cv.agg (gc (gc (gc (gc (gc (.cons (Cv.ov O) (gc .nil)))))))))) (kA 1 O (kA 1 O (kA 2 O ?_))))));refine tl4 (λ(a_:Nat) (b_:Rd) (c_:Value) (d_:List MatD)=>[(0,dP g 0),(2,dP g1 0),(3,dP g2 0)]) (λa_ b_ c_ d_=>[RB7 g b_,.bx g2 27 (.agg [.s nSel,.s t,dI 0,dI 0,.sh 1 (([]:List ByteArray).map D.s),.ov c_,.sh 7 (Nd.ds ([]:List Nd))]),.sl c_ 3 65 (d_.map MatD.d),.bx g1 27 n8]) (λa_ b_ c_ d_=>(b_.b=true\/b_.l.length<a_)/\(zay a_ d_ b_=zay (s12.l.length+1) [] s12)/\(b_.n+2*(b_.l.length:Int)<=3000000)/\(0<=b_.n)/\(TOk b_.l)/\(d_.length+a_<=1500001)/\(∀ x∈d_,x.n.size<=1000/\x.v.size<=1000)) (λa_ b_ c_ d_=>a_) (s12.l.length+1) s12 (.slice none 0 0) [] O (sa O) w9 ⟨.inr (jB _),O,(by omega),(by omega),hT12,(by show 0+_<=_;omega),(λx hx=>by cases hx)⟩ ?_;rintro f u ov o ⟨hlf,hf,hzw,hzn,hz,hol,hmo⟩;refine gQ 9 [0] O O ?_;refine tAnd 5 3 (c:=!((u.is7 5 (⟨#[125]⟩:ByteArray)))) O O O O O O (λhb13 nx14=>?_) ?_
     · have hf15:=notT hb13;refine g' 1 O (tX [0] O O (ga (ga (.cons (ArgC.cv cS) .nil))) (zdD g u 5 (⟨#[125]⟩:ByteArray) (by omega) (by omega) hz (by decide)) ?_);rintro _ _ ⟨rfl,rfl⟩;refine g' 1 O ?_;exact nx14 _ O O (kx 3 O O)
     refine g' 2 O ?_;refine tC O (λhc17=>?_) (λhc17=>?_)
     · simp only[bX,bJ] at hc17;have hst:¬(u.b=true\/u.is7 5 zA=true):=(by have h:=hc17;rintro (k | k);(rw[k] at h;exact aH h.1 (by decide));(rw[k] at h;exact aH h.2 (by decide)));have hzl:u.l.length<f:=hlf.resolve_left λk=>hst (.inl k)
       obtain ⟨f,rfl⟩:∃ k,f=k+1:=⟨f-1,by omega⟩;refine g' 4 O ?_;refine tJ (λ(jg:Rd)=>[(0,dP g 0),(2,dP g1 0),(3,dP g2 0),(40,dP g 0),(41,dP g 0),(42,dP g 2),(43,dB u.b),(44,dB (!u.b)),(45,dB (!u.b)),(49,dB (!u.b&&!((u.is7 5 (⟨#[125]⟩:ByteArray)))))]) (λ(jg:Rd)=>[RB7 g jg,.bx g2 27 (.agg [.s nSel,.s t,dI 0,dI 0,.sh 1 (([]:List ByteArray).map D.s),.ov ov,.sh 7 (Nd.ds ([]:List Nd))]),.sl ov 3 65 (o.map MatD.d),.bx g1 27 n8]) (λ(jg:Rd)=>(jg=if 0<o.length then u.must zu else u)) (λ_ hQ18=>?_) ?_
       · refine gQ 4 [1] O O (tP O (zan (n:=o.length) (j:=2) O O aU (cV _)) (g' 3 O ?_));refine tD O (λhc19=>?_) (λhc19=>?_)
         · refine g' 2 O (tX [0] O O (ga (.cons (ArgC.cv cS) .nil)) (zb2 g u (⟨#[44]⟩:ByteArray) (by omega) (by omega) hz) ?_);rintro _ _ ⟨s20,e20,rfl,rfl⟩;obtain ⟨ka20,kb20,kc20,hT20⟩:=(zaL e20).out hz;refine g' 1 O ?_;exact tqe (hQ18 s20 (by rw[aB (by omega)];exact e20)) O
         refine g' 1 O ?_;exact tqe (hQ18 u ((aA (by omega)).symm)) O
       rintro y hy;refine g' 2 O ?_;obtain ⟨kx,ky,kw,hTy⟩:=(aKr hy).out hz;refine g' 2 O (tX [0] O O acs (zcV g y 1 (by omega) (by omega) hTy (by decide)) ?_);rintro _ _ ⟨t21,s21,e21,rfl,rfl⟩;obtain ⟨ka21,kb21,kc21,hT21⟩:=(zc6 e21).out hTy;have kz21:=zcR e21 hTy;refine tP O (zj [0] [.tmp 57] (zv:=(.agg #[(.string ByteArray.empty),(.int .i64 0),(.string ByteArray.empty)])) O O (.cons CellD.s .nil) (runUnderlying65) zeroValue65 aX1 ⟨O,O,O,trivial⟩ O) ?_;refine tA O (λg22=>?_);refine gQ 7 [0] O O (tX [1] O O acs (zcV g s21 5 (by omega) (by omega) hT21 (by decide)) ?_);rintro _ _ ⟨t23,s23,e23,rfl,rfl⟩;obtain ⟨ka23,kb23,kc23,hT23⟩:=(zc6 e23).out hT21;have kz23:=zcR e23 hT21;refine g' 3 O ?_;refine tJ (λ(jg:Int×Rd)=>[(0,dP g 0),(2,dP g1 0),(3,dP g2 0),(4,dP g22 0),(40,dP g 0),(41,dP g 0),(42,dP g 2),(43,dB u.b),(44,dB (!u.b)),(45,dB (!u.b)),(49,dB (!u.b&&!((u.is7 5 (⟨#[125]⟩:ByteArray))))),(56,dP g 0),(57,.s t21),(58,.agg [.s t21,dI 0,cC]),(59,dP g 0),(60,.s t23)]) (λ(jg:Int×Rd)=>[.bx g 106 (.agg [.sh 3 (jg.2.l.map TokD.d),dI jg.2.n,dB jg.2.b]),.bx g22 65 (.agg [.s t21,dI jg.1,cC]),.bx g2 27 (.agg [.s nSel,.s t,dI 0,dI 0,.sh 1 (([]:List ByteArray).map D.s),.ov ov,.sh 7 (Nd.ds ([]:List Nd))]),.sl ov 3 65 (o.map MatD.d),.bx g1 27 n8]) (λ(jg:Int×Rd)=>((jg.1,jg.2)=s23.opm t23)) (λ_ hQ24=>?_) ?_
       · refine g' 6 O ?_;refine tD O (λhc25=>?_) (λhc25=>?_)
         · refine gQ 4 [1] O O ?_;exact tqe (hQ24 (1,s23) (aMp (k:=1) (by unfold opM;rw[aB hc25]) (by decide))) O
         refine g' 6 O ?_;refine tD O (λhc26=>?_) (λhc26=>?_)
         · refine gQ 4 [1] O O ?_;exact tqe (hQ24 (2,s23) (aMp (k:=2) (by unfold opM;rw[aA hc25,aB hc26]) (by decide))) O
         refine g' 6 O ?_;refine tD O (λhc27=>?_) (λhc27=>?_)
         · refine gQ 4 [1] O O ?_;exact tqe (hQ24 (3,s23) (aMp (k:=3) (by unfold opM;rw[aA hc25,aA hc26,aB hc27]) (by decide))) O
         refine g' 6 O ?_;refine tD O (λhc28=>?_) (λhc28=>?_)
         · refine gQ 4 [1] O O ?_;exact tqe (hQ24 (4,s23) (aMp (k:=4) (by unfold opM;rw[aA hc25,aA hc26,aA hc27,aB hc28]) (by decide))) O
         refine gQ 6 [0] O O ?_;exact tqe (hQ24 (0,(⟨s23.l,s23.n,true⟩:Rd)) (a3h (by unfold opM;rw[aA hc25,aA hc26,aA hc27,aA hc28]))) O
       rintro ⟨mo,y2⟩ hmo2
       replace hmo2:(mo,y2)=s23.opm t23:=hmo2
       refine T.kk [(0,dP g 0),(2,dP g1 0),(3,dP g2 0),(4,dP g22 0),(40,dP g 0),(41,dP g 0),(42,dP g 2),(43,dB u.b),(44,dB (!u.b)),(45,dB (!u.b)),(49,dB (!u.b&&!((u.is7 5 (⟨#[125]⟩:ByteArray))))),(56,dP g 0),(57,.s t21),(58,.agg [.s t21,dI 0,cC]),(59,dP g 0),(60,.s t23)] O (m9 [RB7 g y2,.bx g22 65 (.agg [.s t21,dI mo,cC]),.bx g2 27 (.agg [.s nSel,.s t,dI 0,dI 0,.sh 1 (([]:List ByteArray).map D.s),.ov ov,.sh 7 (Nd.ds ([]:List Nd))]),.sl ov 3 65 (o.map MatD.d),.bx g1 27 n8] (by rfl) (g' 3 O ?_));obtain ⟨kx2,ky2,kw2,hTm⟩:=(a2p hmo2).out hT23;refine g' 2 O (tX [0] O O acs (zcV g y2 3 (by omega) (by omega) hTm (by decide)) ?_);rintro _ _ ⟨t29,s29,e29,rfl,rfl⟩;obtain ⟨ka29,kb29,kc29,hT29⟩:=(zc6 e29).out hTm;have kz29:=zcR e29 hTm;refine gQ 8 [1,2,1] O O (tE O (Qu.ef (d:=.sh 3 ([(MatD.mk t21 mo t29)].map MatD.d)) (zi [.tmp 81] O O (.cons CellD.agg .nil) O aU bQ zeroValue65 O O O O)) ?_);rintro _ _ ⟨rfl,rfl⟩;refine tE O (zP (f:=MatD.d) (l:=o) (l':=[(MatD.mk t21 mo t29)]) (i:=3) O O O (SrcD.sh) aRg aHj O O (by unfold maxLen;(try simp only[la,lc,ln,lm,lt',ld,ls,lr]);omega) (by (try simp only[la,lc,ln,lm,lt',ld,ls,lr]);omega)) ?_;rintro _ _ ⟨v30,rfl,rfl⟩;refine gQ 4 [2] O O (kA 4 O (kA 4 O (kA 4 O (kA 3 O (m8 (mP 4 O) ?_)))));exact tp4 f s29 v30 (o++[(MatD.mk t21 mo t29)]) (sa O) w9 ⟨(aJj e21 e23 hmo2 e29).imp id (by omega),(aFq hst hy e21 e23 hmo2 e29).symm.trans hf,by omega,by omega,hT29,by simp only[la,cT];omega,qO hmo ⟨by omega,by omega⟩⟩ (by omega)
     simp only[bX,bJ] at hc17;have hff:=hf.symm.trans (sI (by have h:=hc17;rcases h with h | h;exact .inl (by simpa using h);exact .inr (by simpa using h)));refine g' 5 O (m7 (Mv.subH (mB (fU (i:=2) O))) ?_);refine m7 (Mv.freeze (K':=[(0,dP g 0),(2,dP g1 0),(3,dP g2 0),(40,dP g 0),(41,dP g 0),(42,dP g 2),(43,dB u.b),(44,dB (!u.b)),(45,dB (!u.b)),(49,dB (!u.b&&!((u.is7 5 (⟨#[125]⟩:ByteArray)))))]) [.sl ov 3 65 (o.map MatD.d)] (H1:=[RB7 g u,.bx g2 27 (.agg [.s nSel,.s t,dI 0,dI 0,.sh 1 (([]:List ByteArray).map D.s),.ov ov,.sh 7 (Nd.ds ([]:List Nd))]),.bx g1 27 n8]) (H1':=[RB7 g u,.bx g2 27 (n7 nSel t 0 0 ([]:List ByteArray) o ([]:List Nd)),.bx g1 27 n8]) ⟨⟨_,O,mJ⟩,⟨_,O,mJ⟩,⟨_,O,mJ⟩,⟨_,O,mJ⟩,⟨_,O,mJ⟩,⟨_,O,mJ⟩,⟨_,O,mJ⟩,⟨_,O,mJ⟩,⟨_,O,mJ⟩,⟨_,O,mJ⟩,trivial⟩ (.same (.bx (ArgC.agg (ga (ga (ga (ga (ga (.cons (mK (j:=0) O O) (ga .nil)))))))) (.same .nil)))) ?_;refine g' 2 O (tX [0] O O (ga (.cons (ArgC.cv cS) .nil)) (zb2 g u (⟨#[125]⟩:ByteArray) (by omega) (by omega) hz) ?_);rintro _ _ ⟨s31,e31,rfl,rfl⟩;obtain ⟨ka31,kb31,kc31,hT31⟩:=(zaL e31).out hz;refine g' 1 O (kA 2 O (kA 2 O ?_));exact tqe (hQ9 (o,s31) ⟨aQn hc11 e12 hff e31,hmo,(by show o.length<=_;omega)⟩) O
   refine gQ 7 [1] O O ?_;refine tD O (λhc32=>?_) (λhc32=>?_)
   · refine gQ 6 [0] O O (kA 1 O (m8 (mC (h':=.bx g2 27 (n7 nSel t 0 0 ([]:List ByteArray) ([]:List MatD) ([]:List Nd))) O (mD (Cv.agg (gc (gc (gc (gc (gc (.cons Cv.nil (gc .nil)))))))))) (kA 1 O (kA 2 O (kA 2 O ?_)))));exact tqe (hQ9 (([]:List MatD),(⟨z.l,z.n,true⟩:Rd)) ⟨aNd (by simpa using hc11) hc32,(λx hx=>by cases hx),cX _⟩) O
   refine g' 1 O (kA 1 O (m8 (mC (h':=.bx g2 27 (n7 nSel t 0 0 ([]:List ByteArray) ([]:List MatD) ([]:List Nd))) O (mD (Cv.agg (gc (gc (gc (gc (gc (.cons Cv.nil (gc .nil)))))))))) (kA 1 O (kA 2 O (kA 2 O ?_)))));exact tqe (hQ9 (([]:List MatD),z) ⟨aPt (by simpa using hc11) hc32,(λx hx=>by cases hx),cX _⟩) O
 rintro ⟨ms,y⟩ ⟨hms,hmq,hlq⟩
 replace hms:(ms,y)=z.selMs7 t:=hms
 replace hmq:∀ x∈ms,x.n.size<=1000/\x.v.size<=1000:=hmq
 replace hlq:ms.length<=2000000:=hlq
 refine T.kk [(0,dP g 0),(2,dP g1 0),(3,dP g2 0)] O (m9 [.bx g2 27 (n7 nSel t 0 0 ([]:List ByteArray) ms ([]:List Nd)),.bx g1 27 n8,RB7 g y] (by rfl) (g' 2 O ?_));obtain ⟨kx2,ky2,kz2,hTj2⟩:=(aO1 hms).out hTj1;refine tJ (λ(jg:Int×Rd)=>[(0,dP g 0),(2,dP g1 0),(3,dP g2 0)]) (λ(jg:Int×Rd)=>[.bx g2 27 (n7 nSel t jg.1 0 ([]:List ByteArray) ms ([]:List Nd)),.bx g1 27 n8,.bx g 106 (.agg [.sh 3 (jg.2.l.map TokD.d),dI jg.2.n,dB jg.2.b])]) (λ(jg:Int×Rd)=>((jg.1,jg.2)=y.selWin7)) (λ_ hQ33=>?_) ?_
 · refine g' 3 O (tX [2] O O (ga (ga (.cons (ArgC.cv cS) .nil))) (zdD g y 5 (⟨#[91]⟩:ByteArray) (by omega) (by omega) hTj2 (by decide)) ?_);rintro _ _ ⟨rfl,rfl⟩;refine g' 2 O ?_;refine tC O (λhc35=>?_) (λhc35=>?_)
   · refine g' 3 O (tX [0] O O (ga (.cons (ArgC.cv cS) .nil)) (zb2 g y (⟨#[91]⟩:ByteArray) (by omega) (by omega) hTj2) ?_);rintro _ _ ⟨s36,e36,rfl,rfl⟩;obtain ⟨ka36,kb36,kc36,hT36⟩:=(zaL e36).out hTj2;refine g' 5 O (tX [0] O O acs (zcV g s36 4 (by omega) (by omega) hT36 (by decide)) ?_);rintro _ _ ⟨t37,s37,e37,rfl,rfl⟩;obtain ⟨ka37,kb37,kc37,hT37⟩:=(zc6 e37).out hT36;have kz37:=zcR e37 hT36;have hvd:DigO t37:=zft e37 (by decide) hT36;refine tW O acs (zeU t37 (by omega) hvd) (gQ 6 [1] O O (tX [0] O O (ga (.cons (ArgC.cv cS) .nil)) (zb2 g s37 (⟨#[93]⟩:ByteArray) (by omega) (by omega) hT37) ?_));rintro _ _ ⟨s38,e38,rfl,rfl⟩;obtain ⟨ka38,kb38,kc38,hT38⟩:=(zaL e38).out hT37;refine g' 1 O (kA 2 O (kA 2 O ?_));exact tqe (hQ33 (numV t37,s38) (aH0 hc35 e36 e37 e38)) O
   refine g' 1 O (kA 2 O (kA 2 O ?_));exact tqe (hQ33 (0,y) (aHh (by simpa using hc35))) O
 rintro ⟨w,v⟩ hwi
 replace hwi:(w,v)=y.selWin7:=hwi
 refine T.kk [(0,dP g 0),(2,dP g1 0),(3,dP g2 0)] O (m9 [.bx g2 27 (n7 nSel t w 0 ([]:List ByteArray) ms ([]:List Nd)),.bx g1 27 n8,RB7 g v] (by rfl) (g' 2 O ?_));obtain ⟨kx3,ky3,kz3,hTj3⟩:=(aK1 hwi).out hTj2;refine gQ 7 [2] O O ?_;refine tOr 5 4 (c:=!(rmD ms)) O O O O O O (λhb39 nx40=>?_) ?_
 · refine gQ 2 [0] O O (tW O acs (xY ms hlq hmq) (g' 1 O ?_));exact nx40 _ O O (kx 4 O O)
 refine gQ 6 [2] O O ?_;obtain ⟨s41,e41⟩:∃ x:Rd,x=⟨v.l,v.n,(v.b||!(rmD ms))⟩:=⟨_,rfl⟩;have hl41:s41.l=v.l:=by rw[e41]
 have hn41:s41.n=v.n:=by rw[e41]
 have hT41:TOk s41.l:=by rw[hl41];exact hTj3
 have hk41:s41.l.length=v.l.length:=by rw[hl41]
 refine m9 [.bx g2 27 (n7 nSel t w 0 ([]:List ByteArray) ms ([]:List Nd)),.bx g1 27 n8,RB7 g s41] (by rw[e41]<;>rfl) (gQ 3 [0] O O (tX [2] O O acs (zfm g s41 (.s nSel) (.s t) (dI w) (dI 0) (.sh 1 (([]:List ByteArray).map D.s)) (.sh 3 (ms.map MatD.d)) (.sh 7 (Nd.ds ([]:List Nd))) (by omega) (by omega) hT41) ?_));rintro _ _ ⟨s42,e42,rfl,rfl⟩;obtain ⟨ka42,kb42,kc42,hT42⟩:=(zfl e42).out hT41;refine gQ 4 [2] O O ?_;exact tRs O results188 (.cons (zn (i:=2) O O aW aN O O) .nil) O (mP 1 O) ⟨nSel,t,w,0,([]:List ByteArray),ms,([]:List Nd),⟨s42.l,s42.n,s42.b⟩,aUc hsel hms hwi e41 e42,O,O⟩
end Lp
