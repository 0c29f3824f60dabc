import Derived.Test.YtegbgpbchcjahaaGreatDoorV21
set_option linter.all false
set_option maxHeartbeats 4000000
set_option maxRecDepth 100000
namespace Lp
open Go Go.RowKit Go.Proofs
def zbZ (v:Int):CD Tryz.prog 29 [] [dI v] (isR (dB (zD v))):=aDx v
def zP (op:Ba) :
 CD Tryz.prog 13 [] [.s op] (isR (dB (cmpB op))):=by
 refine tZ Tryz.func13 O O (λC=>?_);refine T.bd 0 O (λbd0=>?_);have sz0:op.size<=9223372036854775807:=bd0;refine g' 10 O ?_;refine tOr 2 2 (c:=decide (op=(⟨#[33,61]⟩:Ba))) O O O O O O (λhb1 nx2=>?_) ?_
 · have hf3:=aC hb1;refine g' 2 O ?_;exact nx2 _ O O (kx 2 O O)
 refine g' 1 O ?_;refine tOr 6 2 (c:=decide (op=(⟨#[60]⟩:Ba))) O O O O O O (λhb4 nx5=>?_) ?_
 · obtain ⟨hf6,hf7⟩:=orF hb4;have hf8:=aC hf6;have hf9:=aC hf7;refine g' 2 O ?_;exact nx5 _ O O (kx 2 O O)
 refine g' 1 O ?_;refine tOr 10 2 (c:=decide (op=(⟨#[60,61]⟩:Ba))) O O O O O O (λhb10 nx11=>?_) ?_
 · obtain ⟨hf12,hf13⟩:=orF hb10;obtain ⟨hf14,hf15⟩:=orF hf12;have hf16:=aC hf14;have hf17:=aC hf15;have hf18:=aC hf13;refine g' 2 O ?_;exact nx11 _ O O (kx 2 O O)
 refine g' 1 O ?_;refine tOr 14 2 (c:=decide (op=(⟨#[62]⟩:Ba))) O O O O O O (λhb19 nx20=>?_) ?_
 · obtain ⟨hf21,hf22⟩:=orF hb19;obtain ⟨hf23,hf24⟩:=orF hf21;obtain ⟨hf25,hf26⟩:=orF hf23;have hf27:=aC hf25;have hf28:=aC hf26;have hf29:=aC hf24;have hf30:=aC hf22;refine g' 2 O ?_;exact nx20 _ O O (kx 2 O O)
 refine g' 1 O ?_;refine tOr 18 2 (c:=decide (op=(⟨#[62,61]⟩:Ba))) O O O O O O (λhb31 nx32=>?_) ?_
 · obtain ⟨hf33,hf34⟩:=orF hb31;obtain ⟨hf35,hf36⟩:=orF hf33;obtain ⟨hf37,hf38⟩:=orF hf35;obtain ⟨hf39,hf40⟩:=orF hf37;have hf41:=aC hf39;have hf42:=aC hf40;have hf43:=aC hf38;have hf44:=aC hf36;have hf45:=aC hf34;refine g' 2 O ?_;exact nx32 _ O O (kx 2 O O)
 refine g' 4 O ?_;exact tRs O Tryz.results13 (.cons (zc (za O) (cB ((by unfold cmpB hasN aAt;simp[eq_comm,Bool.or_assoc])))) .nil) O HSub.none ⟨O,O⟩
def yN (op:Ba) :
 CD Tryz.prog 5 [] [.s op] (isR (dB (opB op))):=by
 refine tZ Tryz.func5 O O (λC=>?_);refine T.bd 0 O (λbd0=>?_);have sz0:op.size<=9223372036854775807:=bd0;refine g' 8 O (tW O acs (zP op) (g' 1 O ?_));refine tOr 2 2 (c:=decide (op=(⟨#[43]⟩:Ba))) O O O O O O (λhb1 nx2=>?_) ?_
 · refine g' 2 O ?_;exact nx2 _ O O (kx 2 O O)
 refine g' 1 O ?_;refine tOr 6 2 (c:=decide (op=(⟨#[45]⟩:Ba))) O O O O O O (λhb3 nx4=>?_) ?_
 · obtain ⟨hf5,hf6⟩:=orF hb3;have hf7:=aC hf6;refine g' 2 O ?_;exact nx4 _ O O (kx 2 O O)
 refine g' 1 O ?_;refine tOr 10 2 (c:=decide (op=(⟨#[42]⟩:Ba))) O O O O O O (λhb8 nx9=>?_) ?_
 · obtain ⟨hf10,hf11⟩:=orF hb8;obtain ⟨hf12,hf13⟩:=orF hf10;have hf14:=aC hf13;have hf15:=aC hf11;refine g' 2 O ?_;exact nx9 _ O O (kx 2 O O)
 refine g' 1 O ?_;refine tOr 14 2 (c:=decide (op=(⟨#[47]⟩:Ba))) O O O O O O (λhb16 nx17=>?_) ?_
 · obtain ⟨hf18,hf19⟩:=orF hb16;obtain ⟨hf20,hf21⟩:=orF hf18;obtain ⟨hf22,hf23⟩:=orF hf20;have hf24:=aC hf23;have hf25:=aC hf21;have hf26:=aC hf19;refine g' 2 O ?_;exact nx17 _ O O (kx 2 O O)
 refine g' 1 O ?_;refine tOr 18 2 (c:=decide (op=(⟨#[37]⟩:Ba))) O O O O O O (λhb27 nx28=>?_) ?_
 · obtain ⟨hf29,hf30⟩:=orF hb27;obtain ⟨hf31,hf32⟩:=orF hf29;obtain ⟨hf33,hf34⟩:=orF hf31;obtain ⟨hf35,hf36⟩:=orF hf33;have hf37:=aC hf36;have hf38:=aC hf34;have hf39:=aC hf32;have hf40:=aC hf30;refine g' 2 O ?_;exact nx28 _ O O (kx 2 O O)
 refine g' 4 O ?_;exact tRs O Tryz.results5 (.cons (zc (za O) (cB ((by rw[aBm])))) .nil) O HSub.none ⟨O,O⟩
def aSj (op:Ba) (a b:Int) :
 CD Tryz.prog 78 [] [.s op,dI a,dI b] (isR (.tup [dI ((doE op a b).1),dI ((doE op a b).2)])):=by
 refine tZ Tryz.func78 O O (λC=>?_);refine T.bd 0 O (λbd0=>?_);have sz0:op.size<=9223372036854775807:=bd0;refine g' 10 O (tW O acs (zbZ a) (g' 2 O ?_));refine tOr 3 3 (c:=!(zD b)) O O O O O O (λhb1 nx2=>?_) ?_
 · have hf3:=notF hb1;refine g' 1 O (tW O acs (zbZ b) (g' 1 O ?_));exact nx2 _ O O (kx 3 O O)
 refine g' 1 O ?_;refine tOr 8 3 (c:=!(opB op)) O O O O O O (λhb4 nx5=>?_) ?_
 · obtain ⟨hf6,hf7⟩:=orF hb4;have hf8:=notF hf6;have hf9:=notF hf7;refine g' 1 O (tW O acs (yN op) (g' 1 O ?_));exact nx5 _ O O (kx 3 O O)
 refine g' 2 O ?_;refine tC O (λhc10=>?_) (λhc10=>?_)
 · simp only[bX,bJ] at hc10;refine g' 8 O ?_;exact tRs rfl Tryz.results78 (.cons (zc (za rfl) (w6 (aG (λn=>D.v (.int .i64 n)) (by rw[aQg (by have h:=hc10;(try simp only[jJ,uA] at h);first | (rcases h with (h | h) | h;exact .inl h;exact .inr (.inl h);exact .inr (.inr h)) | (rcases h with h | h | h;exact .inl h;exact .inr (.inl h);exact .inr (.inr h)))])))) (.cons (zc (za rfl) (w6 (aG (λn=>D.v (.int .i64 n)) (by rw[aQg (by have h:=hc10;(try simp only[jJ,uA] at h);first | (rcases h with (h | h) | h;exact .inl h;exact .inr (.inl h);exact .inr (.inr h)) | (rcases h with h | h | h;exact .inl h;exact .inr (.inl h);exact .inr (.inr h)))])))) .nil)) rfl HSub.none ⟨rfl,rfl⟩
 simp only[bX,bJ] at hc10;have hr:=hc10;have ha:zD a=true:=by first | exact hr.1 | exact hr.1.1
 have hb:zD b=true:=by first | exact hr.1.2 | exact hr.2.1
 have ho:opB op=true:=by first | exact hr.2 | exact hr.2.2
 have hba:=zgs.1 ha;have hbb:=zgs.1 hb;refine g' 21 O ?_;refine tD O (λhc11=>?_) (λhc11=>?_)
 · have hop:op=(⟨#[43]⟩:Ba):=hc11;have hcb:cmpB op=false:=(by rw[hop];decide);have hd:=aXy ha hb hop;refine g' 3 O (tP O (zq (c:=(a+b)) O O (zh (by omega) (by omega))) (g' 8 O (tW O acs (zP op) (ts 101 O (aG (λb=>D.v (.bool b)) hcb) (g' 9 O (tW O acs (zbZ (a+b)) (g' 3 O ?_)))))));refine tC O (λhc12=>?_) (λhc12=>?_)
   · simp only[bX,bJ] at hc12;refine g' 8 O ?_;exact tRs O Tryz.results78 (.cons (zc (za O) (w6 (aG (λn=>D.v (.int .i64 n)) (by rw[hd]<;>unfold zaV<;>first | (rw[aB (by first | assumption | simp_all)];done) | (rw[aA (by simp_all)];done))))) (.cons (zc (za O) (w6 (aG (λn=>D.v (.int .i64 n)) (by rw[hd]<;>unfold zaV<;>first | (rw[aB (by first | assumption | simp_all)];done) | (rw[aA (by simp_all)];done))))) .nil)) O HSub.none ⟨O,O⟩
   simp only[bX,bJ] at hc12;refine g' 10 O ?_;exact tRs O Tryz.results78 (.cons (zc (za O) (w6 (aG (λn=>D.v (.int .i64 n)) (by rw[hd]<;>unfold zaV<;>first | (rw[aB (by first | assumption | simp_all)];done) | (rw[aA (by simp_all)];done))))) (.cons (zc (za O) (w6 (aG (λn=>D.v (.int .i64 n)) (by rw[hd]<;>unfold zaV<;>first | (rw[aB (by first | assumption | simp_all)];done) | (rw[aA (by simp_all)];done))))) .nil)) O HSub.none ⟨O,O⟩
 refine g' 6 O ?_;refine tD O (λhc13=>?_) (λhc13=>?_)
 · have hop:op=(⟨#[45]⟩:Ba):=hc13;have hcb:cmpB op=false:=(by rw[hop];decide);have hd:=aXi ha hb hop;refine g' 3 O (tP O (zR (c:=(a-b)) O O (zh (by omega) (by omega))) (g' 8 O (tW O acs (zP op) (ts 101 O (aG (λb=>D.v (.bool b)) hcb) (g' 9 O (tW O acs (zbZ (a-b)) (g' 3 O ?_)))))));refine tC O (λhc14=>?_) (λhc14=>?_)
   · simp only[bX,bJ] at hc14;refine g' 8 O ?_;exact tRs O Tryz.results78 (.cons (zc (za O) (w6 (aG (λn=>D.v (.int .i64 n)) (by rw[hd]<;>unfold zaV<;>first | (rw[aB (by first | assumption | simp_all)];done) | (rw[aA (by simp_all)];done))))) (.cons (zc (za O) (w6 (aG (λn=>D.v (.int .i64 n)) (by rw[hd]<;>unfold zaV<;>first | (rw[aB (by first | assumption | simp_all)];done) | (rw[aA (by simp_all)];done))))) .nil)) O HSub.none ⟨O,O⟩
   simp only[bX,bJ] at hc14;refine g' 10 O ?_;exact tRs O Tryz.results78 (.cons (zc (za O) (w6 (aG (λn=>D.v (.int .i64 n)) (by rw[hd]<;>unfold zaV<;>first | (rw[aB (by first | assumption | simp_all)];done) | (rw[aA (by simp_all)];done))))) (.cons (zc (za O) (w6 (aG (λn=>D.v (.int .i64 n)) (by rw[hd]<;>unfold zaV<;>first | (rw[aB (by first | assumption | simp_all)];done) | (rw[aA (by simp_all)];done))))) .nil)) O HSub.none ⟨O,O⟩
 refine g' 6 O ?_;refine tD O (λhc15=>?_) (λhc15=>?_)
 · have hop:op=(⟨#[42]⟩:Ba):=hc15;have hcb:cmpB op=false:=(by rw[hop];decide);have hd:=aYd ha hb hop;refine g' 6 O ?_;refine tAnd 2 2 (c:=decide (b≠(0:Int))) O O O O O O (λhb16 nx17=>?_) ?_
   · have hf18:=aF hb16;refine g' 2 O ?_;exact nx17 _ O O (kx 2 O O)
   refine g' 1 O ?_;refine tAnd 6 10 (c:=decide ((Int.tdiv 1000000000000 (max b (-b)))<(max a (-a)))) O O O O O O (λhb19 nx20=>?_) ?_
   · obtain ⟨hf21,hf22⟩:=andT hb19;have hf23:=aF hf21;have hf24:=aF hf22;refine g' 2 O (tG O (aKo O (c:=(-a)) (zh (by omega) (by omega))) (tG O (zfe O O O) (g' 2 O (tG O (aKo O (c:=(-b)) (zh (by omega) (by omega))) (tG O (zfe O O O) ?_)))));have htd:=zfs (1000000000000) (max b (-b));refine tG O (zeA (c:=(Int.tdiv 1000000000000 (max b (-b)))) O O (by omega) (zh O (by omega))) (g' 1 O ?_);exact nx20 _ O O (kx 10 O O)
   refine g' 2 O ?_;refine tC O (λhc25=>?_) (λhc25=>?_)
   · simp only[bX,bJ] at hc25;refine g' 10 O ?_;exact tRs O Tryz.results78 (.cons (zc (za O) (w6 (aG (λn=>D.v (.int .i64 n)) (by rw[hd]<;>first | (rw[htk.1];done) | (unfold zcD;rw[aB (by have h:=hc25;omega)]))))) (.cons (zc (za O) (w6 (aG (λn=>D.v (.int .i64 n)) (by rw[hd]<;>first | (rw[htk.1];done) | (unfold zcD;rw[aB (by have h:=hc25;omega)]))))) .nil)) O HSub.none ⟨O,O⟩
   simp only[bX,bJ] at hc25;refine g' 5 O ?_;have htk:=aJp (a:=a) (b:=b) (by have h:=hc25;omega);have hrv:=htk.2;have hmb:=zgs.1 htk.2;refine tP O (zc2 (c:=(a*b)) O O (zh O (by omega))) (g' 8 O (tW O acs (zP op) (ts 101 O (aG (λb=>D.v (.bool b)) hcb) (g' 9 O (tW O acs (zbZ (a*b)) (ts 104 O (aG (λb=>D.v (.bool b)) hrv) (g' 14 O ?_)))))));exact tRs O Tryz.results78 (.cons (zc (za O) (w6 (aG (λn=>D.v (.int .i64 n)) (by rw[hd]<;>first | (rw[htk.1];done) | (unfold zcD;rw[aB (by have h:=hc25;omega)]))))) (.cons (zc (za O) (w6 (aG (λn=>D.v (.int .i64 n)) (by rw[hd]<;>first | (rw[htk.1];done) | (unfold zcD;rw[aB (by have h:=hc25;omega)]))))) .nil)) O HSub.none ⟨O,O⟩
 refine g' 7 O ?_;refine tD O (λhc26=>?_) (λhc26=>?_)
 · have hop:op=(⟨#[47]⟩:Ba):=hc26;have hcb:cmpB op=false:=(by rw[hop];decide);have hd:=aV5 ha hb hop;have hn37:¬op=(⟨#[37]⟩:Ba):=(by rw[hop];decide);refine g' 2 O ?_;refine tD O (λhc27=>?_) (λhc27=>?_)
   · refine g' 7 O ?_;refine tD O (λhc28=>?_) (λhc28=>?_)
     · refine g' 10 O ?_;exact tRs O Tryz.results78 (.cons (zc (za O) (w6 (aG (λn=>D.v (.int .i64 n)) (by rw[hd]<;>first | (rw[aB (by first | assumption | omega)];done) | (rw[aA (by first | assumption | omega)];done))))) (.cons (zc (za O) (w6 (aG (λn=>D.v (.int .i64 n)) (by rw[hd]<;>first | (rw[aB (by first | assumption | omega)];done) | (rw[aA (by first | assumption | omega)];done))))) .nil)) O HSub.none ⟨O,O⟩
     refine g' 6 O ?_;have htd:=zfs a b;have hrv:zD (Int.tdiv a b)=true:=aOv ha;refine tP O (zeA (c:=(Int.tdiv a b)) O O (by omega) (zh O (by omega))) (g' 6 O (tP O (zaU O O (aD hn37)) (g' 10 O (tW O acs (zP op) (ts 101 O (aG (λb=>D.v (.bool b)) hcb) (g' 9 O (tW O acs (zbZ (Int.tdiv a b)) (ts 104 O (aG (λb=>D.v (.bool b)) hrv) (g' 14 O ?_)))))))));exact tRs O Tryz.results78 (.cons (zc (za O) (w6 (aG (λn=>D.v (.int .i64 n)) (by rw[hd]<;>first | (rw[aB (by first | assumption | omega)];done) | (rw[aA (by first | assumption | omega)];done))))) (.cons (zc (za O) (w6 (aG (λn=>D.v (.int .i64 n)) (by rw[hd]<;>first | (rw[aB (by first | assumption | omega)];done) | (rw[aA (by first | assumption | omega)];done))))) .nil)) O HSub.none ⟨O,O⟩
   refine g' 6 O ?_;refine tD O (λhc29=>?_) (λhc29=>?_)
   · have hop:op=(⟨#[61,61]⟩:Ba):=hc29;have hcb:cmpB op=true:=(by rw[hop];decide);have hd:=aXw ha hb hop;refine g' 12 O (tW O acs (zP op) (ts 101 O (aG (λb=>D.v (.bool b)) hcb) (g' 9 O ?_)));refine tD O (λhc30=>?_) (λhc30=>?_)
     · refine g' 9 O ?_;exact tRs O Tryz.results78 (.cons (zc (za O) (w6 (aG (λn=>D.v (.int .i64 n)) (by rw[hd]<;>first | (rw[aB (by simp_all)];done) | (rw[aA (by simp_all)];done))))) (.cons (zc (za O) (w6 (aG (λn=>D.v (.int .i64 n)) (by rw[hd]<;>first | (rw[aB (by simp_all)];done) | (rw[aA (by simp_all)];done))))) .nil)) O HSub.none ⟨O,O⟩
     refine g' 10 O ?_;exact tRs O Tryz.results78 (.cons (zc (za O) (w6 (aG (λn=>D.v (.int .i64 n)) (by rw[hd]<;>first | (rw[aB (by simp_all)];done) | (rw[aA (by simp_all)];done))))) (.cons (zc (za O) (w6 (aG (λn=>D.v (.int .i64 n)) (by rw[hd]<;>first | (rw[aB (by simp_all)];done) | (rw[aA (by simp_all)];done))))) .nil)) O HSub.none ⟨O,O⟩
   refine g' 6 O ?_;refine tD O (λhc31=>?_) (λhc31=>?_)
   · have hop:op=(⟨#[33,61]⟩:Ba):=hc31;have hcb:cmpB op=true:=(by rw[hop];decide);have hd:=aW9 ha hb hop;refine g' 12 O (tW O acs (zP op) (ts 101 O (aG (λb=>D.v (.bool b)) hcb) (g' 9 O ?_)));refine tD O (λhc32=>?_) (λhc32=>?_)
     · refine g' 9 O ?_;exact tRs O Tryz.results78 (.cons (zc (za O) (w6 (aG (λn=>D.v (.int .i64 n)) (by rw[hd]<;>first | (rw[aB (by simp_all)];done) | (rw[aA (by simp_all)];done))))) (.cons (zc (za O) (w6 (aG (λn=>D.v (.int .i64 n)) (by rw[hd]<;>first | (rw[aB (by simp_all)];done) | (rw[aA (by simp_all)];done))))) .nil)) O HSub.none ⟨O,O⟩
     refine g' 10 O ?_;exact tRs O Tryz.results78 (.cons (zc (za O) (w6 (aG (λn=>D.v (.int .i64 n)) (by rw[hd]<;>first | (rw[aB (by simp_all)];done) | (rw[aA (by simp_all)];done))))) (.cons (zc (za O) (w6 (aG (λn=>D.v (.int .i64 n)) (by rw[hd]<;>first | (rw[aB (by simp_all)];done) | (rw[aA (by simp_all)];done))))) .nil)) O HSub.none ⟨O,O⟩
   refine g' 6 O ?_;refine tD O (λhc33=>?_) (λhc33=>?_)
   · have hop:op=(⟨#[60]⟩:Ba):=hc33;have hcb:cmpB op=true:=(by rw[hop];decide);have hd:=aXq ha hb hop;refine g' 12 O (tW O acs (zP op) (ts 101 O (aG (λb=>D.v (.bool b)) hcb) (g' 9 O ?_)));refine tD O (λhc34=>?_) (λhc34=>?_)
     · refine g' 9 O ?_;exact tRs O Tryz.results78 (.cons (zc (za O) (w6 (aG (λn=>D.v (.int .i64 n)) (by rw[hd]<;>first | (rw[aB (by simp_all)];done) | (rw[aA (by simp_all)];done))))) (.cons (zc (za O) (w6 (aG (λn=>D.v (.int .i64 n)) (by rw[hd]<;>first | (rw[aB (by simp_all)];done) | (rw[aA (by simp_all)];done))))) .nil)) O HSub.none ⟨O,O⟩
     refine g' 10 O ?_;exact tRs O Tryz.results78 (.cons (zc (za O) (w6 (aG (λn=>D.v (.int .i64 n)) (by rw[hd]<;>first | (rw[aB (by simp_all)];done) | (rw[aA (by simp_all)];done))))) (.cons (zc (za O) (w6 (aG (λn=>D.v (.int .i64 n)) (by rw[hd]<;>first | (rw[aB (by simp_all)];done) | (rw[aA (by simp_all)];done))))) .nil)) O HSub.none ⟨O,O⟩
   refine g' 6 O ?_;refine tD O (λhc35=>?_) (λhc35=>?_)
   · have hop:op=(⟨#[60,61]⟩:Ba):=hc35;have hcb:cmpB op=true:=(by rw[hop];decide);have hd:=aVx ha hb hop;refine g' 12 O (tW O acs (zP op) (ts 101 O (aG (λb=>D.v (.bool b)) hcb) (g' 9 O ?_)));refine tD O (λhc36=>?_) (λhc36=>?_)
     · refine g' 9 O ?_;exact tRs O Tryz.results78 (.cons (zc (za O) (w6 (aG (λn=>D.v (.int .i64 n)) (by rw[hd]<;>first | (rw[aB (by simp_all)];done) | (rw[aA (by simp_all)];done))))) (.cons (zc (za O) (w6 (aG (λn=>D.v (.int .i64 n)) (by rw[hd]<;>first | (rw[aB (by simp_all)];done) | (rw[aA (by simp_all)];done))))) .nil)) O HSub.none ⟨O,O⟩
     refine g' 10 O ?_;exact tRs O Tryz.results78 (.cons (zc (za O) (w6 (aG (λn=>D.v (.int .i64 n)) (by rw[hd]<;>first | (rw[aB (by simp_all)];done) | (rw[aA (by simp_all)];done))))) (.cons (zc (za O) (w6 (aG (λn=>D.v (.int .i64 n)) (by rw[hd]<;>first | (rw[aB (by simp_all)];done) | (rw[aA (by simp_all)];done))))) .nil)) O HSub.none ⟨O,O⟩
   refine g' 6 O ?_;refine tD O (λhc37=>?_) (λhc37=>?_)
   · have hop:op=(⟨#[62]⟩:Ba):=hc37;have hcb:cmpB op=true:=(by rw[hop];decide);have hd:=aWm ha hb hop;refine g' 12 O (tW O acs (zP op) (ts 101 O (aG (λb=>D.v (.bool b)) hcb) (g' 9 O ?_)));refine tD O (λhc38=>?_) (λhc38=>?_)
     · refine g' 9 O ?_;exact tRs O Tryz.results78 (.cons (zc (za O) (w6 (aG (λn=>D.v (.int .i64 n)) (by rw[hd]<;>first | (rw[aB (by simp_all)];done) | (rw[aA (by simp_all)];done))))) (.cons (zc (za O) (w6 (aG (λn=>D.v (.int .i64 n)) (by rw[hd]<;>first | (rw[aB (by simp_all)];done) | (rw[aA (by simp_all)];done))))) .nil)) O HSub.none ⟨O,O⟩
     refine g' 10 O ?_;exact tRs O Tryz.results78 (.cons (zc (za O) (w6 (aG (λn=>D.v (.int .i64 n)) (by rw[hd]<;>first | (rw[aB (by simp_all)];done) | (rw[aA (by simp_all)];done))))) (.cons (zc (za O) (w6 (aG (λn=>D.v (.int .i64 n)) (by rw[hd]<;>first | (rw[aB (by simp_all)];done) | (rw[aA (by simp_all)];done))))) .nil)) O HSub.none ⟨O,O⟩
   have hge:op=(⟨#[62,61]⟩:Ba):=aJl ho (by assumption) (by assumption) (by assumption) (by assumption) (by assumption) (by assumption) (by assumption) (by assumption) (by assumption) (by assumption);have hop:op=(⟨#[62,61]⟩:Ba):=hge;have hcb:cmpB op=true:=(by rw[hop];decide);have hd:=aVz ha hb hop;refine g' 12 O (tW O acs (zP op) (ts 101 O (aG (λb=>D.v (.bool b)) hcb) (g' 9 O ?_)));refine tD O (λhc39=>?_) (λhc39=>?_)
   · refine g' 9 O ?_;exact tRs O Tryz.results78 (.cons (zc (za O) (w6 (aG (λn=>D.v (.int .i64 n)) (by rw[hd]<;>first | (rw[aB (by simp_all)];done) | (rw[aA (by simp_all)];done))))) (.cons (zc (za O) (w6 (aG (λn=>D.v (.int .i64 n)) (by rw[hd]<;>first | (rw[aB (by simp_all)];done) | (rw[aA (by simp_all)];done))))) .nil)) O HSub.none ⟨O,O⟩
   refine g' 10 O ?_;exact tRs O Tryz.results78 (.cons (zc (za O) (w6 (aG (λn=>D.v (.int .i64 n)) (by rw[hd]<;>first | (rw[aB (by simp_all)];done) | (rw[aA (by simp_all)];done))))) (.cons (zc (za O) (w6 (aG (λn=>D.v (.int .i64 n)) (by rw[hd]<;>first | (rw[aB (by simp_all)];done) | (rw[aA (by simp_all)];done))))) .nil)) O HSub.none ⟨O,O⟩
 refine g' 5 O ?_;refine tD O (λhc40=>?_) (λhc40=>?_)
 · have hop:op=(⟨#[37]⟩:Ba):=hc40;have hcb:cmpB op=false:=(by rw[hop];decide);have hd:=aW7 ha hb hop;refine g' 7 O ?_;refine tD O (λhc41=>?_) (λhc41=>?_)
   · refine g' 10 O ?_;exact tRs O Tryz.results78 (.cons (zc (za O) (w6 (aG (λn=>D.v (.int .i64 n)) (by rw[hd]<;>first | (rw[aB (by first | assumption | omega)];done) | (rw[aA (by first | assumption | omega)];done))))) (.cons (zc (za O) (w6 (aG (λn=>D.v (.int .i64 n)) (by rw[hd]<;>first | (rw[aB (by first | assumption | omega)];done) | (rw[aA (by first | assumption | omega)];done))))) .nil)) O HSub.none ⟨O,O⟩
   refine g' 6 O ?_;have htd:=zfs a b;have hrv:zD (Int.tdiv a b)=true:=aOv ha;refine tP O (zeA (c:=(Int.tdiv a b)) O O (by omega) (zh O (by omega))) (g' 6 O (tP O (zaU O O (aE hop)) (g' 7 O ?_)));have hmb:=aDq (a:=a) (b:=b);refine tP O (zc2 (c:=(b*Int.tdiv a b)) O O (zh O (by omega))) ?_;have hrv2:zD (a-b*Int.tdiv a b)=true:=aYg ha;have hrvm:zD (Int.tmod a b)=true:=(by rw[<-aG1];exact hrv2);have hbm:=zgs.1 hrvm;have hre:=aG1 (a:=a) (b:=b);refine tP O ((zR (c:=(a-b*Int.tdiv a b)) O O (zh O (by omega))).cv (w6 (aG dI hre))) (g' 8 O (tW O acs (zP op) (ts 101 O (aG (λb=>D.v (.bool b)) hcb) (g' 9 O (tW O acs (zbZ (Int.tmod a b)) (ts 104 O (aG (λb=>D.v (.bool b)) hrvm) (g' 14 O ?_)))))));exact tRs O Tryz.results78 (.cons (zc (za O) (w6 (aG (λn=>D.v (.int .i64 n)) (by rw[hd]<;>first | (rw[aB (by first | assumption | omega)];done) | (rw[aA (by first | assumption | omega)];done))))) (.cons (zc (za O) (w6 (aG (λn=>D.v (.int .i64 n)) (by rw[hd]<;>first | (rw[aB (by first | assumption | omega)];done) | (rw[aA (by first | assumption | omega)];done))))) .nil)) O HSub.none ⟨O,O⟩
 refine g' 6 O ?_;refine tD O (λhc42=>?_) (λhc42=>?_)
 · have hop:op=(⟨#[61,61]⟩:Ba):=hc42;have hcb:cmpB op=true:=(by rw[hop];decide);have hd:=aXw ha hb hop;refine g' 12 O (tW O acs (zP op) (ts 101 O (aG (λb=>D.v (.bool b)) hcb) (g' 9 O ?_)));refine tD O (λhc43=>?_) (λhc43=>?_)
   · refine g' 9 O ?_;exact tRs O Tryz.results78 (.cons (zc (za O) (w6 (aG (λn=>D.v (.int .i64 n)) (by rw[hd]<;>first | (rw[aB (by simp_all)];done) | (rw[aA (by simp_all)];done))))) (.cons (zc (za O) (w6 (aG (λn=>D.v (.int .i64 n)) (by rw[hd]<;>first | (rw[aB (by simp_all)];done) | (rw[aA (by simp_all)];done))))) .nil)) O HSub.none ⟨O,O⟩
   refine g' 10 O ?_;exact tRs O Tryz.results78 (.cons (zc (za O) (w6 (aG (λn=>D.v (.int .i64 n)) (by rw[hd]<;>first | (rw[aB (by simp_all)];done) | (rw[aA (by simp_all)];done))))) (.cons (zc (za O) (w6 (aG (λn=>D.v (.int .i64 n)) (by rw[hd]<;>first | (rw[aB (by simp_all)];done) | (rw[aA (by simp_all)];done))))) .nil)) O HSub.none ⟨O,O⟩
 refine g' 6 O ?_;refine tD O (λhc44=>?_) (λhc44=>?_)
 · have hop:op=(⟨#[33,61]⟩:Ba):=hc44;have hcb:cmpB op=true:=(by rw[hop];decide);have hd:=aW9 ha hb hop;refine g' 12 O (tW O acs (zP op) (ts 101 O (aG (λb=>D.v (.bool b)) hcb) (g' 9 O ?_)));refine tD O (λhc45=>?_) (λhc45=>?_)
   · refine g' 9 O ?_;exact tRs O Tryz.results78 (.cons (zc (za O) (w6 (aG (λn=>D.v (.int .i64 n)) (by rw[hd]<;>first | (rw[aB (by simp_all)];done) | (rw[aA (by simp_all)];done))))) (.cons (zc (za O) (w6 (aG (λn=>D.v (.int .i64 n)) (by rw[hd]<;>first | (rw[aB (by simp_all)];done) | (rw[aA (by simp_all)];done))))) .nil)) O HSub.none ⟨O,O⟩
   refine g' 10 O ?_;exact tRs O Tryz.results78 (.cons (zc (za O) (w6 (aG (λn=>D.v (.int .i64 n)) (by rw[hd]<;>first | (rw[aB (by simp_all)];done) | (rw[aA (by simp_all)];done))))) (.cons (zc (za O) (w6 (aG (λn=>D.v (.int .i64 n)) (by rw[hd]<;>first | (rw[aB (by simp_all)];done) | (rw[aA (by simp_all)];done))))) .nil)) O HSub.none ⟨O,O⟩
 refine g' 6 O ?_;refine tD O (λhc46=>?_) (λhc46=>?_)
 · have hop:op=(⟨#[60]⟩:Ba):=hc46;have hcb:cmpB op=true:=(by rw[hop];decide);have hd:=aXq ha hb hop;refine g' 12 O (tW O acs (zP op) (ts 101 O (aG (λb=>D.v (.bool b)) hcb) (g' 9 O ?_)));refine tD O (λhc47=>?_) (λhc47=>?_)
   · refine g' 9 O ?_;exact tRs O Tryz.results78 (.cons (zc (za O) (w6 (aG (λn=>D.v (.int .i64 n)) (by rw[hd]<;>first | (rw[aB (by simp_all)];done) | (rw[aA (by simp_all)];done))))) (.cons (zc (za O) (w6 (aG (λn=>D.v (.int .i64 n)) (by rw[hd]<;>first | (rw[aB (by simp_all)];done) | (rw[aA (by simp_all)];done))))) .nil)) O HSub.none ⟨O,O⟩
   refine g' 10 O ?_;exact tRs O Tryz.results78 (.cons (zc (za O) (w6 (aG (λn=>D.v (.int .i64 n)) (by rw[hd]<;>first | (rw[aB (by simp_all)];done) | (rw[aA (by simp_all)];done))))) (.cons (zc (za O) (w6 (aG (λn=>D.v (.int .i64 n)) (by rw[hd]<;>first | (rw[aB (by simp_all)];done) | (rw[aA (by simp_all)];done))))) .nil)) O HSub.none ⟨O,O⟩
 refine g' 6 O ?_;refine tD O (λhc48=>?_) (λhc48=>?_)
 · have hop:op=(⟨#[60,61]⟩:Ba):=hc48;have hcb:cmpB op=true:=(by rw[hop];decide);have hd:=aVx ha hb hop;refine g' 12 O (tW O acs (zP op) (ts 101 O (aG (λb=>D.v (.bool b)) hcb) (g' 9 O ?_)));refine tD O (λhc49=>?_) (λhc49=>?_)
   · refine g' 9 O ?_;exact tRs O Tryz.results78 (.cons (zc (za O) (w6 (aG (λn=>D.v (.int .i64 n)) (by rw[hd]<;>first | (rw[aB (by simp_all)];done) | (rw[aA (by simp_all)];done))))) (.cons (zc (za O) (w6 (aG (λn=>D.v (.int .i64 n)) (by rw[hd]<;>first | (rw[aB (by simp_all)];done) | (rw[aA (by simp_all)];done))))) .nil)) O HSub.none ⟨O,O⟩
   refine g' 10 O ?_;exact tRs O Tryz.results78 (.cons (zc (za O) (w6 (aG (λn=>D.v (.int .i64 n)) (by rw[hd]<;>first | (rw[aB (by simp_all)];done) | (rw[aA (by simp_all)];done))))) (.cons (zc (za O) (w6 (aG (λn=>D.v (.int .i64 n)) (by rw[hd]<;>first | (rw[aB (by simp_all)];done) | (rw[aA (by simp_all)];done))))) .nil)) O HSub.none ⟨O,O⟩
 refine g' 6 O ?_;refine tD O (λhc50=>?_) (λhc50=>?_)
 · have hop:op=(⟨#[62]⟩:Ba):=hc50;have hcb:cmpB op=true:=(by rw[hop];decide);have hd:=aWm ha hb hop;refine g' 12 O (tW O acs (zP op) (ts 101 O (aG (λb=>D.v (.bool b)) hcb) (g' 9 O ?_)));refine tD O (λhc51=>?_) (λhc51=>?_)
   · refine g' 9 O ?_;exact tRs O Tryz.results78 (.cons (zc (za O) (w6 (aG (λn=>D.v (.int .i64 n)) (by rw[hd]<;>first | (rw[aB (by simp_all)];done) | (rw[aA (by simp_all)];done))))) (.cons (zc (za O) (w6 (aG (λn=>D.v (.int .i64 n)) (by rw[hd]<;>first | (rw[aB (by simp_all)];done) | (rw[aA (by simp_all)];done))))) .nil)) O HSub.none ⟨O,O⟩
   refine g' 10 O ?_;exact tRs O Tryz.results78 (.cons (zc (za O) (w6 (aG (λn=>D.v (.int .i64 n)) (by rw[hd]<;>first | (rw[aB (by simp_all)];done) | (rw[aA (by simp_all)];done))))) (.cons (zc (za O) (w6 (aG (λn=>D.v (.int .i64 n)) (by rw[hd]<;>first | (rw[aB (by simp_all)];done) | (rw[aA (by simp_all)];done))))) .nil)) O HSub.none ⟨O,O⟩
 have hge:op=(⟨#[62,61]⟩:Ba):=aJl ho (by assumption) (by assumption) (by assumption) (by assumption) (by assumption) (by assumption) (by assumption) (by assumption) (by assumption) (by assumption);have hop:op=(⟨#[62,61]⟩:Ba):=hge;have hcb:cmpB op=true:=by rw[hop];decide
 have hd:=aVz ha hb hop;refine g' 12 O (tW O acs (zP op) (ts 101 O (aG (λb=>D.v (.bool b)) hcb) (g' 9 O ?_)));refine tD O (λhc52=>?_) (λhc52=>?_)
 · refine g' 9 O ?_;exact tRs O Tryz.results78 (.cons (zc (za O) (w6 (aG (λn=>D.v (.int .i64 n)) (by rw[hd]<;>first | (rw[aB (by simp_all)];done) | (rw[aA (by simp_all)];done))))) (.cons (zc (za O) (w6 (aG (λn=>D.v (.int .i64 n)) (by rw[hd]<;>first | (rw[aB (by simp_all)];done) | (rw[aA (by simp_all)];done))))) .nil)) O HSub.none ⟨O,O⟩
 refine g' 10 O ?_;exact tRs O Tryz.results78 (.cons (zc (za O) (w6 (aG (λn=>D.v (.int .i64 n)) (by rw[hd]<;>first | (rw[aB (by simp_all)];done) | (rw[aA (by simp_all)];done))))) (.cons (zc (za O) (w6 (aG (λn=>D.v (.int .i64 n)) (by rw[hd]<;>first | (rw[aB (by simp_all)];done) | (rw[aA (by simp_all)];done))))) .nil)) O HSub.none ⟨O,O⟩
end Lp
namespace Lp
open Go
def Rd.is7 (s:Rd) (k:Int) (t:Ba):Bool:=!s.b&&s.is k [t]
def Rd.tl (s:Rd):Rd:=⟨s.l.tail,s.n,s.b⟩
def Rd.bd (s:Rd) (b:Bool):Rd:=⟨s.l,s.n,s.b||b⟩
def Rd.node7 (s:Rd):Rd:=⟨s.l,s.n+1,s.b⟩
def zaD:Nat->List Ba->Rd->List Ba×Rd
 | 0,o,s=>(o,s)
 | f+1,o,s=>
  if s.b=true\/s.is7 5 zL=true then(o,s)
  else
   let t:=if 0<o.length then s.must zV else s
   zaD f (o++[(t.any 1).1]) (t.any 1).2
def Rd.names7 (s:Rd):List Ba×Rd:=
 let r:=zaD ((s.must zE).l.length+1) [] (s.must zE)
 (r.1,r.2.must zL)
def Rd.mode7 (s:Rd) (a b:Ba):Int×List Ba×Rd:=
 if s.is7 1 a=true\/s.is7 1 b=true then(if s.is7 1 b=true then 2 else 1,s.tl.names7) else(0,[],s)
def zbS (part:Rd->Nd×Rd) (signs:List Ba):Nat->Nd->Rd->Nd×Rd
 | 0,o,s=>(o,s)
 | f+1,o,s=>
  if s.b=true\/s.is 5 signs=false then(o,s)
  else
   let m:=s.tl.mode7 tOn zQ;let q:=part m.2.2
   zbS part signs f (.mk tBin s.pk.t 0 m.1 m.2.1 [] [o,q.1]) q.2.node7
def Rd.level7 (s:Rd) (part:Rd->Nd×Rd) (signs:List Ba):Nd×Rd:=zbS part signs ((part s).2.l.length+1) (part s).1 (part s).2
def za7:Nat->List MatD->Rd->List MatD×Rd
 | 0,o,s=>(o,s)
 | f+1,o,s=>
  if s.b=true\/s.is7 5 zaW=true then(o,s)
  else
   let t:=if 0<o.length then s.must zV else s
   let a:=t.any 1;let c:=a.2.any 5;let v:=(c.2.bd (decide (opM c.1=0))).any 3
   za7 f (o++[⟨a.1,opM c.1,v.1⟩]) v.2
section
variable (rm:List MatD->Bool)
def Rd.selName7 (s:Rd):Ba×Rd:=if 0<s.l.length/\s.pk.k=1/\zef s.pk.t=false then s.any 1 else(ByteArray.empty,s)
def Rd.selMs7 (s:Rd) (text:Ba):List MatD×Rd:=
 if s.is7 5 zaq=true then
  let r:=za7 ((s.must zaq).l.length+1) [] (s.must zaq)
  (r.1,r.2.must zaW)
 else([],s.bd (decide (text=ByteArray.empty)))
def Rd.selWin7 (s:Rd):Int×Rd:=if s.is7 5 tSq=true then(((s.must tSq).number 4).1,((s.must tSq).number 4).2.must tSqE) else(0,s)
def Rd.sel7 (s:Rd):Nd×Rd:=
 let a:=s.selName7;let m:=a.2.selMs7 a.1;let w:=m.2.selWin7
 (.mk nSel a.1 w.1 0 [] m.1 [],(w.2.bd (!rm m.1)).node7)
def Rd.aggr7 (s:Rd) (ex:Rd->Nd×Rd):Nd×Rd:=
 let a:=s.any 1;let m:=a.2.mode7 tBy zN;let p:=m.2.2.must zE;let k:=if zaA a.1=true then(p.number 2) else(0,p)
 let p2:=if zaA a.1=true then k.2.must zV else k.2
 let q:=ex p2
 (.mk tAgg a.1 k.1 m.1 m.2.1 [] [q.1],(q.2.must zL).node7)
def Rd.prim7 (s:Rd) (ex:Rd->Nd×Rd):Nd×Rd:=
 if s.b=true\/s.l.length=0 then(noNd,s.bd true)
 else if s.pk.k=2 then(.mk tNum ByteArray.empty (numV s.pk.t) 0 [] [] [],s.tl.node7)
 else if s.is7 5 zE=true then((ex (s.must zE)).1,(ex (s.must zE)).2.must zL)
 else if s.pk.k=1/\hasN aggN s.pk.t=true then s.aggr7 ex
 else if s.pk.k=1/\hasN fnN s.pk.t=true then
  let q:=ex (s.tl.must zE)
  (.mk tFn s.pk.t 0 0 [] [] [q.1],(q.2.must zL).node7)
 else s.sel7 rm
def zbj (ex:Rd->Nd×Rd):Nat->Rd->Nd×Rd
 | 0,s=>(noNd,s)
 | f+1,s=>
  if s.is7 5 zaM=true then
   let q:=zbj ex f s.tl
   (.mk tNeg ByteArray.empty 0 0 [] [] [q.1],q.2.node7)
  else s.prim7 rm ex
def aLg (ex:Rd->Nd×Rd) (s:Rd):Nd×Rd:=s.level7 (λs=>zbj rm ex (s.l.length+1) s) [zc6,zfB,tMod]
def sum7 (ex:Rd->Nd×Rd) (s:Rd):Nd×Rd:=s.level7 (aLg rm ex) [zdi,zaM]
def zfn:Nat->Rd->Nd×Rd
 | 0,s=>(noNd,s)
 | f+1,s=>s.level7 (sum7 rm (zfn f)) [tEqq,tNe,tLt,tLe,tGt,tGe]
end
def Rd.order7 (s:Rd):Int×Rd:=
 if s.is7 1 zbM=true then
  let a:=s.tl.any 1
  if a.1=tAsc then(1,a.2) else if a.1=zev then(2,a.2) else(0,a.2.bd true)
 else(0,s)
def Rd.bound7 (s:Rd) (w:Ba):Int×Rd:=if s.is7 1 w=true then s.tl.number 2 else(-1,s)
def aJc (rm:List MatD->Bool) (l:List TokD):Option QryD:=
 let e:=zfn rm (l.length+1) ⟨l,0,false⟩;let o:=e.2.order7;let a:=o.2.bound7 zcF;let b:=a.2.bound7 zb6
 if b.2.b=true\/0<b.2.l.length\/200<b.2.n\/2000<a.1\/2000<b.1 then none else some ⟨e.1,o.1,a.1,b.1⟩
structure Sk (c:Int) (s t:Rd):Prop where
 p:Stp c s t
 b:s.b=true->t.b=true
section
variable {s t u:Rd} {c d:Int} {k:Int} {x y:Ba} {ts:List Ba}
def m0 (s:Rd):Sk 0 s s:=⟨mT s,id⟩
def Sk.trans (h:Sk c s t) (k:Sk d t u):Sk (c+d) s u:=⟨h.p.trans k.p,λe=>k.b (h.b e)⟩
def Sk.le (h:Sk c s t) (e:c<=d):Sk d s t:=⟨h.p.le e,h.b⟩
def zaP:Sk 0 s (s.must x):=⟨zaa s x,zX⟩
def zdw:Sk 0 s (s.any k).2:=⟨zco s k,zcC⟩
def zf2 {b:Bool}:Sk 0 s (s.bd b):=⟨(mT s).bad _,λe=>by show (s.b||b)=true;rw[e];rfl⟩
def za4:Sk 1 s s.node7:=⟨⟨List.suffix_refl _,by unfold Rd.w Rd.node7;simp only;omega,by unfold Rd.node7;simp only;omega⟩,id⟩
def zgF:Sk 0 s s.tl:=⟨⟨vF _,by unfold Rd.w Rd.tl;simp only[List.length_tail];omega,u6 _⟩,id⟩
def zeq (h:s.l≠[]):Sk (-2) s s.tl/\s.tl.l.length+1=s.l.length:=by
 have hl:=oT h;exact⟨⟨⟨vF _,by unfold Rd.w Rd.tl;simp only;omega,u6 _⟩,id⟩,hl⟩
def aHh (hk:k≠0) (h:s.is7 k x=true):s.l≠[]/\s.b=false:=by
 unfold Rd.is7 at h;simp only[cU,uA] at h;exact⟨zfl hk h.2,h.1⟩
def gO:∀ (f:Nat) (o:List Ba) (s:Rd),Sk 0 s (zaD f o s).2
 | 0,o,s=>m0 s
 | f+1,o,s=>by
  unfold zaD;split
  · exact m0 s
  simp only;have h1:Sk 0 s (if 0<o.length then s.must zV else s):=by split;exact zaP;exact m0 s
  exact((h1.trans zdw).trans (gO f _ _)).le (by omega)
def rV:Sk 0 s s.names7.2:=by
 unfold Rd.names7;exact((zaP.trans (gO _ _ _)).trans zaP).le (by omega)
def pT:Sk 0 s (s.mode7 x y).2.2:=by
 unfold Rd.mode7;split
 · exact(zgF.trans rV).le (by omega)
 exact m0 s
def zdb {part:Rd->Nd×Rd} {signs:List Ba} (hp:∀ s,Sk 1 s (part s).2):∀ (f:Nat) (o:Nd) (s:Rd),Sk 0 s (zbS part signs f o s).2
 | 0,o,s=>m0 s
 | f+1,o,s=>by
  unfold zbS;split
  · exact m0 s
  rename_i h;have hi:s.is 5 signs=true:=by
   cases e:s.is 5 signs with
   | true=>rfl
   | false=>exact aH (.inr e) h
  have h1:=(zeq (zfl (by decide) hi)).1;exact((((h1.trans pT).trans (hp _)).trans za4).trans (zdb hp f _ _)).le (by omega)
def lH {part:Rd->Nd×Rd} (hp:∀ s,Sk 1 s (part s).2) (signs:List Ba) (s:Rd):Sk 1 s (s.level7 part signs).2:=((hp s).trans (zdb hp _ _ _)).le (by omega)
def fM:∀ (f:Nat) (o:List MatD) (s:Rd),Sk 0 s (za7 f o s).2
 | 0,o,s=>m0 s
 | f+1,o,s=>by
  unfold za7;split
  · exact m0 s
  simp only;have h1:Sk 0 s (if 0<o.length then s.must zV else s):=by split;exact zaP;exact m0 s
  exact(((((h1.trans zdw).trans zdw).trans zf2).trans zdw).trans (fM f _ _)).le (by omega)
def selName7_sk:Sk 0 s s.selName7.2:=by unfold Rd.selName7;split;exact zdw;exact m0 s
def sE:Sk 0 s (s.selMs7 x).2:=by
 unfold Rd.selMs7;split
 · exact((zaP.trans (fM _ _ _)).trans zaP).le (by omega)
 exact zf2
def selWin7_sk:Sk 0 s s.selWin7.2:=by
 unfold Rd.selWin7;split
 · exact((zaP.trans (t:=s.must tSq) zdw).trans zaP).le (by omega)
 exact m0 s
variable {rm:List MatD->Bool}
def aGp (s:Rd):Sk 1 s (s.sel7 rm).2:=((((selName7_sk.trans sE).trans selWin7_sk).trans zf2).trans za4).le (by omega)
def aAi {ex:Rd->Nd×Rd} (hp:∀ s,Sk 1 s (ex s).2) (h:s.is7 5 zE=false) (hb:s.b=false) (hk:s.pk.k=1):Sk 1 s (s.aggr7 ex).2:=by
 have h0:Sk (-2) s (s.any 1).2:=⟨(zf4 (by decide) hb hk).2.1,zcC⟩;have h2:=(h0.trans (pT (x:=tBy) (y:=zN))).trans (zaP (x:=zE));unfold Rd.aggr7;simp only;split
 · exact(((((h2.trans (zdw (k:=2))).trans (zaP (x:=zV))).trans (hp _)).trans zaP).trans za4).le (by omega)
 exact(((h2.trans (hp _)).trans zaP).trans za4).le (by omega)
def aAl {ex:Rd->Nd×Rd} (hp:∀ s,Sk 1 s (ex s).2) (s:Rd):Sk 1 s (s.prim7 rm ex).2:=by
 unfold Rd.prim7;split
 · exact zf2.le (by omega)
 rename_i hc;have hb:s.b=false:=by
  cases e:s.b with
  | false=>rfl
  | true=>exact aH (.inl e) hc
 split
 · exact(zgF.trans za4).le (by omega)
 split
 · exact((zaP.trans (hp _)).trans zaP).le (by omega)
 rename_i ho;split
 · rename_i h;exact aAi hp (by simpa using ho) hb h.1
 split
 · rename_i h;have h1:=(zeq (zgt (by decide) h.1)).1;exact((((h1.trans zaP).trans (hp _)).trans zaP).trans za4).le (by omega)
 exact aGp s
def zc5 {ex:Rd->Nd×Rd} (hp:∀ s,Sk 1 s (ex s).2):∀ (f:Nat) (s:Rd),Sk 1 s (zbj rm ex f s).2
 | 0,s=>(m0 s).le (by omega)
 | f+1,s=>by
  unfold zbj;split
  · rename_i h;exact(((zeq (aHh (by decide) h).1).1.trans (zc5 hp f _)).trans za4).le (by omega)
  exact aAl hp s
def pJ {ex:Rd->Nd×Rd} (hp:∀ s,Sk 1 s (ex s).2) (s:Rd):Sk 1 s (aLg rm ex s).2:=lH (λs=>zc5 hp _ s) _ s
def qN {ex:Rd->Nd×Rd} (hp:∀ s,Sk 1 s (ex s).2) (s:Rd):Sk 1 s (sum7 rm ex s).2:=lH (λs=>pJ hp s) _ s
def zdd:∀ (f:Nat) (s:Rd),Sk 1 s (zfn rm f s).2
 | 0,s=>(m0 s).le (by omega)
 | f+1,s=>lH (λs=>qN (zdd f) s) _ s
end
end Lp
