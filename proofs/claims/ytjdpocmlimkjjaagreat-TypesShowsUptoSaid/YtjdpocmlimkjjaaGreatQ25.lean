/- Conditions: those in each statement. -/
import Derived.Test.YtjdpocmlimkjjaaGreatQ04
import Derived.Test.YtjdpocmlimkjjaaGreatQ08
import Derived.Test.YtjdpocmlimkjjaaGreatQ05
set_option maxHeartbeats 32000000
set_option maxRecDepth 100000
namespace Go.Proofs.YtjdpocmlimkjjaaGreat
open Go.RowKit
theorem znz (c:UInt8):zfC c=decide (97≤(c.toNat:Int)∧(c.toNat:Int)≤122∨65≤(c.toNat:Int)∧(c.toNat:Int)≤90):=by
 unfold zfC;simp only[UInt8.le_iff_toNat_le,←Bool.decide_and,←Bool.decide_or];apply decide_eq_decide.2
 show (97≤c.toNat∧c.toNat≤122∨65≤c.toNat∧c.toNat≤90)↔_
 omega
theorem zpz (c:UInt8):zcY c=decide (48≤(c.toNat:Int)∧(c.toNat:Int)≤57):=by
 unfold zcY;simp only[UInt8.le_iff_toNat_le,←Bool.decide_and];apply decide_eq_decide.2
 show (48≤c.toNat∧c.toNat≤57)↔_
 omega
theorem zrp (c:UInt8):wc c=(zfC c || (zcY c || c == 95)):=by
 unfold wc zfC zcY;simp only[Bool.or_assoc]
theorem zcD {c:UInt8} {n:Nat} (h:¬c=UInt8.ofNat n):((c.toNat:Int) == (n:Int))=false:=by
 rw[beq_eq_false_iff_ne];intro e;apply h;rw[←show c.toNat=n by omega];simp
theorem zhB (c:UInt8) (w:World):Calls Tryz.prog 72 #[.int .u8 (c.toNat:Int)] w λe w'=>e=.returned (.bool (zfC c))∧w'=w:=by
 rw[znz];obtain⟨X,hX⟩:∃X,(c.toNat:Int)=X:=⟨_,rfl⟩;rw[hX];clear hX;rcases (show (X≤64)∨(65≤X∧X≤90)∨(91≤X∧X≤96)∨(97≤X∧X≤122)∨(123≤X) by omega) with h|⟨h,h'⟩|⟨h,h'⟩|⟨h,h'⟩|h
 ·rw[decide_eq_false (by omega)];have k65:¬65≤X:=by omega
  have k97:¬97≤X:=by omega
  have k90:X≤90:=by omega
  have k122:X≤122:=by omega
  clear h;go_enter Tryz.func72,Tryz.ntmps72;go_wp2_with fail
  all_goals first
   |(exfalso;omega)
   |(go_ret;exact⟨rfl,rfl⟩)
 ·rw[decide_eq_true (by omega)];have k65:65≤X:=by omega
  have k97:¬97≤X:=by omega
  have k90:X≤90:=by omega
  have k122:X≤122:=by omega
  clear h h';go_enter Tryz.func72,Tryz.ntmps72;go_wp2_with fail
  all_goals first
   |(exfalso;omega)
   |(go_ret;exact⟨rfl,rfl⟩)
 ·rw[decide_eq_false (by omega)];have k65:65≤X:=by omega
  have k97:¬97≤X:=by omega
  have k90:¬X≤90:=by omega
  have k122:X≤122:=by omega
  clear h h';go_enter Tryz.func72,Tryz.ntmps72;go_wp2_with fail
  all_goals first
   |(exfalso;omega)
   |(go_ret;exact⟨rfl,rfl⟩)
 ·rw[decide_eq_true (by omega)];have k65:65≤X:=by omega
  have k97:97≤X:=by omega
  have k90:¬X≤90:=by omega
  have k122:X≤122:=by omega
  clear h h';go_enter Tryz.func72,Tryz.ntmps72;go_wp2_with fail
  all_goals first
   |(exfalso;omega)
   |(go_ret;exact⟨rfl,rfl⟩)
 ·rw[decide_eq_false (by omega)];have k65:65≤X:=by omega
  have k97:97≤X:=by omega
  have k90:¬X≤90:=by omega
  have k122:¬X≤122:=by omega
  clear h;go_enter Tryz.func72,Tryz.ntmps72;go_wp2_with fail
  all_goals first
   |(exfalso;omega)
   |(go_ret;exact⟨rfl,rfl⟩)
theorem zgk (c:UInt8) (w:World):Calls Tryz.prog 74 #[.int .u8 (c.toNat:Int)] w λe w'=>e=.returned (.bool (zcY c))∧w'=w:=by
 rw[zpz];obtain⟨X,hX⟩:∃X,(c.toNat:Int)=X:=⟨_,rfl⟩;rw[hX];clear hX;rcases (show (X≤47)∨(48≤X∧X≤57)∨(58≤X) by omega) with h|⟨h,h'⟩|h
 ·rw[decide_eq_false (by omega)];have k48:¬48≤X:=by omega
  have k57:X≤57:=by omega
  clear h;go_enter Tryz.func74,Tryz.ntmps74;go_wp2_with fail
  all_goals first
   |(exfalso;omega)
   |(go_ret;exact⟨rfl,rfl⟩)
 ·rw[decide_eq_true (by omega)];have k48:48≤X:=by omega
  have k57:X≤57:=by omega
  clear h h';go_enter Tryz.func74,Tryz.ntmps74;go_wp2_with fail
  all_goals first
   |(exfalso;omega)
   |(go_ret;exact⟨rfl,rfl⟩)
 ·rw[decide_eq_false (by omega)];have k48:48≤X:=by omega
  have k57:¬X≤57:=by omega
  clear h;go_enter Tryz.func74,Tryz.ntmps74;go_wp2_with fail
  all_goals first
   |(exfalso;omega)
   |(go_ret;exact⟨rfl,rfl⟩)
theorem zlv (c:UInt8) (w:World):Calls Tryz.prog 135 #[.int .u8 (c.toNat:Int)] w λe w'=>e=.returned (.bool (wc c))∧w'=w:=by
 have HL:=zz (λW=>zhB c W);have HD:=zz (λW=>zgk c W);rw[zrp];cases hl:zfC c with
 |true=>
  rw[hl] at HL;go_enter Tryz.func135,Tryz.ntmps135;go_wp2_with fail;(with_reducible refine(HL.out _).mono ?_);rintro e w1 ⟨rfl,rfl⟩;go_wp2_with fail;go_ret;exact⟨rfl,rfl⟩
 |false=>
  rw[hl] at HL;cases hd:zcY c with
  |true=>
   rw[hd] at HD;go_enter Tryz.func135,Tryz.ntmps135;go_wp2_with fail;(with_reducible refine(HL.out _).mono ?_);rintro e w1 ⟨rfl,rfl⟩;go_wp2_with fail;(with_reducible refine(HD.out _).mono ?_);rintro e w2 ⟨rfl,rfl⟩;go_wp2_with fail;go_ret;exact⟨rfl,rfl⟩
  |false=>
   rw[hd] at HD
   have he:((c.toNat:Int) == 95)=(c == 95):=by
    by_cases h:c=95
    ·subst h;rfl
    ·rw[show ((c.toNat:Int) == 95)=false from zcD (n:=95) h];simp[h]
   go_enter Tryz.func135,Tryz.ntmps135;go_wp2_with fail;(with_reducible refine(HL.out _).mono ?_);rintro e w1 ⟨rfl,rfl⟩;go_wp2_with fail;(with_reducible refine(HD.out _).mono ?_);rintro e w2 ⟨rfl,rfl⟩;go_wp2_with fail;go_ret;exact⟨by simp,rfl⟩
theorem zkB (c:UInt8) (w:World):Calls Tryz.prog 103 #[.int .u8 (c.toNat:Int)] w λe w'=>e=.returned (.tuple #[.int .u8 (((escC c).getD 0).toNat:Int),.bool (escC c).isSome])∧w'=w:=by
 by_cases h110:c=110
 ·subst h110;go_enter Tryz.func103,Tryz.ntmps103;go_wp2_with fail;exact bodyPost_ret (results_tmp2 (by rfl) _ _ _) rfl ⟨rfl,rfl⟩
 by_cases h116:c=116
 ·subst h116;go_enter Tryz.func103,Tryz.ntmps103;go_wp2_with fail;exact bodyPost_ret (results_tmp2 (by rfl) _ _ _) rfl ⟨rfl,rfl⟩
 by_cases h34:c=34
 ·subst h34;go_enter Tryz.func103,Tryz.ntmps103;go_wp2_with fail;exact bodyPost_ret (results_tmp2 (by rfl) _ _ _) rfl ⟨rfl,rfl⟩
 by_cases h92:c=92
 ·subst h92;go_enter Tryz.func103,Tryz.ntmps103;go_wp2_with fail;exact bodyPost_ret (results_tmp2 (by rfl) _ _ _) rfl ⟨rfl,rfl⟩
 have he:escC c=none:=by unfold escC;rw[if_neg h110,if_neg h116,if_neg (by simp[h34,h92])]
 rw[he];have e110:((c.toNat:Int) == 110)=false:=zcD (n:=110) h110;have e116:((c.toNat:Int) == 116)=false:=zcD (n:=116) h116;have e34:((c.toNat:Int) == 34)=false:=zcD (n:=34) h34;have e92:((c.toNat:Int) == 92)=false:=zcD (n:=92) h92;obtain⟨X,hX⟩:∃X,(c.toNat:Int)=X:=⟨_,rfl⟩;rw[hX] at e110 e116 e34 e92;rw[hX];clear hX h110 h116 h34 h92 he;go_enter Tryz.func103,Tryz.ntmps103;go_wp2_with fail;exact bodyPost_ret (results_tmp2 (by rfl) _ _ _) rfl ⟨rfl,rfl⟩
theorem zmX (s:ByteArray) (w:World):Calls Tryz.prog 104 #[.string s] w λe w'=>e=.returned (.bool (zcq s))∧w'=w:=by
 by_cases h0:s=(⟨#[40]⟩:ByteArray)
 ·subst h0;have hr:zcq (⟨#[40]⟩:ByteArray)=true:=by kernel_rfl
  rw[hr];go_enter Tryz.func104,Tryz.ntmps104;go_wp2_with fail;go_ret;exact⟨rfl,rfl⟩
 by_cases h1:s=(⟨#[41]⟩:ByteArray)
 ·subst h1;have hr:zcq (⟨#[41]⟩:ByteArray)=true:=by kernel_rfl
  rw[hr];go_enter Tryz.func104,Tryz.ntmps104;go_wp2_with fail;go_ret;exact⟨rfl,rfl⟩
 by_cases h2:s=(⟨#[123]⟩:ByteArray)
 ·subst h2;have hr:zcq (⟨#[123]⟩:ByteArray)=true:=by kernel_rfl
  rw[hr];go_enter Tryz.func104,Tryz.ntmps104;go_wp2_with fail;go_ret;exact⟨rfl,rfl⟩
 by_cases h3:s=(⟨#[125]⟩:ByteArray)
 ·subst h3;have hr:zcq (⟨#[125]⟩:ByteArray)=true:=by kernel_rfl
  rw[hr];go_enter Tryz.func104,Tryz.ntmps104;go_wp2_with fail;go_ret;exact⟨rfl,rfl⟩
 by_cases h4:s=(⟨#[91]⟩:ByteArray)
 ·subst h4;have hr:zcq (⟨#[91]⟩:ByteArray)=true:=by kernel_rfl
  rw[hr];go_enter Tryz.func104,Tryz.ntmps104;go_wp2_with fail;go_ret;exact⟨rfl,rfl⟩
 by_cases h5:s=(⟨#[93]⟩:ByteArray)
 ·subst h5;have hr:zcq (⟨#[93]⟩:ByteArray)=true:=by kernel_rfl
  rw[hr];go_enter Tryz.func104,Tryz.ntmps104;go_wp2_with fail;go_ret;exact⟨rfl,rfl⟩
 by_cases h6:s=(⟨#[44]⟩:ByteArray)
 ·subst h6;have hr:zcq (⟨#[44]⟩:ByteArray)=true:=by kernel_rfl
  rw[hr];go_enter Tryz.func104,Tryz.ntmps104;go_wp2_with fail;go_ret;exact⟨rfl,rfl⟩
 by_cases h7:s=(⟨#[46]⟩:ByteArray)
 ·subst h7;have hr:zcq (⟨#[46]⟩:ByteArray)=true:=by kernel_rfl
  rw[hr];go_enter Tryz.func104,Tryz.ntmps104;go_wp2_with fail;go_ret;exact⟨rfl,rfl⟩
 by_cases h8:s=(⟨#[58]⟩:ByteArray)
 ·subst h8;have hr:zcq (⟨#[58]⟩:ByteArray)=true:=by kernel_rfl
  rw[hr];go_enter Tryz.func104,Tryz.ntmps104;go_wp2_with fail;go_ret;exact⟨rfl,rfl⟩
 by_cases h9:s=(⟨#[59]⟩:ByteArray)
 ·subst h9;have hr:zcq (⟨#[59]⟩:ByteArray)=true:=by kernel_rfl
  rw[hr];go_enter Tryz.func104,Tryz.ntmps104;go_wp2_with fail;go_ret;exact⟨rfl,rfl⟩
 by_cases h10:s=(⟨#[63]⟩:ByteArray)
 ·subst h10;have hr:zcq (⟨#[63]⟩:ByteArray)=true:=by kernel_rfl
  rw[hr];go_enter Tryz.func104,Tryz.ntmps104;go_wp2_with fail;go_ret;exact⟨rfl,rfl⟩
 by_cases h11:s=(⟨#[95]⟩:ByteArray)
 ·subst h11;have hr:zcq (⟨#[95]⟩:ByteArray)=true:=by kernel_rfl
  rw[hr];go_enter Tryz.func104,Tryz.ntmps104;go_wp2_with fail;go_ret;exact⟨rfl,rfl⟩
 by_cases h12:s=(⟨#[61]⟩:ByteArray)
 ·subst h12;have hr:zcq (⟨#[61]⟩:ByteArray)=true:=by kernel_rfl
  rw[hr];go_enter Tryz.func104,Tryz.ntmps104;go_wp2_with fail;go_ret;exact⟨rfl,rfl⟩
 by_cases h13:s=(⟨#[43]⟩:ByteArray)
 ·subst h13;have hr:zcq (⟨#[43]⟩:ByteArray)=true:=by kernel_rfl
  rw[hr];go_enter Tryz.func104,Tryz.ntmps104;go_wp2_with fail;go_ret;exact⟨rfl,rfl⟩
 by_cases h14:s=(⟨#[45]⟩:ByteArray)
 ·subst h14;have hr:zcq (⟨#[45]⟩:ByteArray)=true:=by kernel_rfl
  rw[hr];go_enter Tryz.func104,Tryz.ntmps104;go_wp2_with fail;go_ret;exact⟨rfl,rfl⟩
 by_cases h15:s=(⟨#[42]⟩:ByteArray)
 ·subst h15;have hr:zcq (⟨#[42]⟩:ByteArray)=true:=by kernel_rfl
  rw[hr];go_enter Tryz.func104,Tryz.ntmps104;go_wp2_with fail;go_ret;exact⟨rfl,rfl⟩
 by_cases h16:s=(⟨#[47]⟩:ByteArray)
 ·subst h16;have hr:zcq (⟨#[47]⟩:ByteArray)=true:=by kernel_rfl
  rw[hr];go_enter Tryz.func104,Tryz.ntmps104;go_wp2_with fail;go_ret;exact⟨rfl,rfl⟩
 by_cases h17:s=(⟨#[37]⟩:ByteArray)
 ·subst h17;have hr:zcq (⟨#[37]⟩:ByteArray)=true:=by kernel_rfl
  rw[hr];go_enter Tryz.func104,Tryz.ntmps104;go_wp2_with fail;go_ret;exact⟨rfl,rfl⟩
 by_cases h18:s=(⟨#[60]⟩:ByteArray)
 ·subst h18;have hr:zcq (⟨#[60]⟩:ByteArray)=true:=by kernel_rfl
  rw[hr];go_enter Tryz.func104,Tryz.ntmps104;go_wp2_with fail;go_ret;exact⟨rfl,rfl⟩
 by_cases h19:s=(⟨#[62]⟩:ByteArray)
 ·subst h19;have hr:zcq (⟨#[62]⟩:ByteArray)=true:=by kernel_rfl
  rw[hr];go_enter Tryz.func104,Tryz.ntmps104;go_wp2_with fail;go_ret;exact⟨rfl,rfl⟩
 by_cases h20:s=(⟨#[61,61]⟩:ByteArray)
 ·subst h20;have hr:zcq (⟨#[61,61]⟩:ByteArray)=true:=by kernel_rfl
  rw[hr];go_enter Tryz.func104,Tryz.ntmps104;go_wp2_with fail;go_ret;exact⟨rfl,rfl⟩
 by_cases h21:s=(⟨#[33,61]⟩:ByteArray)
 ·subst h21;have hr:zcq (⟨#[33,61]⟩:ByteArray)=true:=by kernel_rfl
  rw[hr];go_enter Tryz.func104,Tryz.ntmps104;go_wp2_with fail;go_ret;exact⟨rfl,rfl⟩
 by_cases h22:s=(⟨#[60,61]⟩:ByteArray)
 ·subst h22;have hr:zcq (⟨#[60,61]⟩:ByteArray)=true:=by kernel_rfl
  rw[hr];go_enter Tryz.func104,Tryz.ntmps104;go_wp2_with fail;go_ret;exact⟨rfl,rfl⟩
 by_cases h23:s=(⟨#[62,61]⟩:ByteArray)
 ·subst h23;have hr:zcq (⟨#[62,61]⟩:ByteArray)=true:=by kernel_rfl
  rw[hr];go_enter Tryz.func104,Tryz.ntmps104;go_wp2_with fail;go_ret;exact⟨rfl,rfl⟩
 by_cases h24:s=(⟨#[43,43]⟩:ByteArray)
 ·subst h24;have hr:zcq (⟨#[43,43]⟩:ByteArray)=true:=by kernel_rfl
  rw[hr];go_enter Tryz.func104,Tryz.ntmps104;go_wp2_with fail;go_ret;exact⟨rfl,rfl⟩
 by_cases h25:s=(⟨#[61,62]⟩:ByteArray)
 ·subst h25;have hr:zcq (⟨#[61,62]⟩:ByteArray)=true:=by kernel_rfl
  rw[hr];go_enter Tryz.func104,Tryz.ntmps104;go_wp2_with fail;go_ret;exact⟨rfl,rfl⟩
 by_cases h26:s=(⟨#[58,45]⟩:ByteArray)
 ·subst h26;have hr:zcq (⟨#[58,45]⟩:ByteArray)=true:=by kernel_rfl
  rw[hr];go_enter Tryz.func104,Tryz.ntmps104;go_wp2_with fail;go_ret;exact⟨rfl,rfl⟩
 have hr:zcq s=false:=by
  unfold zcq zqL;simp only[List.any_cons,List.any_nil,Bool.or_false,Bool.or_eq_false_iff,decide_eq_false_iff_not];exact⟨λe=>h0 e.symm,λe=>h1 e.symm,λe=>h2 e.symm,λe=>h3 e.symm,λe=>h4 e.symm,λe=>h5 e.symm,λe=>h6 e.symm,λe=>h7 e.symm,λe=>h8 e.symm,λe=>h9 e.symm,λe=>h10 e.symm,λe=>h11 e.symm,λe=>h12 e.symm,λe=>h13 e.symm,λe=>h14 e.symm,λe=>h15 e.symm,λe=>h16 e.symm,λe=>h17 e.symm,λe=>h18 e.symm,λe=>h19 e.symm,λe=>h20 e.symm,λe=>h21 e.symm,λe=>h22 e.symm,λe=>h23 e.symm,λe=>h24 e.symm,λe=>h25 e.symm,λe=>h26 e.symm⟩
 have e0:(s.toList == [40])=false:=zam h0;have e1:(s.toList == [41])=false:=zam h1;have e2:(s.toList == [123])=false:=zam h2;have e3:(s.toList == [125])=false:=zam h3;have e4:(s.toList == [91])=false:=zam h4;have e5:(s.toList == [93])=false:=zam h5;have e6:(s.toList == [44])=false:=zam h6;have e7:(s.toList == [46])=false:=zam h7;have e8:(s.toList == [58])=false:=zam h8;have e9:(s.toList == [59])=false:=zam h9;have e10:(s.toList == [63])=false:=zam h10;have e11:(s.toList == [95])=false:=zam h11;have e12:(s.toList == [61])=false:=zam h12;have e13:(s.toList == [43])=false:=zam h13;have e14:(s.toList == [45])=false:=zam h14;have e15:(s.toList == [42])=false:=zam h15;have e16:(s.toList == [47])=false:=zam h16;have e17:(s.toList == [37])=false:=zam h17;have e18:(s.toList == [60])=false:=zam h18;have e19:(s.toList == [62])=false:=zam h19;have e20:(s.toList == [61,61])=false:=zam h20;have e21:(s.toList == [33,61])=false:=zam h21;have e22:(s.toList == [60,61])=false:=zam h22;have e23:(s.toList == [62,61])=false:=zam h23;have e24:(s.toList == [43,43])=false:=zam h24;have e25:(s.toList == [61,62])=false:=zam h25;have e26:(s.toList == [58,45])=false:=zam h26;rw[hr];clear hr h0 h1 h2 h3 h4 h5 h6 h7 h8 h9 h10 h11 h12 h13 h14 h15 h16 h17 h18 h19 h20 h21 h22 h23 h24 h25 h26;go_enter Tryz.func104,Tryz.ntmps104;go_wp2_with fail;go_ret;exact⟨rfl,rfl⟩
end Go.Proofs.YtjdpocmlimkjjaaGreat
