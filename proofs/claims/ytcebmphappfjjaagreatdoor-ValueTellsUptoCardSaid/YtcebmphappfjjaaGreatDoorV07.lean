/- Conditions: those in each statement. -/
import Derived.Test.YtcebmphappfjjaaGreatDoorV03
import Derived.Test.YtcebmphappfjjaaGreatDoorV05
import Derived.Test.YtcebmphappfjjaaGreatDoorV04
import Derived.Deep.RegionWith
import Derived.BigQuiet
set_option maxHeartbeats 32000000
set_option maxRecDepth 100000
namespace Go.Proofs.YtcebmphappfjjaaGreatDoor
open Go.RowKit
theorem zor (c:UInt8):zeT c=decide (97<=(c.toNat:Int)/\(c.toNat:Int)<=122\/65<=(c.toNat:Int)/\(c.toNat:Int)<=90):=by
 unfold zeT;simp only[UInt8.le_iff_toNat_le,<-Bool.decide_and,<-Bool.decide_or];apply decide_eq_decide.2
 show (97<=c.toNat/\c.toNat<=122\/65<=c.toNat/\c.toNat<=90)↔_
 omega
theorem zrd (c:UInt8):zcM c=decide (48<=(c.toNat:Int)/\(c.toNat:Int)<=57):=by
 unfold zcM;simp only[UInt8.le_iff_toNat_le,<-Bool.decide_and];apply decide_eq_decide.2
 show (48<=c.toNat/\c.toNat<=57)↔_
 omega
theorem zty (c:UInt8):wc c=(zeT c || (zcM c || c == 95)):=by
 unfold wc zeT zcM;simp only[Bool.or_assoc]
theorem zco {c:UInt8} {n:Nat} (h:¬c=UInt8.ofNat n):((c.toNat:Int) == (n:Int))=false:=by
 rw[beq_eq_false_iff_ne];intro e;apply h;rw[<-show c.toNat=n by omega];simp
theorem zgS (c:UInt8) (w:World):Calls Tryz.prog 159 #[.int .u8 (c.toNat:Int)] w λe w'=>e=.returned (.bool (zeT c))/\w'=w:=by
 rw[zor];obtain⟨X,hX⟩:=zn ((c.toNat:Int));rw[hX];clear hX;rcases (show (X<=64)\/(65<=X/\X<=90)\/(91<=X/\X<=96)\/(97<=X/\X<=122)\/(123<=X) by omega) with h|⟨h,h'⟩|⟨h,h'⟩|⟨h,h'⟩|h
 ·rw[decide_eq_false zo];have k65:¬65<=X:=zo
  have k97:¬97<=X:=zo
  have k90:X<=90:=zo
  have k122:X<=122:=zo
  clear h;go_in;go_wp2
  all_goals first
   |(exfalso;omega)
   |(go_ret;exact⟨rfl,rfl⟩)
 ·rw[decide_eq_true zo];have k65:65<=X:=zo
  have k97:¬97<=X:=zo
  have k90:X<=90:=zo
  have k122:X<=122:=zo
  clear h h';go_in;go_wp2
  all_goals first
   |(exfalso;omega)
   |(go_ret;exact⟨rfl,rfl⟩)
 ·rw[decide_eq_false zo];have k65:65<=X:=zo
  have k97:¬97<=X:=zo
  have k90:¬X<=90:=zo
  have k122:X<=122:=zo
  clear h h';go_in;go_wp2
  all_goals first
   |(exfalso;omega)
   |(go_ret;exact⟨rfl,rfl⟩)
 ·rw[decide_eq_true zo];have k65:65<=X:=zo
  have k97:97<=X:=zo
  have k90:¬X<=90:=zo
  have k122:X<=122:=zo
  clear h h';go_in;go_wp2
  all_goals first
   |(exfalso;omega)
   |(go_ret;exact⟨rfl,rfl⟩)
 ·rw[decide_eq_false zo];have k65:65<=X:=zo
  have k97:97<=X:=zo
  have k90:¬X<=90:=zo
  have k122:¬X<=122:=zo
  clear h;go_in;go_wp2
  all_goals first
   |(exfalso;omega)
   |(go_ret;exact⟨rfl,rfl⟩)
theorem zck (c:UInt8) (w:World):Calls Tryz.prog 161 #[.int .u8 (c.toNat:Int)] w λe w'=>e=.returned (.bool (zcM c))/\w'=w:=by
 rw[zrd];obtain⟨X,hX⟩:=zn ((c.toNat:Int));rw[hX];clear hX;rcases (show (X<=47)\/(48<=X/\X<=57)\/(58<=X) by omega) with h|⟨h,h'⟩|h
 ·rw[decide_eq_false zo];have k48:¬48<=X:=zo
  have k57:X<=57:=zo
  clear h;go_in;go_wp2
  all_goals first
   |(exfalso;omega)
   |(go_ret;exact⟨rfl,rfl⟩)
 ·rw[decide_eq_true zo];have k48:48<=X:=zo
  have k57:X<=57:=zo
  clear h h';go_in;go_wp2
  all_goals first
   |(exfalso;omega)
   |(go_ret;exact⟨rfl,rfl⟩)
 ·rw[decide_eq_false zo];have k48:48<=X:=zo
  have k57:¬X<=57:=zo
  clear h;go_in;go_wp2
  all_goals first
   |(exfalso;omega)
   |(go_ret;exact⟨rfl,rfl⟩)
theorem zlR (c:UInt8) (w:World):Calls Tryz.prog 244 #[.int .u8 (c.toNat:Int)] w λe w'=>e=.returned (.bool (wc c))/\w'=w:=by
 have HL:=zz (λW=>zgS c W);have HD:=zz (λW=>zck c W);rw[zty];cases hl:zeT c with
 |true=>
  rw[hl] at HL;go_in;go_wp2_with fail;(with_reducible refine(HL.out _).mono ?_);rintro e w1 ⟨rfl,rfl⟩;go_wp2;go_ret;exact⟨rfl,rfl⟩
 |false=>
  rw[hl] at HL;cases hd:zcM c with
  |true=>
   rw[hd] at HD;go_in;go_wp2_with fail;(with_reducible refine(HL.out _).mono ?_);rintro e w1 ⟨rfl,rfl⟩;go_wp2_with fail;(with_reducible refine(HD.out _).mono ?_);rintro e w2 ⟨rfl,rfl⟩;go_wp2;go_ret;exact⟨rfl,rfl⟩
  |false=>
   rw[hd] at HD
   have he:((c.toNat:Int) == 95)=(c == 95):=by
    by_cases h:c=95
    ·subst h;rfl
    ·rw[show ((c.toNat:Int) == 95)=false from zco (n:=95) h];simp[h]
   go_in;go_wp2_with fail;(with_reducible refine(HL.out _).mono ?_);rintro e w1 ⟨rfl,rfl⟩;go_wp2_with fail;(with_reducible refine(HD.out _).mono ?_);rintro e w2 ⟨rfl,rfl⟩;go_wp2;go_ret;exact⟨by simp,rfl⟩
theorem zoC (s:ByteArray) (w:World):Calls Tryz.prog 208 #[↑s] w λe w'=>e=.returned (.bool (zbU s))/\w'=w:=by
 by_cases h0:s=(⟨#[40]⟩:ByteArray)
 ·subst h0;have hr:zbU (⟨#[40]⟩:ByteArray)=true:=by kernel_rfl
  rw[hr];go_in;go_wp2;go_ret;exact⟨rfl,rfl⟩
 by_cases h1:s=(⟨#[41]⟩:ByteArray)
 ·subst h1;have hr:zbU (⟨#[41]⟩:ByteArray)=true:=by kernel_rfl
  rw[hr];go_in;go_wp2;go_ret;exact⟨rfl,rfl⟩
 by_cases h2:s=(⟨#[123]⟩:ByteArray)
 ·subst h2;have hr:zbU (⟨#[123]⟩:ByteArray)=true:=by kernel_rfl
  rw[hr];go_in;go_wp2;go_ret;exact⟨rfl,rfl⟩
 by_cases h3:s=(⟨#[125]⟩:ByteArray)
 ·subst h3;have hr:zbU (⟨#[125]⟩:ByteArray)=true:=by kernel_rfl
  rw[hr];go_in;go_wp2;go_ret;exact⟨rfl,rfl⟩
 by_cases h4:s=(⟨#[91]⟩:ByteArray)
 ·subst h4;have hr:zbU (⟨#[91]⟩:ByteArray)=true:=by kernel_rfl
  rw[hr];go_in;go_wp2;go_ret;exact⟨rfl,rfl⟩
 by_cases h5:s=(⟨#[93]⟩:ByteArray)
 ·subst h5;have hr:zbU (⟨#[93]⟩:ByteArray)=true:=by kernel_rfl
  rw[hr];go_in;go_wp2;go_ret;exact⟨rfl,rfl⟩
 by_cases h6:s=(⟨#[44]⟩:ByteArray)
 ·subst h6;have hr:zbU (⟨#[44]⟩:ByteArray)=true:=by kernel_rfl
  rw[hr];go_in;go_wp2;go_ret;exact⟨rfl,rfl⟩
 by_cases h7:s=(⟨#[46]⟩:ByteArray)
 ·subst h7;have hr:zbU (⟨#[46]⟩:ByteArray)=true:=by kernel_rfl
  rw[hr];go_in;go_wp2;go_ret;exact⟨rfl,rfl⟩
 by_cases h8:s=(⟨#[58]⟩:ByteArray)
 ·subst h8;have hr:zbU (⟨#[58]⟩:ByteArray)=true:=by kernel_rfl
  rw[hr];go_in;go_wp2;go_ret;exact⟨rfl,rfl⟩
 by_cases h9:s=(⟨#[59]⟩:ByteArray)
 ·subst h9;have hr:zbU (⟨#[59]⟩:ByteArray)=true:=by kernel_rfl
  rw[hr];go_in;go_wp2;go_ret;exact⟨rfl,rfl⟩
 by_cases h10:s=(⟨#[63]⟩:ByteArray)
 ·subst h10;have hr:zbU (⟨#[63]⟩:ByteArray)=true:=by kernel_rfl
  rw[hr];go_in;go_wp2;go_ret;exact⟨rfl,rfl⟩
 by_cases h11:s=(⟨#[95]⟩:ByteArray)
 ·subst h11;have hr:zbU (⟨#[95]⟩:ByteArray)=true:=by kernel_rfl
  rw[hr];go_in;go_wp2;go_ret;exact⟨rfl,rfl⟩
 by_cases h12:s=(⟨#[61]⟩:ByteArray)
 ·subst h12;have hr:zbU (⟨#[61]⟩:ByteArray)=true:=by kernel_rfl
  rw[hr];go_in;go_wp2;go_ret;exact⟨rfl,rfl⟩
 by_cases h13:s=(⟨#[43]⟩:ByteArray)
 ·subst h13;have hr:zbU (⟨#[43]⟩:ByteArray)=true:=by kernel_rfl
  rw[hr];go_in;go_wp2;go_ret;exact⟨rfl,rfl⟩
 by_cases h14:s=(⟨#[45]⟩:ByteArray)
 ·subst h14;have hr:zbU (⟨#[45]⟩:ByteArray)=true:=by kernel_rfl
  rw[hr];go_in;go_wp2;go_ret;exact⟨rfl,rfl⟩
 by_cases h15:s=(⟨#[42]⟩:ByteArray)
 ·subst h15;have hr:zbU (⟨#[42]⟩:ByteArray)=true:=by kernel_rfl
  rw[hr];go_in;go_wp2;go_ret;exact⟨rfl,rfl⟩
 by_cases h16:s=(⟨#[47]⟩:ByteArray)
 ·subst h16;have hr:zbU (⟨#[47]⟩:ByteArray)=true:=by kernel_rfl
  rw[hr];go_in;go_wp2;go_ret;exact⟨rfl,rfl⟩
 by_cases h17:s=(⟨#[37]⟩:ByteArray)
 ·subst h17;have hr:zbU (⟨#[37]⟩:ByteArray)=true:=by kernel_rfl
  rw[hr];go_in;go_wp2;go_ret;exact⟨rfl,rfl⟩
 by_cases h18:s=(⟨#[60]⟩:ByteArray)
 ·subst h18;have hr:zbU (⟨#[60]⟩:ByteArray)=true:=by kernel_rfl
  rw[hr];go_in;go_wp2;go_ret;exact⟨rfl,rfl⟩
 by_cases h19:s=(⟨#[62]⟩:ByteArray)
 ·subst h19;have hr:zbU (⟨#[62]⟩:ByteArray)=true:=by kernel_rfl
  rw[hr];go_in;go_wp2;go_ret;exact⟨rfl,rfl⟩
 by_cases h20:s=(⟨#[61,61]⟩:ByteArray)
 ·subst h20;have hr:zbU (⟨#[61,61]⟩:ByteArray)=true:=by kernel_rfl
  rw[hr];go_in;go_wp2;go_ret;exact⟨rfl,rfl⟩
 by_cases h21:s=(⟨#[33,61]⟩:ByteArray)
 ·subst h21;have hr:zbU (⟨#[33,61]⟩:ByteArray)=true:=by kernel_rfl
  rw[hr];go_in;go_wp2;go_ret;exact⟨rfl,rfl⟩
 by_cases h22:s=(⟨#[60,61]⟩:ByteArray)
 ·subst h22;have hr:zbU (⟨#[60,61]⟩:ByteArray)=true:=by kernel_rfl
  rw[hr];go_in;go_wp2;go_ret;exact⟨rfl,rfl⟩
 by_cases h23:s=(⟨#[62,61]⟩:ByteArray)
 ·subst h23;have hr:zbU (⟨#[62,61]⟩:ByteArray)=true:=by kernel_rfl
  rw[hr];go_in;go_wp2;go_ret;exact⟨rfl,rfl⟩
 by_cases h24:s=(⟨#[43,43]⟩:ByteArray)
 ·subst h24;have hr:zbU (⟨#[43,43]⟩:ByteArray)=true:=by kernel_rfl
  rw[hr];go_in;go_wp2;go_ret;exact⟨rfl,rfl⟩
 by_cases h25:s=(⟨#[61,62]⟩:ByteArray)
 ·subst h25;have hr:zbU (⟨#[61,62]⟩:ByteArray)=true:=by kernel_rfl
  rw[hr];go_in;go_wp2;go_ret;exact⟨rfl,rfl⟩
 by_cases h26:s=(⟨#[58,45]⟩:ByteArray)
 ·subst h26;have hr:zbU (⟨#[58,45]⟩:ByteArray)=true:=by kernel_rfl
  rw[hr];go_in;go_wp2;go_ret;exact⟨rfl,rfl⟩
 have hr:zbU s=false:=by
  unfold zbU zsE;simp only[List.any_cons,List.any_nil,Bool.or_false,Bool.or_eq_false_iff,decide_eq_false_iff_not];exact⟨λe=>h0 e.symm,λe=>h1 e.symm,λe=>h2 e.symm,λe=>h3 e.symm,λe=>h4 e.symm,λe=>h5 e.symm,λe=>h6 e.symm,λe=>h7 e.symm,λe=>h8 e.symm,λe=>h9 e.symm,λe=>h10 e.symm,λe=>h11 e.symm,λe=>h12 e.symm,λe=>h13 e.symm,λe=>h14 e.symm,λe=>h15 e.symm,λe=>h16 e.symm,λe=>h17 e.symm,λe=>h18 e.symm,λe=>h19 e.symm,λe=>h20 e.symm,λe=>h21 e.symm,λe=>h22 e.symm,λe=>h23 e.symm,λe=>h24 e.symm,λe=>h25 e.symm,λe=>h26 e.symm⟩
 have e0:(s.toList == [40])=false:=zam h0;have e1:(s.toList == [41])=false:=zam h1;have e2:(s.toList == [123])=false:=zam h2;have e3:(s.toList == [125])=false:=zam h3;have e4:(s.toList == [91])=false:=zam h4;have e5:(s.toList == [93])=false:=zam h5;have e6:(s.toList == [44])=false:=zam h6;have e7:(s.toList == [46])=false:=zam h7;have e8:(s.toList == [58])=false:=zam h8;have e9:(s.toList == [59])=false:=zam h9;have e10:(s.toList == [63])=false:=zam h10;have e11:(s.toList == [95])=false:=zam h11;have e12:(s.toList == [61])=false:=zam h12;have e13:(s.toList == [43])=false:=zam h13;have e14:(s.toList == [45])=false:=zam h14;have e15:(s.toList == [42])=false:=zam h15;have e16:(s.toList == [47])=false:=zam h16;have e17:(s.toList == [37])=false:=zam h17;have e18:(s.toList == [60])=false:=zam h18;have e19:(s.toList == [62])=false:=zam h19;have e20:(s.toList == [61,61])=false:=zam h20;have e21:(s.toList == [33,61])=false:=zam h21;have e22:(s.toList == [60,61])=false:=zam h22;have e23:(s.toList == [62,61])=false:=zam h23;have e24:(s.toList == [43,43])=false:=zam h24;have e25:(s.toList == [61,62])=false:=zam h25;have e26:(s.toList == [58,45])=false:=zam h26;rw[hr];clear hr h0 h1 h2 h3 h4 h5 h6 h7 h8 h9 h10 h11 h12 h13 h14 h15 h16 h17 h18 h19 h20 h21 h22 h23 h24 h25 h26;go_in;go_wp2;go_ret;exact⟨rfl,rfl⟩
abbrev ScAt (g:Nat) (s:ByteArray) (w:World) (i:Nat):Prop:=zab w g #[.string s,.int .i64 (i:Int)] 196
def zds (w:World) (b:Nat):Nat:=match w.cell? ⟨b,1,none⟩ with|some (.int _ n)=>n.toNat|_=>0
theorem ScAt.next {g:Nat} {s:ByteArray} {w:World} {i:Nat} (h:ScAt g s w i):zds w g=i:=by unfold zds;rw[h.cell 1];simp
theorem ScAt.drewN {g:Nat} {s:ByteArray} {w:World} {i:Nat} (h:ScAt g s w i) (n:Nat):ScAt g s (w.drewN n) i:=h
theorem Own1.drewN {g:Nat} {w w':World} (h:Own1 g w w') (n:Nat):Own1 g w (w'.drewN n):=h.of_below (zae (Below.refl _ _) n)
theorem Own1.set {g:Nat} {w w':World} (h:Own1 g w w') (j:Nat) (v:Value):Own1 g w (w'.setCell ⟨g,j,none⟩ v):=h.trans (zcT (Below.refl _ _) j v)
theorem ScAt.set {g:Nat} {s:ByteArray} {w:World} {i:Nat} (h:ScAt g s w i) (j:Nat):ScAt g s (w.setCell ⟨g,1,none⟩ (.int .i64 (j:Int))) j:=by
 have:=zab.set h 1 (.int .i64 (j:Int))
 simpa using this
theorem zgL {s:ByteArray} {f i:Nat} (h:¬(i<s.size/\wc (bt s i)=true)):zaX s f i=i:=by
 cases f with
 |zero=>rfl
 |succ f=>rw[zaX,if_neg h]
theorem zgi {s:ByteArray} {f i:Nat} (h:i<s.size) (hw:wc (bt s i)=true) (hf:s.size<=i+f):zaX s f i=zaX s (f-1) (i+1):=by
 obtain⟨f,rfl⟩:∃k,f=k+1:=⟨f-1,zo⟩;rw[zaX,if_pos ⟨h,hw⟩];rfl
theorem zej {s:ByteArray}:∀{f i:Nat},i<=s.size->i<=zaX s f i/\zaX s f i<=s.size
 |0,i,h=>⟨Nat.le_refl _,h⟩
 |f+1,i,h=>by
  rw[zaX]
  split
  ·have:=zej (s:=s) (f:=f) (i:=i+1) zo;omega
  ·omega
theorem zgg (s:ByteArray) (i:Nat) (hi:i<s.size) (w:World):(Instr.index 9 ↑s (.int .i64 (i:Int))).run Tryz.prog w=.ok (.int .u8 ((bt s i).toNat:Int)) w:=zaP s i hi w
theorem zkw (s:ByteArray) (hs:s.size<=32768) (g i:Nat) (hi:i<=s.size) (w:World) (h:ScAt g s w i) :
 Calls Tryz.prog 205 #[.pointer (some ⟨g,0,none⟩)] w λe w'=>e=.returned (.string (s.extract i (zaX s s.size i)))/\Own1 g w w'/\ScAt g s w' (zaX s s.size i):=by
 have S0:=zz h;have O0:Hid (Own1 g w w):=zz (zaO (Below.refl _ _));have c1:=h.a 1 rfl;have HI:=zz (zgg s);clear h;obtain⟨E,hE⟩:=zn (zaX s s.size i);have HE:=zz hE;rw[hE];clear hE;go_in;go_wp2;clear c1
 go_loopw [] (λwr=>∃(j f:Nat),i<=j/\j<=s.size/\s.size<=j+f/\Hid (zaX s f j=E)/\Hid (ScAt g s wr j)/\Hid (Own1 g w wr)) (λwr=>s.size-zds wr g)
 case atStart=>exact⟨i,s.size,Nat.le_refl _,hi,zo,HE,S0,O0⟩
 case round=>
  clear HE S0 O0;obtain⟨j,f,hij,hj,hf,HE,HS,HO⟩:=hrel;have hm:zds wr g=j:=HS.out.next;have d0:=HS.out.a 0 rfl;have d1:=HS.out.a 1 rfl;have dz:=HS.out.fz
  by_cases hlt:j<s.size
  ·have hlti:(j:Int)<(s.size:Int):=zo
   have hlt':decide ((j:Int)<(s.size:Int))=true:=decide_eq_true hlti;have HJ:=HI.out j hlt;have KC:=zz (λW=>zlR (bt s j) W);cases hw:wc (bt s j) with
   |true=>
    rw[hw] at KC;have HE2:Hid (zaX s (f-1) (j+1)=E):=zz (by rw[<-HE.out];exact(zgi hlt hw hf).symm);go_wp2
    go_quiet ((go_at_call 244;exact Calls.quiet_of_same (KC.out _)))
    have hwr:IntKind.i64.wrap ((j:Int)+1)=((j+1:Nat):Int):=by rw[IntWalk.i64_in _ zo];omega
    have HS2:=zz ((HS.out.drewN nq).set (j+1));have HO2:=zz ((HO.out.drewN nq).set 1 (.int .i64 ((j+1:Nat):Int)));have hm2:zds ((wr.drewN nq).setCell ⟨g,1,none⟩ (.int .i64 ((j:Int)+1))) g=j+1:=HS2.out.next;go_wp2;exact⟨⟨j+1,f-1,zo,zo,zo,HE2,HS2,HO2⟩,zo⟩
   |false=>
    rw[hw] at KC;have hEj:E=j:=by rw[<-HE.out];exact zgL (λh=>by rw[hw] at h;cases h.2)
    subst hEj;go_wp2
    go_quiet ((go_at_call 244;exact Calls.quiet_of_same (KC.out _)))
    obtain⟨w2,hw2⟩:=zn (wr.drewN nq);have HS2:=zz (HS.out.drewN nq);have HO2:=zz (HO.out.drewN nq);rw[hw2] at HS2 HO2;rw[hw2];have c0:∀n,(w2.drewN n).cell? ⟨g,0,none⟩=some ↑s:=λn=>(HS2.out.drewN n).cell 0;have c1:∀n,(w2.drewN n).cell? ⟨g,1,none⟩=some (.int .i64 (E:Int)):=λn=>(HS2.out.drewN n).cell 1;clear hw2 d0 d1 HE HI HJ HS HO;have hij':(i:Int)<=(E:Int):=zo
    go_wp2
    go_quiet (fail)
    go_wp2;go_ret;exact⟨rfl,HO2.out.drewN _,HS2.out.drewN _⟩
  ·have hEj:E=j:=by rw[<-HE.out];exact zgL (λh=>hlt h.1)
   subst hEj;have hlti:¬(E:Int)<(s.size:Int):=zo
   have hlt':decide ((E:Int)<(s.size:Int))=false:=decide_eq_false hlti;go_wp2
   go_quiet (fail)
   obtain⟨w2,hw2⟩:=zn (wr.drewN nq);have HS2:=zz (HS.out.drewN nq);have HO2:=zz (HO.out.drewN nq);rw[hw2] at HS2 HO2;rw[hw2];have c0:∀n,(w2.drewN n).cell? ⟨g,0,none⟩=some ↑s:=λn=>(HS2.out.drewN n).cell 0;have c1:∀n,(w2.drewN n).cell? ⟨g,1,none⟩=some (.int .i64 (E:Int)):=λn=>(HS2.out.drewN n).cell 1;clear hw2 d0 d1 HE HI HS HO;have hij':(i:Int)<=(E:Int):=zo
   go_wp2
   go_quiet (fail)
   go_wp2;go_ret;exact⟨rfl,HO2.out.drewN _,HS2.out.drewN _⟩
theorem zmK {g:Nat} {s:ByteArray} {w W:World} {j:Nat} (h:Own1 g w W) (S:ScAt g s W j) (hg:g<w.heap.size) (u0 u1 u2 u3:Value) :
 Own1 g w ((((W.setCell ⟨w.heap.size,0,none⟩ u0).setCell ⟨w.heap.size,1,none⟩ u1).setCell ⟨w.heap.size,2,none⟩ u2).setCell ⟨w.heap.size,3,none⟩ u3)/\ScAt g s ((((W.setCell ⟨w.heap.size,0,none⟩ u0).setCell ⟨w.heap.size,1,none⟩ u1).setCell ⟨w.heap.size,2,none⟩ u2).setCell ⟨w.heap.size,3,none⟩ u3) j:=by
 have hc:Chg (λk=>k=w.heap.size) W ((((W.setCell ⟨w.heap.size,0,none⟩ u0).setCell ⟨w.heap.size,1,none⟩ u1).setCell ⟨w.heap.size,2,none⟩ u2).setCell ⟨w.heap.size,3,none⟩ u3):=
  (((((Chg.refl (λk=>k=w.heap.size) W).setCell (p:=⟨w.heap.size,0,none⟩) (.inl rfl) u0).setCell (p:=⟨w.heap.size,1,none⟩) (.inl rfl) u1).setCell (p:=⟨w.heap.size,2,none⟩) (.inl rfl) u2).setCell (p:=⟨w.heap.size,3,none⟩) (.inl rfl) u3)
 exact⟨Chg.trans h hc (λj hj=>.inr zo),S.keep hc zo⟩
theorem zpV (s:ByteArray) (hs:s.size<=32768) (g i:Nat) (hi:i<=s.size) (w:World) (h:ScAt g s w i) :
 Calls Tryz.prog 160 #[.pointer (some ⟨g,0,none⟩)] w λe w'=>e=.returned (.agg #[.int .i64 1,.string (s.extract i (zaX s s.size i)),↑(),↑()])/\Own1 g w w'/\ScAt g s w' (zaX s s.size i):=by
 have hg:g<w.heap.size:=h.lt;have hb:=(Below.refl w.heap.size w).alloc (Nat.le_refl _) (.cells #[↑(),↑zj.a,↑(),↑()] 198);have hx:=zab.new w #[↑(),↑zj.a,↑(),↑()] 198;obtain⟨w0,hw⟩:∃W,w.alloc (.cells #[↑(),↑zj.a,↑(),↑()] 198)=W:=⟨_,rfl⟩;rw[hw] at hb hx;have KW:=zz (zkw s hs g i hi w0 (zaa hb h));have O0:=zz (zaO (b:=g) hb);have X0:=zz hx;clear h hb hx;go_in;go_wp2_with fail;clear hw;refine zi KW ?_;rintro e w1 ⟨rfl,hc,hs1⟩;have O1:=zz (O0.out.trans hc);have S1:=zz hs1;have X1:=zz (X0.out.keep hc zo);have x0:=X1.out.a 0 rfl;have x1:=X1.out.a 1 rfl;have x2:=X1.out.a 2 rfl;have x3:=X1.out.a 3 rfl;have z:=X1.out.fz;clear hc hs1 KW;go_wp2_with fail;exact bodyPost_ret (results_cell_row zr _ _ w.heap.size _ _ (0,0) _ rfl (zbj _ _ _ _ X1.out) Tryz.underlying198 rfl zbY) rfl ⟨rfl,zmK O1.out S1.out hg _ _ _ _⟩
def zeJ (t:ByteArray):Bool:=decide (2<=t.size/\t.extract 0 2=(⟨#[47,47]⟩:ByteArray))
theorem zog (t:ByteArray) (w:World):Calls Tryz.prog 194 #[↑t,.string (⟨#[47,47]⟩:ByteArray)] w λe w'=>e=.returned (.bool (zeJ t))/\w'=w:=by
 have h134:Calls Tryz.prog 240 #[↑t,.string (⟨#[47,47]⟩:ByteArray)] w λe w'=>e=.returned (.bool (zeJ t))/\w'=w:=by
  by_cases h2:2<=t.size
  ·have h2i:(2:Int)<=(t.size:Int):=zo
   by_cases h3:t.extract 0 2=(⟨#[47,47]⟩:ByteArray)
   ·have e3:((t.extract 0 2).toList == [47,47])=true:=zdY h3;rw[show zeJ t=true from decide_eq_true ⟨h2,h3⟩];clear h3;go_in;go_wp2;go_ret;exact⟨rfl,rfl⟩
   ·have e3:((t.extract 0 2).toList == [47,47])=false:=zam h3;rw[show zeJ t=false from decide_eq_false (λh=>h3 h.2)];clear h3;go_in;go_wp2;go_ret;exact⟨rfl,rfl⟩
  ·have h2i:¬(2:Int)<=(t.size:Int):=zo
   rw[show zeJ t=false from decide_eq_false (λh=>h2 h.1)];go_in;go_wp2;go_ret;exact⟨rfl,rfl⟩
 generalize zeJ t=r at *
 go_in;go_wp2_with fail;(with_reducible refine h134.mono ?_);rintro e w1 ⟨rfl,rfl⟩;go_wp2;go_ret;exact⟨rfl,rfl⟩
theorem zjU (s:ByteArray) (i:Nat) (hi:i<s.size):zeJ (s.extract i s.size)=decide (bt s i=47/\i+1<s.size/\bt s (i+1)=47):=by
 unfold zeJ;apply decide_eq_decide.2;have hsz:(s.extract i s.size).size=s.size-i:=by rw[ByteArray.size_extract];omega
 rw[hsz]
 have e2:∀h2:2<=s.size-i,((s.extract i s.size).extract 0 2).data.toList=[bt s i,bt s (i+1)]:=λh2=>by
  simp only[ByteArray.data_extract,Array.toList_extract];rw[List.extract_eq_take_drop,Array.toList_extract,List.extract_eq_take_drop];unfold bt;have hl:=zai s;rw[List.drop_zero,Nat.sub_zero,List.take_take,Nat.min_eq_left zo,List.drop_eq_getElem_cons zo,List.drop_eq_getElem_cons zo];simp[List.getD_eq_getElem?_getD,List.getElem?_eq_getElem (show i<s.data.toList.length by omega),List.getElem?_eq_getElem (show i+1<s.data.toList.length by omega)]
 constructor
 ·rintro⟨h1,h2⟩;have:=e2 h1;rw[h2] at this;injection this with a b;injection b with b;exact⟨a.symm,zo,b.symm⟩
 ·rintro⟨h1,h2,h3⟩;refine⟨zo,?_⟩;have:=e2 zo;rw[h1,h3] at this;apply zbX;rw[ByteArray.toList_eq,ByteArray.toList_eq,this]
theorem zgz {s:ByteArray}:∀{f i:Nat},i<=s.size->i<=zcc s f i/\zcc s f i<=s.size
 |0,i,h=>⟨Nat.le_refl _,h⟩
 |f+1,i,h=>by
  rw[zcc]
  split
  ·have:=zgz (s:=s) (f:=f) (i:=i+1) zo;omega
  ·omega
theorem zqs {s:ByteArray} {f i:Nat} (h:¬i<s.size):zdc s f i=i:=by
 cases f with
 |zero=>rfl
 |succ f=>rw[zdc,if_neg h]
theorem zmd {s:ByteArray} {f i:Nat} (h:i<s.size) (hw:zhH (bt s i)=true) (hf:s.size<=i+f):zdc s f i=zdc s (f-1) (i+1):=by
 obtain⟨f,rfl⟩:∃k,f=k+1:=⟨f-1,zo⟩;rw[zdc,if_pos h,if_pos hw];rfl
theorem znU {s:ByteArray} {f i:Nat} (h:i<s.size) (hw:¬zhH (bt s i)=true) (hl:zeJ (s.extract i s.size)=false):zdc s f i=i:=by
 rw[zjU s i h] at hl;cases f with
 |zero=>rfl
 |succ f=>rw[zdc,if_pos h,if_neg hw,if_neg (of_decide_eq_false hl)]
theorem zhf {s:ByteArray}:∀{f i:Nat},i<=s.size->i<=zdc s f i/\zdc s f i<=s.size
 |0,i,h=>⟨Nat.le_refl _,h⟩
 |f+1,i,h=>by
  rw[zdc]
  split
  ·split
   ·have:=zhf (s:=s) (f:=f) (i:=i+1) zo;omega
   ·split
    ·have h1:=zgz (s:=s) (f:=s.size) (i:=i) zo;have:=zhf (s:=s) (f:=f) (i:=zcc s s.size i) h1.2;omega
    ·omega
  ·omega
structure SC (g:Nat) (s:ByteArray) (w W:World) (i:Nat):Prop where
 at':ScAt g s W i
 own:Own1 g w W
theorem SC.cells0 {g:Nat} {s:ByteArray} {w W:World} {i:Nat} (h:SC g s w W i):∀n,(W.drewN n).cell? ⟨g,0,none⟩=some ↑s:=λn=>(h.at'.drewN n).cell 0
theorem SC.cells1 {g:Nat} {s:ByteArray} {w W:World} {i:Nat} (h:SC g s w W i):∀n,(W.drewN n).cell? ⟨g,1,none⟩=some (.int .i64 (i:Int)):=λn=>(h.at'.drewN n).cell 1
theorem SC.drewN {g:Nat} {s:ByteArray} {w W:World} {i:Nat} (h:SC g s w W i) (n:Nat):SC g s w (W.drewN n) i:=⟨h.at'.drewN n,h.own.drewN n⟩
theorem SC.set {g:Nat} {s:ByteArray} {w W:World} {i:Nat} (h:SC g s w W i) (j:Nat):SC g s w (W.setCell ⟨g,1,none⟩ (.int .i64 (j:Int))) j:=⟨h.at'.set j,h.own.set 1 _⟩
theorem SC.set1 {g:Nat} {s:ByteArray} {w W:World} {i:Nat} (h:SC g s w W i):SC g s w (W.setCell ⟨g,1,none⟩ (.int .i64 ((i:Int)+1))) (i+1):=h.set (i+1)
theorem zsd (s:ByteArray) (hb:∀k,bt s k≠47) (hs:s.size<=32768) (g i:Nat) (hi:i<=s.size) (w:World) (h:ScAt g s w i) :
 Calls Tryz.prog 158 #[.pointer (some ⟨g,0,none⟩)] w λe w'=>e=.returned (.tuple #[])/\Own1 g w w'/\ScAt g s w' (zdc s s.size i):=by
 have S0:Hid (SC g s w w i):=zz ⟨h,zaO (Below.refl _ _)⟩;have HI:=zz (zgg s);have H47:=zz hb;clear h hb;obtain⟨E,hE⟩:=zn (zdc s s.size i);have HE:=zz hE;rw[hE];clear hE;go_in;go_wp2
 go_loopw [] (λwr=>∃(j f:Nat),j<=s.size/\s.size<=j+f/\Hid (zdc s f j=E)/\Hid (SC g s w wr j)) (λwr=>s.size-zds wr g)
 case atStart=>exact⟨i,s.size,hi,zo,HE,S0⟩
 case round=>
  clear HE S0;obtain⟨j,f,hj,hf,HE,HS⟩:=hrel;have hm:zds wr g=j:=HS.out.at'.next;have d0:=HS.out.cells0;have d1:=HS.out.cells1
  by_cases hlt:j<s.size
  ·have hlti:(j:Int)<(s.size:Int):=zo
   have HJ:=HI.out j hlt;go_wp2
   go_quiet (fail)
   obtain⟨w2,hw2⟩:=zn (wr.drewN nq);have S2:=zz (HS.out.drewN nq);rw[hw2] at S2;rw[hw2];have d0:=S2.out.cells0;have d1:=S2.out.cells1;clear hw2 nq;go_wp2
   go_quiet (fail)
   obtain⟨w3,hw3⟩:=zn (w2.drewN nq);have S3:=zz (S2.out.drewN nq);rw[hw3] at S3;rw[hw3];have hwr:IntKind.i64.wrap ((j:Int)+1)=(j:Int)+1:=IntWalk.i64_in _ zo;have z3:=S3.out.at'.fz;have c1:=S3.out.at'.a 1 rfl;clear hw3 nq S2 HS
   by_cases hw:zhH (bt s j)=true
   ·have HE2:Hid (zdc s (f-1) (j+1)=E):=zz (by rw[<-HE.out];exact(zmd hlt hw hf).symm);have S4:=zz (S3.out.set1);have hm4:=S4.out.at'.next
    have hc:bt s j=9\/bt s j=10\/bt s j=13\/bt s j=32:=by
     unfold zhH at hw;simp only[Bool.or_eq_true,beq_iff_eq] at hw;rcases hw with ((h|h)|h)|h<;>simp[h]
    rcases hc with hc|hc|hc|hc
    all_goals (
     rw[hc];go_wp2;exact⟨⟨j+1,f-1,zo,zo,HE2,S4⟩,zo⟩)
   ·obtain⟨X,hX⟩:=zn (bt s j)
    have hnw:¬X=9/\¬X=10/\¬X=13/\¬X=32:=by
     rw[hX] at hw;unfold zhH at hw;simp only[Bool.or_eq_true,beq_iff_eq,not_or] at hw;exact⟨hw.1.1.1,hw.1.1.2,hw.1.2,hw.2⟩
    rw[hX];have b9:((X.toNat:Int) == 9)=false:=zco (n:=9) hnw.1;have b10:((X.toNat:Int) == 10)=false:=zco (n:=10) hnw.2.1;have b13:((X.toNat:Int) == 13)=false:=zco (n:=13) hnw.2.2.1;have b32:((X.toNat:Int) == 32)=false:=zco (n:=32) hnw.2.2.2;obtain⟨Y,hY⟩:=zn ((X.toNat:Int));rw[hY] at b9 b10 b13 b32;rw[hY];have q0:=S3.out.cells0;have q1:=S3.out.cells1;have hjs:(j:Int)<=(s.size:Int):=zo
    have hx:s.extract j s.size=s.extract j s.size:=rfl;obtain⟨t,ht⟩:=zn (s.extract j s.size);have KP:=zz (λW=>zog t W);cases hp:zeJ t with
    |false=>
     rw[hp] at KP;have hEj:E=j:=by rw[<-HE.out];exact znU hlt hw (by rw[ht];exact hp)
     subst hEj;clear HI hw hX hY hnw HE;go_wp2
     go_quiet ((go_at_call 194;exact Calls.quiet_of_same (KP.out _)))
     have S5:=zz (S3.out.drewN nq);go_wp2
     first|go_end0|refine bodyPost_ret (results_none rfl _ _ _) rfl ?_
     exact⟨rfl,S5.out.own,S5.out.at'⟩
    |true=>
     exact absurd (of_decide_eq_true ((zjU s j hlt).symm.trans (by rw[ht];exact hp))).1 (H47.out j)
  ·have hEj:E=j:=by rw[<-HE.out];exact zqs hlt
   subst hEj;have hlti:¬(E:Int)<(s.size:Int):=zo
   go_wp2
   go_quiet (fail)
   have S2:=zz (HS.out.drewN nq);go_wp2
   first|go_end0|refine bodyPost_ret (results_none rfl _ _ _) rfl ?_
   exact⟨rfl,S2.out.own,S2.out.at'⟩
def zhF (g:Nat) (s:ByteArray) (w:World) (r:Except Int (Tok × Nat)) (e:Ending) (w':World):Prop:=Own1 g w w'/\match r with
 |.error c=>e=.returned (.tuple #[.agg #[.int .i64 0,.string ⟨#[]⟩,.int .i64 0,.int .i64 0],.int .i64 c])
 |.ok (t,j)=>e=.returned (.tuple #[.agg #[.int .i64 t.kind,.string t.text,.int .i64 t.n,.int .i64 0],.int .i64 0])/\ScAt g s w' j
theorem zsk {w W:World} {g:Nat} (h:Own1 g w W) (u0 u1 u2 u3:Value):Own1 g w ((((W.setCell ⟨w.heap.size,0,none⟩ u0).setCell ⟨w.heap.size,1,none⟩ u1).setCell ⟨w.heap.size,2,none⟩ u2).setCell ⟨w.heap.size,3,none⟩ u3):=
 Chg.trans h (((((Chg.refl (λk=>k=w.heap.size) W).setCell (p:=⟨w.heap.size,0,none⟩) (.inl rfl) u0).setCell (p:=⟨w.heap.size,1,none⟩) (.inl rfl) u1).setCell (p:=⟨w.heap.size,2,none⟩) (.inl rfl) u2).setCell (p:=⟨w.heap.size,3,none⟩) (.inl rfl) u3) (λj hj=>.inr zo)
theorem zdU {g:Nat} {s:ByteArray} {w W:World} {r:Except Int (Tok × Nat)} {c:Int} (O:Own1 g w W) (hr:r=.error c) (u0 u1 u2 u3:Value) :
 zhF g s w r (.returned (.tuple #[.agg #[↑(),↑zj.a,↑(),↑()],↑c])) ((((W.setCell ⟨w.heap.size,0,none⟩ u0).setCell ⟨w.heap.size,1,none⟩ u1).setCell ⟨w.heap.size,2,none⟩ u2).setCell ⟨w.heap.size,3,none⟩ u3):=by
 subst hr;exact⟨zsk O _ _ _ _,rfl⟩
theorem zmZ {g:Nat} {s:ByteArray} {w W:World} {r:Except Int (Tok × Nat)} {k n a:Int} {t:ByteArray} {j:Nat} (O:Own1 g w W) (S:ScAt g s W j) (hg:g<w.heap.size) (hr:r=.ok (⟨k,t,n,a⟩,j)) (u0 u1 u2 u3:Value) :
 zhF g s w r (.returned (.tuple #[.agg #[↑k,↑t,↑n,↑()],↑()])) ((((W.setCell ⟨w.heap.size,0,none⟩ u0).setCell ⟨w.heap.size,1,none⟩ u1).setCell ⟨w.heap.size,2,none⟩ u2).setCell ⟨w.heap.size,3,none⟩ u3):=by
 subst hr;have:=zmK O S hg u0 u1 u2 u3;exact⟨this.1,rfl,this.2⟩
theorem zmX {c:UInt8} (h:zcM c=true):wc c=true:=by rw[zty,h];simp
def ziy (s:ByteArray) (i:Nat):Nat->Except Int (Tok × Nat)
 |0=>.error 2
 |k+1=>if zbU (s.extract i (i+(k+1)))=true then .ok (⟨4,s.extract i (i+(k+1)),0,i⟩,i+(k+1)) else ziy s i k
theorem zsu (s:ByteArray) (i:Nat) (hi:i<s.size):zln s i=ziy s i (min 2 (s.size-i)):=by
 unfold zln
 by_cases h:i+1<s.size
 ·rw[show min 2 (s.size-i)=2 from by omega,ziy,ziy,ziy]
  by_cases h2:zbU (s.extract i (i+2))=true
  ·rw[if_pos ⟨h,h2⟩,if_pos h2]
  ·rw[if_neg (λh=>h2 h.2),if_neg h2]
 ·rw[if_neg (λh'=>h h'.1),show min 2 (s.size-i)=1 from by omega,ziy,ziy]
theorem zrc (s:ByteArray) (hs:s.size<=32768) (g i:Nat) (hi:i<s.size) (w:World) (h:ScAt g s w i) :
 Calls Tryz.prog 164 #[.pointer (some ⟨g,0,none⟩)] w (zhF g s w (zln s i)):=by
 have hg:g<w.heap.size:=h.lt;have hb:=(Below.refl w.heap.size w).alloc (Nat.le_refl _) (.cells #[↑(),↑zj.a,↑(),↑()] 198);have hx:=zab.new w #[↑(),↑zj.a,↑(),↑()] 198;obtain⟨w0,hw⟩:∃W,w.alloc (.cells #[↑(),↑zj.a,↑(),↑()] 198)=W:=⟨_,rfl⟩;rw[hw] at hb hx;have S0:Hid (SC g s w w0 i):=zz ⟨zaa hb h,zaO (b:=g) hb⟩;have X0:=zz hx;obtain⟨r,hr⟩:=zn (zln s i);rw[hr];rw[zsu s i hi] at hr;obtain⟨m,hm⟩:=zn (min 2 (s.size-i));rw[hm] at hr;have hm1:m<=2:=zo
 have hm2:i+m<=s.size:=zo
 have HR:=zz hr;have d0:=S0.out.cells0;have d1:=S0.out.cells1;have hsub:IntKind.i64.wrap ((s.size:Int)-(i:Int))=((s.size-i:Nat):Int):=by rw[IntWalk.i64_in _ zo];omega
 clear h hb hx hr;go_in;go_wp2;clear hw;obtain⟨z4,hz4⟩:∃z:Int,(if ((s.size-i:Nat):Int)<2 then ((s.size-i:Nat):Int) else 2)=z:=⟨_,rfl⟩;have hz5:z4=(m:Int):=by rw[<-hz4];split<;>omega
 go_quiet (fail)
 obtain⟨w1,hw1⟩:=zn (w0.drewN nq);have S1:=zz (S0.out.drewN nq);have X1:=zz (zaa (zae (Below.refl _ _) nq) X0.out);rw[hw1] at S1 X1;rw[hw1];clear hw1 nq S0 X0 d0 d1;subst hz5;go_wp2
 go_loopw [4] (λs4 wr=>∃k:Nat,k<=m/\s4=↑k/\Hid (ziy s i k=r)/\Hid (SC g s w wr i)/\Hid (zab wr w.heap.size #[↑(),↑zj.a,↑(),↑()] 198)) (λs4 _=>(intOf s4).toNat)
 case atStart=>exact⟨m,Nat.le_refl _,rfl,HR,S1,X1⟩
 case round=>
  clear HR S1 X1;obtain⟨k,hk,rfl,HR,HS,HX⟩:=hrel;have d0:=HS.out.cells0;have d1:=HS.out.cells1;rcases Nat.eq_zero_or_pos k with rfl|hk0
  ·have HR2:Hid (r=.error 2):=zz HR.out.symm;have x0:=HX.out.a 0 rfl;have x1:=HX.out.a 1 rfl;have x2:=HX.out.a 2 rfl;have x3:=HX.out.a 3 rfl;have z:=HX.out.fz;go_wp2;exact bodyPost_ret (zah (q:=3) zr _ _ w.heap.size _ _ (0,0) _ rfl (zbj _ _ _ _ HX.out) Tryz.underlying198 rfl zbY) rfl (zdU HS.out.own HR2.out _ _ _ _)
  ·obtain⟨k,rfl⟩:∃j,k=j+1:=⟨k-1,zo⟩;have hki:(0:Int)<((k+1:Nat):Int):=zo
   have q:=HR.out;rw[ziy] at q;have hwk:IntKind.i64.wrap ((i:Int)+((k+1:Nat):Int))=((i+(k+1):Nat):Int):=by rw[IntWalk.i64_in _ zo];omega
   have hs1:(i:Int)<=((i+(k+1):Nat):Int):=zo
   have hs2:((i+(k+1):Nat):Int)<=(s.size:Int):=zo
   have hwm:IntKind.i64.wrap (((k+1:Nat):Int)-1)=((k:Nat):Int):=by rw[IntWalk.i64_in _ zo];omega
   obtain⟨e,he⟩:=zn (i+(k+1));obtain⟨k1,hk1⟩:=zn (k+1);rw[hk1] at he;rw[hk1,he] at q hwk;rw[hk1] at hs1 hs2 hwm hki;rw[he] at hs1 hs2;rw[hk1];have KM:=zz (λW=>zoC (s.extract i e) W);cases hmk:zbU (s.extract i e) with
   |true=>
    rw[hmk] at KM;rw[if_pos hmk] at q;have HR2:Hid (r=.ok (⟨4,s.extract i e,0,i⟩,e)):=zz q.symm;clear q hmk;go_wp2
    go_quiet (fail)
    obtain⟨w2,hw2⟩:=zn (wr.drewN nq);have S2:=zz (HS.out.drewN nq);have X2:=zz (zaa (zae (Below.refl _ _) nq) HX.out);rw[hw2] at S2 X2;rw[hw2];clear hw2 nq HS HX d0 d1;have c1:=S2.out.at'.a 1 rfl;have z2:=S2.out.at'.fz;go_wp2_with fail;(with_reducible refine(KM.out _).mono ?_);rintro _ w3 ⟨rfl,rfl⟩;have S3:=zz (S2.out.set e);have X3:=zz (X2.out.keep (Own1.set (zaO (b:=g) (Below.refl w3.heap.size w3)) 1 (.int .i64 (e:Int))) zo);obtain⟨w4,hw4⟩:∃W,w3.setCell ⟨g,1,none⟩ (.int .i64 (e:Int))=W:=⟨_,rfl⟩;rw[hw4] at S3 X3;have x0:=X3.out.a 0 rfl;have x1:=X3.out.a 1 rfl;have x2:=X3.out.a 2 rfl;have x3:=X3.out.a 3 rfl;have z:=X3.out.fz;go_wp2;exact bodyPost_ret (zah (q:=3) zr _ _ w.heap.size _ _ (0,0) _ rfl (zbj _ _ _ _ X3.out) Tryz.underlying198 rfl zbY) rfl (zmZ S3.out.own S3.out.at' hg HR2.out _ _ _ _)
   |false=>
    rw[hmk] at KM;rw[if_neg (by rw[hmk];simp)] at q;have HR2:Hid (ziy s i k=r):=zz q;clear q hmk;go_wp2
    go_quiet (fail)
    obtain⟨w2,hw2⟩:=zn (wr.drewN nq);have S2:=zz (HS.out.drewN nq);have X2:=zz (zaa (zae (Below.refl _ _) nq) HX.out);rw[hw2] at S2 X2;rw[hw2];clear hw2 nq HS HX d0 d1;go_wp2_with fail;(with_reducible refine(KM.out _).mono ?_);rintro _ w3 ⟨rfl,rfl⟩;go_wp2;exact⟨⟨k,zo,rfl,HR2,S2,X2⟩,by simp[intOf];omega⟩
end Go.Proofs.YtcebmphappfjjaaGreatDoor
