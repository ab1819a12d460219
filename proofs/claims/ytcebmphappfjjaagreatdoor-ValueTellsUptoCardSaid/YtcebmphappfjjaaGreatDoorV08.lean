/- Conditions: those in each statement. -/
import Derived.Shelf.Strings.Search2
import Derived.Test.YtcebmphappfjjaaGreatDoorProg
import Derived.Test.YtcebmphappfjjaaGreatDoorV04
import Derived.Lib.IndexLaws
import Derived.Test.YtcebmphappfjjaaGreatDoorV00
import Derived.Laws.BytesArg
import Derived.Laws.BitsAllLaws
import Derived.Laws.BitsLemmas
set_option maxHeartbeats 32000000
set_option maxRecDepth 100000
namespace Go.Proofs.YtcebmphappfjjaaGreatDoor
open Go.RowKit Go.Shelf
def zrT:Go.Shelf.Ren:=⟨fun|219=>153|217=>199|225=>200|224=>201|267=>202|266=>241|314=>242|n=>n,fun|9=>9|3=>3|4=>4|5=>5|46=>194|146=>240|51=>239|n=>n,fun|1=>0|n=>n⟩
theorem layI:Go.Proofs.Lays.n219 Tryz.prog zrT:={
 mixed:=by kernel_rfl
 f217:=Tryz.func199.trans (congrArg some zk)
 f219:=Tryz.func153.trans (congrArg some zk)
 f224:=Tryz.func201.trans (congrArg some zk)
 f225:=Tryz.func200.trans (congrArg some zk)
 f266:=Tryz.func241.trans (congrArg some zk)
 f267:=Tryz.func202.trans (congrArg some zk)
 f314:=Tryz.func242.trans (congrArg some zk)
 t3:=Tryz.underlying3
 a3:=Tryz.isAgg3
 z3:=Tryz.sizeOf3
 v3:=Tryz.zeroValue3
 t4:=Tryz.underlying4
 a4:=Tryz.isAgg4
 z4:=Tryz.sizeOf4
 v4:=Tryz.zeroValue4
 t5:=Tryz.underlying5
 a5:=Tryz.isAgg5
 z5:=Tryz.sizeOf5
 v5:=Tryz.zeroValue5
 t9:=Tryz.underlying9
 a9:=Tryz.isAgg9
 z9:=Tryz.sizeOf9
 v9:=Tryz.zeroValue9
 t46:=Tryz.underlying194
 a46:=Tryz.isAgg194
 z46:=Tryz.sizeOf194
 v46:=Tryz.zeroValue194
 t51:=Tryz.underlying239
 a51:=Tryz.isAgg239
 z51:=Tryz.sizeOf239
 v51:=Tryz.zeroValue239
 t146:=Tryz.underlying240
 a146:=Tryz.isAgg240
 z146:=Tryz.sizeOf240
 v146:=Tryz.zeroValue240
 g1:=by kernel_rfl}
theorem zoZ (s:ByteArray) (c:UInt8) (w:World):Calls Tryz.prog 153 #[↑s,.string ⟨#[c]⟩] w λe w'=>e=.returned (.int .i64 (Lib.indexByte s.data.toList c))/\w'=w:=Any.stringslite_Index_one layI s c w
end Go.Proofs.YtcebmphappfjjaaGreatDoor
set_option maxHeartbeats 32000000
set_option maxRecDepth 100000
namespace Go.Proofs.YtcebmphappfjjaaGreatDoor
open Go.RowKit
def ziA (s:ByteArray):Int:=Lib.indexByte s.data.toList 46
theorem zfD (s:ByteArray):ziA s=-1\/∃i:Nat,ziA s=(i:Int)/\i<s.size:=by
 have h:=Lib.indexByte_ge s.data.toList 46;rcases Int.lt_or_le (ziA s) 0 with h1|h1
 ·left;unfold ziA at h1 ⊢;omega
 ·obtain⟨i,hi⟩:=Int.eq_ofNat_of_zero_le h1;refine .inr ⟨i,hi,?_⟩;have h2:=(Lib.indexByte_some (l:=s.data.toList) (c:=46) (o:=i) hi).1;have:=(List.getElem?_eq_some_iff.1 h2).1
  rwa [zai] at this
def cutA (s:ByteArray):ByteArray:=if ziA s<0 then s else s.extract 0 (ziA s).toNat
def cutR (s:ByteArray):ByteArray:=if ziA s<0 then ⟨#[]⟩ else s.extract ((ziA s).toNat+1) s.size
def cutF (s:ByteArray):Bool:=decide (0<=ziA s)
theorem zqe (s:ByteArray):(cutA s).size<=s.size:=by
 unfold cutA
 split
 ·exact Nat.le_refl _
 ·rw[ByteArray.size_extract];omega
theorem zkW (s:ByteArray):(cutR s).size<=s.size:=by
 unfold cutR
 split
 ·exact Nat.zero_le _
 ·rw[ByteArray.size_extract];omega
theorem ziw (s:ByteArray) (h:cutF s=true):(cutR s).size+1<=s.size:=by
 have h:=of_decide_eq_true h;rcases zfD s with h1|⟨i,h1,h2⟩
 ·omega
 ·unfold cutR;rw[if_neg zo,ByteArray.size_extract,h1];omega
def zqt (s:ByteArray) (w:World) (e:Ending) (w':World):Prop:=e=.returned (.tuple #[.string (cutA s),.string (cutR s),.bool (cutF s)])/\∃n,w'=w.drewN n
theorem zrH (s:ByteArray) (w:World) (hs:s.size<=2097152):Calls Tryz.prog 99 #[↑s,.string ⟨#[46]⟩] w (zqt s w):=by
 have HX:=zz (zoZ s 46 w);rw[show Lib.indexByte s.data.toList 46=ziA s from rfl] at HX;rcases zfD s with h|⟨i,h,hi⟩
 ·have HA:Hid (cutA s=s/\cutR s=⟨#[]⟩/\cutF s=false):=zz (by
   unfold cutA cutR cutF;rw[h];exact⟨rfl,rfl,rfl⟩)
  rw[h] at HX;clear h;go_in;go_wp2_with fail;refine zi HX ?_;rintro e w1 ⟨rfl,rfl⟩;go_wp2
  go_ret3
  exact⟨by rw[HA.out.1,HA.out.2.1,HA.out.2.2];rfl,0,rfl⟩
 ·have HA:Hid (cutA s=s.extract 0 i/\cutR s=s.extract (i+1) s.size/\cutF s=true):=zz (by
   unfold cutA cutR cutF;rw[h,if_neg zo,if_neg zo];exact⟨rfl,rfl,decide_eq_true zo⟩)
  rw[h] at HX;clear h;have c1:(0:Int)<=i:=zo
  have c2:(i:Int)<=s.size:=zo
  have c3:(0:Int)<=(i:Int)+1:=zo
  have c4:(i:Int)+1<=s.size:=zo
  go_in;go_wp2_with fail;refine zi HX ?_;rintro e w1 ⟨rfl,rfl⟩;go_wp2
  go_region
  go_wp2
  go_ret3
  exact⟨by rw[HA.out.1,HA.out.2.1,HA.out.2.2];rfl,1,rfl⟩
theorem zre (s:ByteArray) (w:World) (hs:s.size<=2097152):Calls Tryz.prog 53 #[↑s,.string ⟨#[46]⟩] w (zqt s w):=by
 have HX:=zz (zrH s w hs);go_in;go_wp2_with fail;refine zi HX ?_;rintro e w1 ⟨rfl,n,rfl⟩;go_wp2
 go_ret3
 exact⟨rfl,n,rfl⟩
def zfB:Nat->ByteArray->Bool->Bool
 |_,_,false=>true
 |0,_,true=>true
 |f+1,r,true=>(zbD (cutA r) 0 9007199254740992).2&&zfB f (cutR r) (cutF r)
def znX (s:ByteArray):Bool:=decide (s.size<=200)&&(decide (cutA s=⟨#[48]⟩)&&zfB (s.size+1) (cutR s) (cutF s))
def znp:Value->Value->Nat
 |.string r,.bool true=>r.size+1
 |_,_=>0
theorem zmn (s:ByteArray):(s.toList == [48])=decide (s=⟨#[48]⟩):=by
 cases h:(s.toList == [48]) with
 |true=>
  have h:=eq_of_beq h;rw[decide_eq_true (zbX (by rw[h,ByteArray.toList_eq]))]
 |false=>
  rw[decide_eq_false];intro e;rw[e,ByteArray.toList_eq] at h;simp at h
theorem zrD (s:ByteArray) (w:World) (hs:s.size<=2097152):Calls Tryz.prog 22 #[↑s] w λe w'=>e=.returned (.bool (znX s))/\Below w.heap.size w w':=by
 have HU:Hid (znX s=(decide (s.size<=200)&&(decide (cutA s=⟨#[48]⟩)&&zfB (s.size+1) (cutR s) (cutF s)))):=zz rfl;generalize znX s=R at *
 by_cases h2:s.size<=200
 ·have h2':¬(200:Int)<s.size:=zo
  have HC:=zz (zre s w hs);have HZ:=zz (zmn (cutA s));have HV:Hid (R=(decide (cutA s=⟨#[48]⟩)&&zfB (s.size+1) (cutR s) (cutF s))):=zz (by rw[HU.out,decide_eq_true h2];rfl);have hsz:=zkW s;clear HU;cases hz:((cutA s).toList == [48]) with
  |false=>
   have HE:Hid (R=false):=zz (by rw[HV.out,<-HZ.out,hz];rfl);clear HZ HV;go_in;go_wp2_with fail;refine zi HC ?_;rintro e w1 ⟨rfl,n,rfl⟩;go_wp2;go_ret;exact⟨by rw[HE.out];rfl,zae (Below.refl _ _) n⟩
  |true=>
   have HE:Hid (R=zfB (s.size+1) (cutR s) (cutF s)):=zz (by rw[HV.out,<-HZ.out,hz];rfl);clear HZ HV;go_in;go_wp2_with fail;refine zi HC ?_;rintro e w1 ⟨rfl,n,rfl⟩;go_wp2
   go_loopw [4,5] (λs4 s5 wr=>∃(f:Nat) (r:ByteArray) (m:Bool),s4=↑r/\s5=↑m/\r.size<=200/\Hid (m=true->r.size<f)/\Hid (R=zfB f r m)/\Hid (Below w.heap.size w wr)) (λs4 s5 _=>znp s4 s5)
   case atStart=>exact⟨s.size+1,cutR s,cutF s,rfl,rfl,zo,zz (λ_=>by omega),HE,zz (zae (Below.refl _ _) n)⟩
   case round=>
    obtain⟨f,r,m,rfl,rfl,hr,hf,HP,HB⟩:=hrel;cases m with
    |false=>
     have HT:Hid (R=true):=zz (by rw[HP.out];cases f<;>rfl);go_wp2;go_ret;exact⟨by rw[HT.out];rfl,HB.out⟩
    |true=>
     obtain⟨f',rfl⟩:∃f',f=f'+1:=⟨f-1,by have:=hf.out rfl;omega⟩;have HQ:Hid (R=((zbD (cutA r) 0 9007199254740992).2&&zfB f' (cutR r) (cutF r))):=zz (by rw[HP.out];rfl);have ha:=zqe r;have hc:=zkW r;have HL:=zz (ziw r);have HCC:=zz (λW=>zre r W zo);have HPP:=zz (λW=>zfQ (cutA r) 0 9007199254740992 W zo);clear HP HC HE;go_wp2_with fail;(with_reducible refine(HCC.out _).mono ?_);rintro e w2 ⟨rfl,q,rfl⟩;go_wp2_with fail;(with_reducible refine(HPP.out _).mono ?_);rintro e w3 ⟨rfl,hb3⟩;have HB3:=zz ((zae HB.out q).trans (hb3.mono (Nat.le_trans HB.out.size (Nat.le_refl _))));clear hb3;obtain⟨P,hP⟩:=zn (zbD (cutA r) 0 9007199254740992);rw[hP] at HQ ⊢;clear hP HPP HCC;obtain⟨pn,pb⟩:=P;cases pb with
     |false=>
      have HT:Hid (R=false):=zz HQ.out;go_wp2;go_ret;exact⟨by rw[HT.out];rfl,HB3.out⟩
     |true=>
      have HT:Hid (R=zfB f' (cutR r) (cutF r)):=zz HQ.out;clear HQ;go_wp2_with fail;refine⟨⟨f',cutR r,cutF r,rfl,rfl,zo,zz (λh=>?_),HT,HB3⟩,?_⟩
      ·have:=hf.out trivial;have:=HL.out h;omega
      ·show znp (.string (cutR r)) (.bool (cutF r))<r.size+1
       cases hF:cutF r with
       |true=>
        have:=HL.out hF
        show (cutR r).size+1<r.size+1
        omega
       |false=>exact Nat.succ_pos _
 ·have h2':(200:Int)<s.size:=zo
  have HE:Hid (R=false):=zz (by rw[HU.out,decide_eq_false h2];rfl);clear HU;go_in;go_wp2;go_ret;exact⟨by rw[HE.out];rfl,Below.refl _ _⟩
theorem zuY (a:Nat) (ha:a<9223372036854775808):(BitVec.ofInt 64 (a:Int)).toNat=a:=by
 rw[BitVec.ofInt_natCast,BitVec.toNat_ofNat];exact Nat.mod_eq_of_lt zo
theorem zwr (a b:Nat) (ha:a<9223372036854775808) (hb:b<9223372036854775808):bits .and .i64 (a:Int) (b:Int)=((a&&& b:Nat):Int):=by
 have hx:a&&& b<2 ^ 63:=Nat.and_lt_two_pow _ zo
 show IntKind.i64.wrap ((BitVec.ofInt 64 (a:Int)&&& BitVec.ofInt 64 (b:Int)).toNat:Int)=_
 rw[BitVec.toNat_and,zuY a ha,zuY b hb,IntKind.wrap_i64];omega
theorem zvI (a b:Nat) (ha:a<9223372036854775808) (hb:b<9223372036854775808):bits .or .i64 (a:Int) (b:Int)=((a ||| b:Nat):Int):=by
 have hx:a ||| b<2 ^ 63:=Nat.or_lt_two_pow zo zo
 show IntKind.i64.wrap ((BitVec.ofInt 64 (a:Int) ||| BitVec.ofInt 64 (b:Int)).toNat:Int)=_
 rw[BitVec.toNat_or,zuY a ha,zuY b hb,IntKind.wrap_i64];omega
theorem low7 (n:Nat) (hn:n<9223372036854775808):bits .and .i64 (n:Int) 127=((n % 128:Nat):Int):=by
 have h:=zwr n 127 hn zo;have e:n&&& 127=n % 128:=Nat.and_two_pow_sub_one_eq_mod n 7;rw[e] at h;exact h
theorem top7 (m:Nat) (hm:m<128):bits .or .i64 (m:Int) 128=((m+128:Nat):Int):=by
 have h:=zvI m 128 zo zo
 have e:m ||| 128=m+128:=by
  have:=Nat.two_pow_add_eq_or_of_lt (i:=7) hm 1;rw[Nat.or_comm];have e2:2 ^ 7*1=128:=rfl;rw[e2] at this;omega
 rw[e] at h;exact h
def numI:Nat->Nat->List Int
 |0,_=>[]
 |f+1,n=>if n<128 then [(n:Int)] else ((n:Int) % 128+128)::numI f (n / 128)
def numB (n:Nat):ByteArray:=strOfNums (numI 9 n)
theorem zyS (m:Nat) (hm:m<=9223372036854775807):bits .and .i64 (m:Int) 127=(m:Int) % 128:=by
 have:=low7 m zo;rw[this];omega
theorem zyQ (m:Nat):bits .or .i64 ((m:Int) % 128) 128=(m:Int) % 128+128:=by
 have:=top7 (m % 128) zo;have e:((m % 128:Nat):Int)=(m:Int) % 128:=zo
 rw[e] at this;rw[this];omega
def zqN (n k m:Nat) (xs:List Int) (g:Nat) (wr:World):Prop:=
 m=n / 128 ^ k/\xs.length=k/\numI 9 n=xs++numI (9-k) m/\∀j,j<k->wr.cell? ⟨g,j,none⟩=some (.int .u8 (xs.getD j 0))
theorem zqN.step {n k m:Nat} {xs:List Int} {g:Nat} {wr:World} (h:zqN n k m xs g wr) (hk:k<=8) (hm:128<=m) {u:Value} (hu:wr.cell? ⟨g,k,none⟩=some u) :
 zqN n (k+1) (m / 128) (xs++[(m:Int) % 128+128]) g (wr.setCell ⟨g,k,none⟩ (.int .u8 ((m:Int) % 128+128))):=by
 obtain⟨h1,h2,h3,h4⟩:=h;refine⟨by rw[h1,Nat.div_div_eq_div_mul,Nat.pow_succ],by simp[h2],?_,λj hj=>?_⟩
 ·rw[h3,show 9-k=(9-(k+1))+1 by omega,numI,if_neg zo];simp
 ·by_cases hjk:j=k
  ·subst hjk;rw[World.cell?_setCell_same _ _ _ hu,List.getD_eq_getElem?_getD,List.getElem?_append_right zo];simp[h2]
  ·rw[World.cell?_setCell_other _ _ _ _ (by simp<;>omega),h4 j zo,List.getD_eq_getElem?_getD,List.getD_eq_getElem?_getD,List.getElem?_append_left zo]
theorem zqN.fin {n k m:Nat} {xs:List Int} {g:Nat} {wr:World} (h:zqN n k m xs g wr) (hk:k<=8) (hm:m<128) {u:Value} (hu:wr.cell? ⟨g,k,none⟩=some u) :
 numI 9 n=xs++[(m:Int)]/\∀j,j<k+1->(wr.setCell ⟨g,k,none⟩ (.int .u8 (m:Int))).cell? ⟨g,0+j,none⟩=some (.int .u8 ((xs++[(m:Int)]).getD j 0)):=by
 obtain⟨h1,h2,h3,h4⟩:=h;refine⟨?_,λj hj=>?_⟩
 ·rw[h3,show 9-k=(8-k)+1 by omega,numI,if_pos hm]
 ·rw[Nat.zero_add]
  by_cases hjk:j=k
  ·subst hjk;rw[World.cell?_setCell_same _ _ _ hu,List.getD_eq_getElem?_getD,List.getElem?_append_right zo];simp[h2]
  ·rw[World.cell?_setCell_other _ _ _ _ (by simp<;>omega),h4 j zo,List.getD_eq_getElem?_getD,List.getD_eq_getElem?_getD,List.getElem?_append_left zo]
theorem zws (n:Nat) (hn:n<=9223372036854775807) (w:World):Calls Tryz.prog 112 #[.int .i64 (n:Int)] w λe w'=>e=.returned (.string (numB n))/\Below w.heap.size w w':=by
 go_in;go_wp2
 go_loopw [0,4] (λs0 s4 wr=>∃(k m:Nat) (xs:List Int),k<=8/\s4=↑k/\m<=9223372036854775807/\s0=↑m/\Hid (zqN n k m xs w.heap.size wr)/\Hid (Blk wr w.heap.size 193 9)/\Hid (Below w.heap.size w wr)) (λs0 _ _=>(intOf s0).toNat)
 case atStart=>exact⟨0,n,[],zo,rfl,hn,rfl,zz ⟨by simp,rfl,rfl,λj hj=>absurd hj zo⟩,zz (Blk.new _ _ _),zz ((Below.refl _ _).alloc (Nat.le_refl _) _)⟩
 case round=>
  obtain⟨k,m,xs,hk,rfl,hm,rfl,HN,HK,HB⟩:=hrel;obtain⟨u,hu⟩:=Option.isSome_iff_exists.1 (HK.out.some (j:=k) zo);have hf:=HK.out.frozen k;have hk9:(k:Int)<9:=zo
  by_cases h:128<=m
  ·have hl:=zyS m hm;have ht:=zyQ m;have hx:((m:Int) % 128+128) % 256=(m:Int) % 128+128:=zo
   have hk7:k<=7:=by
    rcases Nat.lt_or_ge k 8 with h8|h8
    ·omega
    ·obtain rfl:k=8:=zo
     have:=HN.out.1;have e:128 ^ 8=72057594037927936:=by decide
     rw[e] at this;omega
   have HS:=zz (HN.out.step hk h hu);have HK2:Hid (Blk (wr.setCell ⟨w.heap.size,k,none⟩ (.int .u8 ((m:Int) % 128+128))) w.heap.size 193 9):=zz (HK.out.setCells w.heap.size k [.int .u8 ((m:Int) % 128+128)]);have HB2:=zz (HB.out.setCell (p:=⟨w.heap.size,k,none⟩) (Nat.le_refl _) (.int .u8 ((m:Int) % 128+128)));go_wp2;exact⟨⟨k+1,m / 128,_,zo,by go_num,zo,by go_num,HS,HK2,HB2⟩,by simp[intOf];omega⟩
  ·obtain⟨e1,e2⟩:=HN.out.fin hk zo hu;have hcv:=run_convert_bytes_arg (P:=Tryz.prog) (wr.setCell ⟨w.heap.size,k,none⟩ (.int .u8 (m:Int))) 99 5 Tryz.underlying99 Tryz.underlying5 w.heap.size 0 (k+1) 9 (xs++[(m:Int)]) (by have:=HN.out.2.1;simp[this]) e2 9 Tryz.underlying9;have E1:=zz e1;have HB2:=zz (HB.out.setCell (p:=⟨w.heap.size,k,none⟩) (Nat.le_refl _) (.int .u8 (m:Int)));have g1:(0:Int)<=(k:Int)+1:=zo
   have g2:(k:Int)+1<=9:=zo
   clear e1 e2;go_wp2;go_ret;exact⟨by unfold numB;rw[E1.out];rfl,HB2.out⟩
theorem zyv (n:Int) (hn:n<0) (w:World):Calls Tryz.prog 112 #[↑n] w λe w'=>e=.returned ↑zj.a/\w=w':=by
 go_in;go_wp2;go_ret;exact⟨rfl,rfl⟩
def numZ (n:Int):ByteArray:=if n<0 then ⟨#[]⟩ else numB n.toNat
theorem zwn (n:Int) (hn:n<=9223372036854775807) (w:World):Calls Tryz.prog 112 #[↑n] w λe w'=>e=.returned (.string (numZ n))/\Below w.heap.size w w':=by
 by_cases h:n<0
 ·refine(zyv n h w).mono ?_;rintro e w' ⟨rfl,rfl⟩;exact⟨by unfold numZ;rw[if_pos h],Below.refl _ _⟩
 ·obtain⟨m,rfl⟩:=Int.eq_ofNat_of_zero_le (show 0<=n by omega);refine(zws m zo w).mono ?_;rintro e w' ⟨rfl,hb⟩;exact⟨by unfold numZ;rw[if_neg h,Int.toNat_natCast],hb⟩
def intB (n:Int):ByteArray:=if n < -1152921504606846976\/1152921504606846976<n then ⟨#[]⟩ else if n<0 then numB (-2*n-1).toNat else numB (2*n).toNat
theorem zxo (n:Int) (w:World):Calls Tryz.prog 114 #[↑n] w λe w'=>e=.returned (.string (intB n))/\Below w.heap.size w w':=by
 by_cases h1:n < -1152921504606846976
 ·have HE:Hid (intB n=⟨#[]⟩):=zz (by unfold intB;rw[if_pos (.inl h1)]);go_in;go_wp2;go_ret;exact⟨by rw[HE.out];rfl,Below.refl _ _⟩
 by_cases h2:1152921504606846976<n
 ·have HE:Hid (intB n=⟨#[]⟩):=zz (by unfold intB;rw[if_pos (.inr h2)]);go_in;go_wp2;go_ret;exact⟨by rw[HE.out];rfl,Below.refl _ _⟩
 by_cases h3:n<0
 ·have HE:Hid (intB n=numZ (-2*n-1)):=zz (by
   unfold intB numZ;rw[if_neg (λh=>by omega),if_pos h3,if_neg zo])
  have HC:=zz (zwn (-2*n-1) zo w);go_in;go_wp2_with fail;refine zi HC ?_;rintro e w1 ⟨rfl,hb⟩;have HB:=zz hb;clear hb;go_wp2;go_ret;exact⟨by rw[HE.out];rfl,HB.out⟩
 ·have HE:Hid (intB n=numZ (2*n)):=zz (by
   unfold intB numZ;rw[if_neg (λh=>by omega),if_neg h3,if_neg zo])
  have HC:=zz (zwn (2*n) zo w);go_in;go_wp2_with fail;refine zi HC ?_;rintro e w1 ⟨rfl,hb⟩;have HB:=zz hb;clear hb;go_wp2;go_ret;exact⟨by rw[HE.out];rfl,HB.out⟩
theorem zni:∀f n,(numI f n).length<=f
 |0,_=>by simp[numI]
 |f+1,n=>by
  rw[numI]
  split
  ·simp
  ·have:=zni f (n / 128);simp;omega
theorem zfP (n:Nat):(numB n).size<=9:=by unfold numB;rw[strOfNums_size];exact zni 9 n
theorem zkO (n:Int):(intB n).size<=9:=by
 unfold intB
 split
 ·simp[ByteArray.size]
 ·split<;>exact zfP _
def zoI (s:ByteArray):ByteArray:=numB s.size++s
theorem zwE (s:ByteArray) (hs:s.size<=4294967296) (w:World):Calls Tryz.prog 113 #[↑s] w λe w'=>e=.returned (.string (zoI s))/\Below w.heap.size w w':=by
 go_in;go_wp2_with fail;(with_reducible refine(zws s.size zo w).mono ?_);rintro e w1 ⟨rfl,hb⟩;have HB:=zz hb;clear hb;have h9:=zfP s.size;go_wp2;go_ret;exact⟨rfl,HB.out⟩
end Go.Proofs.YtcebmphappfjjaaGreatDoor
