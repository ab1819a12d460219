/- Conditions: those in each statement. -/
import Derived.Test.YtcebmphappfjjaaGreatDoorQ01
import Derived.Test.YtcebmphappfjjaaGreatDoorQ06
import Derived.Test.YtcebmphappfjjaaGreatDoorProg
import Derived.Test.YtcebmphappfjjaaGreatDoorQ02
import Derived.Deep.RegionWith
import Derived.BigQuiet
import Derived.Test.YtcebmphappfjjaaGreatDoorQ05
set_option maxHeartbeats 32000000
set_option maxRecDepth 100000
namespace Go.Proofs.YtcebmphappfjjaaGreatDoor
def bt (s:ByteArray) (i:Nat):UInt8:=s.data.toList.getD i 0
def zeT (c:UInt8):Bool:=(decide (97<=c)&&decide (c<=122)) || (decide (65<=c)&&decide (c<=90))
def zcM (c:UInt8):Bool:=decide (48<=c)&&decide (c<=57)
def zsE:List ByteArray:=[(⟨#[40]⟩:ByteArray),(⟨#[41]⟩:ByteArray),(⟨#[123]⟩:ByteArray),(⟨#[125]⟩:ByteArray),(⟨#[91]⟩:ByteArray),(⟨#[93]⟩:ByteArray),(⟨#[44]⟩:ByteArray),(⟨#[46]⟩:ByteArray),(⟨#[58]⟩:ByteArray),(⟨#[59]⟩:ByteArray),(⟨#[63]⟩:ByteArray),(⟨#[95]⟩:ByteArray),(⟨#[61]⟩:ByteArray),(⟨#[43]⟩:ByteArray),(⟨#[45]⟩:ByteArray),(⟨#[42]⟩:ByteArray),(⟨#[47]⟩:ByteArray),(⟨#[37]⟩:ByteArray),(⟨#[60]⟩:ByteArray),(⟨#[62]⟩:ByteArray),(⟨#[61,61]⟩:ByteArray),(⟨#[33,61]⟩:ByteArray),(⟨#[60,61]⟩:ByteArray),(⟨#[62,61]⟩:ByteArray),(⟨#[43,43]⟩:ByteArray),(⟨#[61,62]⟩:ByteArray),(⟨#[58,45]⟩:ByteArray)]
def zbU (s:ByteArray):Bool:=zsE.any (λx=>decide (x=s))
def zaX (s:ByteArray):Nat->Nat->Nat
 |0,i=>i
 |f+1,i=>if i<s.size/\wc (bt s i)=true then zaX s f (i+1) else i
def zcc (s:ByteArray):Nat->Nat->Nat
 |0,i=>i
 |f+1,i=>if i<s.size/\bt s i≠10 then zcc s f (i+1) else i
def zhH (c:UInt8):Bool:=c == 9 || c == 10 || c == 13 || c == 32
def zdc (s:ByteArray):Nat->Nat->Nat
 |0,i=>i
 |f+1,i=>
  if i<s.size then
   if zhH (bt s i)=true then zdc s f (i+1)
   else if bt s i=47/\i+1<s.size/\bt s (i+1)=47 then zdc s f (zcc s s.size i)
   else i
  else i
def escC (c:UInt8):Option UInt8:=if c=110 then some 10 else if c=116 then some 9 else if c=34\/c=92 then some c else none
def zfc (s:ByteArray):Nat->Nat->List UInt8->Option (List UInt8 × Nat)
 |0,_,_=>none
 |f+1,i,acc=>
  if i<s.size then
   if bt s i=10 then none
   else if bt s i=34 then some (acc,i+1)
   else if bt s i=92 then
    if i+1=s.size then none
    else match escC (bt s (i+1)) with
     |none=>none
     |some e=>zfc s f (i+2) (acc++[e])
   else zfc s f (i+1) (acc++[bt s i])
  else none
def zen (s:ByteArray) (i:Nat):Except Int (Tok × Nat):=
 let e:=zaX s s.size i
 let w:=s.extract i e
 if w.data.toList.all zcM=false then .error 2
 else if bt s i=48/\e≠i+1 then .error 2
 else if (zbD w 0 9007199254740992).2=true then .ok (⟨2,⟨#[]⟩,(zbD w 0 9007199254740992).1,i⟩,e)
 else .error 6
def zlD (s:ByteArray) (i:Nat):Except Int (Tok × Nat):=match zfc s s.size (i+1) [] with
 |none=>.error 2
 |some (l,e)=>if 4096<l.length then .error 15 else .ok (⟨3,⟨l.toArray⟩,0,i⟩,e)
def zln (s:ByteArray) (i:Nat):Except Int (Tok × Nat):=
 if i+1<s.size/\zbU (s.extract i (i+2))=true then .ok (⟨4,s.extract i (i+2),0,i⟩,i+2)
 else if zbU (s.extract i (i+1))=true then .ok (⟨4,s.extract i (i+1),0,i⟩,i+1)
 else .error 2
def zcZ (s:ByteArray) (i:Nat):Except Int (Tok × Nat):=
 if zeT (bt s i)=true then .ok (⟨1,s.extract i (zaX s s.size i),0,i⟩,zaX s s.size i)
 else if zcM (bt s i)=true then zen s i
 else if bt s i=34 then zlD s i
 else zln s i
def zfs (s:ByteArray):Nat->Nat->List Tok->Except (Int × Int) (List Tok)
 |0,_,_=>.error (-1,-1)
 |f+1,i,acc=>
  let j:=zdc s s.size i
  if j=s.size then .ok acc
  else match zcZ s j with
   |.error e=>.error (e,j)
   |.ok (t,e)=>zfs s f e (acc++[t])
def zgX (s:ByteArray):Except (Int × Int) (List Tok):=if 32768<s.size then .error (15,0) else zfs s (s.size+1) 0 []
mutual
def zlN:Nd->Nat->Option Int
 |.mk _ _ _ a l,d=>if 40<d then some a else zdH l (d+1)
def zdH:List Nd->Nat->Option Int
 |[],_=>none
 |n::r,d=>match zlN n d with|some a=>some a|none=>zdH r d
end
def zhG (s:ByteArray):Except (Int × Int) Nd:=match zgX s with
 |.error e=>.error e
 |.ok T=>match zdJ T (zgM T s.size (64*(T.length+1))) (64*(T.length+1)) [] ⟨0,false⟩ with
  |.error a=>.error (2,a)
  |.ok (l,_)=>match zdH l 1 with
   |some a=>.error (10,a)
   |none=>.ok (.mk 1 ⟨#[]⟩ 0 0 l)
end Go.Proofs.YtcebmphappfjjaaGreatDoor
set_option maxHeartbeats 32000000
set_option maxRecDepth 100000
namespace Go.Proofs.YtcebmphappfjjaaGreatDoor
open Go.RowKit
abbrev ndV (x:Nd) (A:Option Addr) (c:Nat):Value:=.agg #[.int .i64 x.kind,.string x.text,.int .i64 x.n,.int .i64 x.at',.slice A x.kids.length c]
theorem znb (x:Nd) (d:Nat):zlN x d=if 40<d then some x.at' else zdH x.kids (d+1):=by cases x;rw[zlN];rfl
def zmI (d:Nat):Prop:=∀(x:Nd) (A:Option Addr) (c:Nat) (w:World),Rd (Lt w.heap.size) w (ns x.kids) (.slice A x.kids.length c)->
 Calls Tryz.prog 124 #[ndV x A c,.int .i64 (d:Int)] w λe w'=>e=.returned (.tuple #[.int .i64 ((zlN x d).getD 0),.bool (zlN x d).isSome])/\Below w.heap.size w w'
theorem zal {α:Type} {l:List α} {i:Nat} {x:α} (h:l[i]?=some x):l.drop i=x::l.drop (i+1):=by
 obtain⟨hi,rfl⟩:=List.getElem?_eq_some_iff.1 h;exact List.drop_eq_getElem_cons hi
theorem ziK (d:Nat) (hd:d<=41) (IH:d<=40->zmI (d+1)):zmI d:=by
 intro x A c w h;have HR:=zz h;have hl:=zaS h;have hn:x.kids.length<=9223372036854775807:=Nat.le_trans hl.2.1 hl.2.2;have HQ:=zz (znb x d);have hb0:=(Below.refl w.heap.size w).alloc (Nat.le_refl _) (.cells #[.int .i64 x.kind,.string x.text,.int .i64 x.n,.int .i64 x.at',.slice A x.kids.length c] 49);have hx0:=zab.new w #[.int .i64 x.kind,.string x.text,.int .i64 x.n,.int .i64 x.at',.slice A x.kids.length c] 49;obtain⟨w0,hw⟩:∃W,w.alloc (.cells #[.int .i64 x.kind,.string x.text,.int .i64 x.n,.int .i64 x.at',.slice A x.kids.length c] 49)=W:=⟨_,rfl⟩;rw[hw] at hb0 hx0;have HB0:=zz hb0;have c3:w0.cell? ⟨w.heap.size,3,none⟩=some (.int .i64 x.at'):=hx0.cell 3;have c4:w0.cell? ⟨w.heap.size,4,none⟩=some (.slice A x.kids.length c):=hx0.cell 4;clear h hl hb0 hx0
 by_cases h40:40<d
 ·have hq:=HQ.out;rw[if_pos h40] at hq;go_enter Tryz.func124,Tryz.ntmps124;go_wp2_with fail;exact bodyPost_ret (results_tmp2 (by rfl) _ _ _) rfl ⟨by rw[hq];rfl,HB0.out⟩
 ·have IH1:=IH (by omega);unfold zmI at IH1;rw[show ((d+1:Nat):Int)=(d:Int)+1 from rfl] at IH1;have IH2:=zz IH1;clear IH1;have hq:=HQ.out;rw[if_neg h40] at hq;have HQ2:=zz hq;clear IH HQ hq;go_enter Tryz.func124,Tryz.ntmps124;go_wp2_with fail;clear hw c3 c4
  go_loopw [17] (λs wr=>∃i:Nat,i<=x.kids.length/\s=.int .i64 i/\Hid (zdH x.kids (d+1)=zdH (x.kids.drop i) (d+1))/\Hid (Below w.heap.size w wr)) (λs _=>x.kids.length-(intOf s).toNat)
  case atStart=>exact⟨0,by omega,rfl,zz rfl,HB0⟩
  case round=>
   obtain⟨i,hi,rfl,HA,HB⟩:=hrel;have sB:=HB.out.size
   by_cases hlt:i<x.kids.length
   ·obtain⟨b,off,y,e,hlb,hget,A',c',p0,p1,p2,p3,p4,r5⟩:=zbC (HR.out.belows HB.out) hlt;subst e;have HK:=HA.out;rw[zal hget,zdH] at HK;have hin:(i:Int)<x.kids.length:=by omega
    have hlb':b<wr.heap.size:=hlb;have hb1:=(Below.refl wr.heap.size wr).alloc (Nat.le_refl _) (.cells #[.int .i64 y.kind,.string y.text,.int .i64 y.n,.int .i64 y.at',.slice A' y.kids.length c'] 49);have hx1:=zab.new wr #[.int .i64 y.kind,.string y.text,.int .i64 y.n,.int .i64 y.at',.slice A' y.kids.length c'] 49;obtain⟨w1,hw1⟩:∃W,wr.alloc (.cells #[.int .i64 y.kind,.string y.text,.int .i64 y.n,.int .i64 y.at',.slice A' y.kids.length c'] 49)=W:=⟨_,rfl⟩;rw[hw1] at hb1 hx1;obtain⟨q0,q1,q2,q3,q4⟩:=hx1.c5;have R1:=zz (r5.belows hb1);have hwd:IntKind.i64.wrap ((d:Int)+1)=((d+1:Nat):Int):=by rw[IntWalk.i64_in _ (by omega)];omega
    have HB1:=zz (HB.out.trans (hb1.mono sB));have s1:=hb1.size;clear HR r5 hb1 hx1 HA hget;go_wp2_with fail;(with_reducible refine(IH2.out y A' c' _ R1.out).mono ?_);rintro e w2 ⟨rfl,hb2⟩;have HB2:=zz (HB1.out.trans (hb2.mono (by omega)));clear hb2 q0 q1 q2 q3 q4 hw1;cases hy:zlN y (d+1) with
    |some a=>
     rw[hy] at HK;have HE:=HQ2.out.trans HK;go_wp2_with fail;exact bodyPost_ret (results_tmp2 (by rfl) _ _ _) rfl ⟨by rw[HE];rfl,HB2.out⟩
    |none=>
     rw[hy] at HK;have HA2:Hid (zdH x.kids (d+1)=zdH (x.kids.drop (i+1)) (d+1)):=zz HK;go_wp2_with fail;exact⟨⟨i+1,by omega,by go_num,HA2,HB2⟩,by simp[intOf];omega⟩
   ·have HE:zlN x d=none:=by
     have h1:=HA.out;rw[List.drop_eq_nil_of_le (by omega),zdH] at h1;exact HQ2.out.trans h1
    go_wp2_with fail;exact bodyPost_ret (results_tmp2 (by rfl) _ _ _) rfl ⟨by rw[HE];rfl,HB.out⟩
theorem zhr:∀(m d:Nat),41<=d+m->d<=41->zmI d
 |0,d,h1,h2=>ziK d h2 (λh=>by omega)
 |m+1,d,h1,h2=>ziK d h2 (λh=>zhr m (d+1) (by omega) (by omega))
theorem ziG (s:ByteArray) (w:World):Calls Tryz.prog 230 #[.string s] w λe w'=>e=.returned (.bool (zar s))/\Below w.heap.size w w':=by
 by_cases h0:s=(⟨#[114,101,99,111,114,100]⟩:ByteArray)
 ·subst h0;have hr:zar (⟨#[114,101,99,111,114,100]⟩:ByteArray)=true:=by kernel_rfl
  rw[hr];go_enter Tryz.func230,Tryz.ntmps230;go_wp2;go_ret;exact⟨rfl,Below.refl _ _⟩
 by_cases h1:s=(⟨#[118,97,114,105,97,110,116]⟩:ByteArray)
 ·subst h1;have hr:zar (⟨#[118,97,114,105,97,110,116]⟩:ByteArray)=true:=by kernel_rfl
  rw[hr];go_enter Tryz.func230,Tryz.ntmps230;go_wp2;go_ret;exact⟨rfl,Below.refl _ _⟩
 by_cases h2:s=(⟨#[101,102,102,101,99,116]⟩:ByteArray)
 ·subst h2;have hr:zar (⟨#[101,102,102,101,99,116]⟩:ByteArray)=true:=by kernel_rfl
  rw[hr];go_enter Tryz.func230,Tryz.ntmps230;go_wp2;go_ret;exact⟨rfl,Below.refl _ _⟩
 by_cases h3:s=(⟨#[102,117,110]⟩:ByteArray)
 ·subst h3;have hr:zar (⟨#[102,117,110]⟩:ByteArray)=true:=by kernel_rfl
  rw[hr];go_enter Tryz.func230,Tryz.ntmps230;go_wp2;go_ret;exact⟨rfl,Below.refl _ _⟩
 by_cases h4:s=(⟨#[97,99,116,111,114]⟩:ByteArray)
 ·subst h4;have hr:zar (⟨#[97,99,116,111,114]⟩:ByteArray)=true:=by kernel_rfl
  rw[hr];go_enter Tryz.func230,Tryz.ntmps230;go_wp2;go_ret;exact⟨rfl,Below.refl _ _⟩
 by_cases h5:s=(⟨#[114,101,115,116,97,114,116]⟩:ByteArray)
 ·subst h5;have hr:zar (⟨#[114,101,115,116,97,114,116]⟩:ByteArray)=true:=by kernel_rfl
  rw[hr];go_enter Tryz.func230,Tryz.ntmps230;go_wp2;go_ret;exact⟨rfl,Below.refl _ _⟩
 by_cases h6:s=(⟨#[101,115,99,97,108,97,116,101]⟩:ByteArray)
 ·subst h6;have hr:zar (⟨#[101,115,99,97,108,97,116,101]⟩:ByteArray)=true:=by kernel_rfl
  rw[hr];go_enter Tryz.func230,Tryz.ntmps230;go_wp2;go_ret;exact⟨rfl,Below.refl _ _⟩
 by_cases h7:s=(⟨#[115,116,97,116,101]⟩:ByteArray)
 ·subst h7;have hr:zar (⟨#[115,116,97,116,101]⟩:ByteArray)=true:=by kernel_rfl
  rw[hr];go_enter Tryz.func230,Tryz.ntmps230;go_wp2;go_ret;exact⟨rfl,Below.refl _ _⟩
 by_cases h8:s=(⟨#[111,110]⟩:ByteArray)
 ·subst h8;have hr:zar (⟨#[111,110]⟩:ByteArray)=true:=by kernel_rfl
  rw[hr];go_enter Tryz.func230,Tryz.ntmps230;go_wp2;go_ret;exact⟨rfl,Below.refl _ _⟩
 by_cases h9:s=(⟨#[108,101,116]⟩:ByteArray)
 ·subst h9;have hr:zar (⟨#[108,101,116]⟩:ByteArray)=true:=by kernel_rfl
  rw[hr];go_enter Tryz.func230,Tryz.ntmps230;go_wp2;go_ret;exact⟨rfl,Below.refl _ _⟩
 by_cases h10:s=(⟨#[105,110]⟩:ByteArray)
 ·subst h10;have hr:zar (⟨#[105,110]⟩:ByteArray)=true:=by kernel_rfl
  rw[hr];go_enter Tryz.func230,Tryz.ntmps230;go_wp2;go_ret;exact⟨rfl,Below.refl _ _⟩
 by_cases h11:s=(⟨#[105,102]⟩:ByteArray)
 ·subst h11;have hr:zar (⟨#[105,102]⟩:ByteArray)=true:=by kernel_rfl
  rw[hr];go_enter Tryz.func230,Tryz.ntmps230;go_wp2;go_ret;exact⟨rfl,Below.refl _ _⟩
 by_cases h12:s=(⟨#[116,104,101,110]⟩:ByteArray)
 ·subst h12;have hr:zar (⟨#[116,104,101,110]⟩:ByteArray)=true:=by kernel_rfl
  rw[hr];go_enter Tryz.func230,Tryz.ntmps230;go_wp2;go_ret;exact⟨rfl,Below.refl _ _⟩
 by_cases h13:s=(⟨#[101,108,115,101]⟩:ByteArray)
 ·subst h13;have hr:zar (⟨#[101,108,115,101]⟩:ByteArray)=true:=by kernel_rfl
  rw[hr];go_enter Tryz.func230,Tryz.ntmps230;go_wp2;go_ret;exact⟨rfl,Below.refl _ _⟩
 by_cases h14:s=(⟨#[109,97,116,99,104]⟩:ByteArray)
 ·subst h14;have hr:zar (⟨#[109,97,116,99,104]⟩:ByteArray)=true:=by kernel_rfl
  rw[hr];go_enter Tryz.func230,Tryz.ntmps230;go_wp2;go_ret;exact⟨rfl,Below.refl _ _⟩
 by_cases h15:s=(⟨#[119,105,116,104]⟩:ByteArray)
 ·subst h15;have hr:zar (⟨#[119,105,116,104]⟩:ByteArray)=true:=by kernel_rfl
  rw[hr];go_enter Tryz.func230,Tryz.ntmps230;go_wp2;go_ret;exact⟨rfl,Below.refl _ _⟩
 by_cases h16:s=(⟨#[97,110,100]⟩:ByteArray)
 ·subst h16;have hr:zar (⟨#[97,110,100]⟩:ByteArray)=true:=by kernel_rfl
  rw[hr];go_enter Tryz.func230,Tryz.ntmps230;go_wp2;go_ret;exact⟨rfl,Below.refl _ _⟩
 by_cases h17:s=(⟨#[111,114]⟩:ByteArray)
 ·subst h17;have hr:zar (⟨#[111,114]⟩:ByteArray)=true:=by kernel_rfl
  rw[hr];go_enter Tryz.func230,Tryz.ntmps230;go_wp2;go_ret;exact⟨rfl,Below.refl _ _⟩
 by_cases h18:s=(⟨#[110,111,116]⟩:ByteArray)
 ·subst h18;have hr:zar (⟨#[110,111,116]⟩:ByteArray)=true:=by kernel_rfl
  rw[hr];go_enter Tryz.func230,Tryz.ntmps230;go_wp2;go_ret;exact⟨rfl,Below.refl _ _⟩
 by_cases h19:s=(⟨#[116,114,117,101]⟩:ByteArray)
 ·subst h19;have hr:zar (⟨#[116,114,117,101]⟩:ByteArray)=true:=by kernel_rfl
  rw[hr];go_enter Tryz.func230,Tryz.ntmps230;go_wp2;go_ret;exact⟨rfl,Below.refl _ _⟩
 by_cases h20:s=(⟨#[102,97,108,115,101]⟩:ByteArray)
 ·subst h20;have hr:zar (⟨#[102,97,108,115,101]⟩:ByteArray)=true:=by kernel_rfl
  rw[hr];go_enter Tryz.func230,Tryz.ntmps230;go_wp2;go_ret;exact⟨rfl,Below.refl _ _⟩
 by_cases h21:s=(⟨#[115,101,108,102]⟩:ByteArray)
 ·subst h21;have hr:zar (⟨#[115,101,108,102]⟩:ByteArray)=true:=by kernel_rfl
  rw[hr];go_enter Tryz.func230,Tryz.ntmps230;go_wp2;go_ret;exact⟨rfl,Below.refl _ _⟩
 by_cases h22:s=(⟨#[102,111,114]⟩:ByteArray)
 ·subst h22;have hr:zar (⟨#[102,111,114]⟩:ByteArray)=true:=by kernel_rfl
  rw[hr];go_enter Tryz.func230,Tryz.ntmps230;go_wp2;go_ret;exact⟨rfl,Below.refl _ _⟩
 by_cases h23:s=(⟨#[115,101,110,100]⟩:ByteArray)
 ·subst h23;have hr:zar (⟨#[115,101,110,100]⟩:ByteArray)=true:=by kernel_rfl
  rw[hr];go_enter Tryz.func230,Tryz.ntmps230;go_wp2;go_ret;exact⟨rfl,Below.refl _ _⟩
 by_cases h24:s=(⟨#[97,102,116,101,114]⟩:ByteArray)
 ·subst h24;have hr:zar (⟨#[97,102,116,101,114]⟩:ByteArray)=true:=by kernel_rfl
  rw[hr];go_enter Tryz.func230,Tryz.ntmps230;go_wp2;go_ret;exact⟨rfl,Below.refl _ _⟩
 by_cases h25:s=(⟨#[115,112,97,119,110]⟩:ByteArray)
 ·subst h25;have hr:zar (⟨#[115,112,97,119,110]⟩:ByteArray)=true:=by kernel_rfl
  rw[hr];go_enter Tryz.func230,Tryz.ntmps230;go_wp2;go_ret;exact⟨rfl,Below.refl _ _⟩
 by_cases h26:s=(⟨#[100,111]⟩:ByteArray)
 ·subst h26;have hr:zar (⟨#[100,111]⟩:ByteArray)=true:=by kernel_rfl
  rw[hr];go_enter Tryz.func230,Tryz.ntmps230;go_wp2;go_ret;exact⟨rfl,Below.refl _ _⟩
 by_cases h27:s=(⟨#[115,116,111,112]⟩:ByteArray)
 ·subst h27;have hr:zar (⟨#[115,116,111,112]⟩:ByteArray)=true:=by kernel_rfl
  rw[hr];go_enter Tryz.func230,Tryz.ntmps230;go_wp2;go_ret;exact⟨rfl,Below.refl _ _⟩
 by_cases h28:s=(⟨#[102,97,105,108]⟩:ByteArray)
 ·subst h28;have hr:zar (⟨#[102,97,105,108]⟩:ByteArray)=true:=by kernel_rfl
  rw[hr];go_enter Tryz.func230,Tryz.ntmps230;go_wp2;go_ret;exact⟨rfl,Below.refl _ _⟩
 by_cases h29:s=(⟨#[114,101,102]⟩:ByteArray)
 ·subst h29;have hr:zar (⟨#[114,101,102]⟩:ByteArray)=true:=by kernel_rfl
  rw[hr];go_enter Tryz.func230,Tryz.ntmps230;go_wp2;go_ret;exact⟨rfl,Below.refl _ _⟩
 by_cases h30:s=(⟨#[105,110,116]⟩:ByteArray)
 ·subst h30;have hr:zar (⟨#[105,110,116]⟩:ByteArray)=true:=by kernel_rfl
  rw[hr];go_enter Tryz.func230,Tryz.ntmps230;go_wp2;go_ret;exact⟨rfl,Below.refl _ _⟩
 by_cases h31:s=(⟨#[98,111,111,108]⟩:ByteArray)
 ·subst h31;have hr:zar (⟨#[98,111,111,108]⟩:ByteArray)=true:=by kernel_rfl
  rw[hr];go_enter Tryz.func230,Tryz.ntmps230;go_wp2;go_ret;exact⟨rfl,Below.refl _ _⟩
 by_cases h32:s=(⟨#[116,101,120,116]⟩:ByteArray)
 ·subst h32;have hr:zar (⟨#[116,101,120,116]⟩:ByteArray)=true:=by kernel_rfl
  rw[hr];go_enter Tryz.func230,Tryz.ntmps230;go_wp2;go_ret;exact⟨rfl,Below.refl _ _⟩
 by_cases h33:s=(⟨#[117,110,105,116]⟩:ByteArray)
 ·subst h33;have hr:zar (⟨#[117,110,105,116]⟩:ByteArray)=true:=by kernel_rfl
  rw[hr];go_enter Tryz.func230,Tryz.ntmps230;go_wp2;go_ret;exact⟨rfl,Below.refl _ _⟩
 have hr:zar s=false:=by
  unfold zar zkv;simp only[List.any_cons,List.any_nil,Bool.or_false,Bool.or_eq_false_iff,decide_eq_false_iff_not];exact⟨λe=>h0 e.symm,λe=>h1 e.symm,λe=>h2 e.symm,λe=>h3 e.symm,λe=>h4 e.symm,λe=>h5 e.symm,λe=>h6 e.symm,λe=>h7 e.symm,λe=>h8 e.symm,λe=>h9 e.symm,λe=>h10 e.symm,λe=>h11 e.symm,λe=>h12 e.symm,λe=>h13 e.symm,λe=>h14 e.symm,λe=>h15 e.symm,λe=>h16 e.symm,λe=>h17 e.symm,λe=>h18 e.symm,λe=>h19 e.symm,λe=>h20 e.symm,λe=>h21 e.symm,λe=>h22 e.symm,λe=>h23 e.symm,λe=>h24 e.symm,λe=>h25 e.symm,λe=>h26 e.symm,λe=>h27 e.symm,λe=>h28 e.symm,λe=>h29 e.symm,λe=>h30 e.symm,λe=>h31 e.symm,λe=>h32 e.symm,λe=>h33 e.symm⟩
 have e0:(s.toList == [114,101,99,111,114,100])=false:=zam h0;have e1:(s.toList == [118,97,114,105,97,110,116])=false:=zam h1;have e2:(s.toList == [101,102,102,101,99,116])=false:=zam h2;have e3:(s.toList == [102,117,110])=false:=zam h3;have e4:(s.toList == [97,99,116,111,114])=false:=zam h4;have e5:(s.toList == [114,101,115,116,97,114,116])=false:=zam h5;have e6:(s.toList == [101,115,99,97,108,97,116,101])=false:=zam h6;have e7:(s.toList == [115,116,97,116,101])=false:=zam h7;have e8:(s.toList == [111,110])=false:=zam h8;have e9:(s.toList == [108,101,116])=false:=zam h9;have e10:(s.toList == [105,110])=false:=zam h10;have e11:(s.toList == [105,102])=false:=zam h11;have e12:(s.toList == [116,104,101,110])=false:=zam h12;have e13:(s.toList == [101,108,115,101])=false:=zam h13;have e14:(s.toList == [109,97,116,99,104])=false:=zam h14;have e15:(s.toList == [119,105,116,104])=false:=zam h15;have e16:(s.toList == [97,110,100])=false:=zam h16;have e17:(s.toList == [111,114])=false:=zam h17;have e18:(s.toList == [110,111,116])=false:=zam h18;have e19:(s.toList == [116,114,117,101])=false:=zam h19;have e20:(s.toList == [102,97,108,115,101])=false:=zam h20;have e21:(s.toList == [115,101,108,102])=false:=zam h21;have e22:(s.toList == [102,111,114])=false:=zam h22;have e23:(s.toList == [115,101,110,100])=false:=zam h23;have e24:(s.toList == [97,102,116,101,114])=false:=zam h24;have e25:(s.toList == [115,112,97,119,110])=false:=zam h25;have e26:(s.toList == [100,111])=false:=zam h26;have e27:(s.toList == [115,116,111,112])=false:=zam h27;have e28:(s.toList == [102,97,105,108])=false:=zam h28;have e29:(s.toList == [114,101,102])=false:=zam h29;have e30:(s.toList == [105,110,116])=false:=zam h30;have e31:(s.toList == [98,111,111,108])=false:=zam h31;have e32:(s.toList == [116,101,120,116])=false:=zam h32;have e33:(s.toList == [117,110,105,116])=false:=zam h33;rw[hr];clear hr h0 h1 h2 h3 h4 h5 h6 h7 h8 h9 h10 h11 h12 h13 h14 h15 h16 h17 h18 h19 h20 h21 h22 h23 h24 h25 h26 h27 h28 h29 h30 h31 h32 h33;go_enter Tryz.func230,Tryz.ntmps230;go_wp2;go_ret;exact⟨rfl,Below.refl _ _⟩
theorem zph (lo hi:UInt8) (s:ByteArray) (w:World) (hs:s.size<=32768):Calls Tryz.prog 228 #[.string s,.int .u8 (lo.toNat:Int),.int .u8 (hi.toNat:Int)] w λe w'=>e=.returned (.bool (isW lo hi s))/\Below w.heap.size w w':=by
 rw[<-zgk];exact(zod _ _ s w (by omega)).mono λe w' ⟨h1,h2⟩=>⟨h1,by subst h2;exact Below.refl _ _⟩
theorem zek (s:ByteArray) (w:World) (hs:s.size<=32768):Calls Tryz.prog 171 #[.string s] w λe w'=>e=.returned (.bool (zaw s))/\Below w.heap.size w w':=by
 have HK:=zz (show Calls Tryz.prog 228 #[.string s,.int .u8 65,.int .u8 90] w _ from zph 65 90 s w hs);unfold zaw;generalize isW 65 90 s=g at *
 go_enter Tryz.func171,Tryz.ntmps171;go_wp2_with fail;(with_reducible refine HK.out.mono ?_);rintro e w1 ⟨rfl,hb⟩;have HB:=zz hb;clear hb;go_wp2;go_ret;exact⟨rfl,HB.out⟩
theorem zcN (s:ByteArray) (w:World) (hs:s.size<=32768):Calls Tryz.prog 175 #[.string s] w λe w'=>e=.returned (.bool (zaH s))/\Below w.heap.size w w':=by
 have HK:=zz (show Calls Tryz.prog 228 #[.string s,.int .u8 97,.int .u8 122] w _ from zph 97 122 s w hs);have HR:=zz (λW=>ziG s W);unfold zaH;generalize isW 97 122 s=g at *
 generalize zar s=r at *
 cases g with
 |false=>
  go_enter Tryz.func175,Tryz.ntmps175;go_wp2_with fail;(with_reducible refine HK.out.mono ?_);rintro e w1 ⟨rfl,hb⟩;have HB:=zz hb;clear hb;go_wp2;go_ret;exact⟨rfl,HB.out⟩
 |true=>
  go_enter Tryz.func175,Tryz.ntmps175;go_wp2_with fail;(with_reducible refine HK.out.mono ?_);rintro e w1 ⟨rfl,hb⟩;have HB:=zz hb;clear hb;go_wp2_with fail;(with_reducible refine(HR.out _).mono ?_);rintro e w2 ⟨rfl,hb⟩;have HB2:=zz (HB.out.trans (hb.mono HB.out.size));clear hb;go_wp2;go_ret;exact⟨by cases r<;>rfl,HB2.out⟩
theorem zmr (s:ByteArray) (w:World):Calls Tryz.prog 248 #[.string s] w λe w'=>e=.returned (.bool (zfE s))/\Below w.heap.size w w':=by
 by_cases h0:s=(⟨#[105,110,116]⟩:ByteArray)
 ·subst h0;have hr:zfE (⟨#[105,110,116]⟩:ByteArray)=true:=by kernel_rfl
  rw[hr];go_enter Tryz.func248,Tryz.ntmps248;go_wp2;go_ret;exact⟨rfl,Below.refl _ _⟩
 by_cases h1:s=(⟨#[98,111,111,108]⟩:ByteArray)
 ·subst h1;have hr:zfE (⟨#[98,111,111,108]⟩:ByteArray)=true:=by kernel_rfl
  rw[hr];go_enter Tryz.func248,Tryz.ntmps248;go_wp2;go_ret;exact⟨rfl,Below.refl _ _⟩
 by_cases h2:s=(⟨#[116,101,120,116]⟩:ByteArray)
 ·subst h2;have hr:zfE (⟨#[116,101,120,116]⟩:ByteArray)=true:=by kernel_rfl
  rw[hr];go_enter Tryz.func248,Tryz.ntmps248;go_wp2;go_ret;exact⟨rfl,Below.refl _ _⟩
 by_cases h3:s=(⟨#[117,110,105,116]⟩:ByteArray)
 ·subst h3;have hr:zfE (⟨#[117,110,105,116]⟩:ByteArray)=true:=by kernel_rfl
  rw[hr];go_enter Tryz.func248,Tryz.ntmps248;go_wp2;go_ret;exact⟨rfl,Below.refl _ _⟩
 have hr:zfE s=false:=by
  unfold zfE;simp[h0,h1,h2,h3]
 have e0:(s.toList == [105,110,116])=false:=zam h0;have e1:(s.toList == [98,111,111,108])=false:=zam h1;have e2:(s.toList == [116,101,120,116])=false:=zam h2;have e3:(s.toList == [117,110,105,116])=false:=zam h3;rw[hr];clear hr h0 h1 h2 h3;go_enter Tryz.func248,Tryz.ntmps248;go_wp2;go_ret;exact⟨rfl,Below.refl _ _⟩
theorem zfJ (s:ByteArray) (w:World) (hs:s.size<=32768):Calls Tryz.prog 260 #[.string s] w λe w'=>e=.returned (.bool (zdl s))/\Below w.heap.size w w':=by
 have HK:=zz (λW=>zcN s W hs);unfold zdl;generalize zaH s=g at *
 by_cases h0:s=(⟨#[95]⟩:ByteArray)
 ·have e0:(s.toList == [95])=true:=zdY h0;rw[decide_eq_true h0];clear h0;go_enter Tryz.func260,Tryz.ntmps260;go_wp2;go_ret;exact⟨rfl,Below.refl _ _⟩
 ·have e0:(s.toList == [95])=false:=zam h0;rw[decide_eq_false h0];clear h0;go_enter Tryz.func260,Tryz.ntmps260;go_wp2_with fail;(with_reducible refine(HK.out _).mono ?_);rintro e w1 ⟨rfl,hb⟩;have HB:=zz hb;clear hb;go_wp2;go_ret;exact⟨by cases g<;>rfl,HB.out⟩
theorem zga (s:ByteArray) (w:World) (hs:s.size<=32768):Calls Tryz.prog 259 #[.string s] w λe w'=>e=.returned (.bool (zdi s))/\Below w.heap.size w w':=by
 have HK:=zz (λW=>zek s W hs);unfold zdi;generalize zaw s=g at *
 by_cases h0:s=(⟨#[95]⟩:ByteArray)
 ·have e0:(s.toList == [95])=true:=zdY h0;rw[decide_eq_true h0];clear h0;go_enter Tryz.func259,Tryz.ntmps259;go_wp2;go_ret;exact⟨rfl,Below.refl _ _⟩
 ·have e0:(s.toList == [95])=false:=zam h0;rw[decide_eq_false h0];clear h0;go_enter Tryz.func259,Tryz.ntmps259;go_wp2_with fail;(with_reducible refine(HK.out _).mono ?_);rintro e w1 ⟨rfl,hb⟩;have HB:=zz hb;clear hb;go_wp2;go_ret;exact⟨by cases g<;>rfl,HB.out⟩
theorem zfz (s:ByteArray) (w:World) (hs:s.size<=32768):Calls Tryz.prog 231 #[.string s] w λe w'=>e=.returned (.bool (zdr s))/\Below w.heap.size w w':=by
 have HK:=zz (λW=>zek s W hs);have HB0:=zz (zmr s w);unfold zdr;generalize zaw s=g at *
 generalize zfE s=r at *
 cases r with
 |true=>
  go_enter Tryz.func231,Tryz.ntmps231;go_wp2_with fail;(with_reducible refine HB0.out.mono ?_);rintro e w1 ⟨rfl,hb⟩;have HB:=zz hb;clear hb;go_wp2;go_ret;exact⟨rfl,HB.out⟩
 |false=>
  go_enter Tryz.func231,Tryz.ntmps231;go_wp2_with fail;(with_reducible refine HB0.out.mono ?_);rintro e w1 ⟨rfl,hb⟩;have HB:=zz hb;clear hb;go_wp2_with fail;(with_reducible refine(HK.out _).mono ?_);rintro e w2 ⟨rfl,hb⟩;have HB2:=zz (HB.out.trans (hb.mono HB.out.size));clear hb;go_wp2;go_ret;exact⟨by cases g<;>rfl,HB2.out⟩
end Go.Proofs.YtcebmphappfjjaaGreatDoor
