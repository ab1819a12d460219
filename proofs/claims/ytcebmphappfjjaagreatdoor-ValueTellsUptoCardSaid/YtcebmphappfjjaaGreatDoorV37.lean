/- Conditions: those in each statement. -/
import Derived.Test.YtcebmphappfjjaaGreatDoorV35
import Derived.Test.YtcebmphappfjjaaGreatDoorV09
import Derived.Test.YtcebmphappfjjaaGreatDoorV01
import Derived.Shelf.Strings.BuilderK
import Derived.Shelf.LaysM
import Derived.Shelf.Strconv.Itoa3
import Derived.Test.YtcebmphappfjjaaGreatDoorProg
import Derived.Test.YtcebmphappfjjaaGreatDoorV33
import Derived.Test.YtcebmphappfjjaaGreatDoorV31
import Derived.Lib.AppendIntMem
set_option maxHeartbeats 32000000
set_option maxRecDepth 100000
namespace Go.Proofs.YtcebmphappfjjaaGreatDoor
theorem zeg:∀(p s r:List UInt8),pre p s=some r->r.length<=s.length
 |[],s,r,h=>by rw[pre] at h;cases h;exact Nat.le_refl _
 |a::p,[],r,h=>by cases h
 |a::p,c::s,r,h=>by
  rw[pre] at h
  split at h
  ·have:=zeg p s r h;rw[List.length_cons];omega
  ·cases h
theorem zsh (p:UInt8->Bool) (s:List UInt8):(s.takeWhile p).length+(s.dropWhile p).length=s.length:=by
 rw[<-List.length_append,List.takeWhile_append_dropWhile]
theorem zjP:∀(n:Nat) (s l r:List UInt8),s.length<=n->zbO s=some (l,r)->l.length+r.length<=s.length
 |_,[],l,r,_,h=>by rw[zbO] at h;cases h
 |_,[c],l,r,_,h=>by
  rw[zbO] at h
  split at h
  ·cases h;simp
  ·cases h
 |0,c::d::t,l,r,hn,h=>by simp at hn
 |n+1,c::d::t,l,r,hn,h=>by
  simp only[List.length_cons] at hn ⊢;rw[zbO] at h
  split at h
  ·cases h;simp
  ·split at h
   ·obtain⟨⟨p1,p2⟩,h4,h5⟩:=Option.map_eq_some_iff.1 h;cases h5;have:=zjP n t _ _ zo h4;simp only[List.length_cons];omega
   ·obtain⟨⟨p1,p2⟩,h4,h5⟩:=Option.map_eq_some_iff.1 h;cases h5;have:=zjP n (d::t) _ _ (by simp;omega) h4;simp only[List.length_cons] at this ⊢;omega
theorem zsA {s r:List UInt8} {n:Int} (h:intL s=some (n,r)):r.length<=s.length:=by
 unfold intL at h
 by_cases hm:s.head?=some 45
 ·simp only[if_pos hm] at h
  split at h
  ·cases h;have:=zsh digB s.tail;have:=List.length_tail (l:=s);omega
  ·cases h
 ·simp only[if_neg hm] at h
  split at h
  ·cases h;have:=zsh digB s;omega
  ·cases h
theorem zib (l:List UInt8):(lb l).size=l.length:=by simp[ByteArray.size]
theorem zlx:∀f:Nat,(∀q s v q2 r,valL intL f q s=some (v,q2,r)->v.bulk+7*q2+r.length<=7*q+s.length)/\(∀e q s l q2 r,zdf intL f e q s=some (l,q2,r)->zcl l+7*q2+r.length<=7*q+s.length)/\(∀e q s l q2 r,zcd intL f e q s=some (l,q2,r)->zcl l+7*q2+r.length<=7*q+s.length)
 |0=>⟨λq s v q2 r h=>(by simp[valL] at h),λe q s l q2 r h=>(by simp[zdf] at h),λe q s l q2 r h=>(by simp[zcd] at h)⟩
 |f+1=>by
  obtain⟨h1,h2,h3⟩:=zlx f;have hz:(⟨#[]⟩:ByteArray).size=0:=rfl;refine⟨λq s v q2 r h=>?_,λe q s l q2 r h=>?_,λe q s l q2 r h=>?_⟩
  ·cases q with
   |zero=>rw[valL] at h;cases h
   |succ q=>
    rw[valL] at h;have hn:=zsh nmB s
    split at h
    ·rename_i r1 e1;have:=zeg _ _ _ e1;cases h;rw[zbv,zcl,hz];omega
    split at h
    ·rename_i r1 e1;have:=zeg _ _ _ e1;cases h;rw[zbv,zcl,hz];omega
    split at h
    ·rename_i r1 e1;have:=zeg _ _ _ e1;cases h;rw[zbv,zcl,hz];omega
    split at h
    ·rename_i r1 e1;have:=zeg _ _ _ e1;obtain⟨⟨p1,p2⟩,h4,h5⟩:=Option.map_eq_some_iff.1 h;cases h5;dsimp only;have:=zjP _ _ _ _ (Nat.le_refl _) h4;rw[zbv,zcl,hz,zib];omega
    split at h
    ·rename_i r1 e1;have:=zeg _ _ _ e1;obtain⟨⟨p1,p2,p3⟩,h4,h5⟩:=Option.map_eq_some_iff.1 h;cases h5;dsimp only;have:=h2 _ _ _ _ _ _ h4;rw[zbv,hz];omega
    split at h
    ·split at h
     ·rename_i r1 e1;have:=zeg _ _ _ e1;obtain⟨⟨p1,p2,p3⟩,h4,h5⟩:=Option.map_eq_some_iff.1 h;cases h5;dsimp only;have:=h2 _ _ _ _ _ _ h4;rw[zbv,hz,zib];omega
     split at h
     ·rename_i r1 e1;have:=zeg _ _ _ e1
      split at h
      ·rename_i p e2;obtain⟨n,r2⟩:=p;have:=zsA e2;simp only at h
       split at h
       ·rename_i r3 e3;have:=zeg _ _ _ e3;obtain⟨⟨p1,p2,p3⟩,h4,h5⟩:=Option.map_eq_some_iff.1 h;cases h5;dsimp only;have:=h2 _ _ _ _ _ _ h4;rw[zbv,hz,zib];omega
       ·cases h
      ·cases h
     split at h
     ·rename_i r1 e1;have:=zeg _ _ _ e1;have:=zsh ptB r1;cases h;rw[zbv,zcl,zib,zib];omega
     ·cases h
    ·obtain⟨⟨p1,p2⟩,h4,h5⟩:=Option.map_eq_some_iff.1 h;cases h5;dsimp only;have:=zsA h4;rw[zbv,zcl,hz];omega
  ·rw[zdf] at h
   split at h
   ·rename_i r1 e1;have:=zeg _ _ _ e1;cases h;rw[zcl];omega
   ·exact h3 _ _ _ _ _ _ h
  ·rw[zcd] at h
   split at h
   ·cases h
   ·rename_i z hz2;obtain⟨v1,q1,r1⟩:=z;have:=h1 _ _ _ _ _ hz2;simp only at h
    split at h
    ·rename_i r2 e1;have:=zeg _ _ _ e1;cases h;rw[zbK,zcl];omega
    ·split at h
     ·rename_i r2 e1;have:=zeg _ _ _ e1;obtain⟨⟨p1,p2,p3⟩,h4,h5⟩:=Option.map_eq_some_iff.1 h;cases h5;dsimp only;have:=h3 _ _ _ _ _ _ h4;rw[zbK];omega
     ·cases h
theorem zqo {s:List UInt8} {v:V} {q:Nat} {r:List UInt8} (h:zmt s=some (v,q,r)):v.bulk<=114688+s.length:=by
 have:=(zlx 100000).1 _ _ _ _ _ h;omega
end Go.Proofs.YtcebmphappfjjaaGreatDoor
set_option maxHeartbeats 32000000
set_option maxRecDepth 100000
namespace Go.Proofs.YtcebmphappfjjaaGreatDoor
open Go.RowKit Go.Shelf
def zmY:Go.Shelf.Ren:=⟨fun|166=>104|240=>156|276=>203|n=>n,
 fun|0=>0|3=>3|4=>4|5=>5|9=>9|20=>20|37=>99|70=>98|72=>101|75=>135|80=>78|164=>222|n=>n,fun|n=>n⟩
theorem layB:Go.Proofs.Lays.n166 Tryz.prog zmY:={
 mixed:=by kernel_rfl
 f166:=Tryz.func104.trans (congrArg some zk)
 f240:=Tryz.func156.trans (congrArg some zk)
 f276:=Tryz.func203.trans (congrArg some zk)
 t0:=Tryz.underlying0
 a0:=Tryz.isAgg0
 z0:=Tryz.sizeOf0
 v0:=Tryz.zeroValue0
 t3:=Tryz.underlying3
 a3:=Tryz.isAgg3
 z3:=Tryz.sizeOf3
 v3:=Tryz.zeroValue3
 t4:=Tryz.underlying4
 a4:=Tryz.isAgg4
 z4:=Tryz.sizeOf4
 v4:=Tryz.zeroValue4
 t9:=Tryz.underlying9
 a9:=Tryz.isAgg9
 z9:=Tryz.sizeOf9
 v9:=Tryz.zeroValue9
 t20:=Tryz.underlying20
 a20:=Tryz.isAgg20
 z20:=Tryz.sizeOf20
 v20:=Tryz.zeroValue20
 t37:=Tryz.underlying99
 a37:=Tryz.isAgg99
 z37:=Tryz.sizeOf99
 v37:=Tryz.zeroValue99
 t70:=Tryz.underlying98
 a70:=Tryz.isAgg98
 z70:=Tryz.sizeOf98
 v70:=Tryz.zeroValue98
 t72:=Tryz.underlying101
 a72:=Tryz.isAgg101
 z72:=Tryz.sizeOf101
 v72:=Tryz.zeroValue101
 t75:=Tryz.underlying135
 a75:=Tryz.isAgg135
 z75:=Tryz.sizeOf135
 v75:=Tryz.zeroValue135
 t164:=Tryz.underlying222
 a164:=Tryz.isAgg222
 z164:=Tryz.sizeOf222
 v164:=Tryz.zeroValue222}
theorem znL:Builder.Extra Tryz.prog zmY:={
 sizeBuilder:=by kernel_rfl
 liesBuilder:=by kernel_rfl
 t5:=Tryz.underlying5
 a5:=Tryz.isAgg5
 z5:=Tryz.sizeOf5
 v5:=Tryz.zeroValue5
 infoByte:=by kernel_rfl
 cellsByte:=by kernel_rfl
 sizeByte:=by kernel_rfl
 neB5:=by decide}
theorem ziC {T e:TypeId} {B b:Nat} {bs:List Value} {w w':World} (h:Lib.IsBuilderF T e B b bs w) (hb:Below w.heap.size w w'):Lib.IsBuilderF T e B b bs w':=by
 have key:∀p,Lib.BuilderAtF T e B b p bs w->Lib.BuilderAtF T e B b p bs w':=λp h=>by
  obtain⟨h1,v,h2,h3,h4⟩:=h;exact⟨h1,v,(hb.block b (Array.getElem?_eq_some_iff.1 h2).1).trans h2,h3.kept (row:=none) ⟨hb.os,hb.tape,hb.output,hb.size,λk hk _=>hb.block k hk⟩ (by cases v.ownBlock<;>simp),h4⟩
 exact h.elim (λh=>.inl (key _ h)) (λh=>.inr (key _ h))
structure BldE (B b:Nat) (w0 w:World) (bs:List UInt8):Prop where
 at_:Lib.IsBuilderF 101 5 B b (Lib.byteCells bs) w
 low:Below B w0 w
 oth:Lib.OthersKept 5 (some b) w0 w
 le:B<=w.heap.size
theorem zlE {e:TypeId} {b:Option Nat} {w w':World} (hb:Below w.heap.size w w'):Lib.OthersKept e b w w':=λk _ h _ _=>(hb.block k (Array.getElem?_eq_some_iff.1 h).1).trans h
section
variable {B b:Nat} {w0 w w':World} {bs:List UInt8}
theorem BldE.below (h:BldE B b w0 w bs) (hb:Below w.heap.size w w'):BldE B b w0 w' bs:=
 ⟨ziC h.at_ hb,h.low.trans (hb.mono h.le),h.oth.trans (zlE hb),Nat.le_trans h.le hb.size⟩
theorem BldE.alloc (h:BldE B b w0 w bs) (o:Obj):BldE B b w0 (w.alloc o) bs:=h.below ((Below.refl _ _).alloc (Nat.le_refl _) o)
theorem BldE.self (h:BldE B b w0 w bs):BldE B b w w bs:=⟨h.at_,Below.refl _ _,Lib.OthersKept.refl _ _ _,h.le⟩
theorem BldE.trans {w1:World} {cs:List UInt8} (h:BldE B b w0 w bs) (k:BldE B b w w1 cs):BldE B b w0 w1 cs:=⟨k.at_,h.low.trans k.low,h.oth.trans k.oth,k.le⟩
theorem BldE.cells {g:Nat} {cs:Array Value} {e:TypeId} (h:BldE B b w0 w bs) (hg:zab w0 g cs e) (hne:g≠b) (he:e≠5):zab w g cs e:=
 h.oth g _ hg (λh=>hne (Option.some.inj h)) (λc fz h=>by injection h with _ h _;exact he h)
end
theorem BldE.new (w:World):BldE w.heap.size w.heap.size w (w.alloc (.cells #[.pointer none,.slice none 0 0] 101)) []:=
 ⟨.inl ⟨Nat.le_refl _,.slice none 0 0,heap_alloc_new w _,World.ownsRowF_nil _ _ _ _,by simp[Value.ownBlock]⟩,(Below.refl _ _).alloc (Nat.le_refl _) _,(Lib.OthersKept.refl _ _ _).alloc _,by simp⟩
def zos (B b:Nat) (w0:World) (bs:List UInt8) (s:ByteArray) (e:Ending) (w':World):Prop:=e=.returned (.tuple #[.int .i64 s.size,.nilIface])/\BldE B b w0 w' (bs++s.data.toList)
theorem zbd {B b:Nat} {w0 w:World} {bs:List UInt8} (h:BldE B b w0 w bs) (s:ByteArray) (hl:bs.length+s.size<=140737488355328) :
 Calls Tryz.prog 104 #[.pointer (some ⟨b,0,none⟩),↑s] w (zos B b w0 bs s):=by
 refine(Any.Builder_WriteString_k layB znL B b (Lib.byteCells bs) s w h.at_ (by rw[Lib.byteCells_length];exact hl) h.le).mono ?_;rintro e w' ⟨rfl,h1,h2,h3⟩;refine⟨rfl,.inr ?_,h.low.trans h2,h.oth.trans h3,Nat.le_trans h.le h2.size⟩;rw[show Lib.byteCells (bs++s.data.toList)=Lib.byteCells bs++Lib.strCells s by simp[Lib.byteCells,Lib.strCells]];exact h1
theorem zmj {B b:Nat} {w0 w:World} {bs:List UInt8} (h:BldE B b w0 w bs) :
 Calls Tryz.prog 60 #[.pointer (some ⟨b,0,none⟩)] w λe w'=>e=.returned (.string ⟨bs.toArray⟩)/\Below B w0 w':=by
 refine(Any.Builder_String_any_k layS ziU B b bs w h.at_ h.le).mono ?_;rintro e w' ⟨rfl,_,h2,_⟩;exact⟨rfl,h.low.trans h2⟩
theorem zpP {B b:Nat} {w0 w:World} {bs:List UInt8} (h:BldE B b w0 w bs) (c:UInt8) (hl:bs.length+1<=140737488355328) :
 Calls Tryz.prog 108 #[.pointer (some ⟨b,0,none⟩),.int .u8 (c.toNat:Int)] w (λe w'=>e=.returned .nilIface/\BldE B b w0 w' (bs++[c])):=by
 refine(Any.Builder_WriteByte_k layW zjq B b (Lib.byteCells bs) (c.toNat:Int) w h.at_ (by rw[Lib.byteCells_length];exact hl) h.le).mono ?_;rintro e w' ⟨rfl,h1,h2,h3⟩;refine⟨rfl,.inr ?_,h.low.trans h2,h.oth.trans h3,Nat.le_trans h.le h2.size⟩;rw[show Lib.byteCells (bs++[c])=Lib.byteCells bs++[.int .u8 (c.toNat:Int)] by simp[Lib.byteCells]];exact h1
def zrM:Go.Shelf.Ren:=⟨fun|171=>157|243=>204|246=>243|283=>251|284=>252|285=>253|286=>254|129=>264|317=>263|318=>265|319=>266|320=>267|337=>276|338=>277|n=>n,fun|3=>3|9=>9|2=>2|4=>4|171=>245|0=>0|53=>246|37=>99|5=>5|173=>249|212=>252|51=>239|20=>20|213=>253|46=>194|232=>257|233=>258|n=>n,fun|17=>1|18=>2|19=>3|n=>n⟩
theorem layT:Go.Proofs.LaysM.n171 Tryz.prog zrM:={
 mixed:=by kernel_rfl
 f129:=Tryz.func264.trans (congrArg some zk)
 f171:=Tryz.func157.trans (congrArg some zk)
 f243:=Tryz.func204.trans (congrArg some zk)
 f246:=Tryz.func243.trans (congrArg some zk)
 f283:=Tryz.func251.trans (congrArg some zk)
 f284:=Tryz.func252.trans (congrArg some zk)
 f285:=Tryz.func253.trans (congrArg some zk)
 f286:=Tryz.func254.trans (congrArg some zk)
 f317:=Tryz.func263.trans (congrArg some zk)
 f318:=Tryz.func265.trans (congrArg some zk)
 f319:=Tryz.func266.trans (congrArg some zk)
 f320:=Tryz.func267.trans (congrArg some zk)
 f337:=Tryz.func276.trans (congrArg some zk)
 f338:=Tryz.func277.trans (congrArg some zk)
 t0:=Tryz.underlying0
 a0:=Tryz.isAgg0
 z0:=Tryz.sizeOf0
 v0:=Tryz.zeroValue0
 t2:=Tryz.underlying2
 a2:=Tryz.isAgg2
 z2:=Tryz.sizeOf2
 v2:=Tryz.zeroValue2
 t3:=Tryz.underlying3
 a3:=Tryz.isAgg3
 z3:=Tryz.sizeOf3
 v3:=Tryz.zeroValue3
 t4:=Tryz.underlying4
 a4:=Tryz.isAgg4
 z4:=Tryz.sizeOf4
 v4:=Tryz.zeroValue4
 t5:=Tryz.underlying5
 a5:=Tryz.isAgg5
 z5:=Tryz.sizeOf5
 v5:=Tryz.zeroValue5
 t9:=Tryz.underlying9
 a9:=Tryz.isAgg9
 z9:=Tryz.sizeOf9
 v9:=Tryz.zeroValue9
 t20:=Tryz.underlying20
 a20:=Tryz.isAgg20
 z20:=Tryz.sizeOf20
 v20:=Tryz.zeroValue20
 t37:=Tryz.underlying99
 a37:=Tryz.isAgg99
 z37:=Tryz.sizeOf99
 v37:=Tryz.zeroValue99
 t46:=Tryz.underlying194
 a46:=Tryz.isAgg194
 z46:=Tryz.sizeOf194
 v46:=Tryz.zeroValue194
 t51:=Tryz.underlying239
 a51:=Tryz.isAgg239
 z51:=Tryz.sizeOf239
 v51:=Tryz.zeroValue239
 t53:=Tryz.underlying246
 a53:=Tryz.isAgg246
 z53:=Tryz.sizeOf246
 v53:=Tryz.zeroValue246
 t171:=Tryz.underlying245
 a171:=Tryz.isAgg245
 z171:=Tryz.sizeOf245
 v171:=Tryz.zeroValue245
 t173:=Tryz.underlying249
 a173:=Tryz.isAgg249
 z173:=Tryz.sizeOf249
 v173:=Tryz.zeroValue249
 t212:=Tryz.underlying252
 a212:=Tryz.isAgg252
 z212:=Tryz.sizeOf252
 v212:=Tryz.zeroValue252
 t213:=Tryz.underlying253
 a213:=Tryz.isAgg253
 z213:=Tryz.sizeOf253
 t232:=Tryz.underlying257
 a232:=Tryz.isAgg257
 z232:=Tryz.sizeOf257
 v232:=Tryz.zeroValue257
 t233:=Tryz.underlying258
 a233:=Tryz.isAgg258
 z233:=Tryz.sizeOf258
 v233:=Tryz.zeroValue258
 g17:=by kernel_rfl
 g18:=by kernel_rfl
 g19:=by kernel_rfl
 i0:=by kernel_rfl
 i2:=by kernel_rfl
 i3:=by kernel_rfl
 i4:=by kernel_rfl
 i5:=by kernel_rfl
 i9:=by kernel_rfl
 i20:=by kernel_rfl
 i37:=by kernel_rfl
 i46:=by kernel_rfl
 i51:=by kernel_rfl
 i53:=by kernel_rfl
 i171:=by kernel_rfl
 i173:=by kernel_rfl
 i212:=by kernel_rfl
 i232:=by kernel_rfl
 i233:=by kernel_rfl
 m17:=by kernel_rfl
 m18:=by kernel_rfl
 m19:=by kernel_rfl}
theorem zrZ (n:Int) (h0:-9223372036854775808<=n) (h1:n<=9223372036854775807) (w:World) (htab:Lib.TabIs Tryz.prog w "internal/strconv.uint64pow10" .u64 Lib.pow10Tab) :
 Calls Tryz.prog 157 #[↑n] w λe w'=>e=.returned (.string ⟨(Lib.itoa n).toArray⟩)/\∃k os,w'=Sort.grow (w.drewN k) os:=Any.strconv_Itoa layT n h0 h1 w htab
end Go.Proofs.YtcebmphappfjjaaGreatDoor
set_option maxHeartbeats 32000000
set_option maxRecDepth 100000
namespace Go.Proofs.YtcebmphappfjjaaGreatDoor
open Go.RowKit
theorem zew {B b:Nat} {w0 w:World} {bs:List UInt8} (h:BldE B b w0 w bs) (c:UInt8) (n:Int) (hn:(c.toNat:Int)=n) (hl:bs.length+1<=140737488355328) :
 Calls Tryz.prog 108 #[.pointer (some ⟨b,0,none⟩),.int .u8 n] w (λe w'=>e=.returned .nilIface/\BldE B b w0 w' (bs++[c])):=hn▸zpP h c hl
def Tab (B:Nat) (w:World):Prop:=Lib.TabBelow Tryz.prog B w "internal/strconv.uint64pow10" .u64 Lib.pow10Tab
theorem Tab.on {B:Nat} {w w1:World} (h:Tab B w) (hb:Below B w w1):Tab B w1:=Lib.TabBelow.on h hb
theorem zkJ (n:Int) (h0:-9223372036854775808<=n) (h1:n<=9223372036854775807) (B:Nat) (w:World) (hT:Tab B w) :
 Calls Tryz.prog 105 #[↑n] w λe w'=>e=.returned (.string ⟨(Lib.itoa n).toArray⟩)/\Below w.heap.size w w':=by
 have K:=zz (zrZ n h0 h1 w (Lib.TabBelow.here hT));clear h0 h1 hT;go_in;go_wp2_with fail;refine zi K ?_;rintro e w1 ⟨rfl,k,os,rfl⟩
 have HB:Hid (Below w.heap.size w (Sort.grow (w.drewN k) os)):=zz ⟨rfl,rfl,rfl,by simp[Sort.grow],λj hj=>by
  show ((w.drewN k).heap++os)[j]?=_
  rw[Array.getElem?_append_left (by show j<w.heap.size;omega)]
  rfl⟩
 go_wp2;go_ret;exact⟨rfl,HB.out⟩
theorem zqy (l:List UInt8):(l.flatMap escL).length<=2*l.length:=by
 induction l with
 |nil=>simp
 |cons c r ih=>
  rw[List.flatMap_cons,List.length_append,List.length_cons];have:(escL c).length<=2:=by unfold escL;split<;>(try split)<;>(try split)<;>simp
  omega
theorem zpc {B b:Nat} {w0 w:World} {bs:List UInt8} (hE:BldE B b w0 w bs) (s:ByteArray) (hs:s.size<=2097152) (hlen:bs.length<=1099511627776) :
 Calls Tryz.prog 106 #[.pointer (some ⟨b,0,none⟩),↑s] w λe w'=>e=.returned (.tuple #[])/\BldE B b w w' (bs++34::zoS s.data.toList):=by
 obtain⟨R,hR⟩:=zn ((bs++[34])++(s.data.toList.flatMap escL++[34]));have HR:Hid (bs++34::zoS s.data.toList=R):=zz (by rw[<-hR];unfold zoS;simp)
 have hRl:R.length<=1100000000000:=by
  have:=zqy s.data.toList;have h2:=zai s;rw[<-hR];simp only[List.length_append,List.length_cons,List.length_nil];omega
 have HA0:Hid ((bs++[34])++((s.data.toList.drop 0).flatMap escL++[34])=R):=zz (by rw[List.drop_zero];exact hR);have KW:=zz (zew hE.self 34 34 rfl zo);clear hR hE;go_in;go_wp2_with fail;refine zi KW ?_;rintro e w2 ⟨rfl,hb⟩;have HB0:=zz hb;clear hb KW;go_wp2
 go_loopw [10] (λs10 wr=>∃(i:Nat) (cs:List UInt8),i<=s.size/\s10=↑i/\Hid (cs++((s.data.toList.drop i).flatMap escL++[34])=R)/\Hid (BldE B b w wr cs)) (λs10 _=>s.size-(intOf s10).toNat)
 case atStart=>exact⟨0,_,zo,rfl,HA0,HB0⟩
 case round=>
  clear HA0 HB0;obtain⟨i,cs,hi,rfl,HA,HB⟩:=hrel
  by_cases hlt:i<s.size
  ·obtain⟨c,hd,hbt⟩:=zed s i hlt;have hin:(i:Int)<s.size:=zo
   have hix:=zaP s i hlt;rw[hbt] at hix;have HX:=zz hix;have q:=HA.out;rw[hd,List.flatMap_cons,List.append_assoc,<-List.append_assoc] at q;have hl:=congrArg List.length q;rw[List.length_append,List.length_append] at hl;have HQ:=zz q;have hc0:=c.toNat_lt;obtain⟨x,hx⟩:∃x:Int,(c.toNat:Int)=x:=⟨_,rfl⟩;rw[hx] at hix;clear HA q hd hbt HX;unfold escL at HQ hl
   by_cases h1:x=10
   ·obtain rfl:c=10:=UInt8.toNat_inj.1 (by show c.toNat=10;omega);rw[if_pos rfl] at HQ hl;have KW:=zz (zbd HB.out ⟨#[92,110]⟩ (by simp at hl;show cs.length+2<=_;omega));clear hl hx hc0;go_wp2_with fail;refine zi KW ?_;rintro e w4 ⟨rfl,hb⟩;have HB2:=zz hb;clear hb;go_wp2;exact⟨⟨i+1,_,zo,by go_num,HQ,HB2⟩,by simp[intOf];omega⟩
   ·rw[if_neg (λe=>h1 (by rw[<-hx,e];rfl))] at HQ hl
    by_cases h2:x=9
    ·obtain rfl:c=9:=UInt8.toNat_inj.1 (by show c.toNat=9;omega);rw[if_pos rfl] at HQ hl;have KW:=zz (zbd HB.out ⟨#[92,116]⟩ (by simp at hl;show cs.length+2<=_;omega));clear hl hx hc0;go_wp2_with fail;refine zi KW ?_;rintro e w4 ⟨rfl,hb⟩;have HB2:=zz hb;clear hb;go_wp2;exact⟨⟨i+1,_,zo,by go_num,HQ,HB2⟩,by simp[intOf];omega⟩
    ·rw[if_neg (λe=>h2 (by rw[<-hx,e];rfl))] at HQ hl
     by_cases h3:x=34\/x=92
     ·rw[if_pos (h3.imp (λh=>UInt8.toNat_inj.1 (by show c.toNat=34;omega)) (λh=>UInt8.toNat_inj.1 (by show c.toNat=92;omega)))] at HQ hl;have hl2:cs.length+2<=140737488355328:=by simp at hl;omega
      have KW:=zz (zew HB.out 92 92 rfl zo);have KW2:=zz (λW (h:BldE B b w W (cs++[92]))=>zew h c x hx (by simp;omega));have HQ2:Hid (((cs++[92])++[c])++(List.flatMap (λc=>if c=10 then [92,110] else if c=9 then [92,116] else if c=34\/c=92 then [92,c] else [c]) (s.data.toList.drop (i+1))++[34])=R):=zz (by rw[<-HQ.out];simp);clear hl hx hc0 HQ;rcases h3 with rfl|rfl
      all_goals
       go_wp2_with fail;refine zi KW ?_;rintro e w4 ⟨rfl,hb⟩;have HB2:=zz (KW2.out _ hb);clear hb;go_wp2_with fail;refine zi HB2 ?_;rintro e w5 ⟨rfl,hb⟩;have HB3:=zz hb;clear hb;go_wp2;exact⟨⟨i+1,_,zo,by go_num,HQ2,HB3⟩,by simp[intOf];omega⟩
     ·rw[if_neg (λh=>h3 (h.imp (λe=>by rw[<-hx,e];rfl) (λe=>by rw[<-hx,e];rfl)))] at HQ hl;have KW:=zz (zew HB.out c x hx (by simp at hl;omega));rw[not_or] at h3;obtain⟨h3,h4⟩:=h3;clear hl hx hc0;go_wp2_with fail;refine zi KW ?_;rintro e w4 ⟨rfl,hb⟩;have HB2:=zz hb;clear hb;go_wp2;exact⟨⟨i+1,_,zo,by go_num,HQ,HB2⟩,by simp[intOf];omega⟩
  ·obtain rfl:i=s.size:=zo
   have q:=HA.out;rw[List.drop_eq_nil_of_le (by rw[zai];exact Nat.le_refl _),List.flatMap_nil,List.nil_append] at q;have hl:=congrArg List.length q;rw[List.length_append] at hl;have KW:=zz (zew HB.out 34 34 rfl (by simp at hl;omega));have HQ:=zz q;clear HA q hl;go_wp2_with fail;refine zi KW ?_;rintro e w4 ⟨rfl,hb⟩;rw[HQ.out] at hb;have HB2:=zz hb;clear hb;go_wp2
   first|go_end0|refine bodyPost_ret (results_none rfl _ _ _) rfl ?_
   exact⟨rfl,by rw[HR.out];exact HB2.out⟩
end Go.Proofs.YtcebmphappfjjaaGreatDoor
