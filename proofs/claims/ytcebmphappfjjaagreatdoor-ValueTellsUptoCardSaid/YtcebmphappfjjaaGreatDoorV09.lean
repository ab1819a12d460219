/- Conditions: those in each statement. -/
import Derived.Test.YtcebmphappfjjaaGreatDoorV07
import Derived.Test.YtcebmphappfjjaaGreatDoorV00
import Derived.Test.YtcebmphappfjjaaGreatDoorProg
import Derived.Shelf.Strings.Builder1
import Derived.Shelf.Strings.Builder2
set_option maxHeartbeats 32000000
set_option maxRecDepth 100000
namespace Go.Proofs.YtcebmphappfjjaaGreatDoor
theorem zgK {neg:Bool} {low high:Int} {o:Option Int} (h:(zcU neg low high o).2=true):low<=(zcU neg low high o).1/\(zcU neg low high o).1<=high:=by
 cases o with
 |none=>exact absurd h (by simp[zcU])
 |some n=>
  unfold zcU at h ⊢;dsimp only at h ⊢;cases neg with
  |true=>
   rw[if_pos rfl] at h ⊢
   by_cases h1:n<low\/high<n
   ·rw[if_pos h1] at h;exact absurd h zd
   ·rw[if_neg h1]
    show low<=n/\n<=high
    omega
  |false=>
   rw[if_neg zd] at h ⊢
   by_cases h0:n < -9223372036854775807
   ·rw[if_pos h0] at h;exact absurd h zd
   ·rw[if_neg h0] at h ⊢
    by_cases h1:-n<low\/high < -n
    ·rw[if_pos h1] at h;exact absurd h zd
    ·rw[if_neg h1]
     show low<=-n/\-n<=high
     omega
theorem zlm {s:ByteArray} {low high:Int} (h:(zbD s low high).2=true):low<=(zbD s low high).1/\(zbD s low high).1<=high:=by
 unfold zbD at h ⊢
 split
 ·rw[if_pos (by assumption)] at h;exact absurd h zs
 ·rw[if_neg (by assumption)] at h
  split
  ·rw[if_pos (by assumption)] at h
   split
   ·rw[if_pos (by assumption)] at h;exact absurd h zs
   ·rw[if_neg (by assumption)] at h;exact zgK h
  ·rw[if_neg (by assumption)] at h
   split
   ·rw[if_pos (by assumption)] at h;exact absurd h zs
   ·rw[if_neg (by assumption)] at h;exact zgK h
theorem zjH {s:ByteArray}:∀{f i:Nat} {acc:List UInt8} {l:List UInt8} {e:Nat},zfc s f i acc=some (l,e)->i+1<=e/\e<=s.size
 |0,i,acc,l,e,h=>by rw[zfc] at h;cases h
 |f+1,i,acc,l,e,h=>by
  rw[zfc] at h
  split at h
  case isFalse=>cases h
  case isTrue hlt=>
   split at h
   ·cases h
   ·split at h
    ·injection h with h;injection h with h1 h2;omega
    ·split at h
     ·split at h
      ·cases h
      ·split at h
       ·cases h
       ·have:=zjH h;omega
     ·have:=zjH h;omega
structure ztY (s:ByteArray) (k:Nat) (t:Tok) (e:Nat):Prop where
 adv:k+1<=e
 le:e<=s.size
 at':t.at'=(k:Int)
 text:t.text.size<=32768
 lo:0<=t.n
 hi:t.n<=9007199254740992
theorem zdw (s:ByteArray) (i e:Nat) (hs:s.size<=32768):(s.extract i e).size<=32768:=by
 rw[ByteArray.size_extract];omega
theorem zio {s:ByteArray} {k:Nat} (hk:k<s.size) (hw:wc (bt s k)=true):k+1<=zaX s s.size k/\zaX s s.size k<=s.size:=by
 refine⟨?_,(zej zo).2⟩;rw[zgi hk hw zo];exact(zej zo).1
theorem zeL {s:ByteArray} {k:Nat} {t:Tok} {e:Nat} (hs:s.size<=32768) (hk:k<s.size) (h:zcZ s k=.ok (t,e)):ztY s k t e:=by
 unfold zcZ at h
 split at h
 ·rename_i hl;injection h with h;injection h with h1 h2;subst h1 h2;obtain⟨h3,h4⟩:=zio hk (show wc (bt s k)=true by rw[zty,hl];rfl);exact⟨h3,h4,rfl,zdw _ _ _ hs,Int.le_refl _,by show (0:Int)<=_;omega⟩
 ·split at h
  ·rename_i hd;unfold zen at h;dsimp only at h
   split at h
   ·cases h
   ·split at h
    ·cases h
    ·split at h
     ·rename_i hp;injection h with h;injection h with h1 h2;subst h1 h2;obtain⟨h3,h4⟩:=zio hk (zmX hd);obtain⟨h5,h6⟩:=zlm hp;exact⟨h3,h4,rfl,Nat.zero_le _,h5,h6⟩
     ·cases h
  ·split at h
   ·unfold zlD at h
    split at h
    ·cases h
    ·rename_i l e' ht
     split at h
     ·cases h
     ·injection h with h;injection h with h1 h2;subst h1 h2;have:=zjH ht;refine⟨zo,zo,rfl,?_,Int.le_refl _,by show (0:Int)<=_;omega⟩
      show l.toArray.size<=32768
      simp;omega
   ·unfold zln at h
    split at h
    ·rename_i hm;injection h with h;injection h with h1 h2;subst h1 h2;exact⟨zo,zo,rfl,zdw _ _ _ hs,Int.le_refl _,by show (0:Int)<=_;omega⟩
    ·split at h
     ·injection h with h;injection h with h1 h2;subst h1 h2;exact⟨zo,zo,rfl,zdw _ _ _ hs,Int.le_refl _,by show (0:Int)<=_;omega⟩
     ·cases h
def ziO (T:List Tok):Prop:=∀t∈T,t.text.size<=32768/\0<=t.n/\t.n<=9007199254740992
theorem ziO.push {T:List Tok} {t:Tok} {s:ByteArray} {k e:Nat} (h:ziO T) (ht:ztY s k t e):ziO (T++[t]):=λx hx=>by
 rcases List.mem_append.1 hx with h1|h1
 ·exact h x h1
 ·obtain rfl:x=t:=by simpa using h1
  exact⟨ht.text,ht.lo,ht.hi⟩
theorem znr {s:ByteArray} (hs:s.size<=32768):∀{f i:Nat} {acc T:List Tok},i<=s.size->ziO acc->zfs s f i acc=.ok T->ziO T/\T.length<=acc.length+(s.size-i)
 |0,i,acc,T,_,_,h=>by rw[zfs] at h;cases h
 |f+1,i,acc,T,hi,ha,h=>by
  rw[zfs] at h;have hsk:=zhf (s:=s) (f:=s.size) (i:=i) hi
  split at h
  ·injection h with h;subst h;exact⟨ha,zo⟩
  ·split at h
   ·cases h
   ·rename_i t e ht;have hok:=zeL hs zo ht;have ha2:=hok.adv;obtain⟨h1,h2⟩:=znr hs hok.le (ha.push hok) h;refine⟨h1,?_⟩;rw[List.length_append,List.length_singleton] at h2;omega
theorem zse {s:ByteArray} {T:List Tok} (h:zgX s=.ok T):s.size<=32768/\ziO T/\T.length<=s.size:=by
 unfold zgX at h
 split at h
 ·cases h
 ·rename_i hs;obtain⟨h1,h2⟩:=znr zo (Nat.zero_le _) (λt ht=>by simp at ht) h;simp at h2;exact⟨zo,h1,h2⟩
end Go.Proofs.YtcebmphappfjjaaGreatDoor
set_option maxHeartbeats 32000000
set_option maxRecDepth 100000
namespace Go.Proofs.YtcebmphappfjjaaGreatDoor
open Go.RowKit Go.Shelf
def znx:Go.Shelf.Ren:=⟨fun|167=>108|240=>156|276=>203|n=>n,
 fun|0=>0|3=>3|4=>4|5=>5|9=>9|20=>20|37=>99|70=>98|72=>101|75=>135|80=>78|164=>222|n=>n,fun|n=>n⟩
theorem layW:Go.Proofs.Lays.n167 Tryz.prog znx:={
 mixed:=by kernel_rfl
 f167:=Tryz.func108.trans (congrArg some zk)
 f240:=Tryz.func156.trans (congrArg some zk)
 f276:=Tryz.func203.trans (congrArg some zk)
 t0:=Tryz.underlying0
 a0:=Tryz.isAgg0
 z0:=Tryz.sizeOf0
 v0:=Tryz.zeroValue0
 t4:=Tryz.underlying4
 a4:=Tryz.isAgg4
 z4:=Tryz.sizeOf4
 v4:=Tryz.zeroValue4
 t5:=Tryz.underlying5
 a5:=Tryz.isAgg5
 z5:=Tryz.sizeOf5
 v5:=Tryz.zeroValue5
 t9:=Tryz.underlying9
 a9:=Tryz.isAgg9
 z9:=Tryz.sizeOf9
 v9:=Tryz.zeroValue9
 t20:=Tryz.underlying20
 a20:=Tryz.isAgg20
 z20:=Tryz.sizeOf20
 v20:=Tryz.zeroValue20
 t37:=Tryz.underlying99
 a37:=Tryz.isAgg99
 z37:=Tryz.sizeOf99
 v37:=Tryz.zeroValue99
 t70:=Tryz.underlying98
 a70:=Tryz.isAgg98
 z70:=Tryz.sizeOf98
 v70:=Tryz.zeroValue98
 t72:=Tryz.underlying101
 a72:=Tryz.isAgg101
 z72:=Tryz.sizeOf101
 v72:=Tryz.zeroValue101
 t75:=Tryz.underlying135
 a75:=Tryz.isAgg135
 z75:=Tryz.sizeOf135
 v75:=Tryz.zeroValue135
 t164:=Tryz.underlying222
 a164:=Tryz.isAgg222
 z164:=Tryz.sizeOf222
 v164:=Tryz.zeroValue222}
theorem zjq:Builder.Extra Tryz.prog znx:={
 sizeBuilder:=by kernel_rfl
 liesBuilder:=by kernel_rfl
 t5:=Tryz.underlying5
 a5:=Tryz.isAgg5
 z5:=Tryz.sizeOf5
 v5:=Tryz.zeroValue5
 infoByte:=by kernel_rfl
 cellsByte:=by kernel_rfl
 sizeByte:=by kernel_rfl
 neB5:=by decide}
def zmN:Go.Shelf.Ren:=⟨fun|169=>60|n=>n,
 fun|0=>0|3=>3|5=>5|9=>9|37=>99|70=>98|72=>101|127=>141|n=>n,fun|n=>n⟩
theorem layS:Go.Proofs.Lays.n169 Tryz.prog zmN:={
 mixed:=by kernel_rfl
 f169:=Tryz.func60.trans (congrArg some zk)
 t0:=Tryz.underlying0
 a0:=Tryz.isAgg0
 z0:=Tryz.sizeOf0
 v0:=Tryz.zeroValue0
 t3:=Tryz.underlying3
 a3:=Tryz.isAgg3
 z3:=Tryz.sizeOf3
 v3:=Tryz.zeroValue3
 t9:=Tryz.underlying9
 a9:=Tryz.isAgg9
 z9:=Tryz.sizeOf9
 v9:=Tryz.zeroValue9
 t37:=Tryz.underlying99
 a37:=Tryz.isAgg99
 z37:=Tryz.sizeOf99
 v37:=Tryz.zeroValue99
 t70:=Tryz.underlying98
 a70:=Tryz.isAgg98
 z70:=Tryz.sizeOf98
 v70:=Tryz.zeroValue98
 t72:=Tryz.underlying101
 a72:=Tryz.isAgg101
 z72:=Tryz.sizeOf101
 v72:=Tryz.zeroValue101
 t127:=Tryz.underlying141
 a127:=Tryz.isAgg141
 z127:=Tryz.sizeOf141
 v127:=Tryz.zeroValue141}
theorem ziU:Builder.Extra Tryz.prog zmN:={
 sizeBuilder:=by kernel_rfl
 liesBuilder:=by kernel_rfl
 t5:=Tryz.underlying5
 a5:=Tryz.isAgg5
 z5:=Tryz.sizeOf5
 v5:=Tryz.zeroValue5
 infoByte:=by kernel_rfl
 cellsByte:=by kernel_rfl
 sizeByte:=by kernel_rfl
 neB5:=by decide}
def zsp:Go.Shelf.Ren:=⟨fun|170=>206|n=>n,
 fun|0=>0|3=>3|5=>5|37=>99|70=>98|72=>101|n=>n,fun|n=>n⟩
theorem layL:Go.Proofs.Lays.n170 Tryz.prog zsp:={
 mixed:=by kernel_rfl
 f170:=Tryz.func206.trans (congrArg some zk)
 t0:=Tryz.underlying0
 a0:=Tryz.isAgg0
 z0:=Tryz.sizeOf0
 v0:=Tryz.zeroValue0
 t3:=Tryz.underlying3
 a3:=Tryz.isAgg3
 z3:=Tryz.sizeOf3
 v3:=Tryz.zeroValue3
 t37:=Tryz.underlying99
 a37:=Tryz.isAgg99
 z37:=Tryz.sizeOf99
 v37:=Tryz.zeroValue99
 t70:=Tryz.underlying98
 a70:=Tryz.isAgg98
 z70:=Tryz.sizeOf98
 v70:=Tryz.zeroValue98
 t72:=Tryz.underlying101
 a72:=Tryz.isAgg101
 z72:=Tryz.sizeOf101
 v72:=Tryz.zeroValue101}
structure zev (b:Nat) (w0 w:World) (bs:List UInt8):Prop where
 at_:Lib.IsBuilder 101 5 b b (Lib.byteCells bs) w
 low:Below b w0 w
 le:b<=w.heap.size
theorem zev.new (w:World):zev w.heap.size w (w.alloc (.cells #[.pointer none,.slice none 0 0] 101)) []:=
 ⟨.inl ⟨Nat.le_refl _,.slice none 0 0,heap_alloc_new w _,World.ownsRow_nil _ _ _ _,by simp[Value.ownBlock]⟩,(Below.refl _ _).alloc (Nat.le_refl _) _,by simp⟩
theorem zev.writeByte {b:Nat} {w0 w:World} {bs:List UInt8} (h:zev b w0 w bs) (c:UInt8) (hl:bs.length+1<=140737488355328) :
 Calls Tryz.prog 108 #[.pointer (some ⟨b,0,none⟩),.int .u8 (c.toNat:Int)] w λe w'=>e=.returned .nilIface/\zev b w0 w' (bs++[c]):=by
 refine(Any.Builder_WriteByte layW zjq b b (Lib.byteCells bs) (c.toNat:Int) w h.at_ (by rw[Lib.byteCells_length];exact hl) h.le).mono ?_;rintro e w' ⟨rfl,h1,h2⟩;refine⟨rfl,.inr ?_,h.low.trans h2,Nat.le_trans h.le h2.size⟩;rw[show Lib.byteCells (bs++[c])=Lib.byteCells bs++[.int .u8 (c.toNat:Int)] by simp[Lib.byteCells]];exact h1
theorem zev.string {b:Nat} {w0 w:World} {bs:List UInt8} (h:zev b w0 w bs) :
 Calls Tryz.prog 60 #[.pointer (some ⟨b,0,none⟩)] w λe w'=>e=.returned (.string ⟨bs.toArray⟩)/\Below b w0 w':=by
 refine(Any.Builder_String_any layS ziU b b bs w h.at_ h.le).mono ?_;rintro e w' ⟨rfl,h2⟩;exact⟨rfl,h.low.trans h2⟩
theorem zev.len {b:Nat} {w0 w:World} {bs:List UInt8} (h:zev b w0 w bs) :
 Calls Tryz.prog 206 #[.pointer (some ⟨b,0,none⟩)] w λe w'=>e=.returned ↑bs.length/\w'=w:=by
 have:=Any.Builder_Len layL b b (Lib.byteCells bs) w h.at_;rw[Lib.byteCells_length] at this;exact this
end Go.Proofs.YtcebmphappfjjaaGreatDoor
