/- Conditions: those in each statement. -/
import Derived.Test.YtcebmphappfjjaaGreatDoorQ00
import Derived.Test.YtcebmphappfjjaaGreatDoorProg
import Derived.Shelf.Strings.Builder1
import Derived.Shelf.Strings.Builder2
import Derived.Test.YtcebmphappfjjaaGreatDoorQ24
set_option maxHeartbeats 32000000
set_option maxRecDepth 100000
namespace Go.Proofs.YtcebmphappfjjaaGreatDoor
open Go.RowKit Go.Shelf
def znx:Go.Shelf.Ren:=⟨fun|167=>108|240=>156|276=>203|n=>n,
 fun|0=>0|3=>3|4=>4|5=>5|9=>9|20=>20|37=>99|70=>98|72=>101|75=>135|80=>78|164=>222|n=>n,fun|n=>n⟩
theorem layW:Go.Proofs.Lays.n167 Tryz.prog znx:={
 mixed:=by kernel_rfl
 f167:=Tryz.func108.trans (congrArg some (by kernel_rfl))
 f240:=Tryz.func156.trans (congrArg some (by kernel_rfl))
 f276:=Tryz.func203.trans (congrArg some (by kernel_rfl))
 t0:=Tryz.underlying0
 a0:=Tryz.isAgg0
 z0:=Tryz.sizeOf0
 v0:=Tryz.zeroValue0
 t4:=Tryz.underlying4
 a4:=Tryz.isAgg4
 z4:=Tryz.sizeOf4
 v4:=Tryz.zeroValue4
 t5:=Tryz.underlying5
 a5:=Tryz.isAgg5
 z5:=Tryz.sizeOf5
 v5:=Tryz.zeroValue5
 t9:=Tryz.underlying9
 a9:=Tryz.isAgg9
 z9:=Tryz.sizeOf9
 v9:=Tryz.zeroValue9
 t20:=Tryz.underlying20
 a20:=Tryz.isAgg20
 z20:=Tryz.sizeOf20
 v20:=Tryz.zeroValue20
 t37:=Tryz.underlying99
 a37:=Tryz.isAgg99
 z37:=Tryz.sizeOf99
 v37:=Tryz.zeroValue99
 t70:=Tryz.underlying98
 a70:=Tryz.isAgg98
 z70:=Tryz.sizeOf98
 v70:=Tryz.zeroValue98
 t72:=Tryz.underlying101
 a72:=Tryz.isAgg101
 z72:=Tryz.sizeOf101
 v72:=Tryz.zeroValue101
 t75:=Tryz.underlying135
 a75:=Tryz.isAgg135
 z75:=Tryz.sizeOf135
 v75:=Tryz.zeroValue135
 t164:=Tryz.underlying222
 a164:=Tryz.isAgg222
 z164:=Tryz.sizeOf222
 v164:=Tryz.zeroValue222}
theorem zjq:Builder.Extra Tryz.prog znx:={
 sizeBuilder:=by kernel_rfl
 liesBuilder:=by kernel_rfl
 t5:=Tryz.underlying5
 a5:=Tryz.isAgg5
 z5:=Tryz.sizeOf5
 v5:=Tryz.zeroValue5
 infoByte:=by kernel_rfl
 cellsByte:=by kernel_rfl
 sizeByte:=by kernel_rfl
 neB5:=by decide}
def zmN:Go.Shelf.Ren:=⟨fun|169=>60|n=>n,
 fun|0=>0|3=>3|5=>5|9=>9|37=>99|70=>98|72=>101|127=>141|n=>n,fun|n=>n⟩
theorem layS:Go.Proofs.Lays.n169 Tryz.prog zmN:={
 mixed:=by kernel_rfl
 f169:=Tryz.func60.trans (congrArg some (by kernel_rfl))
 t0:=Tryz.underlying0
 a0:=Tryz.isAgg0
 z0:=Tryz.sizeOf0
 v0:=Tryz.zeroValue0
 t3:=Tryz.underlying3
 a3:=Tryz.isAgg3
 z3:=Tryz.sizeOf3
 v3:=Tryz.zeroValue3
 t9:=Tryz.underlying9
 a9:=Tryz.isAgg9
 z9:=Tryz.sizeOf9
 v9:=Tryz.zeroValue9
 t37:=Tryz.underlying99
 a37:=Tryz.isAgg99
 z37:=Tryz.sizeOf99
 v37:=Tryz.zeroValue99
 t70:=Tryz.underlying98
 a70:=Tryz.isAgg98
 z70:=Tryz.sizeOf98
 v70:=Tryz.zeroValue98
 t72:=Tryz.underlying101
 a72:=Tryz.isAgg101
 z72:=Tryz.sizeOf101
 v72:=Tryz.zeroValue101
 t127:=Tryz.underlying141
 a127:=Tryz.isAgg141
 z127:=Tryz.sizeOf141
 v127:=Tryz.zeroValue141}
theorem ziU:Builder.Extra Tryz.prog zmN:={
 sizeBuilder:=by kernel_rfl
 liesBuilder:=by kernel_rfl
 t5:=Tryz.underlying5
 a5:=Tryz.isAgg5
 z5:=Tryz.sizeOf5
 v5:=Tryz.zeroValue5
 infoByte:=by kernel_rfl
 cellsByte:=by kernel_rfl
 sizeByte:=by kernel_rfl
 neB5:=by decide}
def zsp:Go.Shelf.Ren:=⟨fun|170=>206|n=>n,
 fun|0=>0|3=>3|5=>5|37=>99|70=>98|72=>101|n=>n,fun|n=>n⟩
theorem layL:Go.Proofs.Lays.n170 Tryz.prog zsp:={
 mixed:=by kernel_rfl
 f170:=Tryz.func206.trans (congrArg some (by kernel_rfl))
 t0:=Tryz.underlying0
 a0:=Tryz.isAgg0
 z0:=Tryz.sizeOf0
 v0:=Tryz.zeroValue0
 t3:=Tryz.underlying3
 a3:=Tryz.isAgg3
 z3:=Tryz.sizeOf3
 v3:=Tryz.zeroValue3
 t37:=Tryz.underlying99
 a37:=Tryz.isAgg99
 z37:=Tryz.sizeOf99
 v37:=Tryz.zeroValue99
 t70:=Tryz.underlying98
 a70:=Tryz.isAgg98
 z70:=Tryz.sizeOf98
 v70:=Tryz.zeroValue98
 t72:=Tryz.underlying101
 a72:=Tryz.isAgg101
 z72:=Tryz.sizeOf101
 v72:=Tryz.zeroValue101}
structure zev (b:Nat) (w0 w:World) (bs:List UInt8):Prop where
 at_:Lib.IsBuilder 101 5 b b (Lib.byteCells bs) w
 low:Below b w0 w
 le:b<=w.heap.size
theorem zev.new (w:World):zev w.heap.size w (w.alloc (.cells #[.pointer none,.slice none 0 0] 101)) []:=
 ⟨.inl ⟨Nat.le_refl _,.slice none 0 0,heap_alloc_new w _,World.ownsRow_nil _ _ _ _,by simp[Value.ownBlock]⟩,(Below.refl _ _).alloc (Nat.le_refl _) _,by simp⟩
theorem zev.writeByte {b:Nat} {w0 w:World} {bs:List UInt8} (h:zev b w0 w bs) (c:UInt8) (hl:bs.length+1<=140737488355328) :
 Calls Tryz.prog 108 #[.pointer (some ⟨b,0,none⟩),.int .u8 (c.toNat:Int)] w λe w'=>e=.returned .nilIface/\zev b w0 w' (bs++[c]):=by
 refine(Any.Builder_WriteByte layW zjq b b (Lib.byteCells bs) (c.toNat:Int) w h.at_ (by rw[Lib.byteCells_length];exact hl) h.le).mono ?_;rintro e w' ⟨rfl,h1,h2⟩;refine⟨rfl,.inr ?_,h.low.trans h2,Nat.le_trans h.le h2.size⟩;rw[show Lib.byteCells (bs++[c])=Lib.byteCells bs++[.int .u8 (c.toNat:Int)] by simp[Lib.byteCells]];exact h1
theorem zev.string {b:Nat} {w0 w:World} {bs:List UInt8} (h:zev b w0 w bs) :
 Calls Tryz.prog 60 #[.pointer (some ⟨b,0,none⟩)] w λe w'=>e=.returned (.string ⟨bs.toArray⟩)/\Below b w0 w':=by
 refine(Any.Builder_String_any layS ziU b b bs w h.at_ h.le).mono ?_;rintro e w' ⟨rfl,h2⟩;exact⟨rfl,h.low.trans h2⟩
theorem zev.len {b:Nat} {w0 w:World} {bs:List UInt8} (h:zev b w0 w bs) :
 Calls Tryz.prog 206 #[.pointer (some ⟨b,0,none⟩)] w λe w'=>e=.returned (.int .i64 bs.length)/\w'=w:=by
 have:=Any.Builder_Len layL b b (Lib.byteCells bs) w h.at_;rw[Lib.byteCells_length] at this;exact this
end Go.Proofs.YtcebmphappfjjaaGreatDoor
set_option maxHeartbeats 32000000
set_option maxRecDepth 100000
namespace Go.Proofs.YtcebmphappfjjaaGreatDoor
open Go.RowKit
def zml (i:Nat) (o:Option (List UInt8 × Nat)):Except Int (Tok × Nat):=match o with
 |none=>.error 2
 |some (l,e)=>if 4096<l.length then .error 15 else .ok (⟨3,⟨l.toArray⟩,0,i⟩,e)
theorem zrQ (s:ByteArray) (i:Nat):zlD s i=zml i (zfc s s.size (i+1) []):=by
 unfold zlD zml;cases zfc s s.size (i+1) [] with
 |none=>rfl
 |some p=>rfl
theorem zpX {s:ByteArray} {f i:Nat} {acc:List UInt8} (h:¬i<s.size):zfc s f i acc=none:=by
 cases f with
 |zero=>rfl
 |succ f=>rw[zfc,if_neg h]
theorem zrE {s:ByteArray} {f i:Nat} {acc:List UInt8} (h:i<s.size) (hf:s.size<=i+f):zfc s f i acc=(if bt s i=10 then none
 else if bt s i=34 then some (acc,i+1)
 else if bt s i=92 then
  if i+1=s.size then none
  else match escC (bt s (i+1)) with
   |none=>none
   |some e=>zfc s (f-1) (i+2) (acc++[e])
 else zfc s (f-1) (i+1) (acc++[bt s i])):=by
 obtain⟨f,rfl⟩:∃k,f=k+1:=⟨f-1,by omega⟩;rw[zfc,if_pos h];rfl
structure TX (g:Nat) (s:ByteArray) (w W:World) (i:Nat) (acc:List UInt8):Prop where
 own:Own1 g w W
 at':ScAt g s W i
 box:zab W w.heap.size #[.int .i64 0,.string ⟨#[]⟩,.int .i64 0,.int .i64 0] 198
 bld:zev (w.heap.size+1) W W acc
theorem TX.set {g:Nat} {s:ByteArray} {w W:World} {i:Nat} {acc:List UInt8} (h:TX g s w W i acc) (hg:g<w.heap.size) (j:Nat):TX g s w (W.setCell ⟨g,1,none⟩ (.int .i64 (j:Int))) j acc:=by
 have hc:Own1 g W (W.setCell ⟨g,1,none⟩ (.int .i64 (j:Int))):=zcT (Below.refl _ _) 1 _;refine⟨h.own.trans hc,h.at'.set j,h.box.keep hc (by omega),⟨?_,Below.refl _ _,by have:=h.bld.le;have:=hc.size;omega⟩⟩
 have key:∀p,Lib.BuilderAt 101 5 (w.heap.size+1) (w.heap.size+1) p (Lib.byteCells acc) W->Lib.BuilderAt 101 5 (w.heap.size+1) (w.heap.size+1) p (Lib.byteCells acc) (W.setCell ⟨g,1,none⟩ (.int .i64 (j:Int))):=λp h=>by
  obtain⟨h1,v,h2,h3,h4⟩:=h;have hB:∀k,w.heap.size+1<=k->(W.setCell ⟨g,1,none⟩ (.int .i64 (j:Int))).heap[k]?=W.heap[k]?:=λk hk=>Below.heap_setCell W _ _ k (show k≠g by omega);refine⟨h1,v,(hB _ (Nat.le_refl _)).trans h2,?_,h4⟩
  exact h3.kept (row:=some g) ⟨hc.os,hc.tape,hc.output,hc.size,λk _ hk=>Below.heap_setCell W _ _ k (λe=>hk (congrArg some e))⟩ (.inr (λe=>by
   rcases h3.2 with ⟨rfl,_⟩|⟨g',cap,cur,rfl,hb,_⟩
   ·cases e
   ·have:g'=g:=Option.some.inj e;omega))
 exact h.bld.at_.elim (λh=>.inl (key _ h)) (λh=>.inr (key _ h))
theorem Chg.of_low {m:Nat} {W W':World} (h:Below m W W'):Chg (λk=>m<=k) W W':=⟨h.os,h.tape,h.output,h.size,λk _ hn=>h.block k (Nat.lt_of_not_le hn)⟩
theorem TX.low {g:Nat} {s:ByteArray} {w W W':World} {i:Nat} {acc:List UInt8} (h:TX g s w W i acc) (hg:g<w.heap.size) (hb:Below (w.heap.size+1) W W'):Own1 g w W'/\ScAt g s W' i/\zab W' w.heap.size #[.int .i64 0,.string ⟨#[]⟩,.int .i64 0,.int .i64 0] 198:=
 ⟨Chg.trans h.own (Chg.of_low (m:=w.heap.size+1) hb) (λj hj=>.inr (by omega)),(hb.block g (by omega)).trans h.at',(hb.block w.heap.size (by omega)).trans h.box⟩
theorem TX.wrote {g:Nat} {s:ByteArray} {w W W':World} {i:Nat} {acc acc':List UInt8} (h:TX g s w W i acc) (hg:g<w.heap.size) (hb:zev (w.heap.size+1) W W' acc'):TX g s w W' i acc':=by
 obtain⟨h1,h2,h3⟩:=h.low hg hb.low;exact⟨h1,h2,h3,⟨hb.at_,Below.refl _ _,hb.le⟩⟩
theorem zpQ (s:ByteArray) (hs:s.size<=32768) (g i:Nat) (hi:i<s.size) (w:World) (h:ScAt g s w i) :
 Calls Tryz.prog 163 #[.pointer (some ⟨g,0,none⟩)] w (zhF g s w (zlD s i)):=by
 have hg:g<w.heap.size:=h.lt;have hb:=(Below.refl w.heap.size w).alloc (Nat.le_refl _) (.cells #[.int .i64 0,.string ⟨#[]⟩,.int .i64 0,.int .i64 0] 198);have hx:=zab.new w #[.int .i64 0,.string ⟨#[]⟩,.int .i64 0,.int .i64 0] 198;have hz:(w.alloc (.cells #[.int .i64 0,.string ⟨#[]⟩,.int .i64 0,.int .i64 0] 198)).heap.size=w.heap.size+1:=by simp
 obtain⟨w0,hw⟩:∃W,w.alloc (.cells #[.int .i64 0,.string ⟨#[]⟩,.int .i64 0,.int .i64 0] 198)=W:=⟨_,rfl⟩;rw[hw] at hb hx hz;have hB:=zev.new w0;have hb2:=(Below.refl w0.heap.size w0).alloc (Nat.le_refl _) (.cells #[.pointer none,.slice none 0 0] 101);obtain⟨w1,hw1⟩:∃W,w0.alloc (.cells #[.pointer none,.slice none 0 0] 101)=W:=⟨_,rfl⟩;rw[hw1] at hB hb2;rw[hz] at hB;have T0:Hid (TX g s w w1 i []):=zz ⟨(zaO (b:=g) hb).of_below hb2,zaa hb2 (zaa hb h),zaa hb2 hx,⟨hB.at_,Below.refl _ _,hB.le⟩⟩;have d1:w1.cell? ⟨g,1,none⟩=some (.int .i64 (i:Int)):=T0.out.at'.cell 1;obtain⟨r,hr⟩:∃r,zlD s i=r:=⟨_,rfl⟩;rw[hr];rw[zrQ] at hr;have HR:=zz hr;have HI:=zz (zgg s);have hwi:IntKind.i64.wrap ((i:Int)+1)=((i+1:Nat):Int):=by rw[IntWalk.i64_in _ (by omega)];omega
 clear h hb hx hB hb2 hr;go_enter Tryz.func163,Tryz.ntmps163;go_wp2_with fail;clear hw hw1 d1 hwi
 go_loopw [5] (λs5 wr=>∃(j f:Nat) (acc:List UInt8),j<=s.size/\i+1<=j/\acc.length<=j/\s.size<=j+f/\s5=.int .i64 j/\Hid (zml i (zfc s f j acc)=r)/\Hid (TX g s w wr i acc)) (λs5 _=>s.size-(intOf s5).toNat)
 case atStart=>exact⟨i+1,s.size,[],by omega,Nat.le_refl _,by simp,by omega,rfl,HR,T0⟩
 case round=>
  clear HR T0;obtain⟨j,f,acc,hj,hij,hal,hf,rfl,HR,HT⟩:=hrel;have c0:wr.cell? ⟨g,0,none⟩=some (.string s):=HT.out.at'.cell 0
  by_cases hlt:j<s.size
  ·have hlti:(j:Int)<(s.size:Int):=by omega
   have HJ:=HI.out j hlt;have q:=HR.out;rw[zrE hlt hf] at q;clear HR
   by_cases h10:bt s j=10
   ·rw[if_pos h10] at q;have HR2:Hid (r=.error 2):=zz q.symm;rw[h10] at HJ;clear q h10;have x0:wr.cell? ⟨w.heap.size,0,none⟩=some (.int .i64 0):=HT.out.box.cell 0;have x1:wr.cell? ⟨w.heap.size,1,none⟩=some (.string ⟨#[]⟩):=HT.out.box.cell 1;have x2:wr.cell? ⟨w.heap.size,2,none⟩=some (.int .i64 0):=HT.out.box.cell 2;have x3:wr.cell? ⟨w.heap.size,3,none⟩=some (.int .i64 0):=HT.out.box.cell 3;have z:=HT.out.box.fz;clear HI;go_wp2_with fail;exact bodyPost_ret (zah (q:=3) (by rfl) _ _ w.heap.size _ _ (0,0) _ rfl (zbj _ _ _ _ HT.out.box) Tryz.underlying198 rfl zbY) rfl (zdU HT.out.own HR2.out _ _ _ _)
   ·rw[if_neg h10] at q
    by_cases h34:bt s j=34
    ·rw[if_pos h34] at q;rw[h34] at HJ;have KL:=zz HT.out.bld.len
     by_cases hbig:4096<acc.length
     ·have HR2:Hid (r=.error 15):=zz (by rw[<-q,zml,if_pos hbig]);have hbi:(4096:Int)<(acc.length:Int):=by omega
      clear q h10 h34;have x0:wr.cell? ⟨w.heap.size,0,none⟩=some (.int .i64 0):=HT.out.box.cell 0;have x1:wr.cell? ⟨w.heap.size,1,none⟩=some (.string ⟨#[]⟩):=HT.out.box.cell 1;have x2:wr.cell? ⟨w.heap.size,2,none⟩=some (.int .i64 0):=HT.out.box.cell 2;have x3:wr.cell? ⟨w.heap.size,3,none⟩=some (.int .i64 0):=HT.out.box.cell 3;have z:=HT.out.box.fz;clear HI;go_wp2_with fail;(with_reducible refine KL.out.mono ?_);rintro e w2 ⟨rfl,rfl⟩;go_wp2_with fail;exact bodyPost_ret (zah (q:=3) (by rfl) _ _ w.heap.size _ _ (0,0) _ rfl (zbj _ _ _ _ HT.out.box) Tryz.underlying198 rfl zbY) rfl (zdU HT.out.own HR2.out _ _ _ _)
     ·have HR2:Hid (r=.ok (⟨3,⟨acc.toArray⟩,0,i⟩,j+1)):=zz (by rw[<-q,zml,if_neg hbig]);have hbi:¬(4096:Int)<(acc.length:Int):=by omega
      have hwj:IntKind.i64.wrap ((j:Int)+1)=(j:Int)+1:=IntWalk.i64_in _ (by omega);have c1:wr.cell? ⟨g,1,none⟩=some (.int .i64 (i:Int)):=HT.out.at'.cell 1;have zg:=HT.out.at'.fz;clear q h10 h34 HI;go_wp2_with fail;(with_reducible refine KL.out.mono ?_);rintro e w2 ⟨rfl,rfl⟩;have HT2:Hid (TX g s w (w2.setCell ⟨g,1,none⟩ (.int .i64 ((j:Int)+1))) (j+1) acc):=zz (HT.out.set (by omega) (j+1));obtain⟨w3,hw3⟩:∃W,w2.setCell ⟨g,1,none⟩ (.int .i64 ((j:Int)+1))=W:=⟨_,rfl⟩;rw[hw3] at HT2;have KS:=zz HT2.out.bld.string;go_wp2_with fail;clear hw3;(with_reducible refine KS.out.mono ?_);rintro e w4 ⟨rfl,hb⟩;have hT4:=HT2.out.low (by omega) hb;have O4:=zz hT4.1;have S4:=zz hT4.2.1;have X4:=zz hT4.2.2;clear hb hT4;have x0:w4.cell? ⟨w.heap.size,0,none⟩=some (.int .i64 0):=X4.out.cell 0;have x1:w4.cell? ⟨w.heap.size,1,none⟩=some (.string ⟨#[]⟩):=X4.out.cell 1;have x2:w4.cell? ⟨w.heap.size,2,none⟩=some (.int .i64 0):=X4.out.cell 2;have x3:w4.cell? ⟨w.heap.size,3,none⟩=some (.int .i64 0):=X4.out.cell 3;have z:=X4.out.fz;go_wp2_with fail;exact bodyPost_ret (zah (q:=3) (by rfl) _ _ w.heap.size _ _ (0,0) _ rfl (zbj _ _ _ _ X4.out) Tryz.underlying198 rfl zbY) rfl (zmZ O4.out S4.out hg HR2.out _ _ _ _)
    ·rw[if_neg h34] at q
     by_cases h92:bt s j=92
     ·rw[if_pos h92] at q;rw[h92] at HJ;have hwj:IntKind.i64.wrap ((j:Int)+1)=(j:Int)+1:=IntWalk.i64_in _ (by omega)
      by_cases hend:j+1=s.size
      ·rw[if_pos hend] at q;have HR2:Hid (r=.error 2):=zz q.symm;have he1:(((j:Int)+1) == (s.size:Int))=true:=by rw[beq_iff_eq];omega
       clear q h10 h34 h92;have x0:wr.cell? ⟨w.heap.size,0,none⟩=some (.int .i64 0):=HT.out.box.cell 0;have x1:wr.cell? ⟨w.heap.size,1,none⟩=some (.string ⟨#[]⟩):=HT.out.box.cell 1;have x2:wr.cell? ⟨w.heap.size,2,none⟩=some (.int .i64 0):=HT.out.box.cell 2;have x3:wr.cell? ⟨w.heap.size,3,none⟩=some (.int .i64 0):=HT.out.box.cell 3;have z:=HT.out.box.fz;clear HI;go_wp2_with fail;exact bodyPost_ret (zah (q:=3) (by rfl) _ _ w.heap.size _ _ (0,0) _ rfl (zbj _ _ _ _ HT.out.box) Tryz.underlying198 rfl zbY) rfl (zdU HT.out.own HR2.out _ _ _ _)
      ·rw[if_neg hend] at q;have he1:(((j:Int)+1) == (s.size:Int))=false:=by rw[beq_eq_false_iff_ne];omega
       have HJ1:∀W:World,(Instr.index 9 (.string s) (.int .i64 ((j:Int)+1))).run Tryz.prog W=.ok (.int .u8 ((bt s (j+1)).toNat:Int)) W:=λW=>HI.out (j+1) (by omega) W;have KU:=zz (λW=>zkx (bt s (j+1)) W);cases hec:escC (bt s (j+1)) with
       |none=>
        rw[hec] at KU q;have HR2:Hid (r=.error 2):=zz q.symm;clear q h10 h34 h92 hec;have x0:wr.cell? ⟨w.heap.size,0,none⟩=some (.int .i64 0):=HT.out.box.cell 0;have x1:wr.cell? ⟨w.heap.size,1,none⟩=some (.string ⟨#[]⟩):=HT.out.box.cell 1;have x2:wr.cell? ⟨w.heap.size,2,none⟩=some (.int .i64 0):=HT.out.box.cell 2;have x3:wr.cell? ⟨w.heap.size,3,none⟩=some (.int .i64 0):=HT.out.box.cell 3;have z:=HT.out.box.fz;clear HI;go_wp2_with fail;(with_reducible refine(KU.out _).mono ?_);rintro e w2 ⟨rfl,rfl⟩;go_wp2_with fail;exact bodyPost_ret (zah (q:=3) (by rfl) _ _ w.heap.size _ _ (0,0) _ rfl (zbj _ _ _ _ HT.out.box) Tryz.underlying198 rfl zbY) rfl (zdU HT.out.own HR2.out _ _ _ _)
       |some c=>
        rw[hec] at KU q;have KB:=zz (HT.out.bld.writeByte c (by omega));have hwj2:IntKind.i64.wrap ((j:Int)+1+1)=((j+2:Nat):Int):=by rw[IntWalk.i64_in _ (by omega)];omega
        clear h10 h34 h92 hec HI;go_wp2_with fail;(with_reducible refine(KU.out _).mono ?_);rintro e w2 ⟨rfl,rfl⟩;go_wp2_with fail;(with_reducible refine KB.out.mono ?_);rintro e w3 ⟨rfl,hb3⟩;have HT3:=zz (HT.out.wrote (by omega) hb3);have HR3:Hid (zml i (zfc s (f-1) (j+2) (acc++[c]))=r):=zz q;clear hb3 q;go_wp2_with fail;exact⟨⟨j+2,f-1,acc++[c],by omega,by omega,by simp;omega,by omega,rfl,HR3,HT3⟩,by simp[intOf];omega⟩
     ·rw[if_neg h92] at q;have KB:=zz (HT.out.bld.writeByte (bt s j) (by omega));have hwj:IntKind.i64.wrap ((j:Int)+1)=(j:Int)+1:=IntWalk.i64_in _ (by omega);have HR3:Hid (zml i (zfc s (f-1) (j+1) (acc++[bt s j]))=r):=zz q;have b10:(((bt s j).toNat:Int) == 10)=false:=zco (n:=10) h10;have b34:(((bt s j).toNat:Int) == 34)=false:=zco (n:=34) h34;have b92:(((bt s j).toNat:Int) == 92)=false:=zco (n:=92) h92;have HBW:=zz (λW (hb:zev (w.heap.size+1) wr W (acc++[bt s j]))=>HT.out.wrote (by omega) hb);have hal2:(acc++[bt s j]).length<=j+1:=by simp;omega
      obtain⟨acc2,hacc2⟩:∃l,acc++[bt s j]=l:=⟨_,rfl⟩;rw[hacc2] at HR3 KB HBW hal2;obtain⟨Y,hY⟩:∃Y,((bt s j).toNat:Int)=Y:=⟨_,rfl⟩;rw[hY] at b10 b34 b92 HJ KB;clear q h10 h34 h92 hacc2 hY HI;go_wp2_with fail;(with_reducible refine KB.out.mono ?_);rintro e w3 ⟨rfl,hb3⟩;have HT3:=zz (HBW.out _ hb3);clear hb3;go_wp2_with fail;exact⟨⟨j+1,f-1,acc2,by omega,by omega,hal2,by omega,rfl,HR3,HT3⟩,by simp[intOf];omega⟩
  ·have HR2:Hid (r=.error 2):=zz (by rw[<-HR.out,zpX hlt];rfl);have hlti:¬(j:Int)<(s.size:Int):=by omega
   have x0:wr.cell? ⟨w.heap.size,0,none⟩=some (.int .i64 0):=HT.out.box.cell 0;have x1:wr.cell? ⟨w.heap.size,1,none⟩=some (.string ⟨#[]⟩):=HT.out.box.cell 1;have x2:wr.cell? ⟨w.heap.size,2,none⟩=some (.int .i64 0):=HT.out.box.cell 2;have x3:wr.cell? ⟨w.heap.size,3,none⟩=some (.int .i64 0):=HT.out.box.cell 3;have z:=HT.out.box.fz;clear HI;go_wp2_with fail;exact bodyPost_ret (zah (q:=3) (by rfl) _ _ w.heap.size _ _ (0,0) _ rfl (zbj _ _ _ _ HT.out.box) Tryz.underlying198 rfl zbY) rfl (zdU HT.out.own HR2.out _ _ _ _)
end Go.Proofs.YtcebmphappfjjaaGreatDoor
set_option maxHeartbeats 32000000
set_option maxRecDepth 100000
namespace Go.Proofs.YtcebmphappfjjaaGreatDoor
theorem zgK {neg:Bool} {low high:Int} {o:Option Int} (h:(zcU neg low high o).2=true):low<=(zcU neg low high o).1/\(zcU neg low high o).1<=high:=by
 cases o with
 |none=>exact absurd h (by simp[zcU])
 |some n=>
  unfold zcU at h ⊢;dsimp only at h ⊢;cases neg with
  |true=>
   rw[if_pos rfl] at h ⊢
   by_cases h1:n<low\/high<n
   ·rw[if_pos h1] at h;exact absurd h (by decide)
   ·rw[if_neg h1]
    show low<=n/\n<=high
    omega
  |false=>
   rw[if_neg (by decide)] at h ⊢
   by_cases h0:n < -9223372036854775807
   ·rw[if_pos h0] at h;exact absurd h (by decide)
   ·rw[if_neg h0] at h ⊢
    by_cases h1:-n<low\/high < -n
    ·rw[if_pos h1] at h;exact absurd h (by decide)
    ·rw[if_neg h1]
     show low<=-n/\-n<=high
     omega
theorem zlm {s:ByteArray} {low high:Int} (h:(zbD s low high).2=true):low<=(zbD s low high).1/\(zbD s low high).1<=high:=by
 unfold zbD at h ⊢
 split
 ·rw[if_pos (by assumption)] at h;exact absurd h (by simp)
 ·rw[if_neg (by assumption)] at h
  split
  ·rw[if_pos (by assumption)] at h
   split
   ·rw[if_pos (by assumption)] at h;exact absurd h (by simp)
   ·rw[if_neg (by assumption)] at h;exact zgK h
  ·rw[if_neg (by assumption)] at h
   split
   ·rw[if_pos (by assumption)] at h;exact absurd h (by simp)
   ·rw[if_neg (by assumption)] at h;exact zgK h
theorem zjH {s:ByteArray}:∀{f i:Nat} {acc:List UInt8} {l:List UInt8} {e:Nat},zfc s f i acc=some (l,e)->i+1<=e/\e<=s.size
 |0,i,acc,l,e,h=>by rw[zfc] at h;cases h
 |f+1,i,acc,l,e,h=>by
  rw[zfc] at h
  split at h
  case isFalse=>cases h
  case isTrue hlt=>
   split at h
   ·cases h
   ·split at h
    ·injection h with h;injection h with h1 h2;omega
    ·split at h
     ·split at h
      ·cases h
      ·split at h
       ·cases h
       ·have:=zjH h;omega
     ·have:=zjH h;omega
structure ztY (s:ByteArray) (k:Nat) (t:Tok) (e:Nat):Prop where
 adv:k+1<=e
 le:e<=s.size
 at':t.at'=(k:Int)
 text:t.text.size<=32768
 lo:0<=t.n
 hi:t.n<=9007199254740992
theorem zdw (s:ByteArray) (i e:Nat) (hs:s.size<=32768):(s.extract i e).size<=32768:=by
 rw[ByteArray.size_extract];omega
theorem zio {s:ByteArray} {k:Nat} (hk:k<s.size) (hw:wc (bt s k)=true):k+1<=zaX s s.size k/\zaX s s.size k<=s.size:=by
 refine⟨?_,(zej (by omega)).2⟩;rw[zgi hk hw (by omega)];exact(zej (by omega)).1
theorem zeL {s:ByteArray} {k:Nat} {t:Tok} {e:Nat} (hs:s.size<=32768) (hk:k<s.size) (h:zcZ s k=.ok (t,e)):ztY s k t e:=by
 unfold zcZ at h
 split at h
 ·rename_i hl;injection h with h;injection h with h1 h2;subst h1 h2;obtain⟨h3,h4⟩:=zio hk (show wc (bt s k)=true by rw[zty,hl];rfl);exact⟨h3,h4,rfl,zdw _ _ _ hs,Int.le_refl _,by show (0:Int)<=_;omega⟩
 ·split at h
  ·rename_i hd;unfold zen at h;dsimp only at h
   split at h
   ·cases h
   ·split at h
    ·cases h
    ·split at h
     ·rename_i hp;injection h with h;injection h with h1 h2;subst h1 h2;obtain⟨h3,h4⟩:=zio hk (zmX hd);obtain⟨h5,h6⟩:=zlm hp;exact⟨h3,h4,rfl,Nat.zero_le _,h5,h6⟩
     ·cases h
  ·split at h
   ·unfold zlD at h
    split at h
    ·cases h
    ·rename_i l e' ht
     split at h
     ·cases h
     ·injection h with h;injection h with h1 h2;subst h1 h2;have:=zjH ht;refine⟨by omega,by omega,rfl,?_,Int.le_refl _,by show (0:Int)<=_;omega⟩
      show l.toArray.size<=32768
      simp;omega
   ·unfold zln at h
    split at h
    ·rename_i hm;injection h with h;injection h with h1 h2;subst h1 h2;exact⟨by omega,by omega,rfl,zdw _ _ _ hs,Int.le_refl _,by show (0:Int)<=_;omega⟩
    ·split at h
     ·injection h with h;injection h with h1 h2;subst h1 h2;exact⟨by omega,by omega,rfl,zdw _ _ _ hs,Int.le_refl _,by show (0:Int)<=_;omega⟩
     ·cases h
theorem zfr {s:ByteArray} {k:Nat} {c:Int} (h:zcZ s k=.error c):c≠0:=by
 unfold zcZ zen zlD zln at h;dsimp only at h
 repeat' split at h
 all_goals first
  |(cases h;done)
  |(injection h with h;omega)
def ziO (T:List Tok):Prop:=∀t∈T,t.text.size<=32768/\0<=t.n/\t.n<=9007199254740992
theorem ziO.push {T:List Tok} {t:Tok} {s:ByteArray} {k e:Nat} (h:ziO T) (ht:ztY s k t e):ziO (T++[t]):=λx hx=>by
 rcases List.mem_append.1 hx with h1|h1
 ·exact h x h1
 ·obtain rfl:x=t:=by simpa using h1
  exact⟨ht.text,ht.lo,ht.hi⟩
theorem znr {s:ByteArray} (hs:s.size<=32768):∀{f i:Nat} {acc T:List Tok},i<=s.size->ziO acc->zfs s f i acc=.ok T->ziO T/\T.length<=acc.length+(s.size-i)
 |0,i,acc,T,_,_,h=>by rw[zfs] at h;cases h
 |f+1,i,acc,T,hi,ha,h=>by
  rw[zfs] at h;have hsk:=zhf (s:=s) (f:=s.size) (i:=i) hi
  split at h
  ·injection h with h;subst h;exact⟨ha,by omega⟩
  ·split at h
   ·cases h
   ·rename_i t e ht;have hok:=zeL hs (by omega) ht;have ha2:=hok.adv;obtain⟨h1,h2⟩:=znr hs hok.le (ha.push hok) h;refine⟨h1,?_⟩;rw[List.length_append,List.length_singleton] at h2;omega
theorem zse {s:ByteArray} {T:List Tok} (h:zgX s=.ok T):s.size<=32768/\ziO T/\T.length<=s.size:=by
 unfold zgX at h
 split at h
 ·cases h
 ·rename_i hs;obtain⟨h1,h2⟩:=znr (by omega) (Nat.zero_le _) (λt ht=>by simp at ht) h;simp at h2;exact⟨by omega,h1,h2⟩
end Go.Proofs.YtcebmphappfjjaaGreatDoor
