/- Conditions: those in each statement. -/
import Derived.Test.YtjdpocmlimkjjaaGreatQ27
import Derived.Test.YtjdpocmlimkjjaaGreatQ28
set_option maxHeartbeats 32000000
set_option maxRecDepth 100000
namespace Go.Proofs.YtjdpocmlimkjjaaGreat
open Go.RowKit
def zlF (i:Nat) (o:Option (List UInt8 × Nat)):Except Int (Tok × Nat):=match o with
 |none=>.error 2
 |some (l,e)=>if 4096<l.length then .error 15 else .ok (⟨3,⟨l.toArray⟩,0,i⟩,e)
theorem zpO (s:ByteArray) (i:Nat):zkk s i=zlF i (zfG s s.size (i+1) []):=by
 unfold zkk zlF;cases zfG s s.size (i+1) [] with
 |none=>rfl
 |some p=>rfl
theorem zoE {s:ByteArray} {f i:Nat} {acc:List UInt8} (h:¬i<s.size):zfG s f i acc=none:=by
 cases f with
 |zero=>rfl
 |succ f=>rw[zfG,if_neg h]
theorem zpN {s:ByteArray} {f i:Nat} {acc:List UInt8} (h:i<s.size) (hf:s.size≤i+f):zfG s f i acc=(if bt s i=10 then none
 else if bt s i=34 then some (acc,i+1)
 else if bt s i=92 then
  if i+1=s.size then none
  else match escC (bt s (i+1)) with
   |none=>none
   |some e=>zfG s (f-1) (i+2) (acc++[e])
 else zfG s (f-1) (i+1) (acc++[bt s i])):=by
 obtain⟨f,rfl⟩:∃k,f=k+1:=⟨f-1,by omega⟩;rw[zfG,if_pos h];rfl
structure TX (g:Nat) (s:ByteArray) (w W:World) (i:Nat) (acc:List UInt8):Prop where
 own:Own1 g w W
 at':ScAt g s W i
 box:zac W w.heap.size #[.int .i64 0,.string ⟨#[]⟩,.int .i64 0,.int .i64 0] 140
 bld:zhl (w.heap.size+1) W W acc
theorem TX.set {g:Nat} {s:ByteArray} {w W:World} {i:Nat} {acc:List UInt8} (h:TX g s w W i acc) (hg:g<w.heap.size) (j:Nat):TX g s w (W.setCell ⟨g,1,none⟩ (.int .i64 (j:Int))) j acc:=by
 have hc:Own1 g W (W.setCell ⟨g,1,none⟩ (.int .i64 (j:Int))):=zdk (Below.refl _ _) 1 _;refine⟨h.own.trans hc,h.at'.set j,h.box.keep hc (by omega),⟨?_,Below.refl _ _,by have:=h.bld.le;have:=hc.size;omega⟩⟩
 have key:∀p,Lib.BuilderAt 96 5 (w.heap.size+1) (w.heap.size+1) p (Lib.byteCells acc) W→Lib.BuilderAt 96 5 (w.heap.size+1) (w.heap.size+1) p (Lib.byteCells acc) (W.setCell ⟨g,1,none⟩ (.int .i64 (j:Int))):=λp h=>by
  obtain⟨h1,v,h2,h3,h4⟩:=h;have hB:∀k,w.heap.size+1≤k→(W.setCell ⟨g,1,none⟩ (.int .i64 (j:Int))).heap[k]?=W.heap[k]?:=λk hk=>Below.heap_setCell W _ _ k (show k≠g by omega);refine⟨h1,v,(hB _ (Nat.le_refl _)).trans h2,?_,h4⟩
  exact h3.kept (row:=some g) ⟨hc.os,hc.tape,hc.output,hc.size,λk _ hk=>Below.heap_setCell W _ _ k (λe=>hk (congrArg some e))⟩ (.inr (λe=>by
   rcases h3.2 with ⟨rfl,_⟩|⟨g',cap,cur,rfl,hb,_⟩
   ·cases e
   ·have:g'=g:=Option.some.inj e;omega))
 exact h.bld.at_.elim (λh=>.inl (key _ h)) (λh=>.inr (key _ h))
theorem Chg.of_low {m:Nat} {W W':World} (h:Below m W W'):Chg (λk=>m≤k) W W':=⟨h.os,h.tape,h.output,h.size,λk _ hn=>h.block k (Nat.lt_of_not_le hn)⟩
theorem TX.low {g:Nat} {s:ByteArray} {w W W':World} {i:Nat} {acc:List UInt8} (h:TX g s w W i acc) (hg:g<w.heap.size) (hb:Below (w.heap.size+1) W W'):Own1 g w W'∧ScAt g s W' i∧zac W' w.heap.size #[.int .i64 0,.string ⟨#[]⟩,.int .i64 0,.int .i64 0] 140:=
 ⟨Chg.trans h.own (Chg.of_low (m:=w.heap.size+1) hb) (λj hj=>.inr (by omega)),(hb.block g (by omega)).trans h.at',(hb.block w.heap.size (by omega)).trans h.box⟩
theorem TX.wrote {g:Nat} {s:ByteArray} {w W W':World} {i:Nat} {acc acc':List UInt8} (h:TX g s w W i acc) (hg:g<w.heap.size) (hb:zhl (w.heap.size+1) W W' acc'):TX g s w W' i acc':=by
 obtain⟨h1,h2,h3⟩:=h.low hg hb.low;exact⟨h1,h2,h3,⟨hb.at_,Below.refl _ _,hb.le⟩⟩
theorem zoY (s:ByteArray) (hs:s.size≤32768) (g i:Nat) (hi:i<s.size) (w:World) (h:ScAt g s w i) :
 Calls Tryz.prog 76 #[.pointer (some ⟨g,0,none⟩)] w (zia g s w (zkk s i)):=by
 have hg:g<w.heap.size:=h.lt;have hb:=(Below.refl w.heap.size w).alloc (Nat.le_refl _) (.cells #[.int .i64 0,.string ⟨#[]⟩,.int .i64 0,.int .i64 0] 140);have hx:=zac.new w #[.int .i64 0,.string ⟨#[]⟩,.int .i64 0,.int .i64 0] 140;have hz:(w.alloc (.cells #[.int .i64 0,.string ⟨#[]⟩,.int .i64 0,.int .i64 0] 140)).heap.size=w.heap.size+1:=by simp
 obtain⟨w0,hw⟩:∃W,w.alloc (.cells #[.int .i64 0,.string ⟨#[]⟩,.int .i64 0,.int .i64 0] 140)=W:=⟨_,rfl⟩;rw[hw] at hb hx hz;have hB:=zhl.new w0;have hb2:=(Below.refl w0.heap.size w0).alloc (Nat.le_refl _) (.cells #[.pointer none,.slice none 0 0] 96);obtain⟨w1,hw1⟩:∃W,w0.alloc (.cells #[.pointer none,.slice none 0 0] 96)=W:=⟨_,rfl⟩;rw[hw1] at hB hb2;rw[hz] at hB;have T0:Hid (TX g s w w1 i []):=zz ⟨(zbd (b:=g) hb).of_below hb2,zaa hb2 (zaa hb h),zaa hb2 hx,⟨hB.at_,Below.refl _ _,hB.le⟩⟩;have d1:w1.cell? ⟨g,1,none⟩=some (.int .i64 (i:Int)):=T0.out.at'.cell 1;obtain⟨r,hr⟩:∃r,zkk s i=r:=⟨_,rfl⟩;rw[hr];rw[zpO] at hr;have HR:=zz hr;have HI:=zz (zgB s);have hwi:IntKind.i64.wrap ((i:Int)+1)=((i+1:Nat):Int):=by rw[IntWalk.i64_in _ (by omega)];omega
 clear h hb hx hB hb2 hr;go_enter Tryz.func76,Tryz.ntmps76;go_wp2_with fail;clear hw hw1 d1 hwi
 go_loopw [5] (λs5 wr=>∃(j f:Nat) (acc:List UInt8),j≤s.size∧i+1≤j∧acc.length≤j∧s.size≤j+f∧s5=.int .i64 j∧Hid (zlF i (zfG s f j acc)=r)∧Hid (TX g s w wr i acc)) (λs5 _=>s.size-(intOf s5).toNat)
 case atStart=>exact⟨i+1,s.size,[],by omega,Nat.le_refl _,by simp,by omega,rfl,HR,T0⟩
 case round=>
  clear HR T0;obtain⟨j,f,acc,hj,hij,hal,hf,rfl,HR,HT⟩:=hrel;have c0:wr.cell? ⟨g,0,none⟩=some (.string s):=HT.out.at'.cell 0
  by_cases hlt:j<s.size
  ·have hlti:(j:Int)<(s.size:Int):=by omega
   have HJ:=HI.out j hlt;have q:=HR.out;rw[zpN hlt hf] at q;clear HR
   by_cases h10:bt s j=10
   ·rw[if_pos h10] at q;have HR2:Hid (r=.error 2):=zz q.symm;rw[h10] at HJ;clear q h10;have x0:wr.cell? ⟨w.heap.size,0,none⟩=some (.int .i64 0):=HT.out.box.cell 0;have x1:wr.cell? ⟨w.heap.size,1,none⟩=some (.string ⟨#[]⟩):=HT.out.box.cell 1;have x2:wr.cell? ⟨w.heap.size,2,none⟩=some (.int .i64 0):=HT.out.box.cell 2;have x3:wr.cell? ⟨w.heap.size,3,none⟩=some (.int .i64 0):=HT.out.box.cell 3;have z:=HT.out.box.fz;clear HI;go_wp2_with fail;exact bodyPost_ret (zah (q:=3) (by rfl) _ _ w.heap.size _ _ (0,0) _ rfl (zbA _ _ _ _ HT.out.box) Tryz.underlying140 rfl zcj) rfl (zen HT.out.own HR2.out _ _ _ _)
   ·rw[if_neg h10] at q
    by_cases h34:bt s j=34
    ·rw[if_pos h34] at q;rw[h34] at HJ;have KL:=zz HT.out.bld.len
     by_cases hbig:4096<acc.length
     ·have HR2:Hid (r=.error 15):=zz (by rw[←q,zlF,if_pos hbig]);have hbi:(4096:Int)<(acc.length:Int):=by omega
      clear q h10 h34;have x0:wr.cell? ⟨w.heap.size,0,none⟩=some (.int .i64 0):=HT.out.box.cell 0;have x1:wr.cell? ⟨w.heap.size,1,none⟩=some (.string ⟨#[]⟩):=HT.out.box.cell 1;have x2:wr.cell? ⟨w.heap.size,2,none⟩=some (.int .i64 0):=HT.out.box.cell 2;have x3:wr.cell? ⟨w.heap.size,3,none⟩=some (.int .i64 0):=HT.out.box.cell 3;have z:=HT.out.box.fz;clear HI;go_wp2_with fail;(with_reducible refine KL.out.mono ?_);rintro e w2 ⟨rfl,rfl⟩;go_wp2_with fail;exact bodyPost_ret (zah (q:=3) (by rfl) _ _ w.heap.size _ _ (0,0) _ rfl (zbA _ _ _ _ HT.out.box) Tryz.underlying140 rfl zcj) rfl (zen HT.out.own HR2.out _ _ _ _)
     ·have HR2:Hid (r=.ok (⟨3,⟨acc.toArray⟩,0,i⟩,j+1)):=zz (by rw[←q,zlF,if_neg hbig]);have hbi:¬(4096:Int)<(acc.length:Int):=by omega
      have hwj:IntKind.i64.wrap ((j:Int)+1)=(j:Int)+1:=IntWalk.i64_in _ (by omega);have c1:wr.cell? ⟨g,1,none⟩=some (.int .i64 (i:Int)):=HT.out.at'.cell 1;have zg:=HT.out.at'.fz;clear q h10 h34 HI;go_wp2_with fail;(with_reducible refine KL.out.mono ?_);rintro e w2 ⟨rfl,rfl⟩;have HT2:Hid (TX g s w (w2.setCell ⟨g,1,none⟩ (.int .i64 ((j:Int)+1))) (j+1) acc):=zz (HT.out.set (by omega) (j+1));obtain⟨w3,hw3⟩:∃W,w2.setCell ⟨g,1,none⟩ (.int .i64 ((j:Int)+1))=W:=⟨_,rfl⟩;rw[hw3] at HT2;have KS:=zz HT2.out.bld.string;go_wp2_with fail;clear hw3;(with_reducible refine KS.out.mono ?_);rintro e w4 ⟨rfl,hb⟩;have hT4:=HT2.out.low (by omega) hb;have O4:=zz hT4.1;have S4:=zz hT4.2.1;have X4:=zz hT4.2.2;clear hb hT4;have x0:w4.cell? ⟨w.heap.size,0,none⟩=some (.int .i64 0):=X4.out.cell 0;have x1:w4.cell? ⟨w.heap.size,1,none⟩=some (.string ⟨#[]⟩):=X4.out.cell 1;have x2:w4.cell? ⟨w.heap.size,2,none⟩=some (.int .i64 0):=X4.out.cell 2;have x3:w4.cell? ⟨w.heap.size,3,none⟩=some (.int .i64 0):=X4.out.cell 3;have z:=X4.out.fz;go_wp2_with fail;exact bodyPost_ret (zah (q:=3) (by rfl) _ _ w.heap.size _ _ (0,0) _ rfl (zbA _ _ _ _ X4.out) Tryz.underlying140 rfl zcj) rfl (zmo O4.out S4.out hg HR2.out _ _ _ _)
    ·rw[if_neg h34] at q
     by_cases h92:bt s j=92
     ·rw[if_pos h92] at q;rw[h92] at HJ;have hwj:IntKind.i64.wrap ((j:Int)+1)=(j:Int)+1:=IntWalk.i64_in _ (by omega)
      by_cases hend:j+1=s.size
      ·rw[if_pos hend] at q;have HR2:Hid (r=.error 2):=zz q.symm;have he1:(((j:Int)+1) == (s.size:Int))=true:=by rw[beq_iff_eq];omega
       clear q h10 h34 h92;have x0:wr.cell? ⟨w.heap.size,0,none⟩=some (.int .i64 0):=HT.out.box.cell 0;have x1:wr.cell? ⟨w.heap.size,1,none⟩=some (.string ⟨#[]⟩):=HT.out.box.cell 1;have x2:wr.cell? ⟨w.heap.size,2,none⟩=some (.int .i64 0):=HT.out.box.cell 2;have x3:wr.cell? ⟨w.heap.size,3,none⟩=some (.int .i64 0):=HT.out.box.cell 3;have z:=HT.out.box.fz;clear HI;go_wp2_with fail;exact bodyPost_ret (zah (q:=3) (by rfl) _ _ w.heap.size _ _ (0,0) _ rfl (zbA _ _ _ _ HT.out.box) Tryz.underlying140 rfl zcj) rfl (zen HT.out.own HR2.out _ _ _ _)
      ·rw[if_neg hend] at q;have he1:(((j:Int)+1) == (s.size:Int))=false:=by rw[beq_eq_false_iff_ne];omega
       have HJ1:∀W:World,(Instr.index 9 (.string s) (.int .i64 ((j:Int)+1))).run Tryz.prog W=.ok (.int .u8 ((bt s (j+1)).toNat:Int)) W:=λW=>HI.out (j+1) (by omega) W;have KU:=zz (λW=>zkB (bt s (j+1)) W);cases hec:escC (bt s (j+1)) with
       |none=>
        rw[hec] at KU q;have HR2:Hid (r=.error 2):=zz q.symm;clear q h10 h34 h92 hec;have x0:wr.cell? ⟨w.heap.size,0,none⟩=some (.int .i64 0):=HT.out.box.cell 0;have x1:wr.cell? ⟨w.heap.size,1,none⟩=some (.string ⟨#[]⟩):=HT.out.box.cell 1;have x2:wr.cell? ⟨w.heap.size,2,none⟩=some (.int .i64 0):=HT.out.box.cell 2;have x3:wr.cell? ⟨w.heap.size,3,none⟩=some (.int .i64 0):=HT.out.box.cell 3;have z:=HT.out.box.fz;clear HI;go_wp2_with fail;(with_reducible refine(KU.out _).mono ?_);rintro e w2 ⟨rfl,rfl⟩;go_wp2_with fail;exact bodyPost_ret (zah (q:=3) (by rfl) _ _ w.heap.size _ _ (0,0) _ rfl (zbA _ _ _ _ HT.out.box) Tryz.underlying140 rfl zcj) rfl (zen HT.out.own HR2.out _ _ _ _)
       |some c=>
        rw[hec] at KU q;have KB:=zz (HT.out.bld.writeByte c (by omega));have hwj2:IntKind.i64.wrap ((j:Int)+1+1)=((j+2:Nat):Int):=by rw[IntWalk.i64_in _ (by omega)];omega
        clear h10 h34 h92 hec HI;go_wp2_with fail;(with_reducible refine(KU.out _).mono ?_);rintro e w2 ⟨rfl,rfl⟩;go_wp2_with fail;(with_reducible refine KB.out.mono ?_);rintro e w3 ⟨rfl,hb3⟩;have HT3:=zz (HT.out.wrote (by omega) hb3);have HR3:Hid (zlF i (zfG s (f-1) (j+2) (acc++[c]))=r):=zz q;clear hb3 q;go_wp2_with fail;exact⟨⟨j+2,f-1,acc++[c],by omega,by omega,by simp;omega,by omega,rfl,HR3,HT3⟩,by simp[intOf];omega⟩
     ·rw[if_neg h92] at q;have KB:=zz (HT.out.bld.writeByte (bt s j) (by omega));have hwj:IntKind.i64.wrap ((j:Int)+1)=(j:Int)+1:=IntWalk.i64_in _ (by omega);have HR3:Hid (zlF i (zfG s (f-1) (j+1) (acc++[bt s j]))=r):=zz q;have b10:(((bt s j).toNat:Int) == 10)=false:=zcD (n:=10) h10;have b34:(((bt s j).toNat:Int) == 34)=false:=zcD (n:=34) h34;have b92:(((bt s j).toNat:Int) == 92)=false:=zcD (n:=92) h92;have HBW:=zz (λW (hb:zhl (w.heap.size+1) wr W (acc++[bt s j]))=>HT.out.wrote (by omega) hb);have hal2:(acc++[bt s j]).length≤j+1:=by simp;omega
      obtain⟨acc2,hacc2⟩:∃l,acc++[bt s j]=l:=⟨_,rfl⟩;rw[hacc2] at HR3 KB HBW hal2;obtain⟨Y,hY⟩:∃Y,((bt s j).toNat:Int)=Y:=⟨_,rfl⟩;rw[hY] at b10 b34 b92 HJ KB;clear q h10 h34 h92 hacc2 hY HI;go_wp2_with fail;(with_reducible refine KB.out.mono ?_);rintro e w3 ⟨rfl,hb3⟩;have HT3:=zz (HBW.out _ hb3);clear hb3;go_wp2_with fail;exact⟨⟨j+1,f-1,acc2,by omega,by omega,hal2,by omega,rfl,HR3,HT3⟩,by simp[intOf];omega⟩
  ·have HR2:Hid (r=.error 2):=zz (by rw[←HR.out,zoE hlt];rfl);have hlti:¬(j:Int)<(s.size:Int):=by omega
   have x0:wr.cell? ⟨w.heap.size,0,none⟩=some (.int .i64 0):=HT.out.box.cell 0;have x1:wr.cell? ⟨w.heap.size,1,none⟩=some (.string ⟨#[]⟩):=HT.out.box.cell 1;have x2:wr.cell? ⟨w.heap.size,2,none⟩=some (.int .i64 0):=HT.out.box.cell 2;have x3:wr.cell? ⟨w.heap.size,3,none⟩=some (.int .i64 0):=HT.out.box.cell 3;have z:=HT.out.box.fz;clear HI;go_wp2_with fail;exact bodyPost_ret (zah (q:=3) (by rfl) _ _ w.heap.size _ _ (0,0) _ rfl (zbA _ _ _ _ HT.out.box) Tryz.underlying140 rfl zcj) rfl (zen HT.out.own HR2.out _ _ _ _)
end Go.Proofs.YtjdpocmlimkjjaaGreat
