/- Conditions: those in each statement. -/
import Derived.Test.YtcebmphappfjjaaGreatDoorQ00
import Derived.Deep.RegionWith
import Derived.Laws.Strings
set_option maxHeartbeats 32000000
set_option maxRecDepth 100000
namespace Go.Proofs.YtcebmphappfjjaaGreatDoor
open Go.RowKit
def zcm (n c:Int):Option Int:=if c<48\/57<c then none else if n<(-9223372036854775808+(c-48)).tdiv 10 then none else some (n*10-(c-48))
def digs:List UInt8->Int->Option Int
 |[],n=>some n
 |c::r,n=>(zcm n (c.toNat:Int)).bind (digs r)
def zcU (neg:Bool) (low high:Int):Option Int->Int × Bool
 |none=>(0,false)
 |some n=>if neg then (if n<low\/high<n then (0,false) else (n,true)) else if n < -9223372036854775807 then (0,false) else if -n<low\/high < -n then (0,false) else (-n,true)
theorem zgc {l:List UInt8} {i:Nat} (hi:i<l.length) (n:Int):digs (l.drop i) n=(zcm n ((l.getD i 0).toNat:Int)).bind (digs (l.drop (i+1))):=by
 rw[List.drop_eq_getElem_cons hi,digs,List.getD_eq_getElem?_getD,List.getElem?_eq_getElem hi];rfl
theorem zjz {l:List UInt8} {i:Nat} (hi:¬i<l.length) (n:Int):digs (l.drop i) n=some n:=by
 rw[List.drop_eq_nil_of_le (by omega),digs]
theorem zjV {w:World} {dg:ByteArray} {pos:Nat} (h:pos<dg.size):∃(R W:Nat),1<=W/\R<=2147483647/\((R:Int)=zak dg pos/\R<128/\W=1\/128<=R/\128<=zak dg pos)/\
 ∀ty,(Instr.next (.pointer (some ⟨w.heap.size,0,none⟩)) true ty).run Tryz.prog (w.iter dg pos)=.ok (.tuple #[.bool true,.int .i64 pos,.int .i32 R]) (w.iter dg (pos+W)):=by
 have hn:=λty=>run_next_any (P:=Tryz.prog) w dg pos ty h
 have hb:zak dg pos=((dg[pos]'h).toNat:Int):=by
  unfold zak;rw[List.getD_eq_getElem?_getD,Array.getElem?_toList];have h2:pos<dg.data.size:=h;rw[Array.getElem?_eq_getElem h2];rfl
 have hle:=decode_le dg pos
 by_cases ha:(dg[pos]'h).toNat<128
 ·rw[decode_ascii dg pos h ha] at hn;exact⟨(dg[pos]'h).toNat,1,Nat.le_refl _,by omega,.inl ⟨hb.symm,ha,rfl⟩,hn⟩
 ·obtain⟨h1,h2⟩:=decode_high dg pos h (by omega);exact⟨_,_,h2,hle,.inr ⟨h1,by omega⟩,hn⟩
theorem zbb (w:World) (dg:ByteArray) (pos:Nat):Below w.heap.size w (w.iter dg pos):=(Below.refl _ _).alloc (Nat.le_refl _) _
theorem zpy {a:Int} (h:a<=0):a.tdiv 10=-((-a) / 10):=by
 obtain⟨m,rfl⟩:∃m:Int,a=-m:=⟨-a,by omega⟩;rw[Int.neg_tdiv,Int.tdiv_eq_ediv_of_nonneg (by omega),Int.neg_neg]
theorem zoG (s:ByteArray) (low high:Int) (w:World) (h0:s.size=0) :
 Calls Tryz.prog 54 #[.string s,.int .i64 low,.int .i64 high] w λe w'=>e=.returned (.tuple #[.int .i64 0,.bool false])/\Below w.heap.size w w':=by
 have he:s.toList=[]:=by rw[ByteArray.toList_eq];exact List.eq_nil_of_length_eq_zero (by rw[zai];exact h0)
 go_enter Tryz.func54,Tryz.ntmps54;go_wp2
 go_ret2
 exact⟨rfl,Below.refl _ _⟩
theorem zpg (s:ByteArray) (low high:Int) (w:World) (hs:s.size<=2097152) (h0:0<s.size) (hm:¬zak s 0=45) (hz:¬zak s 0=48) :
 Calls Tryz.prog 54 #[.string s,.int .i64 low,.int .i64 high] w λe w'=>e=.returned (.tuple #[.int .i64 (zcU false low high (digs s.data.toList 0)).1,.bool (zcU false low high (digs s.data.toList 0)).2])/\Below w.heap.size w w':=by
 have hne:¬s.toList=[]:=λh=>by
  rw[ByteArray.toList_eq] at h;have:=zai s;rw[h] at this;simp at this;omega
 have hemp:s.toList.isEmpty=false:=by simpa using hne
 have hi0:(Instr.index 9 (.string s) (.int .i64 0)).run Tryz.prog w=.ok (.int .u8 (zak s 0)) w:=by simpa using zaP s 0 h0 w
 have e45:(zak s 0 == 45)=false:=by simpa using hm
 have e48:(zak s 0 == 48)=false:=by simpa using hz
 obtain⟨X0,hX0⟩:∃X,zak s 0=X:=⟨_,rfl⟩;rw[hX0] at hi0 e45 e48 hm hz;clear hX0;go_enter Tryz.func54,Tryz.ntmps54;go_wp2_with fail
 go_loopw [10] (λs10 wr=>∃(pos:Nat) (n:Int),s10=.int .i64 n/\-9223372036854775807<=n+1/\n<=0/\pos<=s.size/\wr=w.iter s pos/\Hid (digs s.data.toList 0=digs (s.data.toList.drop pos) n)) (λ_ wr=>s.size-wr.iterPos w.heap.size)
 case atStart=>exact⟨0,0,rfl,by omega,by omega,by omega,rfl,zz (by rw[List.drop_zero])⟩
 case round=>
  obtain⟨pos,n,rfl,hn1,hn0,hp,rfl,HD⟩:=hrel;clear hi0
  by_cases hlt:pos<s.size
  ·obtain⟨R,W,hW,hR,hc,hnx⟩:=zjV (w:=w) (dg:=s) (pos:=pos) hlt;have HS:=zz (HD.out.trans (zgc (by rw[zai];exact hlt) n));rw[show ((s.data.toList.getD pos 0).toNat:Int)=zak s pos from rfl] at HS;have hbr:=zbt s pos;obtain⟨X,hX⟩:∃X,zak s pos=X:=⟨_,rfl⟩;rw[hX] at hc HS hbr;clear hX
   by_cases hd:48<=X/\X<=57
   ·obtain⟨d1,d2⟩:=hd
    obtain⟨hRX,_,rfl⟩:(R:Int)=X/\R<128/\W=1:=by
     rcases hc with h|h
     ·exact h
     ·omega
    subst hRX;have k1:¬(R:Int)<48:=by omega
    have k2:¬57<(R:Int):=by omega
    by_cases ht:n<(-9223372036854775808+((R:Int)-48)).tdiv 10
    ·have HE:Hid (digs s.data.toList 0=none):=zz (by
      rw[HS.out];unfold zcm;rw[if_neg (by omega),if_pos ht];rfl)
     clear HS hc;go_wp2
     go_ret2
     exact⟨by rw[HE.out];rfl,zbb _ _ _⟩
    ·have hq:-9223372036854775807<=n*10-((R:Int)-48)+1/\n*10-((R:Int)-48)<=0:=by
      rw[zpy (by omega)] at ht;omega
     have HE:Hid (digs s.data.toList 0=digs (s.data.toList.drop (pos+1)) (n*10-((R:Int)-48))):=zz (by
      rw[HS.out];unfold zcm;rw[if_neg (by omega),if_neg ht];rfl)
     clear HS hc;go_wp2_with fail;exact⟨⟨pos+1,_,rfl,by omega,by omega,by omega,rfl,HE⟩,by simp;omega⟩
   ·have HE:Hid (digs s.data.toList 0=none):=zz (by
     rw[HS.out];unfold zcm;rw[if_pos (by omega)];rfl)
    clear HS;rcases (show (R:Int)<48\/(¬(R:Int)<48/\57<(R:Int)) by omega) with h|⟨h,h'⟩
    all_goals
     clear hc hd;go_wp2
     go_ret2
     exact⟨by rw[HE.out];rfl,zbb _ _ _⟩
  ·have hnx:=λty=>run_next_end (P:=Tryz.prog) w s pos ty hlt;have HE:=zz (HD.out.trans (zjz (by rw[zai];exact hlt) n));clear HD;have HF:Hid (zcU false low high (some n)=if n < -9223372036854775807 then (0,false) else if -n<low\/high < -n then (0,false) else (-n,true)):=zz rfl
   by_cases hmin:n < -9223372036854775807
   ·have HG:=zz (HF.out.trans (if_pos hmin));obtain rfl:n=-9223372036854775808:=by omega
    clear HF;go_wp2
    go_ret2
    exact⟨by rw[HE.out,HG.out];rfl,zbb _ _ _⟩
   ·have HG:=zz (HF.out.trans (if_neg hmin));have hmb:(n == -9223372036854775808)=false:=by simp;omega
    clear HF
    by_cases ho:-n<low\/high < -n
    ·have HH:=zz (HG.out.trans (if_pos ho));clear HG;rcases (show -n<low\/(¬-n<low/\high < -n) by omega) with h|⟨h,h'⟩
     all_goals
      clear ho;go_wp2
      go_ret2
      exact⟨by rw[HE.out,HH.out];rfl,zbb _ _ _⟩
    ·have HH:=zz (HG.out.trans (if_neg ho));have h1:¬-n<low:=λh=>ho (.inl h);have h2:¬high < -n:=λh=>ho (.inr h);clear HG ho;go_wp2
     go_ret2
     exact⟨by rw[HE.out,HH.out];rfl,zbb _ _ _⟩
theorem zoR (s:ByteArray) (low high:Int) (w:World) (h1:1<s.size) (hz:zak s 0=48) :
 Calls Tryz.prog 54 #[.string s,.int .i64 low,.int .i64 high] w λe w'=>e=.returned (.tuple #[.int .i64 0,.bool false])/\Below w.heap.size w w':=by
 have h0:0<s.size:=by omega
 have hne:¬s.toList=[]:=λh=>by
  rw[ByteArray.toList_eq] at h;have:=zai s;rw[h] at this;simp at this;omega
 have hemp:s.toList.isEmpty=false:=by simpa using hne
 have hi0:(Instr.index 9 (.string s) (.int .i64 0)).run Tryz.prog w=.ok (.int .u8 (zak s 0)) w:=by simpa using zaP s 0 h0 w
 have e45:(zak s 0 == 45)=false:=by simp;omega
 have e48:(zak s 0 == 48)=true:=by simpa using hz
 have en:(s.toList == [48])=false:=by
  rw[beq_eq_false_iff_ne];intro h;rw[ByteArray.toList_eq] at h;have:=zai s;rw[h] at this;simp at this;omega
 obtain⟨X0,hX0⟩:∃X,zak s 0=X:=⟨_,rfl⟩;rw[hX0] at hi0 e45 e48 hz;clear hX0;clear hz;go_enter Tryz.func54,Tryz.ntmps54;go_wp2
 go_ret2
 exact⟨rfl,Below.refl _ _⟩
theorem zoT (low high:Int) (w:World) :
 Calls Tryz.prog 54 #[.string (ByteArray.mk #[48]),.int .i64 low,.int .i64 high] w λe w'=>e=.returned (.tuple #[.int .i64 (zcU false low high (digs (ByteArray.mk #[48]).data.toList 0)).1,.bool (zcU false low high (digs (ByteArray.mk #[48]).data.toList 0)).2])/\Below w.heap.size w w':=by
 obtain⟨s,hs1⟩:∃s,ByteArray.mk #[48]=s:=⟨_,rfl⟩;have h0:0<s.size:=by rw[<-hs1];decide
 have hs:s.size<=2097152:=by rw[<-hs1];decide
 have en:s.toList=[48]:=by rw[<-hs1,ByteArray.toList_eq]
 have e45:(zak s 0 == 45)=false:=by rw[<-hs1];rfl
 have e48:(zak s 0 == 48)=true:=by rw[<-hs1];rfl
 rw[hs1];clear hs1
 have hne:¬s.toList=[]:=λh=>by
  rw[ByteArray.toList_eq] at h;have:=zai s;rw[h] at this;simp at this;omega
 have hemp:s.toList.isEmpty=false:=by simpa using hne
 have hi0:(Instr.index 9 (.string s) (.int .i64 0)).run Tryz.prog w=.ok (.int .u8 (zak s 0)) w:=by simpa using zaP s 0 h0 w
 obtain⟨X0,hX0⟩:∃X,zak s 0=X:=⟨_,rfl⟩;rw[hX0] at hi0 e45 e48;clear hX0;go_enter Tryz.func54,Tryz.ntmps54;go_wp2_with fail
 go_loopw [10] (λs10 wr=>∃(pos:Nat) (n:Int),s10=.int .i64 n/\-9223372036854775807<=n+1/\n<=0/\pos<=s.size/\wr=w.iter s pos/\Hid (digs s.data.toList 0=digs (s.data.toList.drop pos) n)) (λ_ wr=>s.size-wr.iterPos w.heap.size)
 case atStart=>exact⟨0,0,rfl,by omega,by omega,by omega,rfl,zz (by rw[List.drop_zero])⟩
 case round=>
  obtain⟨pos,n,rfl,hn1,hn0,hp,rfl,HD⟩:=hrel;clear hi0
  by_cases hlt:pos<s.size
  ·obtain⟨R,W,hW,hR,hc,hnx⟩:=zjV (w:=w) (dg:=s) (pos:=pos) hlt;have HS:=zz (HD.out.trans (zgc (by rw[zai];exact hlt) n));rw[show ((s.data.toList.getD pos 0).toNat:Int)=zak s pos from rfl] at HS;have hbr:=zbt s pos;obtain⟨X,hX⟩:∃X,zak s pos=X:=⟨_,rfl⟩;rw[hX] at hc HS hbr;clear hX
   by_cases hd:48<=X/\X<=57
   ·obtain⟨d1,d2⟩:=hd
    obtain⟨hRX,_,rfl⟩:(R:Int)=X/\R<128/\W=1:=by
     rcases hc with h|h
     ·exact h
     ·omega
    subst hRX;have k1:¬(R:Int)<48:=by omega
    have k2:¬57<(R:Int):=by omega
    by_cases ht:n<(-9223372036854775808+((R:Int)-48)).tdiv 10
    ·have HE:Hid (digs s.data.toList 0=none):=zz (by
      rw[HS.out];unfold zcm;rw[if_neg (by omega),if_pos ht];rfl)
     clear HS hc;go_wp2
     go_ret2
     exact⟨by rw[HE.out];rfl,zbb _ _ _⟩
    ·have hq:-9223372036854775807<=n*10-((R:Int)-48)+1/\n*10-((R:Int)-48)<=0:=by
      rw[zpy (by omega)] at ht;omega
     have HE:Hid (digs s.data.toList 0=digs (s.data.toList.drop (pos+1)) (n*10-((R:Int)-48))):=zz (by
      rw[HS.out];unfold zcm;rw[if_neg (by omega),if_neg ht];rfl)
     clear HS hc;go_wp2_with fail;exact⟨⟨pos+1,_,rfl,by omega,by omega,by omega,rfl,HE⟩,by simp;omega⟩
   ·have HE:Hid (digs s.data.toList 0=none):=zz (by
     rw[HS.out];unfold zcm;rw[if_pos (by omega)];rfl)
    clear HS;rcases (show (R:Int)<48\/(¬(R:Int)<48/\57<(R:Int)) by omega) with h|⟨h,h'⟩
    all_goals
     clear hc hd;go_wp2
     go_ret2
     exact⟨by rw[HE.out];rfl,zbb _ _ _⟩
  ·have hnx:=λty=>run_next_end (P:=Tryz.prog) w s pos ty hlt;have HE:=zz (HD.out.trans (zjz (by rw[zai];exact hlt) n));clear HD;have HF:Hid (zcU false low high (some n)=if n < -9223372036854775807 then (0,false) else if -n<low\/high < -n then (0,false) else (-n,true)):=zz rfl
   by_cases hmin:n < -9223372036854775807
   ·have HG:=zz (HF.out.trans (if_pos hmin));obtain rfl:n=-9223372036854775808:=by omega
    clear HF;go_wp2
    go_ret2
    exact⟨by rw[HE.out,HG.out];rfl,zbb _ _ _⟩
   ·have HG:=zz (HF.out.trans (if_neg hmin));have hmb:(n == -9223372036854775808)=false:=by simp;omega
    clear HF
    by_cases ho:-n<low\/high < -n
    ·have HH:=zz (HG.out.trans (if_pos ho));clear HG;rcases (show -n<low\/(¬-n<low/\high < -n) by omega) with h|⟨h,h'⟩
     all_goals
      clear ho;go_wp2
      go_ret2
      exact⟨by rw[HE.out,HH.out];rfl,zbb _ _ _⟩
    ·have HH:=zz (HG.out.trans (if_neg ho));have h1:¬-n<low:=λh=>ho (.inl h);have h2:¬high < -n:=λh=>ho (.inr h);clear HG ho;go_wp2
     go_ret2
     exact⟨by rw[HE.out,HH.out];rfl,zbb _ _ _⟩
theorem zoL (s:ByteArray) (low high:Int) (w:World) (h1:s.size=1) (hm:zak s 0=45) :
 Calls Tryz.prog 54 #[.string s,.int .i64 low,.int .i64 high] w λe w'=>e=.returned (.tuple #[.int .i64 0,.bool false])/\Below w.heap.size w w':=by
 have h0:0<s.size:=by omega
 have hne:¬s.toList=[]:=λh=>by
  rw[ByteArray.toList_eq] at h;have:=zai s;rw[h] at this;simp at this;omega
 have hemp:s.toList.isEmpty=false:=by simpa using hne
 have hi0:(Instr.index 9 (.string s) (.int .i64 0)).run Tryz.prog w=.ok (.int .u8 (zak s 0)) w:=by simpa using zaP s 0 h0 w
 obtain⟨dg,hdg⟩:∃dg,s.extract 1 s.size=dg:=⟨_,rfl⟩
 have hsl:(Instr.slice 9 (.string s) (some (.int .i64 1)) none none).run Tryz.prog w=.ok (.string dg) w:=by
  rw[run_slice_string_l w _ s Tryz.underlying9 _ 1 (by omega) (by omega),<-hdg];rfl
 have hds:dg.size=s.size-1:=by rw[<-hdg,ByteArray.size_extract];omega
 have e45:(zak s 0 == 45)=true:=by simpa using hm
 have hde:dg.toList=[]:=by rw[ByteArray.toList_eq];exact List.eq_nil_of_length_eq_zero (by rw[zai];omega)
 obtain⟨X0,hX0⟩:∃X,zak s 0=X:=⟨_,rfl⟩;rw[hX0] at hi0 e45 hm;clear hX0;clear hm hdg h1;go_enter Tryz.func54,Tryz.ntmps54;go_wp2
 go_ret2
 exact⟨rfl,Below.refl _ _⟩
theorem zlS (s:ByteArray) (low high:Int) (w:World) (h1:1<s.size) (hm:zak s 0=45) (hz:zak s 1=48) :
 Calls Tryz.prog 54 #[.string s,.int .i64 low,.int .i64 high] w λe w'=>e=.returned (.tuple #[.int .i64 0,.bool false])/\Below w.heap.size w w':=by
 have h0:0<s.size:=by omega
 have hne:¬s.toList=[]:=λh=>by
  rw[ByteArray.toList_eq] at h;have:=zai s;rw[h] at this;simp at this;omega
 have hemp:s.toList.isEmpty=false:=by simpa using hne
 have hi0:(Instr.index 9 (.string s) (.int .i64 0)).run Tryz.prog w=.ok (.int .u8 (zak s 0)) w:=by simpa using zaP s 0 h0 w
 obtain⟨dg,hdg⟩:∃dg,s.extract 1 s.size=dg:=⟨_,rfl⟩
 have hsl:(Instr.slice 9 (.string s) (some (.int .i64 1)) none none).run Tryz.prog w=.ok (.string dg) w:=by
  rw[run_slice_string_l w _ s Tryz.underlying9 _ 1 (by omega) (by omega),<-hdg];rfl
 have hds:dg.size=s.size-1:=by rw[<-hdg,ByteArray.size_extract];omega
 have e45:(zak s 0 == 45)=true:=by simpa using hm
 have hdne:¬dg.toList=[]:=λh=>by
  rw[ByteArray.toList_eq] at h;have:=zai dg;rw[h] at this;simp at this;omega
 have hdemp:dg.toList.isEmpty=false:=by simpa using hdne
 have hd0:(Instr.index 9 (.string dg) (.int .i64 0)).run Tryz.prog w=.ok (.int .u8 (zak dg 0)) w:=by simpa using zaP dg 0 (by omega) w
 have hb1:zak dg 0=zak s 1:=by
  rw[<-hdg];unfold zak;rw[List.getD_eq_getElem?_getD,List.getD_eq_getElem?_getD,Array.getElem?_toList,Array.getElem?_toList,ByteArray.data_extract,Array.getElem?_extract,if_pos (by rw[show s.data.size=s.size from rfl];omega)]
 have e48:(zak dg 0 == 48)=true:=by rw[hb1];simpa using hz
 have en:(s.toList == [48])=false:=by
  rw[beq_eq_false_iff_ne];intro h;rw[ByteArray.toList_eq] at h;have:=zai s;rw[h] at this;simp at this;omega
 obtain⟨X0,hX0⟩:∃X,zak s 0=X:=⟨_,rfl⟩;rw[hX0] at hi0 e45 hm;clear hX0;obtain⟨X1,hX1⟩:∃X,zak dg 0=X:=⟨_,rfl⟩;rw[hX1] at hd0 e48;clear hm hdg hX1 hb1 hz hds;go_enter Tryz.func54,Tryz.ntmps54;go_wp2
 go_ret2
 exact⟨rfl,Below.refl _ _⟩
theorem zpv (s:ByteArray) (low high:Int) (w:World) (hs:s.size<=2097152) (h1:1<s.size) (hm:zak s 0=45) (hz:¬zak s 1=48) :
 Calls Tryz.prog 54 #[.string s,.int .i64 low,.int .i64 high] w λe w'=>e=.returned (.tuple #[.int .i64 (zcU true low high (digs (s.extract 1 s.size).data.toList 0)).1,.bool (zcU true low high (digs (s.extract 1 s.size).data.toList 0)).2])/\Below w.heap.size w w':=by
 have h0:0<s.size:=by omega
 have hne:¬s.toList=[]:=λh=>by
  rw[ByteArray.toList_eq] at h;have:=zai s;rw[h] at this;simp at this;omega
 have hemp:s.toList.isEmpty=false:=by simpa using hne
 have hi0:(Instr.index 9 (.string s) (.int .i64 0)).run Tryz.prog w=.ok (.int .u8 (zak s 0)) w:=by simpa using zaP s 0 h0 w
 obtain⟨dg,hdg⟩:∃dg,s.extract 1 s.size=dg:=⟨_,rfl⟩
 have hsl:(Instr.slice 9 (.string s) (some (.int .i64 1)) none none).run Tryz.prog w=.ok (.string dg) w:=by
  rw[run_slice_string_l w _ s Tryz.underlying9 _ 1 (by omega) (by omega),<-hdg];rfl
 have hds:dg.size=s.size-1:=by rw[<-hdg,ByteArray.size_extract];omega
 have e45:(zak s 0 == 45)=true:=by simpa using hm
 have hdne:¬dg.toList=[]:=λh=>by
  rw[ByteArray.toList_eq] at h;have:=zai dg;rw[h] at this;simp at this;omega
 have hdemp:dg.toList.isEmpty=false:=by simpa using hdne
 have hd0:(Instr.index 9 (.string dg) (.int .i64 0)).run Tryz.prog w=.ok (.int .u8 (zak dg 0)) w:=by simpa using zaP dg 0 (by omega) w
 have hb1:zak dg 0=zak s 1:=by
  rw[<-hdg];unfold zak;rw[List.getD_eq_getElem?_getD,List.getD_eq_getElem?_getD,Array.getElem?_toList,Array.getElem?_toList,ByteArray.data_extract,Array.getElem?_extract,if_pos (by rw[show s.data.size=s.size from rfl];omega)]
 have e48:(zak dg 0 == 48)=false:=by rw[hb1];simpa using hz
 obtain⟨X0,hX0⟩:∃X,zak s 0=X:=⟨_,rfl⟩;rw[hX0] at hi0 e45 hm;clear hX0;obtain⟨X1,hX1⟩:∃X,zak dg 0=X:=⟨_,rfl⟩;rw[hX1] at hd0 e48;rw[hdg];clear hm hdg hX1 hb1 hz;go_enter Tryz.func54,Tryz.ntmps54;go_wp2_with fail
 go_loopw [10] (λs10 wr=>∃(pos:Nat) (n:Int),s10=.int .i64 n/\-9223372036854775807<=n+1/\n<=0/\pos<=dg.size/\wr=w.iter dg pos/\Hid (digs dg.data.toList 0=digs (dg.data.toList.drop pos) n)) (λ_ wr=>dg.size-wr.iterPos w.heap.size)
 case atStart=>exact⟨0,0,rfl,by omega,by omega,by omega,rfl,zz (by rw[List.drop_zero])⟩
 case round=>
  obtain⟨pos,n,rfl,hn1,hn0,hp,rfl,HD⟩:=hrel;clear hi0 hd0 hsl
  by_cases hlt:pos<dg.size
  ·obtain⟨R,W,hW,hR,hc,hnx⟩:=zjV (w:=w) (dg:=dg) (pos:=pos) hlt;have HS:=zz (HD.out.trans (zgc (by rw[zai];exact hlt) n));rw[show ((dg.data.toList.getD pos 0).toNat:Int)=zak dg pos from rfl] at HS;have hbr:=zbt dg pos;obtain⟨X,hX⟩:∃X,zak dg pos=X:=⟨_,rfl⟩;rw[hX] at hc HS hbr;clear hX
   by_cases hd:48<=X/\X<=57
   ·obtain⟨d1,d2⟩:=hd
    obtain⟨hRX,_,rfl⟩:(R:Int)=X/\R<128/\W=1:=by
     rcases hc with h|h
     ·exact h
     ·omega
    subst hRX;have k1:¬(R:Int)<48:=by omega
    have k2:¬57<(R:Int):=by omega
    by_cases ht:n<(-9223372036854775808+((R:Int)-48)).tdiv 10
    ·have HE:Hid (digs dg.data.toList 0=none):=zz (by
      rw[HS.out];unfold zcm;rw[if_neg (by omega),if_pos ht];rfl)
     clear HS hc;go_wp2
     go_ret2
     exact⟨by rw[HE.out];rfl,zbb _ _ _⟩
    ·have hq:-9223372036854775807<=n*10-((R:Int)-48)+1/\n*10-((R:Int)-48)<=0:=by
      rw[zpy (by omega)] at ht;omega
     have HE:Hid (digs dg.data.toList 0=digs (dg.data.toList.drop (pos+1)) (n*10-((R:Int)-48))):=zz (by
      rw[HS.out];unfold zcm;rw[if_neg (by omega),if_neg ht];rfl)
     clear HS hc;go_wp2_with fail;exact⟨⟨pos+1,_,rfl,by omega,by omega,by omega,rfl,HE⟩,by simp;omega⟩
   ·have HE:Hid (digs dg.data.toList 0=none):=zz (by
     rw[HS.out];unfold zcm;rw[if_pos (by omega)];rfl)
    clear HS;rcases (show (R:Int)<48\/(¬(R:Int)<48/\57<(R:Int)) by omega) with h|⟨h,h'⟩
    all_goals
     clear hc hd;go_wp2
     go_ret2
     exact⟨by rw[HE.out];rfl,zbb _ _ _⟩
  ·have hnx:=λty=>run_next_end (P:=Tryz.prog) w dg pos ty hlt;have HE:=zz (HD.out.trans (zjz (by rw[zai];exact hlt) n));clear HD;have HG:Hid (zcU true low high (some n)=if n<low\/high<n then (0,false) else (n,true)):=zz rfl
   by_cases ho:n<low\/high<n
   ·have HH:=zz (HG.out.trans (if_pos ho));clear HG;rcases (show n<low\/(¬n<low/\high<n) by omega) with h|⟨h,h'⟩
    all_goals
     clear ho;go_wp2
     go_ret2
     exact⟨by rw[HE.out,HH.out];rfl,zbb _ _ _⟩
   ·have HH:=zz (HG.out.trans (if_neg ho));have h1:¬n<low:=λh=>ho (.inl h);have h2:¬high<n:=λh=>ho (.inr h);clear HG ho;go_wp2
    go_ret2
    exact⟨by rw[HE.out,HH.out];rfl,zbb _ _ _⟩
def zbD (s:ByteArray) (low high:Int):Int × Bool:=
 if s.size=0 then (0,false)
 else if zak s 0=45 then (if s.size=1\/zak s 1=48 then (0,false) else zcU true low high (digs (s.extract 1 s.size).data.toList 0))
 else if zak s 0=48/\¬s.size=1 then (0,false) else zcU false low high (digs s.data.toList 0)
theorem zsZ {s:ByteArray} (h:s.size=1) (hb:zak s 0=48):s=ByteArray.mk #[48]:=by
 apply zbX;rw[ByteArray.toList_eq];have hl:s.data.toList.length=1:=by rw[zai];exact h
 obtain⟨c,hc⟩:=List.length_eq_one_iff.1 hl;unfold zak at hb;rw[hc] at hb ⊢
 have:c=48:=by
  apply UInt8.toNat_inj.1;have:((c.toNat:Nat):Int)=48:=hb;have h2:(48:UInt8).toNat=48:=rfl;omega
 rw[this,ByteArray.toList_eq]
theorem zfQ (s:ByteArray) (low high:Int) (w:World) (hs:s.size<=2097152) :
 Calls Tryz.prog 54 #[.string s,.int .i64 low,.int .i64 high] w λe w'=>e=.returned (.tuple #[.int .i64 (zbD s low high).1,.bool (zbD s low high).2])/\Below w.heap.size w w':=by
 unfold zbD
 by_cases h0:s.size=0
 ·rw[if_pos h0];exact zoG s low high w h0
 rw[if_neg h0]
 by_cases hm:zak s 0=45
 ·rw[if_pos hm]
  by_cases h1:s.size=1
  ·rw[if_pos (.inl h1)];exact zoL s low high w h1 hm
  by_cases hz:zak s 1=48
  ·rw[if_pos (.inr hz)];exact zlS s low high w (by omega) hm hz
  ·rw[if_neg (λh=>h.elim h1 hz)];exact zpv s low high w hs (by omega) hm hz
 ·rw[if_neg hm]
  by_cases hz:zak s 0=48
  ·by_cases h1:s.size=1
   ·rw[if_neg (λh=>h.2 h1)];obtain rfl:=zsZ h1 hz;exact zoT low high w
   ·rw[if_pos ⟨hz,h1⟩];exact zoR s low high w (by omega) hz
  ·rw[if_neg (λh=>hz h.1)];exact zpg s low high w hs (by omega) hm hz
end Go.Proofs.YtcebmphappfjjaaGreatDoor
