/- Conditions: those in each statement. -/
import Derived.Test.YtcebmphappfjjaaGreatDoorV49
import Derived.Test.YtcebmphappfjjaaGreatDoorV35
set_option maxHeartbeats 32000000
set_option maxRecDepth 100000
namespace Go.Proofs.YtcebmphappfjjaaGreatDoor
open Go.RowKit Go.Sort
mutual
def zzC:V->Bool
 | .mk k _ _ _ _ l=>!((k == 9) || (k == 10))&&zzD l
def zzD:List V->Bool
 |[]=>true
 |v::r=>zzC v&&zzD r
end
theorem zBl:∀(l:List V) (i:Nat) (v:V),l[i]?=some v->zzC v=false->zzD l=false
 |[],i,v,h,_=>by simp at h
 |x::r,0,v,h,hv=>by simp at h;subst h;rw[zzD,hv];rfl
 |x::r,i+1,v,h,hv=>by rw[zzD,zBl r i v (by simpa using h) hv];simp
theorem zAT:∀(l:List V),(∀(i:Nat) (v:V),l[i]?=some v->zzC v=true)->zzD l=true
 |[],_=>by rw[zzD]
 |x::r,h=>by
  rw[zzD,h 0 x rfl,zAT r (λi v hv=>h (i+1) v (by simpa using hv))];rfl
mutual
theorem zBb:∀v:V,allN zdZ v=(allN zbL v&&zzC v)
 |.mk k t n m s l=>by
  rw[allN,allN,zzC,zAP l];unfold zdZ
  show (_&&(k != 9&&k != 10&&_))=_
  unfold bne;cases (k == 9)<;>cases (k == 10)<;>cases zzM zbL l<;>cases zzD l<;>cases zbL (.mk k t n m s l)<;>rfl
theorem zAP:∀l:List V,zzM zdZ l=(zzM zbL l&&zzD l)
 |[]=>rfl
 |v::r=>by
  rw[zzM,zzM,zzD,zBb v,zAP r];cases allN zbL v<;>cases zzM zbL r<;>cases zzC v<;>cases zzD r<;>rfl
end
theorem zDJ (v:V):zfN v=(zkS zbL v&&zzC v):=by
 have h1:=(zzX zdZ v 16384).1;have h2:=(zzX zbL v 16384).1;rw[zBb] at h1;unfold zfN zkS;rw[Bool.eq_iff_iff,h1,Bool.and_eq_true,Bool.and_eq_true,h2];exact⟨λh=>⟨⟨h.1,h.2.1⟩,h.2.2⟩,λh=>⟨h.1.1,h.1.2,h.2⟩⟩
theorem zCS:∀(N:Nat) (k:Int) (t:ByteArray) (n m:Int) (s:ByteArray) (l:List V) (A:Option Addr) (c:Nat) (w:World),(V.mk k t n m s l).bulk<=N->N<=2097152->Rd (Lt w.heap.size) w (vs l) (.slice A l.length c)->
 Calls Tryz.prog 109 #[.agg #[↑k,↑t,↑n,↑m,↑s,.slice A l.length c]] w λe w'=>e=.returned (.bool (zzC (.mk k t n m s l)))/\Below w.heap.size w w':=by
 intro N
 induction N with
 |zero=>
  intro k t n m s l A c w hb;rw[zbv] at hb;omega
 |succ N ih=>
  intro k t n m s l A c w hb hN hr;rw[zbv] at hb;have hll:=zdB l;have HR:=zz hr;have IH:=zz ih;have HU:Hid (zzC (.mk k t n m s l)=(zzD l&&!((k == 9) || (k == 10)))):=zz (by rw[zzC,Bool.and_comm]);generalize zzC (.mk k t n m s l)=R at *
  clear hr ih;go_in;go_wp2
  go_loopw [3] (λs3 wr=>∃(i:Nat),i<=l.length/\s3=↑i/\Hid (∀(j:Nat) (v:V),j<i->l[j]?=some v->zzC v=true)/\Hid (Below (w.heap.size+1) (w.alloc (.cells #[↑k,↑t,↑n,↑m,↑s,.slice A l.length c] 24)) wr)) (λs3 _=>l.length-(intOf s3).toNat)
  case atStart=>exact⟨0,zo,rfl,zz (λj v h=>absurd h zo),zz (Below.refl _ _)⟩
  case round=>
   obtain⟨i,hi,rfl,HQ,HB⟩:=hrel;have hbx:wr.heap[w.heap.size]?=some (.cells #[↑k,↑t,↑n,↑m,↑s,.slice A l.length c] 24 (0,0)):=(HB.out.block w.heap.size zo).trans (heap_alloc_new w _);have hc5:wr.cell? ⟨w.heap.size,5,none⟩=some (.slice A l.length c):=by rw[Lib.cell_of_heap hbx];rfl
   have hbw:Below w.heap.size w wr:=((Below.refl w.heap.size w).alloc (Nat.le_refl _) _).trans (HB.out.mono zo);have hwz:w.heap.size+1<=wr.heap.size:=by have:=HB.out.size;simpa using this
   by_cases hlt:i<l.length
   ·clear hbx;obtain⟨b,off,kd,t',n',m',s',l',A',c',e,hlb,hget,h2⟩:=zrO (HR.out.belows hbw) hlt;subst e;obtain⟨c0,c1,c2,c3,c4,c5,r5⟩:=h2;have hbk:=zeK _ _ _ hget;have HC:=zz (IH.out kd t' n' m' s' l' A' c' wr zo zo r5);have HG:=zz hget;have HBW:=zz hbw;clear r5 hget hbw;cases hq:zzC (.mk kd t' n' m' s' l') with
    |false=>
     have HE:Hid (R=false):=zz (by rw[HU.out,zBl l i _ HG.out hq];rfl);rw[hq] at HC;clear hq;go_wp2_with fail;refine zi HC ?_;rintro e w4 ⟨rfl,hb4⟩;have B4:=zz (HBW.out.trans (hb4.mono HBW.out.size));clear hb4;go_wp2;go_ret;exact⟨by rw[HE.out];rfl,B4.out⟩
    |true=>
     have HQ2:Hid (∀(j:Nat) (v:V),j<i+1->l[j]?=some v->zzC v=true):=zz (λj v hj hv=>by
      rcases Nat.lt_or_eq_of_le (Nat.lt_succ_iff.1 hj) with h|h
      ·exact HQ.out j v h hv
      ·subst h;rw[HG.out] at hv;rw[<-Option.some.inj hv];exact hq)
     rw[hq] at HC;clear hq HBW;go_wp2_with fail;refine zi HC ?_;rintro e w4 ⟨rfl,hb4⟩;have B4:=zz (HB.out.trans (hb4.mono hwz));clear hb4;go_wp2;exact⟨⟨i+1,zo,by go_num,HQ2,B4⟩,by simp[intOf];omega⟩
   ·obtain rfl:i=l.length:=zo
    have HE:Hid (R=!((k == 9) || (k == 10))):=zz (by
     rw[HU.out,zAT l (λj v hv=>HQ.out j v (List.getElem?_eq_some_iff.1 hv).1 hv),Bool.true_and])
    have HBW:=zz hbw;have q0:wr.cell? ⟨w.heap.size,0,none⟩=some ↑k:=by rw[Lib.cell_of_heap hbx];rfl
    clear hbw HQ hbx;cases h9:(k == 9) with
    |true=>
     rw[h9] at HE;have hn9:(k != 9)=false:=by rw[bne,h9];rfl
     go_wp2;go_ret;exact⟨by rw[HE.out];rfl,HBW.out⟩
    |false=>
     rw[h9] at HE;have hn9:(k != 9)=true:=by rw[bne,h9];rfl
     cases h10:(k == 10) with
     |true=>
      rw[h10] at HE;have hn10:(k != 10)=false:=by rw[bne,h10];rfl
      go_wp2;go_ret;exact⟨by rw[HE.out];rfl,HBW.out⟩
     |false=>
      rw[h10] at HE;have hn10:(k != 10)=true:=by rw[bne,h10];rfl
      go_wp2;go_ret;exact⟨by rw[HE.out];rfl,HBW.out⟩
theorem zCj (k:Int) (t:ByteArray) (n m:Int) (s:ByteArray) (l:List V) (A:Option Addr) (c:Nat) (w:World) (hb:(V.mk k t n m s l).bulk<=2097152) (hr:Rd (Lt w.heap.size) w (vs l) (.slice A l.length c)) :
 Calls Tryz.prog 61 #[.agg #[↑k,↑t,↑n,↑m,↑s,.slice A l.length c]] w λe w'=>e=.returned (.bool (zfN (.mk k t n m s l)))/\Below w.heap.size w w':=by
 have HS:=zz (λW h=>zCS _ k t n m s l A c W (Nat.le_refl _) hb h);have HC:=zz (λW h=>zAd k t n m s l A c W hb h);have HR:=zz hr;obtain⟨R,hR⟩:=zn (zfN (.mk k t n m s l));have HU:Hid (R=(zkS zbL (.mk k t n m s l)&&zzC (.mk k t n m s l))):=zz (by rw[<-hR,zDJ]);rw[hR];generalize zkS zbL (.mk k t n m s l)=g1 at *
 generalize zzC (.mk k t n m s l)=g2 at *
 clear hR hr;go_in;go_wp2_with fail;(with_reducible refine(HC.out _ (HR.out.allocs _)).mono ?_);rintro e w1 ⟨rfl,hb1⟩;have B1:=zz (((Below.refl w.heap.size w).alloc (Nat.le_refl _) _).trans (hb1.mono zs));have hX:=(hb1.block w.heap.size zs).trans (heap_alloc_new w (.cells #[↑k,↑t,↑n,↑m,↑s,.slice A l.length c] 24));have x0:w1.cell? ⟨w.heap.size,0,none⟩=some ↑k:=by rw[Lib.cell_of_heap hX];rfl
 have x1:w1.cell? ⟨w.heap.size,1,none⟩=some ↑t:=by rw[Lib.cell_of_heap hX];rfl
 have x2:w1.cell? ⟨w.heap.size,2,none⟩=some ↑n:=by rw[Lib.cell_of_heap hX];rfl
 have x3:w1.cell? ⟨w.heap.size,3,none⟩=some ↑m:=by rw[Lib.cell_of_heap hX];rfl
 have x4:w1.cell? ⟨w.heap.size,4,none⟩=some ↑s:=by rw[Lib.cell_of_heap hX];rfl
 have x5:w1.cell? ⟨w.heap.size,5,none⟩=some (.slice A l.length c):=by rw[Lib.cell_of_heap hX];rfl
 clear hb1 hX;cases g1 with
 |false=>
  go_wp2;go_ret;exact⟨by rw[HU.out];rfl,B1.out⟩
 |true=>
  go_wp2_with fail;(with_reducible refine(HS.out _ (HR.out.belows B1.out)).mono ?_);rintro e w2 ⟨rfl,hb2⟩;have B2:=zz (B1.out.trans (hb2.mono B1.out.size));clear hb2;go_wp2;go_ret;exact⟨by rw[HU.out];rfl,B2.out⟩
end Go.Proofs.YtcebmphappfjjaaGreatDoor
