/- Conditions: those in each statement. -/
import Derived.Test.YtcebmphappfjjaaGreatDoorV08
import Derived.Test.YtcebmphappfjjaaGreatDoorV25
import Derived.Test.YtcebmphappfjjaaGreatDoorV00
import Derived.Lib.AppendStr
import Derived.Lib.OthersKept
import Derived.Lib.UnsafeStr
import Derived.Laws.IdiomStrings
set_option maxHeartbeats 32000000
set_option maxRecDepth 100000
namespace Go.Proofs.YtcebmphappfjjaaGreatDoor
open Go.RowKit
mutual
def zgJ:V->List UInt8
 |.mk k t n m s l=>(numZ k).data.toList++(zoI t).data.toList++(intB n).data.toList++(intB m).data.toList++(zoI s).data.toList++(numB l.length).data.toList++zeP l
def zeP:List V->List UInt8
 |[]=>[]
 |v::r=>zgJ v++zeP r
end
mutual
def V.Wf:V->Prop
 |.mk k _ n m _ l=>(-9223372036854775808<=k/\k<=9223372036854775807)/\(-9223372036854775808<=n/\n<=9223372036854775807)/\(-9223372036854775808<=m/\m<=9223372036854775807)/\WfV l
def WfV:List V->Prop
 |[]=>True
 |v::r=>v.Wf/\WfV r
end
theorem zxq:∀(l:List V) (i:Nat) (v:V),WfV l->l[i]?=some v->v.Wf
 |[],i,v,_,h=>by simp at h
 |x::r,0,v,hw,h=>by simp at h;subst h;rw[WfV] at hw;exact hw.1
 |x::r,i+1,v,hw,h=>by rw[WfV] at hw;exact zxq r i v hw.2 (by simpa using h)
theorem zvk:∀(l:List V) (k:Nat) (v:V),l[k]?=some v->zeP (l.take (k+1))=zeP (l.take k)++zgJ v
 |[],k,v,h=>by simp at h
 |x::r,0,v,h=>by simp at h;subst h;simp[zeP]
 |x::r,k+1,v,h=>by
  have:=zvk r k v (by simpa using h);rw[List.take_succ_cons,zeP,this,List.take_succ_cons,zeP,List.append_assoc]
theorem zpJ (n:Int):(numZ n).size<=9:=by
 unfold numZ;split
 ·simp[ByteArray.size]
 ·exact zfP _
theorem zjo (s:ByteArray):(zoI s).size<=9+s.size:=by
 unfold zoI;rw[ByteArray.size_append];have:=zfP s.size;omega
mutual
theorem znK:∀v:V,(zgJ v).length<=9*v.bulk
 |.mk k t n m s l=>by
  have:=zhB l;have h1:=zpJ k;have h2:=zjo t;have h3:=zkO n;have h4:=zkO m;have h5:=zjo s;have h6:=zfP l.length;rw[zgJ,zbv];simp only[List.length_append,zai];omega
theorem zhB:∀l:List V,(zeP l).length<=9*zcl l
 |[]=>by simp[zeP]
 |v::r=>by
  have:=znK v;have:=zhB r;rw[zeP,zbK,List.length_append];omega
end
theorem zvK:∀(l:List V) (k:Nat),zcl (l.take k)<=zcl l
 |[],k=>by simp
 |x::r,0=>by simp[zcl]
 |x::r,k+1=>by have:=zvK r k;rw[List.take_succ_cons,zbK,zbK];omega
theorem zqQ {w w':World} {B e k n:Nat} {v:Value} {xs:List Value} (h:w.ownsRow B e k v n xs) (hb:Below w.heap.size w w'):w'.ownsRow B e k v n xs:=by
 refine⟨h.1,?_⟩;rcases h.2 with h2|⟨g,cap,cur,h1,h2,h3,h4⟩
 ·exact .inl h2
 ·exact .inr ⟨g,cap,cur,h1,h2,(hb.block g (Array.getElem?_eq_some_iff.1 h3).1).trans h3,h4⟩
def EncS (B:Nat) (w0 w:World) (v:Value) (bs:List UInt8):Prop:=
 w.ownsRow B 5 1 v bs.length (Lib.byteCells bs)/\Below B w0 w/\Lib.OthersKept 5 none w0 w/\B<=w.heap.size
theorem EncS.below {B:Nat} {w0 w w':World} {v:Value} {bs:List UInt8} (h:EncS B w0 w v bs) (hb:Below w.heap.size w w'):EncS B w0 w' v bs:=
 ⟨zqQ h.1 hb,h.2.1.trans (hb.mono h.2.2.2),h.2.2.1.trans (λk _ hk _ _=>(hb.block k (Array.getElem?_eq_some_iff.1 hk).1).trans hk),Nat.le_trans h.2.2.2 hb.size⟩
theorem EncS.app {B:Nat} {w0 w w':World} {v v':Value} {bs:List UInt8} {s:ByteArray} (h:EncS B w0 w v bs) (hown:w'.ownsRow B 5 1 v' (bs.length+s.size) (Lib.byteCells bs++Lib.strCells s)) (hg:w.grownBy w' v.ownBlock):EncS B w0 w' v' (bs++s.data.toList):=by
 obtain⟨h1,h2,h3,h4⟩:=h;refine⟨?_,h2.grown hg h4 (λk hk=>(h1.lt k hk).1),h3.grown hg (λg hg'=>?_),Nat.le_trans h4 hg.size⟩
 ·rw[List.length_append,zai,show Lib.byteCells (bs++s.data.toList)=Lib.byteCells bs++Lib.strCells s by simp[Lib.byteCells,Lib.strCells]];exact hown
 ·rcases h1.2 with ⟨rfl,_⟩|⟨g',cap,cur,rfl,_,hc,_⟩
  ·simp[Value.ownBlock] at hg'
  ·simp only[Value.ownBlock,Option.some.injEq] at hg';subst hg';exact⟨cur,(0,0),hc⟩
theorem EncS.trans {B:Nat} {w0 w w':World} {v v':Value} {bs bs':List UInt8} (h:EncS B w0 w v bs) (h':EncS B w w' v' bs'):EncS B w0 w' v' bs':=
 ⟨h'.1,h.2.1.trans h'.2.1,h.2.2.1.trans h'.2.2.1,h'.2.2.2⟩
theorem EncS.box {B:Nat} {w0 w:World} {v:Value} {bs:List UInt8} (h:EncS B w0 w v bs) {g:Nat} {cs:Array Value} (hg:w0.heap[g]?=some (.cells cs 24 (0,0))):w.heap[g]?=some (.cells cs 24 (0,0)):=
 h.2.2.1 g _ hg zs (λc fz e=>by injection e with _ e2 _;exact absurd e2 zd)
theorem EncS.alloc {B:Nat} {w0 w:World} {v:Value} {bs:List UInt8} (h:EncS B w0 w v bs) (o:Obj):EncS B w0 (w.alloc o) v bs:=
 h.below ((Below.refl _ _).alloc (Nat.le_refl _) o)
theorem EncS.new {B:Nat} {w:World} {v:Value} {bs:List UInt8} (h:w.ownsRow B 5 1 v bs.length (Lib.byteCells bs)) (hB:B<=w.heap.size):EncS B w w v bs:=⟨h,Below.refl _ _,Lib.OthersKept.refl _ _ _,hB⟩
theorem EncS.boxed {B:Nat} {w w':World} {o:Obj} {v:Value} {bs:List UInt8} (hB:B<=w.heap.size) (h:EncS B (w.alloc o) w' v bs):EncS B w w' v bs:=
 ⟨h.1,((Below.refl B w).alloc hB o).trans h.2.1,(Lib.OthersKept.alloc (Lib.OthersKept.refl _ _ w) o).trans h.2.2.1,h.2.2.2⟩
theorem zvz:∀(l:List V) (i:Nat) (v:V),l[i]?=some v->zcl (l.take i)+v.bulk<=zcl l
 |[],i,v,h=>by simp at h
 |x::r,0,v,h=>by simp at h;subst h;simp[zcl]
 |x::r,i+1,v,h=>by have:=zvz r i v (by simpa using h);rw[List.take_succ_cons,zbK,zbK];omega
def zyj (B:Nat) (acc:List UInt8) (v:V) (w:World) (e:Ending) (w':World):Prop:=∃vb,e=.returned vb/\EncS B w w' vb (acc++zgJ v)
theorem zyO:(Tryz.prog.info? 5).map (λi=>(i.zero,i.size,i.bytes))=some (some (.int .u8 0),1,1):=by kernel_rfl
theorem zwP (B:Nat):∀(N:Nat) (k:Int) (t:ByteArray) (n m:Int) (s:ByteArray) (l:List V) (acc:List UInt8) (vb:Value) (A:Option Addr) (c:Nat) (w:World),(V.mk k t n m s l).bulk<=N->N<=2097152->(V.mk k t n m s l).Wf->acc.length+9*(V.mk k t n m s l).bulk<=1073741824->
 w.ownsRow B 5 1 vb acc.length (Lib.byteCells acc)->B<=w.heap.size->Rd (Lt B) w (vs l) (.slice A l.length c)->
 Calls Tryz.prog 63 #[vb,.agg #[↑k,↑t,↑n,↑m,↑s,.slice A l.length c]] w (zyj B acc (.mk k t n m s l) w):=by
 intro N
 induction N with
 |zero=>
  intro k t n m s l acc vb A c w hb;rw[zbv] at hb;omega
 |succ N ih=>
  intro k t n m s l acc vb A c w hb hN hwf hacc hown hB hr;rw[zbv] at hb hacc;rw[V.Wf] at hwf;obtain⟨⟨k0,k1⟩,⟨n0,n1⟩,⟨m0,m1⟩,hwl⟩:=hwf;have hll:=zdB l;obtain⟨i0,hi,hz0,hz1,hz2⟩:=info_parts zyO;have HR:=zz hr;have IH:=zz ih;have HW:=zz hwl;have HI:=zz (And.intro hi (And.intro hz0 (And.intro hz1 hz2)));have h1:=zpJ k;have h2:=zjo t;have h3:=zkO n;have h4:=zkO m;have h5:=zjo s;have h6:=zfP l.length;have HO:Hid (EncS B (w.alloc (.cells #[↑k,↑t,↑n,↑m,↑s,.slice A l.length c] 24)) (w.alloc (.cells #[↑k,↑t,↑n,↑m,↑s,.slice A l.length c] 24)) vb acc):=zz (EncS.new (zqQ hown ((Below.refl _ _).alloc (Nat.le_refl _) _)) (by simp;omega));have HG:Hid ((w.alloc (.cells #[↑k,↑t,↑n,↑m,↑s,.slice A l.length c] 24)).heap[w.heap.size]?=some (.cells #[↑k,↑t,↑n,↑m,↑s,.slice A l.length c] 24 (0,0))):=zz (heap_alloc_new w _);clear hr ih hwl hi hz0 hz1 hz2 hown;go_in;go_wp2_with fail;(with_reducible refine(zwn k zo _).mono ?_);rintro e w1 ⟨rfl,hb0⟩;have E1:=zz (HO.out.below hb0);clear hb0;go_wp2_with (at_builtin;refine Lib.wpList_append_own_string _ rfl _ _ 99 9 rfl B 5 i0 Tryz.underlying99 Tryz.underlying9 HI.out.1 HI.out.2.1 HI.out.2.2.1 HI.out.2.2.2 _ _ _ rfl E1.out.1 (numZ k) rfl ?c0 ?d0 E1.out.2.2.2 ?_)
  case c0=>unfold maxLen;omega
  case d0=>omega
  intro v0 w2 ho0 hg0 _;have E2:=zz (E1.out.app ho0 hg0);clear ho0 hg0 E1;obtain⟨a1,ha1⟩:∃a,a=acc++(numZ k).data.toList:=⟨_,rfl⟩;rw[<-ha1] at E2;have la1:a1.length<=acc.length+9:=by rw[ha1,List.length_append,zai];omega
  have HA1:=zz ha1;clear ha1;have HG0:Hid (w2.heap[w.heap.size]?=some (.cells #[↑k,↑t,↑n,↑m,↑s,.slice A l.length c] 24 (0,0))):=zz (E2.out.box HG.out);have q0_1:w2.cell? ⟨w.heap.size,1,none⟩=some ↑t:=Lib.cell_of_heap HG0.out 1;go_wp2_with fail;(with_reducible refine(zwE t zo _).mono ?_);rintro e w3 ⟨rfl,hb1⟩;have E3:=zz (E2.out.below hb1);clear E2;clear hb1;go_wp2_with (at_builtin;refine Lib.wpList_append_own_string _ rfl _ _ 99 9 rfl B 5 i0 Tryz.underlying99 Tryz.underlying9 HI.out.1 HI.out.2.1 HI.out.2.2.1 HI.out.2.2.2 _ _ _ rfl E3.out.1 (zoI t) rfl ?c1 ?d1 E3.out.2.2.2 ?_)
  case c1=>unfold maxLen;omega
  case d1=>omega
  intro v1 w4 ho1 hg1 _;have E4:=zz (E3.out.app ho1 hg1);clear ho1 hg1 E3;obtain⟨a2,ha2⟩:∃a,a=a1++(zoI t).data.toList:=⟨_,rfl⟩;rw[<-ha2] at E4;have la2:a2.length<=a1.length+(9+t.size):=by rw[ha2,List.length_append,zai];omega
  have HA2:=zz ha2;clear ha2;have HG1:Hid (w4.heap[w.heap.size]?=some (.cells #[↑k,↑t,↑n,↑m,↑s,.slice A l.length c] 24 (0,0))):=zz (E4.out.box HG.out);have q1_2:w4.cell? ⟨w.heap.size,2,none⟩=some ↑n:=Lib.cell_of_heap HG1.out 2;go_wp2_with fail;(with_reducible refine(zxo n _).mono ?_);rintro e w5 ⟨rfl,hb2⟩;have E5:=zz (E4.out.below hb2);clear E4;clear hb2;go_wp2_with (at_builtin;refine Lib.wpList_append_own_string _ rfl _ _ 99 9 rfl B 5 i0 Tryz.underlying99 Tryz.underlying9 HI.out.1 HI.out.2.1 HI.out.2.2.1 HI.out.2.2.2 _ _ _ rfl E5.out.1 (intB n) rfl ?c2 ?d2 E5.out.2.2.2 ?_)
  case c2=>unfold maxLen;omega
  case d2=>omega
  intro v2 w6 ho2 hg2 _;have E6:=zz (E5.out.app ho2 hg2);clear ho2 hg2 E5;obtain⟨a3,ha3⟩:∃a,a=a2++(intB n).data.toList:=⟨_,rfl⟩;rw[<-ha3] at E6;have la3:a3.length<=a2.length+9:=by rw[ha3,List.length_append,zai];omega
  have HA3:=zz ha3;clear ha3;have HG2:Hid (w6.heap[w.heap.size]?=some (.cells #[↑k,↑t,↑n,↑m,↑s,.slice A l.length c] 24 (0,0))):=zz (E6.out.box HG.out);have q2_3:w6.cell? ⟨w.heap.size,3,none⟩=some ↑m:=Lib.cell_of_heap HG2.out 3;go_wp2_with fail;(with_reducible refine(zxo m _).mono ?_);rintro e w7 ⟨rfl,hb3⟩;have E7:=zz (E6.out.below hb3);clear E6;clear hb3;go_wp2_with (at_builtin;refine Lib.wpList_append_own_string _ rfl _ _ 99 9 rfl B 5 i0 Tryz.underlying99 Tryz.underlying9 HI.out.1 HI.out.2.1 HI.out.2.2.1 HI.out.2.2.2 _ _ _ rfl E7.out.1 (intB m) rfl ?c3 ?d3 E7.out.2.2.2 ?_)
  case c3=>unfold maxLen;omega
  case d3=>omega
  intro v3 w8 ho3 hg3 _;have E8:=zz (E7.out.app ho3 hg3);clear ho3 hg3 E7;obtain⟨a4,ha4⟩:∃a,a=a3++(intB m).data.toList:=⟨_,rfl⟩;rw[<-ha4] at E8;have la4:a4.length<=a3.length+9:=by rw[ha4,List.length_append,zai];omega
  have HA4:=zz ha4;clear ha4;have HG3:Hid (w8.heap[w.heap.size]?=some (.cells #[↑k,↑t,↑n,↑m,↑s,.slice A l.length c] 24 (0,0))):=zz (E8.out.box HG.out);have q3_4:w8.cell? ⟨w.heap.size,4,none⟩=some ↑s:=Lib.cell_of_heap HG3.out 4;go_wp2_with fail;(with_reducible refine(zwE s zo _).mono ?_);rintro e w9 ⟨rfl,hb4⟩;have E9:=zz (E8.out.below hb4);clear E8;clear hb4;go_wp2_with (at_builtin;refine Lib.wpList_append_own_string _ rfl _ _ 99 9 rfl B 5 i0 Tryz.underlying99 Tryz.underlying9 HI.out.1 HI.out.2.1 HI.out.2.2.1 HI.out.2.2.2 _ _ _ rfl E9.out.1 (zoI s) rfl ?c4 ?d4 E9.out.2.2.2 ?_)
  case c4=>unfold maxLen;omega
  case d4=>omega
  intro v4 w10 ho4 hg4 _;have E10:=zz (E9.out.app ho4 hg4);clear ho4 hg4 E9;obtain⟨a5,ha5⟩:∃a,a=a4++(zoI s).data.toList:=⟨_,rfl⟩;rw[<-ha5] at E10;have la5:a5.length<=a4.length+(9+s.size):=by rw[ha5,List.length_append,zai];omega
  have HA5:=zz ha5;clear ha5;have HG4:Hid (w10.heap[w.heap.size]?=some (.cells #[↑k,↑t,↑n,↑m,↑s,.slice A l.length c] 24 (0,0))):=zz (E10.out.box HG.out);have q4_5:w10.cell? ⟨w.heap.size,5,none⟩=some (.slice A l.length c):=Lib.cell_of_heap HG4.out 5;go_wp2_with fail;(with_reducible refine(zws l.length zo _).mono ?_);rintro e w11 ⟨rfl,hb5⟩;have E11:=zz (E10.out.below hb5);clear E10;clear hb5;go_wp2_with (at_builtin;refine Lib.wpList_append_own_string _ rfl _ _ 99 9 rfl B 5 i0 Tryz.underlying99 Tryz.underlying9 HI.out.1 HI.out.2.1 HI.out.2.2.1 HI.out.2.2.2 _ _ _ rfl E11.out.1 (numB l.length) rfl ?c5 ?d5 E11.out.2.2.2 ?_)
  case c5=>unfold maxLen;omega
  case d5=>omega
  intro v5 w12 ho5 hg5 _;have E12:=zz (E11.out.app ho5 hg5);clear ho5 hg5 E11;obtain⟨a6,ha6⟩:∃a,a=a5++(numB l.length).data.toList:=⟨_,rfl⟩;rw[<-ha6] at E12;have la6:a6.length<=a5.length+9:=by rw[ha6,List.length_append,zai];omega
  have HA6:=zz ha6;clear ha6;have HG5:Hid (w12.heap[w.heap.size]?=some (.cells #[↑k,↑t,↑n,↑m,↑s,.slice A l.length c] 24 (0,0))):=zz (E12.out.box HG.out);have q5_5:w12.cell? ⟨w.heap.size,5,none⟩=some (.slice A l.length c):=Lib.cell_of_heap HG5.out 5;go_wp2
  have HBY:Hid (acc++zgJ (.mk k t n m s l)=a6++zeP l):=zz (by
   rw[HA6.out,HA5.out,HA4.out,HA3.out,HA2.out,HA1.out,zgJ];simp only[List.append_assoc])
  go_loopw [0,41] (λs0 s41 wr=>∃(i:Nat) (bs:List UInt8),i<=l.length/\s41=↑i/\Hid (bs=a6++zeP (l.take i))/\Hid (EncS B (w.alloc (.cells #[↑k,↑t,↑n,↑m,↑s,.slice A l.length c] 24)) wr s0 bs)) (λ_ s41 _=>l.length-(intOf s41).toNat)
  case atStart=>exact⟨0,a6,zo,rfl,zz (by simp[zeP]),E12⟩
  case round=>
   clear E12;obtain⟨i,bs,hi,rfl,HBS,HE⟩:=hrel
   by_cases hlt:i<l.length
   ·have hrr:=HR.out.below ((((Below.refl w.heap.size w).alloc (Nat.le_refl _) _).mono hB).trans HE.out.2.1) (λ_ h=>h);obtain⟨b,off,kd,t',n',m',s',l',A',c',e,hlb,hget,h2⟩:=zrO hrr hlt;subst e;obtain⟨c0,c1,c2,c3,c4,c5,r5⟩:=h2;have hbk:=zeK _ _ _ hget;have hbt:=zhB (l.take i);have hbt2:=zvK l i;have lbs:bs.length<=a6.length+9*zcl (l.take i):=by rw[HBS.out,List.length_append];omega
    have hsp:zcl (l.take i)+(V.mk kd t' n' m' s' l').bulk<=zcl l:=zvz l i _ hget;have HC:=zz (λvq W hO hBW hRd=>IH.out kd t' n' m' s' l' bs vq A' c' W zo zo (zxq _ _ _ HW.out hget) zo hO hBW hRd);have R5:=zz r5;have HG9:=zz hget;clear r5 hget hrr;go_wp2_with fail;(with_reducible refine(HC.out _ _ ?_ ?_ ?_).mono ?_)
    ·exact(HE.out.alloc _).1
    ·exact(HE.out.alloc _).2.2.2
    ·exact R5.out.below ((Below.refl B wr).alloc HE.out.2.2.2 _) (λ_ h=>h)
    rintro e w4 ⟨vb4,rfl,hE4⟩;have E4:=zz ((HE.out.alloc _).trans hE4)
    have HB4:Hid (bs++zgJ (.mk kd t' n' m' s' l')=a6++zeP (l.take (i+1))):=zz (by
     rw[HBS.out,zvk l i _ HG9.out,List.append_assoc])
    clear hE4;go_wp2;exact⟨⟨i+1,_,zo,by go_num,HB4,E4⟩,by simp[intOf];omega⟩
   ·obtain rfl:i=l.length:=zo
    go_wp2;go_ret;refine⟨_,rfl,?_⟩;have hE:=HE.out;rw[HBS.out,List.take_length,<-HBY.out] at hE;exact EncS.boxed hB hE
mutual
def zbk (p:V->Bool):V->Nat->Bool × Nat
 |.mk k t n m s l,left=>if left=0\/p (.mk k t n m s l)=false then (false,left) else zbm p l (left-1)
def zbm (p:V->Bool):List V->Nat->Bool × Nat
 |[],left=>(true,left)
 |v::r,left=>if (zbk p v left).1=true then zbm p r (zbk p v left).2 else (false,(zbk p v left).2)
end
theorem zif (p:V->Bool):∀(l:List V) (i:Nat) (v:V) (a b:Nat),zbm p (l.take i) a=(true,b)->l[i]?=some v->zbm p l a=zbm p (v::l.drop (i+1)) b
 |[],i,v,a,b,_,h=>by simp at h
 |x::r,0,v,a,b,h,hv=>by
  simp[zbm] at h;simp at hv;subst h hv;simp
 |x::r,i+1,v,a,b,h,hv=>by
  rw[List.take_succ_cons,zbm] at h;rw[zbm]
  by_cases hx:(zbk p x a).1=true
  ·rw[if_pos hx] at h ⊢;rw[zif p r i v _ b h (by simpa using hv)];simp
  ·rw[if_neg hx] at h;cases h
theorem ziv (p:V->Bool):∀(l:List V) (i:Nat) (v:V) (a b:Nat),zbm p (l.take i) a=(true,b)->l[i]?=some v->(zbk p v b).1=true->zbm p (l.take (i+1)) a=(true,(zbk p v b).2)
 |[],i,v,a,b,_,h,_=>by simp at h
 |x::r,0,v,a,b,h,hv,ht=>by
  simp[zbm] at h;simp at hv;subst h hv;simp[zbm,ht]
 |x::r,i+1,v,a,b,h,hv,ht=>by
  rw[List.take_succ_cons,zbm] at h;rw[List.take_succ_cons,zbm]
  by_cases hx:(zbk p x a).1=true
  ·rw[if_pos hx] at h ⊢;exact ziv p r i v _ b h (by simpa using hv) ht
  ·rw[if_neg hx] at h;cases h
theorem zoO (p:V->Bool) (l:List V) (a b:Nat) (h:zbm p (l.take l.length) a=(true,b)):zbm p l a=(true,b):=by rwa [List.take_length] at h
mutual
theorem zhN (p:V->Bool):∀(v:V) (a:Nat),(zbk p v a).2<=a
 |.mk k t n m s l,a=>by
  rw[zbk];split
  ·exact Nat.le_refl _
  ·exact Nat.le_trans (zkZ p l _) zo
theorem zkZ (p:V->Bool):∀(l:List V) (a:Nat),(zbm p l a).2<=a
 |[],a=>by rw[zbm];exact Nat.le_refl _
 |v::r,a=>by
  rw[zbm];split
  ·exact Nat.le_trans (zkZ p r _) (zhN p v a)
  ·exact zhN p v a
end
mutual
def V.All (Q:V->Prop):V->Prop
 |.mk k t n m s l=>Q (.mk k t n m s l)/\AllV Q l
def AllV (Q:V->Prop):List V->Prop
 |[]=>True
 |v::r=>v.All Q/\AllV Q r
end
theorem znA (Q:V->Prop):∀(l:List V) (i:Nat) (v:V),AllV Q l->l[i]?=some v->v.All Q
 |[],i,v,_,h=>by simp at h
 |x::r,0,v,hw,h=>by simp at h;subst h;rw[AllV] at hw;exact hw.1
 |x::r,i+1,v,hw,h=>by rw[AllV] at hw;exact znA Q r i v hw.2 (by simpa using h)
theorem zdq {w w1 w2:World} {row:Option Nat} (h1:w.grownBy w1 row) (h2:w1.grownBy w2 row):w.grownBy w2 row:=
 ⟨h2.os.trans h1.os,h2.tape.trans h1.tape,h2.output.trans h1.output,Nat.le_trans h1.size h2.size,λk hk hr=>(h2.block k (Nat.lt_of_lt_of_le hk h1.size) hr).trans (h1.block k hk hr)⟩
theorem zdx {w w1:World} (row:Option Nat) (h:Below w.heap.size w w1):w.grownBy w1 row:=⟨h.os,h.tape,h.output,h.size,λk hk _=>h.block k hk⟩
theorem zjS (w:World) (g o:Nat) (u:Value):w.grownBy (w.setCell ⟨g,o,none⟩ u) (some g):=
 ⟨rfl,rfl,rfl,by rw[zbs];exact Nat.le_refl _,λk _ hk=>Below.heap_setCell _ _ _ _ (λe=>hk (by simp[e]))⟩
theorem ztm {w:World} {g:Nat} {v:Value} {e:TypeId} (h:w.heap[g]?=some (.cells #[v] e (0,0))) (u:Value):(w.setCell ⟨g,0,none⟩ u).heap[g]?=some (.cells #[u] e (0,0)):=by
 simp[World.setCell,Array.getElem?_modify,h]
def zli (K:Nat) (p:V->Bool) (v:V):Prop:=∀k t n m s l,v=.mk k t n m s l->∀(W:World) (A:Option Addr) (c:Nat),Rd (Lt W.heap.size) W (vs l) (.slice A l.length c)->
 Calls Tryz.prog K #[.agg #[.int .i64 k,.string t,.int .i64 n,.int .i64 m,.string s,.slice A l.length c]] W λe w'=>e=.returned (.bool (p (.mk k t n m s l)))/\Below W.heap.size W w'
def zqr (p:V->Bool) (gl:Nat) (v:V) (left:Nat) (w:World) (e:Ending) (w':World):Prop:=
 e=.returned (.bool (zbk p v left).1)/\w'.heap[gl]?=some (.cells #[.int .i64 ((zbk p v left).2:Int)] 3 (0,0))/\w.grownBy w' (some gl)
theorem zpr (K:Nat) (hcf:∀(x:Value) (W:World),(callFunc K #[x]).run Tryz.prog W=.ok (.enter K #[x]) W) (p:V->Bool) (gl B:Nat):∀(N:Nat) (k:Int) (t:ByteArray) (n m:Int) (s:ByteArray) (l:List V) (left:Nat) (A:Option Addr) (c:Nat) (w:World),(V.mk k t n m s l).bulk<=N->N<=2097152->left<=16384->(V.mk k t n m s l).All (zli K p)->
 w.heap[gl]?=some (.cells #[.int .i64 (left:Int)] 3 (0,0))->B<=gl->Rd (Lt B) w (vs l) (.slice A l.length c)->
 Calls Tryz.prog 56 #[.agg #[↑k,↑t,↑n,↑m,↑s,.slice A l.length c],.pointer (some ⟨gl,0,none⟩),.func (.func K) #[] #[]] w (zqr p gl (.mk k t n m s l) left w):=by
 intro N
 induction N with
 |zero=>
  intro k t n m s l left A c w hb;rw[zbv] at hb;omega
 |succ N ih=>
  intro k t n m s l left A c w hb hN hlf hal hg hB hr;rw[zbv] at hb;rw[V.All] at hal;have hll:=zdB l;have hgl:gl<w.heap.size:=(Array.getElem?_eq_some_iff.1 hg).1;have hcl:w.cell? ⟨gl,0,none⟩=some (.int .i64 (left:Int)):=by rw[Lib.cell_of_heap hg];rfl
  have HR:=zz hr;have IH:=zz ih;have HA:=zz hal.2;have HN:=zz hal.1;have HG:=zz hg;clear hr ih hal hg
  by_cases hl0:left=0
  ·subst hl0;have HE:Hid (zbk p (.mk k t n m s l) 0=(false,0)):=zz (by rw[zbk,if_pos (.inl rfl)]);go_in;go_wp2;go_ret;refine⟨by rw[HE.out];rfl,?_,zdx _ ((Below.refl _ _).alloc (Nat.le_refl _) _)⟩;rw[HE.out];exact(Below.heap_alloc w _ gl hgl).trans HG.out
  ·have hlb:((left:Int) == 0)=false:=by simp;omega
   have hl1:1<=left:=zo
   have hk:Rd (Lt (w.alloc (.cells #[↑k,↑t,↑n,↑m,↑s,.slice A l.length c] 24)).heap.size) (w.alloc (.cells #[↑k,↑t,↑n,↑m,↑s,.slice A l.length c] 24)) (vs l) (.slice A l.length c):=
    (HR.out.weaken (ok':=Lt w.heap.size) (λb hb=>Nat.lt_trans hb zo)).allocs _
   have HK:=zz (HN.out k t n m s l rfl _ A c hk);clear hk hl0;cases hp:p (.mk k t n m s l) with
   |false=>
    have HE:Hid (zbk p (.mk k t n m s l) left=(false,left)):=zz (by rw[zbk,if_pos (.inr hp)]);rw[hp] at HK;clear hp;go_in;go_wp2_with fail;refine zi HK ?_;rintro e w1 ⟨rfl,hb1⟩;have HB1:=zz hb1;clear hb1;go_wp2;go_ret;have hbb:Below w.heap.size w w1:=((Below.refl _ _).alloc (Nat.le_refl _) _).trans (HB1.out.mono zs);refine⟨by rw[HE.out];rfl,?_,zdx _ hbb⟩;rw[HE.out];exact(hbb.block gl hgl).trans HG.out
   |true=>
    have HE:Hid (zbk p (.mk k t n m s l) left=zbm p l (left-1)):=zz (by rw[zbk,if_neg (by simp[hp];omega)]);rw[hp] at HK;clear hp;go_in;go_wp2_with fail;refine zi HK ?_;rintro e w1 ⟨rfl,hb1⟩;have hbb:Below w.heap.size w w1:=((Below.refl _ _).alloc (Nat.le_refl _) _).trans (hb1.mono zs);have hg1:=(hbb.block gl hgl).trans HG.out;have hcl1:w1.cell? ⟨gl,0,none⟩=some (.int .i64 (left:Int)):=by rw[Lib.cell_of_heap hg1];rfl
    have hfz1:w1.frozen? ⟨gl,0,none⟩=false:=Lib.frozen_of_heap hg1 0;have hbx:w1.heap[w.heap.size]?=some (.cells #[↑k,↑t,↑n,↑m,↑s,.slice A l.length c] 24 (0,0)):=(hb1.block w.heap.size zs).trans (heap_alloc_new w _);have hc5:w1.cell? ⟨w.heap.size,5,none⟩=some (.slice A l.length c):=by rw[Lib.cell_of_heap hbx];rfl
    have hne:gl≠w.heap.size:=zo
    have HG1:=zz hg1;have HB1:=zz hb1;have HW:=zz hbb;clear hbx hb1 hg1 hbb;go_wp2
    go_loopw [27] (λs27 wr=>∃(i lf:Nat),i<=l.length/\lf<=16384/\s27=↑i/\Hid (zbm p (l.take i) (left-1)=(true,lf))/\Hid (wr.heap[gl]?=some (.cells #[.int .i64 (lf:Int)] 3 (0,0)))/\Hid (w.grownBy wr (some gl))) (λs27 _=>l.length-(intOf s27).toNat)
    case atStart=>
     refine⟨0,left-1,zo,zo,rfl,zz (by simp[zbm]),zz ?_,zz ?_⟩
     ·rw[show ((left-1:Nat):Int)=(left:Int)-1 by omega];exact ztm HG1.out _
     ·exact zdq (zdx _ HW.out) (zjS _ _ _ _)
    case round=>
     obtain⟨i,lf,hi,hlf2,rfl,HV,HL,HW2⟩:=hrel
     by_cases hlt:i<l.length
     ·have hrr:Rd (Lt B) wr (vs l) (.slice A l.length c):=HR.out.keep (λb o hb=>World.cell?_of_block (HW2.out.block b (Nat.lt_trans hb zo) (λe=>by injection e with e;have hb':b<B:=hb;omega)));obtain⟨b,off,kd,t',n',m',s',l',A',c',e,hlb,hget,h2⟩:=zrO hrr hlt;subst e;obtain⟨c0,c1,c2,c3,c4,c5,r5⟩:=h2;have hbk:=zeK _ _ _ hget;have HC:=zz (λW hG hRd=>IH.out kd t' n' m' s' l' lf A' c' W zo zo hlf2 (znA _ _ _ _ HA.out hget) hG hB hRd);have hglr:gl<wr.heap.size:=Nat.lt_of_lt_of_le hgl HW2.out.size;have HGB:=zz hglr;have R5:=zz r5;have HGET:=zz hget;clear r5 hget hrr hglr;cases hq:(zbk p (.mk kd t' n' m' s' l') lf).1 with
      |false=>
       have HE2:Hid (zbk p (.mk k t n m s l) left=(false,(zbk p (.mk kd t' n' m' s' l') lf).2)):=zz (by
        rw[HE.out,zif p l i _ _ _ HV.out HGET.out,zbm,hq];simp)
       have HQ:=zz hq;clear hq;go_wp2_with fail;(with_reducible refine(HC.out _ ?_ ?_).mono ?_)
       ·exact(Below.heap_alloc wr _ gl HGB.out).trans HL.out
       ·exact R5.out.below ((Below.refl B wr).alloc (by have:=HGB.out;omega) _) (λ_ h=>h)
       rintro e w4 ⟨rfl,hg4,hw4⟩;have G4:=zz hg4;have W4:=zz hw4;clear hg4 hw4;rw[HQ.out];go_wp2;go_ret;refine⟨by rw[HE2.out];rfl,by rw[HE2.out];exact G4.out,?_⟩;exact zdq (zdq HW2.out (zdx _ ((Below.refl _ _).alloc (Nat.le_refl _) _))) W4.out
      |true=>
       have HV2:=zz (ziv p l i _ _ _ HV.out HGET.out hq);have hle:=zhN p (.mk kd t' n' m' s' l') lf;have HQ:=zz hq;clear hq;go_wp2_with fail;(with_reducible refine(HC.out _ ?_ ?_).mono ?_)
       ·exact(Below.heap_alloc wr _ gl HGB.out).trans HL.out
       ·exact R5.out.below ((Below.refl B wr).alloc (by have:=HGB.out;omega) _) (λ_ h=>h)
       rintro e w4 ⟨rfl,hg4,hw4⟩;have G4:=zz hg4;have W4:=zz (zdq (zdq HW2.out (zdx _ ((Below.refl _ _).alloc (Nat.le_refl _) _))) hw4);clear hg4 hw4;rw[HQ.out];go_wp2;exact⟨⟨i+1,_,zo,zo,by go_num,HV2,G4,W4⟩,by simp[intOf];omega⟩
     ·obtain rfl:i=l.length:=zo
      have HE2:=zz (HE.out.trans (zoO p l _ _ HV.out));go_wp2;go_ret;exact⟨by rw[HE2.out];rfl,by rw[HE2.out];exact HL.out,HW2.out⟩
def zkS (p:V->Bool) (v:V):Bool:=(zbk p v 16384).1
theorem zuQ (p:V->Bool) (k:Int) (t:ByteArray) (n m:Int) (s:ByteArray) (l:List V) (A:Option Addr) (c:Nat) (w:World) (hb:(V.mk k t n m s l).bulk<=2097152) (hal:(V.mk k t n m s l).All (zli 57 p)) (hr:Rd (Lt w.heap.size) w (vs l) (.slice A l.length c)) :
 Calls Tryz.prog 24 #[.agg #[↑k,↑t,↑n,↑m,↑s,.slice A l.length c]] w λe w'=>e=.returned (.bool (zkS p (.mk k t n m s l)))/\Below w.heap.size w w':=by
 have HC:=zz (λW hG hRd=>zpr 57 (λ_ _=>by kernel_rfl) p (w.heap.size+1) w.heap.size _ k t n m s l 16384 A c W (Nat.le_refl _) hb zo hal hG zo hRd);have HR:=zz hr;clear hal hr;go_in;go_wp2_with fail;(with_reducible refine(HC.out _ ?_ ?_).mono ?_)
 ·exact heap_alloc2_new _ _ _
 ·exact HR.out.below (((Below.refl _ _).alloc (Nat.le_refl _) _).alloc zs _) (λ_ h=>h)
 rintro e w1 ⟨rfl,_,hg⟩;have HG:=zz hg;clear hg;go_wp2;go_ret;refine⟨rfl,?_⟩;have hb2:Below w.heap.size w ((w.alloc (.cells #[↑k,↑t,↑n,↑m,↑s,.slice A l.length c] 24)).alloc (.cells #[.int .i64 16384] 3)):=((Below.refl _ _).alloc (Nat.le_refl _) _).alloc zs _;exact hb2.grown HG.out (by simp;omega) (λq hq=>by injection hq with hq;omega)
def zjt (p:V->Bool) (v:V):ByteArray:=if zkS p v then ⟨(zgJ v).toArray⟩ else ⟨#[]⟩
theorem zxp (v:V):zgJ v≠[]:=by
 cases v with
 |mk k t n m s l=>
  intro h;have:=congrArg List.length h;rw[zgJ] at this;simp only[List.length_append,zai,List.length_nil] at this
  have h1:0<(zoI t).size:=by
   unfold zoI;rw[ByteArray.size_append]
   have:0<(numB t.size).size:=by
    unfold numB;rw[strOfNums_size,numI]
    split<;>simp
   omega
  omega
theorem zvT (p:V->Bool) (k:Int) (t:ByteArray) (n m:Int) (s:ByteArray) (l:List V) (A:Option Addr) (c:Nat) (w:World) (hb:(V.mk k t n m s l).bulk<=2097152) (hwf:(V.mk k t n m s l).Wf) (hal:(V.mk k t n m s l).All (zli 57 p)) (hr:Rd (Lt w.heap.size) w (vs l) (.slice A l.length c)) :
 Calls Tryz.prog 30 #[.agg #[↑k,↑t,↑n,↑m,↑s,.slice A l.length c]] w λe w'=>e=.returned (.string (zjt p (.mk k t n m s l)))/\Below w.heap.size w w':=by
 have HR:=zz hr;have HC:=zz (λW hRd=>zuQ p k t n m s l A c W hb hal hRd);have HD:=zz (λW hRd=>zwP W.heap.size _ k t n m s l [] (.slice none 0 0) A c W (Nat.le_refl _) hb hwf (by simp only[List.length_nil];omega) (World.ownsRow_nil _ _ _ _) (Nat.le_refl _) hRd);have HN:=zz (zxp (.mk k t n m s l));have HU:Hid (zjt p (.mk k t n m s l)=if zkS p (.mk k t n m s l) then ⟨(zgJ (.mk k t n m s l)).toArray⟩ else ⟨#[]⟩):=zz rfl;clear hal hr hwf;generalize zjt p (.mk k t n m s l)=R at *
 generalize hrp:zkS p (.mk k t n m s l)=rp at *
 have HRP:=zz hrp;clear hrp;cases rp with
 |false=>
  go_in;go_wp2_with fail;(with_reducible refine(HC.out _ ?_).mono ?_)
  ·exact HR.out.allocs _
  rintro e w1 ⟨rfl,hb1⟩;have HB:=zz hb1;clear hb1;go_wp2;go_ret;exact⟨by rw[HU.out];rfl,((Below.refl _ _).alloc (Nat.le_refl _) _).trans (HB.out.mono zs)⟩
 |true=>
  go_in;go_wp2_with fail;(with_reducible refine(HC.out _ ?_).mono ?_)
  ·exact HR.out.allocs _
  rintro e w1 ⟨rfl,hb1⟩;have HB:=zz hb1;have hbx:w1.heap[w.heap.size]?=some (.cells #[↑k,↑t,↑n,↑m,↑s,.slice A l.length c] 24 (0,0)):=(hb1.block w.heap.size zs).trans (heap_alloc_new w _);have c0:w1.cell? ⟨w.heap.size,0,none⟩=some ↑k:=by rw[Lib.cell_of_heap hbx];rfl
  have c1:w1.cell? ⟨w.heap.size,1,none⟩=some ↑t:=by rw[Lib.cell_of_heap hbx];rfl
  have c2:w1.cell? ⟨w.heap.size,2,none⟩=some ↑n:=by rw[Lib.cell_of_heap hbx];rfl
  have c3:w1.cell? ⟨w.heap.size,3,none⟩=some ↑m:=by rw[Lib.cell_of_heap hbx];rfl
  have c4:w1.cell? ⟨w.heap.size,4,none⟩=some ↑s:=by rw[Lib.cell_of_heap hbx];rfl
  have c5:w1.cell? ⟨w.heap.size,5,none⟩=some (.slice A l.length c):=by rw[Lib.cell_of_heap hbx];rfl
  have R1:=zz ((HR.out.allocs _).belows hb1);clear hb1 hbx;go_wp2_with fail;(with_reducible refine(HD.out _ R1.out).mono ?_);rintro e w2 ⟨vb,rfl,hE⟩;rw[List.nil_append] at hE;generalize zgJ (.mk k t n m s l)=bs at *
  have hB2:Below w.heap.size w w2:=((Below.refl _ _).alloc (Nat.le_refl _) _).trans ((HB.out.mono zs).trans (hE.2.1.mono (Nat.le_trans zs HB.out.size)));rcases hE.1.2 with ⟨_,h0⟩|⟨g,cap,cur,rfl,_,hcur,hnc,hcm,hsz,htk⟩
  ·exact absurd (List.eq_nil_of_length_eq_zero h0) HN.out
  ·have hcv:=run_convert_bytes_back (P:=Tryz.prog) w2 99 9 5 ⟨g,0,none⟩ cap bs Tryz.underlying99 Tryz.underlying5 Tryz.underlying9 (λj hj=>hE.1.cells (g:=g) rfl j _ (by simp[Lib.byteCells,hj]));have HB2:=zz hB2;clear hB2 hE hcur hnc hcm hsz htk;go_wp2;go_ret;exact⟨by rw[HU.out];rfl,HB2.out⟩
end Go.Proofs.YtcebmphappfjjaaGreatDoor
