/- Conditions: those in each statement. -/
import Derived.Test.YtcebmphappfjjaaGreatDoorV29
import Derived.Laws.IdiomStrings
import Derived.Deep.AppendLies
import Derived.Test.YtcebmphappfjjaaGreatDoorV04
import Derived.IntWalk
import Derived.Test.YtcebmphappfjjaaGreatDoorV25
import Derived.Test.YtcebmphappfjjaaGreatDoorV01
import Derived.Test.YtcebmphappfjjaaGreatDoorV06
import Derived.Test.YtcebmphappfjjaaGreatDoorV39
import Derived.StillTailTactics
set_option maxHeartbeats 32000000
set_option maxRecDepth 100000
namespace Go.Proofs.YtcebmphappfjjaaGreatDoor
open Go.RowKit
def RowB (B:Nat) (w:World) (v:Value) (bs:List UInt8):Prop:=w.ownsRow B 5 1 v bs.length (Lib.byteCells bs)
theorem zzy {w:World} {ops:Array Oper} {rest:List Oper} {o:Oper} {a:Act} {Q:Exit->Act->World->Prop} (hgd:o.guard=none) (s x:Operand)
 (ho:o.op=.call {callee:=.builtin .append,args:=#[s,x],argTypes:=#[99,99] })
 (B:Nat) (hB:B<=w.heap.size) (v:Value) (bs:List UInt8) (hs:a.eval s=v) (hown:w.ownsRow B 5 1 v bs.length (Lib.byteCells bs))
 (b o' c:Nat) (y:UInt8) (hx:a.eval x=.slice (some ⟨b,o',none⟩) 1 c) (hc:w.cell? ⟨b,o',none⟩=some (.int .u8 (y.toNat:Int))) (hl:bs.length<=4294967296)
 (h:∀v' w',RowB B w' v' (bs++[y])->w.grownBy w' v.ownBlock->wpList Tryz.prog ops Q rest (a.put o.dst v') w'):wpList Tryz.prog ops Q (o::rest) a w:=by
 obtain⟨i0,hi0,hz0,hz1,hz2⟩:=info_parts zyO;refine wpList_append_lies w hgd s x 99 ho B 5 i0 _ 1 1 Tryz.underlying99 hi0 hz0 hz1 hz2 rfl zo v bs.length (Lib.byteCells bs) hs hown ⟨b,o',none⟩ 1 c [.int .u8 (y.toNat:Int)] hx rfl (λj u hu=>?_) (λu hu=>by simp at hu;subst hu;rfl) zo (by unfold maxLen;omega) zo hB w.heap.size rfl ?_
 ·cases j with
  |zero=>simp at hu;subst hu;rw[Addr.add_lit];exact hc
  |succ j=>simp at hu
 ·intro g cap w' h2 h3 _ _;refine h _ w' ?_ h3;unfold RowB;rw[List.length_append,show Lib.byteCells (bs++[y])=Lib.byteCells bs++[.int .u8 (y.toNat:Int)] by simp[Lib.byteCells]];exact h2
def OwnB (B:Nat) (w0 w:World) (v:Value) (bs:List UInt8):Prop:=w.ownsRow B 5 1 v bs.length (Lib.byteCells bs)/\Below B w0 w/\B<=w.heap.size
section
variable {B:Nat} {w0 w w':World} {v v':Value} {bs bs':List UInt8}
theorem OwnB.nil (hB:Below B w0 w) (h:B<=w.heap.size):OwnB B w0 w (.slice none 0 0) []:=⟨World.ownsRow_nil _ _ _ _,hB,h⟩
theorem OwnB.below (h:OwnB B w0 w v bs) (hb:Below w.heap.size w w'):OwnB B w0 w' v bs:=⟨zqQ h.1 hb,h.2.1.trans (hb.mono h.2.2),Nat.le_trans h.2.2 hb.size⟩
theorem OwnB.alloc (h:OwnB B w0 w v bs) (o:Obj):OwnB B w0 (w.alloc o) v bs:=h.below ((Below.refl _ _).alloc (Nat.le_refl _) o)
theorem OwnB.drew (h:OwnB B w0 w v bs):OwnB B w0 w.drew v bs:=h.below ((Below.refl _ _).drew)
theorem OwnB.app (h:OwnB B w0 w v bs) (hown:RowB B w' v' bs') (hg:w.grownBy w' v.ownBlock):OwnB B w0 w' v' bs':=
 ⟨hown,h.2.1.grown hg h.2.2 (λk hk=>(h.1.lt k hk).1),Nat.le_trans h.2.2 hg.size⟩
theorem OwnB.conv (h:OwnB B w0 w v bs):(convert 99 9 v).run Tryz.prog w=.ok (.string ⟨bs.toArray⟩) w:=by
 rcases h.1.2 with ⟨rfl,h0⟩|⟨g,cap,cur,rfl,_,hcur,hnc,hcm,hsz,htk⟩
 ·obtain rfl:=List.eq_nil_of_length_eq_zero h0;simp[convert,Conv.bytesToString,run_underlying Tryz.underlying99,run_underlying Tryz.underlying9,run_underlying Tryz.underlying5,go_sem]
  rfl
 ·exact run_convert_bytes_back (P:=Tryz.prog) w 99 9 5 ⟨g,0,none⟩ cap bs Tryz.underlying99 Tryz.underlying5 Tryz.underlying9 (λj hj=>h.1.cells (g:=g) rfl j _ (by simp[Lib.byteCells,hj]))
end
def numU:Nat->Nat->List UInt8
 |0,_=>[]
 |f+1,n=>if n<128 then [UInt8.ofNat n] else UInt8.ofNat (n % 128+128)::numU f (n / 128)
theorem zDU:∀f n,(numI f n).map (λn=>UInt8.ofNat n.toNat)=numU f n
 |0,_=>rfl
 |f+1,n=>by
  rw[numI,numU]
  split
  ·simp
  ·rw[List.map_cons,zDU f]
   congr 1
theorem zEu (n:Nat):numB n=⟨(numU 9 n).toArray⟩:=by unfold numB strOfNums;rw[zDU]
theorem zBY {n:Nat} (h:n<256):((UInt8.ofNat n).toNat:Int)=n:=by simp;omega
theorem zAu (n:Nat) (hn:n<=9223372036854775807) (w:World):Calls Tryz.prog 115 #[.int .i64 (n:Int)] w λe w'=>e=.returned (.string (numB n))/\Below w.heap.size w w':=by
 go_in;go_wp2
 go_loopw [0,3] (λs0 s3 wr=>∃(k m:Nat) (bs:List UInt8),k<=8/\bs.length<=k/\m<=9223372036854775807/\s0=↑m/\Hid (m=n / 128 ^ k/\numU 9 n=bs++numU (9-k) m)/\Hid (OwnB w.heap.size w wr s3 bs)) (λs0 _ _=>(intOf s0).toNat)
 case atStart=>exact⟨0,n,[],zo,by simp,hn,rfl,zz ⟨by simp,rfl⟩,zz (OwnB.nil (Below.refl _ _) (Nat.le_refl _))⟩
 case round=>
  obtain⟨k,m,bs,hk,hbl,hm,rfl,HN,HO⟩:=hrel
  by_cases h:128<=m
  ·have hx:((m:Int) % 128+128) % 256=(m:Int) % 128+128:=zo
   have hk7:k<=7:=by
    rcases Nat.lt_or_ge k 8 with h8|h8
    ·omega
    ·obtain rfl:k=8:=zo
     have:=HN.out.1;have e:128 ^ 8=72057594037927936:=by decide
     rw[e] at this;omega
   have HN2:Hid (m / 128=n / 128 ^ (k+1)/\numU 9 n=(bs++[UInt8.ofNat (m % 128+128)])++numU (9-(k+1)) (m / 128)):=zz ⟨by rw[HN.out.1,Nat.div_div_eq_div_mul,Nat.pow_succ],by
    rw[HN.out.2,show 9-k=(9-(k+1))+1 by omega,numU,if_neg zo];simp⟩
   have HC:Hid ((.int .u8 ((m:Int) % 128+128):Value)=.int .u8 ((UInt8.ofNat (m % 128+128)).toNat:Int)):=zz (by rw[zBY zo];congr 1);obtain⟨y,hy⟩:∃y:UInt8,UInt8.ofNat (m % 128+128)=y:=⟨_,rfl⟩;rw[hy] at HN2 HC;clear HN hy;go_wp2_with (at_builtin;refine zzy rfl _ _ rfl w.heap.size ?c1 u3 bs rfl ?c2 wr.heap.size 0 1 y rfl ?c3 ?c4 ?_)
   case c1=>exact(HO.out.alloc _).2.2
   case c2=>exact(HO.out.alloc _).1
   case c3=>rw[<-HC.out];simp
   case c4=>omega
   intro v' w' h1 h2;have HO2:=zz ((HO.out.alloc _).app h1 h2);clear h1 h2 HO;go_wp2;exact⟨⟨k+1,m / 128,_,zo,by simp;omega,zo,by go_num,HN2,HO2⟩,by simp[intOf];omega⟩
  ·have hx:(m:Int) % 256=m:=zo
   have HN2:Hid (numU 9 n=bs++[UInt8.ofNat m]):=zz (by rw[HN.out.2,show 9-k=(8-k)+1 by omega,numU,if_pos zo]);have HC:Hid ((.int .u8 (m:Int):Value)=.int .u8 ((UInt8.ofNat m).toNat:Int)):=zz (by rw[zBY zo]);obtain⟨y,hy⟩:∃y:UInt8,UInt8.ofNat m=y:=⟨_,rfl⟩;rw[hy] at HN2 HC;clear HN hy;go_wp2_with (at_builtin;refine zzy rfl _ _ rfl w.heap.size ?c1 u3 bs rfl ?c2 wr.heap.size 0 1 y rfl ?c3 ?c4 ?_)
   case c1=>exact(HO.out.alloc _).2.2
   case c2=>exact(HO.out.alloc _).1
   case c3=>rw[<-HC.out];simp
   case c4=>omega
   intro v' w' h1 h2;have HO2:=(HO.out.alloc _).app h1 h2;have hcv:=HO2.conv;have HB:=zz HO2.2.1;clear h1 h2 HO HO2;go_wp2;go_ret;exact⟨by rw[zEu,HN2.out];rfl,HB.out⟩
theorem zDA (n:Int) (hn:n<0) (w:World):Calls Tryz.prog 115 #[↑n] w λe w'=>e=.returned ↑zj.a/\w=w':=by
 go_in;go_wp2;go_ret;exact⟨rfl,rfl⟩
theorem zBo (n:Int) (hn:n<=9223372036854775807) (w:World):Calls Tryz.prog 115 #[↑n] w λe w'=>e=.returned (.string (numZ n))/\Below w.heap.size w w':=by
 by_cases h:n<0
 ·refine(zDA n h w).mono ?_;rintro e w' ⟨rfl,rfl⟩;exact⟨by unfold numZ;rw[if_pos h],Below.refl _ _⟩
 ·obtain⟨m,rfl⟩:=Int.eq_ofNat_of_zero_le (show 0<=n by omega);refine(zAu m zo w).mono ?_;rintro e w' ⟨rfl,hb⟩;exact⟨by unfold numZ;rw[if_neg h,Int.toNat_natCast],hb⟩
theorem zBm (n:Int) (w:World):Calls Tryz.prog 117 #[↑n] w λe w'=>e=.returned (.string (intB n))/\Below w.heap.size w w':=by
 by_cases h1:n < -1152921504606846976
 ·have HE:Hid (intB n=⟨#[]⟩):=zz (by unfold intB;rw[if_pos (.inl h1)]);go_in;go_wp2;go_ret;exact⟨by rw[HE.out];rfl,Below.refl _ _⟩
 by_cases h2:1152921504606846976<n
 ·have HE:Hid (intB n=⟨#[]⟩):=zz (by unfold intB;rw[if_pos (.inr h2)]);go_in;go_wp2;go_ret;exact⟨by rw[HE.out];rfl,Below.refl _ _⟩
 by_cases h3:n<0
 ·have HE:Hid (intB n=numZ (-2*n-1)):=zz (by
   unfold intB numZ;rw[if_neg (λh=>by omega),if_pos h3,if_neg zo])
  have HC:=zz (zBo (-2*n-1) zo w);go_in;go_wp2_with fail;refine zi HC ?_;rintro e w1 ⟨rfl,hb⟩;have HB:=zz hb;clear hb;go_wp2;go_ret;exact⟨by rw[HE.out];rfl,HB.out⟩
 ·have HE:Hid (intB n=numZ (2*n)):=zz (by
   unfold intB numZ;rw[if_neg (λh=>by omega),if_neg h3,if_neg zo])
  have HC:=zz (zBo (2*n) zo w);go_in;go_wp2_with fail;refine zi HC ?_;rintro e w1 ⟨rfl,hb⟩;have HB:=zz hb;clear hb;go_wp2;go_ret;exact⟨by rw[HE.out];rfl,HB.out⟩
theorem zAG (s:ByteArray) (hs:s.size<=4294967296) (w:World):Calls Tryz.prog 116 #[↑s] w λe w'=>e=.returned (.string (zoI s))/\Below w.heap.size w w':=by
 go_in;go_wp2_with fail;(with_reducible refine(zAu s.size zo w).mono ?_);rintro e w1 ⟨rfl,hb⟩;have HB:=zz hb;clear hb;have h9:=zfP s.size;go_wp2;go_ret;exact⟨rfl,HB.out⟩
def decU:Nat->Nat->List UInt8
 |0,_=>[]
 |f+1,n=>if n<10 then [UInt8.ofNat (48+n)] else decU f (n / 10)++[UInt8.ofNat (48+n % 10)]
theorem zBs:∀f n,(decU f n).length<=f
 |0,_=>by simp[decU]
 |f+1,n=>by
  rw[decU]
  split
  ·simp
  ·have:=zBs f (n / 10);simp;omega
theorem zCv {W w1:World} (hb:Below W.heap.size W w1):(∀b o,b<W.heap.size->w1.cell? ⟨b,o,none⟩=W.cell? ⟨b,o,none⟩)/\(∀b o,b<W.heap.size->w1.frozen? ⟨b,o,none⟩=W.frozen? ⟨b,o,none⟩):=
 ⟨λb o h=>hb.cell (p:=⟨b,o,none⟩) h,λb o h=>hb.frozen (p:=⟨b,o,none⟩) h⟩
theorem zBH (q r:List UInt8):(⟨q.toArray⟩:ByteArray)++⟨r.toArray⟩=⟨(q++r).toArray⟩:=by
 apply zbX;simp[ByteArray.toList_eq,ByteArray.data_append]
theorem zDb (X:Int) (h0:0<=X) (h1:X<256) (W:World) (b c:Nat) (hc:W.cell? ⟨b,0,none⟩=some (.int .u8 X)):(convert 99 9 (.slice (some ⟨b,0,none⟩) 1 c)).run Tryz.prog W=.ok (.string ⟨#[UInt8.ofNat X.toNat]⟩) W:=by
 have:=run_convert_bytes_back (P:=Tryz.prog) W 99 9 5 ⟨b,0,none⟩ c [UInt8.ofNat X.toNat] Tryz.underlying99 Tryz.underlying5 Tryz.underlying9 (λj hj=>by
  obtain rfl:j=0:=by simpa using hj
  rw[Addr.add_lit];have e:(((UInt8.ofNat X.toNat).toNat:Nat):Int)=X:=by simp;omega
  simp only[List.getElem_cons_zero,e];exact hc)
 simpa using this
theorem zDF:∀(f n:Nat) (w:World),f<=30->n<10 ^ (f+1)->n<=9223372036854775807->Calls Tryz.prog 100 #[.int .i64 (n:Int)] w λe w'=>e=.returned (.string ⟨(decU (f+1) n).toArray⟩)/\Below w.heap.size w w':=by
 intro f
 induction f with
 |zero=>
  intro n w _ hn _;have hn10:n<10:=by simpa using hn
  have HE:Hid (decU (0+1) n=[UInt8.ofNat (48+n)]):=zz (by rw[decU,if_pos hn10]);have hcv:=zDb (48+n) zo zo;have hm:(48+(n:Int)) % 256=48+n:=zo
  rw[show ((48:Int)+n).toNat=48+n by omega] at hcv;obtain⟨y,hy⟩:∃y:UInt8,UInt8.ofNat (48+n)=y:=⟨_,rfl⟩;rw[hy] at hcv HE;clear hn hy;go_in;go_wp2;go_ret;exact⟨by rw[HE.out];rfl,(Below.refl _ _).alloc (Nat.le_refl _) _⟩
 |succ f ih=>
  intro n w hf hn hmx
  by_cases hn10:n<10
  ·have HE:Hid (decU (f+1+1) n=[UInt8.ofNat (48+n)]):=zz (by rw[decU,if_pos hn10]);have hcv:=zDb (48+n) zo zo;have hm:(48+(n:Int)) % 256=48+n:=zo
   rw[show ((48:Int)+n).toNat=48+n by omega] at hcv;obtain⟨y,hy⟩:∃y:UInt8,UInt8.ofNat (48+n)=y:=⟨_,rfl⟩;rw[hy] at hcv HE;clear hn hy ih;go_in;go_wp2;go_ret;exact⟨by rw[HE.out];rfl,(Below.refl _ _).alloc (Nat.le_refl _) _⟩
  ·have hd:n / 10<10 ^ (f+1):=by
    rw[Nat.pow_succ] at hn;exact Nat.div_lt_of_lt_mul (by rw[Nat.mul_comm];exact hn)
   have HC:=zz (λW=>ih (n / 10) W zo hd zo);rw[show ((n / 10:Nat):Int)=(n:Int) / 10 by omega] at HC;have HE:Hid (decU (f+1+1) n=decU (f+1) (n / 10)++[UInt8.ofNat (48+n % 10)]):=zz (by rw[decU,if_neg hn10]);have hcv:=zDb (48+(n:Int) % 10) zo zo;have hm:(48+(n:Int) % 10) % 256=48+(n:Int) % 10:=zo
   rw[show ((48:Int)+(n:Int) % 10).toNat=48+n % 10 by omega] at hcv;obtain⟨y,hy⟩:∃y:UInt8,UInt8.ofNat (48+n % 10)=y:=⟨_,rfl⟩;rw[hy] at hcv HE;have hql:=zBs (f+1) (n / 10);obtain⟨q,hq⟩:=zn (decU (f+1) (n / 10));rw[hq] at hql;have hke:¬9223372036854775807<q.length+1:=zo
   rw[hq] at HC HE;have hw1:IntKind.i64.wrap ((n:Int) / 10)=(n:Int) / 10:=IntWalk.i64_in _ zo;have hw2:IntKind.i64.wrap (48+(n:Int) % 10)=48+(n:Int) % 10:=IntWalk.i64_in _ zo;have hw3:(n:Int).tmod 10=(n:Int) % 10:=Int.tmod_eq_emod_of_nonneg zo;have hw4:IntKind.u8.wrap (48+(n:Int) % 10)=48+(n:Int) % 10:=by rw[IntKind.wrap_u8];omega
   clear hn hy ih hd hq;go_in;go_wp2
   go_region_with (first|(go_at_call 100;(with_reducible refine(HC.out _).mono ?_);rintro e w4 ⟨rfl,hb4⟩;obtain⟨hc4,hf4⟩:=zCv hb4;have B4:=zz hb4;clear hb4))
   all_goals (
    go_wp2;go_ret;refine⟨?_,?_⟩
    ·rw[HE.out,<-zBH];rfl
    ·first
      |exact((Below.refl w.heap.size w).drew.trans (B4.out.mono (Nat.le_refl _))).alloc B4.out.size _
      |exact((Below.refl w.heap.size w).drew.alloc (Nat.le_refl _) _).trans (B4.out.mono zs))
theorem zCa {f m:Nat} (h:m<10):decU (f+1) m=[UInt8.ofNat (48+m)]:=by rw[decU,if_pos h]
theorem zBy (n:Int) (w:World) (h0:n<0) (h1:-10<n):Calls Tryz.prog 100 #[↑n] w λe w'=>e=.returned (.string ⟨#[45,UInt8.ofNat (48+(-n).toNat)]⟩)/\Below w.heap.size w w':=by
 have hcv:=zDb (48-n) zo zo;have hm:(48-n) % 256=48-n:=zo
 rw[show (48-n).toNat=48+(-n).toNat by omega] at hcv;obtain⟨y,hy⟩:∃y:UInt8,UInt8.ofNat (48+(-n).toNat)=y:=⟨_,rfl⟩;rw[hy] at hcv ⊢;clear hy;go_in;go_wp2;go_ret;exact⟨rfl,(Below.refl _ _).alloc (Nat.le_refl _) _⟩
theorem zDL:∀(f:Nat) (n:Int) (w:World),f<=30->n<0->(-n).toNat<10 ^ (f+1)->-9223372036854775807<=n+1->Calls Tryz.prog 100 #[↑n] w λe w'=>e=.returned (.string ⟨(45::decU (f+1) (-n).toNat).toArray⟩)/\Below w.heap.size w w':=by
 intro f
 induction f with
 |zero=>
  intro n w _ h0 hn _;have hn10:(-n).toNat<10:=by simpa using hn
  rw[zCa hn10];exact zBy n w h0 zo
 |succ f ih=>
  intro n w hf h0 hn hmx
  by_cases hn10:(-n).toNat<10
  ·rw[zCa hn10];exact zBy n w h0 zo
  ·have hd:(-n).toNat / 10<10 ^ (f+1):=by
    rw[Nat.pow_succ] at hn;exact Nat.div_lt_of_lt_mul (by rw[Nat.mul_comm];exact hn)
   have hdv:=zpy (a:=n) zo
   have hmo:n.tmod 10=-((-n) % 10):=by
    have:=Int.mul_tdiv_add_tmod n 10;omega
   have HE:Hid (decU (f+1+1) (-n).toNat=decU (f+1) ((-n).toNat / 10)++[UInt8.ofNat (48+(-n).toNat % 10)]):=zz (by rw[decU,if_neg hn10]);obtain⟨a,ha⟩:=zn (n.tdiv 10);obtain⟨r,hr⟩:=zn (n.tmod 10);rw[ha] at hdv;rw[hr] at hmo;have hat:(-n).toNat / 10=(-a).toNat:=zo
   have hrt:48+(-n).toNat % 10=(48-r).toNat:=zo
   have ha0:a<0:=zo
   have hr0:-10<r:=zo
   have hr1:r<=0:=zo
   rw[hat] at hd HE;rw[hrt] at HE;have HC:=zz (λW=>ih a W zo ha0 hd zo);have hcv:=zDb (48-r) zo zo;have hw1:IntKind.i64.wrap a=a:=IntWalk.i64_in _ zo;have hw2:IntKind.i64.wrap (48-r)=48-r:=IntWalk.i64_in _ zo;have hw4:IntKind.u8.wrap (48-r)=48-r:=by rw[IntKind.wrap_u8];omega
   have hm:(48-r) % 256=48-r:=zo
   obtain⟨y,hy⟩:∃y:UInt8,UInt8.ofNat (48-r).toNat=y:=⟨_,rfl⟩;rw[hy] at hcv HE;have hql:=zBs (f+1) (-a).toNat;obtain⟨q,hq⟩:=zn (45::decU (f+1) (-a).toNat);have hql2:q.length<=f+2:=by rw[<-hq,List.length_cons];omega
   have HE2:Hid (45::decU (f+1+1) (-n).toNat=q++[y]):=zz (by rw[HE.out,<-hq];rfl);rw[hq] at HC;have hke:¬9223372036854775807<q.length+1:=zo
   have hn9:n<=-10:=zo
   clear hn hy ih hd hq HE hat hrt hdv hmo hql hql2 hn10;go_in;go_wp2
   go_region_with (first|(go_at_call 100;(with_reducible refine(HC.out _).mono ?_);rintro e w4 ⟨rfl,hb4⟩;obtain⟨hc4,hf4⟩:=zCv hb4;have B4:=zz hb4;clear hb4))
   all_goals (
    go_wp2;go_ret;refine⟨?_,?_⟩
    ·rw[HE2.out,<-zBH];rfl
    ·first
      |exact((Below.refl w.heap.size w).drew.trans (B4.out.mono (Nat.le_refl _))).alloc B4.out.size _
      |exact((Below.refl w.heap.size w).drew.alloc (Nat.le_refl _) _).trans (B4.out.mono zs))
def zzH (n:Int):List UInt8:=if n<0 then 45::decU 20 (-n).toNat else decU 20 n.toNat
theorem zAj (n:Int) (w:World) (h0:-9223372036854775807<=n+1) (h1:n<=9223372036854775807):Calls Tryz.prog 100 #[↑n] w λe w'=>e=.returned (.string ⟨(zzH n).toArray⟩)/\Below w.heap.size w w':=by
 have e:10 ^ (19+1)=100000000000000000000:=by decide
 by_cases h:n<0
 ·unfold zzH;rw[if_pos h];exact zDL 19 n w zo h (by rw[e];omega) h0
 ·obtain⟨m,rfl⟩:=Int.eq_ofNat_of_zero_le (show 0<=n by omega);unfold zzH;rw[if_neg h,Int.toNat_natCast];exact zDF 19 m w zo (by rw[e];omega) zo
def finR (k low high:Int) (s:ByteArray):Int × Bool:=if (ByteArray.mk (zzH k).toArray).toList≠s.toList\/(k<low\/high<k) then (0,false) else (k,true)
def zzU (neg:Bool) (low high:Int) (s:ByteArray):Option Int->Int × Bool
 |none=>(0,false)
 |some n=>match neg with
  |true=>finR n low high s
  |false=>if n < -9223372036854775807 then (0,false) else finR (-n) low high s
theorem zAt (k low high:Int) (s:ByteArray):(((ByteArray.mk (zzH k).toArray).toList == s.toList)=false->finR k low high s=(0,false))/\((k<low\/high<k)->finR k low high s=(0,false))/\(((ByteArray.mk (zzH k).toArray).toList == s.toList)=true->¬(k<low\/high<k)->finR k low high s=(k,true)):=by
 unfold finR;refine⟨λh=>if_pos (.inl (by simpa using h)),λh=>if_pos (.inr h),λh h'=>if_neg ?_⟩;rintro(h1|h1)
 ·exact h1 (by simpa using h)
 ·exact h' h1
def zAa (r:Int × Bool) (w:World) (e:Ending) (w':World):Prop:=e=.returned (.tuple #[.int .i64 r.1,.bool r.2])/\Below w.heap.size w w'
theorem zBW (s:ByteArray) (low high:Int) (w:World) (h0:s.size=0) :
 Calls Tryz.prog 55 #[↑s,↑low,↑high] w (zAa (zzU false low high s (digs s.data.toList 0)) w):=by
 have HI:=zz (zaP s);have HTX:=zz zAj;have hle:¬(0:Int)<s.size:=zo
 have hld:decide (0<s.size)=false:=decide_eq_false zo;go_in;go_wp2
 go_loopw [11,12] (λs11 s12 wr=>∃(i:Nat) (n:Int),s12=↑i/\s11=↑n/\-9223372036854775807<=n+1/\n<=0/\i<=s.size/\wr=w/\Hid (digs s.data.toList 0=digs (s.data.toList.drop i) n)) (λ_ s12 _=>s.size-(intOf s12).toNat)
 case atStart=>exact⟨0,0,rfl,rfl,zo,zo,zo,rfl,zz (by rw[List.drop_zero])⟩
 case round=>
  obtain⟨i,n,rfl,rfl,hn1,hn0,hp,rfl,HD⟩:=hrel
  first|clear hi0|skip
  by_cases hlt:i<s.size
  ·exact absurd hlt zo
  ·have HE:=zz (HD.out.trans (zjz (by rw[zai];exact hlt) n));clear HD HI
   by_cases hmin:n < -9223372036854775807
   ·have HP:Hid (zzU false low high s (some n)=(0,false)):=zz (if_pos hmin);obtain rfl:n=-9223372036854775808:=zo
    go_wp2
    go_ret2
    exact⟨by rw[HE.out,HP.out];rfl,Below.refl _ _⟩
   ·have HP:Hid (zzU false low high s (some n)=finR (-n) low high s):=zz (if_neg hmin);have hmb:(n == -9223372036854775808)=false:=by simp;omega
    have HC:=zz (HTX.out (-n) wr zo zo);have HQ:=zz (zAt (-n) low high s);obtain⟨V,hV⟩:∃V:ByteArray,⟨(zzH (-n)).toArray⟩=V:=⟨_,rfl⟩;rw[hV] at HC HQ;clear hV;cases hq:(V.toList == s.toList) with
    |false=>
     have hq':(V.toList != s.toList)=true:=by simp[bne,hq]
     have HR:=zz (HQ.out.1 hq);clear HQ;go_wp2_with fail;refine zi HC ?_;rintro e w1 ⟨rfl,hb⟩;have HB:=zz hb;clear hb;go_wp2
     go_ret2
     exact⟨by rw[HE.out,HP.out,HR.out];rfl,HB.out⟩
    |true=>
     have hq':(V.toList != s.toList)=false:=by simp[bne,hq]
     by_cases ho:-n<low\/high < -n
     ·have HR:=zz (HQ.out.2.1 ho);clear HQ;rcases (show -n<low\/(¬-n<low/\high < -n) by omega) with h|⟨h,h'⟩
      all_goals
       clear ho;go_wp2_with fail;refine zi HC ?_;rintro e w1 ⟨rfl,hb⟩;have HB:=zz hb;clear hb;go_wp2
       go_ret2
       exact⟨by rw[HE.out,HP.out,HR.out];rfl,HB.out⟩
     ·have HR:=zz (HQ.out.2.2 hq ho);have h1:¬-n<low:=λh=>ho (.inl h);have h2:¬high < -n:=λh=>ho (.inr h);clear HQ ho;go_wp2_with fail;refine zi HC ?_;rintro e w1 ⟨rfl,hb⟩;have HB:=zz hb;clear hb;go_wp2
      go_ret2
      exact⟨by rw[HE.out,HP.out,HR.out];rfl,HB.out⟩
theorem zCn (s:ByteArray) (low high:Int) (w:World) (hs:s.size<=2097152) (h0:0<s.size) (hm:¬zak s 0=45) :
 Calls Tryz.prog 55 #[↑s,↑low,↑high] w (zAa (zzU false low high s (digs s.data.toList 0)) w):=by
 have HI:=zz (zaP s);have HTX:=zz zAj
 have hne:¬s.toList=[]:=λh=>by
  rw[ByteArray.toList_eq] at h;have:=zai s;rw[h] at this;simp at this;omega
 have hemp:s.toList.isEmpty=false:=by simpa using hne
 have hi0:(Instr.index 9 ↑s ↑()).run Tryz.prog w=.ok (.int .u8 (zak s 0)) w:=by simpa using zaP s 0 h0 w
 have e45:(zak s 0 == 45)=false:=by simpa using hm
 obtain⟨X0,hX0⟩:=zn (zak s 0);rw[hX0] at hi0 e45;have hgt:(0:Int)<s.size:=zo
 clear hX0 hm;go_in;go_wp2
 go_loopw [11,12] (λs11 s12 wr=>∃(i:Nat) (n:Int),s12=↑i/\s11=↑n/\-9223372036854775807<=n+1/\n<=0/\i<=s.size/\wr=w/\Hid (digs s.data.toList 0=digs (s.data.toList.drop i) n)) (λ_ s12 _=>s.size-(intOf s12).toNat)
 case atStart=>exact⟨0,0,rfl,rfl,zo,zo,zo,rfl,zz (by rw[List.drop_zero])⟩
 case round=>
  obtain⟨i,n,rfl,rfl,hn1,hn0,hp,rfl,HD⟩:=hrel
  first|clear hi0|skip
  by_cases hlt:i<s.size
  ·have hix:=HI.out i hlt wr;have HS:=zz (HD.out.trans (zgc (by rw[zai];exact hlt) n));rw[show ((s.data.toList.getD i 0).toNat:Int)=zak s i from rfl] at HS;have hbr:=zbt s i;obtain⟨X,hX⟩:=zn (zak s i);rw[hX] at hix HS hbr;clear hX HI;obtain⟨hb0,hb1⟩:=hbr
   by_cases hd:48<=X/\X<=57
   ·obtain⟨d1,d2⟩:=hd;have k1:¬X-48<0:=zo
    have k2:¬9<X-48:=zo
    by_cases ht:n<(-9223372036854775808+(X-48)).tdiv 10
    ·have HE:Hid (digs s.data.toList 0=none):=zz (by
      rw[HS.out];unfold zcm;rw[if_neg zo,if_pos ht];rfl)
     clear HS HD;go_wp2
     go_ret2
     exact⟨by rw[HE.out];rfl,Below.refl _ _⟩
    ·have hq:-9223372036854775807<=n*10-(X-48)+1/\n*10-(X-48)<=0:=by
      rw[zpy zo] at ht;omega
     have HE:Hid (digs s.data.toList 0=digs (s.data.toList.drop (i+1)) (10*n-(X-48))):=zz (by
      rw[HS.out];unfold zcm;rw[if_neg zo,if_neg ht,Int.mul_comm n 10];rfl)
     clear HS HD;go_wp2;exact⟨⟨i+1,_,by go_num,rfl,zo,zo,zo,trivial,HE⟩,by simp[intOf];omega⟩
   ·have HE:Hid (digs s.data.toList 0=none):=zz (by
     rw[HS.out];unfold zcm;rw[if_pos zo];rfl)
    clear HS HD;rcases (show X-48<0\/(¬X-48<0/\9<X-48) by omega) with h|⟨h,h'⟩
    all_goals
     clear hd;go_wp2
     go_ret2
     exact⟨by rw[HE.out];rfl,Below.refl _ _⟩
  ·have HE:=zz (HD.out.trans (zjz (by rw[zai];exact hlt) n));clear HD HI
   by_cases hmin:n < -9223372036854775807
   ·have HP:Hid (zzU false low high s (some n)=(0,false)):=zz (if_pos hmin);obtain rfl:n=-9223372036854775808:=zo
    go_wp2
    go_ret2
    exact⟨by rw[HE.out,HP.out];rfl,Below.refl _ _⟩
   ·have HP:Hid (zzU false low high s (some n)=finR (-n) low high s):=zz (if_neg hmin);have hmb:(n == -9223372036854775808)=false:=by simp;omega
    have HC:=zz (HTX.out (-n) wr zo zo);have HQ:=zz (zAt (-n) low high s);obtain⟨V,hV⟩:∃V:ByteArray,⟨(zzH (-n)).toArray⟩=V:=⟨_,rfl⟩;rw[hV] at HC HQ;clear hV;cases hq:(V.toList == s.toList) with
    |false=>
     have hq':(V.toList != s.toList)=true:=by simp[bne,hq]
     have HR:=zz (HQ.out.1 hq);clear HQ;go_wp2_with fail;refine zi HC ?_;rintro e w1 ⟨rfl,hb⟩;have HB:=zz hb;clear hb;go_wp2
     go_ret2
     exact⟨by rw[HE.out,HP.out,HR.out];rfl,HB.out⟩
    |true=>
     have hq':(V.toList != s.toList)=false:=by simp[bne,hq]
     by_cases ho:-n<low\/high < -n
     ·have HR:=zz (HQ.out.2.1 ho);clear HQ;rcases (show -n<low\/(¬-n<low/\high < -n) by omega) with h|⟨h,h'⟩
      all_goals
       clear ho;go_wp2_with fail;refine zi HC ?_;rintro e w1 ⟨rfl,hb⟩;have HB:=zz hb;clear hb;go_wp2
       go_ret2
       exact⟨by rw[HE.out,HP.out,HR.out];rfl,HB.out⟩
     ·have HR:=zz (HQ.out.2.2 hq ho);have h1:¬-n<low:=λh=>ho (.inl h);have h2:¬high < -n:=λh=>ho (.inr h);clear HQ ho;go_wp2_with fail;refine zi HC ?_;rintro e w1 ⟨rfl,hb⟩;have HB:=zz hb;clear hb;go_wp2
      go_ret2
      exact⟨by rw[HE.out,HP.out,HR.out];rfl,HB.out⟩
theorem zCx (s:ByteArray) (low high:Int) (w:World) (hs:s.size<=2097152) (h0:0<s.size) (hm:zak s 0=45) :
 Calls Tryz.prog 55 #[↑s,↑low,↑high] w (zAa (zzU true low high s (digs (s.extract 1 s.size).data.toList 0)) w):=by
 have HI:=zz (zaP (s.extract 1 s.size));have HTX:=zz zAj
 have hne:¬s.toList=[]:=λh=>by
  rw[ByteArray.toList_eq] at h;have:=zai s;rw[h] at this;simp at this;omega
 have hemp:s.toList.isEmpty=false:=by simpa using hne
 have hi0:(Instr.index 9 ↑s ↑()).run Tryz.prog w=.ok (.int .u8 (zak s 0)) w:=by simpa using zaP s 0 h0 w
 have e45:(zak s 0 == 45)=true:=by simpa using hm
 obtain⟨X0,hX0⟩:=zn (zak s 0);rw[hX0] at hi0 e45;have hgt:(0:Int)<s.size:=zo
 have hge:(1:Int)<=s.size:=zo
 have hTs:(s.extract 1 s.size).size<=2097152:=by rw[ByteArray.size_extract];omega
 obtain⟨T,hT⟩:=zn (s.extract 1 s.size);rw[hT] at hTs HI ⊢;clear hX0 hm;go_in;go_wp2;clear hT
 go_loopw [11,12] (λs11 s12 wr=>∃(i:Nat) (n:Int),s12=↑i/\s11=↑n/\-9223372036854775807<=n+1/\n<=0/\i<=T.size/\wr=w/\Hid (digs T.data.toList 0=digs (T.data.toList.drop i) n)) (λ_ s12 _=>T.size-(intOf s12).toNat)
 case atStart=>exact⟨0,0,rfl,rfl,zo,zo,zo,rfl,zz (by rw[List.drop_zero])⟩
 case round=>
  obtain⟨i,n,rfl,rfl,hn1,hn0,hp,rfl,HD⟩:=hrel
  first|clear hi0|skip
  by_cases hlt:i<T.size
  ·have hix:=HI.out i hlt wr;have HS:=zz (HD.out.trans (zgc (by rw[zai];exact hlt) n));rw[show ((T.data.toList.getD i 0).toNat:Int)=zak T i from rfl] at HS;have hbr:=zbt T i;obtain⟨X,hX⟩:=zn (zak T i);rw[hX] at hix HS hbr;clear hX HI;obtain⟨hb0,hb1⟩:=hbr
   by_cases hd:48<=X/\X<=57
   ·obtain⟨d1,d2⟩:=hd;have k1:¬X-48<0:=zo
    have k2:¬9<X-48:=zo
    by_cases ht:n<(-9223372036854775808+(X-48)).tdiv 10
    ·have HE:Hid (digs T.data.toList 0=none):=zz (by
      rw[HS.out];unfold zcm;rw[if_neg zo,if_pos ht];rfl)
     clear HS HD;go_wp2
     go_ret2
     exact⟨by rw[HE.out];rfl,Below.refl _ _⟩
    ·have hq:-9223372036854775807<=n*10-(X-48)+1/\n*10-(X-48)<=0:=by
      rw[zpy zo] at ht;omega
     have HE:Hid (digs T.data.toList 0=digs (T.data.toList.drop (i+1)) (10*n-(X-48))):=zz (by
      rw[HS.out];unfold zcm;rw[if_neg zo,if_neg ht,Int.mul_comm n 10];rfl)
     clear HS HD;go_wp2;exact⟨⟨i+1,_,by go_num,rfl,zo,zo,zo,trivial,HE⟩,by simp[intOf];omega⟩
   ·have HE:Hid (digs T.data.toList 0=none):=zz (by
     rw[HS.out];unfold zcm;rw[if_pos zo];rfl)
    clear HS HD;rcases (show X-48<0\/(¬X-48<0/\9<X-48) by omega) with h|⟨h,h'⟩
    all_goals
     clear hd;go_wp2
     go_ret2
     exact⟨by rw[HE.out];rfl,Below.refl _ _⟩
  ·have HE:=zz (HD.out.trans (zjz (by rw[zai];exact hlt) n));clear HD HI;have HP:Hid (zzU true low high s (some n)=finR n low high s):=zz rfl;have HC:=zz (HTX.out (n) wr zo zo);have HQ:=zz (zAt (n) low high s);obtain⟨V,hV⟩:∃V:ByteArray,⟨(zzH (n)).toArray⟩=V:=⟨_,rfl⟩;rw[hV] at HC HQ;clear hV;cases hq:(V.toList == s.toList) with
   |false=>
    have hq':(V.toList != s.toList)=true:=by simp[bne,hq]
    have HR:=zz (HQ.out.1 hq);clear HQ;go_wp2_with fail;refine zi HC ?_;rintro e w1 ⟨rfl,hb⟩;have HB:=zz hb;clear hb;go_wp2
    go_ret2
    exact⟨by rw[HE.out,HP.out,HR.out];rfl,HB.out⟩
   |true=>
    have hq':(V.toList != s.toList)=false:=by simp[bne,hq]
    by_cases ho:n<low\/high<n
    ·have HR:=zz (HQ.out.2.1 ho);clear HQ;rcases (show n<low\/(¬n<low/\high<n) by omega) with h|⟨h,h'⟩
     all_goals
      clear ho;go_wp2_with fail;refine zi HC ?_;rintro e w1 ⟨rfl,hb⟩;have HB:=zz hb;clear hb;go_wp2
      go_ret2
      exact⟨by rw[HE.out,HP.out,HR.out];rfl,HB.out⟩
    ·have HR:=zz (HQ.out.2.2 hq ho);have h1:¬n<low:=λh=>ho (.inl h);have h2:¬high<n:=λh=>ho (.inr h);clear HQ ho;go_wp2_with fail;refine zi HC ?_;rintro e w1 ⟨rfl,hb⟩;have HB:=zz hb;clear hb;go_wp2
     go_ret2
     exact⟨by rw[HE.out,HP.out,HR.out];rfl,HB.out⟩
theorem zzj {l:List V} {i:Nat} {v:V} (h:l[i]?=some v):zcl (l.take (i+1))=zcl (l.take i)+v.bulk:=by
 have e:∀a b:List V,zcl (a++b)=zcl a+zcl b:=λa b=>by
  induction a with
  |nil=>rw[List.nil_append,zcl];omega
  |cons x r ih=>rw[List.cons_append,zcl,zcl,ih];omega
 rw[List.take_add_one,h,e]
 show zcl (l.take i)+(v.bulk+0)=_
 omega
def WbAt (v:V):Prop:=∀(d:Int) (A:Option Addr) (c:Nat) (w:World),-1<=d->d<=100->v.bulk<=2097152->Rd (Lt w.heap.size) w (vs v.l) (.slice A v.l.length c)->
 Calls Tryz.prog 46 #[.agg #[.int .i64 v.kind,.string v.t,.int .i64 v.n,.int .i64 v.m,.string v.s,.slice A v.l.length c],.int .i64 d] w λe w'=>(∃x:Int,e=.returned (.int .i64 x)/\0<=x/\x<=v.bulk+1100*(d+2)+100000/\(x<=1100->(v.bulk:Int)<=x))/\Below w.heap.size w w'
theorem zzr (k:Int) (t:ByteArray) (n m:Int) (s:ByteArray) (l:List V) (IH:∀v∈l,WbAt v):WbAt (.mk k t n m s l):=by
 intro d A c w hd1 hd2 hb h;replace h:Rd (Lt w.heap.size) w (vs l) (.slice A l.length c):=h
 show Calls Tryz.prog 46 #[.agg #[↑k,↑t,↑n,↑m,↑s,.slice A l.length c],↑d] w λe w'=>(∃x:Int,e=.returned ↑x/\0<=x/\x<=(V.mk k t n m s l).bulk+1100*(d+2)+100000/\(x<=1100->((V.mk k t n m s l).bulk:Int)<=x))/\Below w.heap.size w w'
 rw[zbv] at hb ⊢;have hbl:=zdB l;have hl:=zno h;have hn:l.length<=9223372036854775807:=Nat.le_trans hl.2.1 hl.2.2;obtain⟨w1,h1,b1,c1⟩:=zaj w #[↑k,↑t,↑n,↑m,↑s,.slice A l.length c] 24;have x1:=c1.a 1 rfl;have x4:=c1.a 4 rfl;have HC:=zz c1;have HB1:=zz b1;have HR:=zz h;have HI:=zz IH;have hw0:IntKind.i64.wrap (10+(t.size:Int))=10+(t.size:Int):=IntWalk.i64_in _ zo;have hw1:IntKind.i64.wrap (10+(t.size:Int)+(s.size:Int))=10+(t.size:Int)+(s.size:Int):=IntWalk.i64_in _ zo;have HD0:Hid (Below w1.heap.size w1 w1):=zz (Below.refl _ _);clear b1 c1 hl h IH
 by_cases hd:d<0
 ·go_in;go_wp2;go_ret;exact⟨⟨100000,rfl,zo,zo,λh=>by omega⟩,HB1.out⟩
 ·have hwd:IntKind.i64.wrap (d-1)=d-1:=IntWalk.i64_in _ zo;go_in;go_wp2;clear h1 x1 x4 hw0 hw1
  go_loopw [5,6] (λsv si wr=>∃(i:Nat) (x:Int),i<=l.length/\sv=↑x/\si=↑i/\0<=x/\x<=(7+t.size+s.size+zcl l:Nat)+1100*(d+2)+100000/\Hid (x<=1100->((7+t.size+s.size+zcl (l.take i):Nat):Int)<=x)/\Hid (Below w1.heap.size w1 wr)) (λ_ si _=>l.length-(intOf si).toNat)
  case atStart=>exact⟨0,_,zo,rfl,rfl,zo,zo,zz (λ_=>by rw[List.take_zero,zcl];omega),HD0⟩
  case round=>
   clear HD0;obtain⟨i,x,hi,rfl,rfl,hx0,hx1,HX,HD⟩:=hrel;have HBW:=zz (zac HB1.out HD.out HB1.out.size);have z5:=(zaa HD.out HC.out).a 5 rfl
   by_cases hlt:i<l.length
   ·have hin:(i:Int)<l.length:=zo
    by_cases h11:x<=1100
    ·obtain⟨b,off,k1,t1,n1,m1,s1,l1,A1,c1,e,hlb,hget,p0,p1,p2,p3,p4,p5,r5⟩:=zrO (HR.out.belows HBW.out) hlt;subst e;have hm:=List.mem_of_getElem? hget;have hy:=zeK _ _ _ hget;have KU:Hid (Calls _ _ #[.agg #[↑k1,↑t1,↑n1,↑m1,↑s1,.slice A1 l1.length c1],.int .i64 (d-1)] wr _):=zz (HI.out _ hm (d-1) A1 c1 wr zo zo zo r5);have HTK:=zz (zzj hget);have hy2:((V.mk k1 t1 n1 m1 s1 l1).bulk:Int)<=zcl l:=zo
     obtain⟨bq,hbq⟩:=zn ((V.mk k1 t1 n1 m1 s1 l1).bulk);rw[hbq] at HTK hy2 hy;replace KU:=KU.out;simp only[hbq] at KU;have KU:=zz KU;clear hbq;clear r5 hget hlb hm hy;go_wp2_with fail;refine KU.out.mono ?_;rintro e w4 ⟨⟨x2,rfl,hz0,hz1,hz2⟩,hb4⟩;have HD2:=zz (zac HD.out hb4 HD.out.size);have hwx:IntKind.i64.wrap (x+x2)=x+x2:=IntWalk.i64_in _ zo;have q1:x+x2<=(7+t.size+s.size+zcl l:Nat)+1100*(d+2)+100000:=zo
     have q0:0<=x+x2:=zo
     have HX2:Hid (x+x2<=1100->((7+t.size+s.size+zcl (l.take (i+1)):Nat):Int)<=x+x2):=zz (λh=>by
      have:=HX.out zo;have:=hz2 zo;rw[HTK.out];omega)
     clear hb4 hz0 hz1 hz2 HX HTK;go_wp2;exact⟨⟨i+1,x+x2,zo,rfl,by go_num,q0,q1,HX2,HD2⟩,by simp[intOf];omega⟩
    ·go_wp2;go_ret;exact⟨⟨x,rfl,hx0,hx1,λh=>absurd h zo⟩,HBW.out⟩
   ·go_wp2;go_ret
    exact⟨⟨x,rfl,hx0,hx1,λh=>by
     have q:=HX.out h;rw[List.take_of_length_le zo] at q;exact q⟩,HBW.out⟩
theorem zzf:∀v:V,WbAt v
 |.mk k t n m s l=>zzr k t n m s l (λx _=>zzf x)
theorem zzp (k:Int) (t:ByteArray) (n m:Int) (s:ByteArray) (l:List V) (A:Option Addr) (c:Nat) (w:World) (hb:(V.mk k t n m s l).bulk<=2097152) (h:Rd (Lt w.heap.size) w (vs l) (.slice A l.length c)) :
 Calls Tryz.prog 9 #[.agg #[↑k,↑t,↑n,↑m,↑s,.slice A l.length c]] w λe w'=>(∃b,e=.returned (.bool b)/\(b=true->(V.mk k t n m s l).bulk<=1100))/\Below w.heap.size w w':=by
 obtain⟨w1,h1,b1,c1⟩:=zaj w #[↑k,↑t,↑n,↑m,↑s,.slice A l.length c] 24;have x0:=c1.a 0 rfl;have x1:=c1.a 1 rfl;have x2:=c1.a 2 rfl;have x3:=c1.a 3 rfl;have x4:=c1.a 4 rfl;have x5:=c1.a 5 rfl;have K:Hid (Calls _ _ #[.agg #[↑k,↑t,↑n,↑m,↑s,.slice A l.length c],.int .i64 20] w1 _):=zz (zzf (.mk k t n m s l) 20 A c w1 zo zo hb (h.belows b1));have HB1:=zz b1;clear b1 c1 h;go_in;go_wp2_with fail;refine K.out.mono ?_;rintro e w2 ⟨⟨x,rfl,_,_,hx⟩,hb⟩;have HB2:=zz (zac HB1.out hb HB1.out.size);have HX:Hid (x<=1100->((V.mk k t n m s l).bulk:Int)<=x):=zz hx;clear hb hx;go_wp2;go_ret;exact⟨⟨decide (x<=1100),rfl,λh=>by have h1:=of_decide_eq_true h;have h2:=HX.out h1;omega⟩,HB2.out⟩
theorem zzN (x y:Int) (w:World):Calls Tryz.prog 68 #[↑x,↑y] w λe w'=>e=.returned (.int .i64 (cmpI x y))/\w'=w:=by
 unfold cmpI
 by_cases h1:x<y
 ·rw[if_pos h1];go_in;go_wp2;go_ret;exact⟨rfl,rfl⟩
 ·rw[if_neg h1]
  by_cases h2:y<x
  ·rw[if_pos h2];go_in;go_wp2;go_ret;exact⟨rfl,rfl⟩
  ·rw[if_neg h2];go_in;go_wp2;go_ret;exact⟨rfl,rfl⟩
theorem zBX (x y:ByteArray) (w:World):Calls Tryz.prog 69 #[↑x,↑y] w λe w'=>e=.returned (.int .i64 (cmpB x y))/\w'=w:=by
 unfold cmpB;cases h1:Op.bytesLess x.toList y.toList with
 |true=>
  rw[if_pos rfl];go_in;go_wp2;go_ret;exact⟨rfl,rfl⟩
 |false=>
  rw[if_neg zs];cases h2:Op.bytesLess y.toList x.toList with
  |true=>
   have h3:(x.toList == y.toList)=false:=by
    rw[beq_eq_false_iff_ne];intro e;rw[e,zqg] at h2;cases h2
   rw[if_pos rfl];go_in;go_wp2;go_ret;exact⟨rfl,rfl⟩
  |false=>
   have h3:(x.toList == y.toList)=true:=beq_iff_eq.2 (ztz _ _ h1 h2);rw[if_neg zs];go_in;go_wp2;go_ret;exact⟨rfl,rfl⟩
def RcAt (v:V):Prop:=∀(u:V) (A A':Option Addr) (c c':Nat) (w:World),Rd (Lt w.heap.size) w (vs v.l) (.slice A v.l.length c)->Rd (Lt w.heap.size) w (vs u.l) (.slice A' u.l.length c')->
 Calls Tryz.prog 34 #[.agg #[.int .i64 v.kind,.string v.t,.int .i64 v.n,.int .i64 v.m,.string v.s,.slice A v.l.length c],.agg #[.int .i64 u.kind,.string u.t,.int .i64 u.n,.int .i64 u.m,.string u.s,.slice A' u.l.length c']] w λe w'=>e=.returned (.int .i64 (cmpV v u))/\Below w.heap.size w w'
theorem zEf (k:Int) (t:ByteArray) (n m:Int) (s:ByteArray) (l:List V) (IH:∀v∈l,RcAt v):RcAt (.mk k t n m s l):=by
 intro u A A' c c' w hr hr';obtain⟨k',t',n',m',s',l'⟩:=u;replace hr:Rd (Lt w.heap.size) w (vs l) (.slice A l.length c):=hr;replace hr':Rd (Lt w.heap.size) w (vs l') (.slice A' l'.length c'):=hr'
 show Calls Tryz.prog 34 #[.agg #[.int .i64 k,.string t,.int .i64 n,.int .i64 m,.string s,.slice A l.length c],.agg #[.int .i64 k',.string t',.int .i64 n',.int .i64 m',.string s',.slice A' l'.length c']] w λe w'=>e=.returned (.int .i64 (cmpV (.mk k t n m s l) (.mk k' t' n' m' s' l')))/\Below w.heap.size w w'
 rw[cmpV];have hl:=zno hr;have hl':=zno hr';have hn:l.length<=9223372036854775807:=Nat.le_trans hl.2.1 hl.2.2;have hn':l'.length<=9223372036854775807:=Nat.le_trans hl'.2.1 hl'.2.2;obtain⟨w1,hw1,b1,c1⟩:=zaj w #[.int .i64 k,.string t,.int .i64 n,.int .i64 m,.string s,.slice A l.length c] 24;obtain⟨w2,hw2,b2,c2⟩:=zaj w1 #[.int .i64 k',.string t',.int .i64 n',.int .i64 m',.string s',.slice A' l'.length c'] 24;have c1':=zaa b2 c1;have e2:=zac b1 b2 b1.size;obtain⟨y0,y1,y2,y3,y4⟩:_/\_/\_/\_/\_:=⟨c1'.cell 0,c1'.cell 1,c1'.cell 2,c1'.cell 3,c1'.cell 4⟩;obtain⟨z0,z1,z2,z3,z4⟩:_/\_/\_/\_/\_:=⟨c2.cell 0,c2.cell 1,c2.cell 2,c2.cell 3,c2.cell 4⟩;have HB:=zz e2;have HX:=zz c1';have HY:=zz c2;have HR:=zz hr;have HR':=zz hr';have HI:=zz IH;obtain⟨a0,ha0⟩:=zn (cmpI k k');obtain⟨a1,ha1⟩:=zn (cmpB t t');obtain⟨a2,ha2⟩:=zn (cmpI n n');obtain⟨a3,ha3⟩:=zn (cmpI m m');obtain⟨a4,ha4⟩:=zn (cmpB s s');have k0:=λw=>zzN k k' w;have k1:=λw=>zBX t t' w;have k2:=λw=>zzN n n' w;have k3:=λw=>zzN m m' w;have k4:=λw=>zBX s s' w;rw[ha0] at k0;rw[ha1] at k1;rw[ha2] at k2;rw[ha3] at k3;rw[ha4] at k4;rw[ha0,ha1,ha2,ha3,ha4];have K0:=zz k0;have K1:=zz k1;have K2:=zz k2;have K3:=zz k3;have K4:=zz k4;obtain⟨r,hr0⟩:=zn (zbh l l');rw[hr0];obtain⟨R,hR⟩:=zn (thn a0 (thn a1 (thn a2 (thn a3 (thn a4 r)))));rw[hR];have HQ:=zz hr0;have HA:=zz hR;clear b1 b2 c1 c2 c1' e2 hl hl' hr hr' IH ha0 ha1 ha2 ha3 ha4 k0 k1 k2 k3 k4 hr0 hR;go_in;go_wp2_with fail;refine wp_region_still_tail 25 zk zk ?_;simp only[List.take_succ_cons,List.take_zero,List.drop_succ_cons,List.drop_zero]
 iterate 4 still_step
 still_call (K0.out _)
 iterate 4 still_step
 still_call (K1.out _)
 iterate 4 still_step
 still_call (K2.out _)
 iterate 4 still_step
 still_call (K3.out _)
 iterate 4 still_step
 still_call (K4.out _)
 change wpList _ _ _ _ _ w2.drew;obtain⟨D,hD⟩:=zn w2.drew;have bd:Below w2.heap.size w2 D:=by rw[<-hD];exact zae (Below.refl _ _) 1
 rw[hD];clear hD y0 y1 y2 y3 y4 z0 z1 z2 z3 z4 K0 K1 K2 K3 K4 hw1 hw2;obtain⟨w3,hw3,b3,c3⟩:=zaj D #[.int .i64 a0,.int .i64 a1,.int .i64 a2,.int .i64 a3,.int .i64 a4] 3;have b23:=zac bd b3 bd.size;have HB3:=zz (zac HB.out b23 HB.out.size);have HX3:=zz (zaa b23 HX.out);have HY3:=zz (zaa b23 HY.out);have HC:=zz c3;clear bd b3 b23 c3 HB HX HY;go_wp2;clear hw3;have HA0:Hid ((([a0,a1,a2,a3,a4]:List Int).drop 0).foldr thn r=R):=zz HA.out;clear HA
 go_loopw [6] (λs6 wr=>∃i:Nat,i<=5/\s6=.int .i64 i/\wr=w3/\Hid ((([a0,a1,a2,a3,a4]:List Int).drop i).foldr thn r=R)) (λs6 _=>5-(intOf s6).toNat)
 case atStart=>exact⟨0,zo,rfl,rfl,HA0⟩
 case round=>
  clear HA0;obtain⟨i,hi,rfl,rfl,HA⟩:=hrel
  by_cases hlt:i<5
  ·have hin:(i:Int)<5:=zo
   obtain⟨x,hx,hq⟩:∃x,wr.cell? ⟨D.heap.size,i,none⟩=some (.int .i64 x)/\thn x ((([a0,a1,a2,a3,a4]:List Int).drop (i+1)).foldr thn r)=R:=by
    have h:=HA.out;rcases (show i=0\/i=1\/i=2\/i=3\/i=4 by omega) with rfl|rfl|rfl|rfl|rfl
    ·exact⟨_,HC.out.cell 0,h⟩
    ·exact⟨_,HC.out.cell 1,h⟩
    ·exact⟨_,HC.out.cell 2,h⟩
    ·exact⟨_,HC.out.cell 3,h⟩
    ·exact⟨_,HC.out.cell 4,h⟩
   clear HA
   by_cases h0:x=0
   ·have e0:(x != 0)=false:=by simp[h0]
    have HA2:Hid ((([a0,a1,a2,a3,a4]:List Int).drop (i+1)).foldr thn r=R):=zz (by rw[h0] at hq;exact hq);clear hq h0;go_wp2;exact⟨⟨i+1,zo,by go_num,True.intro,HA2⟩,by simp[intOf];omega⟩
   ·have e0:(x != 0)=true:=by simp[h0]
    have HQR:Hid (x=R):=zz (by unfold thn at hq;rw[if_neg h0] at hq;exact hq);clear hq h0;go_wp2;go_ret;exact⟨by rw[<-HQR.out];rfl,HB3.out⟩
  ·obtain rfl:i=5:=zo
   have HQ0:Hid (zbh (l.drop 0) (l'.drop 0)=R):=zz (HQ.out.trans HA.out);have HD0:Hid (Below wr.heap.size wr wr):=zz (Below.refl _ _);clear HA HQ hlt HC;go_wp2;rename World=>wq
   go_loopw [7] (λs7 wr=>∃i:Nat,i<=l.length/\i<=l'.length/\s7=.int .i64 i/\Hid (zbh (l.drop i) (l'.drop i)=R)/\Hid (Below wq.heap.size wq wr)) (λs7 _=>l.length-(intOf s7).toNat)
   case atStart=>exact⟨0,zo,zo,rfl,HQ0,HD0⟩
   case round=>
    clear HQ0 HD0;obtain⟨i,hi,hi',rfl,HA,HD⟩:=hrel;have x5:=(zaa HD.out HX3.out).a 5 rfl;have y5:=(zaa HD.out HY3.out).a 5 rfl;have HBW:=zz (zac HB3.out HD.out HB3.out.size)
    by_cases h1:i<l.length
    ·by_cases h2:i<l'.length
     ·have g1:(i:Int)<l.length:=zo
      have g2:(i:Int)<l'.length:=zo
      obtain⟨b,off,k1,t1,n1,m1,s1,l1,A1,c1,e,hlb,hget,p0,p1,p2,p3,p4,p5,r5⟩:=zrO (HR.out.belows HBW.out) h1;subst e;obtain⟨b',off',k2,t2,n2,m2,s2,l2,A2,c2,e,hlb',hget',q0,q1,q2,q3,q4,q5,r5'⟩:=zrO (HR'.out.belows HBW.out) h2;subst e;have q:=HA.out;rw[znO hget hget'] at q;have hdr:Below wr.heap.size wr wr.drew:=zae (Below.refl _ _) 1;have KU:=HI.out _ (List.mem_of_getElem? hget) (.mk k2 t2 n2 m2 s2 l2) A1 A2 c1 c2 wr.drew (r5.belows hdr) (r5'.belows hdr);obtain⟨x,hx⟩:=zn (cmpV (.mk k1 t1 n1 m1 s1 l1) (.mk k2 t2 n2 m2 s2 l2));rw[hx] at KU q;have KU:Hid (Calls _ _ #[.agg #[.int .i64 k1,.string t1,.int .i64 n1,.int .i64 m1,.string s1,.slice A1 l1.length c1],.agg #[.int .i64 k2,.string t2,.int .i64 n2,.int .i64 m2,.string s2,.slice A2 l2.length c2]] wr.drew _):=zz KU;have HX:=zz q;clear r5 r5' hget hget' hlb hlb' q hx hdr HA;go_wp2
      go_still_tail 10,zk
      change wpList _ _ _ _ _ wr.drew;go_wp2_with fail;refine KU.out.mono ?_;rintro e w4 ⟨rfl,hb4⟩;have HD2:=zz (zac HD.out (show Below wr.heap.size wr w4 from (zae (Below.refl _ _) 1).trans hb4) HD.out.size);clear hb4 x5 y5 p0 p1 p2 p3 p4 p5 q0 q1 q2 q3 q4 q5
      by_cases h0:x=0
      ·have e0:(x != 0)=false:=by simp[h0]
       have HA2:Hid (zbh (l.drop (i+1)) (l'.drop (i+1))=R):=zz (by have q:=HX.out;rw[h0] at q;exact q);clear h0;go_wp2_with fail;refine⟨⟨_,_,_,_,_,_,_,_,_,_,_,_,_,_,_,_,_,_,_,_,_,_,_,_,_,_,_,_,_,_,_,⟨i+1,zo,zo,by go_num,HA2,HD2⟩,rfl⟩,?_⟩;simp[intOf];omega
      ·have e0:(x != 0)=true:=by simp[h0]
       have HQR:Hid (x=R):=zz (by have q:=HX.out;unfold thn at q;rw[if_neg h0] at q;exact q);clear h0;go_wp2;go_ret;exact⟨by rw[<-HQR.out];rfl,zac HB3.out HD2.out HB3.out.size⟩
     ·have g1:(i:Int)<l.length:=zo
      have g2:¬(i:Int)<l'.length:=zo
      have q:=HA.out;rw[zkH (.inr ⟨zo,zo⟩)] at q;have K5:=zz (λw=>zzN l.length l'.length w);rw[q] at K5;clear q HA;go_wp2_with fail;refine(K5.out _).mono ?_;rintro e w4 ⟨rfl,rfl⟩;go_wp2;go_ret;exact⟨rfl,HBW.out⟩
    ·have g1:¬(i:Int)<l.length:=zo
     have q:=HA.out;rw[zkH (.inl ⟨zo,zo⟩)] at q;have K5:=zz (λw=>zzN l.length l'.length w);rw[q] at K5;clear q HA;go_wp2_with fail;refine(K5.out _).mono ?_;rintro e w4 ⟨rfl,rfl⟩;go_wp2;go_ret;exact⟨rfl,HBW.out⟩
theorem zAx:∀v:V,RcAt v
 |.mk k t n m s l=>zEf k t n m s l (λx _=>zAx x)
end Go.Proofs.YtcebmphappfjjaaGreatDoor
