/- Conditions: those in each statement. -/
import Derived.Test.YtjdpocmlimkjjaaGreatQ14
import Derived.Test.YtjdpocmlimkjjaaGreatQ15
set_option maxHeartbeats 32000000
set_option maxRecDepth 100000
namespace Go.Proofs.YtjdpocmlimkjjaaGreat
open Go.RowKit
def sgOf (k:Nd):List Nd:=
 if k.kind=7 then [kid0 k]
 else if k.kind=8 then k.kids
 else if k.kind=9 then [kid0 k]
 else if k.kind=10 then (zaL k.kids).map kid0
 else if k.kind=12∨k.kind=13∨k.kind=14∨k.kind=15 then [k]
 else []
theorem zmH (n:Nd):zbo n=n.kids.flatMap sgOf:=rfl
structure zfn (l:List Nd):Prop where
 fld:∀k∈l,k.kind=7→0<k.kids.length
 st:∀k∈l,k.kind=9→0<k.kids.length
 on:∀k∈l,k.kind=10→zhV (zaL k.kids)
def Sg (P:Nat→Prop) (B:Nat) (b:Nat):Prop:=P b∨B≤b
def LtP (P:Nat→Prop) (n:Nat) (b:Nat):Prop:=P b∧b<n
structure SgSt (P:Nat→Prop) (w W:World) (acc:List Nd) (A:Option Addr) (c:Nat):Prop where
 low:Below w.heap.size w W
 own:OwnS (Sg P w.heap.size) 25 5 acc.length (zap Nd.row acc) W (.slice A acc.length c)
 big:∀q,(Value.slice A acc.length c).ownBlock=some q→w.heap.size≤q
section
variable {P:Nat→Prop} {w W W':World} {acc L:List Nd} {A A':Option Addr} {c c':Nat}
theorem SgSt.below (h:SgSt P w W acc A c) (k:Below W.heap.size W W'):SgSt P w W' acc A c:=⟨zab h.low k h.low.size,h.own.below k,h.big⟩
theorem SgSt.grown (h:SgSt P w W acc A c) (hO:OwnS (Sg P w.heap.size) 25 5 L.length (zap Nd.row L) W' (.slice A' L.length c')) (hg:W.grownBy W' (Value.slice A acc.length c).ownBlock)
 (hb:∀q,(Value.slice A' L.length c').ownBlock=some q→(Value.slice A acc.length c).ownBlock=some q∨q=W.heap.size):SgSt P w W' L A' c':=
 ⟨h.low.trans ((Chg.of_grown (M:=λk=>w.heap.size≤k) hg (λk hk=>h.big k hk)).below h.low.size (λ_ hq=>hq)),hO,λq hq=>by
  rcases hb q hq with h1|h1
  ·exact h.big q h1
  ·rw[h1];exact h.low.size⟩
theorem zkn {B:Nat} {d:D} {u v:Value} (R:Rd (LtP P B) W d u) (hB:B≤W.heap.size) (hv:∀q,v.ownBlock=some q→B≤q):Rd (λb=>(Sg P B b∧b<W.heap.size)∧some b≠v.ownBlock) W d u:=
 R.weaken (λb hb=>⟨⟨.inl hb.1,Nat.lt_of_lt_of_le hb.2 hB⟩,λe=>by have h1:=hv b e.symm;have h2:b<B:=hb.2;omega⟩)
end
theorem zhw (P:Nat→Prop) (n:Nd) (hk:zfn n.kids) (hs:zaq n.kids≤2097152) (A:Option Addr) (c:Nat) (w:World) (h:Rd (LtP P w.heap.size) w (ns n.kids) (.slice A n.kids.length c)) :
 Calls Tryz.prog 60 #[.agg #[.int .i64 n.kind,.string n.text,.int .i64 n.n,.int .i64 n.at',.slice A n.kids.length c]] w (λe w'=>Below w.heap.size w w'∧∃A' c',e=.returned (.slice A' (zbo n).length c')∧Rd (LtP (Sg P w.heap.size) w'.heap.size) w' (ns (zbo n)) (.slice A' (zbo n).length c')):=by
 rw[zmH];generalize n.kind=kd,n.text=tx,n.n=nn,n.at'=at' at *
 obtain⟨l,hl0⟩:∃l,n.kids=l:=⟨_,rfl⟩;rw[hl0] at h hk hs ⊢;clear hl0;have hl:=zaD h;have hc1:=hl.2.1;have hc2:=hl.2.2;have hn:l.length≤2097152:=Nat.le_trans (zaB l) hs;obtain⟨w1,h1,b1,c1⟩:=zai w #[.int .i64 kd,.string tx,.int .i64 nn,.int .i64 at',.slice A l.length c] 25;have x4:w1.cell? ⟨w.heap.size,4,none⟩=some (.slice A l.length c):=c1.cell 4;obtain⟨r,hr⟩:∃r,l.flatMap sgOf=r:=⟨_,rfl⟩;rw[hr];have HA0:Hid ([]++(l.drop 0).flatMap sgOf=r):=zz hr;have Z0:Hid (SgSt P w w1 [] none 0):=zz ⟨b1,OwnS.nil _ _ _ _ _,λq hq=>by cases hq⟩;have HR:=zz h;have HK:=zz hk;have hs0:(0:Nat)+zaq (l.drop 0)≤2097152:=by rw[List.drop_zero];omega
 clear b1 c1 hr h hl hk hs;go_enter Tryz.func60,Tryz.ntmps60;go_wp2_with fail;clear h1 x4
 go_loopw [11,3] (λs11 s3 wr=>∃(i:Nat) (acc:List Nd) (A':Option Addr) (c':Nat),i≤l.length∧acc.length+zaq (l.drop i)≤2097152∧s11=.int .i64 i∧s3=.slice A' acc.length c'∧Hid (acc++(l.drop i).flatMap sgOf=r)∧Hid (SgSt P w wr acc A' c')) (λs11 _ _=>l.length-(intOf s11).toNat)
 case atStart=>exact⟨0,[],none,0,by omega,hs0,rfl,rfl,HA0,Z0⟩
 case round=>
  clear HA0 Z0 hs0;obtain⟨i,acc,A1,c1,hi,hal,rfl,rfl,HA,HB⟩:=hrel
  by_cases hlt:i<l.length
  ·have hsw:=HB.out.low.size;obtain⟨b,off,y,e,hlb,hget,A',c',g0,g1,g2,g3,g4,r5w⟩:=zbN HR.out hlt;subst e;have p0:=(HB.out.low.cell (p:=⟨b,_,none⟩) hlb.2).trans g0;have p1:=(HB.out.low.cell (p:=⟨b,_,none⟩) hlb.2).trans g1;have p2:=(HB.out.low.cell (p:=⟨b,_,none⟩) hlb.2).trans g2;have p3:=(HB.out.low.cell (p:=⟨b,_,none⟩) hlb.2).trans g3;have p4:=(HB.out.low.cell (p:=⟨b,_,none⟩) hlb.2).trans g4;have r5:=Rd.below (ok:=LtP P w.heap.size) HB.out.low (λ_ h=>h.2) r5w;clear g0 g1 g2 g3 g4 hlb;have q:=HA.out;rw[zak hget,List.flatMap_cons] at q;rw[zak hget,zat] at hal;have hys:y.size=1+zaq y.kids:=by cases y;rw[zaE];rfl
   have hym:=List.mem_of_getElem? hget;have hin:(i:Int)<l.length:=by omega
   have hyk1:=zaB y.kids;obtain⟨w3,hw3,hb3,hx3⟩:=zai wr #[.int .i64 y.kind,.string y.text,.int .i64 y.n,.int .i64 y.at',.slice A' y.kids.length c'] 25;have q0:w3.cell? ⟨wr.heap.size,0,none⟩=some (.int .i64 y.kind):=hx3.cell 0;have q4:w3.cell? ⟨wr.heap.size,4,none⟩=some (.slice A' y.kids.length c'):=hx3.cell 4;have Z3:=zz (HB.out.below hb3);have hal1:acc.length+1+zaq (l.drop (i+1))≤2097152:=by omega
   have hal2:acc.length+y.kids.length+zaq (l.drop (i+1))≤2097152:=by omega
   clear hal hyk1
   by_cases hk:y.kind=7
   ·have hyk:=HK.out.fld y hym hk;obtain⟨b2,off2,z,e2,_,hget2,A2,c2,z0,z1,z2,z3,z4,r6⟩:=zbN r5 hyk;have hyl:=zaD r5;have hy1:=hyl.2.1;have hy2:=hyl.2.2;subst e2;have hzl:b2<wr.heap.size:=World.block_lt_of_cell? wr _ z0;have t0:w3.cell? ⟨b2,off2,none⟩=some (.int .i64 z.kind):=by rw[hb3.cell (p:=⟨b2,off2,none⟩) hzl];simpa using z0
    have t1:w3.cell? ⟨b2,off2+1,none⟩=some (.string z.text):=by rw[hb3.cell (p:=⟨b2,off2+1,none⟩) hzl];simpa using z1
    have t2:w3.cell? ⟨b2,off2+2,none⟩=some (.int .i64 z.n):=by rw[hb3.cell (p:=⟨b2,off2+2,none⟩) hzl];simpa using z2
    have t3:w3.cell? ⟨b2,off2+3,none⟩=some (.int .i64 z.at'):=by rw[hb3.cell (p:=⟨b2,off2+3,none⟩) hzl];simpa using z3
    have t4:w3.cell? ⟨b2,off2+4,none⟩=some (.slice A2 z.kids.length c2):=by rw[hb3.cell (p:=⟨b2,off2+4,none⟩) hzl];simpa using z4
    have RE:=zz (Rd.below (ok:=LtP P w.heap.size) hb3 (λb hb=>Nat.lt_of_lt_of_le hb.2 hsw) r6);have hsg:sgOf y=[z]:=by unfold sgOf;rw[if_pos hk];rw[zhT hget2]
    rw[hsg] at q;have HQ:=zz q;have e7:(y.kind == 7)=true:=by rw[hk];rfl
    clear q hsg hyl hzl r5 r5w r6 z0 z1 z2 z3 z4 hb3 hx3 HA HB hget hget2 hym hk hys;have ba:=zag w3 (.cells #[.int .i64 z.kind,.string z.text,.int .i64 z.n,.int .i64 z.at',.slice A2 z.kids.length c2] 25);have Z5:=zz (Z3.out.below ba);have R5:=zz (Rd.below (ok:=LtP P w.heap.size) ba (λb hb=>Nat.lt_of_lt_of_le hb.2 Z3.out.low.size) RE.out);have sl5:=Z5.out.low.size;clear ba RE;go_wp2_with (at_builtin;refine zaV Nd.row zew Tryz.underlying23 rfl (by omega) (by omega) rfl _ _ rfl (Sg P w.heap.size) (.inr Z5.out.low.size) (.slice A1 acc.length c1) acc rfl Z5.out.own ⟨w3.heap.size,0,none⟩ 1 z [.int .i64 z.kind,.string z.text,.int .i64 z.n,.int .i64 z.at',.slice A2 z.kids.length c2] rfl rfl ?k72 ?k73 ?k74 ?_)
    case k72=>exact zaU _ rfl _ _
    case k73=>exact λj u hj=>zbM (zkn R5.out sl5 Z5.out.big) j u hj
    case k74=>omega
    intro v' w8 hO hg hv8;replace hO:OwnS (Sg P w.heap.size) 25 5 (acc++[z]).length (zap Nd.row (acc++[z])) w8 v':=by rw[List.length_append];exact hO
    have hLl:(acc++[z]).length=acc.length+1:=by simp
    obtain⟨L,hL⟩:∃L,acc++[z]=L:=⟨_,rfl⟩;rw[hL] at hO hLl;obtain⟨A8,c8,rfl,_⟩:=hO.owned0.rd.sl_inv;have Z8:=zz (Z5.out.grown hO hg (λq hq=>by rcases hv8 q hq with h|h;exact .inl h;exact .inr (by rw[h];simp)));have HL:=zz hL;have hL1:L.length≤acc.length+1:=by omega
    clear hO hg hv8 hL hLl Z5 R5;clear t0 t1 t2 t3 t4 q0 q4;have q:=HQ.out;rw[←List.append_assoc,HL.out] at q;have HQ2:=zz q;clear q HL HQ;go_wp2_with fail;exact⟨⟨i+1,L,A8,c8,by omega,by omega,by go_num,rfl,HQ2,Z8⟩,by simp[intOf];omega⟩
   ·by_cases h8:y.kind=8
    ·have hk:=h8;have hsg:sgOf y=y.kids:=by unfold sgOf;rw[if_neg (by omega),if_pos h8]
     rw[hsg] at q;have HQ:=zz q;have e7:(y.kind == 7)=false:=by rw[hk];rfl
     have e8:(y.kind == 8)=true:=by rw[hk];rfl
     have hyl:=zaD r5;have RE:=Rd.below (ok:=LtP P w.heap.size) hb3 (λb hb=>Nat.lt_of_lt_of_le hb.2 hsw) r5
     have hsrc:0<y.kids.length→∃b off,A'=some ⟨b,off,none⟩∧∀i,i<y.kids.length→zde (λb=>(Sg P w.heap.size b∧b<w3.heap.size)∧some b≠(Value.slice A1 acc.length c1).ownBlock) w3 b (off+i*5) 5 (zap Nd.row y.kids i):=λhp=>by
      obtain⟨A0,c0,e,_,_,h3⟩:=RE.sl_inv;injection e with e1 e2 e3;subst e1;obtain⟨b2,off2,e4,_,hr⟩:=h3 hp;refine⟨b2,off2,e4,λi hi=>?_⟩;rw[←zgP hi];exact(hr i hi).weaken (λb hb=>⟨⟨.inl hb.1,Nat.lt_of_lt_of_le hb.2 Z3.out.low.size⟩,λe=>by have h1:=Z3.out.big b e.symm;have h2:b<w.heap.size:=hb.2;omega⟩)
     have HSRC:=zz hsrc;clear q hsg hyl r5 r5w hb3 hx3 HA HB hget hym hk h8 hys RE hsrc;go_wp2_with (at_builtin;refine zio zew Tryz.underlying23 rfl (by omega) (by omega) rfl _ _ rfl (Sg P w.heap.size) (.inr Z3.out.low.size) (.slice A1 acc.length c1) acc.length (zap Nd.row acc) rfl Z3.out.own y.kids.length c' A' (zap Nd.row y.kids) (zap Nd.row (acc++y.kids)) rfl HSRC.out (zfR rfl) (zeZ rfl rfl) (by omega) ?_);intro v' w8 hO hg hv8;replace hO:OwnS (Sg P w.heap.size) 25 5 (acc++y.kids).length (zap Nd.row (acc++y.kids)) w8 v':=by rw[List.length_append];exact hO
     have hLl:(acc++y.kids).length=acc.length+y.kids.length:=by simp
     obtain⟨L,hL⟩:∃L,acc++y.kids=L:=⟨_,rfl⟩;rw[hL] at hO hLl;obtain⟨A8,c8,rfl,_⟩:=hO.owned0.rd.sl_inv;have Z8:=zz (Z3.out.grown hO hg hv8);have hL1:L.length≤acc.length+y.kids.length:=by omega
     have q:=HQ.out;rw[←List.append_assoc,hL] at q;have HQ2:=zz q;clear hO hg hv8 hL hLl Z3 q HQ q0 q4;go_wp2_with fail;exact⟨⟨i+1,L,A8,c8,by omega,by omega,by go_num,rfl,HQ2,Z8⟩,by simp[intOf];omega⟩
    ·by_cases h9:y.kind=9
     ·have hkx:=h9;clear hk;have hk:=h9;clear h9 hkx;have hyk:=HK.out.st y hym hk;obtain⟨b2,off2,z,e2,_,hget2,A2,c2,z0,z1,z2,z3,z4,r6⟩:=zbN r5 hyk;have hyl:=zaD r5;have hy1:=hyl.2.1;have hy2:=hyl.2.2;subst e2;have hzl:b2<wr.heap.size:=World.block_lt_of_cell? wr _ z0;have t0:w3.cell? ⟨b2,off2,none⟩=some (.int .i64 z.kind):=by rw[hb3.cell (p:=⟨b2,off2,none⟩) hzl];simpa using z0
      have t1:w3.cell? ⟨b2,off2+1,none⟩=some (.string z.text):=by rw[hb3.cell (p:=⟨b2,off2+1,none⟩) hzl];simpa using z1
      have t2:w3.cell? ⟨b2,off2+2,none⟩=some (.int .i64 z.n):=by rw[hb3.cell (p:=⟨b2,off2+2,none⟩) hzl];simpa using z2
      have t3:w3.cell? ⟨b2,off2+3,none⟩=some (.int .i64 z.at'):=by rw[hb3.cell (p:=⟨b2,off2+3,none⟩) hzl];simpa using z3
      have t4:w3.cell? ⟨b2,off2+4,none⟩=some (.slice A2 z.kids.length c2):=by rw[hb3.cell (p:=⟨b2,off2+4,none⟩) hzl];simpa using z4
      have RE:=zz (Rd.below (ok:=LtP P w.heap.size) hb3 (λb hb=>Nat.lt_of_lt_of_le hb.2 hsw) r6);have hsg:sgOf y=[z]:=by unfold sgOf;rw[if_neg (by omega),if_neg (by omega),if_pos hk];rw[zhT hget2]
      rw[hsg] at q;have HQ:=zz q;have e7:(y.kind == 7)=false:=by rw[hk];rfl
      have e8:(y.kind == 8)=false:=by rw[hk];rfl
      have e9:(y.kind == 9)=true:=by rw[hk];rfl
      clear q hsg hyl hzl r5 r5w r6 z0 z1 z2 z3 z4 hb3 hx3 HA HB hget hget2 hym hk hys;have ba:=zag w3 (.cells #[.int .i64 z.kind,.string z.text,.int .i64 z.n,.int .i64 z.at',.slice A2 z.kids.length c2] 25);have Z5:=zz (Z3.out.below ba);have R5:=zz (Rd.below (ok:=LtP P w.heap.size) ba (λb hb=>Nat.lt_of_lt_of_le hb.2 Z3.out.low.size) RE.out);have sl5:=Z5.out.low.size;clear ba RE;go_wp2_with (at_builtin;refine zaV Nd.row zew Tryz.underlying23 rfl (by omega) (by omega) rfl _ _ rfl (Sg P w.heap.size) (.inr Z5.out.low.size) (.slice A1 acc.length c1) acc rfl Z5.out.own ⟨w3.heap.size,0,none⟩ 1 z [.int .i64 z.kind,.string z.text,.int .i64 z.n,.int .i64 z.at',.slice A2 z.kids.length c2] rfl rfl ?k92 ?k93 ?k94 ?_)
      case k92=>exact zaU _ rfl _ _
      case k93=>exact λj u hj=>zbM (zkn R5.out sl5 Z5.out.big) j u hj
      case k94=>omega
      intro v' w8 hO hg hv8;replace hO:OwnS (Sg P w.heap.size) 25 5 (acc++[z]).length (zap Nd.row (acc++[z])) w8 v':=by rw[List.length_append];exact hO
      have hLl:(acc++[z]).length=acc.length+1:=by simp
      obtain⟨L,hL⟩:∃L,acc++[z]=L:=⟨_,rfl⟩;rw[hL] at hO hLl;obtain⟨A8,c8,rfl,_⟩:=hO.owned0.rd.sl_inv;have Z8:=zz (Z5.out.grown hO hg (λq hq=>by rcases hv8 q hq with h|h;exact .inl h;exact .inr (by rw[h];simp)));have HL:=zz hL;have hL1:L.length≤acc.length+1:=by omega
      clear hO hg hv8 hL hLl Z5 R5;clear t0 t1 t2 t3 t4 q0 q4;have q:=HQ.out;rw[←List.append_assoc,HL.out] at q;have HQ2:=zz q;clear q HL HQ;go_wp2_with fail;exact⟨⟨i+1,L,A8,c8,by omega,by omega,by go_num,rfl,HQ2,Z8⟩,by simp[intOf];omega⟩
     ·by_cases h10:y.kind=10
      ·clear hk;have hk:=h10;clear h10;have hsg:sgOf y=(zaL y.kids).map kid0:=by unfold sgOf;rw[if_neg (by omega),if_neg (by omega),if_neg (by omega),if_pos hk]
       rw[hsg] at q;have hok:=HK.out.on y hym hk;have hll:=zhj y.kids;have KL:=zz (zcC y.kids A' c' w3 ((r5.weaken (λb hb=>Nat.lt_of_lt_of_le hb.2 hsw)).belows hb3));have hyl:=zaD r5;have hy1:=hyl.2.1;have hy2:=hyl.2.2;have HRf:=zz (zij r5w);obtain⟨f,hf⟩:∃f,zaL y.kids=f:=⟨_,rfl⟩;rw[hf] at q hok hll KL HRf;have HOK:=zz hok;have e7:(y.kind == 7)=false:=by rw[hk];rfl
       have e8:(y.kind == 8)=false:=by rw[hk];rfl
       have e9:(y.kind == 9)=false:=by rw[hk];rfl
       have e10:(y.kind == 10)=true:=by rw[hk];rfl
       have HG0:Hid ((acc++(f.drop 0).map kid0)++(l.drop (i+1)).flatMap sgOf=r):=zz (by rw[←q];simp);have hfl:acc.length+f.length+zaq (l.drop (i+1))≤2097152:=by omega
       have hsw3:=Z3.out.low.size;clear q hsg hyl hok hf r5 r5w hb3 hx3 HA HB hget hym hk hys;go_wp2_with fail;(with_reducible refine KL.out.mono ?_);rintro e w4 ⟨rfl,hb4⟩;have Z4:=zz (Z3.out.below hb4);clear hb4 hw3 q0 q4 Z3;go_wp2_with fail
       go_loopw [47,3] (λs47 s3 wx=>∃(k:Nat) (ac:List Nd) (A3:Option Addr) (c3:Nat),k≤f.length∧ac.length≤acc.length+k∧s47=.int .i64 k∧s3=.slice A3 ac.length c3∧Hid ((ac++(f.drop k).map kid0)++(l.drop (i+1)).flatMap sgOf=r)∧Hid (SgSt P w wx ac A3 c3)) (λs47 _ _=>f.length-(intOf s47).toNat)
       case atStart=>exact⟨0,acc,A1,c1,by omega,by omega,rfl,rfl,HG0,Z4⟩
       case round=>
        clear HG0;obtain⟨k,ac,A3,c3,hkf,hac,rfl,rfl,HG,HZ⟩:=hrel
        by_cases hlk:k<f.length
        ·have hsx:=HZ.out.low.size;obtain⟨b3,off3,x,e3,_,hget,A5,c5,p0',p1',p2',p3',p4',r5⟩:=zbN (Rd.below (ok:=LtP P w.heap.size) HZ.out.low (λ_ h=>h.2) HRf.out) hlk;subst e3;have hxk:=HOK.out x (List.mem_of_getElem? hget);have q:=HG.out;rw[zak hget,List.map_cons] at q;have hkn:(k:Int)<f.length:=by omega
         obtain⟨b2,off2,z,e2,_,hget2,A2,c2,z0,z1,z2,z3,z4,r6⟩:=zbN r5 hxk;have hyl:=zaD r5;have hy3:=hyl.2.1;have hy4:=hyl.2.2;subst e2;rw[zhT hget2] at q;have HQ:=zz q;obtain⟨w5,hw5,hb5,hx5⟩:=zai wr #[.int .i64 x.kind,.string x.text,.int .i64 x.n,.int .i64 x.at',.slice (some ⟨b2,off2,none⟩) x.kids.length c5] 25;have q4:w5.cell? ⟨wr.heap.size,4,none⟩=some (.slice (some ⟨b2,off2,none⟩) x.kids.length c5):=hx5.cell 4;have hzl:b2<wr.heap.size:=World.block_lt_of_cell? wr _ z0;have t0:w5.cell? ⟨b2,off2,none⟩=some (.int .i64 z.kind):=by rw[hb5.cell (p:=⟨b2,off2,none⟩) hzl];simpa using z0
         have t1:w5.cell? ⟨b2,off2+1,none⟩=some (.string z.text):=by rw[hb5.cell (p:=⟨b2,off2+1,none⟩) hzl];simpa using z1
         have t2:w5.cell? ⟨b2,off2+2,none⟩=some (.int .i64 z.n):=by rw[hb5.cell (p:=⟨b2,off2+2,none⟩) hzl];simpa using z2
         have t3:w5.cell? ⟨b2,off2+3,none⟩=some (.int .i64 z.at'):=by rw[hb5.cell (p:=⟨b2,off2+3,none⟩) hzl];simpa using z3
         have t4:w5.cell? ⟨b2,off2+4,none⟩=some (.slice A2 z.kids.length c2):=by rw[hb5.cell (p:=⟨b2,off2+4,none⟩) hzl];simpa using z4
         have RE:=zz (Rd.below (ok:=LtP P w.heap.size) hb5 (λb hb=>Nat.lt_of_lt_of_le hb.2 hsx) r6);have Z3:=zz (HZ.out.below hb5);clear q hyl hzl r5 r6 z0 z1 z2 z3 z4 hb5 hx5 HG HZ hget hget2;have ba:=zag w5 (.cells #[.int .i64 z.kind,.string z.text,.int .i64 z.n,.int .i64 z.at',.slice A2 z.kids.length c2] 25);have Z5:=zz (Z3.out.below ba);have R5:=zz (Rd.below (ok:=LtP P w.heap.size) ba (λb hb=>Nat.lt_of_lt_of_le hb.2 Z3.out.low.size) RE.out);have sl5:=Z5.out.low.size;clear ba RE;go_wp2_with (at_builtin;refine zaV Nd.row zew Tryz.underlying23 rfl (by omega) (by omega) rfl _ _ rfl (Sg P w.heap.size) (.inr Z5.out.low.size) (.slice A3 ac.length c3) ac rfl Z5.out.own ⟨w5.heap.size,0,none⟩ 1 z [.int .i64 z.kind,.string z.text,.int .i64 z.n,.int .i64 z.at',.slice A2 z.kids.length c2] rfl rfl ?kx2 ?kx3 ?kx4 ?_)
         case kx2=>exact zaU _ rfl _ _
         case kx3=>exact λj u hj=>zbM (zkn R5.out sl5 Z5.out.big) j u hj
         case kx4=>omega
         intro v' w8 hO hg hv8;replace hO:OwnS (Sg P w.heap.size) 25 5 (ac++[z]).length (zap Nd.row (ac++[z])) w8 v':=by rw[List.length_append];exact hO
         have hLl:(ac++[z]).length=ac.length+1:=by simp
         obtain⟨L,hL⟩:∃L,ac++[z]=L:=⟨_,rfl⟩;rw[hL] at hO hLl;obtain⟨A8,c8,rfl,_⟩:=hO.owned0.rd.sl_inv;have Z8:=zz (Z5.out.grown hO hg (λq hq=>by rcases hv8 q hq with h|h;exact .inl h;exact .inr (by rw[h];simp)));have HL:=zz hL;have hL1:L.length≤ac.length+1:=by omega
         clear hO hg hv8 hL hLl Z5 R5;clear t0 t1 t2 t3 t4 q4;have q:=HQ.out;have HQ2:Hid ((L++(f.drop (k+1)).map kid0)++(l.drop (i+1)).flatMap sgOf=r):=zz (by rw[←q,←HL.out];simp);clear q HL HQ;go_wp2_with fail;exact⟨⟨k+1,L,A8,c8,by omega,by omega,by go_num,rfl,HQ2,Z8⟩,by simp[intOf];omega⟩
        ·have HQ2:Hid (ac++(l.drop (i+1)).flatMap sgOf=r):=zz (by
          have q:=HG.out;rw[List.drop_eq_nil_of_le (by omega)] at q
          simpa using q)
         clear HG;go_wp2_with fail;exact⟨⟨i+1,ac,A3,c3,by omega,by omega,by go_num,rfl,HQ2,HZ⟩,by simp[intOf];omega⟩
      ·by_cases h12:y.kind=12∨y.kind=13∨y.kind=14∨y.kind=15
       ·have hsg:sgOf y=[y]:=by unfold sgOf;rw[if_neg (by omega),if_neg (by omega),if_neg (by omega),if_neg (by omega),if_pos h12]
        rw[hsg] at q;have HQ:=zz q;have RE:=zz (Rd.below (ok:=LtP P w.heap.size) hb3 (λb hb=>Nat.lt_of_lt_of_le hb.2 hsw) r5);have q1:w3.cell? ⟨wr.heap.size,1,none⟩=some (.string y.text):=hx3.cell 1;have q2:w3.cell? ⟨wr.heap.size,2,none⟩=some (.int .i64 y.n):=hx3.cell 2;have q3:w3.cell? ⟨wr.heap.size,3,none⟩=some (.int .i64 y.at'):=hx3.cell 3;have e7:(y.kind == 7)=false:=by rw[beq_eq_false_iff_ne];omega
        have e8:(y.kind == 8)=false:=by rw[beq_eq_false_iff_ne];omega
        have e9:(y.kind == 9)=false:=by rw[beq_eq_false_iff_ne];omega
        have e10:(y.kind == 10)=false:=by rw[beq_eq_false_iff_ne];omega
        have hb12:((y.kind == 12)=true)∨((y.kind == 12)=false∧(y.kind == 13)=true)∨((y.kind == 12)=false∧(y.kind == 13)=false∧(y.kind == 14)=true)∨((y.kind == 12)=false∧(y.kind == 13)=false∧(y.kind == 14)=false∧(y.kind == 15)=true):=by
         rcases h12 with h|h|h|h
         ·left;rw[h];rfl
         ·right;left;rw[h];exact⟨rfl,rfl⟩
         ·right;right;left;rw[h];exact⟨rfl,rfl,rfl⟩
         ·right;right;right;rw[h];exact⟨rfl,rfl,rfl,rfl⟩
        clear q hsg r5 r5w hb3 hx3 HA HB hget hym hys hk h8 h9 h10 h12;rcases hb12 with e12|⟨e12,e13⟩|⟨e12,e13,e14⟩|⟨e12,e13,e14,e15⟩
        all_goals
         have ba:=zag w3 (.cells #[.int .i64 y.kind,.string y.text,.int .i64 y.n,.int .i64 y.at',.slice A' y.kids.length c'] 25);have Z5:=zz (Z3.out.below ba);have R5:=zz (Rd.below (ok:=LtP P w.heap.size) ba (λb hb=>Nat.lt_of_lt_of_le hb.2 Z3.out.low.size) RE.out);have sl5:=Z5.out.low.size;clear ba RE;go_wp2_with (at_builtin;refine zaV Nd.row zew Tryz.underlying23 rfl (by omega) (by omega) rfl _ _ rfl (Sg P w.heap.size) (.inr Z5.out.low.size) (.slice A1 acc.length c1) acc rfl Z5.out.own ⟨w3.heap.size,0,none⟩ 1 y [.int .i64 y.kind,.string y.text,.int .i64 y.n,.int .i64 y.at',.slice A' y.kids.length c'] rfl rfl ?kz2 ?kz3 ?kz4 ?_)
         case kz2=>exact zaU _ rfl _ _
         case kz3=>exact λj u hj=>zbM (zkn R5.out sl5 Z5.out.big) j u hj
         case kz4=>omega
         intro v' w8 hO hg hv8;replace hO:OwnS (Sg P w.heap.size) 25 5 (acc++[y]).length (zap Nd.row (acc++[y])) w8 v':=by rw[List.length_append];exact hO
         have hLl:(acc++[y]).length=acc.length+1:=by simp
         obtain⟨L,hL⟩:∃L,acc++[y]=L:=⟨_,rfl⟩;rw[hL] at hO hLl;obtain⟨A8,c8,rfl,_⟩:=hO.owned0.rd.sl_inv;have Z8:=zz (Z5.out.grown hO hg (λq hq=>by rcases hv8 q hq with h|h;exact .inl h;exact .inr (by rw[h];simp)));have HL:=zz hL;have hL1:L.length≤acc.length+1:=by omega
         clear hO hg hv8 hL hLl Z5 R5;clear q0 q1 q2 q3 q4;have q:=HQ.out;rw[←List.append_assoc,HL.out] at q;have HQ2:=zz q;clear q HL HQ;go_wp2_with fail;exact⟨⟨i+1,L,A8,c8,by omega,by omega,by go_num,rfl,HQ2,Z8⟩,by simp[intOf];omega⟩
       ·have hsg:sgOf y=[]:=by unfold sgOf;rw[if_neg (by omega),if_neg (by omega),if_neg (by omega),if_neg (by omega),if_neg h12]
        rw[hsg,List.nil_append] at q;have HQ:=zz q;have e7:(y.kind == 7)=false:=by rw[beq_eq_false_iff_ne];omega
        have e8:(y.kind == 8)=false:=by rw[beq_eq_false_iff_ne];omega
        have e9:(y.kind == 9)=false:=by rw[beq_eq_false_iff_ne];omega
        have e10:(y.kind == 10)=false:=by rw[beq_eq_false_iff_ne];omega
        have e12:(y.kind == 12)=false:=by rw[beq_eq_false_iff_ne];omega
        have e13:(y.kind == 13)=false:=by rw[beq_eq_false_iff_ne];omega
        have e14:(y.kind == 14)=false:=by rw[beq_eq_false_iff_ne];omega
        have e15:(y.kind == 15)=false:=by rw[beq_eq_false_iff_ne];omega
        clear q hsg r5 r5w hb3 hx3 HA HB hget hym hys hk h8 h9 h10 h12;go_wp2_with fail;exact⟨⟨i+1,acc,A1,c1,by omega,by omega,by go_num,rfl,HQ,Z3⟩,by simp[intOf];omega⟩
  ·have HQ:Hid (acc=r):=zz (by
    have q:=HA.out;rw[List.drop_eq_nil_of_le (by omega)] at q
    simpa using q)
   clear HA;go_wp2_with fail;go_ret;rw[←HQ.out];exact⟨HB.out.low,A1,c1,rfl,zif HB.out.own.rd⟩
theorem zgM (n:Nd) (hk:zfn n.kids) (hs:zaq n.kids≤2097152) (A:Option Addr) (c:Nat) (w:World) (h:Rd (Lt w.heap.size) w (ns n.kids) (.slice A n.kids.length c)) :
 Calls Tryz.prog 60 #[.agg #[.int .i64 n.kind,.string n.text,.int .i64 n.n,.int .i64 n.at',.slice A n.kids.length c]] w (λe w'=>Below w.heap.size w w'∧∃A' c',e=.returned (.slice A' (zbo n).length c')∧Rd (Lt w'.heap.size) w' (ns (zbo n)) (.slice A' (zbo n).length c')):=by
 refine(zhw (λ_=>True) n hk hs A c w (h.weaken (λ_ hb=>⟨trivial,hb⟩))).mono ?_;rintro e w' ⟨hb,A',c',he,hr⟩;exact⟨hb,A',c',he,hr.weaken (λ_ hb=>hb.2)⟩
end Go.Proofs.YtjdpocmlimkjjaaGreat
