/- Conditions: those in each statement. -/
import Derived.Test.YtcebmphappfjjaaGreatDoorQ04
import Derived.Test.YtcebmphappfjjaaGreatDoorQ01
import Derived.Test.YtcebmphappfjjaaGreatDoorQ02
set_option maxHeartbeats 32000000
set_option maxRecDepth 100000
namespace Go.Proofs.YtcebmphappfjjaaGreatDoor
open Go.RowKit
def zeG (w:World) (b:Nat):Nat:=match w.cell? ⟨b,1,none⟩ with|some (.int _ n)=>n.toNat|_=>0
theorem zhs {G:PG} {b:Nat} {w:World} {st:Ps} (h:PsAt G b w st):zeG w b=st.next:=by unfold zeG;rw[h.c1];simp
theorem zef:(Tryz.prog.info? 49).map (λi=>(i.zero,i.size,i.bytes))=some (some (.agg #[.int .i64 0,.string ⟨#[]⟩,.int .i64 0,.int .i64 0,.slice none 0 0]),5,64):=by kernel_rfl
theorem zfI (W:World) (x:Nd) (A:Option Addr) (c:Nat):∀(j:Nat) (u:Value),(zfK x A c)[j]?=some u->(W.alloc (.cells #[.int .i64 x.kind,.string x.text,.int .i64 x.n,.int .i64 x.at',.slice A x.kids.length c] 49)).cell? ((⟨W.heap.size,0,none⟩:Addr).add j)=some u:=λj u hj=>by
 have:=zbG W (zfK x A c).toArray 49 j;rw[List.getElem?_toArray,hj] at this;rw[Addr.add_lit,Nat.zero_add];exact this
theorem zsN {W:World} {lo B:Nat} {x:Nd} {A:Option Addr} {c:Nat} {v:Value} (R:Rd (Bt lo W.heap.size) W (ns x.kids) (.slice A x.kids.length c)) (hB:B<=lo) (HOB:∀g,v.ownBlock=some g->g<lo) :
 ∀(j:Nat) (u:Value),(zfK x A c)[j]?=some u->Rd (λb=>Bt B W.heap.size b/\some b≠v.ownBlock) W (x.row j) u:=λj u hj=>
 zby (R.weaken (λq hq=>⟨⟨Nat.le_trans hB hq.1,hq.2⟩,λe=>by have:=HOB q e.symm;have:=hq.1;omega⟩)) j u hj
theorem zsW {W:World} {lo B X:Nat} {x:Nd} {A:Option Addr} {c:Nat} {v:Value} (R:Rd (Bt lo W.heap.size) W (ns x.kids) (.slice A x.kids.length c)) (hB:B<=lo) (hX:X<lo) (HOB:∀g,v.ownBlock=some g->g<lo) :
 ∀(j:Nat) (u:Value),(zfK x A c)[j]?=some u->Rd (λb=>(Bt B W.heap.size b/\some b≠v.ownBlock)/\b≠X) W (x.row j) u:=λj u hj=>
 zby (R.weaken (λq hq=>⟨⟨⟨Nat.le_trans hB hq.1,hq.2⟩,λe=>by have:=HOB q e.symm;have:=hq.1;omega⟩,by have:=hq.1;omega⟩)) j u hj
theorem zsm {W:World} {lo B:Nat} {m:List Nd} {A:Option Addr} {n c:Nat} {v:Value} (hn:n=m.length) (R:Rd (Bt lo W.heap.size) W (.sl 5 m.length (zan Nd.row m)) (.slice A m.length c)) (hB:B<=lo) (HOB:∀g,v.ownBlock=some g->g<lo) :
 0<n->∃b off,A=some ⟨b,off,none⟩/\∀i,i<n->zcI (λb=>Bt B W.heap.size b/\some b≠v.ownBlock) W b (off+i*5) 5 (zan Nd.row m i):=by
 subst hn;intro hm;obtain⟨A0,c0,e,_,_,h3⟩:=R.sl_inv;injection e with e1 e2 e3;subst e1;obtain⟨b9,off9,rfl,hb9,hrow⟩:=h3 hm;exact⟨b9,off9,rfl,λi hi=>(hrow i hi).weaken (λq hq=>⟨⟨Nat.le_trans hB hq.1,hq.2⟩,λe=>by have:=HOB q e.symm;have:=hq.1;omega⟩)⟩
theorem zfp {l m:List Nd} {n:Nat} (hn:n=l.length):∀a,a<n->zan Nd.row (l++m) a=zan Nd.row l a:=λk hk=>by
 subst hn;have hxk:l[k]?=some l[k]:=List.getElem?_eq_getElem hk;rw[zas hxk,zas (l:=l++m) (i:=k) (by rw[List.getElem?_append_left hk];exact hxk)]
theorem zer {l m:List Nd} {n n':Nat} (hn:n=l.length) (hn':n'=m.length):∀i j,i<n'->j<5->zan Nd.row (l++m) (n+i) j=zan Nd.row m i j:=λk j hk _=>by
 subst hn hn';have hxk:m[k]?=some m[k]:=List.getElem?_eq_getElem hk;rw[zas hxk,zas (l:=l++m) (i:=l.length+k) (by rw[List.getElem?_append_right (by omega),show l.length+k-l.length=k by omega];exact hxk)]
structure IL (G:PG) (b:Nat) (w W:World) (st:Ps) (acc:List Nd) (v:Value):Prop where
 own1:Own1 b w W
 ps:PsAt G b W st
 own:zaz w.heap.size 49 5 acc.length (zan Nd.row acc) W v
theorem IL.below {G:PG} {b:Nat} {w W W':World} {st:Ps} {acc:List Nd} {v:Value} (h:IL G b w W st acc v) (k:Below W.heap.size W W'):IL G b w W' st acc v:=⟨h.own1.of_below k,h.ps.below k,h.own.below k⟩
theorem IL.grown {G:PG} {b:Nat} {w W W':World} {st:Ps} {acc acc':List Nd} {v v':Value} (h:IL G b w W st acc v) (hb:b<w.heap.size) (hlim:G.lim<=w.heap.size) (hg:W.grownBy W' v.ownBlock) (hO:zaz w.heap.size 49 5 acc'.length (zan Nd.row acc') W' v'):IL G b w W' st acc' v':=by
 have hch:Chg (λk=>w.heap.size<=k) W W':=Chg.of_grown hg (λk hk=>(h.own.below_own k hk).1);exact⟨Chg.trans h.own1 hch (λj hj=>.inr hj),h.ps.keep hch (λk hk=>⟨Nat.le_trans hlim hk,by omega⟩),hO⟩
theorem IL.call {G:PG} {b:Nat} {w W W':World} {st st':Ps} {acc:List Nd} {v:Value} (h:IL G b w W st acc v) (hb:b<w.heap.size) (k:Own1 b W W') (p:PsAt G b W' st'):IL G b w W' st' acc v:=⟨h.own1.trans k,p,k.owned hb h.own⟩
theorem zie (G:PG) (b k r:Nat) (item:Ps->R Nd) (K:FuncId) (hcf:∀(x:Option Addr) (W:World),(callFunc K #[.pointer x]).run Tryz.prog W=.ok (.enter K #[.pointer x]) W)
 (hitem:∀st w,16*(G.T.length-st.next)+r<k->PsAt G b w st->Calls Tryz.prog K #[.pointer (some ⟨b,0,none⟩)] w (zaG G b QNd (item st) w)) (hadv:∀st,Adv (item st) (st.next+1))
 (stop:ByteArray) (hstop:stop≠⟨#[]⟩) (st:Ps) (hneed:16*(G.T.length-st.next)+r<k) (w:World) (h:PsAt G b w st) :
 Calls Tryz.prog 221 #[.pointer (some ⟨b,0,none⟩),.string stop,.func (.func K) #[.pointer (some ⟨b,0,none⟩)] #[]] w (zaG G b (QNs 32768) (zdM G.T G.en item stop k st) w):=by
 have hbw:=h.lt;have hlen:=h.len;have hlim:=h.lim;have hle:st.next<=G.T.length:=h.le;obtain⟨RR,hR⟩:∃RR,zdM G.T G.en item stop k st=RR:=⟨_,rfl⟩;rw[hR];unfold zdM at hR;have HF:=zz hR;have c3:=h.c3;have z3:=h.fz 3;have Z1:=zz (h.set3 false);have Z2:Hid (Own1 b w (w.setCell ⟨b,3,none⟩ (.bool false))):=zz (zcT (Below.refl _ _) 3 _);clear h hR;go_enter Tryz.func221,Tryz.ntmps221;go_wp2_with fail;cases hx:item ⟨st.next,false⟩ with
 |error a=>
  have K0:=hitem ⟨st.next,false⟩ _ hneed Z1.out;rw[hx] at K0;(with_reducible refine K0.mono ?_);rintro e we ⟨hc,rfl⟩;exact⟨rfl,zaf (by rw[<-HF.out,hx,R.next_err]) (Z2.out.trans hc)⟩
 |ok p=>
  obtain⟨n1,t1⟩:=p;have K0:=hitem ⟨st.next,false⟩ _ hneed Z1.out;rw[hx] at K0;have q:=HF.out;clear HF;rw[hx,R.next_ok] at q;have HF:=zz q;have gt1:st.next+1<=t1.next:=hadv ⟨st.next,false⟩ _ _ hx;clear hx q;(with_reducible refine K0.mono ?_);rintro e w1 ⟨hc,hp,A1,c1,rfl,hr⟩;have hs1:=Chg.size hc;rw[zbs] at hs1 hr;have lt1:t1.next<=G.T.length:=hp.le;have hO:=zlo [⟨n1,A1,c1⟩] (w:=w1) (lo:=w.heap.size) hs1 (λy hy=>by simp only[List.mem_singleton] at hy;subst hy;exact hr) (by simp)
  have X1:Hid (IL G b w (w1.alloc (.cells #[.int .i64 n1.kind,.string n1.text,.int .i64 n1.n,.int .i64 n1.at',.slice A1 n1.kids.length c1] 49)) t1 [n1] (.slice (some ⟨w1.heap.size,0,none⟩) 1 1)):=
   zz ⟨(Z2.out.trans hc).of_below ((Below.refl _ _).alloc (Nat.le_refl _) _),hp.below ((Below.refl _ _).alloc (Nat.le_refl _) _),hO⟩
  clear hc hp hr hO K0 Z1 Z2 c3 z3;go_wp2_with fail
  go_loopw [8] (λs8 wr=>∃(j:Nat) (acc:List Nd) (t:Ps) (A:Option Addr) (c:Nat),s8=.slice A acc.length c/\acc.length<=t.next/\G.T.length-t.next+1<=j/\Hid (ziZ G.T G.en item stop st.head j acc t=RR)/\st.next+1<=t.next/\t.next<=G.T.length/\Hid (IL G b w wr t acc (.slice A acc.length c))) (λ_ wr=>G.T.length-zeG wr b)
  case atStart=>exact⟨k,[n1],t1,_,_,rfl,by simp;omega,by omega,HF,by omega,lt1,X1⟩
  case round=>
   clear HF X1;obtain⟨j,acc,t,A,c,rfl,hacc,hj,HF,ht1,ht2,HX⟩:=hrel;obtain⟨j',rfl⟩:∃j',j=j'+1:=⟨j-1,by omega⟩;have q:=HF.out;rw[ziZ] at q
   by_cases hw:zao G.T t=(⟨#[44]⟩:ByteArray)
   ·have K1:=zfq G b t (⟨#[44]⟩:ByteArray) wr HX.out.ps hw (by simp);rw[if_pos hw] at q;clear HF hw;have hm:zeG wr b=t.next:=zhs HX.out.ps;go_wp2_with fail;(with_reducible refine K1.mono ?_);rintro e w2 ⟨rfl,hc,hp⟩;have lt2:t.next+1<=G.T.length:=hp.le;have X2:=zz (HX.out.call hbw hc hp);have hsz2:=Chg.size hc;have hsz3:=Chg.size HX.out.own1;have hneed2:16*(G.T.length-(t.next+1))+r<k:=by omega
    clear hc hp HX K1;go_wp2_with fail;cases hx:item t.adv with
    |error a=>
     have K0:=hitem t.adv _ hneed2 X2.out.ps;rw[hx] at K0;(with_reducible refine K0.mono ?_);rintro e we ⟨hc,rfl⟩;exact⟨rfl,zaf (by rw[<-q,hx,R.next_err]) (X2.out.own1.trans hc)⟩
    |ok p=>
     obtain⟨n3,t3⟩:=p;have K0:=hitem t.adv _ hneed2 X2.out.ps;rw[hx] at K0;rw[hx,R.next_ok] at q;have HF:=zz q;have gt3:t.next+1+1<=t3.next:=hadv t.adv _ _ hx;clear hx q;(with_reducible refine K0.mono ?_);rintro e w3 ⟨hc,hp,A3,c3,rfl,hr⟩;have hsz4:=Chg.size hc;have lt3:t3.next<=G.T.length:=hp.le;have X3:=zz (X2.out.call hbw hc hp);have R3:=zz hr;have HOB:=zz X2.out.own.below_own;clear hc hp hr X2 K0;have hb4:=(Below.refl w3.heap.size w3).alloc (Nat.le_refl _) (.cells #[.int .i64 n3.kind,.string n3.text,.int .i64 n3.n,.int .i64 n3.at',.slice A3 n3.kids.length c3] 49);have X4:=zz (X3.out.below hb4);have R4:=zz (zaF hb4 R3.out);go_wp2_with (at_builtin;refine zba Nd.row zef Tryz.underlying47 rfl (by omega) (by omega) rfl _ _ rfl w.heap.size ?cx1 (.slice A acc.length c) acc rfl X4.out.own ⟨w3.heap.size,0,none⟩ 1 n3 (zfK n3 A3 c3) rfl rfl ?cx2 ?cx3 ?cx4 ?_)
     case cx1=>simp;omega
     case cx2=>exact zfI _ _ _ _
     case cx3=>exact zsN R4.out (by omega) (λg hg=>(HOB.out g hg).2)
     case cx4=>omega
     intro v' w5 hO hg _;obtain⟨A',c',rfl,_⟩:=hO.rd.sl_inv;have X5:Hid (IL G b w w5 t3 (acc++[n3]) (.slice A' (acc.length+1) c')):=zz (X4.out.grown hbw hlim hg (by rw[List.length_append];exact hO));have hm5:zeG w5 b=t3.next:=zhs X5.out.ps;clear hO hg X4 R4 HOB X3 R3 hb4;go_wp2_with fail;exact⟨⟨j',acc++[n3],t3,A',c',by simp,by simp;omega,by omega,HF,by omega,lt3,by simpa using X5⟩,by omega⟩
   ·have K1:=zeQ G b t (⟨#[44]⟩:ByteArray) wr HX.out.ps hw;rw[if_neg hw] at q;clear HF hw;go_wp2_with fail;(with_reducible refine K1.mono ?_);rintro e w2 ⟨rfl,hb⟩;have X2:=zz (HX.out.below hb);clear hb HX K1;go_wp2_with fail
    by_cases hs:zao G.T t=stop
    ·have K2:=zgC G b t stop _ X2.out.ps hstop;rw[zqw hs] at K2 q;rw[R.next_ok] at q;have HF:=zz q;clear hs q;(with_reducible refine K2.mono ?_);rintro e w3 ⟨hc,hp,rfl⟩;have X3:=zz (X2.out.call hbw hc hp);have z3:=hp.fz 3;have c3':=hp.c3;clear hc hp X2 K2;go_wp2;go_ret;rw[<-HF.out];exact⟨X3.out.own1.trans (zcT (Below.refl _ _) 3 _),X3.out.ps.set3 st.head,A,c,rfl,by omega,Own1.owned (b:=b) (zcT (Below.refl _ _) 3 _) hbw X3.out.own⟩
    ·have K2:=zgC G b t stop _ X2.out.ps hstop;rw[zjf hs] at K2;(with_reducible refine K2.mono ?_);rintro e we ⟨hc,rfl⟩;exact⟨rfl,zaf (by rw[<-q,zjf hs,R.next_err]) (X2.out.own1.trans hc)⟩
theorem zrG (G:PG) (b k r:Nat) (item:Ps->R Nd) (K:FuncId) (hcf:∀(x:Option Addr) (W:World),(callFunc K #[.pointer x]).run Tryz.prog W=.ok (.enter K #[.pointer x]) W)
 (hitem:∀st w,16*(G.T.length-st.next)+r<k->PsAt G b w st->Calls Tryz.prog K #[.pointer (some ⟨b,0,none⟩)] w (zaG G b QNd (item st) w)) (hadv:∀st,Adv (item st) (st.next+1))
 (stop:ByteArray) (hstop:stop≠⟨#[]⟩) (st:Ps) (hneed:16*(G.T.length-st.next)+r<k) (w:World) (h:PsAt G b w st) :
 Calls Tryz.prog 217 #[.pointer (some ⟨b,0,none⟩),.string stop,.func (.func K) #[.pointer (some ⟨b,0,none⟩)] #[]] w (zaG G b (QNs 32768) (zia G.T G.en item stop k st) w):=by
 have P0:=zz h;unfold zia
 by_cases hs:zao G.T st=stop
 ·have K1:=zz (zfq G b st stop w h hs hstop);rw[if_pos hs];clear h hs;go_enter Tryz.func217,Tryz.ntmps217;go_wp2_with fail;(with_reducible refine K1.out.mono ?_);rintro e w1 ⟨rfl,hc,hp⟩;have C1:=zz hc;have P1:=zz hp;clear hc hp;go_wp2;go_ret;exact⟨C1.out,P1.out,none,0,rfl,by simp,zaz.nil _ _ _ _ _⟩
 ·have K1:=zz (zeQ G b st stop w h hs);have K2:=zz (λw h=>zie G b k r item K hcf hitem hadv stop hstop st hneed w h);rw[if_neg hs];generalize zdM G.T G.en item stop k st=RR at *
  clear h hs;go_enter Tryz.func217,Tryz.ntmps217;go_wp2_with fail;(with_reducible refine K1.out.mono ?_);rintro e w1 ⟨rfl,hb⟩;have B1:=zz hb;have P1:=zz (P0.out.below hb);clear hb;go_wp2_with fail;(with_reducible refine(K2.out _ P1.out).mono ?_);rintro e w2 hpost;cases RR with
  |error a=>
   obtain⟨hc,rfl⟩:=hpost;exact⟨rfl,(zaO B1.out).trans hc,rfl⟩
  |ok p=>
   obtain⟨l,st2⟩:=p;obtain⟨hc,hp,A,c,rfl,hl,ho⟩:=hpost;have C2:=zz ((zaO B1.out).trans hc);have P2:=zz hp;have O2:=zz (ho.lower B1.out.size);clear hc hp ho;go_wp2;go_ret;exact⟨C2.out,P2.out,A,c,rfl,hl,O2.out⟩
def QPat (kd a:Int) (p:ByteArray × List Nd) (w:World) (e:Ending) (w':World):Prop:=∃A c,e=.returned (.agg #[.int .i64 kd,.string p.1,.int .i64 0,.int .i64 a,.slice A p.2.length c])/\p.2.length<=32768/\zaz w.heap.size 49 5 p.2.length (zan Nd.row p.2) w' (.slice A p.2.length c)
theorem ztj {G:PG} {b:Nat} {F:R (ByteArray × List Nd)} {kd a:Int} {s:ByteArray} {l:List Nd} {st':Ps} {w W:World} {A:Option Addr} {c lo:Nat} (hF:F=.ok ((s,l),st')) (own:Own1 b w W) (hb:b<w.heap.size) (hlim:G.lim<=w.heap.size) (ps:PsAt G b W st') (hlo:w.heap.size<lo)
 (hl:l.length<=32768) (ho:zaz lo 49 5 l.length (zan Nd.row l) W (.slice A l.length c)) {m:Nat} (hm:m=l.length) (u0 u1 u2 u3 u4:Value) :
 zaG G b (QPat kd a) F w (.returned (.agg #[.int .i64 kd,.string s,.int .i64 0,.int .i64 a,.slice A m c])) (((((W.setCell ⟨w.heap.size,0,none⟩ u0).setCell ⟨w.heap.size,1,none⟩ u1).setCell ⟨w.heap.size,2,none⟩ u2).setCell ⟨w.heap.size,3,none⟩ u3).setCell ⟨w.heap.size,4,none⟩ u4):=by
 have hc:Chg (λk=>k=w.heap.size) W (((((W.setCell ⟨w.heap.size,0,none⟩ u0).setCell ⟨w.heap.size,1,none⟩ u1).setCell ⟨w.heap.size,2,none⟩ u2).setCell ⟨w.heap.size,3,none⟩ u3).setCell ⟨w.heap.size,4,none⟩ u4):=
  ((((((Chg.refl (λk=>k=w.heap.size) W).setCell (p:=⟨w.heap.size,0,none⟩) (.inl rfl) u0).setCell (p:=⟨w.heap.size,1,none⟩) (.inl rfl) u1).setCell (p:=⟨w.heap.size,2,none⟩) (.inl rfl) u2).setCell (p:=⟨w.heap.size,3,none⟩) (.inl rfl) u3).setCell (p:=⟨w.heap.size,4,none⟩) (.inl rfl) u4)
 subst hm;rw[hF];exact⟨Chg.trans own hc (λj hj=>.inr (by omega)),ps.keep hc (λk hk=>⟨by omega,by omega⟩),A,c,rfl,hl,(ho.chg hc (λj hj=>by omega)).lower (by omega)⟩
theorem zdY {s:ByteArray} {l:List UInt8} (h:s=⟨l.toArray⟩):(s.toList == l)=true:=by
 rw[h,ByteArray.toList_eq];simp
theorem zji {W W':World} {v:Value} {g:Nat} {cs:Array Value} {e:TypeId} (hg:W.grownBy W' v.ownBlock) (h:zab W g cs e) (hn:∀q,v.ownBlock=some q->q≠g):zab W' g cs e:=(hg.block g h.lt (λe=>hn g e.symm rfl)).trans h
theorem zkj (s:ByteArray) (w:World) (hs:s.size<=2097152):Calls Tryz.prog 185 #[.string s] w λe w'=>e=.returned (.bool (zcB 65 90 s))/\w=w':=by
 rcases Nat.eq_zero_or_pos s.size with h0|h0
 ·have HE:Hid (zcB 65 90 s=false):=zz (by unfold zcB;simp;omega);have he:s.toList=[]:=by rw[ByteArray.toList_eq];exact List.eq_nil_of_length_eq_zero (by rw[zai];exact h0)
  go_enter Tryz.func185,Tryz.ntmps185;go_wp2;go_ret;exact⟨by rw[HE.out];rfl,rfl⟩
 ·have hne:¬s.toList=[]:=λh=>by
   rw[ByteArray.toList_eq] at h;have:=zai s;rw[h] at this;simp at this;omega
  have hemp:s.toList.isEmpty=false:=by simpa using hne
  have hi0:(Instr.index 9 (.string s) (.int .i64 0)).run Tryz.prog w=.ok (.int .u8 (zak s 0)) w:=by simpa using zaP s 0 h0 w
  have hr0:=zbt s 0;have HI:=zz (zaP s);have HT:Hid (zcB 65 90 s=decide (0<s.size/\65<=zak s 0/\zak s 0<=90/\∀i,i<s.size->zdj (zak s i)=true)):=zz rfl;obtain⟨X0,hX0⟩:∃X,zak s 0=X:=⟨_,rfl⟩;rw[hX0] at hi0 hr0 HT;clear hX0;generalize zcB 65 90 s=R at *
  by_cases hu:65<=X0/\X0<=90
  ·obtain⟨hu1,hu2⟩:=hu;have hu3:¬X0<65:=by omega
   have hu4:¬90<X0:=by omega
   go_enter Tryz.func185,Tryz.ntmps185;go_wp2_with fail
   go_loopw [19] (λs19 wr=>∃(i:Nat),i<=s.size/\s19=.int .i64 i/\Hid (∀j,j<i->zdj (zak s j)=true)/\wr=w) (λs19 _=>s.size-(intOf s19).toNat)
   case atStart=>exact⟨0,by omega,rfl,zz (λj hj=>absurd hj (by omega)),rfl⟩
   case round=>
    obtain⟨i,hi,rfl,HN,rfl⟩:=hrel
    by_cases hlt:i<s.size
    ·have hix:=HI.out i hlt wr;have hr:=zbt s i
     have HS:Hid (zdj (zak s i)=true->∀j,j<i+1->zdj (zak s j)=true):=zz (λh j hj=>by
      rcases Nat.lt_or_eq_of_le (Nat.lt_succ_iff.1 hj) with h2|h2
      ·exact HN.out j h2
      ·subst h2;exact h)
     have HF:Hid (zdj (zak s i)=false->R=false):=zz (λh=>by
      rw[HT.out];rw[decide_eq_false];rintro⟨_,_,_,h2⟩;rw[h2 i hlt] at h;cases h)
     obtain⟨X,hX⟩:∃X,zak s i=X:=⟨_,rfl⟩;rw[hX] at hix hr HS HF;have HC:Hid (zdj X=decide (97<=X/\X<=122\/65<=X/\X<=90\/48<=X/\X<=57\/X=95)):=zz rfl;clear hX HN hi0;rcases (show X<48\/(48<=X/\X<=57)\/(58<=X/\X<=64)\/(65<=X/\X<=90)\/(91<=X/\X<=94)\/(95<=X/\X<=95)\/(96<=X/\X<=96)\/(97<=X/\X<=122)\/122<X by omega) with h|⟨h,h'⟩|⟨h,h'⟩|⟨h,h'⟩|⟨h,h'⟩|⟨h,h'⟩|⟨h,h'⟩|⟨h,h'⟩|h
     ·have k97:¬97<=X:=by omega
      have k122:X<=122:=by omega
      have k65:¬65<=X:=by omega
      have k90:X<=90:=by omega
      have k48:¬48<=X:=by omega
      have k57:X<=57:=by omega
      have h95:(X == 95)=false:=by simp;omega
      have HY:=zz (HF.out (by rw[HC.out];exact decide_eq_false (by omega)));clear HS HF HC;go_wp2_with fail
      all_goals first
       |(exfalso;omega)
       |(go_ret;exact⟨by rw[HY.out];rfl,rfl⟩)
     ·have k97:¬97<=X:=by omega
      have k122:X<=122:=by omega
      have k65:¬65<=X:=by omega
      have k90:X<=90:=by omega
      have k48:48<=X:=by omega
      have k57:X<=57:=by omega
      have h95:(X == 95)=false:=by simp;omega
      have HY:=zz (HS.out (by rw[HC.out];exact decide_eq_true (by omega)));clear HS HF HC;go_wp2_with fail
      all_goals first
       |(exfalso;omega)
       |exact⟨⟨i+1,by omega,by go_num,HY,trivial⟩,by simp[intOf];omega⟩
     ·have k97:¬97<=X:=by omega
      have k122:X<=122:=by omega
      have k65:¬65<=X:=by omega
      have k90:X<=90:=by omega
      have k48:48<=X:=by omega
      have k57:¬X<=57:=by omega
      have h95:(X == 95)=false:=by simp;omega
      have HY:=zz (HF.out (by rw[HC.out];exact decide_eq_false (by omega)));clear HS HF HC;go_wp2_with fail
      all_goals first
       |(exfalso;omega)
       |(go_ret;exact⟨by rw[HY.out];rfl,rfl⟩)
     ·have k97:¬97<=X:=by omega
      have k122:X<=122:=by omega
      have k65:65<=X:=by omega
      have k90:X<=90:=by omega
      have k48:48<=X:=by omega
      have k57:¬X<=57:=by omega
      have h95:(X == 95)=false:=by simp;omega
      have HY:=zz (HS.out (by rw[HC.out];exact decide_eq_true (by omega)));clear HS HF HC;go_wp2_with fail
      all_goals first
       |(exfalso;omega)
       |exact⟨⟨i+1,by omega,by go_num,HY,trivial⟩,by simp[intOf];omega⟩
     ·have k97:¬97<=X:=by omega
      have k122:X<=122:=by omega
      have k65:65<=X:=by omega
      have k90:¬X<=90:=by omega
      have k48:48<=X:=by omega
      have k57:¬X<=57:=by omega
      have h95:(X == 95)=false:=by simp;omega
      have HY:=zz (HF.out (by rw[HC.out];exact decide_eq_false (by omega)));clear HS HF HC;go_wp2_with fail
      all_goals first
       |(exfalso;omega)
       |(go_ret;exact⟨by rw[HY.out];rfl,rfl⟩)
     ·have k97:¬97<=X:=by omega
      have k122:X<=122:=by omega
      have k65:65<=X:=by omega
      have k90:¬X<=90:=by omega
      have k48:48<=X:=by omega
      have k57:¬X<=57:=by omega
      have h95:(X == 95)=true:=by simp;omega
      have HY:=zz (HS.out (by rw[HC.out];exact decide_eq_true (by omega)));clear HS HF HC;go_wp2_with fail
      all_goals first
       |(exfalso;omega)
       |exact⟨⟨i+1,by omega,by go_num,HY,trivial⟩,by simp[intOf];omega⟩
     ·have k97:¬97<=X:=by omega
      have k122:X<=122:=by omega
      have k65:65<=X:=by omega
      have k90:¬X<=90:=by omega
      have k48:48<=X:=by omega
      have k57:¬X<=57:=by omega
      have h95:(X == 95)=false:=by simp;omega
      have HY:=zz (HF.out (by rw[HC.out];exact decide_eq_false (by omega)));clear HS HF HC;go_wp2_with fail
      all_goals first
       |(exfalso;omega)
       |(go_ret;exact⟨by rw[HY.out];rfl,rfl⟩)
     ·have k97:97<=X:=by omega
      have k122:X<=122:=by omega
      have k65:65<=X:=by omega
      have k90:¬X<=90:=by omega
      have k48:48<=X:=by omega
      have k57:¬X<=57:=by omega
      have h95:(X == 95)=false:=by simp;omega
      have HY:=zz (HS.out (by rw[HC.out];exact decide_eq_true (by omega)));clear HS HF HC;go_wp2_with fail
      all_goals first
       |(exfalso;omega)
       |exact⟨⟨i+1,by omega,by go_num,HY,trivial⟩,by simp[intOf];omega⟩
     ·have k97:97<=X:=by omega
      have k122:¬X<=122:=by omega
      have k65:65<=X:=by omega
      have k90:¬X<=90:=by omega
      have k48:48<=X:=by omega
      have k57:¬X<=57:=by omega
      have h95:(X == 95)=false:=by simp;omega
      have HY:=zz (HF.out (by rw[HC.out];exact decide_eq_false (by omega)));clear HS HF HC;go_wp2_with fail
      all_goals first
       |(exfalso;omega)
       |(go_ret;exact⟨by rw[HY.out];rfl,rfl⟩)
    ·obtain rfl:i=s.size:=by omega
     have HY:Hid (R=true):=zz (by rw[HT.out];exact decide_eq_true ⟨h0,hu1,hu2,HN.out⟩);clear hi0;go_wp2;go_ret;exact⟨by rw[HY.out];rfl,rfl⟩
  ·have HE:Hid (R=false):=zz (by rw[HT.out];simp;intro _ h1 h2;exact absurd ⟨h1,h2⟩ hu);rcases (show X0<65\/90<X0 by omega) with hx|hx
   all_goals
    clear hu;go_enter Tryz.func185,Tryz.ntmps185;go_wp2_with fail
    all_goals (go_ret;exact⟨by rw[HE.out];rfl,rfl⟩)
theorem zkG (s:ByteArray) (w:World) (hs:s.size<=32768):Calls Tryz.prog 185 #[.string s] w λe w'=>e=.returned (.bool (zaw s))/\w'=w:=by
 have h:=zkj s w (by omega);rw[show zcB 65 90 s=zaw s from zgk 65 90 s] at h;exact h.mono (λe w' ⟨h1,h2⟩=>⟨h1,h2.symm⟩)
theorem zqk (s:ByteArray) (w:World):Calls Tryz.prog 135 #[.string s] w λe w'=>e=.returned (.int .i64 (zbW s))/\w'=w:=by
 obtain⟨r,hr⟩:∃r,zbW s=r:=⟨_,rfl⟩;rw[hr];unfold zbW at hr
 by_cases h1:s=(⟨#[105,110,116]⟩:ByteArray)
 ·have e1:=zdY h1;rw[if_pos h1] at hr;clear h1;subst hr;go_enter Tryz.func135,Tryz.ntmps135;go_wp2;go_ret;exact⟨rfl,rfl⟩
 ·have e1:=zam h1;rw[if_neg h1] at hr;clear h1
  by_cases h2:s=(⟨#[98,111,111,108]⟩:ByteArray)
  ·have e2:=zdY h2;rw[if_pos h2] at hr;clear h2;subst hr;go_enter Tryz.func135,Tryz.ntmps135;go_wp2;go_ret;exact⟨rfl,rfl⟩
  ·have e2:=zam h2;rw[if_neg h2] at hr;clear h2
   by_cases h3:s=(⟨#[116,101,120,116]⟩:ByteArray)
   ·have e3:=zdY h3;rw[if_pos h3] at hr;clear h3;subst hr;go_enter Tryz.func135,Tryz.ntmps135;go_wp2;go_ret;exact⟨rfl,rfl⟩
   ·have e3:=zam h3;rw[if_neg h3] at hr;clear h3
    by_cases h4:s=(⟨#[117,110,105,116]⟩:ByteArray)
    ·have e4:=zdY h4;rw[if_pos h4] at hr;clear h4;subst hr;go_enter Tryz.func135,Tryz.ntmps135;go_wp2;go_ret;exact⟨rfl,rfl⟩
    ·have e4:=zam h4;rw[if_neg h4] at hr;clear h4;subst hr;go_enter Tryz.func135,Tryz.ntmps135;go_wp2;go_ret;exact⟨rfl,rfl⟩
def fld3 (k:Int) (t:ByteArray) (d:D):Nat->D
 |0=>.num .i64 k
 |1=>.str t
 |_=>d
mutual
def Ty.row:Ty->Nat->D
 |.mk k n a=>fld3 k n (.sl 3 a.length (zof a))
def zof:List Ty->Nat->Nat->D
 |[],_,_=>.bool false
 |v::r,i,j=>match i with
  |0=>v.row j
  |i+1=>zof r i j
end
def ys (l:List Ty):D:=.sl 3 l.length (zof l)
theorem zis:∀(l:List Ty) (i:Nat) (v:Ty),l[i]?=some v->zof l i=v.row
 |[],i,v,h=>by simp at h
 |x::r,0,v,h=>by simp at h;subst h;funext j;rfl
 |x::r,i+1,v,h=>by
  have:=zis r i v (by simpa using h)
  funext j
  show zof r i j=_
  rw[this]
theorem ztc {l:List Ty} {i:Nat} (h:i<l.length):zof l i=zan Ty.row l i:=by
 have hv:l[i]?=some l[i]:=List.getElem?_eq_getElem h;rw[zis l i _ hv,zas hv]
section
variable {ok:Nat->Prop} {w:World}
theorem ztM {l:List Ty} {v:Value} (h:Rd ok w (.sl 3 l.length (zan Ty.row l)) v):Rd ok w (ys l) v:=h.sl_congr (λi j hi _=>by rw[ztc hi])
def TyAt (ok:Nat->Prop) (w:World) (b o:Nat) (x:Ty) (A:Option Addr) (c:Nat):Prop:=
 w.cell? ⟨b,o,none⟩=some (.int .i64 x.kind)/\w.cell? ⟨b,o+1,none⟩=some (.string x.name)/\w.cell? ⟨b,o+2,none⟩=some (.slice A x.args.length c)/\Rd ok w (ys x.args) (.slice A x.args.length c)
theorem zlW {b o:Nat} {x:Ty} (h:zcI ok w b o 3 x.row):∃A c,TyAt ok w b o x A c:=by
 obtain⟨k,t,l⟩:=x;rw[Ty.row] at h;obtain⟨u0,c0,r0⟩:=h 0 (by omega);obtain⟨u1,c1,r1⟩:=h 1 (by omega);obtain⟨u2,c2,r2⟩:=h 2 (by omega);have e0:u0=.int .i64 k:=r0;have e1:u1=.string t:=r1;have r2':Rd ok w (ys l) u2:=r2;obtain⟨A,c,e2,_⟩:=r2'.sl_inv;subst e0 e1 e2;exact⟨A,c,c0,c1,c2,r2'⟩
theorem znN {l:List Ty} {A:Option Addr} {n c:Nat} (h:Rd ok w (ys l) (.slice A n c)) {i:Nat} (hi:i<l.length) :
 ∃b off x,A=some ⟨b,off,none⟩/\ok b/\l[i]?=some x/\∃A' c',TyAt ok w b (off+i*3) x A' c':=by
 obtain⟨A0,c0,e,_,_,h3⟩:=h.sl_inv;injection e with e1 e2 e3;subst e1 e2;obtain⟨b,off,rfl,hb,hr⟩:=h3 (by omega);have hv:l[i]?=some l[i]:=List.getElem?_eq_getElem hi;have h1:=hr i hi;rw[zis l i _ hv] at h1;exact⟨b,off,l[i],rfl,hb,hv,zlW h1⟩
theorem zqb {l:List Ty} {A:Option Addr} {n c:Nat} (h:Rd ok w (ys l) (.slice A n c)):n=l.length/\n<=c/\c<=9223372036854775807:=by
 obtain⟨A0,c0,e,h1,h2,_⟩:=h.sl_inv;injection e with e1 e2 e3;subst e1 e2 e3;exact⟨rfl,h1,h2⟩
abbrev zkV (x:Ty) (A:Option Addr) (c:Nat):List Value:=[.int .i64 x.kind,.string x.name,.slice A x.args.length c]
theorem zpe {x:Ty} {A:Option Addr} {c:Nat} (h:Rd ok w (ys x.args) (.slice A x.args.length c)):∀j u,(zkV x A c)[j]?=some u->Rd ok w (x.row j) u:=by
 obtain⟨k,t,l⟩:=x;intro j u hj;rw[Ty.row]
 match j with
 |0=>simp at hj;exact hj.symm
 |1=>simp at hj;exact hj.symm
 |2=>simp at hj;rw[<-hj];exact h
 |j+3=>simp at hj
end
theorem zum:(Tryz.prog.info? 70).map (λi=>(i.zero,i.size,i.bytes))=some (some (.agg #[.int .i64 0,.string ⟨#[]⟩,.slice none 0 0]),3,48):=by kernel_rfl
theorem zhK:(Tryz.prog.info? 70).map (·.size)=some 3:=by kernel_rfl
theorem zoM {x:Nat} (W:World) (hx:W.heap.size=x) (y:Ty) (A:Option Addr) (c:Nat):∀(j:Nat) (u:Value),(zkV y A c)[j]?=some u->(W.alloc (.cells #[.int .i64 y.kind,.string y.name,.slice A y.args.length c] 70)).cell? ((⟨x,0,none⟩:Addr).add j)=some u:=λj u hj=>by
 subst hx;have:=zbG W (zkV y A c).toArray 70 j;rw[List.getElem?_toArray,hj] at this;rw[Addr.add_lit,Nat.zero_add];exact this
theorem zsX {W:World} {lo B:Nat} {x:Ty} {A:Option Addr} {c:Nat} {v:Value} (R:Rd (Bt lo W.heap.size) W (ys x.args) (.slice A x.args.length c)) (hB:B<=lo) (HOB:∀g,v.ownBlock=some g->g<lo) :
 ∀(j:Nat) (u:Value),(zkV x A c)[j]?=some u->Rd (λb=>Bt B W.heap.size b/\some b≠v.ownBlock) W (x.row j) u:=λj u hj=>
 zpe (R.weaken (λq hq=>⟨⟨Nat.le_trans hB hq.1,hq.2⟩,λe=>by have:=HOB q e.symm;have:=hq.1;omega⟩)) j u hj
theorem zdD {w:World} {g:Nat} {e:TypeId} {a0 a1 a2:Value} (u0 u1 u2:Value) (h:zab w g #[a0,a1,a2] e) :
 zab (((w.setCell ⟨g,0,none⟩ u0).setCell ⟨g,1,none⟩ u1).setCell ⟨g,2,none⟩ u2) g #[u0,u1,u2] e:=by
 have:=((h.set 0 u0).set 1 u1).set 2 u2
 simpa using this
theorem zcE (W:World) (X:Nat) (u0 u1 u2:Value):Chg (λq=>q=X) W (((W.setCell ⟨X,0,none⟩ u0).setCell ⟨X,1,none⟩ u1).setCell ⟨X,2,none⟩ u2):=
 ((((Chg.refl (λq=>q=X) W).setCell (p:=⟨X,0,none⟩) (.inl rfl) u0).setCell (p:=⟨X,1,none⟩) (.inl rfl) u1).setCell (p:=⟨X,2,none⟩) (.inl rfl) u2)
end Go.Proofs.YtcebmphappfjjaaGreatDoor
