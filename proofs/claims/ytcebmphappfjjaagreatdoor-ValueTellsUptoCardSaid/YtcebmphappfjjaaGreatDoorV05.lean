/- Conditions: those in each statement. -/
import Derived.Test.YtcebmphappfjjaaGreatDoorV04
import Derived.Test.YtcebmphappfjjaaGreatDoorV01
import Derived.Test.YtcebmphappfjjaaGreatDoorV02
import Derived.Test.YtcebmphappfjjaaGreatDoorProg
import Derived.Deep.RegionWith
import Derived.BigQuiet
set_option maxHeartbeats 32000000
set_option maxRecDepth 100000
namespace Go.Proofs.YtcebmphappfjjaaGreatDoor
open Go.RowKit
def zeG (w:World) (b:Nat):Nat:=match w.cell? ⟨b,1,none⟩ with|some (.int _ n)=>n.toNat|_=>0
theorem zhs {G:PG} {b:Nat} {w:World} {st:Ps} (h:PsAt G b w st):zeG w b=st.next:=by unfold zeG;rw[h.c1];simp
theorem zef:(Tryz.prog.info? 49).map (λi=>(i.zero,i.size,i.bytes))=some (some (.agg #[↑(),↑zj.a,↑(),↑(),.slice none 0 0]),5,64):=by kernel_rfl
theorem zfI (W:World) (x:Nd) (A:Option Addr) (c:Nat):∀(j:Nat) (u:Value),(zfK x A c)[j]?=some u->(W.alloc (.cells #[↑x.kind,↑x.text,↑x.n,↑x.at',.slice A x.kids.length c] 49)).cell? ((⟨W.heap.size,0,none⟩:Addr).add j)=some u:=λj u hj=>by
 have:=zbG W (zfK x A c).toArray 49 j;rw[List.getElem?_toArray,hj] at this;rw[Addr.add_lit,Nat.zero_add];exact this
theorem zsN {W:World} {lo B:Nat} {x:Nd} {A:Option Addr} {c:Nat} {v:Value} (R:Rd (Bt lo W.heap.size) W (ns x.kids) (.slice A x.kids.length c)) (hB:B<=lo) (HOB:∀g,v.ownBlock=some g->g<lo) :
 ∀(j:Nat) (u:Value),(zfK x A c)[j]?=some u->Rd (λb=>Bt B W.heap.size b/\some b≠v.ownBlock) W (x.row j) u:=λj u hj=>
 zby (R.weaken (λq hq=>⟨⟨Nat.le_trans hB hq.1,hq.2⟩,λe=>by have:=HOB q e.symm;have:=hq.1;omega⟩)) j u hj
theorem zfp {l m:List Nd} {n:Nat} (hn:n=l.length):∀a,a<n->zan Nd.row (l++m) a=zan Nd.row l a:=λk hk=>by
 subst hn;have hxk:l[k]?=some l[k]:=List.getElem?_eq_getElem hk;rw[zas hxk,zas (l:=l++m) (i:=k) (by rw[List.getElem?_append_left hk];exact hxk)]
theorem zer {l m:List Nd} {n n':Nat} (hn:n=l.length) (hn':n'=m.length):∀i j,i<n'->j<5->zan Nd.row (l++m) (n+i) j=zan Nd.row m i j:=λk j hk _=>by
 subst hn hn';have hxk:m[k]?=some m[k]:=List.getElem?_eq_getElem hk;rw[zas hxk,zas (l:=l++m) (i:=l.length+k) (by rw[List.getElem?_append_right zo,show l.length+k-l.length=k by omega];exact hxk)]
structure IL (G:PG) (b:Nat) (w W:World) (st:Ps) (acc:List Nd) (v:Value):Prop where
 own1:Own1 b w W
 ps:PsAt G b W st
 own:zaz w.heap.size 49 5 acc.length (zan Nd.row acc) W v
theorem IL.below {G:PG} {b:Nat} {w W W':World} {st:Ps} {acc:List Nd} {v:Value} (h:IL G b w W st acc v) (k:Below W.heap.size W W'):IL G b w W' st acc v:=⟨h.own1.of_below k,h.ps.below k,h.own.below k⟩
theorem IL.grown {G:PG} {b:Nat} {w W W':World} {st:Ps} {acc acc':List Nd} {v v':Value} (h:IL G b w W st acc v) (hb:b<w.heap.size) (hlim:G.lim<=w.heap.size) (hg:W.grownBy W' v.ownBlock) (hO:zaz w.heap.size 49 5 acc'.length (zan Nd.row acc') W' v'):IL G b w W' st acc' v':=by
 have hch:Chg (λk=>w.heap.size<=k) W W':=Chg.of_grown hg (λk hk=>(h.own.below_own k hk).1);exact⟨Chg.trans h.own1 hch (λj hj=>.inr hj),h.ps.keep hch (λk hk=>⟨Nat.le_trans hlim hk,zo⟩),hO⟩
theorem IL.call {G:PG} {b:Nat} {w W W':World} {st st':Ps} {acc:List Nd} {v:Value} (h:IL G b w W st acc v) (hb:b<w.heap.size) (k:Own1 b W W') (p:PsAt G b W' st'):IL G b w W' st' acc v:=⟨h.own1.trans k,p,k.owned hb h.own⟩
theorem zie (G:PG) (b k r:Nat) (item:Ps->R Nd) (K:FuncId) (hcf:∀(x:Option Addr) (W:World),(callFunc K #[.pointer x]).run Tryz.prog W=.ok (.enter K #[.pointer x]) W)
 (P:Ps->Prop) (hP:∀t,zao G.T t=(⟨#[44]⟩:ByteArray)->P t.adv) (hitem:∀st w,P st->16*(G.T.length-st.next)+r<k->PsAt G b w st->Calls Tryz.prog K #[.pointer (some ⟨b,0,none⟩)] w (zaG G b QNd (item st) w)) (hadv:∀st,Adv (item st) (st.next+1))
 (stop:ByteArray) (hstop:stop≠⟨#[]⟩) (st:Ps) (hP0:P ⟨st.next,false⟩) (hneed:16*(G.T.length-st.next)+r<k) (w:World) (h:PsAt G b w st) :
 Calls Tryz.prog 221 #[.pointer (some ⟨b,0,none⟩),↑stop,.func (.func K) #[.pointer (some ⟨b,0,none⟩)] #[]] w (zaG G b (QNs 32768) (zdM G.T G.en item stop k st) w):=by
 have hbw:=h.lt;have hlen:=h.len;have hlim:=h.lim;have hle:st.next<=G.T.length:=h.le;obtain⟨RR,hR⟩:=zn (zdM G.T G.en item stop k st);rw[hR];unfold zdM at hR;have HF:=zz hR;have c3:=h.c3;have z3:=h.fz 3;have Z1:=zz (h.set3 false);have Z2:Hid (Own1 b w (w.setCell ⟨b,3,none⟩ (.bool false))):=zz (zcT (Below.refl _ _) 3 _);clear h hR;go_in;go_wp2_with fail;cases hx:item ⟨st.next,false⟩ with
 |error a=>
  have K0:=hitem ⟨st.next,false⟩ _ hP0 hneed Z1.out;rw[hx] at K0;(with_reducible refine K0.mono ?_);rintro e we ⟨hc,rfl⟩;exact⟨rfl,zaf (by rw[<-HF.out,hx,R.next_err]) (Z2.out.trans hc)⟩
 |ok p=>
  obtain⟨n1,t1⟩:=p;have K0:=hitem ⟨st.next,false⟩ _ hP0 hneed Z1.out;rw[hx] at K0;have q:=HF.out;clear HF;rw[hx,R.next_ok] at q;have HF:=zz q;have gt1:st.next+1<=t1.next:=hadv ⟨st.next,false⟩ _ _ hx;clear hx q;(with_reducible refine K0.mono ?_);rintro e w1 ⟨hc,hp,A1,c1,rfl,hr⟩;have hs1:=Chg.size hc;rw[zbs] at hs1 hr;have lt1:t1.next<=G.T.length:=hp.le;have hO:=zlo [⟨n1,A1,c1⟩] (w:=w1) (lo:=w.heap.size) hs1 (λy hy=>by simp only[List.mem_singleton] at hy;subst hy;exact hr) zs
  have X1:Hid (IL G b w (w1.alloc (.cells #[↑n1.kind,↑n1.text,↑n1.n,↑n1.at',.slice A1 n1.kids.length c1] 49)) t1 [n1] (.slice (some ⟨w1.heap.size,0,none⟩) 1 1)):=
   zz ⟨(Z2.out.trans hc).of_below ((Below.refl _ _).alloc (Nat.le_refl _) _),hp.below ((Below.refl _ _).alloc (Nat.le_refl _) _),hO⟩
  clear hc hp hr hO K0 Z1 Z2 c3 z3;go_wp2_with fail
  go_loopw [8] (λs8 wr=>∃(j:Nat) (acc:List Nd) (t:Ps) (A:Option Addr) (c:Nat),s8=.slice A acc.length c/\acc.length<=t.next/\G.T.length-t.next+1<=j/\Hid (ziZ G.T G.en item stop st.head j acc t=RR)/\st.next+1<=t.next/\t.next<=G.T.length/\Hid (IL G b w wr t acc (.slice A acc.length c))) (λ_ wr=>G.T.length-zeG wr b)
  case atStart=>exact⟨k,[n1],t1,_,_,rfl,by simp;omega,zo,HF,zo,lt1,X1⟩
  case round=>
   clear HF X1;obtain⟨j,acc,t,A,c,rfl,hacc,hj,HF,ht1,ht2,HX⟩:=hrel;obtain⟨j',rfl⟩:∃j',j=j'+1:=⟨j-1,zo⟩;have q:=HF.out;rw[ziZ] at q
   by_cases hw:zao G.T t=(⟨#[44]⟩:ByteArray)
   ·have hPt:=hP t hw;have K1:=zfq G b t (⟨#[44]⟩:ByteArray) wr HX.out.ps hw zs;rw[if_pos hw] at q;clear HF hw;have hm:zeG wr b=t.next:=zhs HX.out.ps;go_wp2_with fail;(with_reducible refine K1.mono ?_);rintro e w2 ⟨rfl,hc,hp⟩;have lt2:t.next+1<=G.T.length:=hp.le;have X2:=zz (HX.out.call hbw hc hp);have hsz2:=Chg.size hc;have hsz3:=Chg.size HX.out.own1;have hneed2:16*(G.T.length-(t.next+1))+r<k:=zo
    clear hc hp HX K1;go_wp2_with fail;cases hx:item t.adv with
    |error a=>
     have K0:=hitem t.adv _ hPt hneed2 X2.out.ps;rw[hx] at K0;(with_reducible refine K0.mono ?_);rintro e we ⟨hc,rfl⟩;exact⟨rfl,zaf (by rw[<-q,hx,R.next_err]) (X2.out.own1.trans hc)⟩
    |ok p=>
     obtain⟨n3,t3⟩:=p;have K0:=hitem t.adv _ hPt hneed2 X2.out.ps;rw[hx] at K0;rw[hx,R.next_ok] at q;have HF:=zz q;have gt3:t.next+1+1<=t3.next:=hadv t.adv _ _ hx;clear hx q;(with_reducible refine K0.mono ?_);rintro e w3 ⟨hc,hp,A3,c3,rfl,hr⟩;have hsz4:=Chg.size hc;have lt3:t3.next<=G.T.length:=hp.le;have X3:=zz (X2.out.call hbw hc hp);have R3:=zz hr;have HOB:=zz X2.out.own.below_own;clear hc hp hr X2 K0;have hb4:=(Below.refl w3.heap.size w3).alloc (Nat.le_refl _) (.cells #[↑n3.kind,↑n3.text,↑n3.n,↑n3.at',.slice A3 n3.kids.length c3] 49);have X4:=zz (X3.out.below hb4);have R4:=zz (zaF hb4 R3.out);go_wp2_with (at_builtin;refine zba Nd.row zef Tryz.underlying47 rfl zo zo rfl _ _ rfl w.heap.size ?cx1 (.slice A acc.length c) acc rfl X4.out.own ⟨w3.heap.size,0,none⟩ 1 n3 (zfK n3 A3 c3) rfl rfl ?cx2 ?cx3 ?cx4 ?_)
     case cx1=>simp;omega
     case cx2=>exact zfI _ _ _ _
     case cx3=>exact zsN R4.out zo (λg hg=>(HOB.out g hg).2)
     case cx4=>omega
     intro v' w5 hO hg _;obtain⟨A',c',rfl,_⟩:=hO.rd.sl_inv;have X5:Hid (IL G b w w5 t3 (acc++[n3]) (.slice A' (acc.length+1) c')):=zz (X4.out.grown hbw hlim hg (by rw[List.length_append];exact hO));have hm5:zeG w5 b=t3.next:=zhs X5.out.ps;clear hO hg X4 R4 HOB X3 R3 hb4;go_wp2_with fail;exact⟨⟨j',acc++[n3],t3,A',c',by simp,by simp;omega,zo,HF,zo,lt3,by simpa using X5⟩,zo⟩
   ·have K1:=zeQ G b t (⟨#[44]⟩:ByteArray) wr HX.out.ps hw;rw[if_neg hw] at q;clear HF hw;go_wp2_with fail;(with_reducible refine K1.mono ?_);rintro e w2 ⟨rfl,hb⟩;have X2:=zz (HX.out.below hb);clear hb HX K1;go_wp2_with fail
    by_cases hs:zao G.T t=stop
    ·have K2:=zgC G b t stop _ X2.out.ps hstop;rw[zqw hs] at K2 q;rw[R.next_ok] at q;have HF:=zz q;clear hs q;(with_reducible refine K2.mono ?_);rintro e w3 ⟨hc,hp,rfl⟩;have X3:=zz (X2.out.call hbw hc hp);have z3:=hp.fz 3;have c3':=hp.c3;clear hc hp X2 K2;go_wp2;go_ret;rw[<-HF.out];exact⟨X3.out.own1.trans (zcT (Below.refl _ _) 3 _),X3.out.ps.set3 st.head,A,c,rfl,zo,Own1.owned (b:=b) (zcT (Below.refl _ _) 3 _) hbw X3.out.own⟩
    ·have K2:=zgC G b t stop _ X2.out.ps hstop;rw[zjf hs] at K2;(with_reducible refine K2.mono ?_);rintro e we ⟨hc,rfl⟩;exact⟨rfl,zaf (by rw[<-q,zjf hs,R.next_err]) (X2.out.own1.trans hc)⟩
theorem zrG (G:PG) (b k r:Nat) (item:Ps->R Nd) (K:FuncId) (hcf:∀(x:Option Addr) (W:World),(callFunc K #[.pointer x]).run Tryz.prog W=.ok (.enter K #[.pointer x]) W)
 (P:Ps->Prop) (hP:∀t,zao G.T t=(⟨#[44]⟩:ByteArray)->P t.adv) (hitem:∀st w,P st->16*(G.T.length-st.next)+r<k->PsAt G b w st->Calls Tryz.prog K #[.pointer (some ⟨b,0,none⟩)] w (zaG G b QNd (item st) w)) (hadv:∀st,Adv (item st) (st.next+1))
 (stop:ByteArray) (hstop:stop≠⟨#[]⟩) (st:Ps) (hP0:P ⟨st.next,false⟩) (hneed:16*(G.T.length-st.next)+r<k) (w:World) (h:PsAt G b w st) :
 Calls Tryz.prog 217 #[.pointer (some ⟨b,0,none⟩),↑stop,.func (.func K) #[.pointer (some ⟨b,0,none⟩)] #[]] w (zaG G b (QNs 32768) (zia G.T G.en item stop k st) w):=by
 have P0:=zz h;unfold zia
 by_cases hs:zao G.T st=stop
 ·have K1:=zz (zfq G b st stop w h hs hstop);rw[if_pos hs];clear h hs;go_in;go_wp2_with fail;refine zi K1 ?_;rintro e w1 ⟨rfl,hc,hp⟩;have C1:=zz hc;have P1:=zz hp;clear hc hp;go_wp2;go_ret;exact⟨C1.out,P1.out,none,0,rfl,by simp,zaz.nil _ _ _ _ _⟩
 ·have K1:=zz (zeQ G b st stop w h hs);have K2:=zz (λw h=>zie G b k r item K hcf P hP hitem hadv stop hstop st hP0 hneed w h);rw[if_neg hs];generalize zdM G.T G.en item stop k st=RR at *
  clear h hs;go_in;go_wp2_with fail;refine zi K1 ?_;rintro e w1 ⟨rfl,hb⟩;have B1:=zz hb;have P1:=zz (P0.out.below hb);clear hb;go_wp2_with fail;(with_reducible refine(K2.out _ P1.out).mono ?_);rintro e w2 hpost;cases RR with
  |error a=>
   obtain⟨hc,rfl⟩:=hpost;exact⟨rfl,(zaO B1.out).trans hc,rfl⟩
  |ok p=>
   obtain⟨l,st2⟩:=p;obtain⟨hc,hp,A,c,rfl,hl,ho⟩:=hpost;have C2:=zz ((zaO B1.out).trans hc);have P2:=zz hp;have O2:=zz (ho.lower B1.out.size);clear hc hp ho;go_wp2;go_ret;exact⟨C2.out,P2.out,A,c,rfl,hl,O2.out⟩
theorem zdY {s:ByteArray} {l:List UInt8} (h:s=⟨l.toArray⟩):(s.toList == l)=true:=by
 rw[h,ByteArray.toList_eq];simp
theorem zji {W W':World} {v:Value} {g:Nat} {cs:Array Value} {e:TypeId} (hg:W.grownBy W' v.ownBlock) (h:zab W g cs e) (hn:∀q,v.ownBlock=some q->q≠g):zab W' g cs e:=(hg.block g h.lt (λe=>hn g e.symm rfl)).trans h
theorem zkj (s:ByteArray) (w:World) (hs:s.size<=2097152):Calls Tryz.prog 185 #[↑s] w λe w'=>e=.returned (.bool (zcB 65 90 s))/\w=w':=by
 rcases Nat.eq_zero_or_pos s.size with h0|h0
 ·have HE:Hid (zcB 65 90 s=false):=zz (by unfold zcB;simp;omega);have he:s.toList=[]:=by rw[ByteArray.toList_eq];exact List.eq_nil_of_length_eq_zero (by rw[zai];exact h0)
  go_in;go_wp2;go_ret;exact⟨by rw[HE.out];rfl,rfl⟩
 ·have hne:¬s.toList=[]:=λh=>by
   rw[ByteArray.toList_eq] at h;have:=zai s;rw[h] at this;simp at this;omega
  have hemp:s.toList.isEmpty=false:=by simpa using hne
  have hi0:(Instr.index 9 ↑s ↑()).run Tryz.prog w=.ok (.int .u8 (zak s 0)) w:=by simpa using zaP s 0 h0 w
  have hr0:=zbt s 0;have HI:=zz (zaP s);have HT:Hid (zcB 65 90 s=decide (0<s.size/\65<=zak s 0/\zak s 0<=90/\∀i,i<s.size->zdj (zak s i)=true)):=zz rfl;obtain⟨X0,hX0⟩:=zn (zak s 0);rw[hX0] at hi0 hr0 HT;clear hX0;generalize zcB 65 90 s=R at *
  by_cases hu:65<=X0/\X0<=90
  ·obtain⟨hu1,hu2⟩:=hu;have hu3:¬X0<65:=zo
   have hu4:¬90<X0:=zo
   go_in;go_wp2
   go_loopw [19] (λs19 wr=>∃(i:Nat),i<=s.size/\s19=↑i/\Hid (∀j,j<i->zdj (zak s j)=true)/\wr=w) (λs19 _=>s.size-(intOf s19).toNat)
   case atStart=>exact⟨0,zo,rfl,zz (λj hj=>absurd hj zo),rfl⟩
   case round=>
    obtain⟨i,hi,rfl,HN,rfl⟩:=hrel
    by_cases hlt:i<s.size
    ·have hix:=HI.out i hlt wr;have hr:=zbt s i
     have HS:Hid (zdj (zak s i)=true->∀j,j<i+1->zdj (zak s j)=true):=zz (λh j hj=>by
      rcases Nat.lt_or_eq_of_le (Nat.lt_succ_iff.1 hj) with h2|h2
      ·exact HN.out j h2
      ·subst h2;exact h)
     have HF:Hid (zdj (zak s i)=false->R=false):=zz (λh=>by
      rw[HT.out];rw[decide_eq_false];rintro⟨_,_,_,h2⟩;rw[h2 i hlt] at h;cases h)
     obtain⟨X,hX⟩:=zn (zak s i);rw[hX] at hix hr HS HF;have HC:Hid (zdj X=decide (97<=X/\X<=122\/65<=X/\X<=90\/48<=X/\X<=57\/X=95)):=zz rfl;clear hX HN hi0;rcases (show X<48\/(48<=X/\X<=57)\/(58<=X/\X<=64)\/(65<=X/\X<=90)\/(91<=X/\X<=94)\/(95<=X/\X<=95)\/(96<=X/\X<=96)\/(97<=X/\X<=122)\/122<X by omega) with h|⟨h,h'⟩|⟨h,h'⟩|⟨h,h'⟩|⟨h,h'⟩|⟨h,h'⟩|⟨h,h'⟩|⟨h,h'⟩|h
     ·have k97:¬97<=X:=zo
      have k122:X<=122:=zo
      have k65:¬65<=X:=zo
      have k90:X<=90:=zo
      have k48:¬48<=X:=zo
      have k57:X<=57:=zo
      have h95:(X == 95)=false:=by simp;omega
      have HY:=zz (HF.out (by rw[HC.out];exact decide_eq_false zo));clear HS HF HC;go_wp2
      all_goals first
       |(exfalso;omega)
       |(go_ret;exact⟨by rw[HY.out];rfl,rfl⟩)
     ·have k97:¬97<=X:=zo
      have k122:X<=122:=zo
      have k65:¬65<=X:=zo
      have k90:X<=90:=zo
      have k48:48<=X:=zo
      have k57:X<=57:=zo
      have h95:(X == 95)=false:=by simp;omega
      have HY:=zz (HS.out (by rw[HC.out];exact decide_eq_true zo));clear HS HF HC;go_wp2
      all_goals first
       |(exfalso;omega)
       |exact⟨⟨i+1,zo,by go_num,HY,trivial⟩,by simp[intOf];omega⟩
     ·have k97:¬97<=X:=zo
      have k122:X<=122:=zo
      have k65:¬65<=X:=zo
      have k90:X<=90:=zo
      have k48:48<=X:=zo
      have k57:¬X<=57:=zo
      have h95:(X == 95)=false:=by simp;omega
      have HY:=zz (HF.out (by rw[HC.out];exact decide_eq_false zo));clear HS HF HC;go_wp2
      all_goals first
       |(exfalso;omega)
       |(go_ret;exact⟨by rw[HY.out];rfl,rfl⟩)
     ·have k97:¬97<=X:=zo
      have k122:X<=122:=zo
      have k65:65<=X:=zo
      have k90:X<=90:=zo
      have k48:48<=X:=zo
      have k57:¬X<=57:=zo
      have h95:(X == 95)=false:=by simp;omega
      have HY:=zz (HS.out (by rw[HC.out];exact decide_eq_true zo));clear HS HF HC;go_wp2
      all_goals first
       |(exfalso;omega)
       |exact⟨⟨i+1,zo,by go_num,HY,trivial⟩,by simp[intOf];omega⟩
     ·have k97:¬97<=X:=zo
      have k122:X<=122:=zo
      have k65:65<=X:=zo
      have k90:¬X<=90:=zo
      have k48:48<=X:=zo
      have k57:¬X<=57:=zo
      have h95:(X == 95)=false:=by simp;omega
      have HY:=zz (HF.out (by rw[HC.out];exact decide_eq_false zo));clear HS HF HC;go_wp2
      all_goals first
       |(exfalso;omega)
       |(go_ret;exact⟨by rw[HY.out];rfl,rfl⟩)
     ·have k97:¬97<=X:=zo
      have k122:X<=122:=zo
      have k65:65<=X:=zo
      have k90:¬X<=90:=zo
      have k48:48<=X:=zo
      have k57:¬X<=57:=zo
      have h95:(X == 95)=true:=by simp;omega
      have HY:=zz (HS.out (by rw[HC.out];exact decide_eq_true zo));clear HS HF HC;go_wp2
      all_goals first
       |(exfalso;omega)
       |exact⟨⟨i+1,zo,by go_num,HY,trivial⟩,by simp[intOf];omega⟩
     ·have k97:¬97<=X:=zo
      have k122:X<=122:=zo
      have k65:65<=X:=zo
      have k90:¬X<=90:=zo
      have k48:48<=X:=zo
      have k57:¬X<=57:=zo
      have h95:(X == 95)=false:=by simp;omega
      have HY:=zz (HF.out (by rw[HC.out];exact decide_eq_false zo));clear HS HF HC;go_wp2
      all_goals first
       |(exfalso;omega)
       |(go_ret;exact⟨by rw[HY.out];rfl,rfl⟩)
     ·have k97:97<=X:=zo
      have k122:X<=122:=zo
      have k65:65<=X:=zo
      have k90:¬X<=90:=zo
      have k48:48<=X:=zo
      have k57:¬X<=57:=zo
      have h95:(X == 95)=false:=by simp;omega
      have HY:=zz (HS.out (by rw[HC.out];exact decide_eq_true zo));clear HS HF HC;go_wp2
      all_goals first
       |(exfalso;omega)
       |exact⟨⟨i+1,zo,by go_num,HY,trivial⟩,by simp[intOf];omega⟩
     ·have k97:97<=X:=zo
      have k122:¬X<=122:=zo
      have k65:65<=X:=zo
      have k90:¬X<=90:=zo
      have k48:48<=X:=zo
      have k57:¬X<=57:=zo
      have h95:(X == 95)=false:=by simp;omega
      have HY:=zz (HF.out (by rw[HC.out];exact decide_eq_false zo));clear HS HF HC;go_wp2
      all_goals first
       |(exfalso;omega)
       |(go_ret;exact⟨by rw[HY.out];rfl,rfl⟩)
    ·obtain rfl:i=s.size:=zo
     have HY:Hid (R=true):=zz (by rw[HT.out];exact decide_eq_true ⟨h0,hu1,hu2,HN.out⟩);clear hi0;go_wp2;go_ret;exact⟨by rw[HY.out];rfl,rfl⟩
  ·have HE:Hid (R=false):=zz (by rw[HT.out];simp;intro _ h1 h2;exact absurd ⟨h1,h2⟩ hu);rcases (show X0<65\/90<X0 by omega) with hx|hx
   all_goals
    clear hu;go_in;go_wp2
    all_goals (go_ret;exact⟨by rw[HE.out];rfl,rfl⟩)
theorem zqk (s:ByteArray) (w:World):Calls Tryz.prog 135 #[↑s] w λe w'=>e=.returned (.int .i64 (zbW s))/\w'=w:=by
 obtain⟨r,hr⟩:=zn (zbW s);rw[hr];unfold zbW at hr
 by_cases h1:s=(⟨#[105,110,116]⟩:ByteArray)
 ·have e1:=zdY h1;rw[if_pos h1] at hr;clear h1;subst hr;go_in;go_wp2;go_ret;exact⟨rfl,rfl⟩
 ·have e1:=zam h1;rw[if_neg h1] at hr;clear h1
  by_cases h2:s=(⟨#[98,111,111,108]⟩:ByteArray)
  ·have e2:=zdY h2;rw[if_pos h2] at hr;clear h2;subst hr;go_in;go_wp2;go_ret;exact⟨rfl,rfl⟩
  ·have e2:=zam h2;rw[if_neg h2] at hr;clear h2
   by_cases h3:s=(⟨#[116,101,120,116]⟩:ByteArray)
   ·have e3:=zdY h3;rw[if_pos h3] at hr;clear h3;subst hr;go_in;go_wp2;go_ret;exact⟨rfl,rfl⟩
   ·have e3:=zam h3;rw[if_neg h3] at hr;clear h3
    by_cases h4:s=(⟨#[117,110,105,116]⟩:ByteArray)
    ·have e4:=zdY h4;rw[if_pos h4] at hr;clear h4;subst hr;go_in;go_wp2;go_ret;exact⟨rfl,rfl⟩
    ·have e4:=zam h4;rw[if_neg h4] at hr;clear h4;subst hr;go_in;go_wp2;go_ret;exact⟨rfl,rfl⟩
def fld3 (k:Int) (t:ByteArray) (d:D):Nat->D
 |0=>.num .i64 k
 |1=>.str t
 |_=>d
mutual
def Ty.row:Ty->Nat->D
 |.mk k n a=>fld3 k n (.sl 3 a.length (zof a))
def zof:List Ty->Nat->Nat->D
 |[],_,_=>.bool false
 |v::r,i,j=>match i with
  |0=>v.row j
  |i+1=>zof r i j
end
def ys (l:List Ty):D:=.sl 3 l.length (zof l)
theorem zis:∀(l:List Ty) (i:Nat) (v:Ty),l[i]?=some v->zof l i=v.row
 |[],i,v,h=>by simp at h
 |x::r,0,v,h=>by simp at h;subst h;funext j;rfl
 |x::r,i+1,v,h=>by
  have:=zis r i v (by simpa using h)
  funext j
  show zof r i j=_
  rw[this]
section
variable {ok:Nat->Prop} {w:World}
def TyAt (ok:Nat->Prop) (w:World) (b o:Nat) (x:Ty) (A:Option Addr) (c:Nat):Prop:=
 w.cell? ⟨b,o,none⟩=some (.int .i64 x.kind)/\w.cell? ⟨b,o+1,none⟩=some (.string x.name)/\w.cell? ⟨b,o+2,none⟩=some (.slice A x.args.length c)/\Rd ok w (ys x.args) (.slice A x.args.length c)
theorem zlW {b o:Nat} {x:Ty} (h:zcI ok w b o 3 x.row):∃A c,TyAt ok w b o x A c:=by
 obtain⟨k,t,l⟩:=x;rw[Ty.row] at h;obtain⟨u0,c0,r0⟩:=h 0 zo;obtain⟨u1,c1,r1⟩:=h 1 zo;obtain⟨u2,c2,r2⟩:=h 2 zo;have e0:u0=↑k:=r0;have e1:u1=↑t:=r1;have r2':Rd ok w (ys l) u2:=r2;obtain⟨A,c,e2,_⟩:=r2'.sl_inv;subst e0 e1 e2;exact⟨A,c,c0,c1,c2,r2'⟩
theorem znN {l:List Ty} {A:Option Addr} {n c:Nat} (h:Rd ok w (ys l) (.slice A n c)) {i:Nat} (hi:i<l.length) :
 ∃b off x,A=some ⟨b,off,none⟩/\ok b/\l[i]?=some x/\∃A' c',TyAt ok w b (off+i*3) x A' c':=by
 obtain⟨A0,c0,e,_,_,h3⟩:=h.sl_inv;injection e with e1 e2 e3;subst e1 e2;obtain⟨b,off,rfl,hb,hr⟩:=h3 zo;have hv:l[i]?=some l[i]:=List.getElem?_eq_getElem hi;have h1:=hr i hi;rw[zis l i _ hv] at h1;exact⟨b,off,l[i],rfl,hb,hv,zlW h1⟩
theorem zqb {l:List Ty} {A:Option Addr} {n c:Nat} (h:Rd ok w (ys l) (.slice A n c)):n=l.length/\n<=c/\c<=9223372036854775807:=by
 obtain⟨A0,c0,e,h1,h2,_⟩:=h.sl_inv;injection e with e1 e2 e3;subst e1 e2 e3;exact⟨rfl,h1,h2⟩
end
theorem zhK:(Tryz.prog.info? 70).map (·.size)=some 3:=by kernel_rfl
theorem zdD {w:World} {g:Nat} {e:TypeId} {a0 a1 a2:Value} (u0 u1 u2:Value) (h:zab w g #[a0,a1,a2] e) :
 zab (((w.setCell ⟨g,0,none⟩ u0).setCell ⟨g,1,none⟩ u1).setCell ⟨g,2,none⟩ u2) g #[u0,u1,u2] e:=by
 have:=((h.set 0 u0).set 1 u1).set 2 u2
 simpa using this
theorem zcE (W:World) (X:Nat) (u0 u1 u2:Value):Chg (λq=>q=X) W (((W.setCell ⟨X,0,none⟩ u0).setCell ⟨X,1,none⟩ u1).setCell ⟨X,2,none⟩ u2):=
 ((((Chg.refl (λq=>q=X) W).setCell (p:=⟨X,0,none⟩) (.inl rfl) u0).setCell (p:=⟨X,1,none⟩) (.inl rfl) u1).setCell (p:=⟨X,2,none⟩) (.inl rfl) u2)
end Go.Proofs.YtcebmphappfjjaaGreatDoor
set_option maxHeartbeats 32000000
set_option maxRecDepth 100000
namespace Go.Proofs.YtcebmphappfjjaaGreatDoor
def bt (s:ByteArray) (i:Nat):UInt8:=s.data.toList.getD i 0
def zeT (c:UInt8):Bool:=(decide (97<=c)&&decide (c<=122)) || (decide (65<=c)&&decide (c<=90))
def zcM (c:UInt8):Bool:=decide (48<=c)&&decide (c<=57)
def zsE:List ByteArray:=[(⟨#[40]⟩:ByteArray),(⟨#[41]⟩:ByteArray),(⟨#[123]⟩:ByteArray),(⟨#[125]⟩:ByteArray),(⟨#[91]⟩:ByteArray),(⟨#[93]⟩:ByteArray),(⟨#[44]⟩:ByteArray),(⟨#[46]⟩:ByteArray),(⟨#[58]⟩:ByteArray),(⟨#[59]⟩:ByteArray),(⟨#[63]⟩:ByteArray),(⟨#[95]⟩:ByteArray),(⟨#[61]⟩:ByteArray),(⟨#[43]⟩:ByteArray),(⟨#[45]⟩:ByteArray),(⟨#[42]⟩:ByteArray),(⟨#[47]⟩:ByteArray),(⟨#[37]⟩:ByteArray),(⟨#[60]⟩:ByteArray),(⟨#[62]⟩:ByteArray),(⟨#[61,61]⟩:ByteArray),(⟨#[33,61]⟩:ByteArray),(⟨#[60,61]⟩:ByteArray),(⟨#[62,61]⟩:ByteArray),(⟨#[43,43]⟩:ByteArray),(⟨#[61,62]⟩:ByteArray),(⟨#[58,45]⟩:ByteArray)]
def zbU (s:ByteArray):Bool:=zsE.any (λx=>decide (x=s))
def zaX (s:ByteArray):Nat->Nat->Nat
 |0,i=>i
 |f+1,i=>if i<s.size/\wc (bt s i)=true then zaX s f (i+1) else i
def zcc (s:ByteArray):Nat->Nat->Nat
 |0,i=>i
 |f+1,i=>if i<s.size/\bt s i≠10 then zcc s f (i+1) else i
def zhH (c:UInt8):Bool:=c == 9 || c == 10 || c == 13 || c == 32
def zdc (s:ByteArray):Nat->Nat->Nat
 |0,i=>i
 |f+1,i=>
  if i<s.size then
   if zhH (bt s i)=true then zdc s f (i+1)
   else if bt s i=47/\i+1<s.size/\bt s (i+1)=47 then zdc s f (zcc s s.size i)
   else i
  else i
def escC (c:UInt8):Option UInt8:=if c=110 then some 10 else if c=116 then some 9 else if c=34\/c=92 then some c else none
def zfc (s:ByteArray):Nat->Nat->List UInt8->Option (List UInt8 × Nat)
 |0,_,_=>none
 |f+1,i,acc=>
  if i<s.size then
   if bt s i=10 then none
   else if bt s i=34 then some (acc,i+1)
   else if bt s i=92 then
    if i+1=s.size then none
    else match escC (bt s (i+1)) with
     |none=>none
     |some e=>zfc s f (i+2) (acc++[e])
   else zfc s f (i+1) (acc++[bt s i])
  else none
def zen (s:ByteArray) (i:Nat):Except Int (Tok × Nat):=
 let e:=zaX s s.size i
 let w:=s.extract i e
 if w.data.toList.all zcM=false then .error 2
 else if bt s i=48/\e≠i+1 then .error 2
 else if (zbD w 0 9007199254740992).2=true then .ok (⟨2,⟨#[]⟩,(zbD w 0 9007199254740992).1,i⟩,e)
 else .error 6
def zlD (s:ByteArray) (i:Nat):Except Int (Tok × Nat):=match zfc s s.size (i+1) [] with
 |none=>.error 2
 |some (l,e)=>if 4096<l.length then .error 15 else .ok (⟨3,⟨l.toArray⟩,0,i⟩,e)
def zln (s:ByteArray) (i:Nat):Except Int (Tok × Nat):=
 if i+1<s.size/\zbU (s.extract i (i+2))=true then .ok (⟨4,s.extract i (i+2),0,i⟩,i+2)
 else if zbU (s.extract i (i+1))=true then .ok (⟨4,s.extract i (i+1),0,i⟩,i+1)
 else .error 2
def zcZ (s:ByteArray) (i:Nat):Except Int (Tok × Nat):=
 if zeT (bt s i)=true then .ok (⟨1,s.extract i (zaX s s.size i),0,i⟩,zaX s s.size i)
 else if zcM (bt s i)=true then zen s i
 else if bt s i=34 then zlD s i
 else zln s i
def zfs (s:ByteArray):Nat->Nat->List Tok->Except (Int × Int) (List Tok)
 |0,_,_=>.error (-1,-1)
 |f+1,i,acc=>
  let j:=zdc s s.size i
  if j=s.size then .ok acc
  else match zcZ s j with
   |.error e=>.error (e,j)
   |.ok (t,e)=>zfs s f e (acc++[t])
def zgX (s:ByteArray):Except (Int × Int) (List Tok):=if 32768<s.size then .error (15,0) else zfs s (s.size+1) 0 []
mutual
def zlN:Nd->Nat->Option Int
 |.mk _ _ _ a l,d=>if 40<d then some a else zdH l (d+1)
def zdH:List Nd->Nat->Option Int
 |[],_=>none
 |n::r,d=>match zlN n d with|some a=>some a|none=>zdH r d
end
def zhG (s:ByteArray):Except (Int × Int) Nd:=match zgX s with
 |.error e=>.error e
 |.ok T=>match zdJ T (zgM T s.size (64*(T.length+1))) (64*(T.length+1)) [] ⟨0,false⟩ with
  |.error a=>.error (2,a)
  |.ok (l,_)=>match zdH l 1 with
   |some a=>.error (10,a)
   |none=>.ok (.mk 1 ⟨#[]⟩ 0 0 l)
end Go.Proofs.YtcebmphappfjjaaGreatDoor
set_option maxHeartbeats 32000000
set_option maxRecDepth 100000
namespace Go.Proofs.YtcebmphappfjjaaGreatDoor
open Go.RowKit
abbrev ndV (x:Nd) (A:Option Addr) (c:Nat):Value:=.agg #[.int .i64 x.kind,.string x.text,.int .i64 x.n,.int .i64 x.at',.slice A x.kids.length c]
theorem znb (x:Nd) (d:Nat):zlN x d=if 40<d then some x.at' else zdH x.kids (d+1):=by cases x;rw[zlN];rfl
def zmI (d:Nat):Prop:=∀(x:Nd) (A:Option Addr) (c:Nat) (w:World),Rd (Lt w.heap.size) w (ns x.kids) (.slice A x.kids.length c)->
 Calls Tryz.prog 124 #[ndV x A c,.int .i64 (d:Int)] w λe w'=>e=.returned (.tuple #[.int .i64 ((zlN x d).getD 0),.bool (zlN x d).isSome])/\Below w.heap.size w w'
theorem zal {α:Type} {l:List α} {i:Nat} {x:α} (h:l[i]?=some x):l.drop i=x::l.drop (i+1):=by
 obtain⟨hi,rfl⟩:=List.getElem?_eq_some_iff.1 h;exact List.drop_eq_getElem_cons hi
theorem ziK (d:Nat) (hd:d<=41) (IH:d<=40->zmI (d+1)):zmI d:=by
 intro x A c w h;have HR:=zz h;have hl:=zaS h;have hn:x.kids.length<=9223372036854775807:=Nat.le_trans hl.2.1 hl.2.2;have HQ:=zz (znb x d);have hb0:=(Below.refl w.heap.size w).alloc (Nat.le_refl _) (.cells #[↑x.kind,↑x.text,↑x.n,↑x.at',.slice A x.kids.length c] 49);have hx0:=zab.new w #[↑x.kind,↑x.text,↑x.n,↑x.at',.slice A x.kids.length c] 49;obtain⟨w0,hw⟩:=zn (w.alloc (.cells #[↑x.kind,↑x.text,↑x.n,↑x.at',.slice A x.kids.length c] 49));rw[hw] at hb0 hx0;have HB0:=zz hb0;have c3:=hx0.a 3 rfl;have c4:=hx0.a 4 rfl;clear h hl hb0 hx0
 by_cases h40:40<d
 ·have hq:=HQ.out;rw[if_pos h40] at hq;go_in;go_wp2;exact bodyPost_ret (results_tmp2 zr _ _ _) rfl ⟨by rw[hq];rfl,HB0.out⟩
 ·have IH1:=IH zo;unfold zmI at IH1;rw[show ((d+1:Nat):Int)=(d:Int)+1 from rfl] at IH1;have IH2:=zz IH1;clear IH1;have hq:=HQ.out;rw[if_neg h40] at hq;have HQ2:=zz hq;clear IH HQ hq;go_in;go_wp2;clear hw c3 c4
  go_loopw [17] (λs wr=>∃i:Nat,i<=x.kids.length/\s=↑i/\Hid (zdH x.kids (d+1)=zdH (x.kids.drop i) (d+1))/\Hid (Below w.heap.size w wr)) (λs _=>x.kids.length-(intOf s).toNat)
  case atStart=>exact⟨0,zo,rfl,zz rfl,HB0⟩
  case round=>
   obtain⟨i,hi,rfl,HA,HB⟩:=hrel;have sB:=HB.out.size
   by_cases hlt:i<x.kids.length
   ·obtain⟨b,off,y,e,hlb,hget,A',c',p0,p1,p2,p3,p4,r5⟩:=zbC (HR.out.belows HB.out) hlt;subst e;have HK:=HA.out;rw[zal hget,zdH] at HK;have hin:(i:Int)<x.kids.length:=zo
    have hlb':b<wr.heap.size:=hlb;have hb1:=(Below.refl wr.heap.size wr).alloc (Nat.le_refl _) (.cells #[↑y.kind,↑y.text,↑y.n,↑y.at',.slice A' y.kids.length c'] 49);have hx1:=zab.new wr #[↑y.kind,↑y.text,↑y.n,↑y.at',.slice A' y.kids.length c'] 49;obtain⟨w1,hw1⟩:=zn (wr.alloc (.cells #[↑y.kind,↑y.text,↑y.n,↑y.at',.slice A' y.kids.length c'] 49));rw[hw1] at hb1 hx1;obtain⟨q0,q1,q2,q3,q4⟩:=hx1.c5;have R1:=zz (r5.belows hb1);have hwd:IntKind.i64.wrap ((d:Int)+1)=((d+1:Nat):Int):=by rw[IntWalk.i64_in _ zo];omega
    have HB1:=zz (HB.out.trans (hb1.mono sB));have s1:=hb1.size;clear HR r5 hb1 hx1 HA hget;go_wp2_with fail;(with_reducible refine(IH2.out y A' c' _ R1.out).mono ?_);rintro e w2 ⟨rfl,hb2⟩;have HB2:=zz (HB1.out.trans (hb2.mono zo));clear hb2 q0 q1 q2 q3 q4 hw1;cases hy:zlN y (d+1) with
    |some a=>
     rw[hy] at HK;have HE:=HQ2.out.trans HK;go_wp2;exact bodyPost_ret (results_tmp2 zr _ _ _) rfl ⟨by rw[HE];rfl,HB2.out⟩
    |none=>
     rw[hy] at HK;have HA2:Hid (zdH x.kids (d+1)=zdH (x.kids.drop (i+1)) (d+1)):=zz HK;go_wp2;exact⟨⟨i+1,zo,by go_num,HA2,HB2⟩,by simp[intOf];omega⟩
   ·have HE:zlN x d=none:=by
     have h1:=HA.out;rw[List.drop_eq_nil_of_le zo,zdH] at h1;exact HQ2.out.trans h1
    go_wp2;exact bodyPost_ret (results_tmp2 zr _ _ _) rfl ⟨by rw[HE];rfl,HB.out⟩
theorem zhr:∀(m d:Nat),41<=d+m->d<=41->zmI d
 |0,d,h1,h2=>ziK d h2 (λh=>by omega)
 |m+1,d,h1,h2=>ziK d h2 (λh=>zhr m (d+1) zo zo)
theorem ziG (s:ByteArray) (w:World):Calls Tryz.prog 230 #[↑s] w λe w'=>e=.returned (.bool (zar s))/\Below w.heap.size w w':=by
 by_cases h0:s=(⟨#[114,101,99,111,114,100]⟩:ByteArray)
 ·subst h0;have hr:zar (⟨#[114,101,99,111,114,100]⟩:ByteArray)=true:=by kernel_rfl
  rw[hr];go_in;go_wp2;go_ret;exact⟨rfl,Below.refl _ _⟩
 by_cases h1:s=(⟨#[118,97,114,105,97,110,116]⟩:ByteArray)
 ·subst h1;have hr:zar (⟨#[118,97,114,105,97,110,116]⟩:ByteArray)=true:=by kernel_rfl
  rw[hr];go_in;go_wp2;go_ret;exact⟨rfl,Below.refl _ _⟩
 by_cases h2:s=(⟨#[101,102,102,101,99,116]⟩:ByteArray)
 ·subst h2;have hr:zar (⟨#[101,102,102,101,99,116]⟩:ByteArray)=true:=by kernel_rfl
  rw[hr];go_in;go_wp2;go_ret;exact⟨rfl,Below.refl _ _⟩
 by_cases h3:s=(⟨#[102,117,110]⟩:ByteArray)
 ·subst h3;have hr:zar (⟨#[102,117,110]⟩:ByteArray)=true:=by kernel_rfl
  rw[hr];go_in;go_wp2;go_ret;exact⟨rfl,Below.refl _ _⟩
 by_cases h4:s=(⟨#[97,99,116,111,114]⟩:ByteArray)
 ·subst h4;have hr:zar (⟨#[97,99,116,111,114]⟩:ByteArray)=true:=by kernel_rfl
  rw[hr];go_in;go_wp2;go_ret;exact⟨rfl,Below.refl _ _⟩
 by_cases h5:s=(⟨#[114,101,115,116,97,114,116]⟩:ByteArray)
 ·subst h5;have hr:zar (⟨#[114,101,115,116,97,114,116]⟩:ByteArray)=true:=by kernel_rfl
  rw[hr];go_in;go_wp2;go_ret;exact⟨rfl,Below.refl _ _⟩
 by_cases h6:s=(⟨#[101,115,99,97,108,97,116,101]⟩:ByteArray)
 ·subst h6;have hr:zar (⟨#[101,115,99,97,108,97,116,101]⟩:ByteArray)=true:=by kernel_rfl
  rw[hr];go_in;go_wp2;go_ret;exact⟨rfl,Below.refl _ _⟩
 by_cases h7:s=(⟨#[115,116,97,116,101]⟩:ByteArray)
 ·subst h7;have hr:zar (⟨#[115,116,97,116,101]⟩:ByteArray)=true:=by kernel_rfl
  rw[hr];go_in;go_wp2;go_ret;exact⟨rfl,Below.refl _ _⟩
 by_cases h8:s=(⟨#[111,110]⟩:ByteArray)
 ·subst h8;have hr:zar (⟨#[111,110]⟩:ByteArray)=true:=by kernel_rfl
  rw[hr];go_in;go_wp2;go_ret;exact⟨rfl,Below.refl _ _⟩
 by_cases h9:s=(⟨#[108,101,116]⟩:ByteArray)
 ·subst h9;have hr:zar (⟨#[108,101,116]⟩:ByteArray)=true:=by kernel_rfl
  rw[hr];go_in;go_wp2;go_ret;exact⟨rfl,Below.refl _ _⟩
 by_cases h10:s=(⟨#[105,110]⟩:ByteArray)
 ·subst h10;have hr:zar (⟨#[105,110]⟩:ByteArray)=true:=by kernel_rfl
  rw[hr];go_in;go_wp2;go_ret;exact⟨rfl,Below.refl _ _⟩
 by_cases h11:s=(⟨#[105,102]⟩:ByteArray)
 ·subst h11;have hr:zar (⟨#[105,102]⟩:ByteArray)=true:=by kernel_rfl
  rw[hr];go_in;go_wp2;go_ret;exact⟨rfl,Below.refl _ _⟩
 by_cases h12:s=(⟨#[116,104,101,110]⟩:ByteArray)
 ·subst h12;have hr:zar (⟨#[116,104,101,110]⟩:ByteArray)=true:=by kernel_rfl
  rw[hr];go_in;go_wp2;go_ret;exact⟨rfl,Below.refl _ _⟩
 by_cases h13:s=(⟨#[101,108,115,101]⟩:ByteArray)
 ·subst h13;have hr:zar (⟨#[101,108,115,101]⟩:ByteArray)=true:=by kernel_rfl
  rw[hr];go_in;go_wp2;go_ret;exact⟨rfl,Below.refl _ _⟩
 by_cases h14:s=(⟨#[109,97,116,99,104]⟩:ByteArray)
 ·subst h14;have hr:zar (⟨#[109,97,116,99,104]⟩:ByteArray)=true:=by kernel_rfl
  rw[hr];go_in;go_wp2;go_ret;exact⟨rfl,Below.refl _ _⟩
 by_cases h15:s=(⟨#[119,105,116,104]⟩:ByteArray)
 ·subst h15;have hr:zar (⟨#[119,105,116,104]⟩:ByteArray)=true:=by kernel_rfl
  rw[hr];go_in;go_wp2;go_ret;exact⟨rfl,Below.refl _ _⟩
 by_cases h16:s=(⟨#[97,110,100]⟩:ByteArray)
 ·subst h16;have hr:zar (⟨#[97,110,100]⟩:ByteArray)=true:=by kernel_rfl
  rw[hr];go_in;go_wp2;go_ret;exact⟨rfl,Below.refl _ _⟩
 by_cases h17:s=(⟨#[111,114]⟩:ByteArray)
 ·subst h17;have hr:zar (⟨#[111,114]⟩:ByteArray)=true:=by kernel_rfl
  rw[hr];go_in;go_wp2;go_ret;exact⟨rfl,Below.refl _ _⟩
 by_cases h18:s=(⟨#[110,111,116]⟩:ByteArray)
 ·subst h18;have hr:zar (⟨#[110,111,116]⟩:ByteArray)=true:=by kernel_rfl
  rw[hr];go_in;go_wp2;go_ret;exact⟨rfl,Below.refl _ _⟩
 by_cases h19:s=(⟨#[116,114,117,101]⟩:ByteArray)
 ·subst h19;have hr:zar (⟨#[116,114,117,101]⟩:ByteArray)=true:=by kernel_rfl
  rw[hr];go_in;go_wp2;go_ret;exact⟨rfl,Below.refl _ _⟩
 by_cases h20:s=(⟨#[102,97,108,115,101]⟩:ByteArray)
 ·subst h20;have hr:zar (⟨#[102,97,108,115,101]⟩:ByteArray)=true:=by kernel_rfl
  rw[hr];go_in;go_wp2;go_ret;exact⟨rfl,Below.refl _ _⟩
 by_cases h21:s=(⟨#[115,101,108,102]⟩:ByteArray)
 ·subst h21;have hr:zar (⟨#[115,101,108,102]⟩:ByteArray)=true:=by kernel_rfl
  rw[hr];go_in;go_wp2;go_ret;exact⟨rfl,Below.refl _ _⟩
 by_cases h22:s=(⟨#[102,111,114]⟩:ByteArray)
 ·subst h22;have hr:zar (⟨#[102,111,114]⟩:ByteArray)=true:=by kernel_rfl
  rw[hr];go_in;go_wp2;go_ret;exact⟨rfl,Below.refl _ _⟩
 by_cases h23:s=(⟨#[115,101,110,100]⟩:ByteArray)
 ·subst h23;have hr:zar (⟨#[115,101,110,100]⟩:ByteArray)=true:=by kernel_rfl
  rw[hr];go_in;go_wp2;go_ret;exact⟨rfl,Below.refl _ _⟩
 by_cases h24:s=(⟨#[97,102,116,101,114]⟩:ByteArray)
 ·subst h24;have hr:zar (⟨#[97,102,116,101,114]⟩:ByteArray)=true:=by kernel_rfl
  rw[hr];go_in;go_wp2;go_ret;exact⟨rfl,Below.refl _ _⟩
 by_cases h25:s=(⟨#[115,112,97,119,110]⟩:ByteArray)
 ·subst h25;have hr:zar (⟨#[115,112,97,119,110]⟩:ByteArray)=true:=by kernel_rfl
  rw[hr];go_in;go_wp2;go_ret;exact⟨rfl,Below.refl _ _⟩
 by_cases h26:s=(⟨#[100,111]⟩:ByteArray)
 ·subst h26;have hr:zar (⟨#[100,111]⟩:ByteArray)=true:=by kernel_rfl
  rw[hr];go_in;go_wp2;go_ret;exact⟨rfl,Below.refl _ _⟩
 by_cases h27:s=(⟨#[115,116,111,112]⟩:ByteArray)
 ·subst h27;have hr:zar (⟨#[115,116,111,112]⟩:ByteArray)=true:=by kernel_rfl
  rw[hr];go_in;go_wp2;go_ret;exact⟨rfl,Below.refl _ _⟩
 by_cases h28:s=(⟨#[102,97,105,108]⟩:ByteArray)
 ·subst h28;have hr:zar (⟨#[102,97,105,108]⟩:ByteArray)=true:=by kernel_rfl
  rw[hr];go_in;go_wp2;go_ret;exact⟨rfl,Below.refl _ _⟩
 by_cases h29:s=(⟨#[114,101,102]⟩:ByteArray)
 ·subst h29;have hr:zar (⟨#[114,101,102]⟩:ByteArray)=true:=by kernel_rfl
  rw[hr];go_in;go_wp2;go_ret;exact⟨rfl,Below.refl _ _⟩
 by_cases h30:s=(⟨#[105,110,116]⟩:ByteArray)
 ·subst h30;have hr:zar (⟨#[105,110,116]⟩:ByteArray)=true:=by kernel_rfl
  rw[hr];go_in;go_wp2;go_ret;exact⟨rfl,Below.refl _ _⟩
 by_cases h31:s=(⟨#[98,111,111,108]⟩:ByteArray)
 ·subst h31;have hr:zar (⟨#[98,111,111,108]⟩:ByteArray)=true:=by kernel_rfl
  rw[hr];go_in;go_wp2;go_ret;exact⟨rfl,Below.refl _ _⟩
 by_cases h32:s=(⟨#[116,101,120,116]⟩:ByteArray)
 ·subst h32;have hr:zar (⟨#[116,101,120,116]⟩:ByteArray)=true:=by kernel_rfl
  rw[hr];go_in;go_wp2;go_ret;exact⟨rfl,Below.refl _ _⟩
 by_cases h33:s=(⟨#[117,110,105,116]⟩:ByteArray)
 ·subst h33;have hr:zar (⟨#[117,110,105,116]⟩:ByteArray)=true:=by kernel_rfl
  rw[hr];go_in;go_wp2;go_ret;exact⟨rfl,Below.refl _ _⟩
 have hr:zar s=false:=by
  unfold zar zkv;simp only[List.any_cons,List.any_nil,Bool.or_false,Bool.or_eq_false_iff,decide_eq_false_iff_not];exact⟨λe=>h0 e.symm,λe=>h1 e.symm,λe=>h2 e.symm,λe=>h3 e.symm,λe=>h4 e.symm,λe=>h5 e.symm,λe=>h6 e.symm,λe=>h7 e.symm,λe=>h8 e.symm,λe=>h9 e.symm,λe=>h10 e.symm,λe=>h11 e.symm,λe=>h12 e.symm,λe=>h13 e.symm,λe=>h14 e.symm,λe=>h15 e.symm,λe=>h16 e.symm,λe=>h17 e.symm,λe=>h18 e.symm,λe=>h19 e.symm,λe=>h20 e.symm,λe=>h21 e.symm,λe=>h22 e.symm,λe=>h23 e.symm,λe=>h24 e.symm,λe=>h25 e.symm,λe=>h26 e.symm,λe=>h27 e.symm,λe=>h28 e.symm,λe=>h29 e.symm,λe=>h30 e.symm,λe=>h31 e.symm,λe=>h32 e.symm,λe=>h33 e.symm⟩
 have e0:(s.toList == [114,101,99,111,114,100])=false:=zam h0;have e1:(s.toList == [118,97,114,105,97,110,116])=false:=zam h1;have e2:(s.toList == [101,102,102,101,99,116])=false:=zam h2;have e3:(s.toList == [102,117,110])=false:=zam h3;have e4:(s.toList == [97,99,116,111,114])=false:=zam h4;have e5:(s.toList == [114,101,115,116,97,114,116])=false:=zam h5;have e6:(s.toList == [101,115,99,97,108,97,116,101])=false:=zam h6;have e7:(s.toList == [115,116,97,116,101])=false:=zam h7;have e8:(s.toList == [111,110])=false:=zam h8;have e9:(s.toList == [108,101,116])=false:=zam h9;have e10:(s.toList == [105,110])=false:=zam h10;have e11:(s.toList == [105,102])=false:=zam h11;have e12:(s.toList == [116,104,101,110])=false:=zam h12;have e13:(s.toList == [101,108,115,101])=false:=zam h13;have e14:(s.toList == [109,97,116,99,104])=false:=zam h14;have e15:(s.toList == [119,105,116,104])=false:=zam h15;have e16:(s.toList == [97,110,100])=false:=zam h16;have e17:(s.toList == [111,114])=false:=zam h17;have e18:(s.toList == [110,111,116])=false:=zam h18;have e19:(s.toList == [116,114,117,101])=false:=zam h19;have e20:(s.toList == [102,97,108,115,101])=false:=zam h20;have e21:(s.toList == [115,101,108,102])=false:=zam h21;have e22:(s.toList == [102,111,114])=false:=zam h22;have e23:(s.toList == [115,101,110,100])=false:=zam h23;have e24:(s.toList == [97,102,116,101,114])=false:=zam h24;have e25:(s.toList == [115,112,97,119,110])=false:=zam h25;have e26:(s.toList == [100,111])=false:=zam h26;have e27:(s.toList == [115,116,111,112])=false:=zam h27;have e28:(s.toList == [102,97,105,108])=false:=zam h28;have e29:(s.toList == [114,101,102])=false:=zam h29;have e30:(s.toList == [105,110,116])=false:=zam h30;have e31:(s.toList == [98,111,111,108])=false:=zam h31;have e32:(s.toList == [116,101,120,116])=false:=zam h32;have e33:(s.toList == [117,110,105,116])=false:=zam h33;rw[hr];clear hr h0 h1 h2 h3 h4 h5 h6 h7 h8 h9 h10 h11 h12 h13 h14 h15 h16 h17 h18 h19 h20 h21 h22 h23 h24 h25 h26 h27 h28 h29 h30 h31 h32 h33;go_in;go_wp2;go_ret;exact⟨rfl,Below.refl _ _⟩
theorem zph (lo hi:UInt8) (s:ByteArray) (w:World) (hs:s.size<=32768):Calls Tryz.prog 228 #[↑s,.int .u8 (lo.toNat:Int),.int .u8 (hi.toNat:Int)] w λe w'=>e=.returned (.bool (isW lo hi s))/\Below w.heap.size w w':=by
 rw[<-zgk];exact(zod _ _ s w zo).mono λe w' ⟨h1,h2⟩=>⟨h1,by subst h2;exact Below.refl _ _⟩
theorem zek (s:ByteArray) (w:World) (hs:s.size<=32768):Calls Tryz.prog 171 #[↑s] w λe w'=>e=.returned (.bool (zaw s))/\Below w.heap.size w w':=by
 have HK:=zz (show Calls Tryz.prog 228 #[↑s,.int .u8 65,.int .u8 90] w _ from zph 65 90 s w hs);unfold zaw;generalize isW 65 90 s=g at *
 go_in;go_wp2_with fail;refine zi HK ?_;rintro e w1 ⟨rfl,hb⟩;have HB:=zz hb;clear hb;go_wp2;go_ret;exact⟨rfl,HB.out⟩
theorem zcN (s:ByteArray) (w:World) (hs:s.size<=32768):Calls Tryz.prog 175 #[↑s] w λe w'=>e=.returned (.bool (zaH s))/\Below w.heap.size w w':=by
 have HK:=zz (show Calls Tryz.prog 228 #[↑s,.int .u8 97,.int .u8 122] w _ from zph 97 122 s w hs);have HR:=zz (λW=>ziG s W);unfold zaH;generalize isW 97 122 s=g at *
 generalize zar s=r at *
 cases g with
 |false=>
  go_in;go_wp2_with fail;refine zi HK ?_;rintro e w1 ⟨rfl,hb⟩;have HB:=zz hb;clear hb;go_wp2;go_ret;exact⟨rfl,HB.out⟩
 |true=>
  go_in;go_wp2_with fail;refine zi HK ?_;rintro e w1 ⟨rfl,hb⟩;have HB:=zz hb;clear hb;go_wp2_with fail;(with_reducible refine(HR.out _).mono ?_);rintro e w2 ⟨rfl,hb⟩;have HB2:=zz (HB.out.trans (hb.mono HB.out.size));clear hb;go_wp2;go_ret;exact⟨by cases r<;>rfl,HB2.out⟩
theorem zmr (s:ByteArray) (w:World):Calls Tryz.prog 248 #[↑s] w λe w'=>e=.returned (.bool (zfE s))/\Below w.heap.size w w':=by
 by_cases h0:s=(⟨#[105,110,116]⟩:ByteArray)
 ·subst h0;have hr:zfE (⟨#[105,110,116]⟩:ByteArray)=true:=by kernel_rfl
  rw[hr];go_in;go_wp2;go_ret;exact⟨rfl,Below.refl _ _⟩
 by_cases h1:s=(⟨#[98,111,111,108]⟩:ByteArray)
 ·subst h1;have hr:zfE (⟨#[98,111,111,108]⟩:ByteArray)=true:=by kernel_rfl
  rw[hr];go_in;go_wp2;go_ret;exact⟨rfl,Below.refl _ _⟩
 by_cases h2:s=(⟨#[116,101,120,116]⟩:ByteArray)
 ·subst h2;have hr:zfE (⟨#[116,101,120,116]⟩:ByteArray)=true:=by kernel_rfl
  rw[hr];go_in;go_wp2;go_ret;exact⟨rfl,Below.refl _ _⟩
 by_cases h3:s=(⟨#[117,110,105,116]⟩:ByteArray)
 ·subst h3;have hr:zfE (⟨#[117,110,105,116]⟩:ByteArray)=true:=by kernel_rfl
  rw[hr];go_in;go_wp2;go_ret;exact⟨rfl,Below.refl _ _⟩
 have hr:zfE s=false:=by
  unfold zfE;simp[h0,h1,h2,h3]
 have e0:(s.toList == [105,110,116])=false:=zam h0;have e1:(s.toList == [98,111,111,108])=false:=zam h1;have e2:(s.toList == [116,101,120,116])=false:=zam h2;have e3:(s.toList == [117,110,105,116])=false:=zam h3;rw[hr];clear hr h0 h1 h2 h3;go_in;go_wp2;go_ret;exact⟨rfl,Below.refl _ _⟩
theorem zfz (s:ByteArray) (w:World) (hs:s.size<=32768):Calls Tryz.prog 231 #[↑s] w λe w'=>e=.returned (.bool (zdr s))/\Below w.heap.size w w':=by
 have HK:=zz (λW=>zek s W hs);have HB0:=zz (zmr s w);unfold zdr;generalize zaw s=g at *
 generalize zfE s=r at *
 cases r with
 |true=>
  go_in;go_wp2_with fail;refine zi HB0 ?_;rintro e w1 ⟨rfl,hb⟩;have HB:=zz hb;clear hb;go_wp2;go_ret;exact⟨rfl,HB.out⟩
 |false=>
  go_in;go_wp2_with fail;refine zi HB0 ?_;rintro e w1 ⟨rfl,hb⟩;have HB:=zz hb;clear hb;go_wp2_with fail;(with_reducible refine(HK.out _).mono ?_);rintro e w2 ⟨rfl,hb⟩;have HB2:=zz (HB.out.trans (hb.mono HB.out.size));clear hb;go_wp2;go_ret;exact⟨by cases g<;>rfl,HB2.out⟩
end Go.Proofs.YtcebmphappfjjaaGreatDoor
