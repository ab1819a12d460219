/- Conditions: those in each statement. -/
import Derived.Test.YtjdpocmlimkjjaaGreatQ00
import Derived.Test.YtjdpocmlimkjjaaGreatQ01
import Derived.Deep.RegionWith
import Derived.Laws.Strings
import Derived.Deep.AppendLies
import Derived.MapKept
import Derived.Carry
set_option maxHeartbeats 32000000
set_option maxRecDepth 100000
namespace Go.Proofs.YtjdpocmlimkjjaaGreat
open Go.RowKit
def zgd (X:Int):Bool:=decide (97≤X∧X≤122∨65≤X∧X≤90∨48≤X∧X≤57∨X=95)
def zcT (lo hi:Int) (s:ByteArray):Bool:=decide (0<s.size∧lo≤zan s 0∧zan s 0≤hi∧∀i,i<s.size→zgd (zan s i)=true)
theorem znW (lo hi:Int) (s:ByteArray) (w:World) (hs:s.size≤2097152):Calls Tryz.prog 124 #[.string s,.int .u8 lo,.int .u8 hi] w λe w'=>e=.returned (.bool (zcT lo hi s))∧w=w':=by
 rcases Nat.eq_zero_or_pos s.size with h0|h0
 ·have HE:Hid (zcT lo hi s=false):=zz (by unfold zcT;simp;omega);have he:s.toList=[]:=by rw[ByteArray.toList_eq];exact List.eq_nil_of_length_eq_zero (by rw[zaz];exact h0)
  go_enter Tryz.func124,Tryz.ntmps124;go_wp2_with fail;go_ret;exact⟨by rw[HE.out];rfl,rfl⟩
 ·have hne:¬s.toList=[]:=λh=>by
   rw[ByteArray.toList_eq] at h;have:=zaz s;rw[h] at this;simp at this;omega
  have hemp:s.toList.isEmpty=false:=by simpa using hne
  have hi0:(Instr.index 9 (.string s) (.int .i64 0)).run Tryz.prog w=.ok (.int .u8 (zan s 0)) w:=by simpa using zbL s 0 h0 w
  have hr0:=zck s 0;have HI:=zz (zbL s);have HT:Hid (zcT lo hi s=decide (0<s.size∧lo≤zan s 0∧zan s 0≤hi∧∀i,i<s.size→zgd (zan s i)=true)):=zz rfl;obtain⟨X0,hX0⟩:∃X,zan s 0=X:=⟨_,rfl⟩;rw[hX0] at hi0 hr0 HT;clear hX0;generalize zcT lo hi s=R at *
  by_cases hu:lo≤X0∧X0≤hi
  ·obtain⟨hu1,hu2⟩:=hu;have hu3:¬X0<lo:=by omega
   have hu4:¬hi<X0:=by omega
   go_enter Tryz.func124,Tryz.ntmps124;go_wp2_with fail
   go_loopw [25] (λs19 wr=>∃(i:Nat),i≤s.size∧s19=.int .i64 i∧Hid (∀j,j<i→zgd (zan s j)=true)∧wr=w) (λs19 _=>s.size-(intOf s19).toNat)
   case atStart=>exact⟨0,by omega,rfl,zz (λj hj=>absurd hj (by omega)),rfl⟩
   case round=>
    obtain⟨i,hi,rfl,HN,rfl⟩:=hrel
    by_cases hlt:i<s.size
    ·have hix:=HI.out i hlt wr;have hr:=zck s i
     have HS:Hid (zgd (zan s i)=true→∀j,j<i+1→zgd (zan s j)=true):=zz (λh j hj=>by
      rcases Nat.lt_or_eq_of_le (Nat.lt_succ_iff.1 hj) with h2|h2
      ·exact HN.out j h2
      ·subst h2;exact h)
     have HF:Hid (zgd (zan s i)=false→R=false):=zz (λh=>by
      rw[HT.out];rw[decide_eq_false];rintro⟨_,_,_,h2⟩;rw[h2 i hlt] at h;cases h)
     obtain⟨X,hX⟩:∃X,zan s i=X:=⟨_,rfl⟩;rw[hX] at hix hr HS HF;have HC:Hid (zgd X=decide (97≤X∧X≤122∨65≤X∧X≤90∨48≤X∧X≤57∨X=95)):=zz rfl;clear hX HN hi0;rcases (show X<48∨(48≤X∧X≤57)∨(58≤X∧X≤64)∨(65≤X∧X≤90)∨(91≤X∧X≤94)∨(95≤X∧X≤95)∨(96≤X∧X≤96)∨(97≤X∧X≤122)∨122<X by omega) with h|⟨h,h'⟩|⟨h,h'⟩|⟨h,h'⟩|⟨h,h'⟩|⟨h,h'⟩|⟨h,h'⟩|⟨h,h'⟩|h
     ·have k97:¬97≤X:=by omega
      have k122:X≤122:=by omega
      have k65:¬65≤X:=by omega
      have k90:X≤90:=by omega
      have k48:¬48≤X:=by omega
      have k57:X≤57:=by omega
      have h95:(X == 95)=false:=by simp;omega
      have HY:=zz (HF.out (by rw[HC.out];exact decide_eq_false (by omega)));clear HS HF HC;go_wp2_with fail
      all_goals first
       |(exfalso;omega)
       |(go_ret;exact⟨by rw[HY.out];rfl,rfl⟩)
     ·have k97:¬97≤X:=by omega
      have k122:X≤122:=by omega
      have k65:¬65≤X:=by omega
      have k90:X≤90:=by omega
      have k48:48≤X:=by omega
      have k57:X≤57:=by omega
      have h95:(X == 95)=false:=by simp;omega
      have HY:=zz (HS.out (by rw[HC.out];exact decide_eq_true (by omega)));clear HS HF HC;go_wp2_with fail
      all_goals first
       |(exfalso;omega)
       |exact⟨⟨i+1,by omega,by go_num,HY,trivial⟩,by simp[intOf];omega⟩
     ·have k97:¬97≤X:=by omega
      have k122:X≤122:=by omega
      have k65:¬65≤X:=by omega
      have k90:X≤90:=by omega
      have k48:48≤X:=by omega
      have k57:¬X≤57:=by omega
      have h95:(X == 95)=false:=by simp;omega
      have HY:=zz (HF.out (by rw[HC.out];exact decide_eq_false (by omega)));clear HS HF HC;go_wp2_with fail
      all_goals first
       |(exfalso;omega)
       |(go_ret;exact⟨by rw[HY.out];rfl,rfl⟩)
     ·have k97:¬97≤X:=by omega
      have k122:X≤122:=by omega
      have k65:65≤X:=by omega
      have k90:X≤90:=by omega
      have k48:48≤X:=by omega
      have k57:¬X≤57:=by omega
      have h95:(X == 95)=false:=by simp;omega
      have HY:=zz (HS.out (by rw[HC.out];exact decide_eq_true (by omega)));clear HS HF HC;go_wp2_with fail
      all_goals first
       |(exfalso;omega)
       |exact⟨⟨i+1,by omega,by go_num,HY,trivial⟩,by simp[intOf];omega⟩
     ·have k97:¬97≤X:=by omega
      have k122:X≤122:=by omega
      have k65:65≤X:=by omega
      have k90:¬X≤90:=by omega
      have k48:48≤X:=by omega
      have k57:¬X≤57:=by omega
      have h95:(X == 95)=false:=by simp;omega
      have HY:=zz (HF.out (by rw[HC.out];exact decide_eq_false (by omega)));clear HS HF HC;go_wp2_with fail
      all_goals first
       |(exfalso;omega)
       |(go_ret;exact⟨by rw[HY.out];rfl,rfl⟩)
     ·have k97:¬97≤X:=by omega
      have k122:X≤122:=by omega
      have k65:65≤X:=by omega
      have k90:¬X≤90:=by omega
      have k48:48≤X:=by omega
      have k57:¬X≤57:=by omega
      have h95:(X == 95)=true:=by simp;omega
      have HY:=zz (HS.out (by rw[HC.out];exact decide_eq_true (by omega)));clear HS HF HC;go_wp2_with fail
      all_goals first
       |(exfalso;omega)
       |exact⟨⟨i+1,by omega,by go_num,HY,trivial⟩,by simp[intOf];omega⟩
     ·have k97:¬97≤X:=by omega
      have k122:X≤122:=by omega
      have k65:65≤X:=by omega
      have k90:¬X≤90:=by omega
      have k48:48≤X:=by omega
      have k57:¬X≤57:=by omega
      have h95:(X == 95)=false:=by simp;omega
      have HY:=zz (HF.out (by rw[HC.out];exact decide_eq_false (by omega)));clear HS HF HC;go_wp2_with fail
      all_goals first
       |(exfalso;omega)
       |(go_ret;exact⟨by rw[HY.out];rfl,rfl⟩)
     ·have k97:97≤X:=by omega
      have k122:X≤122:=by omega
      have k65:65≤X:=by omega
      have k90:¬X≤90:=by omega
      have k48:48≤X:=by omega
      have k57:¬X≤57:=by omega
      have h95:(X == 95)=false:=by simp;omega
      have HY:=zz (HS.out (by rw[HC.out];exact decide_eq_true (by omega)));clear HS HF HC;go_wp2_with fail
      all_goals first
       |(exfalso;omega)
       |exact⟨⟨i+1,by omega,by go_num,HY,trivial⟩,by simp[intOf];omega⟩
     ·have k97:97≤X:=by omega
      have k122:¬X≤122:=by omega
      have k65:65≤X:=by omega
      have k90:¬X≤90:=by omega
      have k48:48≤X:=by omega
      have k57:¬X≤57:=by omega
      have h95:(X == 95)=false:=by simp;omega
      have HY:=zz (HF.out (by rw[HC.out];exact decide_eq_false (by omega)));clear HS HF HC;go_wp2_with fail
      all_goals first
       |(exfalso;omega)
       |(go_ret;exact⟨by rw[HY.out];rfl,rfl⟩)
    ·obtain rfl:i=s.size:=by omega
     have HY:Hid (R=true):=zz (by rw[HT.out];exact decide_eq_true ⟨h0,hu1,hu2,HN.out⟩);clear hi0;go_wp2_with fail;go_ret;exact⟨by rw[HY.out];rfl,rfl⟩
  ·have HE:Hid (R=false):=zz (by rw[HT.out];simp;intro _ h1 h2;exact absurd ⟨h1,h2⟩ hu);rcases (show X0<lo∨hi<X0 by omega) with hx|hx
   all_goals
    clear hu;go_enter Tryz.func124,Tryz.ntmps124;go_wp2_with fail
    all_goals (go_ret;exact⟨by rw[HE.out];rfl,rfl⟩)
theorem zmG (c:UInt8):zgd (c.toNat:Int)=wc c:=by
 unfold zgd wc;have h:=c.toNat_lt;rw[Bool.eq_iff_iff];simp only[decide_eq_true_eq,Bool.or_eq_true,Bool.and_eq_true,beq_iff_eq,UInt8.le_iff_toNat_le,←UInt8.toNat_inj];simp only[UInt8.reduceToNat];omega
theorem zgU (lo hi:UInt8) (s:ByteArray):zcT (lo.toNat:Int) (hi.toNat:Int) s=isW lo hi s:=by
 unfold zcT isW;have hsz:s.data.toList.length=s.size:=by simp
 have hb:∀i,zan s i=((s.data.toList.getD i 0).toNat:Int):=λ_=>rfl;simp only[hb,←hsz];clear hb hsz;cases hl:s.data.toList with
 |nil=>simp
 |cons c r=>
  rw[Bool.eq_iff_iff];simp only[decide_eq_true_eq,Bool.and_eq_true,List.all_eq_true,UInt8.le_iff_toNat_le]
  constructor
  ·rintro⟨_,h1,h2,h3⟩;refine⟨⟨?_,?_⟩,λx hx=>?_⟩
   ·simpa using h1
   ·simpa using h2
   ·obtain⟨i,hi,e⟩:=List.mem_iff_getElem.1 hx;have:=h3 i hi;rw[zmG,List.getD_eq_getElem?_getD,List.getElem?_eq_getElem hi,Option.getD_some,e] at this;exact this
  ·rintro⟨⟨h1,h2⟩,h3⟩;refine⟨by simp,by simpa using h1,by simpa using h2,λi hi=>?_⟩;rw[zmG,List.getD_eq_getElem?_getD,List.getElem?_eq_getElem hi,Option.getD_some];exact h3 _ (List.getElem_mem hi)
def zac (w:World) (g:Nat) (cs:Array Value) (e:TypeId):Prop:=w.heap[g]?=some (.cells cs e (0,0))
section
variable {w w':World} {g:Nat} {cs:Array Value} {e:TypeId} {M:Nat→Prop}
theorem zac.lt (h:zac w g cs e):g<w.heap.size:=(Array.getElem?_eq_some_iff.1 h).1
theorem zac.cell (h:zac w g cs e) (j:Nat):w.cell? ⟨g,j,none⟩=cs[j]?:=Lib.cell_of_heap h j
theorem zac.c5 {a0 a1 a2 a3 a4:Value} (h:zac w g #[a0,a1,a2,a3,a4] e):w.cell? ⟨g,0,none⟩=some a0∧w.cell? ⟨g,1,none⟩=some a1∧w.cell? ⟨g,2,none⟩=some a2∧w.cell? ⟨g,3,none⟩=some a3∧w.cell? ⟨g,4,none⟩=some a4:=⟨h.cell 0,h.cell 1,h.cell 2,h.cell 3,h.cell 4⟩
theorem zac.fz (h:zac w g cs e) (j:Nat):w.frozen? ⟨g,j,none⟩=false:=by simp[World.frozen?,show w.heap[g]?=_ from h]
theorem zac.set (h:zac w g cs e) (j:Nat) (u:Value):zac (w.setCell ⟨g,j,none⟩ u) g (cs.setIfInBounds j u) e:=by
 unfold zac at h ⊢;simp[World.setCell,Array.getElem?_modify,h]
theorem zac.keep (h:zac w g cs e) (hc:Chg M w w') (hm:¬M g):zac w' g cs e:=(hc.block g h.lt hm).trans h
theorem zac.new (w:World) (cs:Array Value) (e:TypeId):zac (w.alloc (.cells cs e)) w.heap.size cs e:=heap_alloc_new w _
theorem zaK.chg {B:Nat} {k n:Nat} {f:Nat→Nat→D} {v:Value} (h:zaK B e k n f w v) (hc:Chg M w w') (hm:∀j,M j→j<B):zaK B e k n f w' v:=by
 rcases h with h|⟨g,c,rfl,hB,hnc,hcm,⟨cur,hcur,hsz⟩,hr⟩
 ·exact .inl h
 ·have hg:g<w.heap.size:=(Array.getElem?_eq_some_iff.1 hcur).1;have keep:∀j,B≤j→j<w.heap.size→w'.heap[j]?=w.heap[j]?:=λj h1 h2=>hc.block j h2 (λhmj=>by have:=hm j hmj;omega);refine .inr ⟨g,c,rfl,hB,hnc,hcm,⟨cur,(keep g hB hg).trans hcur,hsz⟩,λa ha=>?_⟩;refine zde.weaken (ok:=λb=>Bt B w.heap.size b∧b≠g) (λb hb'=>⟨⟨hb'.1.1,Nat.lt_of_lt_of_le hb'.1.2 hc.size⟩,hb'.2⟩) ?_;exact(hr a ha).keep (λb o hb'=>World.cell?_of_block (a:=⟨b,o,none⟩) (keep b hb'.1.1 hb'.1.2)) (λj _=>World.cell?_of_block (a:=⟨g,_,none⟩) (keep g hB hg))
end
theorem zah {P:Program} {fn:Func} {p q:Tmp} {ty:TypeId} (h:fn.results=#[.cell p ty,.tmp q]) (tmps:Array Value) (w:World) (g:Nat) (t:TypeId) (cs:Array Value) (fr:Nat × Nat) (d:TypeDesc)
 (hp:tmps.getD p undef=.pointer (some ⟨g,0,none⟩)) (hg:w.heap[g]?=some (.cells cs t fr))
 (hu:P.underlying ty=some d) (hd:(match d with|.struct _|.array _ _=>true|_=>false)=true) (hi:(P.info? ty).map (·.size)=some cs.size) :
 (results fn tmps).run P w=.ok (.tuple #[.agg cs,tmps.getD q undef]) w:=by
 have hp':tmps[p]?.getD undef=.pointer (some ⟨g,0,none⟩):=by simpa using hp
 simp[results,h,hp',asAddr,run_loadVar_row w g t ty cs fr d hg hu hd hi]
theorem zaK.below_own {B:Nat} {e:TypeId} {k n:Nat} {f:Nat→Nat→D} {w:World} {v:Value} (h:zaK B e k n f w v):∀g,v.ownBlock=some g→B≤g∧g<w.heap.size:=by
 intro q hq;rcases h with ⟨rfl,_⟩|⟨g,c,rfl,hB,_,_,hbk,_⟩
 ·cases hq
 ·have:g=q:=Option.some.inj hq;subst this;exact⟨hB,hbk.lt⟩
def zap {α:Type} (row:α→Nat→D) (l:List α) (i:Nat):Nat→D:=match l[i]? with|some x=>row x|none=>λ_=>.bool false
theorem zax {α:Type} {row:α→Nat→D} {l:List α} {i:Nat} {x:α} (h:l[i]?=some x):zap row l i=row x:=by unfold zap;rw[h]
def slG {α:Type} (k:Nat) (row:α→Nat→D) (l:List α):D:=.sl k l.length (zap row l)
theorem zcG {α:Type} {k:Nat} {row:α→Nat→D} {ok:Nat→Prop} {w:World} {l:List α} {A:Option Addr} {n c:Nat} (h:Rd ok w (slG k row l) (.slice A n c)) {i:Nat} (hi:i<n) :
 ∃b off x,A=some ⟨b,off,none⟩∧ok b∧l[i]?=some x∧zde ok w b (off+i*k) k (row x):=by
 obtain⟨A0,c0,e,_,_,h3⟩:=h.sl_inv;injection e with e1 e2 e3;subst e1 e2;obtain⟨b,off,rfl,hb,hr⟩:=h3 (by omega);have hv:l[i]?=some l[i]:=List.getElem?_eq_getElem hi;have h1:=hr i hi;rw[zax hv] at h1;exact⟨b,off,l[i],rfl,hb,hv,h1⟩
theorem zci {α:Type} {k:Nat} {row:α→Nat→D} {ok:Nat→Prop} {w:World} {l:List α} {A:Option Addr} {n c:Nat} (h:Rd ok w (slG k row l) (.slice A n c)):n=l.length∧n≤c∧c≤9223372036854775807:=by
 obtain⟨A0,c0,e,h1,h2,_⟩:=h.sl_inv;injection e with e1 e2 e3;subst e1 e2 e3;exact⟨rfl,h1,h2⟩
theorem zbp {α:Type} (row:α→Nat→D) {T E:TypeId} {size bytes:Nat} {z:Value} (hinfo:(Tryz.prog.info? E).map (λi=>(i.zero,i.size,i.bytes))=some (some z,size,bytes)) (hund:Tryz.prog.underlying T=some (.slice E)) (hzs:z.cells.size=size) (hsz:0<size) (hbb:bytes≤8192)
 {w:World} {ops:Array Oper} {rest:List Oper} {o:Oper} {a:Act} {Q:Exit→Act→World→Prop} (hgd:o.guard=none) (s x:Operand)
 (ho:o.op=.call {callee:=.builtin .append,args:=#[s,x],argTypes:=#[T,T] })
 (B:Nat) (hB:B≤w.heap.size) (v:Value) (acc:List α) (hs:a.eval s=v) (hO:zaK B E size acc.length (zap row acc) w v)
 (ad:Addr) (c:Nat) (y:α) (cs:List Value) (hcl:cs.length=size) (hx:a.eval x=.slice (some ad) 1 c) (hcells:∀(j:Nat) (u:Value),cs[j]?=some u→w.cell? (ad.add j)=some u)
 (hrd:∀(j:Nat) (u:Value),cs[j]?=some u→Rd (λb=>Bt B w.heap.size b∧some b≠v.ownBlock) w (row y j) u) (hlen:acc.length≤2097152)
 (h:∀v' w',zaK B E size (acc++[y]).length (zap row (acc++[y])) w' v'→w.grownBy w' v.ownBlock→(∀q,v'.ownBlock=some q→v.ownBlock=some q∨q=w.heap.size)→wpList Tryz.prog ops Q rest (a.put o.dst v') w'):wpList Tryz.prog ops Q (o::rest) a w:=by
 obtain⟨i0,hi0,hz0,hz1,hz2⟩:=info_parts hinfo;obtain⟨xs,hown⟩:=hO.own;have hb:(acc.length+1)*bytes≤2097153*8192:=Nat.mul_le_mul (by omega) hbb;refine wpList_append_lies w hgd s x T ho B E i0 z size bytes hund hi0 hz0 hz1 hz2 hzs hsz v acc.length xs hs hown ad 1 c cs hx (by rw[hcl,Nat.one_mul]) hcells (λu hu=>?_) (by omega) (by unfold maxLen;omega) (by omega) hB w.heap.size rfl ?_
 ·obtain⟨j,hj⟩:=List.getElem?_of_mem hu;exact(hrd j u hj).oneCell
 intro g cap w' h2 h3 h4 _
 refine h _ w' ?_ h3 (λq hq=>by
  obtain rfl:g=q:=Option.some.inj hq;exact h4)
 have hl:(acc++[y]).length=acc.length+1:=by simp
 rw[hl];refine hO.append hown h2 h3 h4 hcl (λk hk=>?_) (λj u hj=>?_)
 ·have hx:acc[k]?=some acc[k]:=List.getElem?_eq_getElem hk;rw[zax hx,zax (l:=acc++[y]) (i:=k) (by rw[List.getElem?_append_left hk];exact hx)]
 ·rw[zax (l:=acc++[y]) (i:=acc.length) (x:=y) (by rw[List.getElem?_append_right (Nat.le_refl _)];simp)];exact hrd j u hj
end Go.Proofs.YtjdpocmlimkjjaaGreat
set_option maxHeartbeats 32000000
set_option maxRecDepth 100000
namespace Go.Proofs.YtjdpocmlimkjjaaGreat
open Go.RowKit Go.MapKept
def zbb (w:World) (m:Nat) (L:List (ByteArray × Value)):Prop:=
 ∃es clock,w.heap[m]?=some (.map es clock)∧es.toList.map (λe=>(e.key,e.val))=L.map (λp=>(Value.string p.1,p.2))
def fnd (k:ByteArray):List (ByteArray × Value)→Nat→Option (Nat × Value)
 |[],_=>none
 |p::r,i=>if k=p.1 then some (i,p.2) else fnd k r (i+1)
def mget (z:Value) (L:List (ByteArray × Value)) (k:ByteArray):Value:=match fnd k L 0 with|some p=>p.2|none=>z
def mput (L:List (ByteArray × Value)) (k:ByteArray) (v:Value):List (ByteArray × Value):=match fnd k L 0 with|some p=>L.set p.1 (k,v)|none=>L++[(k,v)]
theorem zdc (k:ByteArray):∀(es:List MapEntry) (L:List (ByteArray × Value)) (i:Nat),es.map (λe=>(e.key,e.val))=L.map (λp=>(Value.string p.1,p.2))→Instr.findNow .string (.string k) es i=some (fnd k L i)
 |[],L,i,h=>by
  cases L with
  |nil=>rfl
  |cons p r=>simp at h
 |e::es,L,i,h=>by
  cases L with
  |nil=>simp at h
  |cons p r=>
   simp only[List.map_cons,List.cons.injEq,Prod.mk.injEq] at h;obtain⟨⟨h1,h2⟩,h3⟩:=h;have ih:=zdc k es r (i+1) h3;rw[Instr.findNow,h1,fnd]
   by_cases hk:k=p.1
   ·have hb:(k == p.1)=true:=(bytes_beq _ _).2 hk;rw[if_pos hk];simp[Instr.sameNow,hb,h2]
   ·have hb:(k == p.1)=false:=by
     cases hq:(k == p.1) with
     |false=>rfl
     |true=>exact absurd ((bytes_beq _ _).1 hq) hk
    rw[if_neg hk];simp[Instr.sameNow,hb,ih]
theorem zoI {k:ByteArray}:∀{L:List (ByteArray × Value)} {i:Nat} {p:Nat × Value},fnd k L i=some p→i≤p.1∧L[p.1-i]?=some (k,p.2)
 |[],_,_,h=>by simp[fnd] at h
 |q::r,i,p,h=>by
  rw[fnd] at h
  by_cases hk:k=q.1
  ·rw[if_pos hk] at h;have:=Option.some.inj h;subst this hk;simp
  ·rw[if_neg hk] at h;obtain⟨h1,h2⟩:=zoI h;refine⟨by omega,?_⟩;rw[show p.1-i=(p.1-(i+1))+1 by omega]
   simpa using h2
theorem zbb.lt {w:World} {m:Nat} {L:List (ByteArray × Value)} (h:zbb w m L):m<w.heap.size:=by
 obtain⟨es,clock,h,_⟩:=h;exact(Array.getElem?_eq_some_iff.1 h).1
theorem zbb.keep {w w':World} {m:Nat} {L:List (ByteArray × Value)} (h:zbb w m L) (hk:w'.heap[m]?=w.heap[m]?):zbb w' m L:=by
 obtain⟨es,clock,h,h2⟩:=h;exact⟨es,clock,hk.trans h,h2⟩
theorem zbb.new (w:World):zbb (w.alloc (.map #[] 0)) w.heap.size []:=⟨#[],0,heap_alloc_new w _,rfl⟩
section
variable {P:Program} {T K E:TypeId} (hT:P.underlying T=some (.map K E)) (hK:P.underlying K=some .string)
include hT hK
theorem zfT {w:World} {m:Nat} {L:List (ByteArray × Value)} (h:zbb w m L) {z:Value} (hz:(zeroValue E).run P w=.ok z w) (k:ByteArray) :
 (Instr.lookup T (.map (some m)) (.string k) false).run P w=.ok (mget z L k) w:=by
 obtain⟨es,clock,hb,he⟩:=h;have hf:=zdc k es.toList L 0 he;have hfk:=run_findKey (P:=P) (w:=w) hK hf;have hck:∀b,(Instr.checkKey b 10000 K (.string k)).run P w=.ok () w:=λb=>run_checkKey (P:=P) (w:=w) hK (k:=.string k) trivial b 9999;unfold mget;cases hx:fnd k L 0 with
 |none=>
  rw[hx] at hfk;simp[Instr.lookup,run_underlying hT,MapKept.run_getObj_map hb,hck,hfk,hz]
 |some p=>
  rw[hx] at hfk;simp[Instr.lookup,run_underlying hT,MapKept.run_getObj_map hb,hck,hfk]
theorem zar {w:World} {m:Nat} {L:List (ByteArray × Value)} (h:zbb w m L) (k:ByteArray) (v:Value) :
 ∃w',(Instr.mapUpdate T (.map (some m)) (.string k) v).run P w=.ok () w'∧zbb w' m (mput L k v)∧w.grownBy w' (some m)∧w'.heap.size=w.heap.size:=by
 have hlt:=h.lt;obtain⟨es,clock,hb,he⟩:=h;have hf:=zdc k es.toList L 0 he;have hfk:=run_findKey (P:=P) (w:=w) hK hf;have hck:∀b,(Instr.checkKey b 10000 K (.string k)).run P w=.ok () w:=λb=>run_checkKey (P:=P) (w:=w) hK (k:=.string k) trivial b 9999
 have hgr:∀o:Obj,w.grownBy {w with heap:=w.heap.setIfInBounds m o} (some m):=λo=>
  ⟨rfl,rfl,rfl,by simp,λj _ hj=>(heap_set hb).2 j (λe=>hj (by rw[e]))⟩
 unfold mput;cases hx:fnd k L 0 with
 |none=>
  rw[hx] at hfk;refine⟨{w with heap:=w.heap.setIfInBounds m (.map (es.push ⟨.string k,v,clock⟩) (clock+1)) },?_,⟨_,_,(heap_set hb).1,?_⟩,hgr _,by simp⟩
  ·simp[Instr.mapUpdate,run_underlying hT,MapKept.run_getObj_map hb,hck,hfk,MapKept.run_setObj_map _ hb]
  ·simp[he]
 |some p=>
  rw[hx] at hfk;obtain⟨_,hp⟩:=zoI hx;rw[Nat.sub_zero] at hp;have hlen:es.toList.length=L.length:=by simpa using congrArg List.length he
  have hpl:p.1<L.length:=(List.getElem?_eq_some_iff.1 hp).1;have hpe:p.1<es.size:=by simpa [←hlen] using hpl
  have hke:es[p.1].key=.string k:=by
   have:=congrArg (λl=>l[p.1]?) he;simp only[List.getElem?_map,hp,Array.getElem?_toList,Array.getElem?_eq_getElem hpe,Option.map_some] at this;exact congrArg Prod.fst (Option.some.inj this)
  refine⟨{w with heap:=w.heap.setIfInBounds m (.map (es.modify p.1 λe=>{e with key:=.string k,val:=v}) clock) },?_,⟨_,_,(heap_set hb).1,?_⟩,hgr _,by simp⟩
  ·simp[Instr.mapUpdate,run_underlying hT,MapKept.run_getObj_map hb,hck,hfk,MapKept.run_setObj_map _ hb,Instr.keyThatStays,hpe,hke,Instr.sameBits,(bytes_beq k k).2 rfl]
  ·apply List.ext_getElem?;intro j;have:=congrArg (λl=>l[j]?) he;simp only[List.getElem?_map,Array.getElem?_toList] at this;simp only[List.getElem?_map,Array.getElem?_toList,Array.getElem?_modify,List.getElem?_set]
   by_cases hj:p.1=j
   ·subst hj;simp[hpl,hpe]
   ·simp[hj,this]
end
end Go.Proofs.YtjdpocmlimkjjaaGreat
set_option maxHeartbeats 32000000
set_option maxRecDepth 100000
namespace Go.Proofs.YtjdpocmlimkjjaaGreat
open Go.RowKit
namespace Nd
def kind:Nd→Int|.mk k _ _ _ _=>k
def text:Nd→ByteArray|.mk _ t _ _ _=>t
def n:Nd→Int|.mk _ _ n _ _=>n
def at':Nd→Int|.mk _ _ _ a _=>a
def kids:Nd→List Nd|.mk _ _ _ _ l=>l
end Nd
def fld5 (k:Int) (t:ByteArray) (n a:Int) (d:D):Nat→D
 |0=>.num .i64 k
 |1=>.str t
 |2=>.num .i64 n
 |3=>.num .i64 a
 |_=>d
mutual
def Nd.row:Nd→Nat→D
 |.mk k t n a l=>fld5 k t n a (.sl 5 l.length (znI l))
def znI:List Nd→Nat→Nat→D
 |[],_,_=>.bool false
 |v::r,i,j=>match i with
  |0=>v.row j
  |i+1=>znI r i j
end
def ns (l:List Nd):D:=.sl 5 l.length (znI l)
theorem zfB:∀(l:List Nd) (i:Nat) (v:Nd),l[i]?=some v→znI l i=v.row
 |[],i,v,h=>by simp at h
 |x::r,0,v,h=>by simp at h;subst h;funext j;rfl
 |x::r,i+1,v,h=>by
  have:=zfB r i v (by simpa using h)
  funext j
  show znI r i j=_
  rw[this]
theorem zgP {l:List Nd} {i:Nat} (h:i<l.length):znI l i=zap Nd.row l i:=by
 have hv:l[i]?=some l[i]:=List.getElem?_eq_getElem h;rw[zfB l i _ hv,zax hv]
section
variable {ok:Nat→Prop} {w:World}
theorem zif {l:List Nd} {v:Value} (h:Rd ok w (.sl 5 l.length (zap Nd.row l)) v):Rd ok w (ns l) v:=h.sl_congr (λi j hi _=>by rw[zgP hi])
def NdAt (ok:Nat→Prop) (w:World) (b o:Nat) (x:Nd) (A:Option Addr) (c:Nat):Prop:=
 w.cell? ⟨b,o,none⟩=some (.int .i64 x.kind)∧w.cell? ⟨b,o+1,none⟩=some (.string x.text)∧w.cell? ⟨b,o+2,none⟩=some (.int .i64 x.n)∧w.cell? ⟨b,o+3,none⟩=some (.int .i64 x.at')∧w.cell? ⟨b,o+4,none⟩=some (.slice A x.kids.length c)∧Rd ok w (ns x.kids) (.slice A x.kids.length c)
theorem zlP {b o:Nat} {x:Nd} (h:zde ok w b o 5 x.row):∃A c,NdAt ok w b o x A c:=by
 obtain⟨k,t,n,a,l⟩:=x;rw[Nd.row] at h;obtain⟨u0,c0,r0⟩:=h 0 (by omega);obtain⟨u1,c1,r1⟩:=h 1 (by omega);obtain⟨u2,c2,r2⟩:=h 2 (by omega);obtain⟨u3,c3,r3⟩:=h 3 (by omega);obtain⟨u4,c4,r4⟩:=h 4 (by omega);have e0:u0=.int .i64 k:=r0;have e1:u1=.string t:=r1;have e2:u2=.int .i64 n:=r2;have e3:u3=.int .i64 a:=r3;have r4':Rd ok w (ns l) u4:=r4;obtain⟨A,c,e4,_⟩:=r4'.sl_inv;subst e0 e1 e2 e3 e4;exact⟨A,c,c0,c1,c2,c3,c4,r4'⟩
theorem zbN {l:List Nd} {A:Option Addr} {n c:Nat} (h:Rd ok w (ns l) (.slice A n c)) {i:Nat} (hi:i<l.length) :
 ∃b off x,A=some ⟨b,off,none⟩∧ok b∧l[i]?=some x∧∃A' c',NdAt ok w b (off+i*5) x A' c':=by
 obtain⟨A0,c0,e,_,_,h3⟩:=h.sl_inv;injection e with e1 e2 e3;subst e1 e2;obtain⟨b,off,rfl,hb,hr⟩:=h3 (by omega);have hv:l[i]?=some l[i]:=List.getElem?_eq_getElem hi;have h1:=hr i hi;rw[zfB l i _ hv] at h1;exact⟨b,off,l[i],rfl,hb,hv,zlP h1⟩
theorem zaD {l:List Nd} {A:Option Addr} {n c:Nat} (h:Rd ok w (ns l) (.slice A n c)):n=l.length∧n≤c∧c≤9223372036854775807:=by
 obtain⟨A0,c0,e,h1,h2,_⟩:=h.sl_inv;injection e with e1 e2 e3;subst e1 e2 e3;exact⟨rfl,h1,h2⟩
theorem zbM {x:Nd} {A:Option Addr} {c:Nat} (h:Rd ok w (ns x.kids) (.slice A x.kids.length c)):∀j u,[Value.int .i64 x.kind,.string x.text,.int .i64 x.n,.int .i64 x.at',.slice A x.kids.length c][j]?=some u→Rd ok w (x.row j) u:=by
 obtain⟨k,t,n,a,l⟩:=x;intro j u hj;rw[Nd.row]
 match j with
 |0=>simp at hj;exact hj.symm
 |1=>simp at hj;exact hj.symm
 |2=>simp at hj;exact hj.symm
 |3=>simp at hj;exact hj.symm
 |4=>simp at hj;rw[←hj];exact h
 |j+5=>simp at hj
end
def rowT (t:Tok):Nat→D
 |0=>.num .i64 t.kind
 |1=>.str t.text
 |2=>.num .i64 t.n
 |_=>.num .i64 t.at'
def slT (T:List Tok):D:=slG 4 rowT T
end Go.Proofs.YtjdpocmlimkjjaaGreat
set_option maxHeartbeats 32000000
set_option maxRecDepth 100000
namespace Go.Proofs.YtjdpocmlimkjjaaGreat
def zbf (n:Nd):Bool:=decide (n.text=⟨#[]⟩)&&decide (n.n=0)
def zav (q:ByteArray→Bool) (n:Nd):Bool:=q n.text&&decide (n.n=0)
def zaA:List Nd→List (Nd→Bool)→Bool
 |[],[]=>true
 |n::l,g::fs=>g n&&zaA l fs
 |_,_=>false
def zcg (l:List Nd) (first:Nd→Bool) (fs:List (Nd→Bool)):Bool:=decide (fs.length≤l.length)&&(l.take (l.length-fs.length)).all first&&zaA (l.drop (l.length-fs.length)) fs
def zef (l:List Nd) (first rest:Nd→Bool):Bool:=match l with
 |[]=>false
 |n::r=>first n&&r.all rest
def zhH (f:Nat) (kind:Int) (q:ByteArray→Bool) (n:Nd):Bool:=decide (0<f)&&decide (n.kind=kind)&&zav q n&&n.kids.isEmpty
inductive ST where
 |type|field|expr|set|arm|block|stmt|sarm|send
def zbD (n:Nd):Bool:=
 if n.kind=20 then decide (n.text=⟨#[]⟩)&&decide (0≤n.n)&&decide (n.n≤9007199254740992)
 else if n.kind=21 then decide (n.n=0)&&decide (n.text.size≤4096)
 else if n.kind=22 then decide (n.text=⟨#[]⟩)&&(decide (n.n=0) || decide (n.n=1))
 else if n.kind=24 then zav zaH n
 else zbf n
def znB (f:Nat) (n:Nd) (last:Nd→Bool):Bool:=!(decide (n.text=(⟨#[95]⟩:ByteArray))&&decide (n.kids.length≠1))&&zav zdG n&&zcg n.kids (zhH f 40 zdM) [last]
section
variable (rec:ST→Nd→Bool) (f:Nat)
def zhG (n:Nd):Bool:=
 if n.kind=12 then zav zcw n&&n.kids.isEmpty
 else if n.kind=13 then zbf n&&zaA n.kids [rec .type]
 else if n.kind=14 then zav zaw n&&n.kids.isEmpty
 else if n.kind=15 then zbf n&&!n.kids.isEmpty&&n.kids.all (rec .type)
 else false
def zhX (n:Nd):Bool:=decide (n.kind=7)&&zav zaH n&&zaA n.kids [rec .type]
def zdz (n:Nd):Bool:=
 if n.kind=20∨n.kind=21∨n.kind=22∨n.kind=23∨n.kind=24∨n.kind=25 then n.kids.isEmpty&&zbD n
 else if n.kind=26 then zbf n&&n.kids.all (rec .expr)
 else if n.kind=27 then zav zaw n&&n.kids.all (rec .set)
 else if n.kind=29 then zav zaw n&&n.kids.all (rec .expr)
 else if n.kind=30 then zav zaH n&&zaA n.kids [rec .expr]
 else if n.kind=31 then zbf n&&decide (1<n.kids.length)&&zef n.kids (rec .expr) (rec .set)
 else if n.kind=32 then zbf n&&zef n.kids (rec .expr) (rec .expr)
 else if n.kind=33∨n.kind=34 then zbf n&&zaA n.kids [rec .expr]
 else if n.kind=35 then (zfg n.text).isSome&&decide (n.n=0)&&zaA n.kids [rec .expr,rec .expr]
 else if n.kind=36 then zbf n&&zaA n.kids [rec .expr,rec .expr,rec .expr]
 else if n.kind=37 then zav zaH n&&zaA n.kids [rec .expr,rec .expr]
 else if n.kind=38 then zbf n&&decide (1<n.kids.length)&&zef n.kids (rec .expr) (rec .arm)
 else if n.kind=41 then zbf n&&zcg n.kids (rec .field) [rec .type,rec .expr]
 else false
def setD (n:Nd):Bool:=decide (n.kind=28)&&zav zaH n&&zaA n.kids [rec .expr]
def armD (n:Nd):Bool:=decide (n.kind=39)&&znB f n (rec .expr)
def zgn (n:Nd):Bool:=decide (n.kind=11)&&zbf n&&n.kids.all (rec .stmt)
def zlS (n:Nd):Bool:=decide (n.kind=56)&&zav zaw n&&zef n.kids (rec .expr) (rec .expr)
def zgb (n:Nd):Bool:=
 if n.kind=50∨n.kind=51 then zav zaH n&&zaA n.kids [rec .expr]
 else if n.kind=52 then zbf n&&(zaA n.kids [rec .expr,rec .block] || zaA n.kids [rec .expr,rec .block,rec .block])
 else if n.kind=53 then zbf n&&decide (1<n.kids.length)&&zef n.kids (rec .expr) (rec .sarm)
 else if n.kind=55 then zav zaH n&&zaA n.kids [rec .expr,rec .block]
 else if n.kind=56 then zlS rec n
 else if n.kind=57 then zbf n&&zaA n.kids [rec .expr,rec .send]
 else if n.kind=58 then !(decide (n.n=1)&&decide (n.kids.length<2))&&zaw n.text&&(decide (n.n=0) || decide (n.n=1))&&zef n.kids (zhH f 40 zdM) (rec .expr)
 else if n.kind=59 then zav zaH n&&zcg n.kids (rec .expr) [zhH f 75 zaw]
 else if n.kind=60 then zbf n&&n.kids.isEmpty
 else if n.kind=61 then zbf n&&zaA n.kids [rec .expr]
 else false
def zoO (n:Nd):Bool:=decide (n.kind=54)&&znB f n (rec .block)
def zsh:ST→Nd→Bool
 |.type=>zhG rec
 |.field=>zhX rec
 |.expr=>zdz rec
 |.set=>setD rec
 |.arm=>armD rec f
 |.block=>zgn rec
 |.stmt=>zgb rec f
 |.sarm=>zoO rec f
 |.send=>zlS rec
end
def zad:Nat→ST→Nd→Bool
 |0=>λ_ _=>false
 |f+1=>zsh (zad f) f
def zhI (f:Nat) (n:Nd):Bool:=decide (0<f)&&decide (n.kind=8)&&zav zaw n&&n.kids.all (zad (f-1) .type)
def zcn (f:Nat) (n:Nd):Bool:=decide (0<f)&&(if n.kind=9 then zav zaH n&&zaA n.kids [zad (f-1) .type,zad (f-1) .expr]
 else decide (n.kind=10)&&zav zaw n&&zcg n.kids (zad (f-1) .field) [zad (f-1) .block])
def zbR (l:List Nd):Nat:=(l.takeWhile (λn=>decide (n.kind=7))).length
def zcN (n:Nd):Bool:=
 if n.kind=2 then zav zaw n&&n.kids.all (zad 39 .field)
 else if n.kind=3 then zav zaw n&&!n.kids.isEmpty&&n.kids.all (zhI 39)
 else if n.kind=4 then zav zaH n&&zcg n.kids (zad 39 .field) [zad 39 .type]
 else if n.kind=5 then zav zaH n&&zcg n.kids (zad 39 .field) [zad 39 .type,zad 39 .expr]
 else if n.kind=6 then zaw n.text&&decide (-1≤n.n)&&decide (n.n≤9007199254740993)&&(n.kids.take (zbR n.kids)).all (zad 39 .field)&&(n.kids.drop (zbR n.kids)).all (zcn 39)
 else false
def zqU (n:Nd):Bool:=decide (n.kind=75)&&zav zmq n&&n.kids.all (zad 38 .expr)
def zdf (n:Nd):Bool:=
 if n.kind=70 then
  zaw n.text&&(decide (n.n=0) || decide (n.n=1))&&
   (if n.n=1 then !n.kids.isEmpty&&(n.kids.take 1).all (zhH 39 24 zaw)&&zcg (n.kids.drop 1) (zad 39 .field) [zad 39 .expr]
   else zcg n.kids (zad 39 .field) [zad 39 .expr])
 else if n.kind=71 then zav zaw n&&(n.kids.take (zbR n.kids)).all (zad 39 .field)&&(n.kids.drop (zbR n.kids)).all (zad 39 .set)
 else if n.kind=72 then zav zaw n&&!n.kids.isEmpty&&(n.kids.take 1).all (zhH 39 24 zmq)&&zcg (n.kids.drop 1) (zad 39 .field) [zqU]
 else if n.kind=73 then zaw n.text&&decide (0≤n.n)&&decide (n.n≤9007199254740992)&&n.kids.isEmpty
 else if n.kind=74 then zav zaw n&&n.kids.isEmpty
 else false
def zfs (n:Nd):Bool:=decide (n.kind=1)&&zbf n&&n.kids.all (λk=>zcN k || zdf k)
end Go.Proofs.YtjdpocmlimkjjaaGreat
