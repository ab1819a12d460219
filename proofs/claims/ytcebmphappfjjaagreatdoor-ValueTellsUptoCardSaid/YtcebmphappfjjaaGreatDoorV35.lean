/- Conditions: those in each statement. -/
import Derived.Test.YtcebmphappfjjaaGreatDoorV34
import Derived.Test.YtcebmphappfjjaaGreatDoorV25
import GoSem.Op.String
import Derived.Test.YtcebmphappfjjaaGreatDoorV22
import Derived.Test.YtcebmphappfjjaaGreatDoorV30
import Derived.Test.YtcebmphappfjjaaGreatDoorV33
import Derived.Test.YtcebmphappfjjaaGreatDoorV26
import Derived.Shelf.Strings.Prefix
import Derived.Test.YtcebmphappfjjaaGreatDoorProg
import Derived.Test.YtcebmphappfjjaaGreatDoorV04
import Derived.Test.YtcebmphappfjjaaGreatDoorV31
import Derived.Test.YtcebmphappfjjaaGreatDoorV01
import Derived.Test.YtcebmphappfjjaaGreatDoorV06
import Derived.Test.YtcebmphappfjjaaGreatDoorV09
set_option maxHeartbeats 32000000
set_option maxRecDepth 100000
namespace Go.Proofs.YtcebmphappfjjaaGreatDoor
mutual
theorem zuy:∀v:V,fuV v+2<=5*zcf v
 |.mk k t n m s l=>by
  have:=zrf l;rw[fuV,zcf];omega
theorem zrf:∀l:List V,fuVs l<=5*zbl l+1
 |[]=>by rw[fuVs,zbl];omega
 |v::r=>by
  have h1:=zuy v;have h2:=zrf r;rw[fuVs,zbl];omega
end
def vZ:V:=.mk 0 ⟨#[]⟩ 0 0 ⟨#[]⟩ []
def zmt (s:List UInt8):Option (V × Nat × List UInt8):=valL intL 100000 16384 s
def zeR (s:ByteArray):V × Bool:=
 match zmt (bl s) with
 |some (v,_,[])=>if (zfN v&&(zoQ v).toList == s.toList)=true then (v,true) else (vZ,false)
 |_=>(vZ,false)
theorem zlL {s:ByteArray} {v:V} {q:Nat} (h:zmt (bl s)=some (v,q,[])):zeR s=if (zfN v&&(zoQ v).toList == s.toList)=true then (v,true) else (vZ,false):=by
 unfold zeR;rw[h]
theorem zhI {s:ByteArray} (h:∀v q,zmt (bl s)≠some (v,q,[])):zeR s=(vZ,false):=by
 unfold zeR
 split
 ·rename_i v q e;exact absurd e (h v q)
 ·rfl
theorem zwR {v:V} (h:zfN v=true):zeR (zoQ v)=(v,true):=by
 obtain⟨h1,h2⟩:=zrm h;have h3:=zuy v
 have e:zmt (bl (zoQ v))=some (v,16384-zcf v,[]):=by
  have h4:=zvu h1 100000 (16384-zcf v) zo;unfold zmt zoQ;rw[if_pos h];rw[show (16384-zcf v)+zcf v=16384 by omega] at h4
  simpa using h4
 rw[zlL e,h,if_pos zs]
theorem zzg {s:ByteArray} (h:(zeR s).2=true):zoQ (zeR s).1=s/\zfN (zeR s).1=true:=by
 unfold zeR at h ⊢
 split
 ·rename_i v q e;rw[e] at h;simp only at h
  split at h
  ·rename_i h1;rw[if_pos h1];simp only[Bool.and_eq_true,beq_iff_eq] at h1;exact⟨zbX h1.2,h1.1⟩
  ·cases h
 ·rename_i h1;cases h2:zmt (bl s) with
  |none=>rw[h2] at h;cases h
  |some p=>
   obtain⟨v,q,r⟩:=p;cases r with
   |nil=>exact absurd h2 (h1 v q)
   |cons c r=>rw[h2] at h;cases h
theorem zzl {s:ByteArray} (h:(zeR s).2=false):(zeR s).1=vZ:=by
 unfold zeR at h ⊢
 split
 ·rename_i v q e;rw[e] at h;simp only at h
  split at h
  ·cases h
  ·rename_i h1;rw[if_neg h1]
 ·rfl
end Go.Proofs.YtcebmphappfjjaaGreatDoor
set_option maxHeartbeats 32000000
set_option maxRecDepth 100000
namespace Go.Proofs.YtcebmphappfjjaaGreatDoor
open Go.RowKit Go.Op
theorem zqg:∀x:List UInt8,bytesLess x x=false
 |[]=>rfl
 |a::x=>by
  rw[bytesLess,zqg x];simp
theorem zpF:∀x y:List UInt8,bytesLess x y=true->bytesLess y x=false
 |[],[],_=>rfl
 |[],b::y,_=>rfl
 |a::x,[],h=>by cases h
 |a::x,b::y,h=>by
  rw[bytesLess] at h ⊢;have ih:=zpF x y;simp only[Bool.or_eq_true,Bool.and_eq_true,decide_eq_true_eq,beq_iff_eq,Bool.or_eq_false_iff,Bool.and_eq_false_iff,decide_eq_false_iff_not,beq_eq_false_iff_ne] at h ⊢;rcases h with h|⟨h,h2⟩
  ·exact⟨λh3=>UInt8.lt_irrefl _ (UInt8.lt_trans h h3),.inl (λe=>by subst e;exact UInt8.lt_irrefl _ h)⟩
  ·subst h;exact⟨UInt8.lt_irrefl _,.inr (ih h2)⟩
theorem ztz:∀x y:List UInt8,bytesLess x y=false->bytesLess y x=false->x=y
 |[],[],_,_=>rfl
 |[],b::y,h,_=>by cases h
 |a::x,[],_,h=>by cases h
 |a::x,b::y,h,h'=>by
  rw[bytesLess] at h h';have ih:=ztz x y;simp only[Bool.or_eq_false_iff,Bool.and_eq_false_iff,decide_eq_false_iff_not,beq_eq_false_iff_ne] at h h';have e:a=b:=UInt8.le_antisymm (UInt8.not_lt.1 h'.1) (UInt8.not_lt.1 h.1);subst e;rw[ih (h.2.resolve_left zs) (h'.2.resolve_left zs)]
theorem znq:∀x y z:List UInt8,bytesLess x y=true->bytesLess y z=true->bytesLess x z=true
 |[],[],_,h,_=>by cases h
 |[],_::_,[],_,h=>by cases h
 |[],_::_,_::_,_,_=>rfl
 |_::_,[],_,h,_=>by cases h
 |_::_,_::_,[],_,h=>by cases h
 |a::x,b::y,c::z,h,h'=>by
  rw[bytesLess] at h h' ⊢;have ih:=znq x y z;simp only[Bool.or_eq_true,Bool.and_eq_true,decide_eq_true_eq,beq_iff_eq] at h h' ⊢;rcases h with h|⟨h,h2⟩
  ·rcases h' with h'|⟨h',_⟩
   ·exact .inl (UInt8.lt_trans h h')
   ·subst h';exact .inl h
  ·subst h;rcases h' with h'|⟨h',h3⟩
   ·exact .inl h'
   ·exact .inr ⟨h',ih h2 h3⟩
def cmpI (x y:Int):Int:=if x<y then -1 else if y<x then 1 else 0
def cmpB (s t:ByteArray):Int:=if bytesLess s.toList t.toList then -1 else if bytesLess t.toList s.toList then 1 else 0
def thn (x y:Int):Int:=if x=0 then y else x
mutual
def cmpV:V->V->Int
 |.mk k t n m s l,.mk k' t' n' m' s' l'=>thn (cmpI k k') (thn (cmpB t t') (thn (cmpI n n') (thn (cmpI m m') (thn (cmpB s s') (zbh l l')))))
def zbh:List V->List V->Int
 |[],[]=>0
 |[],_::_=>-1
 |_::_,[]=>1
 |v::r,v'::r'=>thn (cmpV v v') (zbh r r')
end
def Tri (p q r:Int):Prop:=(p<=0->q<=0->r<=0)/\(p<0->q<=0->r<0)/\(p<=0->q<0->r<0)/\(p=0->q=0->r=0)
theorem zgx {p q r p' q' r':Int} (h:Tri p q r) (h':Tri p' q' r'):Tri (thn p p') (thn q q') (thn r r'):=by
 unfold Tri thn at *
 split<;>split<;>split<;>omega
theorem zgy (x y:Int):thn (-x) (-y)=-(thn x y):=by
 unfold thn
 split<;>split<;>omega
theorem zfm (x y:Int):thn x y=0↔x=0/\y=0:=by
 unfold thn
 split<;>omega
theorem zjI (x y:Int):cmpI y x=-(cmpI x y):=by
 unfold cmpI
 split<;>split<;>omega
theorem zip (x y:Int):cmpI x y=0↔x=y:=by
 unfold cmpI
 split
 ·omega
 ·split<;>omega
theorem zjD (x y z:Int):Tri (cmpI x y) (cmpI y z) (cmpI x z):=by
 unfold Tri cmpI
 split<;>split<;>split<;>(try split)<;>(try split)<;>(try split)<;>omega
theorem zfh (x y:ByteArray):cmpB x y=-1/\bytesLess x.toList y.toList=true\/cmpB x y=0/\x=y\/cmpB x y=1/\bytesLess y.toList x.toList=true:=by
 unfold cmpB
 by_cases h:bytesLess x.toList y.toList=true
 ·rw[if_pos h];exact .inl ⟨rfl,h⟩
 ·rw[if_neg h]
  by_cases h2:bytesLess y.toList x.toList=true
  ·rw[if_pos h2];exact .inr (.inr ⟨rfl,h2⟩)
  ·rw[if_neg h2];have:=ztz _ _ (by simpa using h) (by simpa using h2);refine .inr (.inl ⟨rfl,?_⟩);rw[ByteArray.toList_eq,ByteArray.toList_eq] at this;cases x;cases y;simp at this;rw[this]
theorem zkm (x y:ByteArray):cmpB x y=0↔x=y:=by
 constructor
 ·intro h;rcases zfh x y with ⟨h1,_⟩|⟨_,h1⟩|⟨h1,_⟩
  ·omega
  ·exact h1
  ·omega
 ·intro h;subst h;unfold cmpB;rw[zqg]
  rfl
theorem zmU (x y:ByteArray):cmpB y x=-(cmpB x y):=by
 rcases zfh x y with ⟨h1,h⟩|⟨h1,h⟩|⟨h1,h⟩
 ·rw[h1];unfold cmpB;rw[zpF _ _ h,h];rfl
 ·subst h;rw[h1];rfl
 ·rw[h1];unfold cmpB;rw[h];rfl
theorem znj (x y z:ByteArray):Tri (cmpB x y) (cmpB y z) (cmpB x z):=by
 rcases zfh x y with ⟨h1,h⟩|⟨h1,h⟩|⟨h1,h⟩
 ·rcases zfh y z with ⟨h2,h'⟩|⟨h2,h'⟩|⟨h2,h'⟩
  ·have:cmpB x z=-1:=by unfold cmpB;rw[znq _ _ _ h h'];rfl
   rw[h1,h2,this];unfold Tri;omega
  ·subst h';rw[h1,h2];unfold Tri;omega
  ·rw[h1,h2];unfold Tri;omega
 ·subst h;rw[h1];unfold Tri;omega
 ·rw[h1];unfold Tri;omega
mutual
theorem zrI:∀a b:V,cmpV b a=-(cmpV a b)
 |.mk k t n m s l,.mk k' t' n' m' s' l'=>by
  rw[cmpV,cmpV,zjI k k',zmU t t',zjI n n',zjI m m',zmU s s',zkC l l',zgy,zgy,zgy,zgy,zgy]
theorem zkC:∀a b:List V,zbh b a=-(zbh a b)
 |[],[]=>by simp[zbh]
 |[],_::_=>by simp[zbh]
 |_::_,[]=>by simp[zbh]
 |v::r,v'::r'=>by rw[zbh,zbh,zrI v v',zkC r r',zgy]
end
mutual
theorem zpA:∀a b:V,cmpV a b=0↔a=b
 |.mk k t n m s l,.mk k' t' n' m' s' l'=>by
  rw[cmpV,zfm,zfm,zfm,zfm,zfm,zip,zkm,zip,zip,zkm,ziN l l',V.mk.injEq]
theorem ziN:∀a b:List V,zbh a b=0↔a=b
 |[],[]=>by simp[zbh]
 |[],_::_=>by simp[zbh]
 |_::_,[]=>by simp[zbh]
 |v::r,v'::r'=>by rw[zbh,zfm,zpA v v',ziN r r',List.cons.injEq]
end
mutual
theorem zsv:∀a b c:V,Tri (cmpV a b) (cmpV b c) (cmpV a c)
 |.mk k t n m s l,.mk k' t' n' m' s' l',.mk k2 t2 n2 m2 s2 l2=>by
  rw[cmpV,cmpV,cmpV];exact zgx (zjD ..) (zgx (znj ..) (zgx (zjD ..) (zgx (zjD ..) (zgx (znj ..) (zlz l l' l2)))))
theorem zlz:∀a b c:List V,Tri (zbh a b) (zbh b c) (zbh a c)
 |[],[],[]=>by simp[zbh,Tri]
 |[],[],_::_=>by simp[zbh,Tri]
 |[],_::_,[]=>by simp[zbh,Tri]
 |_::_,[],[]=>by simp[zbh,Tri]
 |[],_::_,_::_=>by unfold Tri;rw[zbh,zbh];omega
 |_::_,[],_::_=>by unfold Tri;rw[zbh,zbh];omega
 |_::_,_::_,[]=>by unfold Tri;rw[zbh.eq_3,zbh.eq_3];omega
 |v::r,v'::r',v2::r2=>by
  rw[zbh,zbh,zbh];exact zgx (zsv v v' v2) (zlz r r' r2)
end
end Go.Proofs.YtcebmphappfjjaaGreatDoor
set_option maxHeartbeats 32000000
set_option maxRecDepth 100000
namespace Go.Proofs.YtcebmphappfjjaaGreatDoor
open Go.RowKit
def srcV:ByteArray:=⟨#[118,97,114,105,97,110,116,32,83,104,97,112,101,32,123,32,67,105,114,99,108,101,40,105,110,116,41,44,32,69,109,112,116,121,32,125,32,102,117,110,32,102,40,97,58,32,105,110,116,44,32,98,58,32,116,101,120,116,41,58,32,98,111,111,108,32,61,32,116,114,117,101,32,97,99,116,111,114,32,77,97,105,110,40,41,32,123,32,125]⟩
def vI (n:Int):V:=.mk 3 ⟨#[]⟩ n 0 ⟨#[]⟩ []
def vX:V:=.mk 4 ⟨#[]⟩ 0 0 ⟨#[97,34,98]⟩ []
def vL:V:=.mk 5 ⟨#[]⟩ 0 0 ⟨#[]⟩ [vI (-1),vX]
def vS:V:=.mk 7 ⟨#[83,104,97,112,101]⟩ 0 0 ⟨#[]⟩ [vI 3]
def vR:V:=.mk 8 ⟨#[67,111,117,110,116,101,114]⟩ 0 0 ⟨#[48,46,50]⟩ []
def vF:V:=.mk 9 ⟨#[]⟩ 0 0 ⟨#[]⟩ [vI 1]
def tS:Ty:=.mk 6 ⟨#[83,104,97,112,101]⟩ []
def tF:Ty:=.mk 8 ⟨#[]⟩ [.mk 4 ⟨#[]⟩ [],.mk 2 ⟨#[]⟩ []]
def zyh (p:Prg):Bool:=p.types.all (λd=>d.ctors.all (λc=>c.fields.all (λx=>zsM p x.ty&&x.ty.fit)))&&p.funs.all (λf=>f.params.all (λx=>zsM p x.ty&&x.ty.fit))
theorem zyg {p:Prg} (h:zyh p=true):AllR p:=by
 unfold zyh at h;simp only[Bool.and_eq_true,List.all_eq_true] at h;exact⟨λd hd c hc x hx=>h.1 d hd c hc x hx,λf hf x hx=>h.2 f hf x hx⟩
def zyL (p:Prg):Bool:=zuX p vS tS&&!zuX p vR tS&&zuX p vF tF&&!zuX p vF tS
structure SmK (at':Int) (l:List Nd) (p:Prg):Prop where
 g:l.all gD=true
 d:(l.filter zaZ).all dkB=true
 c:(cksN (l.filter zaZ)).findSome? id=none
 f:fitL l=true
 s:zaB l<=2097152
 e:zbn (l.filter zaZ)=p
 r:AllR p
 f1:zuX p vS tS=true
 f2:zuX p vR tS=false
 f3:zuX p vF tF=true
 f4:zuX p vF tS=false
def smB:Nd->Bool
 |.mk k t n _ l=>decide (k=1)&&decide (t=⟨#[]⟩)&&decide (n=0)&&(l.all gD&&(l.filter zaZ).all dkB&&((cksN (l.filter zaZ)).findSome? id).isNone&&fitL l&&decide (zaB l<=2097152)&&zyh (zbn (l.filter zaZ))&&zyL (zbn (l.filter zaZ)))
def smOk:Bool:=match zhG srcV with|.ok n=>smB n|.error _=>false
theorem zwT:smOk=true:=by kernel_rfl
theorem zyi:∃at' l p,zhG srcV=.ok (.mk 1 ⟨#[]⟩ 0 at' l)/\SmK at' l p:=by
 have h:=zwT;unfold smOk at h;cases hp:zhG srcV with
 |error e=>rw[hp] at h;cases h
 |ok n=>
  rw[hp] at h;obtain⟨k,t,n,a,l⟩:=n;replace h:smB (.mk k t n a l)=true:=h;unfold smB zyL at h;simp only[Bool.and_eq_true,decide_eq_true_eq,Option.isNone_iff_eq_none,Bool.not_eq_true'] at h;obtain⟨⟨⟨rfl,rfl⟩,rfl⟩,⟨⟨⟨⟨⟨⟨h1,h2⟩,h3⟩,h4⟩,h5⟩,h6⟩,h7⟩⟩:=h;exact⟨a,l,_,rfl,h1,h2,h3,h4,h5,rfl,zyg h6,h7.1.1.1,h7.1.1.2,h7.1.2,h7.2⟩
theorem zyE:zoQ vL=⟨#[91,45,49,44,32,34,97,92,34,98,34,93]⟩:=by kernel_rfl
theorem zxY:zoQ vS=⟨#[83,104,97,112,101,35,48,40,51,41]⟩:=by kernel_rfl
theorem zyK:zoQ vR=⟨#[67,111,117,110,116,101,114,64,48,46,50]⟩:=by kernel_rfl
theorem zyB:zoQ vF=⟨#[]⟩:=by kernel_rfl
theorem zyw:zeR ⟨#[83,104,97,112,101,35,48,40,51,41]⟩=(vS,true):=by rw[<-zxY];exact zwR zk
theorem zyo:zeR ⟨#[83,104,97,112,101,35,48,40,51,32,41]⟩=(vZ,false):=by kernel_rfl
theorem zxf:zjt zbL vS=⟨#[7,5,83,104,97,112,101,0,0,0,1,3,0,6,0,0,0]⟩:=by kernel_rfl
end Go.Proofs.YtcebmphappfjjaaGreatDoor
set_option maxHeartbeats 32000000
set_option maxRecDepth 100000
namespace Go.Proofs.YtcebmphappfjjaaGreatDoor
open Go.RowKit Go.Shelf
def zsj:Go.Shelf.Ren:=⟨fun|99=>194|206=>240|n=>n,fun|9=>9|4=>4|3=>3|n=>n,fun|n=>n⟩
theorem layH:Go.Proofs.Lays.n99 Tryz.prog zsj:={
 mixed:=by kernel_rfl
 f99:=Tryz.func194.trans (congrArg some zk)
 f206:=Tryz.func240.trans (congrArg some zk)
 t3:=Tryz.underlying3
 a3:=Tryz.isAgg3
 z3:=Tryz.sizeOf3
 v3:=Tryz.zeroValue3
 t4:=Tryz.underlying4
 a4:=Tryz.isAgg4
 z4:=Tryz.sizeOf4
 v4:=Tryz.zeroValue4
 t9:=Tryz.underlying9
 a9:=Tryz.isAgg9
 z9:=Tryz.sizeOf9
 v9:=Tryz.zeroValue9}
theorem zjG (s p:ByteArray) (w:World):Calls Tryz.prog 194 #[↑s,↑p] w λe w'=>e=.returned (.bool (Lib.hasPrefix s.data.toList p.data.toList))/\w'=w:=Any.strings_HasPrefix layH s p w
end Go.Proofs.YtcebmphappfjjaaGreatDoor
set_option maxHeartbeats 32000000
set_option maxRecDepth 100000
namespace Go.Proofs.YtcebmphappfjjaaGreatDoor
open Go.RowKit
def VpAt (S:ByteArray) (i q:Nat) (w:World) (b:Nat):Prop:=zab w b #[.string S,.int .i64 i,.int .i64 q] 129/\i<=S.size/\S.size<=2097152/\q<=16384
def Vp (w:World) (b:Nat) (r:List UInt8) (q:Nat):Prop:=∃S i,(bl S).drop i=r/\VpAt S i q w b
theorem VpAt.c0 {S:ByteArray} {i q:Nat} {w:World} {b:Nat} (h:VpAt S i q w b) (n:Nat):(w.drewN n).cell? ⟨b,0,none⟩=some ↑S:=h.1.cell 0
theorem VpAt.c1 {S:ByteArray} {i q:Nat} {w:World} {b:Nat} (h:VpAt S i q w b) (n:Nat):(w.drewN n).cell? ⟨b,1,none⟩=some ↑i:=h.1.cell 1
theorem VpAt.fz {S:ByteArray} {i q:Nat} {w:World} {b:Nat} (h:VpAt S i q w b) (n j:Nat):(w.drewN n).frozen? ⟨b,j,none⟩=false:=h.1.fz j
theorem VpAt.drewN {S:ByteArray} {i q:Nat} {w:World} {b:Nat} (h:VpAt S i q w b) (n:Nat):VpAt S i q (w.drewN n) b:=h
theorem VpAt.set1 {S:ByteArray} {i q:Nat} {w:World} {b:Nat} (h:VpAt S i q w b) (j:Nat) (hj:j<=S.size):VpAt S j q (w.setCell ⟨b,1,none⟩ (.int .i64 (j:Int))) b:=by
 obtain⟨h1,_,h3,h4⟩:=h;exact⟨by simpa using h1.set 1 (.int .i64 (j:Int)),hj,h3,h4⟩
def VOne (b:Nat) (w:World) (x:Value) (r:List UInt8) (q:Nat) (e:Ending) (w':World):Prop:=e=.returned x/\Chg (λj=>j=b) w w'/\Vp w' b r q
theorem zfY:∀(p l:List UInt8),Lib.hasPrefix l p=(pre p l).isSome
 |[],l=>by cases l<;>rfl
 |a::p,[]=>rfl
 |a::p,c::l=>by
  have ih:=zfY p l;unfold Lib.hasPrefix at ih ⊢;rw[pre,List.isPrefixOf]
  split
  ·rename_i h;subst h;simpa using ih
  ·rename_i h;simp[h]
theorem zne:∀(p l r:List UInt8),pre p l=some r->p.length<=l.length/\l.drop p.length=r
 |[],l,r,h=>by rw[pre] at h;cases h;exact⟨Nat.zero_le _,rfl⟩
 |a::p,[],r,h=>by cases h
 |a::p,c::l,r,h=>by
  rw[pre] at h
  split at h
  ·obtain⟨h1,h2⟩:=zne p l r h;exact⟨by simp;omega,h2⟩
  ·cases h
theorem zfg (p:ByteArray) (b:Nat) (w:World) (r:List UInt8) (q:Nat) (h:Vp w b r q) :
 Calls Tryz.prog 148 #[.pointer (some ⟨b,0,none⟩),↑p] w (VOne b w (.bool (pre (bl p) r).isSome) ((pre (bl p) r).getD r) q):=by
 obtain⟨S,i,hr,hv⟩:=h;have c0:=hv.c0;have c1:=hv.c1;have hi:=hv.2.1;have hS:=hv.2.2.1;have hd:=zcw S i;have KP:=zz (zjG (S.extract i S.size) p);rw[show (S.extract i S.size).data.toList=r from hd.trans hr,zfY] at KP;have HV:=zz hv;have hi':(i:Int)<=(S.size:Int):=zo
 cases ho:pre (bl p) r with
 |none=>
  rw[ho] at KP;have HR:=zz hr;clear hv hr hd ho;go_in;go_wp2
  go_quiet ((go_at_call 194;exact Calls.quiet_of_same (KP.out _)))
  go_wp2;go_ret;exact⟨rfl,(Chg.refl _ _).drewN _,S,i,HR.out,HV.out.drewN _⟩
 |some r'=>
  rw[ho] at KP;obtain⟨h1,h2⟩:=zne _ _ _ ho;have hp:(bl p).length=p.size:=zai p;have hl:r.length=S.size-i:=by rw[<-hr,List.length_drop];have:(bl S).length=S.size:=zai S;omega
  have hj:i+p.size<=S.size:=zo
  have HR:Hid ((bl S).drop (i+p.size)=r'):=zz (by rw[<-h2,<-hr,List.drop_drop,hp]);have hwr:IntKind.i64.wrap ((i:Int)+p.size)=((i+p.size:Nat):Int):=by rw[IntWalk.i64_in _ zo];omega
  have z1:=λn=>hv.fz n 1;clear hv hr hd ho h1 h2 hl hp;go_in;go_wp2
  go_quiet ((go_at_call 194;exact Calls.quiet_of_same (KP.out _)))
  go_wp2;go_ret;exact⟨rfl,((Chg.refl (λj=>j=b) w).drewN _).setCell (p:=⟨b,1,none⟩) (.inl rfl) _,S,_,HR.out,(HV.out.drewN _).set1 _ hj⟩
theorem zsY (c:UInt8):digB c=decide (48<=(c.toNat:Int)/\(c.toNat:Int)<=57):=by
 unfold digB;rw[Bool.eq_iff_iff];simp only[Bool.and_eq_true,decide_eq_true_eq,UInt8.le_iff_toNat_le]
 show 48<=c.toNat/\c.toNat<=57↔_
 omega
theorem zuC (c:UInt8):nmB c=(decide (97<=(c.toNat:Int)/\(c.toNat:Int)<=122\/65<=(c.toNat:Int)/\(c.toNat:Int)<=90\/(c.toNat:Int)=95) || digB c):=by
 unfold nmB upB;rw[Bool.eq_iff_iff];simp only[Bool.and_eq_true,Bool.or_eq_true,decide_eq_true_eq,UInt8.le_iff_toNat_le,beq_iff_eq,<-UInt8.toNat_inj]
 show ((97<=c.toNat/\c.toNat<=122\/65<=c.toNat/\c.toNat<=90)\/digB c=true)\/c.toNat=95↔_
 constructor
 ·rintro((h|h)|h)
  ·exact .inl zo
  ·exact .inr h
  ·exact .inl zo
 ·rintro(h|h)
  ·by_cases h2:c.toNat=95
   ·exact .inr h2
   ·exact .inl (.inl zo)
  ·exact .inl (.inr h)
def zsr (K:Nat) (p:UInt8->Bool):Prop:=∀(c:UInt8) (w:World),Calls Tryz.prog K #[.int .u8 (c.toNat:Int)] w λe w'=>e=.returned (.bool (p c))/\w'=w
theorem zvj:zsr 197 digB:=by
 intro c w;rw[zsY];generalize (c.toNat:Int)=x
 by_cases h1:48<=x
 ·by_cases h2:x<=57
  ·rw[decide_eq_true ⟨h1,h2⟩];go_in;go_wp2;go_ret;exact⟨rfl,rfl⟩
  ·rw[decide_eq_false (λh=>h2 h.2)];go_in;go_wp2;go_ret;exact⟨rfl,rfl⟩
 ·rw[decide_eq_false (λh=>h1 h.1)];go_in;go_wp2;go_ret;exact⟨rfl,rfl⟩
theorem zot:zsr 196 nmB:=by
 intro c w;have KD:=zz (λW=>zvj c W);rw[zuC];generalize digB c=d at *
 generalize (c.toNat:Int)=x at *
 by_cases a1:97<=x<;>by_cases a2:x<=122<;>by_cases a3:65<=x<;>by_cases a4:x<=90<;>by_cases a5:x=95
 all_goals first
  |(exfalso;omega)
  |(first|rw[decide_eq_true zo]|rw[decide_eq_false zo]
    try subst a5
    cases d
    all_goals
     go_in;go_wp2_with (first|(go_at_call 197;(with_reducible refine(KD.out _).mono ?_);rintro e w1 ⟨rfl,rfl⟩));go_ret;exact⟨by first|(simp;done)|(simp;exact a5),rfl⟩)
theorem zoV:zsr 198 ptB:=by
 intro c w;have KD:=zz (λW=>zvj c W)
 have hp:ptB c=(digB c || decide ((c.toNat:Int)=46)):=by
  unfold ptB
  congr 1
  rw[Bool.eq_iff_iff,beq_iff_eq,decide_eq_true_eq,<-UInt8.toNat_inj]
  show c.toNat=46↔_
  omega
 rw[hp];clear hp;generalize digB c=d at *
 generalize (c.toNat:Int)=x at *
 by_cases a5:x=46
 all_goals
  first|rw[decide_eq_true a5]|rw[decide_eq_false a5]
  try subst a5
  cases d
  all_goals
   go_in;go_wp2_with (first|(go_at_call 197;(with_reducible refine(KD.out _).mono ?_);rintro e w1 ⟨rfl,rfl⟩));go_ret;exact⟨by first|(simp;done)|(simp;exact a5),rfl⟩
def zfx (w:World) (b:Nat):Nat:=match w.cell? ⟨b,1,none⟩ with|some (.int _ n)=>n.toNat|_=>0
theorem VpAt.next {S:ByteArray} {i q:Nat} {w:World} {b:Nat} (h:VpAt S i q w b):zfx w b=i:=by unfold zfx;rw[h.1.cell 1];rfl
theorem zro {p:UInt8->Bool} {l r:List UInt8} {c:UInt8} (h:l=c::r) (hp:p c=true):l.dropWhile p=r.dropWhile p/\l.takeWhile p=c::r.takeWhile p:=by subst h;simp[hp]
theorem zpH {S:ByteArray} {i:Nat}:((bl S).drop i).length=S.size-i:=by rw[List.length_drop];have:(bl S).length=S.size:=zai S;omega
theorem zrb {S:ByteArray} {i0 i:Nat} {TW:List UInt8} (h:i0<=i) (hi:i<=S.size) (e:TW++(bl S).drop i=(bl S).drop i0):S.extract i0 i=lb TW:=by
 have hl:TW.length=i-i0:=by
  have:=congrArg List.length e;rw[List.length_append,zpH,zpH] at this;omega
 apply zbX;rw[ByteArray.toList_eq,ByteArray.toList_eq,ByteArray.data_extract,Array.toList_extract,List.extract_eq_take_drop,show S.data.toList.drop i0=TW++(bl S).drop i from e.symm,<-hl,List.take_left]
theorem zhC (K:Nat) (p:UInt8->Bool) (hcf:∀(x:Value) (W:World),(callFunc K #[x]).run Tryz.prog W=.ok (.enter K #[x]) W) (hK:zsr K p) (b:Nat) (w:World) (r:List UInt8) (q:Nat) (h:Vp w b r q) :
 Calls Tryz.prog 195 #[.pointer (some ⟨b,0,none⟩),.func (.func K) #[] #[]] w (VOne b w (.string (lb (r.takeWhile p))) (r.dropWhile p) q):=by
 obtain⟨S,i0,hr,hv⟩:=h;have c0:=hv.1.cell 0;have c1:=hv.1.cell 1;have HV0:=zz hv;have hi0:=hv.2.1;have hS:=hv.2.2.1;have HK:=zz hK;have hw0:r.takeWhile p++r.dropWhile p=(bl S).drop i0:=by rw[List.takeWhile_append_dropWhile,hr]
 obtain⟨R,hR⟩:=zn (r.dropWhile p);have HR:Hid (((bl S).drop i0).dropWhile p=R):=zz (by rw[hr];exact hR);have HW:Hid (r.takeWhile p++R=(bl S).drop i0):=zz (by rw[<-hR];exact hw0);rw[hR];generalize r.takeWhile p=TW at *
 clear hv hK hr hR hw0;go_in;go_wp2;clear c0 c1
 go_loopw [] (λwr=>∃i:Nat,i0<=i/\i<=S.size/\Hid (((bl S).drop i).dropWhile p=R)/\Hid (VpAt S i q wr b)/\Hid (Chg (λj=>j=b) w wr)) (λwr=>S.size-zfx wr b)
 case atStart=>exact⟨i0,Nat.le_refl _,hi0,HR,HV0,zz (Chg.refl _ _)⟩
 case round=>
  obtain⟨i,hii,hi,HA,HV,HC⟩:=hrel;have c0:=HV.out.c0;have c1:=HV.out.c1;have hm:=HV.out.next;have z1:=λn=>HV.out.fz n 1
  by_cases hlt:i<S.size
  ·have hlti:(i:Int)<(S.size:Int):=zo
   have hlt':decide ((i:Int)<(S.size:Int))=true:=decide_eq_true hlti;obtain⟨c,hd,hbt⟩:=zed S i hlt;have HJ:∀W,_:=zaP S i hlt;rw[hbt] at HJ;have KC:=zz (λW=>HK.out c W);cases hw:p c with
   |true=>
    rw[hw] at KC;have HA2:Hid (((bl S).drop (i+1)).dropWhile p=R):=zz (by rw[<-HA.out];exact(zro hd hw).1.symm);clear hd hbt hw HA;go_wp2
    go_quiet ((exact Calls.quiet_of_same (KC.out _)))
    have hwr:IntKind.i64.wrap ((i:Int)+1)=((i+1:Nat):Int):=by rw[IntWalk.i64_in _ zo];omega
    have HV2:=zz ((HV.out.drewN nq).set1 (i+1) zo);have HC2:=zz ((HC.out.drewN nq).setCell (p:=⟨b,1,none⟩) (.inl rfl) (.int .i64 ((i+1:Nat):Int)));have hm2:zfx ((wr.drewN nq).setCell ⟨b,1,none⟩ (.int .i64 ((i:Int)+1))) b=i+1:=HV2.out.next;go_wp2;exact⟨⟨i+1,zo,zo,HA2,HV2,HC2⟩,zo⟩
   |false=>
    rw[hw] at KC;have HRi:Hid ((bl S).drop i=R):=zz (by rw[<-HA.out,show (bl S).drop i=c::(bl S).drop (i+1) from hd];simp[hw]);have HX:Hid (S.extract i0 i=lb TW):=zz (zrb hii hi (by rw[HRi.out];exact HW.out));clear hd hbt hw HA;go_wp2
    go_quiet ((exact Calls.quiet_of_same (KC.out _)))
    obtain⟨w2,hw2⟩:=zn (wr.drewN nq);have HV2:=zz (HV.out.drewN nq);have HC2:=zz (HC.out.drewN nq);rw[hw2] at HV2 HC2;rw[hw2];have c0:∀n,(w2.drewN n).cell? ⟨b,0,none⟩=some ↑S:=HV2.out.c0;have c1:∀n,(w2.drewN n).cell? ⟨b,1,none⟩=some (.int .i64 (i:Int)):=HV2.out.c1;clear hw2 HV HC HK z1 hm HJ KC hlt hlt';have hij:(i0:Int)<=(i:Int):=zo
    go_wp2
    go_quiet (fail)
    go_wp2;go_ret;exact⟨by rw[<-HX.out];rfl,HC2.out.drewN _,S,i,HRi.out,HV2.out.drewN _⟩
  ·have hn:((bl S).drop i)=[]:=List.drop_eq_nil_of_le (by have:(bl S).length=S.size:=zai S;omega);have HRi:Hid ((bl S).drop i=R):=zz (by rw[<-HA.out,hn];rfl);have HX:Hid (S.extract i0 i=lb TW):=zz (zrb hii hi (by rw[HRi.out];exact HW.out));have hlti:¬(i:Int)<(S.size:Int):=zo
   have hlt':decide ((i:Int)<(S.size:Int))=false:=decide_eq_false hlti;clear hn HA;go_wp2
   go_quiet (fail)
   obtain⟨w2,hw2⟩:=zn (wr.drewN nq);have HV2:=zz (HV.out.drewN nq);have HC2:=zz (HC.out.drewN nq);rw[hw2] at HV2 HC2;rw[hw2];have c0:∀n,(w2.drewN n).cell? ⟨b,0,none⟩=some ↑S:=HV2.out.c0;have c1:∀n,(w2.drewN n).cell? ⟨b,1,none⟩=some (.int .i64 (i:Int)):=HV2.out.c1;clear hw2 HV HC HK z1 hm;have hij:(i0:Int)<=(i:Int):=zo
   go_wp2
   go_quiet (fail)
   go_wp2;go_ret;exact⟨by rw[<-HX.out];rfl,HC2.out.drewN _,S,i,HRi.out,HV2.out.drewN _⟩
theorem zsx (b:Nat) (w:World) (r:List UInt8) (q:Nat) (h:Vp w b r q) :
 Calls Tryz.prog 86 #[.pointer (some ⟨b,0,none⟩)] w λe w'=>e=.returned (.string (lb r))/\Below w.heap.size w w':=by
 obtain⟨S,i,hr,hv⟩:=h;have c0:=hv.c0;have c1:=hv.c1;have hi':(i:Int)<=(S.size:Int):=by have:=hv.2.1;omega
 have HX:Hid (S.extract i S.size=lb r):=zz (by rw[<-hr];exact(zuE (S.extract i S.size)).symm.trans (congrArg lb (zcw S i)));clear hr hv;go_in;go_wp2
 go_quiet (fail)
 go_wp2;go_ret;exact⟨by rw[<-HX.out];rfl,zae (Below.refl _ _) _⟩
def zqj (b:Nat) (w:World) (q:Nat) (o:Option (Int × List UInt8)) (e:Ending) (w':World):Prop:=Chg (λj=>j=b) w w'/\
 match o with
 |some (n,r)=>e=.returned (.tuple #[.int .i64 n,.bool true])/\Vp w' b r q
 |none=>∃n,e=.returned (.tuple #[.int .i64 n,.bool false])
theorem Vp.le {w:World} {b:Nat} {r:List UInt8} {q:Nat} (h:Vp w b r q):r.length<=2097152:=by
 obtain⟨S,i,hr,hv⟩:=h;have:=hv.2.2.1;rw[<-hr,zpH];omega
theorem zsJ {p:UInt8->Bool} (l:List UInt8):(l.takeWhile p).length<=l.length:=List.Sublist.length_le (List.takeWhile_sublist p)
theorem zpw {b:Nat} {w w1:World} {q:Nat} {g r:List UInt8} (s:ByteArray) (hs:s=lb (g++r.takeWhile digB)) (hc:Chg (λj=>j=b) w w1) (hv:Vp w1 b (r.dropWhile digB) q) {e:Ending} {w2:World}
 (he:e=.returned (.tuple #[.int .i64 (zbD s (-9007199254740992) 9007199254740992).1,.bool (zbD s (-9007199254740992) 9007199254740992).2])/\Below w1.heap.size w1 w2) (hb:b<w1.heap.size) :
 zqj b w q (if (zbD (lb (g++r.takeWhile digB)) (-9007199254740992) 9007199254740992).2 then some ((zbD (lb (g++r.takeWhile digB)) (-9007199254740992) 9007199254740992).1,r.dropWhile digB) else none) e w2:=by
 subst hs;obtain⟨rfl,hbl⟩:=he;refine⟨hc.thenBelow hbl,?_⟩;obtain⟨S,i,hr,h1,h2⟩:=hv;cases hp:(zbD (lb (g++r.takeWhile digB)) (-9007199254740992) 9007199254740992).2 with
 |true=>exact⟨rfl,S,i,hr,(hbl.block b hb).trans h1,h2⟩
 |false=>exact⟨_,rfl⟩
theorem zmR (b:Nat) (w:World) (r:List UInt8) (q:Nat) (h:Vp w b r q) :
 Calls Tryz.prog 152 #[.pointer (some ⟨b,0,none⟩)] w (zqj b w q (intL r)):=by
 have hl:=h.le;have KA:=zz (zfg ⟨#[45]⟩ b w r q h);have KW:=zz (λW r' (h:Vp W b r' q)=>zhC 197 digB (λ_ _=>by kernel_rfl) zvj b W r' q h);have hx:∀s:ByteArray,(⟨#[]⟩:ByteArray)++s=s:=λs=>zbX (by rw[ByteArray.toList_eq,ByteArray.toList_eq];simp);have hy:∀l:List UInt8,(⟨#[45]⟩:ByteArray)++lb l=lb (45::l):=λl=>zbX (by rw[ByteArray.toList_eq,ByteArray.toList_eq];simp);unfold intL;clear h
 by_cases hm:r.head?=some 45
 ·obtain⟨t,rfl⟩:∃t,r=45::t:=by
   cases r with
   |nil=>cases hm
   |cons c t=>exact⟨t,by rw[Option.some.inj hm]⟩
  have ht:=zsJ (p:=digB) t;rw[List.length_cons] at hl;rw[show pre (bl ⟨#[45]⟩) (45::t)=some t from rfl] at KA;simp only[if_pos hm,List.tail_cons];have KW:=zz (λW (h:Vp W b t q)=>KW.out W t h);have KP:=zz (λW=>zfQ (lb (45::t.takeWhile digB)) (-9007199254740992) 9007199254740992 W (by simp[ByteArray.size];omega));have HF:=zz (λw1 hc hv e w2 he hb=>zpw (b:=b) (w:=w) (w1:=w1) (q:=q) (g:=[45]) (r:=t) (lb (45::t.takeWhile digB)) rfl hc hv (e:=e) (w2:=w2) he hb);have HY:=hy (t.takeWhile digB);have hz:(lb (t.takeWhile digB)).size<=2097151:=by simp[ByteArray.size];omega
  have hz2:(lb (45::t.takeWhile digB)).size<=2097152:=by simp[ByteArray.size];omega
  obtain⟨O,hO⟩:=zn ((if (zbD (lb ([45]++t.takeWhile digB)) (-9007199254740992) 9007199254740992).2 then some ((zbD (lb ([45]++t.takeWhile digB)) (-9007199254740992) 9007199254740992).1,t.dropWhile digB) else none));rw[hO] at HF ⊢;generalize lb (45::t.takeWhile digB)=E1 at *
  generalize lb (t.takeWhile digB)=D1 at *
  clear hm hl ht hx hy hO;go_in;go_wp2_with fail;refine zi KA ?_;rintro e w1 ⟨rfl,hc1,hv1⟩;have KW1:=zz (KW.out w1 hv1);have HC1:=zz hc1;clear hc1 hv1;go_wp2_with fail;refine zi KW1 ?_;rintro e w2 ⟨rfl,hc2,hv2⟩;have HC2:=zz (HC1.out.next hc2);have HV2:=zz hv2;clear hc2 hv2;go_wp2_with fail;refine(KP.out _).mono ?_;rintro e w3 ⟨rfl,hb⟩;have HE:=zz (HF.out w2 HC2.out HV2.out _ w3 ⟨rfl,hb⟩ (by obtain⟨S,i,_,hv⟩:=HV2.out;exact hv.1.lt));clear hb;go_wp2
  go_ret2
  exact HE.out
 ·have hn:pre (bl ⟨#[45]⟩) r=none:=by
   cases r with
   |nil=>rfl
   |cons c t=>exact zbS (λh=>hm (by rw[<-h];rfl))
  have ht:=zsJ (p:=digB) r;rw[hn] at KA;simp only[if_neg hm,List.nil_append];have KW:=zz (λW (h:Vp W b r q)=>KW.out W r h);have KP:=zz (λW=>zfQ (lb (r.takeWhile digB)) (-9007199254740992) 9007199254740992 W (by simp[ByteArray.size];omega));have HF:=zz (λw1 hc hv e w2 he hb=>zpw (b:=b) (w:=w) (w1:=w1) (q:=q) (g:=[]) (r:=r) (lb (r.takeWhile digB)) rfl hc hv (e:=e) (w2:=w2) he hb);have HY:=hx (lb (r.takeWhile digB));have hz:(lb (r.takeWhile digB)).size<=2097152:=by simp[ByteArray.size];omega
  obtain⟨O,hO⟩:=zn ((if (zbD (lb ([]++r.takeWhile digB)) (-9007199254740992) 9007199254740992).2 then some ((zbD (lb ([]++r.takeWhile digB)) (-9007199254740992) 9007199254740992).1,r.dropWhile digB) else none));rw[hO] at HF;rw[List.nil_append] at hO;rw[hO];generalize lb (r.takeWhile digB)=D1 at *
  clear hm hl ht hx hy hn hO;go_in;go_wp2_with fail;refine zi KA ?_;rintro e w1 ⟨rfl,hc1,hv1⟩;have KW1:=zz (KW.out w1 hv1);have HC1:=zz hc1;clear hc1 hv1;go_wp2_with fail;refine zi KW1 ?_;rintro e w2 ⟨rfl,hc2,hv2⟩;have HC2:=zz (HC1.out.next hc2);have HV2:=zz hv2;clear hc2 hv2;go_wp2_with fail;refine(KP.out _).mono ?_;rintro e w3 ⟨rfl,hb⟩;have HE:=zz (HF.out w2 HC2.out HV2.out _ w3 ⟨rfl,hb⟩ (by obtain⟨S,i,_,hv⟩:=HV2.out;exact hv.1.lt));clear hb;go_wp2
  go_ret2
  exact HE.out
def zrS (b:Nat) (w:World) (q:Nat) (o:Option (List UInt8 × List UInt8)) (e:Ending) (w':World):Prop:=Chg (λj=>j=b) w w'/\
 match o with
 |some (l,r)=>e=.returned (.tuple #[.string (lb l),.bool true])/\Vp w' b r q
 |none=>∃s,e=.returned (.tuple #[.string s,.bool false])
structure TV (b:Nat) (S:ByteArray) (q:Nat) (w W:World) (i:Nat) (acc:List UInt8):Prop where
 own:Chg (λj=>j=b) w W
 at':VpAt S i q W b
 bld:zev w.heap.size W W acc
section
variable {b q i:Nat} {S:ByteArray} {w W W':World} {acc acc':List UInt8}
theorem TV.drewN (h:TV b S q w W i acc) (n:Nat):TV b S q w (W.drewN n) i acc:=⟨h.own.drewN n,h.at'.drewN n,⟨h.bld.at_,Below.refl _ _,h.bld.le⟩⟩
theorem TV.set (h:TV b S q w W i acc) (hg:b<w.heap.size) (j:Nat) (hj:j<=S.size):TV b S q w (W.setCell ⟨b,1,none⟩ (.int .i64 (j:Int))) j acc:=by
 have hc:Chg (λj=>j=b) W (W.setCell ⟨b,1,none⟩ (.int .i64 (j:Int))):=(Chg.refl (λj=>j=b) W).setCell (p:=⟨b,1,none⟩) (.inl rfl) _;refine⟨h.own.next hc,h.at'.set1 j hj,⟨?_,Below.refl _ _,by have:=h.bld.le;have:=hc.size;omega⟩⟩
 have key:∀p,Lib.BuilderAt 101 5 w.heap.size w.heap.size p (Lib.byteCells acc) W->Lib.BuilderAt 101 5 w.heap.size w.heap.size p (Lib.byteCells acc) (W.setCell ⟨b,1,none⟩ (.int .i64 (j:Int))):=λp h=>by
  obtain⟨h1,v,h2,h3,h4⟩:=h;have hB:∀k,w.heap.size<=k->(W.setCell ⟨b,1,none⟩ (.int .i64 (j:Int))).heap[k]?=W.heap[k]?:=λk hk=>Below.heap_setCell W _ _ k (show k≠b by omega);refine⟨h1,v,(hB _ (Nat.le_refl _)).trans h2,?_,h4⟩
  exact h3.kept (row:=some b) ⟨hc.os,hc.tape,hc.output,hc.size,λk _ hk=>Below.heap_setCell W _ _ k (λe=>hk (congrArg some e))⟩ (.inr (λe=>by
   rcases h3.2 with ⟨rfl,_⟩|⟨g',cap,cur,rfl,hb,_⟩
   ·cases e
   ·have:g'=b:=Option.some.inj e;omega))
 exact h.bld.at_.elim (λh=>.inl (key _ h)) (λh=>.inr (key _ h))
theorem TV.low (h:TV b S q w W i acc) (hg:b<w.heap.size) (hb:Below w.heap.size W W'):Chg (λj=>j=b) w W'/\VpAt S i q W' b:=
 ⟨Chg.trans h.own (⟨hb.os,hb.tape,hb.output,hb.size,λk _ hn=>hb.block k (Nat.lt_of_not_le hn)⟩:Chg (λk=>w.heap.size<=k) W W') (λ_ hj=>.inr hj),(hb.block b hg).trans h.at'.1,h.at'.2⟩
theorem TV.wrote (h:TV b S q w W i acc) (hg:b<w.heap.size) (hb:zev w.heap.size W W' acc'):TV b S q w W' i acc':=by
 obtain⟨h1,h2⟩:=h.low hg hb.low;exact⟨h1,h2,⟨hb.at_,Below.refl _ _,hb.le⟩⟩
end
theorem zjZ {b:Nat} {w0 w:World} {bs:List UInt8} (h:zev b w0 w bs) (c:UInt8) (n:Int) (hn:(c.toNat:Int)=n) (hl:bs.length+1<=140737488355328) :
 Calls Tryz.prog 108 #[.pointer (some ⟨b,0,none⟩),.int .u8 n] w λe w'=>e=.returned .nilIface/\zev b w0 w' (bs++[c]):=hn▸h.writeByte c hl
theorem zpK (b:Nat) (w:World) (r:List UInt8) (q:Nat) (h:Vp w b r q) :
 Calls Tryz.prog 149 #[.pointer (some ⟨b,0,none⟩)] w (zrS b w q (zbO r)):=by
 obtain⟨S,i0,hr,hv⟩:=h;have hg:b<w.heap.size:=hv.1.lt;have hB:=zev.new w;have hb2:=(Below.refl w.heap.size w).alloc (Nat.le_refl _) (.cells #[.pointer none,.slice none 0 0] 101);obtain⟨w1,hw1⟩:=zn (w.alloc (.cells #[.pointer none,.slice none 0 0] 101));rw[hw1] at hB hb2;have T0:Hid (TV b S q w w1 i0 []):=zz ⟨Chg.of_below hb2,⟨zaa hb2 hv.1,hv.2⟩,⟨hB.at_,Below.refl _ _,hB.le⟩⟩;obtain⟨O,hO⟩:=zn (zbO r);have HO:Hid ((zbO ((bl S).drop i0)).map (λp=>([]++p.1,p.2))=O):=zz (by rw[hr,hO];cases O<;>rfl);have hi0:=hv.2.1;have hS:=hv.2.2.1;rw[hO];clear hr hv hB hb2 hO;go_in;go_wp2;clear hw1
 go_loopw [] (λwr=>∃(i:Nat) (acc:List UInt8),i<=S.size/\acc.length<=i/\Hid ((zbO ((bl S).drop i)).map (λp=>(acc++p.1,p.2))=O)/\Hid (TV b S q w wr i acc)) (λwr=>S.size-zfx wr b)
 case atStart=>exact⟨i0,[],hi0,Nat.zero_le _,HO,T0⟩
 case round=>
  clear HO T0;obtain⟨i,acc,hi,hal,HO,HT⟩:=hrel;have c0:=HT.out.at'.c0;have c1:=HT.out.at'.c1;have hm:=HT.out.at'.next
  by_cases hlt:i<S.size
  ·have hlti:(i:Int)<(S.size:Int):=zo
   obtain⟨c,hd,hbt⟩:=zed S i hlt;have HJ:∀W,_:=zaP S i hlt;rw[hbt] at HJ;have hq:=HO.out;rw[show (bl S).drop i=c::(bl S).drop (i+1) from hd] at hq;clear hd hbt HO;go_wp2
   go_quiet (fail)
   obtain⟨w2,hw2⟩:=zn (wr.drewN nq);have HT2:=zz (HT.out.drewN nq);rw[hw2] at HT2;rw[hw2];have c0:=HT2.out.at'.c0;have c1:=HT2.out.at'.c1;obtain⟨x,hx⟩:∃x:Int,(c.toNat:Int)=x:=⟨_,rfl⟩;rw[hx] at HJ;go_wp2
   go_quiet (fail)
   obtain⟨w3,hw3⟩:=zn (w2.drewN nq);have ht3:=HT2.out.drewN nq;rw[hw3] at ht3;rw[hw3];have d1:=ht3.at'.1.a 1 rfl;have z1:=ht3.at'.1.fz 1;have hwr:IntKind.i64.wrap ((i:Int)+1)=((i+1:Nat):Int):=by rw[IntWalk.i64_in _ zo];omega
   have ht4:=ht3.set hg (i+1) zo;have hm4:zfx (w3.setCell ⟨b,1,none⟩ (.int .i64 ((i:Int)+1))) b=i+1:=ht4.at'.next;have HT4:=zz ht4;have hc0:=c.toNat_lt;clear hw2 hw3 c0 c1 ht3 ht4 HT HT2 HJ hlti
   by_cases h34:x=34
   ·obtain rfl:c=34:=UInt8.toNat_inj.1 (by show c.toNat=34;omega);rw[zqA] at hq;have HN:Hid (O=some (acc,(bl S).drop (i+1))):=zz (by rw[<-hq];simp);have KS:=zz HT4.out.bld.string;clear hq hc0;go_wp2_with fail;refine KS.out.mono ?_;rintro e w5 ⟨rfl,hb⟩;have HF:=zz (HT4.out.low hg hb);clear hb d1 z1 hm4;go_wp2
    go_ret2
    exact⟨HF.out.1,by rw[HN.out];exact⟨rfl,S,_,rfl,HF.out.2⟩⟩
   ·have hc34:c≠34:=λe=>h34 (by rw[<-hx,e];rfl)
    by_cases h92:x=92
    ·obtain rfl:c=92:=UInt8.toNat_inj.1 (by show c.toNat=92;omega);obtain⟨w4,hw4⟩:∃W,w3.setCell ⟨b,1,none⟩ (.int .i64 ((i:Int)+1))=W:=⟨_,rfl⟩;have HT4:Hid (TV b S q w w4 (i+1) acc):=zz (hw4▸HT4.out);have c0:=HT4.out.at'.c0;have c1:=HT4.out.at'.c1;have hn:((i+1:Nat):Int)=(i:Int)+1:=zo
     rw[hn] at c1;clear hm4
     by_cases he:i+1=S.size
     ·have hnil:(bl S).drop (i+1)=[]:=List.drop_eq_nil_of_le (by have:(bl S).length=S.size:=zai S;omega);rw[hnil] at hq;have HN:Hid (O=none):=zz (by rw[<-hq];rfl);have he':((i:Int)+1 == (S.size:Int))=true:=by rw[beq_iff_eq];omega
      clear hq hc0 hnil he hn;go_wp2
      go_quiet (fail)
      go_wp2
      go_ret2
      exact⟨HT4.out.own.drewN _,by rw[HN.out];exact⟨_,rfl⟩⟩
     ·have hlt2:i+1<S.size:=zo
      obtain⟨d,hd2,hbt2⟩:=zed S (i+1) hlt2;have HJ:∀W,_:=zaP S (i+1) hlt2;rw[hbt2,hn] at HJ;rw[show (bl S).drop (i+1)=d::(bl S).drop (i+1+1) from hd2,zjK] at hq;have he':((i:Int)+1 == (S.size:Int))=false:=by rw[beq_eq_false_iff_ne];omega
      have HO2:Hid ((zbO ((bl S).drop (i+2))).map (λp=>((acc++[zho d])++p.1,p.2))=O):=zz (by rw[<-hq,Option.map_map];congr 1;funext p;simp);obtain⟨y,hy⟩:∃y:Int,(d.toNat:Int)=y:=⟨_,rfl⟩;rw[hy] at HJ;have hlti2:(i:Int)+1<(S.size:Int):=zo
      have hge2:(0:Int)<=(i:Int)+1:=zo
      clear hq hc0 hd2 hbt2 he;go_wp2
      go_quiet (fail)
      clear hw4;obtain⟨w5,hw5⟩:=zn (w4.drewN nq);have HT5:=zz (HT4.out.drewN nq);rw[hw5] at HT5;rw[hw5];have c0:=HT5.out.at'.c0;have c1:=HT5.out.at'.c1;rw[hn] at c1;go_wp2
      go_quiet (fail)
      obtain⟨w6,hw6⟩:=zn (w5.drewN nq);have ht6:=HT5.out.drewN nq;rw[hw6] at ht6;rw[hw6];have d1:w6.cell? ⟨b,1,none⟩=some (.int .i64 ((i:Int)+1)):=by rw[<-hn];exact ht6.at'.1.cell 1
      have z1:=ht6.at'.1.fz 1;have hwr:IntKind.i64.wrap ((i:Int)+1+1)=(i:Int)+2:=by rw[IntWalk.i64_in _ zo];omega
      have ht7:=ht6.set hg (i+2) zo;rw[show ((i+2:Nat):Int)=(i:Int)+2 by omega] at ht7;have HT7:=zz ht7;clear hw5 hw6 c0 c1 ht6 ht7 HT4 HT5 HJ hlti2 hge2 he';have fin:∀W,zev w.heap.size (w6.setCell ⟨b,1,none⟩ (.int .i64 ((i:Int)+2))) W (acc++[zho d])->Hid (TV b S q w W (i+2) (acc++[zho d])):=λW hb=>zz (HT7.out.wrote hg hb);have FIN:=zz fin;have hd0:=d.toNat_lt;have hb2:acc.length+1<=140737488355328:=zo
      clear fin
      by_cases h110:y=110
      ·obtain rfl:d=110:=UInt8.toNat_inj.1 (by show d.toNat=110;omega);have KB:=zz (zjZ HT7.out.bld 10 10 rfl hb2);clear hd0;go_wp2_with fail;refine KB.out.mono ?_;rintro e w8 ⟨rfl,hb⟩;have HT8:=FIN.out w8 hb;have hm5:zfx w8 b=i+2:=HT8.out.at'.next;clear hb d1 z1;go_wp2;exact⟨⟨i+2,_,zo,by simp;omega,HO2,HT8⟩,zo⟩
      ·by_cases h116:y=116
       ·obtain rfl:d=116:=UInt8.toNat_inj.1 (by show d.toNat=116;omega);have KB:=zz (zjZ HT7.out.bld 9 9 rfl hb2);clear hd0;go_wp2_with fail;refine KB.out.mono ?_;rintro e w8 ⟨rfl,hb⟩;have HT8:=FIN.out w8 hb;have hm5:zfx w8 b=i+2:=HT8.out.at'.next;clear hb d1 z1;go_wp2;exact⟨⟨i+2,_,zo,by simp;omega,HO2,HT8⟩,zo⟩
       ·have hud:zho d=d:=by
         unfold zho;rw[if_neg (λe=>h110 (by rw[<-hy,e];rfl)),if_neg (λe=>h116 (by rw[<-hy,e];rfl))]
        rw[hud] at HO2 FIN;have KB:=zz (zjZ HT7.out.bld d y hy hb2);clear hd0 hud;go_wp2_with fail;refine KB.out.mono ?_;rintro e w8 ⟨rfl,hb⟩;have HT8:=FIN.out w8 hb;have hm5:zfx w8 b=i+2:=HT8.out.at'.next;clear hb d1 z1;go_wp2;exact⟨⟨i+2,_,zo,by simp;omega,HO2,HT8⟩,zo⟩
    ·have hc92:c≠92:=λe=>h92 (by rw[<-hx,e];rfl);rw[zpl _ _ hc34 hc92] at hq;have HO2:Hid ((zbO ((bl S).drop (i+1))).map (λp=>((acc++[c])++p.1,p.2))=O):=zz (by rw[<-hq,Option.map_map];congr 1;funext p;simp);have KB:=zz (zjZ HT4.out.bld c x hx zo);clear hq hc0 hc34 hc92;go_wp2_with fail;refine KB.out.mono ?_;rintro e w5 ⟨rfl,hb⟩;have HT5:=zz (HT4.out.wrote hg hb);have hm5:zfx w5 b=i+1:=HT5.out.at'.next;clear hb d1 z1 hm4;go_wp2;exact⟨⟨i+1,acc++[c],zo,by simp;omega,HO2,HT5⟩,zo⟩
  ·have hn:((bl S).drop i)=[]:=List.drop_eq_nil_of_le (by have:(bl S).length=S.size:=zai S;omega);have HN:Hid (O=none):=zz (by rw[<-HO.out,hn];rfl);have hlti:¬(i:Int)<(S.size:Int):=zo
   clear hn HO;go_wp2
   go_quiet (fail)
   go_wp2
   go_ret2
   exact⟨HT.out.own.drewN _,by rw[HN.out];exact⟨_,rfl⟩⟩
end Go.Proofs.YtcebmphappfjjaaGreatDoor
