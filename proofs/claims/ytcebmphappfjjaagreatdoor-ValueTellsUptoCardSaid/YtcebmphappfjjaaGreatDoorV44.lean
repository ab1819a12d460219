/- Conditions: those in each statement. -/
import Derived.Test.YtcebmphappfjjaaGreatDoorV43
import Derived.Test.YtcebmphappfjjaaGreatDoorV35
set_option maxHeartbeats 32000000
set_option maxRecDepth 100000
namespace Go.Proofs.YtcebmphappfjjaaGreatDoor
open Go.RowKit
mutual
def Pr:V->Prop
 |.mk k _ n _ _ l=>(k=7->0<=n/\n<=4096)/\Prs l
def Prs:List V->Prop
 |[]=>True
 |v::r=>Pr v/\Prs r
end
theorem zCE (u:Nat) (lo hi:Int) (h:u<=9007199254740992) (hl:lo<=u) (hh:u<=hi):zbD (lb (Lib.decDigits u)) lo hi=((u:Int),true):=by
 obtain⟨c,r,e,h1,h2⟩:=zuT u;have hd:=zvf u c (by rw[e];exact List.mem_cons_self ..);have hb:zak (lb (Lib.decDigits u)) 0=(c.toNat:Int):=by rw[e,zvA];rfl
 have hs:(lb (Lib.decDigits u)).size=r.length+1:=by rw[e];simp[ByteArray.size]
 have hc:48<=c.toNat/\c.toNat<=57:=by
  unfold digB at hd;simp only[Bool.and_eq_true,decide_eq_true_eq,UInt8.le_iff_toNat_le] at hd;exact hd
 unfold zbD
 rw[hb,hs,if_neg zo,if_neg zo,if_neg (by
  intro ⟨h3,h4⟩;have:c=48:=UInt8.toNat_inj.1 (by show c.toNat=48;omega);rcases Nat.eq_zero_or_pos u with h5|h5
  ·rw[h2 h5] at h4;exact h4 rfl
  ·exact h1 h5 this)]
 rw[show (lb (Lib.decDigits u)).data.toList=Lib.decDigits u by simp,zvX u h];unfold zcU;simp only;rw[if_neg zs,if_neg zo,if_neg zo];simp
theorem zCC (n:Int) (h:inRg n):zbD (lb (Lib.itoa n)) (-9007199254740992) 9007199254740992=(n,true):=by
 obtain⟨h1,h2⟩:=h;unfold Lib.itoa
 split
 ·rw[zwX _ zo zo]
  congr 1
  omega
 ·rw[zxj _ zo]
  congr 1
  omega
theorem zDi:∀(s rest:List UInt8),rqL (s.flatMap escL++34::rest)=some (s,rest)
 |[],rest=>by rw[List.flatMap_nil,List.nil_append,rq_q]
 |c::s,rest=>by
  rw[List.flatMap_cons,List.append_assoc];have ih:=zDi s rest;generalize List.flatMap escL s++34::rest=tl at ih ⊢
  have key:∀d,(d=110\/d=116\/d=34\/d=92)->rqL (92::d::tl)=some (zho d::s,rest):=λd hd=>by
   rw[rqL,if_neg zd,if_pos rfl,if_pos hd,ih]
   rfl
  unfold escL
  split
  ·rename_i h;subst h;exact key 110 zs
  ·split
   ·rename_i h;subst h;exact key 116 zs
   ·split
    ·rename_i h;rcases h with rfl|rfl
     ·exact key 34 zs
     ·exact key 92 zs
    ·rename_i h1 h2 h;rw[List.cons_append,List.nil_append,rq_c _ _ (λe=>h (.inl e)) (λe=>h (.inr e)),ih]
     rfl
def zCl (r:List UInt8):Prop:=∀c s,r=c::s->c=44\/c=93\/c=125\/c=41
theorem zCM {c:UInt8} {r:List UInt8} (h:c=44\/c=93\/c=125\/c=41):zCl (c::r):=λc' s e=>by
 injection e with e1 _;rw[<-e1];exact h
theorem zDa:zCl []:=λc s h=>by cases h
theorem zCX {r:List UInt8} (h:zCl r) (p:UInt8->Bool) (h1:p 44=false) (h2:p 93=false) (h3:p 125=false) (h4:p 41=false):∀c s,r=c::s->p c=false:=λc s e=>by
 rcases h c s e with rfl|rfl|rfl|rfl<;>assumption
theorem zAM {r:List UInt8} (h:zCl r) (a:UInt8) (ha:¬(a=44\/a=93\/a=125\/a=41)):pre [a] r=none:=by
 cases r with
 |nil=>rfl
 |cons c s=>exact zbS (λe=>ha (e▸h c s rfl))
theorem zEx {c:UInt8} (h:nmB c=true):whB true [45] c=true:=by
 unfold nmB at h;unfold whB;simp only[Bool.or_eq_true,Bool.and_eq_true] at h ⊢;rcases h with ((h|h)|h)|h
 ·exact .inl (.inl ⟨trivial,.inl (.inl h)⟩)
 ·exact .inl (.inl ⟨trivial,.inl (.inr h)⟩)
 ·exact .inl (.inr h)
 ·exact .inl (.inl ⟨trivial,.inr h⟩)
theorem zDh {c:UInt8} (w:Bool) (l:List UInt8) (h:digB c=true):whB w l c=true:=by
 unfold whB;rw[h];simp
theorem zEv {c:UInt8} (h:ptB c=true):whB false [46] c=true:=by
 unfold ptB at h;unfold whB;simp only[Bool.or_eq_true,beq_iff_eq] at h;rcases h with h|h
 ·rw[h];simp
 ·subst h;rfl
theorem zEh (n:Int):∀x∈Lib.itoa n,whB true [45] x=true:=by
 unfold Lib.itoa
 split
 ·intro x hx;rcases List.mem_cons.1 hx with rfl|hx
  ·rfl
  ·exact zDh _ _ (zvf _ x hx)
 ·exact λx hx=>zDh _ _ (zvf _ x hx)
theorem zDS (it:UInt8->Option (List UInt8)->List V × Option (List UInt8)) {c:UInt8} {r:List UInt8} (h1:c≠40) (h2:c≠116) (h3:c≠102) (h4:c≠34) (h5:c≠91):zAo it (some (c::r))=zAf it ((c::r).takeWhile (whB true [45])) (some ((c::r).dropWhile (whB true [45]))):=by
 unfold zAo;rw[show hasL [40,41] (some (c::r))=none from zbS (Ne.symm h1),show hasL [116,114,117,101] (some (c::r))=none from zbS (Ne.symm h2),show hasL [102,97,108,115,101] (some (c::r))=none from zbS (Ne.symm h3),show hasL [34] (some (c::r))=none from zbS (Ne.symm h4),show hasL [91] (some (c::r))=none from zbS (Ne.symm h5)]
 rfl
theorem zEw {c:UInt8} (hc:upB c=true):c≠40/\c≠116/\c≠102/\c≠34/\c≠91:=by
 refine⟨?_,?_,?_,?_,?_⟩<;>(rintro rfl;revert hc;decide)
theorem zEo {c:UInt8} (hc:c=45\/digB c=true):c≠40/\c≠116/\c≠102/\c≠34/\c≠91:=by
 refine⟨?_,?_,?_,?_,?_⟩<;>(rintro rfl;revert hc;decide)
theorem zBM (it:UInt8->Option (List UInt8)->List V × Option (List UInt8)) {t:ByteArray} (ht:isTy t) (d:UInt8) (hd:whB true [45] d=false) (r:List UInt8):zAo it (some (bl t++d::r))=zAf it (bl t) (some (d::r)):=by
 obtain⟨c,z,e,hc,ha⟩:=ht;have h:=zjF (p:=whB true [45]) (bl t) (d::r) (by rw[e];exact λx hx=>zEx (ha x hx)) (λc' s' e'=>by injection e' with e1 _;rw[<-e1];exact hd);obtain⟨n1,n2,n3,n4,n5⟩:=zEw hc;have h1:=h.1;have h2:=h.2;rw[e] at h1 h2 ⊢;rw[List.cons_append] at h1 h2 ⊢;rw[zDS it n1 n2 n3 n4 n5,h1,h2]
set_option linter.unusedSectionVars false
mutual
theorem zAE:∀v:V,Pl v->Pr v->∀(f:Nat) (rest:List UInt8),fuV v<=f->zCl rest->zzz f (some (zfO Lib.itoa v++rest))=(v,some rest)
 |.mk k t n m s l,h,h7,f,rest,hf,hr=>by
  rw[Pl] at h;rw[Pr] at h7;rw[fuV] at hf;obtain⟨rfl,h⟩:=h;obtain⟨f,rfl⟩:∃g,f=g+1:=⟨f-1,zo⟩;have IH:Pls l->∀(e:UInt8),(e=93\/e=125\/e=41)->∀rest,zzv (λe s=>zzs f e s) e (some (zbP Lib.itoa l true++e::rest))=(l,some rest):=λhl e he rest=>zCq l hl h7.2 f e rest zo he;rw[zfO,zzz]
  show zAo (λe s=>zzs f e s) _=_
  rcases h with ⟨rfl,rfl,rfl,rfl,rfl⟩|⟨rfl,rfl,hn,rfl,rfl⟩|⟨rfl,rfl,hn,rfl,rfl⟩|⟨rfl,rfl,rfl,rfl⟩|⟨rfl,rfl,rfl,rfl,hl⟩|⟨rfl,ht,rfl,rfl,hl⟩|⟨rfl,ht,hn,rfl,hl⟩|⟨rfl,ht,rfl,hp,rfl⟩
  ·rw[if_pos rfl];unfold zAo
   rfl
  ·rw[if_neg zd,if_pos rfl];rcases hn with rfl|rfl
   ·rw[if_neg zd];rfl
   ·rw[if_pos rfl];rfl
  ·rw[if_neg zd,if_neg zd,if_pos rfl];obtain⟨c,z,ec,hc⟩:=zxV n;obtain⟨n1,n2,n3,n4,n5⟩:=zEo hc;have hw:=zjF (p:=whB true [45]) (Lib.itoa n) rest (zEh n) (zCX hr _ zd zd zd zd);have h1:=hw.1;have h2:=hw.2;have h3:=zCC n hn;rw[ec] at h1 h2 h3 ⊢;rw[List.cons_append] at h1 h2 ⊢;rw[zDS _ n1 n2 n3 n4 n5,h1,h2];unfold zAf;rw[show hasL [123] (some rest)=none from zAM hr _ zd,show hasL [35] (some rest)=none from zAM hr _ zd,show hasL [64] (some rest)=none from zAM hr _ zd]
   show (V.mk 3 _ _ _ _ _,_)=_
   unfold zBO;rw[h3]
   rfl
  ·rw[if_neg zd,if_neg zd,if_neg zd,if_pos rfl];have hq:=zDi (bl s) rest;have e:(34::zoS (bl s))++rest=34::((bl s).flatMap escL++34::rest):=by simp[zoS]
   rw[e];unfold zAo
   show (V.mk 4 _ 0 0 (lb (((rqL ((bl s).flatMap escL++34::rest)).map Prod.fst).getD [])) [],(rqL ((bl s).flatMap escL++34::rest)).map Prod.snd)=_
   rw[hq];simp
  ·have:=IH hl 93 zs rest;rw[if_neg zd,if_neg zd,if_neg zd,if_neg zd,if_pos rfl];have e:(91::(zbP Lib.itoa l true++[93]))++rest=91::(zbP Lib.itoa l true++93::rest):=by simp
   rw[e];unfold zAo
   show (V.mk 5 _ 0 0 _ (zzv _ 93 (some (zbP Lib.itoa l true++93::rest))).1,(zzv _ 93 (some (zbP Lib.itoa l true++93::rest))).2)=_
   rw[this]
  ·have:=IH hl 125 zs rest;rw[if_neg zd,if_neg zd,if_neg zd,if_neg zd,if_neg zd,if_pos rfl];have e:(bl t++123::(zbP Lib.itoa l true++[125]))++rest=bl t++123::(zbP Lib.itoa l true++125::rest):=by simp
   rw[e,zBM _ ht 123 zd];unfold zAf
   show (V.mk 6 _ 0 0 _ (zzv _ 125 (some (zbP Lib.itoa l true++125::rest))).1,(zzv _ 125 (some (zbP Lib.itoa l true++125::rest))).2)=_
   rw[this,zuE]
  ·have:=IH hl 41 zs rest;rw[if_neg zd,if_neg zd,if_neg zd,if_neg zd,if_neg zd,if_neg zd,if_pos rfl];obtain⟨h0,h4⟩:=h7.1 rfl
   have e:(bl t++35::(Lib.itoa n++40::(zbP Lib.itoa l true++[41])))++rest=bl t++35::(Lib.decDigits n.toNat++40::(zbP Lib.itoa l true++41::rest)):=by
    unfold Lib.itoa;rw[if_neg zo];simp
   rw[e,zBM _ ht 35 zd];have hw:=zjF (p:=whB false []) (Lib.decDigits n.toNat) (40::(zbP Lib.itoa l true++41::rest)) (λx hx=>zDh _ _ (zvf _ x hx)) (λc' s' e'=>by injection e' with e1 _;rw[<-e1];decide);have hp:=zCE n.toNat 0 4096 zo zo zo;unfold zAf
   show (V.mk 7 _ (zbD (lb (whL (whB false []) (some (Lib.decDigits n.toNat++40::(zbP Lib.itoa l true++41::rest)))).1) 0 4096).1 0 _ (zzv _ 41 (zAl (whL (whB false []) (some (Lib.decDigits n.toNat++40::(zbP Lib.itoa l true++41::rest)))))).1,(zzv _ 41 (zAl (whL (whB false []) (some (Lib.decDigits n.toNat++40::(zbP Lib.itoa l true++41::rest)))))).2)=_
   have hwl:whL (whB false []) (some (Lib.decDigits n.toNat++40::(zbP Lib.itoa l true++41::rest)))=(Lib.decDigits n.toNat,some (40::(zbP Lib.itoa l true++41::rest))):=by
    show (List.takeWhile _ _,some (List.dropWhile _ _))=_
    rw[hw.1,hw.2]
   have hrc:zAl (Lib.decDigits n.toNat,some (40::(zbP Lib.itoa l true++41::rest)))=some (zbP Lib.itoa l true++41::rest):=by
    unfold zAl;rw[hp]
    rfl
   rw[hwl,hrc,this,hp,zuE];simp only;rw[show ((n.toNat:Nat):Int)=n by omega]
  ·rw[if_neg zd,if_neg zd,if_neg zd,if_neg zd,if_neg zd,if_neg zd,if_neg zd];have e:(bl t++64::bl s)++rest=bl t++64::(bl s++rest):=by simp
   rw[e,zBM _ ht 64 zd];have hw:=zjF (p:=whB false [46]) (bl s) rest (λx hx=>zEv (hp x hx)) (zCX hr _ zd zd zd zd);unfold zAf
   show (V.mk 8 _ 0 0 (lb ((bl s++rest).takeWhile (whB false [46]))) [],some ((bl s++rest).dropWhile (whB false [46])))=_
   rw[hw.1,hw.2,zuE,zuE]
termination_by _v _h _h7 f=>2*f
theorem zCq:∀l:List V,Pls l->Prs l->∀(f:Nat) (e:UInt8) (rest:List UInt8),fuVs l<=f->(e=93\/e=125\/e=41)->zzv (λe s=>zzs f e s) e (some (zbP Lib.itoa l true++e::rest))=(l,some rest)
 |[],_,_,f,e,rest,hf,he=>by
  rw[zbP,List.nil_append];unfold zzv;rw[show hasL [e] (some (e::rest))=some rest from zmi [e] rest]
 |v::r,h,h7,f,e,rest,hf,he=>by
  have hi:=zAF v r h h7 f e rest hf he;obtain⟨c,z,ec,h1,h2,h3⟩:=zpI Lib.itoa (λn _=>zxV n) v h.1;rw[zbP,if_pos rfl,List.nil_append,List.append_assoc];rw[ec,List.cons_append] at hi ⊢;unfold zzv;rw[show hasL [e] (some (c::(z++(zbP Lib.itoa r false++e::rest))))=none from zbS (by rintro rfl;rcases he with he|he|he<;>contradiction)];exact hi
termination_by _l _h _h7 f=>2*f+1
theorem zAF:∀(v:V) (r:List V),Pls (v::r)->Prs (v::r)->∀(f:Nat) (e:UInt8) (rest:List UInt8),fuVs (v::r)<=f->(e=93\/e=125\/e=41)->zzs f e (some (zfO Lib.itoa v++(zbP Lib.itoa r false++e::rest)))=(v::r,some rest)
 |v,[],h,h7,f,e,rest,hf,he=>by
  rw[fuVs] at hf;obtain⟨f,rfl⟩:∃g,f=g+1:=⟨f-1,zo⟩;have hs:zCl (e::rest):=zCM (by rcases he with rfl|rfl|rfl<;>simp);have:=zAE v h.1 h7.1 f (e::rest) zo hs;rw[zbP,List.nil_append,zzs]
  show ritI (zzz f _) _ e=_
  rw[this];unfold ritI;rw[show hasL [e] (v,some (e::rest)).2=some rest from zmi [e] rest]
 |v,x::r,h,h7,f,e,rest,hf,he=>by
  rw[fuVs] at hf;obtain⟨f,rfl⟩:∃g,f=g+1:=⟨f-1,zo⟩;have h1:=zAE v h.1 h7.1 f (44::32::(zfO Lib.itoa x++(zbP Lib.itoa r false++e::rest))) zo (zCM zs);have h2:=zAF x r h.2 h7.2 f e rest zo he;have e1:zbP Lib.itoa (x::r) false++e::rest=44::32::(zfO Lib.itoa x++(zbP Lib.itoa r false++e::rest)):=by rw[zbP];simp
  rw[e1,zzs]
  show ritI (zzz f _) _ e=_
  rw[h1];unfold ritI;rw[show hasL [e] (v,some (44::32::(zfO Lib.itoa x++(zbP Lib.itoa r false++e::rest)))).2=none from zbS (by rcases he with rfl|rfl|rfl<;>decide)];rw[show hasL [44,32] (v,some (44::32::(zfO Lib.itoa x++(zbP Lib.itoa r false++e::rest)))).2=some (zfO Lib.itoa x++(zbP Lib.itoa r false++e::rest)) from zmi [44,32] _]
  show (match (zzs f e (some (zfO Lib.itoa x++(zbP Lib.itoa r false++e::rest)))).2 with|some r2=>(v::(zzs f e (some (zfO Lib.itoa x++(zbP Lib.itoa r false++e::rest)))).1,some r2)|none=>([],none))=_
  rw[h2]
termination_by _v _r _h _h7 f=>2*f
end
theorem zCZ (p:UInt8->Bool) (s:List UInt8):(s.takeWhile p).length+(s.dropWhile p).length=s.length:=by
 rw[<-List.length_append,List.takeWhile_append_dropWhile]
theorem zAJ (l:List UInt8):(lb l).size=l.length:=by simp[ByteArray.size]
theorem zCY:∀(r l r':List UInt8),rqL r=some (l,r')->l.length+r'.length<=r.length
 |[],l,r',h=>by cases h
 |[c],l,r',h=>by
  rw[rqL] at h
  split at h
  ·cases h;simp
  ·cases h
 |c::d::r,l,r',h=>by
  rw[rqL] at h
  split at h
  ·cases h;simp
  ·split at h
   ·split at h
    ·cases hr:rqL r with
     |none=>rw[hr] at h;cases h
     |some p=>rw[hr] at h;cases h;have:=zCY r p.1 p.2 hr;simp;omega
    ·cases h
   ·cases hr:rqL (d::r) with
    |none=>rw[hr] at h;cases h
    |some p=>rw[hr] at h;cases h;have:=zCY (d::r) p.1 p.2 hr;simp at this;simp;omega
section
variable {it:UInt8->Option (List UInt8)->List V × Option (List UInt8)}
theorem zAs (h0:∀e,it e none=([],none)) (H:∀e r r',(it e (some r)).2=some r'->zcl (it e (some r)).1+8*r'.length<=8*r.length) {e:UInt8} {st:Option (List UInt8)} {r':List UInt8} (h:(zzv it e st).2=some r'):∃r,st=some r/\zcl (zzv it e st).1+8*r'.length<=8*r.length:=by
 unfold zzv at h ⊢;cases st with
 |none=>
  rw[show hasL [e] none=none from rfl] at h;have h:(it e none).2=some r':=h;rw[h0] at h;cases h
 |some r=>
  refine⟨r,rfl,?_⟩;cases h1:hasL [e] (some r) with
  |some r1=>
   rw[h1] at h;cases h;have:=zzu (show pre [e] r=some r' from h1);simp at this
   show zcl []+_<=_
   rw[zcl];omega
  |none=>
   rw[h1] at h;exact H e r r' h
theorem zCJ (h0:∀e,it e none=([],none)) (H:∀e r r',(it e (some r)).2=some r'->zcl (it e (some r)).1+8*r'.length<=8*r.length) {s r r':List UInt8} (h:(zAf it s (some r)).2=some r'):(zAf it s (some r)).1.bulk+8*r'.length<=8*s.length+8*r.length:=by
 have hz:(⟨#[]⟩:ByteArray).size=0:=rfl;unfold zAf at h ⊢;cases h1:hasL [123] (some r) with
 |some r1=>
  rw[h1] at h;obtain⟨r2,e,h2⟩:=zAs h0 H h;cases e;have:=zzu (show pre [123] r=some r1 from h1)
  show (V.mk 6 (lb s) 0 0 ⟨#[]⟩ (zzv it 125 (some r1)).1).bulk+_<=_
  rw[zbv,zAJ,hz];simp at this;omega
 |none=>
  rw[h1] at h;cases h2:hasL [35] (some r) with
  |some r1=>
   rw[h2] at h;obtain⟨r2,e,h3⟩:=zAs h0 H h;have h4:=zzu (show pre [35] r=some r1 from h2);have e9:=e;unfold zAl at e
   split at e
   ·have h5:=zzu (show pre [40] (r1.dropWhile (whB false []))=some r2 from e);have:=zBS (whB false []) r1
    show (V.mk 7 (lb s) _ 0 ⟨#[]⟩ (zzv it 41 (zAl (whL (whB false []) (some r1)))).1).bulk+_<=_
    rw[zbv,zAJ,hz];simp at h4;omega
   ·cases e
  |none=>
   rw[h2] at h;cases h3:hasL [64] (some r) with
   |some r1=>
    rw[h3] at h;have h4:=zzu (show pre [64] r=some r1 from h3);have h:some (r1.dropWhile (whB false [46]))=some r':=h;cases h;have:=zCZ (whB false [46]) r1
    show (V.mk 8 (lb s) 0 0 (lb (r1.takeWhile (whB false [46]))) []).bulk+_<=_
    rw[zbv,zAJ,zAJ,zcl];simp at h4;omega
   |none=>
    rw[h3] at h;have h:zBO s (some r)=some r':=h;unfold zBO at h
    split at h
    ·rename_i hp;cases h;cases s with
     |nil=>rw[zAR] at hp;cases hp
     |cons a l=>
      show (V.mk 3 ⟨#[]⟩ _ 0 ⟨#[]⟩ []).bulk+_<=_
      rw[zbv,hz,zcl];simp;omega
    ·cases h
theorem zCN (h0:∀e,it e none=([],none)) (H:∀e r r',(it e (some r)).2=some r'->zcl (it e (some r)).1+8*r'.length<=8*r.length) {r r':List UInt8} (h:(zAo it (some r)).2=some r'):(zAo it (some r)).1.bulk+8*r'.length<=8*r.length:=by
 have hz:(⟨#[]⟩:ByteArray).size=0:=rfl;unfold zAo at h ⊢;cases h1:hasL [40,41] (some r) with
 |some r1=>rw[h1] at h;cases h;have:=zzu (show pre [40,41] r=some r' from h1);simp at this;simp only[];rw[zbv,hz,zcl];omega
 |none=>
 rw[h1] at h;cases h1:hasL [116,114,117,101] (some r) with
 |some r1=>rw[h1] at h;cases h;have:=zzu (show pre [116,114,117,101] r=some r' from h1);simp at this;simp only[];rw[zbv,hz,zcl];omega
 |none=>
 rw[h1] at h;cases h1:hasL [102,97,108,115,101] (some r) with
 |some r1=>rw[h1] at h;cases h;have:=zzu (show pre [102,97,108,115,101] r=some r' from h1);simp at this;simp only[];rw[zbv,hz,zcl];omega
 |none=>
 rw[h1] at h;cases h1:hasL [34] (some r) with
 |some r1=>
  rw[h1] at h;have h:(rqL r1).map Prod.snd=some r':=h;have h2:=zzu (show pre [34] r=some r1 from h1);cases hq:rqL r1 with
  |none=>rw[hq] at h;cases h
  |some p=>
   rw[hq] at h;cases h;have:=zCY r1 p.1 p.2 hq
   show (V.mk 4 ⟨#[]⟩ 0 0 (lb (((rqL r1).map Prod.fst).getD [])) []).bulk+_<=_
   rw[hq,zbv,hz,zAJ,zcl];simp at h2
   show 7+0+p.1.length+0+_<=_
   omega
 |none=>
 rw[h1] at h;cases h1:hasL [91] (some r) with
 |some r1=>
  rw[h1] at h;obtain⟨r2,e,h2⟩:=zAs h0 H h;cases e;have:=zzu (show pre [91] r=some r1 from h1)
  show (V.mk 5 ⟨#[]⟩ 0 0 ⟨#[]⟩ (zzv it 93 (some r1)).1).bulk+_<=_
  rw[zbv,hz];simp at this;omega
 |none=>
 rw[h1] at h;have:=zCJ h0 H (s:=r.takeWhile (whB true [45])) (r:=r.dropWhile (whB true [45])) h;have h2:=zCZ (whB true [45]) r
 show (zAf it (r.takeWhile (whB true [45])) (some (r.dropWhile (whB true [45])))).1.bulk+_<=_
 omega
end
theorem zCO:∀f:Nat,(∀r r',(zzz f (some r)).2=some r'->(zzz f (some r)).1.bulk+8*r'.length<=8*r.length)/\(∀e r r',(zzs f e (some r)).2=some r'->zcl (zzs f e (some r)).1+8*r'.length<=8*r.length)
 |0=>⟨λr r' h=>(by rw[zzz] at h;cases h),λe r r' h=>(by rw[zzs] at h;cases h)⟩
 |f+1=>by
  obtain⟨ih1,ih2⟩:=zCO f;refine⟨λr r' h=>?_,λe r r' h=>?_⟩
  ·rw[zzz] at h ⊢;exact zCN (λe=>zzO f e) ih2 h
  ·rw[zzs] at h ⊢;have h:(ritI (zzz f (some r)) (λe s=>zzs f e s) e).2=some r':=h
   show zcl (ritI (zzz f (some r)) (λe s=>zzs f e s) e).1+_<=_
   unfold ritI at h ⊢;obtain⟨x,hx⟩:=zn (zzz f (some r));have i1:=ih1 r;rw[hx] at h i1 ⊢;obtain⟨v,st⟩:=x;cases st with
   |none=>cases h
   |some r0=>
    have i1:=i1 r0 rfl
    have h:(match hasL [e] (some r0) with
     |some r1=>([v],some r1)
     |none=>match hasL [44,32] (some r0) with
     |some r1=>(match (zzs f e (some r1)).2 with|some r2=>(v::(zzs f e (some r1)).1,some r2)|none=>([],none))
     |none=>([],none):List V × Option (List UInt8)).2=some r':=h
    show zcl (match hasL [e] (some r0) with
     |some r1=>([v],some r1)
     |none=>match hasL [44,32] (some r0) with
     |some r1=>(match (zzs f e (some r1)).2 with|some r2=>(v::(zzs f e (some r1)).1,some r2)|none=>([],none))
     |none=>([],none):List V × Option (List UInt8)).1+_<=_
    have i1:v.bulk+8*r0.length<=8*r.length:=i1;cases h1:hasL [e] (some r0) with
    |some r1=>
     rw[h1] at h;cases h;have:=zzu (show pre [e] r0=some r' from h1)
     show zcl [v]+_<=_
     rw[zbK,zcl];simp at this;omega
    |none=>
     rw[h1] at h;cases h3:hasL [44,32] (some r0) with
     |none=>rw[h3] at h;cases h
     |some r1=>
      rw[h3] at h;have h4:=zzu (show pre [44,32] r0=some r1 from h3);have i2:=ih2 e r1;have h:(match (zzs f e (some r1)).2 with|some r2=>(v::(zzs f e (some r1)).1,some r2)|none=>([],none):List V × Option (List UInt8)).2=some r':=h;cases h5:zzs f e (some r1) with
      |mk l s5=>
      rw[h5] at i2 h;cases s5 with
      |none=>cases h
      |some r2=>
       cases h;have i2:=i2 r' rfl
       show zcl (match (zzs f e (some r1)).2 with|some r2=>(v::(zzs f e (some r1)).1,some r2)|none=>([],none):List V × Option (List UInt8)).1+_<=_
       rw[h5]
       show zcl (v::l)+_<=_
       rw[zbK];have i2:zcl l+8*r'.length<=8*r1.length:=i2;simp at h4;omega
mutual
theorem zBE:∀(v:V) (a b:Nat),zbk zdZ v a=(true,b)->Pr v
 |.mk k t n m s l,a,b,h=>by
  rw[zbk] at h
  split at h
  ·cases h
  ·rename_i hn;rw[not_or] at hn;rw[Pr];refine⟨?_,zBF l _ _ h⟩;rintro rfl;have h2:zdZ (.mk 7 t n m s l)=true:=by simpa using hn.2
   unfold zdZ at h2;simp only[Bool.and_eq_true] at h2;have h3:zlY t n m s=true:=h2.2;unfold zlY at h3;simp only[Bool.and_eq_true,beq_iff_eq,decide_eq_true_eq] at h3;omega
theorem zBF:∀(l:List V) (a b:Nat),zbm zdZ l a=(true,b)->Prs l
 |[],a,b,h=>by rw[Prs];trivial
 |v::r,a,b,h=>by
  rw[zbm] at h
  split at h
  ·rename_i hv;rw[Prs];exact⟨zBE v a (zbk zdZ v a).2 (by rw[<-hv]),zBF r _ _ h⟩
  ·cases h
end
theorem zCK {v:V} (h:zfN v=true):Pr v:=zBE v 16384 (zbk zdZ v 16384).2 (by unfold zfN at h;rw[<-h])
def zDg (s:ByteArray):V × Bool:=
 match (zzz 100000 (some (bl s))).2 with
 |some []=>if (zoQ (zzz 100000 (some (bl s))).1).toList == s.toList then ((zzz 100000 (some (bl s))).1,true) else (vE,false)
 |_=>(vE,false)
theorem zCW (s:ByteArray):zDg s=zeR s:=by
 obtain⟨x,hx⟩:=zn (zzz 100000 (some (bl s)))
 have key:zeR s=if x.2=some []/\zoQ x.1=s then (x.1,true) else (vE,false):=by
  split
  ·rename_i h;obtain⟨h1,h2⟩:=h;cases hp:zfN x.1 with
   |true=>rw[<-h2];exact zwR hp
   |false=>
    exfalso
    unfold zoQ at h2;rw[hp] at h2;have h2:(⟨#[]⟩:ByteArray)=s:=h2;have h3:=(zEc 100000).1 (bl s) [] (by rw[hx];exact h1);rw[<-h2] at h3;exact absurd h3 (Nat.lt_irrefl 0)
  ·rename_i h;cases hp:(zeR s).2 with
   |false=>
    have h1:=zzl hp
    show zeR s=(vZ,false)
    rw[<-h1,<-hp]
   |true=>
    exfalso
    apply h;obtain⟨h1,h2⟩:=zzg hp;obtain⟨h3,h4⟩:=zrm h2;have h5:=zuy (zeR s).1;have h6:=zAE (zeR s).1 h3 (zCK h2) 100000 [] zo zDa
    have e:zfO Lib.itoa (zeR s).1++[]=bl s:=by
     rw[List.append_nil];unfold zoQ at h1;rw[if_pos h2] at h1;exact congrArg bl h1
    rw[e,hx] at h6;rw[h6];exact⟨rfl,h1⟩
 rw[key];unfold zDg;rw[hx];clear key;obtain⟨v,st⟩:=x;cases st with
 |none=>exact(if_neg (λh=>by have:=h.1;cases this)).symm
 |some r=>
  cases r with
  |cons c r=>exact(if_neg (λh=>by have:=h.1;cases this)).symm
  |nil=>
   show (if ((zoQ v).toList == s.toList)=true then (v,true) else (vE,false))=_
   by_cases h:zoQ v=s
   ·rw[if_pos (by rw[h];simp),if_pos ⟨rfl,h⟩]
   ·rw[if_neg (λe=>h (zbX (eq_of_beq e))),if_neg (λe=>h e.2)]
end Go.Proofs.YtcebmphappfjjaaGreatDoor
