/- Texts of this claim, joined: Chk, Ck, RevB, Brit, Brit2, RepP, RepS, Same, Inv5. -/
import Derived.Test.YtabafgphmbdpgaaGreatDoorTd1
import Derived.Test.YtabafgphmbdpgaaGreatDoorTd3
import Derived.Test.YtabafgphmbdpgaaGreatDoorTd26
import Derived.Test.YtabafgphmbdpgaaGreatDoorTd29
import Derived.Test.YtabafgphmbdpgaaGreatDoorTd30
import Derived.Test.YtabafgphmbdpgaaGreatDoorTd31
import Derived.Test.YtabafgphmbdpgaaGreatDoorTd33
import Derived.Deep.AppendLies
set_option maxHeartbeats 8000000
set_option maxRecDepth 100000
namespace Sr
open Go Go.Proofs Go.RowKit Go.Maps Go.WideMaps
abbrev Stp:=Int×List UInt8
def SRd (w:World)(v:Value)(S:List Stp): Prop:=∃ a c,v=.slice a S.length c∧∀ (j:Nat) (s:Stp),S[j]? = some s→(-9223372036854775808≤s.1∧s.1≤9223372036854775807)∧∃ g u,a=some ⟨g,0,none⟩∧w.cell? ⟨g,j*2,none⟩=some (.int .i64 s.1)∧w.cell? ⟨g,j*2+1,none⟩=some u∧BRow w u s.2
theorem SRd.below {w w':World}{v:Value}{S:List Stp}(h:SRd w v S)(hb:Below w.heap.size w w'): SRd w' v S:=by
 obtain⟨a,c,h0,h1⟩:=h
 refine⟨a,c,h0,fun j s hs=>?_⟩
 obtain⟨k0,g,u,k1,k2,k3,k4⟩:=h1 j s hs
 exact⟨k0,g,u,k1,jQ hb k2,jQ hb k3,jK k4 hb⟩
theorem SRd.fr {B:Nat}{W w w':World}{v:Value}{S:List Stp}(h:SRd W v S)(hB:Below B W w')(hs:W.heap.size≤B): SRd w' v S:=by
 have:=w
 exact h.below ⟨hB.os,hB.tape,hB.output,hB.size,fun k hk=>hB.block k (by omega)⟩
structure CkV (b2 b3:Nat)(o:List UInt8)(G:List E3)(qu qv qm:Option Addr)(w:World): Prop where
 el:IsE w (.agg #[.pointer qu,.pointer qv,.pointer qm]) (endE o G)
 v2:w.heap[b2]? = some (.cells #[.int .i64 o.length] 3 (0,0))
 v3:w.heap[b3]? = some (.cells #[.pointer qu,.pointer qv,.pointer qm] 28 (0,0))
theorem CkV.set {b2 b3:Nat}{o:List UInt8}{G:List E3}{qu qv qm:Option Addr}{w:World}(h:CkV b2 b3 o G qu qv qm w){b k:Nat}{c:Array Value}{z:Nat×Nat}(hb:w.heap[b]? = some (.cells c 29 z))(v:Value):
 CkV b2 b3 o G qu qv qm (w.setCell ⟨b,k,none⟩ v):={
 el:=h.el.set hb v
 v2:=(jS _ _ _ _ (jI h.v2 hb (by decide))).trans h.v2
 v3:=(jS _ _ _ _ (jI h.v3 hb (by decide))).trans h.v3 }
section
abbrev bcl (l:List UInt8): List Value:=l.map fun b=>Value.int .u8 (b.toNat:Nat)
variable {l:List UInt8} {i g nf:Nat}
theorem bcl_get {b:UInt8}(h:l[i]? = some b): (bcl l)[i]? = some (.int .u8 (b.toNat:Nat)):=by
 rw[List.getElem?_map,h];rfl
def BFr (w:World)(g n nf:Nat)(l:List UInt8): Prop:=l.length=n∧n≤nf∧∃ cur,w.heap[g]? = some (.cells cur 5 (nf,nf+1))∧n≤cur.size∧cur.toList.take n=bcl l
theorem BFr.cell {w:World}{g n nf:Nat}{l:List UInt8}(h:BFr w g n nf l){i:Nat}{b:UInt8}(hb:l[i]? = some b): w.cell? ⟨g,i,none⟩=some (.int .u8 (b.toNat:Nat))∧w.frozen? ⟨g,i,none⟩=false:=by
 obtain⟨h1,h2,cur,h3,h4,h5⟩:=h
 have hi:i<l.length:=(jL hb).1
 have e:=bcl_get hb
 rw[← h5,List.getElem?_take_of_lt (by omega),Array.getElem?_toList] at e
 refine⟨by simp[World.cell?,h3,e],?_⟩
 simp[World.frozen?,h3]
 omega
theorem BFr.set {w:World}{g n nf i:Nat}{l:List UInt8}(t:UInt8)(h:BFr w g n nf l): BFr (w.setCell ⟨g,i,none⟩ (.int .u8 (t.toNat:Nat))) g n nf (l.set i t):=by
 obtain⟨h1,h2,cur,h3,h4,h5⟩:=h
 have k1:(w.setCell ⟨g,i,none⟩ (.int .u8 (t.toNat:Nat))).heap[g]? = some (.cells (cur.setIfInBounds i (.int .u8 (t.toNat:Nat))) 5 (nf,nf+1)):=by
  obtain⟨hlt,he⟩:=jA h3
  unfold World.setCell
  simp only[Option.isSome_none,Bool.false_eq_true,if_false]
  show (w.heap.modify g _)[g]? = _
  rw[Array.getElem?_eq_getElem (by simpa using hlt),Array.getElem_modify,if_pos rfl,he]
 refine⟨by simpa using h1,h2,_,k1,by simpa using h4,?_⟩
 rw[Array.toList_setIfInBounds,List.take_set,h5]
 show _=List.map _ (l.set i t)
 rw[List.map_set]
theorem BFr.drew {w:World}{g n nf:Nat}{l:List UInt8}(h:BFr w g n nf l): BFr w.drew g n nf l:=h
theorem reverseB_calls {W:World}{ca:Nat}(hl:BFr W g l.length nf l)(hlen:l.length≤1000000000000):
 Calls Tryz.prog 57 #[.slice (some ⟨g,0,none⟩) l.length ca] W fun e W'=>e=.returned (.tuple #[])∧Hid (BFr W' g l.length nf l.reverse)∧Hid (W.grownBy W' (some g)):=by
 have Hl:Hid (BFr W g l.length nf l):=hl
 clear hl
 have hw1:IntKind.i64.wrap ((l.length:Int) - 1)=(l.length:Int) - 1:=IntWalk.i64_in _ (by omega)
 go_enter Tryz.func57,Tryz.ntmps57
 go_wp2_with fail
 go_loopg [2,3] (l.length) (fun g1 vi vj wr=>∃ (k:Nat) (z:Int) (lk:List UInt8),vi=.int .i64 k∧vj=.int .i64 z∧z+k+1≤l.length∧l.length≤z+k+1∧(k:Int)≤z+1∧l.length - k≤g1∧Hid (BFr wr g l.length nf lk)∧Hid (lk.length=l.length)∧Hid (W.grownBy wr (some g)) ∧
  Hid (∀ i,i<l.length→lk[i]? = if i<k∨l.length≤i+k then l[l.length - 1 - i]? else l[i]?))
 case atStart=>exact⟨0,(l.length:Int) - 1,l,rfl,rfl,by omega,by omega,by omega,by omega,Hl,rfl,World.grownBy.refl _ _,fun i hi=>by show _=_; rw[if_neg (by omega)]⟩
 case round =>
  obtain⟨k,z,lk,rfl,rfl,hz1,hz2,hkz,hg,HT,HLn,HG,HE⟩:=hrel
  by_cases hk:(k:Int)<z
  ·obtain⟨j,rfl⟩:∃ j:Nat,z=j:=⟨z.toNat,by omega⟩
   have hj1:(j:Int)<(l.length:Int):=by omega
   have hk1:(k:Int)<(l.length:Int):=by omega
   have hj0:(0:Int)≤(j:Int):=by omega
   have hk0:(0:Int)≤(k:Int):=by omega
   ·have hT:=HT.out
    obtain⟨tk,htk⟩:∃ t,lk[k]? = some t:=⟨_,jG (by have:=HLn.out; omega)⟩
    obtain⟨tj,htj⟩:∃ t,lk[j]? = some t:=⟨_,jG (by have:=HLn.out; omega)⟩
    have hLn:=HLn.out
    obtain⟨e0,f0⟩:=HT.out.cell htk
    obtain⟨d0,f2⟩:=HT.out.cell htj
    have n1:k≠j:=by omega
    have n5:j≠k:=by omega
    clear hT
    go_wp2_with fail
    go_region
    go_wp2_with fail
    go_roundg (l.length - (k+1))
    case measure=>omega
    case rel =>
     refine⟨k+1,(j:Int) - 1,(lk.set k tj).set j tk,by go_num,rfl,by omega,by omega,by omega,jR _,BFr.drew ((HT.out.set tj).set tk),?_,?_,?_⟩
     ·show _=_; simpa using hLn
     ·exact grown_drew (yC (g:=g) _ (yC (g:=g) _ HG.out rfl) rfl)
     ·intro i hi
      have hk':=HE.out k (by omega)
      have hj':=HE.out j (by omega)
      rw[htk,if_neg (by omega)] at hk'
      rw[htj,if_neg (by omega)] at hj'
      by_cases ij:i=j
      ·subst ij
       rw[List.getElem?_set_self (by simp; omega),if_pos (by omega),hk']
       congr 1; omega
      ·rw[List.getElem?_set_ne (Ne.symm ij)]
       by_cases ik:i=k
       ·subst ik
        rw[List.getElem?_set_self (by omega),if_pos (by omega),hj']
        congr 1; omega
       ·rw[List.getElem?_set_ne (Ne.symm ik),HE.out i hi]
        by_cases hc:i<k∨l.length≤i+k
        ·rw[if_pos hc,if_pos (by omega)]
        ·rw[if_neg hc,if_neg (by omega)]
  ·go_wp2_with fail
   go_end0
   refine⟨rfl,?_,HG⟩
   have e:lk=l.reverse:=by
    refine List.ext_getElem? fun i=>?_
    by_cases hi:i<l.length
    ·rw[HE.out i hi,List.getElem?_reverse hi]
     split
     ·rfl
     ·congr 1; omega
    ·rw[List.getElem?_eq_none (by have:=HLn.out; omega),List.getElem?_eq_none (by simp; omega)]
   have:=HT.out
   rw[e] at this
   exact this
end
end Sr
namespace Sr
section
abbrev El:=Rat×Int
def one:El:=(0,0)
def emul (a b:El): El:=(a.1+tp a.2*b.1,a.2+b.2)
theorem emul_assoc (a b c:El): emul (emul a b) c=emul a (emul b c):=by
 unfold emul; refine Prod.ext ?_ (by dsimp only; omega)
 dsimp only; rw[yc];grind
theorem one_emul (a:El): emul one a=a:=by
 unfold emul one; refine Prod.ext ?_ (by dsimp only; omega)
 dsimp only; rw[qW];grind
abbrev Nf:=El×List (Bool×El)
def mulS (g:El)(S:Nf): Nf:=(emul g S.1,S.2)
theorem yr (a b:El)(S:Nf): mulS a (mulS b S)=mulS (emul a b) S:=by unfold mulS; rw[emul_assoc]
theorem one_mulS (S:Nf): mulS one S=S:=by unfold mulS; rw[one_emul]
def car:Bool→El→El
 | true,g=>(0,g.1.floor)
 | false,g=>((g.2:Rat),0)
def rst:Bool→El→El
 | true,g=>(g.1 - (g.1.floor:Rat),g.2)
 | false,g=>(g.1*tp (-g.2),0)
open Classical in
noncomputable def act (up:Bool)(S:Nf): Nf :=
 match S.2 with
 | []=>(car up S.1,[(up,rst up S.1)])
 | (e,r1)::L=>if rst up S.1=one∧e≠up then (emul (car up S.1) r1,L) else (car up S.1,(up,rst up S.1)::(e,r1)::L)
def rep:Bool→El→Prop
 | true,r=>r.1.floor=0
 | false,r=>r.2=0
def Ok:List (Bool×El)→Prop
 | []=>True
 | (e,r)::L=>rep e r∧Ok L∧∀ e' r' L',L=(e',r')::L'→r=one→e'=e
theorem floor_shift (x:Rat)(k:Int): ((k:Rat)+x).floor=k+x.floor:=by
 rw[Rat.add_comm,Rat.floor_add_intCast];omega
theorem rep_rst (up:Bool)(g:El): rep up (rst up g):=by
 cases up
 ·rfl
 ·show (g.1 - (g.1.floor:Rat)).floor=0
  have e:g.1 - (g.1.floor:Rat)=((-g.1.floor:Int):Rat)+g.1:=by rw[Rat.intCast_neg];grind
  rw[e,floor_shift];omega
theorem act_ok {up:Bool}{S:Nf}(h:Ok S.2): Ok (act up S).2:=by
 obtain⟨g,L⟩:=S
 unfold act
 cases L with
 | nil=>exact⟨rep_rst _ _,trivial,fun _ _ _ h=>by cases h⟩
 | cons t L =>
   obtain⟨e,r1⟩:=t
   dsimp only at h ⊢
   split
   ·exact h.2.1
   ·rename_i hn
    refine⟨rep_rst _ _,h,fun e' r' L' hl h1=>?_⟩
    cases hl
    exact Classical.byContradiction fun hne=>hn ⟨h1,hne⟩
theorem car_back (up:Bool)(g:El): emul (car up (car (!up) g)) (rst (!up) g)=g∧rst up (car (!up) g)=one:=by
 cases up
 ·simp only[car,rst,Bool.not_false,emul,one]
  refine⟨Prod.ext ?_ (by dsimp only; omega),Prod.ext ?_ rfl⟩
  ·dsimp only; rw[qW];grind
  ·dsimp only; grind
 ·simp only[car,rst,Bool.not_true,emul,one,Rat.floor_intCast]
  refine⟨Prod.ext ?_ (by dsimp only; omega),Prod.ext ?_ rfl⟩
  ·dsimp only
   have:=tp_inv g.2
   grind
  ·dsimp only; grind
theorem car_rep (up:Bool)(g r:El)(hr:rep up r)(hg:rst (!up) g=one): car up (emul (car (!up) g) r)=g∧rst up (emul (car (!up) g) r)=r:=by
 obtain⟨a,m⟩:=g
 obtain⟨x,n⟩:=r
 cases up
 ·simp only[car,rst,Bool.not_false,emul,one,Prod.mk.injEq] at hg ⊢
  have hn:n=0:=hr
  subst hn
  obtain⟨h1,rfl⟩:=hg
  refine⟨⟨?_,rfl⟩,?_,rfl⟩
  ·rw[Int.add_zero];grind
  ·rw[Int.add_zero]
   have:=tp_inv a.floor
   grind
 ·simp only[car,rst,Bool.not_true,emul,one,Prod.mk.injEq] at hg ⊢
  have hx:x.floor=0:=hr
  have ha:a=0:=by
   rcases Rat.mul_eq_zero.1 hg.1 with h | h
   ·exact h
   ·exact absurd h (tp_ne _)
  subst ha
  rw[qW,Rat.one_mul,floor_shift,hx]
  refine⟨⟨rfl,by omega⟩,?_,by omega⟩
  rw[Int.add_zero];grind
theorem act_inv (up:Bool){S:Nf}(h:Ok S.2): act up (act (!up) S)=S:=by
 obtain⟨g,L⟩:=S
 obtain⟨h1,h2⟩:=car_back up g
 have key:∀ L,act up (car (!up) g,(!up,rst (!up) g)::L)=(g,L):=fun L=>by
  unfold act
  dsimp only
  rw[if_pos ⟨h2,by cases up <;>simp⟩,h1]
 cases L with
 | nil=>exact key []
 | cons t L =>
   obtain⟨e,r1⟩:=t
   by_cases hc:rst (!up) g=one∧e≠!up
   ·have e1:act (!up) (g,(e,r1)::L)=(emul (car (!up) g) r1,L):=by
     unfold act; dsimp only; rw[if_pos hc]
    have he:e=up:=by have:=hc.2; cases e <;>cases up <;>simp_all
    subst he
    obtain⟨k1,k2⟩:=car_rep e g r1 h.1 hc.1
    rw[e1]
    unfold act
    cases L with
    | nil=>dsimp only; rw[k1,k2]
    | cons t L =>
      obtain⟨e',r'⟩:=t
      dsimp only
      rw[k1,k2,if_neg]
      exact fun ⟨hr,hne⟩=>hne (h.2.2 e' r' L rfl hr)
   ·have e1:act (!up) (g,(e,r1)::L)=(car (!up) g,(!up,rst (!up) g)::(e,r1)::L):=by
     unfold act; dsimp only; rw[if_neg hc]
    rw[e1,key]
def low:Bool→Int→El
 | true,k=>((k:Rat),0)
 | false,k=>(0,k)
theorem car_low (up:Bool)(k:Int)(g:El): car up (emul (low up k) g)=emul (low (!up) k) (car up g)∧rst up (emul (low up k) g)=rst up g:=by
 obtain⟨a,m⟩:=g
 cases up
 ·simp only[car,rst,low,emul,Bool.not_false,Prod.mk.injEq]
  refine⟨⟨?_,by omega⟩,?_,trivial⟩
  ·rw[qW,Rat.intCast_add];grind
  ·rw[show -(k+m) = -k+-m by omega,yc]
   have:=tp_inv k
   grind
 ·simp only[car,rst,low,emul,Bool.not_true,Prod.mk.injEq]
  rw[qW,Rat.one_mul,floor_shift]
  refine⟨⟨by grind,rfl⟩,?_,by omega⟩
  rw[Rat.intCast_add];grind
theorem act_low (up:Bool)(k:Int)(S:Nf): act up (mulS (low up k) S)=mulS (low (!up) k) (act up S):=by
 obtain⟨g,L⟩:=S
 obtain⟨h1,h2⟩:=car_low up k g
 unfold act mulS
 cases L with
 | nil=>dsimp only; rw[h1,h2]
 | cons t L =>
   dsimp only
   rw[h1,h2]
   split
   ·rw[emul_assoc]
   ·rfl
def el (x:E3): El:=(tq x,x.m)
theorem el_times (x y:E3): el (timesE x y)=emul (el x) (el y):=by
 unfold el emul; rw[yH,zw]
theorem el_zero:el Zero=one:=by
 unfold el one tq; simp
variable {x:E3} {c:UInt8}
theorem el_inj {y:E3}(hx:Plain x)(hy:Plain y)(h:el x=el y): x=y :=
 yI hx hy (congrArg Prod.snd h) (congrArg Prod.fst h)
def upc (c:UInt8): Bool:=decide (c=98)
noncomputable def ev:List UInt8→List E3→Nf→Nf
 | c::o,g::G,S=>mulS (el g) (act (upc c) (ev o G S))
 | [],g::_,S=>mulS (el g) S
 | _,[],S=>S
theorem ev_ok:∀ {o:List UInt8} {G:List E3} {S:Nf},Ok S.2→Ok (ev o G S).2
 | _::_,_::_,_,h=>act_ok (ev_ok h)
 | [],_::_,_,h=>h
 | [],[],_,h=>h
 | _::_,[],_,h=>h
noncomputable def actL (c:UInt8)(S:Nf): Nf:=if c=97 then mulS (1,0) S else if c=65 then mulS (-1,0) S else act (upc c) S
noncomputable def actW (l:List UInt8)(S:Nf): Nf:=l.foldr actL S
theorem actL_ok {S:Nf}(h:Ok S.2): Ok (actL c S).2:=by
 unfold actL; split
 ·exact h
 ·split
  ·exact h
  ·exact act_ok h
theorem actW_ok {l:List UInt8}{S:Nf}(h:Ok S.2): Ok (actW l S).2:=by
 induction l with
 | nil=>exact h
 | cons c l ih=>exact actL_ok ih
theorem actW_append (l m:List UInt8)(S:Nf): actW (l++m) S=actW l (actW m S):=by unfold actW; rw[List.foldr_append]
theorem ev_last:∀ {o:List UInt8} {G:List E3} (_:G.length=o.length+1) (x:E3) (S:Nf),ev o (G.set (G.length - 1) (timesE (G.getD (G.length - 1) Zero) x)) S=ev o G (mulS (el x) S)
 | [],[g],_,x,S=>by
   show mulS (el (timesE g x)) S=mulS (el g) (mulS (el x) S)
   rw[el_times,yr]
 | [],[],h,_,_=>by simp at h
 | [],_::_::_,h,_,_=>by simp at h
 | _::_,[],h,_,_=>by simp at h
 | c::o,[g],h,_,_=>by simp at h
 | c::o,g::g'::G,h,x,S=>by
   have ih:=ev_last (o:=o) (G:=g'::G) (by simpa using h) x S
   simp only[List.length_cons,Nat.add_sub_cancel] at ih ⊢
   show mulS (el g) (act (upc c) (ev o _ S))=mulS (el g) (act (upc c) (ev o _ _))
   rw[← ih]
   rfl
theorem ev_snoc:∀ {o:List UInt8} {G:List E3} (_:G.length=o.length+1) (c:UInt8) (S:Nf),ev (o++[c]) (G++[Zero]) S=ev o G (act (upc c) S)
 | [],[g],_,c,S=>by
   show mulS (el g) (act (upc c) (mulS (el Zero) S))=_
   rw[el_zero,one_mulS];rfl
 | [],[],h,_,_=>by simp at h
 | [],_::_::_,h,_,_=>by simp at h
 | _::_,[],h,_,_=>by simp at h
 | c::o,g::G,h,d,S=>by
   have ih:=ev_snoc (o:=o) (G:=G) (by simpa using h) d S
   show mulS (el g) (act (upc c) (ev (o++[d]) (G++[Zero]) S))=_
   rw[ih];rfl
theorem el_a:el ⟨1,0,0⟩=(1,0)∧el ⟨-1,0,0⟩=(-1,0):=by
 unfold el tq; constructor <;>simp[qW]
theorem ev_step {s:List UInt8×List E3}(h:s.2.length=s.1.length+1)(c:UInt8)(S:Nf): ev (rdStep s c).1 (rdStep s c).2 S=ev s.1 s.2 (actL c S):=by
 unfold rdStep actL
 split
 ·dsimp only; rw[ev_last h,el_a.1]
 ·split
  ·dsimp only; rw[ev_last h,el_a.2]
  ·exact ev_snoc h c S
theorem ev_read (l:List UInt8)(S:Nf): ev (readE l).1 (readE l).2 S=actW l S:=by
 have key:∀ (l:List UInt8) (s:List UInt8×List E3),s.2.length=s.1.length+1→ev (l.foldl rdStep s).1 (l.foldl rdStep s).2 S=ev s.1 s.2 (actW l S):=by
  intro l
  induction l with
  | nil=>intro s _; rfl
  | cons c l ih =>
    intro s h
    rw[List.foldl_cons,ih _ (rdStep_len h),ev_step h]
    rfl
 have h:=key l ([],[Zero]) rfl
 unfold readE
 rw[h]
 show mulS (el Zero) _=_
 rw[el_zero,one_mulS]
def Bs (o:List UInt8): Prop:=∀ c∈o,c=98∨c=66
theorem pin_low (hx:Plain x)(hc:c=98∨c=66)(hp:pinB c x=true): el x=low (upc c) (powE c x)∧∀ d:UInt8,(d=98∨d=66)→d≠c→el (pinE c (powE c x))=low (upc d) (powE c x):=by
 rcases hc with rfl | rfl
 ·have h:x.m=0∧(x.u=0∨0≤x.v):=by simpa [pinB] using hp
  have hv:0≤x.v:=by
   rcases h.2 with h0 | h0
   ·rcases hx with ⟨_,h2⟩ | h2
    ·omega
    ·omega
   ·exact h0
  refine⟨?_,fun d hd hne=>?_⟩
  ·unfold el low powE upc
   rw[if_pos rfl,show decide ((98:UInt8)=98)=true from rfl]
   dsimp only
   rw[shx_tp (zM hv),h.1]
   rfl
  ·obtain rfl:d=66:=hd.resolve_left hne
   unfold pinE el low upc
   rw[if_neg (by decide),show decide ((66:UInt8)=98)=false from rfl]
   simp[tq]
 ·have h:x.u=0:=by simpa [pinB] using hp
  refine⟨?_,fun d hd hne=>?_⟩
  ·unfold el low powE upc tq
   rw[if_neg (by decide),show decide ((66:UInt8)=98)=false from rfl,h]
   simp
  ·obtain rfl:d=98:=hd.resolve_right hne
   unfold pinE el low upc
   rw[if_pos rfl,show decide ((98:UInt8)=98)=true from rfl,yn,plainE_m,qW]
   simp
theorem yV:Plain Zero:=.inl ⟨rfl,rfl⟩
theorem ev_pin:∀ {i:Nat} {o:List UInt8} {G:List E3} {S:Nf},G.length=o.length+1→Bs o→(∀ x∈G,Plain x)→Ok S.2→i+1<o.length→pinAt o G i=true→ev (pinO o i) (pinG o G i) S=ev o G S
 | 0,c::d::o,x0::x1::x2::G,S,hl,hb,hg,hS,hi,hp=>by
   have hp':c≠d∧pinB c x1=true:=by simpa [pinAt,List.getD] using hp
   have hc:=hb c (by simp)
   have hd:=hb d (by simp)
   obtain⟨h1,h2⟩:=pin_low (x:=x1) (hg x1 (by simp)) hc hp'.2
   have h3:=h2 d hd (Ne.symm hp'.1)
   have hud:upc c=!(upc d):=by
    rcases hc with rfl | rfl <;>rcases hd with rfl | rfl <;>first | rfl | exact absurd rfl hp'.1
   have hT:∀ (T:Nf),Ok T.2→act (upc c) (mulS (el x1) (act (upc d) T))=mulS (el (pinE c (powE c x1))) T:=fun T hT=>by
    have h4:low (!(upc c)) (powE c x1)=low (upc d) (powE c x1):=by rw[hud];cases upc d <;>rfl
    rw[h1,act_low,h4,h3]
    congr 1
    rw[hud]
    have:=act_inv (!(upc d)) (S:=T) hT
    rwa [Bool.not_not] at this
   have eG:pinG (c::d::o) (x0::x1::x2::G) 0=timesE (timesE x0 (pinE c (powE c x1))) x2::G:=by
    simp[pinG,pinK,pinX,List.getD]
   have eO:pinO (c::d::o) 0=o:=by simp[pinO]
   rw[eG,eO]
   have fin:∀ (T:Nf),Ok T.2→mulS (el (timesE (timesE x0 (pinE c (powE c x1))) x2)) T=mulS (el x0) (act (upc c) (mulS (el x1) (act (upc d) (mulS (el x2) T)))):=fun T hT'=>by
    rw[hT (mulS (el x2) T) hT',yr,yr,el_times,el_times,emul_assoc]
   cases o with
   | nil =>
     cases G with
     | nil=>exact fin S hS
     | cons y G=>simp at hl
   | cons a o =>
     cases G with
     | nil=>simp at hl
     | cons y G=>exact fin (act (upc a) (ev o (y::G) S)) (act_ok (ev_ok hS))
 | 0,_::_::_,[],_,hl,_,_,_,_,_=>by simp at hl
 | 0,_::_::_,[_],_,hl,_,_,_,_,_=>by simp at hl
 | 0,_::_::_,[_,_],_,hl,_,_,_,_,_=>by simp at hl
 | 0,[],_,_,_,_,_,_,hi,_=>by simp at hi
 | 0,[_],_,_,_,_,_,_,hi,_=>by simp at hi
 | i+1,[],_,_,_,_,_,_,hi,_=>by simp at hi
 | i+1,_::_,[],_,hl,_,_,_,_,_=>by simp at hl
 | i+1,c::o,x::G,S,hl,hb,hg,hS,hi,hp=>by
   have hl':G.length=o.length+1:=by simpa using hl
   have hi':i+1<o.length:=by simpa using hi
   have hp':pinAt o G i=true:=hp
   have ih:=ev_pin (S:=S) hl' (fun a ha=>hb a (by simp[ha])) (fun a ha=>hg a (by simp[ha])) hS hi' hp'
   have eO:pinO (c::o) (i+1)=c::pinO o i:=by simp[pinO]
   have eK:pinK (c::o) (x::G) (i+1)=pinK o G i:=by simp[pinK,List.getD]
   have eG:pinG (c::o) (x::G) (i+1)=x::pinG o G i:=by
    unfold pinG; rw[eK]
    simp[List.getD]
   rw[eO,eG]
   show mulS (el x) (act (upc c) (ev (pinO o i) (pinG o G i) S))=mulS (el x) (act (upc c) (ev o G S))
   rw[ih]
abbrev base:Nf:=(one,[])
theorem car_is (up:Bool)(g:El): ∃ k,car up g=low (!up) k:=by cases up <;>exact⟨_,rfl⟩
theorem odd_int {u v n:Int}(hu:u % 2=1)(h:(u:Rat)*tp v=(n:Rat)): 0≤v:=by
 rcases Int.lt_or_le v 0 with hv | hv
 ·obtain⟨k,rfl⟩:∃ k:Nat,v = -((k+1:Nat):Int):=⟨(-v).toNat - 1,by omega⟩
  have h1:=congrArg (·*tp ((k+1:Nat):Int)) h
  have h2:tp (-((k+1:Nat):Int))*tp ((k+1:Nat):Int)=1:=by rw[← yc,Int.add_left_neg,qW]
  simp only[Rat.mul_assoc,h2,Rat.mul_one] at h1
  rw[tp_nat,← Rat.intCast_mul] at h1
  have h3:=Rat.intCast_inj.1 h1
  rw[Int.pow_succ,← Int.mul_assoc] at h3
  omega
 ·exact hv
theorem rst_pin (hx:Plain x)(hc:c=98∨c=66){k:Int}(h:rst (upc c) (emul (el x) (low (upc c) k))=one): pinB c x=true:=by
 rcases hc with rfl | rfl
 ·have hu:upc 98=true:=rfl
  rw[hu] at h
  simp only[rst,emul,el,low,one,Prod.mk.injEq] at h
  have hm:x.m=0:=by omega
  rw[hm,qW] at h
  have h1:tq x=((((tq x+1*(k:Rat)).floor - k:Int)):Rat):=by rw[Rat.intCast_sub];grind
  unfold pinB
  rw[if_pos rfl]
  simp only[decide_eq_true_eq]
  refine⟨hm,?_⟩
  rcases hx with ⟨h0,_⟩ | h0
  ·exact .inl h0
  ·exact .inr (odd_int h0 h1)
 ·have hu:upc 66=false:=rfl
  rw[hu] at h
  simp only[rst,emul,el,low,one,Prod.mk.injEq] at h
  have h1:tq x=0:=by
   rcases Rat.mul_eq_zero.1 h.1 with h | h
   ·grind
   ·exact absurd h (tp_ne _)
  have h2:x.u=0:=by
   unfold tq at h1
   rcases Rat.mul_eq_zero.1 h1 with h | h
   ·exact Rat.intCast_eq_zero_iff.1 h
   ·exact absurd h (tp_ne _)
  unfold pinB
  rw[if_neg (by decide)]
  simpa using h2
theorem ev_red:∀ {o:List UInt8} {G:List E3},G.length=o.length+1→Bs o→(∀ x∈G,Plain x)→(∀ i,i+1<o.length→pinAt o G i=false) →
 (ev o G base).2.length=o.length∧∀ c o',o=c::o'→∃ k r L,ev o G base=(emul (el (G.getD 0 Zero)) (low (!(upc c)) k),(upc c,r)::L)
 | [],[g],_,_,_,_=>⟨rfl,fun _ _ h=>by cases h⟩
 | [],[],hl,_,_,_=>by simp at hl
 | [],_::_::_,hl,_,_,_=>by simp at hl
 | _::_,[],hl,_,_,_=>by simp at hl
 | c::o,x::G,hl,hb,hg,hn=>by
   have hl':G.length=o.length+1:=by simpa using hl
   obtain⟨h1,h2⟩:=ev_red (o:=o) (G:=G) hl' (fun a ha=>hb a (by simp[ha])) (fun a ha=>hg a (by simp[ha])) (fun i hi=>by
    exact hn (i+1) (by simp; omega))
   have e:ev (c::o) (x::G) base=mulS (el x) (act (upc c) (ev o G base)):=rfl
   have key:∃ k r,act (upc c) (ev o G base)=(low (!(upc c)) k,(upc c,r)::(ev o G base).2):=by
    obtain⟨k,hk⟩:=car_is (upc c) (ev o G base).1
    refine⟨k,rst (upc c) (ev o G base).1,?_⟩
    rw[← hk]
    unfold act
    cases o with
    | nil =>
      have:(ev [] G base).2=[]:=List.length_eq_zero_iff.1 h1
      rw[this]
    | cons d o =>
      obtain⟨k',r,L,hT⟩:=h2 d o rfl
      rw[hT]
      dsimp only
      rw[if_neg]
      rintro⟨hr,hne⟩
      have hud:upc c=!(upc d):=by cases h:upc c <;>cases h':upc d <;>simp_all
      rw[← hud] at hr
      obtain⟨y,G',rfl⟩:∃ y G',G=y::G':=by
       cases G with
       | nil=>simp at hl'
       | cons y G'=>exact⟨y,G',rfl⟩
      have hp:=rst_pin (x:=y) (hg y (by simp)) (hb c (by simp)) hr
      have hq:=hn 0 (by simp)
      have hcd:c≠d:=fun h=>hne (by rw[h])
      simp[pinAt,List.getD,hcd,hp] at hq
   obtain⟨k,r,hk⟩:=key
   rw[e,hk]
   refine⟨by show (_::(ev o G base).2).length=_; simp[h1],fun c' o' h=>?_⟩
   cases h
   exact⟨k,r,_,rfl⟩
end
section
theorem ye {α:Type}{l:List α}{i j:Nat}{m:List α}{d:α}(h:j<i)(hi:i≤l.length): (l.take i++m).getD j d=l.getD j d:=by
 simp only[List.getD_eq_getElem?_getD]
 rw[List.getElem?_append_left (by simp; omega),List.getElem?_take,if_pos h]
theorem pin_left {o:List UInt8}{G:List E3}{i j:Nat}(hl:G.length=o.length+1)(hi:i+1<o.length)(hj:j+1<i): pinAt (pinO o i) (pinG o G i) j=pinAt o G j:=by
 unfold pinAt pinO pinG
 rw[ye (by omega) (by omega),ye (by omega) (by omega),List.append_assoc,ye (by omega) (by omega)]
theorem red_all:∀ (m:Nat) {o:List UInt8} {G:List E3} {i:Nat} {st:List (Nat×Int)} {o':List UInt8} {G':List E3},2*o.length - i≤m→G.length=o.length+1→Bs o→(∀ x∈G,Plain x) →
 (∀ j,j<i→j+1<o.length→pinAt o G j=false)→redE o G i=some (st,o',G') →
 G'.length=o'.length+1∧Bs o'∧(∀ x∈G',Plain x)∧(∀ j,j+1<o'.length→pinAt o' G' j=false)∧ev o' G' base=ev o G base:=by
 intro m
 induction m with
 | zero =>
   intro o G i st o' G' hm hl hb hg hn h
   rw[zU (by omega)] at h
   cases h
   exact⟨hl,hb,hg,fun j hj=>hn j (by omega) hj,rfl⟩
 | succ m ih =>
   intro o G i st o' G' hm hl hb hg hn h
   by_cases hi:i+1<o.length
   ·by_cases hp:pinAt o G i=true
    ·by_cases ha:pinA o G i
     ·rw[redE_yes hi hp ha] at h
      cases hr:redE (pinO o i) (pinG o G i) (i - 1) with
      | none=>rw[hr] at h; cases h
      | some r =>
        obtain⟨st1,o1,G1⟩:=r
        rw[hr] at h
        cases h
        have:=zd hi
        obtain⟨k1,k2,k3,k4,k5⟩:=ih (o:=pinO o i) (G:=pinG o G i) (i:=i - 1) (by omega) (pinG_len hi hl)
         (fun c hc=>hb c (by
           unfold pinO at hc
           rcases List.mem_append.1 hc with h | h
           ·exact List.mem_of_mem_take h
           ·exact List.mem_of_mem_drop h))
         (fun x hx=>by
           unfold pinG at hx
           rcases List.mem_append.1 hx with h | h
           ·rcases List.mem_append.1 h with h | h
            ·exact hg x (List.mem_of_mem_take h)
            ·rw[List.mem_singleton] at h; subst h; exact qH _ _
           ·exact hg x (List.mem_of_mem_drop h))
         (fun j hj hjl=>by
           rw[pin_left hl hi (by omega)]
           exact hn j (by omega) (by omega)) hr
        exact⟨k1,k2,k3,k4,k5.trans (ev_pin hl hb hg trivial hi hp)⟩
     ·rw[yo hi hp ha] at h; cases h
    ·have hpf:pinAt o G i=false:=by simpa using hp
     rw[redE_no hi hpf] at h
     exact ih (by omega) hl hb hg (fun j hj hjl=>by
      rcases Nat.lt_or_ge j i with h | h
      ·exact hn j h hjl
      ·obtain rfl:j=i:=by omega
       exact hpf) h
   ·rw[zU hi] at h
    cases h
    exact⟨hl,hb,hg,fun j hj=>hn j (by omega) hj,rfl⟩
variable {l:List UInt8} {c:UInt8}
theorem read_bs (h:Lt l): Bs (readE l).1∧(∀ x∈(readE l).2,Plain x)∧(readE l).2.length=(readE l).1.length+1:=by
 have key:∀ (l:List UInt8) (s:List UInt8×List E3),Lt l→Bs s.1→(∀ x∈s.2,Plain x)→s.2.length=s.1.length+1→Bs (l.foldl rdStep s).1∧(∀ x∈(l.foldl rdStep s).2,Plain x)∧(l.foldl rdStep s).2.length=(l.foldl rdStep s).1.length+1:=by
  intro l
  induction l with
  | nil=>intro s _ h1 h2 h3; exact⟨h1,h2,h3⟩
  | cons c l ih =>
    intro s hl h1 h2 h3
    rw[List.foldl_cons]
    refine ih _ (fun d hd=>hl d (by simp[hd])) ?_ ?_ (rdStep_len h3)
    ·have hc:=hl c (by simp)
     unfold rdStep
     split
     ·exact h1
     ·split
      ·exact h1
      ·intro d hd
       rcases List.mem_append.1 hd with h | h
       ·exact h1 d h
       ·rw[List.mem_singleton] at h; subst h
        rename_i a b
        rcases hc with h | h | h | h
        ·exact absurd h a
        ·exact absurd h b
        ·exact .inl h
        ·exact .inr h
    ·unfold rdStep
     split
     ·intro x hx
      rcases List.mem_or_eq_of_mem_set hx with h | h
      ·exact h2 x h
      ·subst h; exact qH _ _
     ·split
      ·intro x hx
       rcases List.mem_or_eq_of_mem_set hx with h | h
       ·exact h2 x h
       ·subst h; exact qH _ _
      ·intro x hx
       rcases List.mem_append.1 hx with h | h
       ·exact h2 x h
       ·rw[List.mem_singleton] at h; subst h; exact yV
 exact key l ([],[Zero]) h (fun c hc=>by cases hc) (fun x hx=>by rw[List.mem_singleton] at hx; subst hx; exact yV) rfl
theorem trace_act (hl:Lt l){st:List (Nat×Int)}{o:List UInt8}{G:List E3}(h:traceE l=some (st,o,G)):
 o.length=(actW l base).2.length∧(o=[]→actW l base=(el (G.getD 0 Zero),[]))∧(unitE o G=true↔actW l base=base)∧(∀ x∈G,Plain x)∧G.length=o.length+1:=by
 obtain⟨b1,b2,b3⟩:=read_bs hl
 obtain⟨k1,k2,k3,k4,k5⟩:=red_all _ (jR _) b3 b1 b2 (fun j hj=>absurd hj (Nat.not_lt_zero _)) h
 rw[ev_read] at k5
 obtain⟨e1,e2⟩:=ev_red k1 k2 k3 k4
 rw[k5] at e1 e2
 have hem:∀ g:E3,emul (el g) one=el g:=fun g=>by
  unfold emul one el; refine Prod.ext ?_ (by dsimp only; omega)
  dsimp only; grind
 have h3:o=[]→actW l base=(el (G.getD 0 Zero),[]):=fun ho=>by
  subst ho
  obtain⟨g,rfl⟩:∃ g,G=[g]:=by
   cases G with
   | nil=>simp at k1
   | cons g G=>cases G with
     | nil=>exact⟨g,rfl⟩
     | cons _ _=>simp at k1
  rw[← k5]
  show (emul (el g) one,([]:List (Bool×El)))=_
  rw[hem];rfl
 refine⟨e1.symm,h3,?_,k3,k1⟩
 unfold unitE endE
 by_cases ho:o=[]
 ·rw[h3 ho]
  have hp:Plain (G.getD 0 Zero):=by
   cases G with
   | nil=>exact yV
   | cons g G=>exact k3 g (by simp)
  simp only[ho,if_true,decide_true,Bool.true_and,decide_eq_true_eq]
  constructor
  ·intro h; rw[h,el_zero]
  ·intro h
   exact el_inj hp yV ((congrArg Prod.fst h).trans el_zero.symm)
 ·simp only[ho,decide_false,Bool.false_and]
  constructor
  ·intro h; cases h
  ·intro h
   rw[h] at e1
   exact absurd (List.length_eq_zero_iff.1 e1.symm) ho
def flip (c:UInt8): UInt8:=c ^^^ 32
def invL (l:List UInt8): List UInt8:=l.reverse.map flip
theorem act_a (S:Nf): mulS (-1,0) (mulS (1,0) S)=S∧mulS (1,0) (mulS (-1,0) S)=S:=by
 rw[yr,yr]
 have e1:emul (-1,0) (1,0)=one:=by unfold emul one; refine Prod.ext ?_ rfl; dsimp only; rw[qW];grind
 have e2:emul (1,0) (-1,0)=one:=by unfold emul one; refine Prod.ext ?_ rfl; dsimp only; rw[qW];grind
 rw[e1,e2,one_mulS];exact⟨rfl,rfl⟩
theorem actL_flip (hc:c=97∨c=65∨c=98∨c=66){S:Nf}(h:Ok S.2): actL (flip c) (actL c S)=S:=by
 rcases hc with rfl | rfl | rfl | rfl
 ·exact (act_a S).1
 ·exact (act_a S).2
 ·exact act_inv false h
 ·exact act_inv true h
theorem flip_lt (hc:c=97∨c=65∨c=98∨c=66): flip c=97∨flip c=65∨flip c=98∨flip c=66:=by
 rcases hc with rfl | rfl | rfl | rfl <;>decide
theorem flip_flip (hc:c=97∨c=65∨c=98∨c=66): flip (flip c)=c:=by
 rcases hc with rfl | rfl | rfl | rfl <;>decide
theorem invL_lt (h:Lt l): Lt (invL l):=fun c hc=>by
 unfold invL at hc
 obtain⟨d,hd,rfl⟩:=List.mem_map.1 hc
 exact flip_lt (h d (List.mem_reverse.1 hd))
theorem invL_cons (c:UInt8)(l:List UInt8): invL (c::l)=invL l++[flip c]:=by unfold invL; simp
theorem invL_invL (h:Lt l): invL (invL l)=l:=by
 unfold invL
 rw[← List.map_reverse,List.reverse_reverse,List.map_map]
 conv=>rhs; rw[← List.map_id l]
 exact List.map_congr_left fun c hc=>flip_flip (h c hc)
theorem actW_inv:∀ {l:List UInt8},Lt l→∀ {S:Nf},Ok S.2→actW (invL l) (actW l S)=S
 | [],_,_,_=>rfl
 | c::l,h,S,hS=>by
   rw[invL_cons,actW_append]
   show actW (invL l) (actL (flip c) (actL c (actW l S)))=S
   rw[actL_flip (h c (by simp)) (actW_ok hS)]
   exact actW_inv (fun d hd=>h d (by simp[hd])) hS
theorem actW_inv' (h:Lt l){S:Nf}(hS:Ok S.2): actW l (actW (invL l) S)=S:=by
 have:=actW_inv (invL_lt h) hS
 rwa [invL_invL h] at this
end
end Sr
namespace Sr
open Go Go.Proofs Go.RowKit Go.Maps Go.WideMaps
section
theorem SRd.take {w:World}{a:Option Addr}{n c k:Nat}{S:List Stp}(h:SRd w (.slice a n c) S)(hk:k≤n): SRd w (.slice a k c) (S.take k):=by
 obtain⟨a',c',he,h1⟩:=h
 obtain⟨rfl,hn,rfl⟩:=Value.slice.inj he
 refine⟨a,c,by simp; omega,fun j s hs=>?_⟩
 rw[List.getElem?_take] at hs
 split at hs
 ·exact h1 j s hs
 ·cases hs
variable {k:Nat}
theorem SRd.put {W:World}{g n c:Nat}{S:List Stp}{cur:Array Value}(h:SRd W (.slice (some ⟨g,0,none⟩) n c) S)(hg:W.heap[g]? = some (.cells cur 42 (0,0)))(hk:k<S.length)(hcs:S.length*2≤cur.size){i:Int}(hi:-9223372036854775808≤i∧i≤9223372036854775807){u:Value}{pw:List UInt8}(hu:BRow W u pw):
 SRd ((W.setCell ⟨g,k*2,none⟩ (.int .i64 i)).setCell ⟨g,k*2+1,none⟩ u) (.slice (some ⟨g,0,none⟩) n c) (S.set k (i,pw)):=by
 obtain⟨a',c',he,h1⟩:=h
 obtain⟨rfl,hn,rfl⟩:=Value.slice.inj he
 have g1:(W.setCell ⟨g,k*2,none⟩ (.int .i64 i)).heap[g]? = some (.cells (cur.setIfInBounds (k*2) (.int .i64 i)) 42 (0,0)):=heap_setCell_same W g _ _ 42 _ hg
 have g2:((W.setCell ⟨g,k*2,none⟩ (.int .i64 i)).setCell ⟨g,k*2+1,none⟩ u).heap[g]? = some (.cells ((cur.setIfInBounds (k*2) (.int .i64 i)).setIfInBounds (k*2+1) u) 42 (0,0)):=heap_setCell_same _ g _ _ 42 _ g1
 have keep:∀ {x:Value} {l:List UInt8},BRow W x l→BRow ((W.setCell ⟨g,k*2,none⟩ (.int .i64 i)).setCell ⟨g,k*2+1,none⟩ u) x l:=fun {x l} hx=>jJ hx fun b e=>by
  obtain⟨c',hc'⟩:=jO hx e
  have hne:b≠g:=jI hc' hg (by decide)
  exact (jS _ _ _ _ hne).trans (jS _ _ _ _ hne)
 refine⟨some ⟨g,0,none⟩,c,by simp[hn],fun j s hs=>?_⟩
 rw[List.getElem?_set] at hs
 split at hs
 ·rename_i hkj
  subst hkj
  simp at hs; subst hs
  refine⟨hi,g,u,rfl,?_,?_,keep hu⟩
  ·rw[jB g2,Array.getElem?_setIfInBounds_ne (by omega),Array.getElem?_setIfInBounds_self_of_lt (by omega)]
  ·rw[jB g2,Array.getElem?_setIfInBounds_self_of_lt (by simp; omega)]
 ·rename_i hkj
  obtain⟨k0,g',u',k1,k2,k3,k4⟩:=h1 j s hs
  cases k1
  refine⟨k0,g,u',rfl,?_,?_,keep k4⟩
  ·rw[jB g2,Array.getElem?_setIfInBounds_ne (by omega),Array.getElem?_setIfInBounds_ne (by omega),← jB hg];exact k2
  ·rw[jB g2,Array.getElem?_setIfInBounds_ne (by omega),Array.getElem?_setIfInBounds_ne (by omega),← jB hg];exact k3
section
variable {ops:Array Oper} {rest:List Oper} {o:Oper} {a:Act} {Q:Exit→Act→World→Prop} {W:World}
end
section
variable {ops:Array Oper} {o:Oper} {a:Act} {K:Act→World→Prop} {Q:Exit→Act→World→Prop} {E:Prop} {W:World}
end
theorem below_grown {W0 W w:World}{B0:Nat}(h:Below W0.heap.size W0 W)(hB:W0.heap.size≤B0)(G:W.grownBy w (some B0)): Below W0.heap.size W0 w :=
 ⟨G.os.trans h.os,G.tape.trans h.tape,G.output.trans h.output,Nat.le_trans h.size G.size,fun b hb=>(G.block b (Nat.lt_of_lt_of_le hb h.size) (fun e=>by cases e; omega)).trans (h.block b hb)⟩
theorem take_set {α:Type}{l:List α}(h:k<l.length)(x:α): (l.take (k+1)).set k x=l.take k++[x]:=by
 rw[List.take_add_one,jG h]
 have e:(l.take k).length=k:=by simp; omega
 simp only[Option.toList_some]
 rw[List.set_append,if_neg (by omega),e,Nat.sub_self]
 rfl
end
theorem conv_F {w:World}{g cap nf:Nat}{l:List UInt8}(h:BFr w g l.length nf l): (Go.convert 40 9 (.slice (some ⟨g,0,none⟩) l.length cap)).run Tryz.prog w=.ok (.string ⟨l.toArray⟩) w:=by
 have u5:Tryz.prog.underlying 5=some (.int .u8):=by kernel_rfl
 have u9:Tryz.prog.underlying 9=some .string:=by kernel_rfl
 refine run_convert_bytes_back w 40 9 5 ⟨g,0,none⟩ cap l un40 u5 u9 fun j hj=>?_
 have hadd:(⟨g,0,none⟩:Addr).add j=⟨g,j,none⟩:=by unfold Addr.add; split <;>simp_all
 rw[hadd]
 exact (h.cell (jG hj)).1
theorem bfr_conv (w:World)(t:ByteArray)(cap:Nat){nf:Nat}(hnf:(bytesRow t cap).size=nf): BFr (w.alloc (.cells (bytesRow t cap) 5 (nf,nf+1))).drew w.heap.size t.size nf t.data.toList:=by
 have hz:t.size≤(bytesRow t cap).size:=by unfold bytesRow; simp
 refine⟨by simp,by omega,_,jD w _,hz,?_⟩
 unfold bytesRow
 rw[Array.toList_append,List.take_append_of_le_length (by simp),List.take_of_length_le (by simp),Array.toList_map]
theorem xor_flip (b:UInt8): bits BinOp.xor IntKind.u8 (b.toNat:Int) 32=((flip b).toNat:Nat):=by
 have key:∀ n:Fin 256,bits BinOp.xor IntKind.u8 ((n.val:Nat):Int) 32=(((UInt8.ofNat n.val) ^^^ 32).toNat:Nat):=by decide +kernel
 have h:=key ⟨b.toNat,b.toNat_lt⟩
 simpa [flip] using h
theorem join_size (s t:ByteArray): (s++t).size=s.size+t.size:=ByteArray.size_append
theorem join_list (s t:ByteArray): (s++t).data.toList=s.data.toList++t.data.toList:=by simp[ByteArray.data_append]
def SameQ (u v:List UInt8)(W:World)(e:Ending)(W':World): Prop :=
 Hid (Below W.heap.size W W')∧(((isWordL u=false∨isWordL v=false)∧e=.returned (.tuple #[.bool false,.int .i64 2])) ∨
  (isWordL u=true∧isWordL v=true∧((∃ st o G,traceE (u++invL v)=some (st,o,G)∧e=.returned (.tuple #[.bool (unitE o G),.int .i64 0]))∨(traceE (u++invL v)=none∧e=.returned (.tuple #[.bool false,.int .i64 5])))))
def trn (l:List UInt8)(k:Nat): List UInt8:=(l.take k).map flip++l.drop k
theorem trn_get {l:List UInt8}{k:Nat}{b:UInt8}(h:l[k]? = some b): (trn l k)[k]? = some b∧(trn l k).set k (flip b)=trn l (k+1):=by
 have hk:k<l.length:=(jL h).1
 have e:((l.take k).map flip).length=k:=by simp; omega
 unfold trn
 constructor
 ·rw[List.getElem?_append_right (by omega),e,List.getElem?_drop,Nat.sub_self]
  simpa using h
 ·rw[List.set_append,if_neg (by omega),e,Nat.sub_self,List.drop_eq_getElem_cons hk,List.set_cons_zero,List.take_add_one,h]
  simp[List.append_assoc]
theorem Same_any {W:World}{s t:ByteArray}(hs:s.size≤9223372036854775807)(ht:t.size≤9223372036854775807): Calls Tryz.prog 23 #[.string s,.string t] W (SameQ s.data.toList t.data.toList W):=by
 have u5:Tryz.prog.underlying 5=some (.int .u8):=by kernel_rfl
 have u9:Tryz.prog.underlying 9=some .string:=by kernel_rfl
 have hI1:=zP s W hs
 by_cases hw1:isWordL s.data.toList=true
 ·rw[hw1] at hI1
  have HW1:=jH hw1
  have hz1:=zf hw1
  clear hw1
  by_cases hw2:isWordL t.data.toList=true
  ·have HW2:=jH hw2
   have hz2:=zf hw2
   have hcv:=fun (w:World)=>run_bytes_of_string (P:=Tryz.prog) w 9 40 5 t u9 un40 u5
   go_enter Tryz.func23,Tryz.ntmps23
   go_wp2_with fail
   refine hI1.mono ?_
   rintro e w1 ⟨rfl,hb1⟩
   have hI2:=zP t w1 ht
   rw[hw2] at hI2
   have HB1:=jH hb1.out
   clear hI1 hb1 hw2
   go_wp2_with fail
   refine hI2.mono ?_
   rintro e w2 ⟨rfl,hb2⟩
   have HB2:=jH (Below.trans' HB1.out hb2.out)
   clear hI2 hb2
   go_wp2_with fail
   generalize grownCap _ _ _ _=cap
   obtain⟨nf,hnf⟩:∃ nf,nf=(bytesRow t cap).size:=⟨_,rfl⟩
   rw[← hnf]
   obtain⟨w3,hw3⟩:∃ w3,w3=(w2.alloc (.cells (bytesRow t cap) 5 (nf,nf+1))).drew:=⟨_,rfl⟩
   obtain⟨g,hg⟩:∃ g,g=w2.heap.size:=⟨_,rfl⟩
   have HF3:Hid (BFr w3 g t.size nf t.data.toList):=by show BFr _ _ _ _ _; rw[hw3,hg];exact bfr_conv w2 t cap hnf.symm
   have HB3:Hid (Below W.heap.size W w3):=by show Below _ _ _; rw[hw3];exact (HB2.out.alloc HB2.out.size _).drew
   have HG:Hid (W.heap.size≤g):=by show _≤_; rw[hg];exact HB2.out.size
   rw[← hw3,← hg]
   have hRv:=reverseB_calls (W:=w3) (g:=g) (ca:=cap) (nf:=nf) (l:=t.data.toList) (by simp; exact HF3.out) (by simp; omega)
   rw[show t.data.toList.length=t.size by simp] at hRv
   clear hnf hw3 hg hcv
   refine hRv.mono ?_
   rintro e w4 ⟨rfl,hf4,hg4⟩
   have HF4:=jH hf4.out
   have HB4:Hid (Below W.heap.size W w4):=below_grown HB3.out HG.out hg4.out
   have HL:Hid (t.data.toList.reverse.length=t.size):=by show _=_; simp
   clear hRv hf4 hg4
   go_wp2_with fail
   go_loopg [22] t.size (fun g1 kv wr=>∃ k:Nat,kv=.int .i64 k∧k≤t.size∧t.size - k≤g1∧Hid (BFr wr g t.size nf (trn t.data.toList.reverse k))∧Hid (Below W.heap.size W wr))
   case atStart=>exact⟨0,rfl,by omega,by omega,HF4,HB4⟩
   case round =>
    obtain⟨k,rfl,hk,hg1,HF,HB⟩:=hrel
    by_cases hlt:k<t.size
    ·have hkz:(k:Int)<(t.size:Int):=by omega
     have hk0:(0:Int)≤(k:Int):=Int.natCast_nonneg k
     have hkw:IntKind.i64.wrap ((k:Int)+1)=(k:Int)+1:=IntWalk.i64_in _ (by omega)
     obtain⟨b,hb⟩:∃ b,t.data.toList.reverse[k]? = some b:=⟨_,jG (by rw[HL.out];exact hlt)⟩
     obtain⟨e1,e2⟩:=trn_get hb
     have HE2:=jH e2
     obtain⟨c0,f0⟩:=HF.out.cell e1
     have HF':=jH (HF.out.set (i:=k) (flip b))
     have hx:=xor_flip b
     have HBs:Hid (Below W.heap.size W (wr.setCell ⟨g,k,none⟩ (.int .u8 ((flip b).toNat:Nat)))):=HB.out.setCell HG.out _
     clear hb e1 e2
     go_wp2_with fail
     go_roundg (t.size - (k+1))
     case measure=>omega
     case rel=>exact⟨k+1,by go_num,by omega,by omega,by show BFr _ _ _ _ _; rw[← HE2.out];exact HF'.out,HBs⟩
    ·have hkz:¬ ((k:Int)<(t.size:Int)):=by omega
     obtain⟨z,hz⟩:∃ z,z=invL t.data.toList:=⟨_,rfl⟩
     have hzl:z.length=t.size:=by rw[hz];unfold invL; simp
     have hcb:=conv_F (w:=wr) (g:=g) (cap:=cap) (nf:=nf) (l:=z) (by
      have h:=HF.out
      have e:trn t.data.toList.reverse k=z:=by
       unfold trn
       rw[List.take_of_length_le (by rw[HL.out];omega),List.drop_of_length_le (by rw[HL.out];omega),List.append_nil,hz];rfl
      rw[e] at h
      rw[hzl];exact h)
     rw[hzl] at hcb
     have hIs:=is_any (W:=wr) (s:=s++⟨z.toArray⟩) (by rw[join_size];show s.size+z.toArray.size≤1000; rw[List.size_toArray];omega)
     rw[join_list] at hIs
     have HZ:=jH hz
     clear hz
     go_wp2_with fail
     refine hIs.mono ?_
     rintro e w5 ⟨hb5,⟨st,o,G,hr,rfl⟩ | ⟨hr,rfl⟩⟩
     ·have HB5:=jH (Below.trans' HB.out hb5.out)
      have HR:=jH hr
      clear hIs hb5 hr
      go_wp2_with fail
      refine bodyPost_ret (v:=(.tuple #[.bool (unitE o G),.int .i64 0])) (by simp[results,Tryz.results23,go_sem]) rfl ?_
      exact⟨HB5,.inr ⟨HW1.out,HW2.out,.inl ⟨st,o,G,by rw[← HZ.out];exact HR.out,rfl⟩⟩⟩
     ·have HB5:=jH (Below.trans' HB.out hb5.out)
      have HR:=jH hr
      clear hIs hb5 hr
      go_wp2_with fail
      refine bodyPost_ret (v:=(.tuple #[.bool false,.int .i64 5])) (by simp[results,Tryz.results23,go_sem]) rfl ?_
      exact⟨HB5,.inr ⟨HW1.out,HW2.out,.inr ⟨by rw[← HZ.out];exact HR.out,rfl⟩⟩⟩
  ·have hwf:isWordL t.data.toList=false:=by simpa using hw2
   have HW2:=jH hwf
   go_enter Tryz.func23,Tryz.ntmps23
   go_wp2_with fail
   refine hI1.mono ?_
   rintro e w1 ⟨rfl,hb1⟩
   have hI2:=zP t w1 ht
   rw[hwf] at hI2
   have HB1:=jH hb1.out
   clear hI1 hb1 hw2 hwf
   go_wp2_with fail
   refine hI2.mono ?_
   rintro e w2 ⟨rfl,hb2⟩
   have HB2:=jH (Below.trans' HB1.out hb2.out)
   clear hI2 hb2
   go_wp2_with fail
   refine bodyPost_ret (v:=(.tuple #[.bool false,.int .i64 2])) (by simp[results,Tryz.results23,go_sem]) rfl ?_
   exact⟨HB2,.inl ⟨.inr HW2.out,rfl⟩⟩
 ·have hwf:isWordL s.data.toList=false:=by simpa using hw1
  rw[hwf] at hI1
  have HW1:=jH hwf
  clear hw1 hwf
  go_enter Tryz.func23,Tryz.ntmps23
  go_wp2_with fail
  refine hI1.mono ?_
  rintro e w1 ⟨rfl,hb1⟩
  have HB1:=jH hb1.out
  clear hI1 hb1
  go_wp2_with fail
  refine bodyPost_ret (v:=(.tuple #[.bool false,.int .i64 2])) (by simp[results,Tryz.results23,go_sem]) rfl ?_
  exact⟨HB1,.inl ⟨.inl HW1.out,rfl⟩⟩
theorem xQ {W0 W w:World}{v:Value}{l:List UInt8}(_h:BRow W v l)(hb:Below W0.heap.size W0 W)(ho:∀ b,v.ownBlock=some b→W0.heap.size≤b){v':Value}(G:W.grownBy w v.ownBlock)(A:v'.ownBlock=v.ownBlock∨v'.ownBlock=some W.heap.size): Below W0.heap.size W0 w∧∀ b,v'.ownBlock=some b→W0.heap.size≤b:=by
 refine⟨⟨G.os.trans hb.os,G.tape.trans hb.tape,G.output.trans hb.output,Nat.le_trans hb.size G.size,fun b hlt=>(G.block b (Nat.lt_of_lt_of_le hlt hb.size) (fun e=>by have:=ho b e.symm; omega)).trans (hb.block b hlt)⟩,fun b e=>?_⟩
 rcases A with A | A
 ·exact ho b (A▸e)
 ·rw[A] at e; cases e; exact hb.size
theorem inv5_calls {W:World}{s:ByteArray}(hs:s.size≤1000)(hl:Lt s.data.toList): Calls Tryz.prog 26 #[.string s] W fun e W'=>e=.returned (.string ⟨(invL s.data.toList).toArray⟩)∧Hid (Below W.heap.size W W'):=by
 have HL:=jH hl
 have hw1:IntKind.i64.wrap ((s.size:Int) - 1)=(s.size:Int) - 1:=IntWalk.i64_in _ (by omega)
 clear hl
 go_enter Tryz.func26,Tryz.ntmps26
 go_wp2_with fail
 go_loopg [3,4] (s.size+1) (fun g1 ov kv wr=>∃ (k:Nat) (z:Int),kv=.int .i64 z∧z+k+1=s.size∧k≤s.size∧s.size - k≤g1∧Hid (BRow wr ov ((s.data.toList.reverse.take k).map flip))∧Hid (Below W.heap.size W wr)∧Hid (∀ b,ov.ownBlock=some b→W.heap.size≤b))
 case atStart=>exact⟨0,_,rfl,by omega,by omega,by omega,⟨rfl,.inl ⟨rfl,rfl⟩⟩,Below.refl _ _,fun b e=>by cases e⟩
 case round =>
  obtain⟨k,z,rfl,hz,hk,hg1,HR,HB,HO⟩:=hrel
  by_cases hlt:k<s.size
  ·obtain⟨j,rfl⟩:∃ j:Nat,z=(j:Int):=⟨z.toNat,by omega⟩
   have hjz:(j:Int)<(s.size:Int):=by omega
   have hj0:(0:Int)≤(j:Int):=Int.natCast_nonneg j
   have hjn:j<s.size:=by omega
   have hkw:IntKind.i64.wrap ((j:Int) - 1)=(j:Int) - 1:=IntWalk.i64_in _ (by omega)
   obtain⟨c,hc⟩:∃ c,s.data.toList[j]? = some c:=⟨_,jG (by simpa using hjn)⟩
   have hsk:s[j]=c:=by
    have h:=(jL hc).2
    rw[← h];rfl
   have HTk:Hid ((s.data.toList.reverse.take (k+1)).map flip=(s.data.toList.reverse.take k).map flip++[flip c]):=by
    show _=_
    have e:s.data.toList.reverse[k]? = some c:=by
     rw[List.getElem?_reverse (by simpa using hlt)]
     rw[show s.data.toList.length - 1 - k=j by simp; omega]
     exact hc
    rw[List.take_add_one,e];simp
   have hlc:=HL.out c (jM hc)
   obtain⟨oa,oc,rfl⟩:=ja HR.out
   obtain⟨l0,hl0⟩:∃ l0,l0=(s.data.toList.reverse.take k).map flip:=⟨_,rfl⟩
   rw[← hl0] at HR HO HTk
   have hll:l0.length=k:=by rw[hl0];simp; omega
   obtain⟨N,hN⟩:∃ N,N=l0.length:=⟨_,rfl⟩
   rw[← hN] at HR HO
   have hbnd:l0.length+1≤1099511627776:=by omega
   rw[← hl0,← hN]
   have HLL:=jH hll
   have hbnd0:=hbnd
   clear hc hN hl0 hll
   rcases hlc with rfl | rfl | rfl | rfl
   ·clear hbnd0
    go_wp2_with (at_builtin
                 go_loud (
                  (refine app_B rfl _ _ rfl (.slice oa N oc) l0 rfl (World.ownsRow.alloc HR.out _) _ 1 [65] rfl rfl _ rfl (jD _ _) hbnd ?_; intro v' w5 K5 G5 A5
                   have HBG:=jH (xQ (W0:=W) (World.ownsRow.alloc HR.out _) (HB.out.alloc HB.out.size _) HO.out G5 A5)
                   have HK5:=jH K5
                   clear K5 G5 A5)))
    go_roundg (s.size - (k+1))
    case measure=>omega
    case rel=>exact⟨k+1,(j:Int) - 1,by go_num,by omega,by omega,by omega,by show BRow _ _ _; rw[HTk.out];exact HK5.out,HBG.out.1,HBG.out.2⟩
   ·clear hbnd0
    go_wp2_with (at_builtin
                 go_loud (
                  (refine app_B rfl _ _ rfl (.slice oa N oc) l0 rfl (World.ownsRow.alloc HR.out _) _ 1 [97] rfl rfl _ rfl (jD _ _) hbnd ?_; intro v' w5 K5 G5 A5
                   have HBG:=jH (xQ (W0:=W) (World.ownsRow.alloc HR.out _) (HB.out.alloc HB.out.size _) HO.out G5 A5)
                   have HK5:=jH K5
                   clear K5 G5 A5)))
    go_roundg (s.size - (k+1))
    case measure=>omega
    case rel=>exact⟨k+1,(j:Int) - 1,by go_num,by omega,by omega,by omega,by show BRow _ _ _; rw[HTk.out];exact HK5.out,HBG.out.1,HBG.out.2⟩
   ·clear hbnd0
    go_wp2_with (at_builtin
                 go_loud (
                  (refine app_B rfl _ _ rfl (.slice oa N oc) l0 rfl (World.ownsRow.alloc HR.out _) _ 1 [66] rfl rfl _ rfl (jD _ _) hbnd ?_; intro v' w5 K5 G5 A5
                   have HBG:=jH (xQ (W0:=W) (World.ownsRow.alloc HR.out _) (HB.out.alloc HB.out.size _) HO.out G5 A5)
                   have HK5:=jH K5
                   clear K5 G5 A5)))
    go_roundg (s.size - (k+1))
    case measure=>omega
    case rel=>exact⟨k+1,(j:Int) - 1,by go_num,by omega,by omega,by omega,by show BRow _ _ _; rw[HTk.out];exact HK5.out,HBG.out.1,HBG.out.2⟩
   ·clear hbnd0
    go_wp2_with (at_builtin
                 go_loud (
                  (refine app_B rfl _ _ rfl (.slice oa N oc) l0 rfl (World.ownsRow.alloc HR.out _) _ 1 [98] rfl rfl _ rfl (jD _ _) hbnd ?_; intro v' w5 K5 G5 A5
                   have HBG:=jH (xQ (W0:=W) (World.ownsRow.alloc HR.out _) (HB.out.alloc HB.out.size _) HO.out G5 A5)
                   have HK5:=jH K5
                   clear K5 G5 A5)))
    go_roundg (s.size - (k+1))
    case measure=>omega
    case rel=>exact⟨k+1,(j:Int) - 1,by go_num,by omega,by omega,by omega,by show BRow _ _ _; rw[HTk.out];exact HK5.out,HBG.out.1,HBG.out.2⟩
  ·have hz0:z = -1:=by omega
   subst hz0
   obtain⟨oa,oc,rfl⟩:=ja HR.out
   obtain⟨l0,hl0⟩:∃ l0,l0=(s.data.toList.reverse.take k).map flip:=⟨_,rfl⟩
   rw[← hl0] at HR HO
   have HE:Hid (l0=invL s.data.toList):=by
    show _=_
    rw[hl0,List.take_of_length_le (by simp; omega)];rfl
   have hcb:=zh HR.out (W':=wr) (fun _ _=>rfl)
   obtain⟨N,hN⟩:∃ N,N=l0.length:=⟨_,rfl⟩
   rw[← hN] at hcb
   rw[← hl0,← hN]
   clear hl0 hN
   go_wp2_with fail
   go_ret
   exact⟨by rw[← HE.out];rfl,HB⟩
end Sr
