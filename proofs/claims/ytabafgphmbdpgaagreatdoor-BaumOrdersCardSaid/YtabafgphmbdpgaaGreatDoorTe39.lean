/- Texts of this claim, joined: RMk. -/
import Derived.Test.YtabafgphmbdpgaaGreatDoorTe1
import Derived.Test.YtabafgphmbdpgaaGreatDoorTe37
import Derived.Test.YtabafgphmbdpgaaGreatDoorTe38
set_option maxHeartbeats 8000000
set_option maxRecDepth 100000
namespace Sr
open Go Go.Proofs Go.RowKit Go.Maps Go.WideMaps
section
structure MkB (W:World)(B:Nat)(s:ByteArray)(gv:Value)(eu ev em:Nat): Prop where
 b0:W.heap[B]? = some (.cells #[.string s,gv] 78 (0,0))
 b1:W.heap[B+1]? = some (.cells #[.string ⟨#[]⟩,.slice none 0 0] 78 (0,0))
 b2:W.heap[B+1+1]? = some (.cells #[.int .i64 (eu:Nat),.int .i64 (ev:Nat),.int .i64 (em:Nat)] 35 (0,0))
theorem MkB.set3 {W:World}{B:Nat}{s:ByteArray}{gv:Value}{eu ev em:Nat}(h:MkB W B s gv eu ev em)(a b c:Nat): MkB (Sr.set3 W (B+1+1) (.int .i64 (a:Nat)) (.int .i64 (b:Nat)) (.int .i64 (c:Nat))) B s gv a b c :=
 ⟨(ji W (by omega) _ _ _).trans h.b0,(ji W (by omega) _ _ _).trans h.b1,z7 h.b2⟩
variable {W W' w wc:World} {B eu ev em b c p gb len gc n q D:Nat} {s O:ByteArray} {gv fv:Value} {fl:List Value} {vs:List Int} {l L:List N3} {G:List E3} {a:Option Addr}
theorem MkB.rk {b':Nat}{fv':Value}{fl':List Value}{vs':List Int}{full full':Bool}(h:MkB W B s gv eu ev em)(H:RC b W c p fv fl vs full)(k:RK b' W W' c p fv fv' fl fl' vs vs' full'): MkB W' B s gv eu ev em :=
 ⟨jd H k h.b0 (by decide) (by decide) (by decide),jd H k h.b1 (by decide) (by decide) (by decide),jd H k h.b2 (by decide) (by decide) (by decide)⟩
theorem MkB.below (h:MkB W B s gv eu ev em)(k:Below W.heap.size W W'): MkB W' B s gv eu ev em:=⟨Below.here k h.b0,Below.here k h.b1,Below.here k h.b2⟩
def MkC (B gb len gc n au av am bu bv bm eu ev em:Nat)(w:World): Prop :=
 w.cell? ⟨B,1,none⟩=some (.slice (some ⟨gb,0,none⟩) len gc)∧w.cell? ⟨gb,n*3,none⟩=some (.int .i64 (au:Nat))∧w.cell? ⟨gb,n*3+1,none⟩=some (.int .i64 (av:Nat))∧w.cell? ⟨gb,n*3+2,none⟩=some (.int .i64 (am:Nat)) ∧
  w.cell? ⟨gb,(n+2)*3,none⟩=some (.int .i64 (bu:Nat))∧w.cell? ⟨gb,(n+2)*3+1,none⟩=some (.int .i64 (bv:Nat))∧w.cell? ⟨gb,(n+2)*3+2,none⟩=some (.int .i64 (bm:Nat)) ∧
  w.cell? ⟨B+1+1,0,none⟩=some (.int .i64 (eu:Nat))∧w.cell? ⟨B+1+1,1,none⟩=some (.int .i64 (ev:Nat))∧w.cell? ⟨B+1+1,2,none⟩=some (.int .i64 (em:Nat))
theorem mkC (hM:MkB w B s (.slice (some ⟨gb,0,none⟩) len gc) eu ev em)(hP:PR 0 w vs (.slice (some ⟨gb,0,none⟩) len gc) l G){au av am bu bv bm:Nat}(h1:l[n]? = some (au,av,am))(h2:l[n+2]? = some (bu,bv,bm)): MkC B gb len gc n au av am bu bv bm eu ev em w:=by
 have e1:=ncl_get h1
 have e2:=ncl_get h2
 exact⟨by rw[jB hM.b0];rfl,zx hP.row e1.1,zx hP.row e1.2.1,zx hP.row e1.2.2,zx hP.row e2.1,zx hP.row e2.2.1,zx hP.row e2.2.2,by rw[jB hM.b2];rfl,by rw[jB hM.b2];rfl,by rw[jB hM.b2];rfl⟩
theorem zD {a:Addr}(h:a.block≠q)(x y z:Value): (Sr.set3 w q x y z).cell? a=w.cell? a:=by
 unfold World.cell?;rw[ji w h]
theorem mkC_set {au av am bu bv bm:Nat}(h:MkC B gb len gc n au av am bu bv bm eu ev em w)(hq:B+1+1<q∧gb<q)(x y z:Value): MkC B gb len gc n au av am bu bv bm eu ev em (Sr.set3 w q x y z):=by
 obtain⟨h1,h2,h3,h4,h5,h6,h7,h8,h9,h10⟩:=h
 have e1:B≠q:=by omega
 have e2:gb≠q:=by omega
 have e3:B+1+1≠q:=by omega
 exact⟨(zD e1 x y z).trans h1,(zD e2 x y z).trans h2,(zD e2 x y z).trans h3,(zD e2 x y z).trans h4,(zD e2 x y z).trans h5,(zD e2 x y z).trans h6,(zD e2 x y z).trans h7,(zD e3 x y z).trans h8,(zD e3 x y z).trans h9,(zD e3 x y z).trans h10⟩
theorem MkB.set_other (h:MkB W B s gv eu ev em)(hq:B+1+1<q)(x y z:Value): MkB (Sr.set3 W q x y z) B s gv eu ev em :=
 ⟨(ji W (by omega) _ _ _).trans h.b0,(ji W (by omega) _ _ _).trans h.b1,(ji W (by omega) _ _ _).trans h.b2⟩
theorem PR.set_other {lo:Nat}(h:PR lo W vs (.slice (some ⟨gb,0,none⟩) len gc) l G)(hq:gb≠q)(x y z:Value): PR lo (Sr.set3 W q x y z) vs (.slice (some ⟨gb,0,none⟩) len gc) l G :=
 ⟨qP h.row (fun b hb=>by simp[Value.ownBlock] at hb; subst hb; exact ji W hq x y z),h.at_,h.hg⟩
theorem jV (W:World)(o:Obj): Hid (Below W.heap.size W (W.alloc o)):=(Below.refl _ W).alloc (jR _) o
theorem zO (W:World)(o:Obj)(n:Nat): Hid (Below W.heap.size W ((W.alloc o).drewN n)):=Below.trans' (jV W o).out (jN _ n)
theorem blw_dr (h:Below W.heap.size W w): Below W.heap.size W w.drew:=Below.trans' h (jN w 1)
theorem heap_al2 (W:World)(o:Obj)(n:Nat): ((W.alloc o).drewN n).heap[W.heap.size]? = some o:=(show ((W.alloc o).drewN n).heap[W.heap.size]? = (W.alloc o).heap[W.heap.size]? from rfl).trans (jD W o)
theorem qr (W:World): Hid (Below W.heap.size W W):=Below.refl _ W
theorem cut_list (s:ByteArray)(n:Nat): (s.extract 0 n++s.extract (n+2) s.size).data.toList=pinO s.data.toList n:=by
 have h1:(s.extract 0 n).data.toList=s.data.toList.take n:=by simp[ByteArray.data_extract]
 have h2:(s.extract (n+2) s.size).data.toList=s.data.toList.drop (n+2):=by
  simp only[ByteArray.data_extract,Array.toList_extract,List.extract]
  rw[List.take_of_length_le (by simp)]
 rw[ByteArray.data_append,Array.toList_append,h1,h2];rfl
structure MkT (wc w:World)(D:Nat)(O:ByteArray)(a:Option Addr)(n c:Nat)(L:List N3): Prop where
 bl:Below wc.heap.size wc w
 dd:w.heap[D]? = some (.cells #[.string O,.slice a n c] 78 (0,0))
 row:NRow w (.slice a n c) L
 own:∀ b,(Value.slice a n c).ownBlock=some b→wc.heap.size≤b
theorem NRow.below {v:Value}(h:NRow W v l)(k:Below W.heap.size W w): NRow w v l:=zJ h k
theorem own_slice (h:(Value.slice a n c).ownBlock=some b): ∃ g,a=some g∧g.block=b:=by
 cases a with
 | none=>simp[Value.ownBlock] at h
 | some g=>exact⟨g,rfl,by simpa [Value.ownBlock] using h⟩
theorem MkT.alloc {wc w:World}{D:Nat}{O:ByteArray}{a:Option Addr}{n c:Nat}{L:List N3}(h:MkT wc w D O a n c L)(o:Obj): MkT wc (w.alloc o) D O a n c L :=
 ⟨h.bl.alloc h.bl.size o,Below.here (jV w o).out h.dd,h.row.below (jV w o).out,h.own⟩
theorem MkT.drewN {wc w:World}{D:Nat}{O:ByteArray}{a:Option Addr}{n c:Nat}{L:List N3}(h:MkT wc w D O a n c L)(m:Nat): MkT wc (w.drewN m) D O a n c L :=
 ⟨Below.trans' h.bl (jN w m),Below.here (jN w m) h.dd,h.row.below (jN w m),h.own⟩
theorem MkT.mid {w':World}(h:MkT wc w D O a n c L)(G:w.grownBy w' (Value.slice a n c).ownBlock): w'.heap[D]? = some (.cells #[.string O,.slice a n c] 78 (0,0))∧Below wc.heap.size wc w':=by
 refine⟨(G.block D (jA h.dd).1 fun e=>?_).trans h.dd,Below.trans h.bl (j9 G h.own h.bl.size)⟩
 obtain⟨cs,hc⟩:=jl h.row e.symm
 exact jI h.dd hc (by decide) rfl
theorem MkT.step {w':World}{a':Option Addr}{n' c':Nat}{L':List N3}(h:MkT wc w D O a n c L)(N:NRow w' (.slice a' n' c') L')(G:w.grownBy w' (Value.slice a n c).ownBlock)(A:∀ k,a'=some k→(Value.slice a n c).ownBlock=some k.block∨k.block=w.heap.size)(hD:wc.heap.size≤D):
 MkT wc (w'.setCell ⟨D,1,none⟩ (.slice a' n' c')) D O a' n' c' L':=by
 obtain⟨h1,h2⟩:=h.mid G
 refine⟨⟨h2.os,h2.tape,h2.output,by have:=h2.size; simpa using this,fun b hb=>(jS _ _ _ _ (by show b≠D; omega)).trans (h2.block b hb)⟩,heap_setCell_same w' D 1 _ 78 _ h1,qP N fun b hb=>?_,fun b hb=>?_⟩
 ·obtain⟨cs,hc⟩:=jl N hb
  exact jS _ _ _ _ (by show b≠D; exact jI hc h1 (by decide))
 ·obtain⟨g,e,rfl⟩:=own_slice hb
  rcases A g e with k | k
  ·exact h.own _ k
  ·rw[k];exact h.bl.size
theorem RK.setT {fv':Value}{fl':List Value}{vs':List Int}{full':Bool}{T:TypeId}(h:RK b W W' c p fv fv' fl fl' vs vs' full'){cs:Array Value}(hq:W'.heap[q]? = some (.cells cs T (0,0)))(hT:T≠75∧T≠105∧T≠137∧T≠139)(hl:W.heap.size≤q)(o:Nat)(y:Value):
 RK b W (W'.setCell ⟨q,o,none⟩ y) c p fv fv' fl fl' vs vs' full'∧(W'.setCell ⟨q,o,none⟩ y).heap[q]? = some (.cells (cs.setIfInBounds o y) T (0,0)):=by
 refine⟨⟨⟨?_,?_⟩,h.ext,⟨h.fr.os,h.fr.tape,h.fr.output,by have:=h.fr.size; simpa using this,fun b' hb' hn=>(jS _ _ _ _ (by show b'≠q; omega)).trans (h.fr.block b' hb' hn)⟩,h.fvb⟩,heap_setCell_same W' q o cs T y hq⟩
 ·obtain⟨C,h1,h2⟩:=h.rc.rw
  exact⟨C,h1,h2.setCell (h2.other hq hT.2.1 hT.2.2.1 hT.2.2.2) y⟩
 ·exact (jS _ _ _ _ (by show c≠q; exact jI h.rc.obj hq (Ne.symm hT.1))).trans h.rc.obj
theorem rmakeO_calls {full:Bool}(H:RC b W c p fv fl vs full)(HP:PR 0 W vs gv l G)(hlen:G.length=s.size+1)(hs:s.size≤1000000)(hn:n+1<s.size)(hx1:s[n]=98∨s[n]=66)(ho:∀ x∈G,EOK x){kk:Nat}{K:Int}(hk:vs[kk]? = some K)(hK:MkH full s[n] K)(hb:b+40600000000≤5000000000000):
 Calls Tryz.prog 38 #[.pointer (some ⟨c,0,none⟩),.agg #[.string s,gv],.int .i64 (n:Nat),.int .i64 (kk:Nat)] W fun e W' =>
  ∃ (s':ByteArray) (gv':Value) (l':List N3) (fv':Value) (fl':List Value) (vs':List Int),e=.returned (.agg #[.string s',gv'])∧Hid (s'.data.toList=pinO s.data.toList n)∧Hid (PR 0 W' vs' gv' l' (makeGo full s.data.toList G n K))∧Hid (RK (b+40600000000) W W' c p fv fv' fl fl' vs vs' (makeFo full s.data.toList G n K)):=by
 have HH:=jH H
 obtain⟨gb,gc,au,av,am,rfl,hl1,-⟩:=HP.el (i:=n) (jG (by omega))
 obtain⟨bu,bv,bm,hl2⟩:∃ bu bv bm,l[n+2]? = some (bu,bv,bm):=⟨_,_,_,jG (by rw[HP.at_.1];omega)⟩
 have HL1:=jH hl1
 have HL2:=jH hl2
 clear hl1 hl2
 obtain⟨x,hx⟩:∃ g,G[n]? = some g:=⟨_,jG (by omega)⟩
 obtain⟨z,hz⟩:∃ g,G[n+2]? = some g:=⟨_,jG (by omega)⟩
 have hox:=ho x (jM hx)
 have hoz:=ho z (jM hz)
 have i1:((n:Int)+2).toNat=n+2:=by omega
 have i2:(0:Int)≤(n:Int)+2:=by omega
 have i4:((n:Int)+2)<(G.length:Int):=by omega
 have i5:(n:Int)<(s.size:Int):=by omega
 have i6:((n:Int)).toNat=n:=by omega
 have i7:n<s.size:=by omega
 have i8:(n:Int)<(G.length:Int):=by omega
 have w2:IntKind.i64.wrap ((n:Int)+2)=(n:Int)+2:=by rw[IntKind.wrap_i64];omega
 have w3:IntKind.i64.wrap ((n:Int)+3)=(n:Int)+3:=by rw[IntKind.wrap_i64];omega
 have hgd:s.data.toList.getD n 0=s[n]:=ba_get i7
 have HG:Hid (makeGo full s.data.toList G n K=G.take n++[mkGo full s[n] K x z]++G.drop (n+3)):=by
  show _=_
  unfold makeGo
  rw[hgd,List.getD_eq_getElem?_getD,hx,List.getD_eq_getElem?_getD,hz];rfl
 have HFl:Hid (makeFo full s.data.toList G n K=mkF3o full s[n] K x z):=by
  show _=_
  unfold makeFo
  rw[hgd,List.getD_eq_getElem?_getD,hx,List.getD_eq_getElem?_getD,hz];rfl
 obtain⟨x1,hc1⟩:∃ x,s[n]=x:=⟨_,rfl⟩
 rw[hc1] at hx1 HG HFl hK
 clear hgd
 obtain⟨W1,B,hW1,hB,H1,HB1,HX0,HX1⟩:∃ W1 B,(W.alloc (.cells #[.string s,(.slice (some ⟨gb,0,none⟩) G.length gc)] 78)).alloc (.cells #[.string ⟨#[]⟩,.slice none 0 0] 78)=W1∧W.heap.size=B∧Hid (RC b W1 c p fv fl vs full)∧Hid (Below W.heap.size W W1)∧Hid (W1.heap[B]? = some (.cells #[.string s,(.slice (some ⟨gb,0,none⟩) G.length gc)] 78 (0,0)))∧Hid (W1.heap[B+1]? = some (.cells #[.string ⟨#[]⟩,.slice none 0 0] 78 (0,0))):=by
  have hbl:Below W.heap.size W ((W.alloc (.cells #[.string s,(.slice (some ⟨gb,0,none⟩) G.length gc)] 78)).alloc (.cells #[.string ⟨#[]⟩,.slice none 0 0] 78)):=((Below.refl _ _).alloc (jR _) _).alloc (by simp) _
  exact⟨_,_,rfl,rfl,H.below hbl,hbl,qU W _ _,qA W _ _⟩
 have HPs:=jH HP
 have Hp:=jH hK
 have HKK:=jH hk
 have Hox:=jH hox
 have Hoz:=jH hoz
 have Hx:=jH hx
 have Hz:=jH hz
 have Hb:=jH hb
 have Hlen:=jH hlen
 clear H HP hK hk hox hoz ho hx hz hb hlen
 have hB2:W1.heap.size=B+1+1:=by rw[← hW1,← hB];simp
 obtain⟨W2,hW2,H2,HB2,HM2⟩:∃ W2,W1.alloc (.cells #[.int .i64 0,.int .i64 0,.int .i64 (kk:Nat)] 35)=W2∧Hid (RC b W2 c p fv fl vs full)∧Hid (Below W.heap.size W W2)∧Hid (MkB W2 B s (.slice (some ⟨gb,0,none⟩) G.length gc) 0 0 kk):=by
  have hbl:Below W1.heap.size W1 (W1.alloc (.cells #[.int .i64 0,.int .i64 0,.int .i64 (kk:Nat)] 35)):=(Below.refl _ _).alloc (jR _) _
  refine⟨_,rfl,H1.out.below hbl,Below.trans' HB1.out hbl,Below.here hbl HX0.out,Below.here hbl HX1.out,?_⟩
  have:=jD W1 (.cells #[.int .i64 0,.int .i64 0,.int .i64 (kk:Nat)] 35)
  rw[hB2] at this; exact this
 have y0:W2.cell? ⟨B,0,none⟩=some (.string s):=by rw[jB HM2.out.b0];rfl
 have z0:W2.cell? ⟨B+1+1,0,none⟩=some (.int .i64 0):=by rw[jB HM2.out.b2];rfl
 have z1:W2.cell? ⟨B+1+1,1,none⟩=some (.int .i64 0):=by rw[jB HM2.out.b2];rfl
 have z2:W2.cell? ⟨B+1+1,2,none⟩=some (.int .i64 (kk:Nat)):=by rw[jB HM2.out.b2];rfl
 have fr2:=fun o=>jF HM2.out.b2 o
 have HBl1:Hid (W.heap.size≤B+1):=by show _≤_; omega
 have HBl:Hid (W.heap.size≤B+1+1):=by show _≤_; omega
 have t1:((UInt8.toNat 98:Nat):Int)=98:=rfl
 have t2:((UInt8.toNat 66:Nat):Int)=66:=rfl
 go_enter Tryz.func38,Tryz.ntmps38
 go_upto_if 19 with fail
 go_cut [10] from 20 to 33 (fun _ wq=>∃ (fv1:Value) (fl1:List Value) (vs1:List Int) (eu ev em:Nat),Hid (RK (b+500000000) W wq c p fv fv1 fl fl1 vs vs1 (mkF1o full x1 K))∧Hid (AtE vs1 (pinE x1 K) eu ev em)∧Hid (MkB wq B s (.slice (some ⟨gb,0,none⟩) G.length gc) eu ev em))
 case first =>
  rcases hx1 with rfl | rfl
  ·go_wp2_with fail
   go_meet
   case rel=>exact⟨fv,fl,vs,0,0,kk,((RK.refl H2.out).pre HB2.out).mono (by omega),⟨H2.out.wv.zero,H2.out.wv.zero,HKK.out⟩,HM2⟩
  ·by_cases hK0:K=0
   ·have hkk:kk=0:=(H2.out.wv.same HKK.out H2.out.wv.zero).2 hK0
    subst hkk
    have HK0:=jH hK0
    clear hK0
    go_wp2_with fail
    go_meet
    case rel=>exact⟨fv,fl,vs,0,0,0,by
     have e:mkF1o full 66 K=full:=by unfold mkF1o; rw[if_pos rfl,pinE66,HK0.out];exact orFull_zero full
     show RK _ _ _ _ _ _ _ _ _ _ _ _
     rw[e]
     exact (((RK.refl H2.out).pre HB2.out).mono (by omega)).set3 HM2.out.b2 HBl.out _ _ _,by
     show AtE _ _ _ _ _
     rw[pinE66,HK0.out];exact⟨H2.out.wv.zero,H2.out.wv.zero,H2.out.wv.zero⟩,HM2.out.set3 0 0 0⟩
   ·have hkk:¬ ((kk:Int)=0):=fun h=>hK0 ((H2.out.wv.same HKK.out H2.out.wv.zero).1 (by omega))
    have hkk2:decide ((kk:Int)=0)=false:=by simpa using hkk
    have hkk3:((kk:Int)==0)=false:=by simpa using hkk
    have hkk4:((kk:Int) != 0)=true:=by simpa using hkk
    have HK0:=jH hK0
    obtain⟨W3,hW3,HK3,HM3⟩:∃ W3,((W2.setCell ⟨B+1+1,0,none⟩ (.int .i64 0)).setCell ⟨B+1+1,1,none⟩ (.int .i64 0)).setCell ⟨B+1+1,2,none⟩ (.int .i64 0)=W3∧Hid (RK b W W3 c p fv fv fl fl vs vs full)∧Hid (MkB W3 B s (.slice (some ⟨gb,0,none⟩) G.length gc) 0 0 0) :=
     ⟨_,rfl,((RK.refl H2.out).pre HB2.out).set3 HM2.out.b2 HBl.out _ _ _,HM2.out.set3 0 0 0⟩
    have hlw:=low_calls HK3.out.rc HKK.out hK0
    clear hK0
    go_wp2_with fail
    refine hlw.mono ?_
    rintro e5 w5 ⟨ql,rfl,hw5,hql⟩
    rw[hw5]
    clear hw5 hlw
    have HKa:=jH (Hp.out.a rfl)
    have hal:=zz HKa.out (.here (zI HK0.out))
    have hH:=yA (k:=500000000) HK3.out.rc HKK.out hql.out (Sz.of_allowed HKa.out) (Sz.of_allowed hal) (by omega) (by omega) zo (by have:=hv_cost (Sz.of_allowed HKa.out) (Sz.of_allowed hal).len; omega) (by have:=Hb.out; omega)
    clear hal
    go_wp2_with fail
    refine hH.mono ?_
    rintro e6 w6 ⟨qh,fv6,fl6,vs6,rfl,hk6,hq6⟩
    have hNd6:=qB hk6.out.rc hq6.out
    have HM6:=jH (HM3.out.rk HK3.out.rc hk6.out)
    clear hH
    go_wp2_with fail
    refine hNd6.mono ?_
    rintro e7 w7 ⟨rfl,hk7⟩
    have HM7:=jH (HM6.out.rk hk6.out.rc hk7.out)
    have HK7:=jH ((HK3.out.trans hk6.out).trans hk7.out)
    clear hNd6 z0 z1 z2 fr2
    have z0:w7.cell? ⟨B+1+1,0,none⟩=some (.int .i64 0):=by rw[jB HM7.out.b2];rfl
    have z1:w7.cell? ⟨B+1+1,1,none⟩=some (.int .i64 0):=by rw[jB HM7.out.b2];rfl
    have z2:w7.cell? ⟨B+1+1,2,none⟩=some (.int .i64 0):=by rw[jB HM7.out.b2];rfl
    have fr2:=fun o=>jF HM7.out.b2 o
    go_wp2_with fail
    go_meet
    case rel=>exact⟨fv6,fl6,vs6,qh,ql,0,by
     have e:mkF1o full 66 K=orFull full (shx K (-(lowE K:Int))):=by unfold mkF1o; rw[if_pos rfl,pinE66,yS HK0.out]
     show RK _ _ _ _ _ _ _ _ _ _ _ _
     rw[e]
     exact HK7.out.set3 HM7.out.b2 HBl.out _ _ _,by
     show AtE _ _ _ _ _
     rw[pinE66,yS HK0.out];exact⟨hq6.out,jW hk6.out.ext hql.out,HK7.out.rc.wv.zero⟩,HM7.out.set3 qh ql 0⟩
 case rest =>
  obtain⟨fv1,fl1,vs1,eu,ev,em,HK1,HE1,HMB⟩:=hcut
  have HP1:=jH (HPs.out.rk HH.out HK1.out)
  have hS0:=jH (mkC HMB.out HP1.out HL1.out HL2.out)
  have hb:=Hb.out
  have hM1:∀ w,Hid (Below wc.heap.size wc w)→Calls Tryz.prog 40 #[.pointer (some ⟨c,0,none⟩),.agg #[.int .i64 (au:Nat),.int .i64 (av:Nat),.int .i64 (am:Nat)],.agg #[.int .i64 (eu:Nat),.int .i64 (ev:Nat),.int .i64 (em:Nat)]] w (RMulQ (b+500000000) w c p fv1 fl1 vs1 (mkF1o full x1 K) x (pinE x1 K)) :=
   fun w hw=>yT (HK1.out.rc.below hw.out) (HP1.out.at_.2 n _ _ HL1.out Hx.out) HE1.out (MSz.first Hox.out Hp.out.u Hp.out.v Hp.out.m Hp.out.f) (by omega)
  have hS0b:=jH (fun o=>mkC (HMB.out.below (zO wc o 1).out) (HP1.out.below (zO wc o 1).out) HL1.out HL2.out)
  have HQB:Hid (B+1+1<wc.heap.size∧gb<wc.heap.size):=⟨(jA HMB.out.b2).1,jg hS0.out.2.1⟩
  have HSec:=jH (MSz.second Hox.out Hp.out.u Hp.out.v Hp.out.m Hp.out.f Hoz.out)
  have HZe:=jH (HP1.out.at_.2 (n+2) _ _ HL2.out Hz.out)
  have Hb2:Hid (b+500000000+20000000000+20000000000≤5000000000000):=by show _≤_; omega
  clear hb y0 z0 z1 z2 fr2
  go_upto_region 7 with fail
  go_cut [11] from 34 to 49 (fun v11 wq=>∃ (q:Nat) (fv3:Value) (fl3:List Value) (vs3:List Int) (ku kv km:Nat),v11=.pointer (some ⟨q,0,none⟩)∧Hid (wq.heap[q]? = some (.cells #[.int .i64 (ku:Nat),.int .i64 (kv:Nat),.int .i64 (km:Nat)] 35 (0,0)))∧Hid (RK (b+40500000000) W wq c p fv fv3 fl fl3 vs vs3 (mkF3o full x1 K x z))∧Hid (AtE vs3 (mkGo full x1 K x z) ku kv km)∧Hid (MkB wq B s (.slice (some ⟨gb,0,none⟩) G.length gc) eu ev em)∧Hid (PR 0 wq vs3 (.slice (some ⟨gb,0,none⟩) G.length gc) l G)∧Hid (W.heap.size≤q))
  case first =>
   go_region_held3 (fun w=>w.cell? ⟨B,1,none⟩=some (.slice (some ⟨gb,0,none⟩) G.length gc)∧w.cell? ⟨gb,n*3,none⟩=some (.int .i64 (au:Nat))∧w.cell? ⟨gb,n*3+1,none⟩=some (.int .i64 (av:Nat))∧w.cell? ⟨gb,n*3+2,none⟩=some (.int .i64 (am:Nat))∧w.cell? ⟨gb,(n+2)*3,none⟩=some (.int .i64 (bu:Nat))∧w.cell? ⟨gb,(n+2)*3+1,none⟩=some (.int .i64 (bv:Nat))∧w.cell? ⟨gb,(n+2)*3+2,none⟩=some (.int .i64 (bm:Nat))∧w.cell? ⟨B+1+1,0,none⟩=some (.int .i64 (eu:Nat))∧w.cell? ⟨B+1+1,1,none⟩=some (.int .i64 (ev:Nat))∧w.cell? ⟨B+1+1,2,none⟩=some (.int .i64 (em:Nat))) (first | exact hS3.out _ | exact hS2.out | exact hS2s.out _ _ _ | exact hS2t.out _ _ _ | exact hS1b.out _ | exact hS1.out | exact hS0b.out _ | exact hS0.out)
    (first
      | (go_at_call 40; refine (hM2 w1' (qr _)).mono ?_; rintro e2 w2 ⟨ku2,kv2,km2,fv3,fl3,vs3,rfl,hk2,ha2⟩
         have HMB3:=jH ((HMB2.out.below (qr w1').out).rk (HK2.out.rc.below (qr w1').out) hk2.out)
         have HP3:=jH ((HP2.out.below (qr w1').out).rk (HK2.out.rc.below (qr w1').out) hk2.out)
         have HK3:=jH ((HK2.out.post (qr w1').out).trans hk2.out)
         have HRk:=jH (fun q cs hq=>jd (T:=35) (q:=q) (cs:=cs) (z:=(0,0)) (HK2.out.rc.below (qr w1').out) hk2.out hq (by decide) (by decide) (by decide))
         have hS2:=jH (mkC HMB3.out HP3.out HL1.out HL2.out)
         have hS3:=jH (fun o=>mkC (HMB3.out.below (jV w2 o).out) (HP3.out.below (jV w2 o).out) HL1.out HL2.out)
         have HQ2:=jH (HRk.out wc.heap.size _ HQ1.out)
         have hS2s:=jH (fun x y z=>mkC_set hS2.out HQB.out x y z)
         have zq0:w2.cell? ⟨wc.heap.size,0,none⟩=some (.int .i64 0):=by rw[jB HQ2.out];rfl
         have zq1:w2.cell? ⟨wc.heap.size,1,none⟩=some (.int .i64 0):=by rw[jB HQ2.out];rfl
         have zq2:w2.cell? ⟨wc.heap.size,2,none⟩=some (.int .i64 0):=by rw[jB HQ2.out];rfl
         have frq:=fun o=>jF HQ2.out o)
      | (go_at_call 40; refine (hM2 w1' (qr _)).mono ?_; rintro e2 w2 ⟨ku2,kv2,km2,fv3,fl3,vs3,rfl,hk2,ha2⟩
         have HMB3:=jH ((HMB2.out.below (qr w1').out).rk (HK2.out.rc.below (qr w1').out) hk2.out)
         have HP3:=jH ((HP2.out.below (qr w1').out).rk (HK2.out.rc.below (qr w1').out) hk2.out)
         have HK3:=jH ((HK2.out.post (qr w1').out).trans hk2.out)
         have HRk:=jH (fun q cs hq=>jd (T:=35) (q:=q) (cs:=cs) (z:=(0,0)) (HK2.out.rc.below (qr w1').out) hk2.out hq (by decide) (by decide) (by decide))
         have hS2:=jH (mkC HMB3.out HP3.out HL1.out HL2.out)
         have hS3:=jH (fun o=>mkC (HMB3.out.below (jV w2 o).out) (HP3.out.below (jV w2 o).out) HL1.out HL2.out))
      | (go_at_call 40; refine (hM2 _ (jV w1' _)).mono ?_; rintro e2 w2 ⟨ku2,kv2,km2,fv3,fl3,vs3,rfl,hk2,ha2⟩
         have HMB3:=jH ((HMB2.out.below (jV w1' _).out).rk (HK2.out.rc.below (jV w1' _).out) hk2.out)
         have HP3:=jH ((HP2.out.below (jV w1' _).out).rk (HK2.out.rc.below (jV w1' _).out) hk2.out)
         have HK3:=jH ((HK2.out.post (jV w1' _).out).trans hk2.out)
         have HRk:=jH (fun q cs hq=>jd (T:=35) (q:=q) (cs:=cs) (z:=(0,0)) (HK2.out.rc.below (jV w1' _).out) hk2.out hq (by decide) (by decide) (by decide))
         have hS2:=jH (mkC HMB3.out HP3.out HL1.out HL2.out)
         have hS3:=jH (fun o=>mkC (HMB3.out.below (jV w2 o).out) (HP3.out.below (jV w2 o).out) HL1.out HL2.out)
         have HQ2:=jH (HRk.out w1'.heap.size _ (jD w1' _))
         have hS2t:=jH (fun x y z=>mkC_set hS2.out ⟨Nat.lt_of_lt_of_le HQB.out.1 HWs.out,Nat.lt_of_lt_of_le HQB.out.2 HWs.out⟩ x y z)
         have zq0:w2.cell? ⟨w1'.heap.size,0,none⟩=some (.int .i64 0):=by rw[jB HQ2.out];rfl
         have zq1:w2.cell? ⟨w1'.heap.size,1,none⟩=some (.int .i64 0):=by rw[jB HQ2.out];rfl
         have zq2:w2.cell? ⟨w1'.heap.size,2,none⟩=some (.int .i64 0):=by rw[jB HQ2.out];rfl
         have frq:=fun o=>jF HQ2.out o)
      | (go_at_call 40; refine (hM1 _ (jN wc _)).mono ?_; rintro e1 w1' ⟨ku,kv,km,fv2,fl2,vs2,rfl,hk1,ha1⟩
         have HMB2:=jH ((HMB.out.below (jN wc _)).rk (HK1.out.rc.below (jN wc _)) hk1.out)
         have HP2:=jH ((HP1.out.below (jN wc _)).rk (HK1.out.rc.below (jN wc _)) hk1.out)
         have HK2:=jH ((HK1.out.post (jN wc _)).trans hk1.out)
         have HWs:=jH (Nat.le_trans (jN wc _).size hk1.out.fr.size)
         have HRj:=jH (fun q cs hq=>jd (T:=35) (q:=q) (cs:=cs) (z:=(0,0)) (HK1.out.rc.below (jN wc _)) hk1.out hq (by decide) (by decide) (by decide))
         have hS1:=jH (mkC HMB2.out HP2.out HL1.out HL2.out)
         have hS1b:=jH (fun o=>mkC (HMB2.out.below (jV w1' o).out) (HP2.out.below (jV w1' o).out) HL1.out HL2.out)
         obtain⟨Bz,hBz⟩:=HSec.out
         have hM2:∀ w,Hid (Below w1'.heap.size w1' w)→Calls Tryz.prog 40 #[.pointer (some ⟨c,0,none⟩),.agg #[.int .i64 (ku:Nat),.int .i64 (kv:Nat),.int .i64 (km:Nat)],.agg #[.int .i64 (bu:Nat),.int .i64 (bv:Nat),.int .i64 (bm:Nat)]] w (RMulQ (b+500000000+20000000000) w c p fv2 fl2 vs2 (mkF2o full x1 K x) (mkG1o full x1 K x) z) :=
          fun w hw=>yT (HK2.out.rc.below hw.out) ha1.out (HZe.out.ext hk1.out.ext) hBz Hb2.out)
      | (go_at_call 40; refine (hM1 _ (zO wc _ _)).mono ?_; rintro e1 w1' ⟨ku,kv,km,fv2,fl2,vs2,rfl,hk1,ha1⟩
         have HMB2:=jH ((HMB.out.below (zO wc _ _).out).rk (HK1.out.rc.below (zO wc _ _).out) hk1.out)
         have HP2:=jH ((HP1.out.below (zO wc _ _).out).rk (HK1.out.rc.below (zO wc _ _).out) hk1.out)
         have HK2:=jH ((HK1.out.post (zO wc _ _).out).trans hk1.out)
         have HWs:=jH (Nat.le_trans (zO wc _ _).out.size hk1.out.fr.size)
         have HRj:=jH (fun q cs hq=>jd (T:=35) (q:=q) (cs:=cs) (z:=(0,0)) (HK1.out.rc.below (zO wc _ _).out) hk1.out hq (by decide) (by decide) (by decide))
         have hS1:=jH (mkC HMB2.out HP2.out HL1.out HL2.out)
         have hS1b:=jH (fun o=>mkC (HMB2.out.below (jV w1' o).out) (HP2.out.below (jV w1' o).out) HL1.out HL2.out)
         obtain⟨Bz,hBz⟩:=HSec.out
         have hM2:∀ w,Hid (Below w1'.heap.size w1' w)→Calls Tryz.prog 40 #[.pointer (some ⟨c,0,none⟩),.agg #[.int .i64 (ku:Nat),.int .i64 (kv:Nat),.int .i64 (km:Nat)],.agg #[.int .i64 (bu:Nat),.int .i64 (bv:Nat),.int .i64 (bm:Nat)]] w (RMulQ (b+500000000+20000000000) w c p fv2 fl2 vs2 (mkF2o full x1 K x) (mkG1o full x1 K x) z) :=
          fun w hw=>yT (HK2.out.rc.below hw.out) ha1.out (HZe.out.ext hk1.out.ext) hBz Hb2.out
         have HQ1:=jH (HRj.out wc.heap.size _ (heap_al2 wc _ _))))
   ·go_wp2_with fail
    go_meet
    case rel=>exact⟨w2.heap.size,fv3,fl3,vs3,ku2,kv2,km2,rfl,jD w2 _,(HK3.out.post (jV w2 _).out).mono (by omega),ha2,HMB3.out.below (jV w2 _).out,HP3.out.below (jV w2 _).out,HK3.out.fr.size⟩
   ·go_wp2_with fail
    go_meet
    case rel=>exact⟨w1'.heap.size,fv3,fl3,vs3,ku2,kv2,km2,rfl,z7 HQ2.out,(HK3.out.set3 HQ2.out HK2.out.fr.size _ _ _).mono (by omega),ha2,HMB3.out.set_other (Nat.lt_of_lt_of_le HQB.out.1 HWs.out) _ _ _,HP3.out.set_other (Nat.ne_of_lt (Nat.lt_of_lt_of_le HQB.out.2 HWs.out)) _ _ _,HK2.out.fr.size⟩
   ·go_wp2_with fail
    go_meet
    case rel=>exact⟨wc.heap.size,fv3,fl3,vs3,ku2,kv2,km2,rfl,z7 HQ2.out,(HK3.out.set3 HQ2.out HK1.out.fr.size _ _ _).mono (by omega),ha2,HMB3.out.set_other HQB.out.1 _ _ _,HP3.out.set_other (Nat.ne_of_lt HQB.out.2) _ _ _,HK1.out.fr.size⟩
  case rest =>
   obtain⟨w0,rfl⟩:∃ w0,w0=wc:=⟨_,rfl⟩
   obtain⟨q,fv3,fl3,vs3,ku,kv,km,rfl,HQ,HK3,HA3,HMB3,HP3,HWq⟩:=hcut
   clear hM1
   have y0:w0.cell? ⟨B,0,none⟩=some (.string s):=by rw[jB HMB3.out.b0];rfl
   have y1:w0.cell? ⟨B,1,none⟩=some (.slice (some ⟨gb,0,none⟩) G.length gc):=by rw[jB HMB3.out.b0];rfl
   have ly:=jg y0
   have ny:B≠w0.heap.size:=Nat.ne_of_lt ly
   have j0:(0:Int)≤(n:Int):=Int.natCast_nonneg n
   have j1:(n:Int)≤(s.size:Int):=by omega
   have j2:(n:Int)+2≤(s.size:Int):=by omega
   have j3:¬ (9223372036854775807<(s.extract 0 n).size+(s.extract (n+2) s.size).size):=by
    rw[ByteArray.size_extract,ByteArray.size_extract];omega
   go_wp2_with fail
   go_region
   obtain⟨D,hD⟩:∃ D,w0.heap.size=D:=⟨_,rfl⟩
   obtain⟨O,hO⟩:∃ O,O=s.extract 0 n++s.extract (n+2) s.size:=⟨_,rfl⟩
   have HO:Hid (O.data.toList=pinO s.data.toList n):=by show _=_; rw[hO];exact cut_list s n
   rw[← hO]
   obtain⟨W8,hW8⟩:∃ W8,W8=(w0.alloc (.cells #[.string O,.slice none 0 0] 78)).drew:=⟨_,rfl⟩
   have M8:Hid (MkT w0 W8 D O none 0 0 []):=by
    show MkT _ _ _ _ _ _ _ _
    rw[hW8]
    exact⟨zO w0 _ 1,by rw[← hD];exact heap_al2 w0 _ 1,NRow.nil _,fun b h=>by simp[Value.ownBlock] at h⟩
   rw[← hW8,hD]
   obtain⟨T1,T2,kc⟩:Hid (NSrc w0 (.slice (some ⟨gb,0,none⟩) n gc) (l.take n))∧Hid (NSrc w0 (.slice (if gc=n+3 then some ⟨gb,0,none⟩ else some ⟨gb,(n+3)*3,none⟩) (G.length - (n+3)) (gc - (n+3))) (l.drop (n+3)))∧G.length≤gc:=by
    have hr:=HP3.out.row
    have hl:=HP3.out.at_.1
    obtain⟨a,c0,e,h1,h2,h3,h4,h5⟩:=NRow.srcs (W:=w0) (l:=l) hr
    obtain⟨ea,-,ec⟩:=Value.slice.inj e
    subst ea
    subst ec
    have h6:=(h5 _ rfl).2.2
    refine⟨h6.1 n (by have:=Hlen.out; omega),?_⟩
    have:=h6.2 (n+3) (by have:=Hlen.out; omega)
    rw[hl] at this
    exact⟨this,by omega⟩
   have HDc:Hid (w0.heap.size≤D):=by show _≤_; omega
   have HyB:Hid (∀ w,Below w0.heap.size w0 w→w.cell? ⟨B,1,none⟩=some (.slice (some ⟨gb,0,none⟩) G.length gc)):=fun w h=>qn h y1
   clear hW8 hO hD y0 y1 ly ny j2 j3
   have d1:W8.cell? ⟨D,1,none⟩=some (.slice none 0 0):=by rw[jB M8.out.dd];rfl
   have y1:=HyB.out W8 M8.out.bl
   have k1:(n:Int)≤(G.length:Int):=by omega
   have k2:n≤gc:=by omega
   have k3:n+3≤G.length:=by have:=Hlen.out; omega
   have hb9:n≤1000000:=by omega
   have hl9:(l.take n).length=n:=by rw[List.length_take,HP3.out.at_.1];omega
   have Hl9:=jH hl9
   clear hl9
   go_upto_region 9 with fail
   go_cut [67] from 61 to 68 (fun _ wq=>∃ g1 c1,Hid (MkT w0 wq D O g1 n c1 (l.take n)))
   case first =>
    go_region_law (first
     | (refine step_N rfl (.tmp 62) (.tmp 66) rfl (.slice none 0 0) [] rfl (NRow.nil _) _ (l.take n) rfl (T1.out.below (blw_dr M8.out.bl)) n ((Nat.zero_add _).trans Hl9.out) _ rfl hb9 _ rfl ?_; intro g1 c1 w9 N9 G9 A9
        have hd9:=((M8.out.drewN 1).mid G9).1
        have M9:=jH ((M8.out.drewN 1).step N9 G9 A9 HDc.out)
        have fd9:=fun o=>jF hd9 o
        have d9:w9.cell? ⟨D,1,none⟩=some (.slice none 0 0):=by rw[jB hd9];rfl
        clear N9 G9 A9))
    all_goals
     go_wp2_with fail
     go_meet
     case rel=>exact⟨g1,c1,M9⟩
   case rest =>
    obtain⟨g1,c1,M9⟩:=hcut
    obtain⟨w1,rfl⟩:∃ w1,w1=wc:=⟨_,rfl⟩
    have y1:=HyB.out w1 M9.out.bl
    have HQ1:Hid (w1.heap[q]? = some (.cells #[.int .i64 (ku:Nat),.int .i64 (kv:Nat),.int .i64 (km:Nat)] 35 (0,0))):=Below.here M9.out.bl HQ.out
    have qx0:w1.cell? ⟨q,0,none⟩=some (.int .i64 (ku:Nat)):=by rw[jB HQ1.out];rfl
    have qx1:w1.cell? ⟨q,1,none⟩=some (.int .i64 (kv:Nat)):=by rw[jB HQ1.out];rfl
    have qx2:w1.cell? ⟨q,2,none⟩=some (.int .i64 (km:Nat)):=by rw[jB HQ1.out];rfl
    have d1:w1.cell? ⟨D,1,none⟩=some (.slice g1 n c1):=by rw[jB M9.out.dd];rfl
    have hb10:n+1≤1000000:=by omega
    go_wp2_with (at_builtin; go_loud (refine app_N rfl (.tmp 70) (.tmp 72) rfl (.slice g1 n c1) (l.take n) rfl (M9.out.alloc _).row _ [(ku,kv,km)] rfl (NSrc.one (jD w1 _)) (n+1) (by rw[Hl9.out];rfl) _ rfl hb10 _ rfl ?_);intro g2 c2 w10 N10 G10 A10; have hd10:=((M9.out.alloc _).mid G10).1; have M10:=jH ((M9.out.alloc _).step N10 G10 A10 HDc.out);have fd10:=fun o=>jF hd10 o; have d10:w10.cell? ⟨D,1,none⟩=some (.slice g1 n c1):=(by rw[jB hd10];rfl);clear N10 G10 A10)
    obtain⟨w2,hw2⟩:∃ w2,w2=w10.setCell ⟨D,1,none⟩ (.slice g2 (n+1) c2):=⟨_,rfl⟩
    rw[← hw2] at M10 ⊢
    clear hw2 fd10 d10 qx0 qx1 qx2 y1 d1
    have y1:=HyB.out w2 M10.out.bl
    have d1:w2.cell? ⟨D,1,none⟩=some (.slice g2 (n+1) c2):=by rw[jB M10.out.dd];rfl
    obtain⟨ga,hga⟩:∃ ga,(if gc=n+3 then some (⟨gb,0,none⟩:Addr) else some ⟨gb,(n+3)*3,none⟩)=ga:=⟨_,rfl⟩
    have T2':=jH (T2.out.below (blw_dr M10.out.bl))
    rw[hga] at T2'
    have hl11:((l.take n++[(ku,kv,km)]).length+(l.drop (n+3)).length)=n+1+(G.length - (n+3)):=by
     rw[List.length_append,Hl9.out,List.length_drop,HP3.out.at_.1];rfl
    have Hl11:=jH hl11
    have hb11:n+1+(G.length - (n+3))≤1000000:=by have:=Hlen.out; omega
    have k4:(0:Int)≤(n:Int)+3:=by omega
    have k5:(n:Int)+3≤(G.length:Int):=by omega
    have k6:((n:Int)+3).toNat=n+3:=by omega
    clear hl11 hb9 hb10
    trace_state
    go_upto_region 11 with fail
    go_cut [82] from 75 to 83 (fun _ wq=>∃ g3 n3 c3,Hid (MkT w0 wq D O g3 n3 c3 (l.take n++[(ku,kv,km)]++l.drop (n+3))))
    case first =>
     go_region_law (first
      | (refine step_N rfl (.tmp 76) (.tmp 81) rfl (.slice g2 (n+1) c2) (l.take n++[(ku,kv,km)]) rfl (M10.out.drewN 1).row _ (l.drop (n+3)) rfl T2'.out _ Hl11.out _ rfl hb11 _ rfl ?_; intro g3 c3 w11 N11 G11 A11
         have hd11:=((M10.out.drewN 1).mid G11).1
         have M11:=jH ((M10.out.drewN 1).step N11 G11 A11 HDc.out)
         have fd11:=fun o=>jF hd11 o
         have d11:w11.cell? ⟨D,1,none⟩=some (.slice g2 (n+1) c2):=by rw[jB hd11];rfl
         clear N11 G11 A11))
     all_goals
      go_wp2_with fail
      go_meet
      case rel=>exact⟨g3,_,c3,M11⟩
    case rest =>
     obtain⟨g3,n3,c3,M11⟩:=hcut
     obtain⟨w3,rfl⟩:∃ w3,w3=wc:=⟨_,rfl⟩
     clear y1 d1
     have d0:w3.cell? ⟨D,0,none⟩=some (.string O):=by rw[jB M11.out.dd];rfl
     have d1:w3.cell? ⟨D,1,none⟩=some (.slice g3 n3 c3):=by rw[jB M11.out.dd];rfl
     have HR:Hid (w3.heap[B+1]? = some (.cells #[.string ⟨#[]⟩,.slice none 0 0] 78 (0,0))):=Below.here M11.out.bl HMB3.out.b1
     have r0:w3.cell? ⟨B+1,0,none⟩=some (.string ⟨#[]⟩):=by rw[jB HR.out];rfl
     have r1:w3.cell? ⟨B+1,1,none⟩=some (.slice none 0 0):=by rw[jB HR.out];rfl
     have fr:=fun o=>jF HR.out o
     go_wp2_with fail
     refine bodyPost_ret (v:=.agg #[.string O,.slice g3 n3 c3]) (by simp[results,Tryz.results38,go_sem,r0,r1]) rfl ?_
     have HKf:=HK3.out.post M11.out.bl
     obtain⟨f1,e1⟩:=HKf.setT HR.out (by decide) HBl1.out 0 (.string O)
     obtain⟨f2,e2⟩:=f1.setT e1 (by decide) HBl1.out 1 (.slice g3 n3 c3)
     refine⟨O,.slice g3 n3 c3,l.take n++[(ku,kv,km)]++l.drop (n+3),fv3,fl3,vs3,rfl,HO,?_,?_⟩
     ·show PR _ _ _ _ _ _
      rw[HG.out]
      refine⟨?_,((HP3.out.at_.take n).app (AtL.one HA3.out)).app (HP3.out.at_.drop (n+3)),fun _ _=>Nat.zero_le _⟩
      have hN:=M11.out.row
      have hlen2:=hN.1
      refine qP hN fun b hb=>?_
      obtain⟨cs,hc⟩:=jl hN hb
      exact (jS _ _ _ _ (by show b≠B+1; exact jI hc HR.out (by decide))).trans (jS _ _ _ _ (by show b≠B+1; exact jI hc HR.out (by decide)))
     ·show RK _ _ _ _ _ _ _ _ _ _ _ _
      rw[HFl.out]
      exact f2.mono (by omega)
theorem rmake_calls (H:RC b W c p fv fl vs false)(HP:PR 0 W vs gv l G)(hlen:G.length=s.size+1)(hs:s.size≤1000000)(hn:n+1<s.size)(hx1:s[n]=98∨s[n]=66)(ho:∀ x∈G,EOK x){kk:Nat}{K:Int}(hk:vs[kk]? = some K)(hK:allowed K)(hb:b+40600000000≤5000000000000):
 Calls Tryz.prog 38 #[.pointer (some ⟨c,0,none⟩),.agg #[.string s,gv],.int .i64 (n:Nat),.int .i64 (kk:Nat)] W fun e W' =>
  ∃ (s':ByteArray) (gv':Value) (l':List N3) (fv':Value) (fl':List Value) (vs':List Int),e=.returned (.agg #[.string s',gv'])∧Hid (s'.data.toList=pinO s.data.toList n)∧Hid (PR 0 W' vs' gv' l' (makeG s.data.toList G n K))∧Hid (RK (b+40600000000) W W' c p fv fv' fl fl' vs vs' (makeF s.data.toList G n K)) :=
 rmakeO_calls H HP hlen hs hn hx1 ho hk (MkH.of_allowed hK) hb
end
end Sr
