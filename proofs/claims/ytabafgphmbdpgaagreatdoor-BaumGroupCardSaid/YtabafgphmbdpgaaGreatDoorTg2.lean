/- Texts of this claim, joined: InvW. -/
import Derived.Test.YtabafgphmbdpgaaGreatDoorTg1
import Derived.Test.YtabafgphmbdpgaaGreatDoorTe1
import Derived.Test.YtabafgphmbdpgaaGreatDoorTe22
import Derived.Test.YtabafgphmbdpgaaGreatDoorTe25
set_option maxHeartbeats 8000000
set_option maxRecDepth 100000
namespace Sr
open Go Go.Proofs Go.RowKit Go.Maps Go.WideMaps
section
theorem eg86 (args:Array Value)(w:World): (callFunc 86 args).run Tryz.prog w=.ok (.enter 86 args) w:=by kernel_rfl
def Cl1Q (ok:Prop)(z:E3)(bo:Nat)(W:World)(e:Ending)(W':World): Prop:=(ok∧e=.returned (.tuple #[])∧Hid (Mul1Q z bo W W'))∨(¬ ok∧e=pan 5∧Hid (Below W.heap.size W W'))
variable {W:World} {x:E3}
theorem mul1_any {y:E3}{xu xv xm yu yv ym o0 o1 o2:Option Addr}{bx by' bo:Nat} 
 (H:Hid (Has W [(bo,#[.pointer o0,.pointer o1,.pointer o2],28),(by',#[.pointer yu,.pointer yv,.pointer ym],28),(bx,#[.pointer xu,.pointer xv,.pointer xm],28)]))
 (hx:Hid (IsE W (.agg #[.pointer xu,.pointer xv,.pointer xm]) x)) (hy:Hid (IsE W (.agg #[.pointer yu,.pointer yv,.pointer ym]) y)) :
 Calls Tryz.prog 55 #[.pointer (some ⟨bx,0,none⟩),.pointer (some ⟨by',0,none⟩),.pointer (some ⟨bo,0,none⟩)] W (Cl1Q (TimesOK x y) (timesE x y) bo W):=by
 have a0:=H.out.cell (b:=bx) (c:=#[.pointer xu,.pointer xv,.pointer xm]) (T:=28) (by simp) 0
 have a1:=H.out.cell (b:=bx) (c:=#[.pointer xu,.pointer xv,.pointer xm]) (T:=28) (by simp) 1
 have a2:=H.out.cell (b:=bx) (c:=#[.pointer xu,.pointer xv,.pointer xm]) (T:=28) (by simp) 2
 have b0:=H.out.cell (b:=by') (c:=#[.pointer yu,.pointer yv,.pointer ym]) (T:=28) (by simp) 0
 have b1:=H.out.cell (b:=by') (c:=#[.pointer yu,.pointer yv,.pointer ym]) (T:=28) (by simp) 1
 have b2:=H.out.cell (b:=by') (c:=#[.pointer yu,.pointer yv,.pointer ym]) (T:=28) (by simp) 2
 have hT:=zp hx.out hy.out
 go_enter Tryz.func55,Tryz.ntmps55
 go_wp2_with fail
 refine hT.mono ?_
 rintro e w6 (⟨hok,pu,pv,pm,rfl,hie,hb6⟩ | ⟨hok,rfl,hb6⟩)
 ·have Y3:=jH (H.out.below hb6.out (bo,#[.pointer o0,.pointer o1,.pointer o2],28) (by simp))
  have d0:=jB Y3.out 0
  have d1:=jB Y3.out 1
  have d2:=jB Y3.out 2
  have f0:=jF Y3.out 0
  have f1:=jF Y3.out 1
  have f2:=jF Y3.out 2
  have Hok:=jH hok
  clear hT a0 a1 a2 b0 b1 b2 hok
  go_wp2_with fail
  go_end0
  exact Or.inl ⟨Hok.out,rfl,w6,pu,pv,pm,hie.out,hb6.out,rfl⟩
 ·refine And.intro rfl ?_
  exact Or.inr ⟨hok,rfl,hb6⟩
theorem cell_s3 {w:World}{q:Nat}{a:Addr}(h:a.block≠q)(x y z:Value): (Sr.set3 w q x y z).cell? a=w.cell? a:=by
 unfold World.cell?;rw[ji w h]
theorem inv1_any {xu xv xm o0 o1 o2:Option Addr}{bx bo:Nat}(hne:bx≠bo) 
 (H:Hid (Has W [(bo,#[.pointer o0,.pointer o1,.pointer o2],28),(bx,#[.pointer xu,.pointer xv,.pointer xm],28)]))
 (hx:Hid (IsE W (.agg #[.pointer xu,.pointer xv,.pointer xm]) x)) :
 Calls Tryz.prog 86 #[.pointer (some ⟨bx,0,none⟩),.pointer (some ⟨bo,0,none⟩)] W (Cl1Q (InvOK x) (invE x) bo W):=by
 have HXb:=jH (H.out (bx,#[.pointer xu,.pointer xv,.pointer xm],28) (by simp))
 have HOb:=jH (H.out (bo,#[.pointer o0,.pointer o1,.pointer o2],28) (by simp))
 obtain⟨hxu,hxv,hxm⟩:=IsE.parts (t:=(xu,xv,xm)) hx.out
 have HXu:=jH hxu
 have HXv:=jH hxv
 have HXm:=jH hxm
 have a0:W.cell? ⟨bx,0,none⟩=some (.pointer xu):=by rw[jB HXb.out];rfl
 have hSg:=qQ hxu
 clear H hx hxu hxv hxm
 by_cases hu:x.u=0
 ·have h0:isg x.u=0:=by rw[hu];simp[isg]
  rw[h0] at hSg
  have HInv:Hid (invE x=⟨0,0,-x.m⟩):=by show _=_; unfold invE; rw[if_pos hu]
  go_enter Tryz.func86,Tryz.ntmps86
  go_wp2_with fail
  refine hSg.mono ?_
  rintro e w1 ⟨rfl,hb1⟩
  have HX1:=jH (Below.here hb1.out HXb.out)
  have c2:w1.cell? ⟨bx,2,none⟩=some (.pointer xm):=by rw[jB HX1.out];rfl
  have hN:=Neg_calls (HXm.out.below hb1.out)
  clear hSg a0
  go_wp2_with fail
  refine hN.mono ?_
  rintro e w2 ⟨q,rfl,hq,hb2⟩
  have HB2:=jH (Below.trans' hb1.out hb2.out)
  have HO2:=jH (Below.here HB2.out HOb.out)
  have Hq:=jH hq.out
  have d0:=jB HO2.out 0
  have d1:=jB HO2.out 1
  have d2:=jB HO2.out 2
  have f0:=jF HO2.out 0
  have f1:=jF HO2.out 1
  have f2:=jF HO2.out 2
  clear hN c2 hb1 hb2 hq
  go_wp2_with fail
  go_end0
  exact Or.inl ⟨.inl hu,rfl,w2,none,none,q,by rw[HInv.out];exact⟨none,none,q,rfl,j4 _,j4 _,Hq.out⟩,HB2.out,rfl⟩
 ·have hsz:=mt qM.1 hu
  have hsz2:(isg x.u==0)=false:=by simpa using hsz
  have hsz3:decide (isg x.u=0)=false:=decide_eq_false hsz
  have HInv:Hid (invE x=plainE (-x.u) (x.v - x.m) (-x.m)):=by show _=_; unfold invE; rw[if_neg hu]
  have HOK:Hid (InvOK x↔allowed (x.v - x.m)∧plainOK (-x.u) (x.v - x.m)):=⟨fun h=>h.elim (fun h=>absurd h hu) id,.inr⟩
  have HK:Hid (∀ w',Below W.heap.size W w'→w'.cell? ⟨bx,0,none⟩=some (.pointer xu)∧w'.cell? ⟨bx,1,none⟩=some (.pointer xv)∧w'.cell? ⟨bx,2,none⟩=some (.pointer xm)):=fun w' hb =>
   ⟨by rw[jB (Below.here hb HXb.out)];rfl,by rw[jB (Below.here hb HXb.out)];rfl,by rw[jB (Below.here hb HXb.out)];rfl⟩
  have HNu:Hid (∀ w,Below W.heap.size W w→Calls Tryz.prog 87 #[.agg #[.pointer xu]] w fun e w'=>∃ q,e=.returned (.agg #[.pointer q])∧Hid (IsN w' (.agg #[.pointer q]) (-x.u))∧Hid (Below W.heap.size W w')∧Hid (Below w.heap.size w w')):=fun w hb =>
   (Neg_calls (HXu.out.below hb)).mono fun e w' ⟨q,h1,h2,h3⟩=>⟨q,h1,h2,Below.trans' hb h3.out,h3⟩
  have HNm:Hid (∀ w,Below W.heap.size W w→Calls Tryz.prog 87 #[.agg #[.pointer xm]] w fun e w'=>∃ q,e=.returned (.agg #[.pointer q])∧Hid (IsN w' (.agg #[.pointer q]) (-x.m))∧Hid (Below W.heap.size W w')∧Hid (Below w.heap.size w w')):=fun w hb =>
   (Neg_calls (HXm.out.below hb)).mono fun e w' ⟨q,h1,h2,h3⟩=>⟨q,h1,h2,Below.trans' hb h3.out,h3⟩
  have HSb:Hid (∀ w,Below W.heap.size W w→Calls Tryz.prog 90 #[.agg #[.pointer xv],.agg #[.pointer xm]] w fun e w'=>∃ q er,e=.returned (.tuple #[.agg #[.pointer q],.int .i64 er])∧Hid (NR w' (x.v - x.m) (.agg #[.pointer q]) er)∧Hid (Below W.heap.size W w')∧Hid (Below w.heap.size w w')):=fun w hb =>
   (Sub_calls (HXv.out.below hb) (HXm.out.below hb)).mono fun e w' ⟨q,er,h1,h2,h3⟩=>⟨q,er,h1,h3,Below.trans' hb h2.out,h2⟩
  have HMu:Hid (∀ q er w z,Below W.heap.size W w→NR w z (.agg #[.pointer q]) er→Calls Tryz.prog 89 #[.agg #[.pointer q],.int .i64 er] w fun e w'=>((e=.returned (.agg #[.pointer q])∧Hid (allowed z)∧Hid (IsN w' (.agg #[.pointer q]) z))∨(Hid (¬ allowed z)∧e=pan 5))∧Hid (Below W.heap.size W w')∧Hid (Below w.heap.size w w')):=fun q er w z hb hi =>
   (qV q er).mono fun e w' ⟨h1,h2⟩=>by
     refine⟨?_,Below.trans' hb h2.out,h2⟩
     rcases h1 with ⟨h3,h4⟩ | ⟨h3,h4⟩
     ·exact Or.inl ⟨h4,(hi.er.1 h3).1,(hi.er.1 h3).2.below h2.out⟩
     ·exact Or.inr ⟨(hi.er.2 h3).1,(hi.er.2 h3).2▸h4⟩
  go_enter Tryz.func86,Tryz.ntmps86
  go_wp2_with fail
  refine hSg.mono ?_
  rintro e w1 ⟨rfl,hb1⟩
  have HB1:=jH hb1.out
  have hK0:=HK.out _ HB1.out.drew
  clear hSg a0 hb1
  go_wp2_with fail
  go_region_held2 (fun w'=>w'.cell? ⟨bx,0,none⟩=some (.pointer xu)∧w'.cell? ⟨bx,1,none⟩=some (.pointer xv)∧w'.cell? ⟨bx,2,none⟩=some (.pointer xm))
   (first | exact HKs.out _ _ _ | exact HK.out _ HB6.out | exact HK.out _ HB5.out | exact HK.out _ HB4.out | exact HK.out _ HB3.out | exact HK.out _ HB2.out | exact HK.out _ HB1.out.drew | exact HK.out _ HB1.out)
   (first
     | (go_at_call 87
        with_reducible refine (HNm.out _ HB4.out).mono ?_
        rintro e w5 ⟨q5,rfl,HI5,HB5,HW5⟩
        have HP:=jH (yl (W:=w5) (HI2.out.below (Below.trans' (Below.trans' HW3.out HW4.out) HW5.out)) (HI4.out.below HW5.out) HI5.out))
     | (go_at_call 87
        with_reducible refine (HNu.out _ HB1.out.drew).mono ?_
        rintro e w2 ⟨q2,rfl,HI2,HB2,HW2⟩)
     | (go_at_call 90
        with_reducible refine (HSb.out _ HB2.out).mono ?_
        rintro e w3 ⟨q3,er3,rfl,HI3,HB3,HW3⟩)
     | (go_at_call 89
        with_reducible refine (HMu.out _ _ _ (x.v - x.m) HB3.out HI3.out).mono ?_
        rintro e w4 ⟨⟨rfl,HA4,HI4⟩ | ⟨HA4,rfl⟩,HB4,HW4⟩
        rotate_left
        ·refine And.intro rfl ?_
         exact Or.inr ⟨fun h=>HA4.out (HOK.out.1 h).1,rfl,HB4⟩)
     | (go_at_call 88
        refine HP.out.mono ?_
        rintro e w6 (⟨hok,pu,pv,pm,rfl,hie,hb6⟩ | ⟨hok,rfl,hb6⟩)
        rotate_left
        ·refine And.intro rfl ?_
         exact Or.inr ⟨fun h=>hok (HOK.out.1 h).2,rfl,Below.trans' HB5.out hb6.out⟩
        have HB6:=jH (Below.trans' HB5.out hb6.out)
        have Hok:=jH (HOK.out.2 ⟨HA4.out,hok⟩)
        have HIe:=jH hie.out
        have HO6:=jH (Below.here HB6.out HOb.out)
        have HKs:Hid (∀ p q r:Value,(Sr.set3 w6 bo p q r).cell? ⟨bx,0,none⟩=some (.pointer xu)∧(Sr.set3 w6 bo p q r).cell? ⟨bx,1,none⟩=some (.pointer xv)∧(Sr.set3 w6 bo p q r).cell? ⟨bx,2,none⟩=some (.pointer xm)):=fun p q r =>
         ⟨(cell_s3 hne p q r).trans (HK.out _ HB6.out).1,(cell_s3 hne p q r).trans (HK.out _ HB6.out).2.1,(cell_s3 hne p q r).trans (HK.out _ HB6.out).2.2⟩
        have d0:=jB HO6.out 0
        have d1:=jB HO6.out 1
        have d2:=jB HO6.out 2
        have f0:=jF HO6.out 0
        have f1:=jF HO6.out 1
        have f2:=jF HO6.out 2
        clear hok hie hb6))
  go_wp2_with fail
  go_end0
  exact Or.inl ⟨Hok.out,rfl,w6,pu,pv,pm,by rw[HInv.out];exact HIe.out,HB6.out,rfl⟩
def MIQ (ok:Prop)(z:E3)(W:World)(e:Ending)(W':World): Prop :=
 ∃ (qu qv qm:Option Addr) (er:Int) (r:E3),e=.returned (.tuple #[.agg #[.pointer qu,.pointer qv,.pointer qm],.int .i64 er])∧Hid (IsE W' (.agg #[.pointer qu,.pointer qv,.pointer qm]) r)∧Hid (Below W.heap.size W W')∧Hid ((er=0∧ok∧r=z)∨(er=5∧¬ ok∧r=⟨0,0,0⟩))
def ClR (d r:Nat)(ok:Prop)(z:E3)(W:World)(n:Int)(w:World): Prop :=
 ∃ (pu pv pm:Option Addr) (x:E3),IsE w (.agg #[.pointer pu,.pointer pv,.pointer pm]) x∧Below W.heap.size W w∧w.heap[d]? = some (.cells #[.pointer pu,.pointer pv,.pointer pm] 28 (0,0))∧w.heap[r]? = some (.cells #[.pointer none,.pointer none,.pointer none] 28 (0,0))∧((n=0∧ok∧x=z)∨(n=5∧¬ ok∧x=⟨0,0,0⟩))
theorem isE_zero (w:World): IsE w (.agg #[.pointer none,.pointer none,.pointer none]) ⟨0,0,0⟩:=⟨none,none,none,rfl,j4 _,j4 _,j4 _⟩
theorem cl_guard {ok:Prop}{z:E3}{W4:World}{d r:Nat}(HB4:Below W.heap.size W W4)(hd:W4.heap[d]? = some (.cells #[.pointer none,.pointer none,.pointer none] 28 (0,0)))(hr:W4.heap[r]? = some (.cells #[.pointer none,.pointer none,.pointer none] 28 (0,0)))(hrd:r≠d)(hW:W.heap.size≤d){e:Ending}{w:World} 
 (h:Cl1Q ok z d (W4.alloc (.cells #[.int .i64 0] 29)) e w) :
 (e=.returned (.tuple #[])∧Hid (ClR d r ok z W 0 w)∨∃ n,e=pan n∧Hid (ClR d r ok z W n w))∧Hid (w.heap[W4.heap.size]? = some (.cells #[.int .i64 0] 29 (0,0))):=by
 have HB5:Below W4.heap.size W4 (W4.alloc (.cells #[.int .i64 0] 29)):=(Below.refl _ _).alloc (jR _) _
 have hdl:=(jA hd).1
 rcases h with ⟨h1,rfl,w6,pu,pv,pm,hie,hb6,rfl⟩ | ⟨h1,rfl,hb⟩
 ·have y3:=Below.here hb6 (Below.here HB5 hd)
  have y2:=Below.here hb6 (Below.here HB5 hr)
  refine⟨.inl ⟨rfl,pu,pv,pm,z,IsE.store3 hie y3,Below.set3 (Below.trans' HB4 (Below.trans' HB5 hb6)) hW,z7 y3,?_,.inl ⟨rfl,h1,rfl⟩⟩,?_⟩
  ·rw[ji _ hrd];exact y2
  ·show _=_
   rw[ji _ (by omega)]
   exact Below.here hb6 (jD W4 _)
 ·refine⟨.inr ⟨5,rfl,none,none,none,⟨0,0,0⟩,isE_zero _,Below.trans' HB4 (Below.trans' HB5 hb.out),Below.here hb.out (Below.here HB5 hd),Below.here hb.out (Below.here HB5 hr),.inr ⟨rfl,h1,rfl⟩⟩,Below.here hb.out (jD W4 _)⟩
theorem Mul_any {V1 V2:Value}{y:E3}(h1:IsE W V1 x)(h2:IsE W V2 y): Calls Tryz.prog 21 #[V1,V2] W (MIQ (TimesOK x y) (timesE x y) W):=by
 have HX:=jH h1
 have HY:=jH h2
 obtain⟨xu,xv,xm,rfl,-⟩:=h1
 obtain⟨yu,yv,ym,rfl,-⟩:=h2
 obtain⟨W4,hW4⟩:∃ W4,W4=(((W.alloc (.cells #[.pointer xu,.pointer xv,.pointer xm] 28)).alloc (.cells #[.pointer yu,.pointer yv,.pointer ym] 28)).alloc (.cells #[.pointer none,.pointer none,.pointer none] 28)).alloc (.cells #[.pointer none,.pointer none,.pointer none] 28):=⟨_,rfl⟩
 have HW4:=jH hW4
 have HB4:Hid (Below W.heap.size W W4):=by show Below _ _ _; rw[hW4];exact ((((Below.refl _ _).alloc (jR _) _).alloc (by simp) _).alloc (by simp; omega) _).alloc (by simp; omega) _
 have HH4:Hid (Has W4 [(W.heap.size+3,#[.pointer none,.pointer none,.pointer none],28),(W.heap.size+2,#[.pointer none,.pointer none,.pointer none],28),(W.heap.size+1,#[.pointer yu,.pointer yv,.pointer ym],28),(W.heap.size,#[.pointer xu,.pointer xv,.pointer xm],28)]):=by
  show Has _ _
  have h:=(((Has.add (l:=[]) (fun p hp=>by simp at hp) #[.pointer xu,.pointer xv,.pointer xm] 28:Has (W.alloc _) _).add #[.pointer yu,.pointer yv,.pointer ym] 28).add #[.pointer none,.pointer none,.pointer none] 28).add #[.pointer none,.pointer none,.pointer none] 28
  rw[jY,jY,jY] at h
  rw[hW4];exact h
 have hz:Hid (W4.heap.size=W.heap.size+4):=by show _=_; rw[hW4];simp
 clear hW4
 have HB5:Hid (Below W4.heap.size W4 (W4.alloc (.cells #[.int .i64 0] 29))):=(Below.refl _ _).alloc (jR _) _
 have HH5:=jH (HH4.out.below HB5.out)
 have hC:=mul1_any (W:=W4.alloc (.cells #[.int .i64 0] 29)) (o0:=none) (o1:=none) (o2:=none) (bx:=W.heap.size) (by':=W.heap.size+1) (bo:=W.heap.size+3) (x:=x) (y:=y) (fun p hp=>HH5.out p (by
  simp only[List.mem_cons,List.not_mem_nil,or_false] at hp ⊢
  rcases hp with rfl | rfl | rfl <;>simp)) ((HX.out.below HB4.out).below HB5.out) ((HY.out.below HB4.out).below HB5.out)
 have hG:=guarded_any (W:=W4) (R:=ClR (W.heap.size+3) (W.heap.size+2) (TimesOK x y) (timesE x y) W) eg55 (hC.mono fun e w h=>cl_guard HB4.out (HH4.out (W.heap.size+3,#[.pointer none,.pointer none,.pointer none],28) (by simp)) (HH4.out (W.heap.size+2,#[.pointer none,.pointer none,.pointer none],28) (by simp)) (by omega) (by omega) h)
 clear hC
 go_enter Tryz.func21,Tryz.ntmps21
 go_wp2_with fail
 rw[show (((W.alloc (.cells #[.pointer xu,.pointer xv,.pointer xm] 28)).alloc (.cells #[.pointer yu,.pointer yv,.pointer ym] 28)).alloc (.cells #[.pointer none,.pointer none,.pointer none] 28)).alloc (.cells #[.pointer none,.pointer none,.pointer none] 28)=W4 from HW4.out.symm]
 refine hG.mono ?_
 rintro e w ⟨n,W1,rfl,hR,h29,he⟩
 obtain⟨pu,pv,pm,r,hie,hb,y3,y2,hcase⟩:=hR.out
 have HE:Hid (IsE w (.agg #[.pointer pu,.pointer pv,.pointer pm]) r):=by
  show IsE _ _ _
  obtain⟨_,_,_,k0,k1,k2,k3⟩:=hie
  rw[he]
  exact⟨_,_,_,k0,k1.setCell h29.out (by decide) _,k2.setCell h29.out (by decide) _,k3.setCell h29.out (by decide) _⟩
 have HB:Hid (Below W.heap.size W w):=by show Below _ _ _; rw[he];exact hb.setCell (by show W.heap.size≤W4.heap.size; have:=hz.out; omega) _
 have Y3:Hid (w.heap[W.heap.size+1+1+1]? = some (.cells #[.pointer pu,.pointer pv,.pointer pm] 28 (0,0))):=by
  show _=_; rw[he];exact (jS _ _ _ _ (by show _≠W4.heap.size; have:=hz.out; omega)).trans y3
 have Y2:Hid (w.heap[W.heap.size+1+1]? = some (.cells #[.pointer none,.pointer none,.pointer none] 28 (0,0))):=by
  show _=_; rw[he];exact (jS _ _ _ _ (by show _≠W4.heap.size; have:=hz.out; omega)).trans y2
 have Hcase:=jH hcase
 clear hR hie hb y3 y2 he hG h29 hcase
 have d0:=jB Y3.out 0
 have d1:=jB Y3.out 1
 have d2:=jB Y3.out 2
 have e0:=jB Y2.out 0
 have e1:=jB Y2.out 1
 have e2:=jB Y2.out 2
 have f0:=jF Y2.out 0
 have f1:=jF Y2.out 1
 have f2:=jF Y2.out 2
 go_wp2_with fail
 refine bodyPost_ret (v:=.tuple #[.agg #[.pointer pu,.pointer pv,.pointer pm],.int .i64 n]) (by simp[results,Tryz.results21,go_sem,e0,e1,e2]) rfl ?_
 exact⟨pu,pv,pm,n,r,rfl,IsE.store3 HE.out Y2.out,Below.set3 HB.out (by omega),Hcase.out⟩
theorem Inv_any {V:Value}(h1:IsE W V x): Calls Tryz.prog 42 #[V] W (MIQ (InvOK x) (invE x) W):=by
 have HX:=jH h1
 obtain⟨xu,xv,xm,rfl,-⟩:=h1
 obtain⟨W4,hW4⟩:∃ W4,W4=((W.alloc (.cells #[.pointer xu,.pointer xv,.pointer xm] 28)).alloc (.cells #[.pointer none,.pointer none,.pointer none] 28)).alloc (.cells #[.pointer none,.pointer none,.pointer none] 28):=⟨_,rfl⟩
 have HW4:=jH hW4
 have HB4:Hid (Below W.heap.size W W4):=by show Below _ _ _; rw[hW4];exact (((Below.refl _ _).alloc (jR _) _).alloc (by simp) _).alloc (by simp; omega) _
 have HH4:Hid (Has W4 [(W.heap.size+2,#[.pointer none,.pointer none,.pointer none],28),(W.heap.size+1,#[.pointer none,.pointer none,.pointer none],28),(W.heap.size,#[.pointer xu,.pointer xv,.pointer xm],28)]):=by
  show Has _ _
  have h:=((Has.add (l:=[]) (fun p hp=>by simp at hp) #[.pointer xu,.pointer xv,.pointer xm] 28:Has (W.alloc _) _).add #[.pointer none,.pointer none,.pointer none] 28).add #[.pointer none,.pointer none,.pointer none] 28
  rw[jY,jY] at h
  rw[hW4];exact h
 have hz:Hid (W4.heap.size=W.heap.size+3):=by show _=_; rw[hW4];simp
 clear hW4
 have HB5:Hid (Below W4.heap.size W4 (W4.alloc (.cells #[.int .i64 0] 29))):=(Below.refl _ _).alloc (jR _) _
 have HH5:=jH (HH4.out.below HB5.out)
 have hC:=inv1_any (by omega) (W:=W4.alloc (.cells #[.int .i64 0] 29)) (o0:=none) (o1:=none) (o2:=none) (bx:=W.heap.size) (bo:=W.heap.size+2) (x:=x) (fun p hp=>HH5.out p (by
  simp only[List.mem_cons,List.not_mem_nil,or_false] at hp ⊢
  rcases hp with rfl | rfl <;>simp)) ((HX.out.below HB4.out).below HB5.out)
 have hG:=guarded_any (W:=W4) (R:=ClR (W.heap.size+2) (W.heap.size+1) (InvOK x) (invE x) W) eg86 (hC.mono fun e w h=>cl_guard HB4.out (HH4.out (W.heap.size+2,#[.pointer none,.pointer none,.pointer none],28) (by simp)) (HH4.out (W.heap.size+1,#[.pointer none,.pointer none,.pointer none],28) (by simp)) (by omega) (by omega) h)
 clear hC
 go_enter Tryz.func42,Tryz.ntmps42
 go_wp2_with fail
 rw[show ((W.alloc (.cells #[.pointer xu,.pointer xv,.pointer xm] 28)).alloc (.cells #[.pointer none,.pointer none,.pointer none] 28)).alloc (.cells #[.pointer none,.pointer none,.pointer none] 28)=W4 from HW4.out.symm]
 refine hG.mono ?_
 rintro e w ⟨n,W1,rfl,hR,h29,he⟩
 obtain⟨pu,pv,pm,r,hie,hb,y3,y2,hcase⟩:=hR.out
 have HE:Hid (IsE w (.agg #[.pointer pu,.pointer pv,.pointer pm]) r):=by
  show IsE _ _ _
  obtain⟨_,_,_,k0,k1,k2,k3⟩:=hie
  rw[he]
  exact⟨_,_,_,k0,k1.setCell h29.out (by decide) _,k2.setCell h29.out (by decide) _,k3.setCell h29.out (by decide) _⟩
 have HB:Hid (Below W.heap.size W w):=by show Below _ _ _; rw[he];exact hb.setCell (by show W.heap.size≤W4.heap.size; have:=hz.out; omega) _
 have Y3:Hid (w.heap[W.heap.size+1+1]? = some (.cells #[.pointer pu,.pointer pv,.pointer pm] 28 (0,0))):=by
  show _=_; rw[he];exact (jS _ _ _ _ (by show _≠W4.heap.size; have:=hz.out; omega)).trans y3
 have Y2:Hid (w.heap[W.heap.size+1]? = some (.cells #[.pointer none,.pointer none,.pointer none] 28 (0,0))):=by
  show _=_; rw[he];exact (jS _ _ _ _ (by show _≠W4.heap.size; have:=hz.out; omega)).trans y2
 have Hcase:=jH hcase
 clear hR hie hb y3 y2 he hG h29 hcase
 have d0:=jB Y3.out 0
 have d1:=jB Y3.out 1
 have d2:=jB Y3.out 2
 have e0:=jB Y2.out 0
 have e1:=jB Y2.out 1
 have e2:=jB Y2.out 2
 have f0:=jF Y2.out 0
 have f1:=jF Y2.out 1
 have f2:=jF Y2.out 2
 go_wp2_with fail
 refine bodyPost_ret (v:=.tuple #[.agg #[.pointer pu,.pointer pv,.pointer pm],.int .i64 n]) (by simp[results,Tryz.results42,go_sem,e0,e1,e2]) rfl ?_
 exact⟨pu,pv,pm,n,r,rfl,IsE.store3 HE.out Y2.out,Below.set3 HB.out (by omega),Hcase.out⟩
end
end Sr
