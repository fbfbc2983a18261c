/- Texts of this claim, joined: RMulW. -/
import Derived.Test.YtabafgphmbdpgaaGreatDoorTe1
import Derived.Test.YtabafgphmbdpgaaGreatDoorTe37
set_option maxHeartbeats 8000000
set_option maxRecDepth 100000
namespace Sr
open Go Go.Proofs Go.RowKit Go.Maps Go.WideMaps
section
variable {b c p:Nat} {W:World} {fv:Value} {fl:List Value} {vs:List Int}
theorem RK.set1 {W':World}{fv':Value}{fl':List Value}{vs':List Int}{full':Bool}(h:RK b W W' c p fv fv' fl fl' vs vs' full'){q:Nat}{cs:Array Value}(hq:W'.heap[q]? = some (.cells cs 35 (0,0)))(hl:W.heap.size≤q)(o:Nat)(y:Value):
 RK b W (W'.setCell ⟨q,o,none⟩ y) c p fv fv' fl fl' vs vs' full'∧(W'.setCell ⟨q,o,none⟩ y).heap[q]? = some (.cells (cs.setIfInBounds o y) 35 (0,0)):=by
 refine⟨⟨⟨?_,?_⟩,h.ext,⟨h.fr.os,h.fr.tape,h.fr.output,by have:=h.fr.size; simpa using this,fun b' hb' hn=>(jS _ _ _ _ (by show b'≠q; omega)).trans (h.fr.block b' hb' hn)⟩,h.fvb⟩,heap_setCell_same W' q o cs 35 y hq⟩
 ·obtain⟨C,h1,h2⟩:=h.rc.rw
  exact⟨C,h1,h2.setCell (h2.other hq (by decide) (by decide) (by decide)) y⟩
 ·exact (jS _ _ _ _ (by show c≠q; exact jI h.rc.obj hq (by decide))).trans h.rc.obj
theorem RK.set3 {b:Nat}{W W':World}{c p:Nat}{fv fv':Value}{fl fl':List Value}{vs vs':List Int}{full':Bool}(h:RK b W W' c p fv fv' fl fl' vs vs' full'){q:Nat}{cs:Array Value}(hq:W'.heap[q]? = some (.cells cs 35 (0,0)))(hl:W.heap.size≤q)(x y z:Value):
 RK b W (Sr.set3 W' q x y z) c p fv fv' fl fl' vs vs' full':=by
 obtain⟨h1,e1⟩:=h.set1 hq hl 0 x
 obtain⟨h2,e2⟩:=h1.set1 e1 hl 1 y
 exact (h2.set1 e2 hl 2 z).1
def RMulQ (b:Nat)(W:World)(c p:Nat)(fv:Value)(fl:List Value)(vs:List Int)(full:Bool)(x y:E3)(e:Ending)(W':World): Prop :=
 ∃ (ku kv km:Nat) (fv':Value) (fl':List Value) (vs':List Int),e=.returned (.agg #[.int .i64 (ku:Nat),.int .i64 (kv:Nat),.int .i64 (km:Nat)])∧Hid (RK (b+20000000000) W W' c p fv fv' fl fl' vs vs' (fullF full x y))∧Hid (AtE vs' (mulF full x y) ku kv km)
theorem hv_cost {S:Int}{l:Nat}{n a:Nat}(h:Sz n a b S)(hl:(form (l:Int)).length≤a): (hvAsk S l).length≤n*((a+a)*(4*(a+a)+3)+1)+2:=by
 have:=sh_cost (k:=-(l:Int)) (m:=a) h (by rw[yh,List.length_map];exact hl)
 unfold hvAsk
 rw[List.length_cons];omega
theorem yT {full:Bool}(H:RC b W c p fv fl vs full){x y:E3}{iu iv im ju jv jm:Nat}(hx:AtE vs x iu iv im)(hy:AtE vs y ju jv jm){B:Nat}(hz:MSz B full x y)(hb:b+20000000000≤5000000000000):
 Calls Tryz.prog 40 #[.pointer (some ⟨c,0,none⟩),.agg #[.int .i64 (iu:Nat),.int .i64 (iv:Nat),.int .i64 (im:Nat)],.agg #[.int .i64 (ju:Nat),.int .i64 (jv:Nat),.int .i64 (jm:Nat)]] W (RMulQ b W c p fv fl vs full x y):=by
 obtain⟨W0,bx,hW0,hbx,HM,HB0,HR0⟩:∃ W0 bx,((W.alloc (.cells #[.int .i64 (iu:Nat),.int .i64 (iv:Nat),.int .i64 (im:Nat)] 35)).alloc (.cells #[.int .i64 (ju:Nat),.int .i64 (jv:Nat),.int .i64 (jm:Nat)] 35)).alloc (.cells #[.int .i64 0,.int .i64 0,.int .i64 0] 35)=W0∧W.heap.size=bx ∧
  Hid (MS b W0 c p fv fl vs full bx (bx+1) x y iu iv im ju jv jm)∧Hid (Below W.heap.size W W0)∧Hid (W0.heap[bx+1+1]? = some (.cells #[.int .i64 0,.int .i64 0,.int .i64 0] 35 (0,0))):=by
  have hbl:Below W.heap.size W (((W.alloc (.cells #[.int .i64 (iu:Nat),.int .i64 (iv:Nat),.int .i64 (im:Nat)] 35)).alloc (.cells #[.int .i64 (ju:Nat),.int .i64 (jv:Nat),.int .i64 (jm:Nat)] 35)).alloc (.cells #[.int .i64 0,.int .i64 0,.int .i64 0] 35)):=(((Below.refl _ _).alloc (jR _) _).alloc (by simp) _).alloc (by simp; omega) _
  refine⟨_,_,rfl,rfl,⟨H.below hbl,hx,hy,?_,?_⟩,hbl,?_⟩
  ·exact (jE _ _ (by simp; omega)).trans (qU W _ _)
  ·exact (jE _ _ (by simp)).trans (qA W _ _)
  ·have:=qA (W.alloc (.cells #[.int .i64 (iu:Nat),.int .i64 (iv:Nat),.int .i64 (im:Nat)] 35)) (.cells #[.int .i64 (ju:Nat),.int .i64 (jv:Nat),.int .i64 (jm:Nat)] 35) (.cells #[.int .i64 0,.int .i64 0,.int .i64 0] 35)
   rw[jY] at this; exact this
 have Hz:=jH hz
 have hOp:=fun M=>zq (k:=4000000) (HM.out.below (jN W0 M)).rc HM.out.ax.m HM.out.ay.m hz.xm (hz.ym.mono (jR _) (show 600≤620 by omega) (jR _)) (by omega) (by omega) (by have:=zv hz.xm.len hz.ym.len; omega) (by omega)
 clear H hx hy hz
 go_enter Tryz.func40,Tryz.ntmps40
 go_wp2_with fail
 go_region_held3 (fun w=>w.cell? ⟨c,0,none⟩=some (.pointer (some ⟨p,0,none⟩))∧(w.cell? ⟨bx,0,none⟩=some (.int .i64 (iu:Nat))∧w.cell? ⟨bx,1,none⟩=some (.int .i64 (iv:Nat))∧w.cell? ⟨bx,2,none⟩=some (.int .i64 (im:Nat)))∧w.cell? ⟨bx+1,0,none⟩=some (.int .i64 (ju:Nat))∧w.cell? ⟨bx+1,1,none⟩=some (.int .i64 (jv:Nat))∧w.cell? ⟨bx+1,2,none⟩=some (.int .i64 (jm:Nat))) (first | exact hMC2.out | exact hMC1.out | exact HM.out.cells)
  (first
    | (go_at_call 83; refine (hOp _).mono ?_; rintro e1 w1a ⟨qa,fv1a,fl1a,vs1a,rfl,hk1,hq1⟩
       have HM1:=jH ((HM.out.below (jN W0 _)).put hk1.out)
       have hMC1:=jH HM1.out.cells
       have hNd:=qB HM1.out.rc hq1.out
       have HK1:=jH (hk1.out.pre (jN W0 _))
       have HQa:=jH hq1.out
       clear hk1 hq1)
    | (go_at_call 74; refine hNd.mono ?_; rintro e2 w2a ⟨rfl,hk2⟩
       have HMa:=jH (HM1.out.put hk2.out)
       have hMC2:=jH HMa.out.cells
       have HKa:=jH (HK1.out.trans hk2.out)))
 clear hMC1 hMC2 hNd hk2 HM1 HK1 hOp
 have hOp:=fun M=>zq (k:=4000000) (HMa.out.below (jN w2a M)).rc HMa.out.ay.v HMa.out.ax.m (Hz.out.yv.mono (jR _) (show 300≤620 by omega) (show 300≤400 by omega)) Hz.out.xm (by omega) (by omega) (by have:=zv Hz.out.yv.len Hz.out.xm.len; omega) (by omega)
 go_wp2_with fail
 go_region_held3 (fun w=>w.cell? ⟨c,0,none⟩=some (.pointer (some ⟨p,0,none⟩))∧(w.cell? ⟨bx,0,none⟩=some (.int .i64 (iu:Nat))∧w.cell? ⟨bx,1,none⟩=some (.int .i64 (iv:Nat))∧w.cell? ⟨bx,2,none⟩=some (.int .i64 (im:Nat)))∧w.cell? ⟨bx+1,0,none⟩=some (.int .i64 (ju:Nat))∧w.cell? ⟨bx+1,1,none⟩=some (.int .i64 (jv:Nat))∧w.cell? ⟨bx+1,2,none⟩=some (.int .i64 (jm:Nat))) (first | exact hMC2.out | exact hMC1.out | exact HMa.out.cells)
  (first
    | (go_at_call 83; refine (hOp _).mono ?_; rintro e1 w1b ⟨qb,fv1b,fl1b,vs1b,rfl,hk1,hq1⟩
       have HM1:=jH ((HMa.out.below (jN w2a _)).put hk1.out)
       have hMC1:=jH HM1.out.cells
       have hNd:=qB HM1.out.rc hq1.out
       have HK1:=jH (hk1.out.pre (jN w2a _))
       have HQb:=jH hq1.out
       clear hk1 hq1)
    | (go_at_call 74; refine hNd.mono ?_; rintro e2 w2b ⟨rfl,hk2⟩
       have HMb:=jH (HM1.out.put hk2.out)
       have hMC2:=jH HMb.out.cells
       have HKb:=jH (HK1.out.trans hk2.out)))
 clear hMC1 hMC2 hNd hk2 HM1 HK1 hOp
 have HRa:=jH (jd HM.out.rc HKa.out HR0.out (by decide) (by decide) (by decide))
 have HRb:=jH (jd HMa.out.rc HKb.out HRa.out (by decide) (by decide) (by decide))
 obtain⟨cc0,⟨cx0,cx1,cx2⟩,cy0,cy1,cy2⟩:=HMb.out.cells
 have hwv:=jH HMb.out.rc.wv
 have r0:w2b.cell? ⟨bx+1+1,0,none⟩=some (.int .i64 0):=by rw[jB HRb.out];rfl
 have r1:w2b.cell? ⟨bx+1+1,1,none⟩=some (.int .i64 0):=by rw[jB HRb.out];rfl
 have r2:w2b.cell? ⟨bx+1+1,2,none⟩=some (.int .i64 0):=by rw[jB HRb.out];rfl
 have fr0:=fun o=>jF HRb.out o
 by_cases hxu:x.u=0
 ·have hiu:iu=0:=(hwv.out.same HMb.out.ax.u hwv.out.zero).2 hxu
  subst hiu
  by_cases hyu:y.u=0
  ·have hju:ju=0:=(hwv.out.same HMb.out.ay.u hwv.out.zero).2 hyu
   subst hju
   have HT:Hid (mulF full x y=⟨0,0,x.m+y.m⟩):=by show _=_; unfold mulF timesE plainE; rw[if_neg (fun h=>h.1 hxu),if_pos hxu,if_pos hyu]
   have HF:=jH (full_zero (full:=full) hxu hyu)
   go_wp2_with fail
   refine bodyPost_ret (v:=.agg #[.int .i64 0,.int .i64 0,.int .i64 (qa:Nat)]) (by simp[results,Tryz.results40,go_sem,r0,r1,r2]) rfl ?_
   refine⟨0,0,qa,fv1b,fl1b,vs1b,rfl,?_,?_⟩
   ·show RK _ _ _ _ _ _ _ _ _ _ _ _
    rw[← HF.out]
    exact (((HKa.out.trans HKb.out).pre HB0.out).mono (by omega)).set3 HRb.out (by omega) _ _ _
   ·show AtE _ _ _ _ _
    rw[HT.out]
    exact⟨hwv.out.zero,hwv.out.zero,jW HKb.out.ext (jW (List.prefix_refl _) HQa.out)⟩
  ·have hju:¬ ((ju:Int)=0):=fun h=>hyu ((hwv.out.same HMb.out.ay.u hwv.out.zero).1 (by omega))
   have hju2:decide ((ju:Int)=0)=false:=by simpa using hju
   have hju3:((ju:Int)==0)=false:=by simpa using hju
   have hS0:=hyu
   have hSz:Sz 600 1300 400 y.u:=Hz.out.yu.mono (by omega) (by omega) (by omega)
   have hSr:Sz 1300 634 B (y.v+x.m):=by
    have h:=Sz.sums (a:=620) (b:=400) (by omega) (by omega) (form x.m) 300 y.v (Hz.out.yv.mono (jR _) (by omega) (by omega)) (by have:=Hz.out.xm.len; omega) (fun t ht=>⟨Hz.out.xm.ex _ (Sr.mem_exps ht),Hz.out.xm.ex2 _ (Sr.mem_exps ht)⟩)
    rw[jc] at h
    exact h.mono (by have:=Hz.out.xm.len; omega) (jR _) Hz.out.b
   have HF:=jH (or4 (full:=full) (times_left hxu hyu))
   have HT:Hid (mulF full x y=⟨shx y.u (-(lowE y.u:Int)),y.v+x.m+lowE y.u,x.m+y.m⟩):=by show _=_; unfold mulF timesE plainE; rw[if_neg (fun h=>h.1 hxu),if_pos hxu,if_neg hyu]
   have hlw:=low_calls HMb.out.rc HMb.out.ay.u hS0
   go_wp2_with fail
   refine hlw.mono ?_
   rintro e5 w5 ⟨ql,rfl,hw5,hql⟩
   rw[hw5]
   clear hw5
   clear hlw
   have hl1:=hSz.ex _ (zI hS0)
   have hl2:=hSz.ex2 _ (zI hS0)
   obtain⟨bl,hbl⟩:=Sz.any (n:=1300) (a:=400) hl1 hl2
   obtain⟨bm,hbm⟩:=Sz.any (n:=1300) (a:=634) hl1 (fun f hf=>Nat.le_trans (hl2 f hf) (by omega))
   have hH:=fun M=>yA (k:=17000000000) (HMb.out.below (jN w2b M)).rc HMb.out.ay.u hql.out hSz (hbl bl (jR _)) (by omega) (by omega) zo (by have:=hv_cost hSz hl1; omega) (by omega)
   have HlA:=jH (hbm (bm+B) (by omega))
   have HrA:=jH (hSr.mono (jR _) (jR _) (show B≤bm+B by omega))
   have Hc:Hid ((sumAsk 0 (form (y.v+x.m)++form ((lowE y.u:Nat):Int))).length≤30000000):=by show _≤_; have:=zv (x:=(y.v+x.m)) (y:=((lowE y.u:Nat):Int)) hSr.len hl1; omega
   have H7:=jH HMb.out.ay.u
   have H8:=jH HQb.out
   clear hl1 hl2 hbl hbm cc0 cx0 cx1 cx2 cy0 cy1 cy2 r0 r1 r2 fr0
   go_wp2_with fail
   go_region_held3 (fun w=>w.cell? ⟨c,0,none⟩=some (.pointer (some ⟨p,0,none⟩))) (first | exact hMCs.out _ _ _ | exact hMC9.out | exact hMC8.out | exact hMC7.out | exact hMC6.out | exact HMb.out.rc.c0)
    (first
      | (go_at_call 80; refine (hH _).mono ?_; rintro e6 w6 ⟨qh,fv6,fl6,vs6,rfl,hk6,hq6⟩
         have HM6:=jH ((HMb.out.below (jN w2b _)).put hk6.out)
         have hMC6:=jH HM6.out.rc.c0
         have hNd6:=qB HM6.out.rc hq6.out
         have HK6:=jH (hk6.out.pre (jN w2b _))
         clear hk6)
      | (go_at_call 83; refine hA7.mono ?_; rintro e8 w8 ⟨qv,fv8,fl8,vs8,rfl,hk8,hq8⟩
         have HM8:=jH (HM7.out.put hk8.out)
         have hMC8:=jH HM8.out.rc.c0
         have hNd8:=qB HM8.out.rc hq8.out
         have HK8:=jH (HK7.out.trans hk8.out))
      | (go_at_call 74; refine hNd8.mono ?_; rintro e9 w9 ⟨rfl,hk9⟩
         have HM9:=jH (HM8.out.put hk9.out)
         have hMC9:=jH HM9.out.rc.c0
         have HK9:=jH (HK8.out.trans hk9.out)
         have HR9:=jH (jd HMb.out.rc HK9.out HRb.out (by decide) (by decide) (by decide))
         have HKW:=jH (((HKa.out.trans HKb.out).pre HB0.out).trans HK9.out)
         have hMCs:=jH (fun x y z=>(HKW.out.set3 HR9.out (show W.heap.size≤bx+1+1 by omega) x y z).rc.c0)
         have r0:w9.cell? ⟨bx+1+1,0,none⟩=some (.int .i64 0):=by rw[jB HR9.out];rfl
         have r1:w9.cell? ⟨bx+1+1,1,none⟩=some (.int .i64 0):=by rw[jB HR9.out];rfl
         have r2:w9.cell? ⟨bx+1+1,2,none⟩=some (.int .i64 0):=by rw[jB HR9.out];rfl
         have fr0:=fun o=>jF HR9.out o)
      | (go_at_call 74; refine hNd6.mono ?_; rintro e7 w7 ⟨rfl,hk7⟩
         have HM7:=jH (HM6.out.put hk7.out)
         have hMC7:=jH HM7.out.rc.c0
         have HK7:=jH (HK6.out.trans hk7.out)
         have hA7:=zq (k:=30000000) HM7.out.rc (jW HK7.out.ext H8.out) (jW HK7.out.ext hql.out) HrA.out HlA.out (by omega) (by omega) Hc.out (by omega)))
   go_wp2_with fail
   refine bodyPost_ret (v:=.agg #[.int .i64 (qh:Nat),.int .i64 (qv:Nat),.int .i64 (qa:Nat)]) (by simp[results,Tryz.results40,go_sem,r0,r1,r2]) rfl ?_
   refine⟨qh,qv,qa,fv8,fl8,vs8,rfl,?_,?_⟩
   ·show RK _ _ _ _ _ _ _ _ _ _ _ _
    rw[← HF.out]
    exact (HKW.out.mono (by omega)).set3 HR9.out (by omega) _ _ _
   ·show AtE _ _ _ _ _
    rw[HT.out]
    exact⟨jW hk8.out.ext hq6.out,hq8.out,jW HK9.out.ext (jW HKb.out.ext HQa.out)⟩
 ·have hiu:¬ ((iu:Int)=0):=fun h=>hxu ((hwv.out.same HMb.out.ax.u hwv.out.zero).1 (by omega))
  have hiu2:decide ((iu:Int)=0)=false:=by simpa using hiu
  have hiu3:((iu:Int)==0)=false:=by simpa using hiu
  by_cases hyu:y.u=0
  ·have hju:ju=0:=(hwv.out.same HMb.out.ay.u hwv.out.zero).2 hyu
   subst hju
   have hS0:=hxu
   have hSz:=Hz.out.xu
   have hSr:Sz 1300 634 B x.v:=Hz.out.xv.mono (jR _) (by omega) (jR _)
   have HF:=jH (or4 (full:=full) (times_right hxu hyu))
   have HT:Hid (mulF full x y=⟨shx x.u (-(lowE x.u:Int)),x.v+lowE x.u,x.m+y.m⟩):=by show _=_; unfold mulF timesE plainE; rw[if_neg (fun h=>h.2.1 hyu),if_neg hxu,if_pos hyu,if_neg hxu]
   have hlw:=low_calls HMb.out.rc HMb.out.ax.u hS0
   go_wp2_with fail
   refine hlw.mono ?_
   rintro e5 w5 ⟨ql,rfl,hw5,hql⟩
   rw[hw5]
   clear hw5
   clear hlw
   have hl1:=hSz.ex _ (zI hS0)
   have hl2:=hSz.ex2 _ (zI hS0)
   obtain⟨bl,hbl⟩:=Sz.any (n:=1300) (a:=400) hl1 hl2
   obtain⟨bm,hbm⟩:=Sz.any (n:=1300) (a:=634) hl1 (fun f hf=>Nat.le_trans (hl2 f hf) (by omega))
   have hH:=fun M=>yA (k:=17000000000) (HMb.out.below (jN w2b M)).rc HMb.out.ax.u hql.out hSz (hbl bl (jR _)) (by omega) (by omega) zo (by have:=hv_cost hSz hl1; omega) (by omega)
   have HlA:=jH (hbm (bm+B) (by omega))
   have HrA:=jH (hSr.mono (jR _) (jR _) (show B≤bm+B by omega))
   have Hc:Hid ((sumAsk 0 (form x.v++form ((lowE x.u:Nat):Int))).length≤30000000):=by show _≤_; have:=zv (x:=x.v) (y:=((lowE x.u:Nat):Int)) hSr.len hl1; omega
   have H7:=jH HMb.out.ax.u
   have H8:=jH HMb.out.ax.v
   clear hl1 hl2 hbl hbm cc0 cx0 cx1 cx2 cy0 cy1 cy2 r0 r1 r2 fr0
   go_wp2_with fail
   go_region_held3 (fun w=>w.cell? ⟨c,0,none⟩=some (.pointer (some ⟨p,0,none⟩))) (first | exact hMCs.out _ _ _ | exact hMC9.out | exact hMC8.out | exact hMC7.out | exact hMC6.out | exact HMb.out.rc.c0)
    (first
      | (go_at_call 80; refine (hH _).mono ?_; rintro e6 w6 ⟨qh,fv6,fl6,vs6,rfl,hk6,hq6⟩
         have HM6:=jH ((HMb.out.below (jN w2b _)).put hk6.out)
         have hMC6:=jH HM6.out.rc.c0
         have hNd6:=qB HM6.out.rc hq6.out
         have HK6:=jH (hk6.out.pre (jN w2b _))
         clear hk6)
      | (go_at_call 83; refine hA7.mono ?_; rintro e8 w8 ⟨qv,fv8,fl8,vs8,rfl,hk8,hq8⟩
         have HM8:=jH (HM7.out.put hk8.out)
         have hMC8:=jH HM8.out.rc.c0
         have hNd8:=qB HM8.out.rc hq8.out
         have HK8:=jH (HK7.out.trans hk8.out))
      | (go_at_call 74; refine hNd8.mono ?_; rintro e9 w9 ⟨rfl,hk9⟩
         have HM9:=jH (HM8.out.put hk9.out)
         have hMC9:=jH HM9.out.rc.c0
         have HK9:=jH (HK8.out.trans hk9.out)
         have HR9:=jH (jd HMb.out.rc HK9.out HRb.out (by decide) (by decide) (by decide))
         have HKW:=jH (((HKa.out.trans HKb.out).pre HB0.out).trans HK9.out)
         have hMCs:=jH (fun x y z=>(HKW.out.set3 HR9.out (show W.heap.size≤bx+1+1 by omega) x y z).rc.c0)
         have r0:w9.cell? ⟨bx+1+1,0,none⟩=some (.int .i64 0):=by rw[jB HR9.out];rfl
         have r1:w9.cell? ⟨bx+1+1,1,none⟩=some (.int .i64 0):=by rw[jB HR9.out];rfl
         have r2:w9.cell? ⟨bx+1+1,2,none⟩=some (.int .i64 0):=by rw[jB HR9.out];rfl
         have fr0:=fun o=>jF HR9.out o)
      | (go_at_call 74; refine hNd6.mono ?_; rintro e7 w7 ⟨rfl,hk7⟩
         have HM7:=jH (HM6.out.put hk7.out)
         have hMC7:=jH HM7.out.rc.c0
         have HK7:=jH (HK6.out.trans hk7.out)
         have hA7:=zq (k:=30000000) HM7.out.rc (jW HK7.out.ext H8.out) (jW HK7.out.ext hql.out) HrA.out HlA.out (by omega) (by omega) Hc.out (by omega)))
   go_wp2_with fail
   refine bodyPost_ret (v:=.agg #[.int .i64 (qh:Nat),.int .i64 (qv:Nat),.int .i64 (qa:Nat)]) (by simp[results,Tryz.results40,go_sem,r0,r1,r2]) rfl ?_
   refine⟨qh,qv,qa,fv8,fl8,vs8,rfl,?_,?_⟩
   ·show RK _ _ _ _ _ _ _ _ _ _ _ _
    rw[← HF.out]
    exact (HKW.out.mono (by omega)).set3 HR9.out (by omega) _ _ _
   ·show AtE _ _ _ _ _
    rw[HT.out]
    exact⟨jW hk8.out.ext hq6.out,hq8.out,jW HK9.out.ext (jW HKb.out.ext HQa.out)⟩
  ·have hju:¬ ((ju:Int)=0):=fun h=>hyu ((hwv.out.same HMb.out.ay.u hwv.out.zero).1 (by omega))
   have hju2:decide ((ju:Int)=0)=false:=by simpa using hju
   have hju3:((ju:Int)==0)=false:=by simpa using hju
   have hSq:Sz 900 634 B (y.v+x.m):=by
    have h:=Sz.sums (a:=620) (b:=400) (by omega) (by omega) (form x.m) 300 y.v (Hz.out.yv.mono (jR _) (by omega) (by omega)) (by have:=Hz.out.xm.len; omega) (fun t ht=>⟨Hz.out.xm.ex _ (Sr.mem_exps ht),Hz.out.xm.ex2 _ (Sr.mem_exps ht)⟩)
    rw[jc] at h
    exact h.mono (by have:=Hz.out.xm.len; omega) (jR _) Hz.out.b
   have hSr:Sz 1300 634 B (rr x y):=by
    unfold rr; split
    ·exact Hz.out.xv.mono (jR _) (by omega) (jR _)
    ·exact hSq.mono (by omega) (jR _) (jR _)
   have hC:=fun M=>cCmp_calls (HMb.out.below (jN w2b M)).rc HMb.out.ax.v HQb.out
   obtain⟨sg,hsg⟩:∃ sg,isg (x.v - (y.v+x.m))=sg:=⟨_,rfl⟩
   have Hsg:=jH hsg
   rw[hsg] at hC
   have hju4:(( ju:Int) != 0)=true:=by simpa using hju
   have hju5:(ju==0)=false:=by simpa using hju
   have hju6:¬ ju=0:=by simpa using hju
   have hju7:decide (ju=0)=false:=by simpa using hju
   have hiu4:(( iu:Int) != 0)=true:=by simpa using hiu
   have hiu5:(iu==0)=false:=by simpa using hiu
   have hiu6:¬ iu=0:=by simpa using hiu
   have hiu7:decide (iu=0)=false:=by simpa using hiu
   clear hsg
   go_upto_region 9 with fail
   go_quiet (first | (go_at_call 84; exact Calls.quiet_of (hC _)))
   clear hC
   go_upto_if 67 with fail
   go_cut [10,67] from 67 to 69 (fun v10 _ wq=>∃ (j m:Nat),v10=.int .i64 (j:Nat)∧wq=w2b.drewN m∧Hid (vs1b[j]? = some (rr x y)))
   case first =>
    by_cases hlt:x.v<y.v+x.m
    ·have hs1:sg<0:=by rw[← Hsg.out,za (by omega)];decide
     have hs2:decide (sg<0)=true:=decide_eq_true hs1
     go_wp2_with fail
     go_meet
     case rel=>exact⟨iv,_,rfl,rfl,by show _=_; unfold rr; rw[if_pos (by omega)];exact HMb.out.ax.v⟩
    ·have hs1:¬ sg<0:=by rw[← Hsg.out];exact isg_n0 (by omega)
     have hs2:decide (sg<0)=false:=decide_eq_false hs1
     go_wp2_with fail
     go_meet
     case rel=>exact⟨qb,_,rfl,rfl,by show _=_; unfold rr; rw[if_neg (by omega)];exact HQb.out⟩
   case rest =>
    obtain⟨jr,mr,rfl,rfl,HRj⟩:=hcut
    have hOp:=fun M=>cSub_calls (k:=30000000) (HMb.out.below (jN w2b M)).rc HMb.out.ax.v HRj.out (Hz.out.xv.mono (jR _) (show 400≤634 by omega) (jR _)) hSr (by omega) (by omega) (by have:=zv (x:=x.v) (y:=-(rr x y)) Hz.out.xv.len hSr.neg.len; simp only[List.length_cons];omega) (by omega)
    have HRr:=jH HRj.out
    go_wp2_with fail
    clear cc0 cx0 cx1 cx2 cy0 cy1 cy2 r0 r1 r2 fr0
    go_region_held3 (fun w=>w.cell? ⟨c,0,none⟩=some (.pointer (some ⟨p,0,none⟩))∧(w.cell? ⟨bx,0,none⟩=some (.int .i64 (iu:Nat))∧w.cell? ⟨bx,1,none⟩=some (.int .i64 (iv:Nat))∧w.cell? ⟨bx,2,none⟩=some (.int .i64 (im:Nat)))∧w.cell? ⟨bx+1,0,none⟩=some (.int .i64 (ju:Nat))∧w.cell? ⟨bx+1,1,none⟩=some (.int .i64 (jv:Nat))∧w.cell? ⟨bx+1,2,none⟩=some (.int .i64 (jm:Nat))) (first | exact hMC2.out | exact hMC1.out | exact HMb.out.cells)
     (first
       | (go_at_call 85; refine (hOp _).mono ?_; rintro e1 w1d ⟨qd,fv1d,fl1d,vs1d,rfl,hk1,hq1⟩
          have HM1:=jH ((HMb.out.below (jN w2b _)).put hk1.out)
          have hMC1:=jH HM1.out.cells
          have hNd:=qB HM1.out.rc hq1.out
          have HK1:=jH (hk1.out.pre (jN w2b _))
          have HQd:=jH hq1.out
          clear hk1 hq1)
       | (go_at_call 74; refine hNd.mono ?_; rintro e2 w2d ⟨rfl,hk2⟩
          have HMd:=jH (HM1.out.put hk2.out)
          have hMC2:=jH HMd.out.cells
          have HKd:=jH (HK1.out.trans hk2.out)))
    clear hMC1 hMC2 hNd hk2 HM1 HK1 hOp
    have hOp:=cSub_calls (k:=30000000) HMd.out.rc (jW HKd.out.ext HQb.out) (jW HKd.out.ext HRr.out) hSq hSr (by omega) (by omega) (by have:=zv (x:=y.v+x.m) (y:=-(rr x y)) hSq.len hSr.neg.len; simp only[List.length_cons];omega) (by omega)
    obtain⟨cc0,⟨cx0,cx1,cx2⟩,cy0,cy1,cy2⟩:=HMd.out.cells
    go_wp2_with fail
    clear cc0 cx0 cx1 cx2 cy0 cy1 cy2
    refine hOp.mono ?_
    rintro e1 w1e ⟨qe,fv1e,fl1e,vs1e,rfl,hk1,hq1⟩
    have HM1:=jH (HMd.out.put hk1.out)
    have hNd:=qB HM1.out.rc hq1.out
    have HKe1:=jH hk1.out
    have HQe:=jH hq1.out
    clear hk1 hq1 hOp
    go_wp2_with fail
    refine hNd.mono ?_
    rintro e2 w2e ⟨rfl,hk2⟩
    have HMe:=jH (HM1.out.put hk2.out)
    have HKe:=jH (HKe1.out.trans hk2.out)
    clear HM1 hNd hk2 HKe1
    obtain⟨cc0,⟨cx0,cx1,cx2⟩,cy0,cy1,cy2⟩:=HMe.out.cells
    rw[mid_eq] at HMe HKe
    have HRd:=jH (jd HMb.out.rc HKd.out HRb.out (by decide) (by decide) (by decide))
    have HRe:=jH (jd HMd.out.rc HKe.out HRd.out (by decide) (by decide) (by decide))
    have r0:w2e.cell? ⟨bx+1+1,0,none⟩=some (.int .i64 0):=by rw[jB HRe.out];rfl
    have r1:w2e.cell? ⟨bx+1+1,1,none⟩=some (.int .i64 0):=by rw[jB HRe.out];rfl
    have r2:w2e.cell? ⟨bx+1+1,2,none⟩=some (.int .i64 0):=by rw[jB HRe.out];rfl
    have fr0:=fun o=>jF HRe.out o
    obtain⟨md,hmd⟩:∃ md,midFull full x y=md:=⟨_,rfl⟩
    have Hmid:=jH hmd
    rw[hmd] at HMe HKe
    clear hmd
    cases md with
    | true =>
      have cf:=HMe.out.rc.c1
      have HT:=jH (mid_yes hxu hyu Hmid.out)
      go_wp2_with fail
      refine bodyPost_ret (v:=.agg #[.int .i64 0,.int .i64 0,.int .i64 0]) (by simp[results,Tryz.results40,go_sem,r0,r1,r2]) rfl ?_
      refine⟨0,0,0,fv1e,fl1e,vs1e,rfl,?_,?_⟩
      ·show RK _ _ _ _ _ _ _ _ _ _ _ _
       rw[HT.out.2]
       exact (((((HKa.out.trans HKb.out).trans HKd.out).trans HKe.out).pre HB0.out).mono (by omega)).set3 HRe.out (by omega) _ _ _
      ·show AtE _ _ _ _ _
       rw[HT.out.1]
       exact⟨HMe.out.rc.wv.zero,HMe.out.rc.wv.zero,HMe.out.rc.wv.zero⟩
    | false =>
      have cf:=HMe.out.rc.c1
      have hsm:=jH (Hz.out.summands Hmid.out)
      have hsum:=jH (Hz.out.sum Hmid.out)
      have hmn:=jH (mid_no Hmid.out)
      have hRs:∀ M,Calls _ _ _ _ _:=fun M=>xN (k:=500000000) (HMe.out.below (jN w2e M)).rc HMe.out.ax.u (jW HKe.out.ext HQd.out) (Hz.out.xf hmn.out.1) (Sz.of_allowed hmn.out.2.2.2.1) (by omega) (by omega) (zM (rr_le x y).1) (by have:=sh_cost (Hz.out.xf hmn.out.1) (Sz.of_allowed hmn.out.2.2.2.1).len; omega) (by omega)
      have HcB:Hid ((shAsk y.u (y.v+x.m - rr x y)).length≤500000000):=Nat.le_trans (sh_cost (Hz.out.yf hmn.out.1) (Sz.of_allowed hmn.out.2.2.2.2).len) (by omega)
      have HcS:Hid ((sumAsk 0 (form (sA x y)++form (sB x y))).length≤30000000):=Nat.le_trans (zv hsm.out.1.len hsm.out.2.len) (by omega)
      go_wp2_with fail
      clear cc0 cx0 cx1 cx2 cy0 cy1 cy2 r0 r1 r2 fr0 cf
      go_region_held3 (fun w=>w.cell? ⟨c,0,none⟩=some (.pointer (some ⟨p,0,none⟩))∧(w.cell? ⟨bx,0,none⟩=some (.int .i64 (iu:Nat))∧w.cell? ⟨bx,1,none⟩=some (.int .i64 (iv:Nat))∧w.cell? ⟨bx,2,none⟩=some (.int .i64 (im:Nat)))∧w.cell? ⟨bx+1,0,none⟩=some (.int .i64 (ju:Nat))∧w.cell? ⟨bx+1,1,none⟩=some (.int .i64 (jv:Nat))∧w.cell? ⟨bx+1,2,none⟩=some (.int .i64 (jm:Nat))) (first | exact hMC6.out | exact hMC5.out | exact hMC4.out | exact hMC3.out | exact hMC2.out | exact hMC1.out | exact HMe.out.cells)
       (first
         | (go_at_call 83; refine hAg.mono ?_; rintro e5 u5 ⟨qg,fvg,flg,vsg,rfl,hk5,hq5⟩
            have HMg:=jH (HMf4.out.put hk5.out)
            have hMC5:=jH HMg.out.cells
            have hNd5:=qB HMg.out.rc hq5.out
            have HKg:=jH (HKf4.out.trans hk5.out)
            have HQg:=jH hq5.out
            clear hk5 hq5)
         | (go_at_call 74; refine hNd5.mono ?_; rintro e6 u6 ⟨rfl,hk6⟩
            have HMh:=jH (HMg.out.put hk6.out)
            have hMC6:=jH HMh.out.cells
            have HKh:=jH (HKg.out.trans hk6.out))
         | (go_at_call 75; refine hRb.mono ?_; rintro e3 u3 ⟨qf,fvf,flf,vsf,rfl,hk3,hq3⟩
            have HMf3:=jH (HMf2.out.put hk3.out)
            have hMC3:=jH HMf3.out.cells
            have HQf:Hid (vsf[qf]? = some (sB x y)):=hq3.out
            have hNd3:=qB HMf3.out.rc HQf.out
            have HKf3:=jH (HKf2.out.trans hk3.out)
            have HQh2:=jH (jW hk3.out.ext HQh.out)
            clear hk3 hq3)
         | (go_at_call 74; refine hNd3.mono ?_; rintro e4 u4 ⟨rfl,hk4⟩
            have HMf4:=jH (HMf3.out.put hk4.out)
            have hMC4:=jH HMf4.out.cells
            have HKf4:=jH (HKf3.out.trans hk4.out)
            have hAg:=zq (k:=30000000) HMf4.out.rc HQh2.out HQf.out hsm.out.1 hsm.out.2 (by omega) (by omega) HcS.out (by omega))
         | (go_at_call 74; refine hNd1.mono ?_; rintro e2 u2 ⟨rfl,hk2⟩
            have HMf2:=jH (HMf1.out.put hk2.out)
            have hMC2:=jH HMf2.out.cells
            have HKf2:=jH (HKf1.out.trans hk2.out)
            have hRb:=xN (k:=500000000) HMf2.out.rc HMf2.out.ay.u (jW HKf2.out.ext HQe.out) (Hz.out.yf hmn.out.1) (Sz.of_allowed hmn.out.2.2.2.2) (by omega) (by omega) (zM (rr_le x y).2) HcB.out (by omega))
         | (go_at_call 75; refine (hRs _).mono ?_; rintro e1 u1 ⟨qh,fvh,flh,vsh,rfl,hk1,hq1⟩
            have HMf1:=jH ((HMe.out.below (jN w2e _)).put hk1.out)
            have hMC1:=jH HMf1.out.cells
            have HQh:Hid (vsh[qh]? = some (sA x y)):=hq1.out
            have hNd1:=qB HMf1.out.rc HQh.out
            have HKf1:=jH (hk1.out.pre (jN w2e _))
            clear hk1 hq1))
      clear hMC1 hMC2 hMC3 hMC4 hMC5 hMC6 hNd1 hNd3 hNd5 hRb hRs hAg hk2 hk4 hk6 HMf1 HMf2 HMf3 HMf4 HMg HKf1 HKf2 HKf3 HKf4 HKg
      have HRh:=jH (jd HMe.out.rc HKh.out HRe.out (by decide) (by decide) (by decide))
      obtain⟨cc0,⟨cx0,cx1,cx2⟩,cy0,cy1,cy2⟩:=HMh.out.cells
      have r0:u6.cell? ⟨bx+1+1,0,none⟩=some (.int .i64 0):=by rw[jB HRh.out];rfl
      have r1:u6.cell? ⟨bx+1+1,1,none⟩=some (.int .i64 0):=by rw[jB HRh.out];rfl
      have r2:u6.cell? ⟨bx+1+1,2,none⟩=some (.int .i64 0):=by rw[jB HRh.out];rfl
      have fr0:=fun o=>jF HRh.out o
      have HKc:=jH (((HKb.out.trans HKd.out).trans HKe.out).trans HKh.out)
      by_cases hS0:sA x y+sB x y=0
      ·have hqg:qg=0:=(HMh.out.rc.wv.same HQg.out HMh.out.rc.wv.zero).2 hS0
       subst hqg
       have HF:=jH (full_mid0 (full:=full) hxu hyu Hmid.out hS0)
       have HT:Hid (mulF full x y=⟨0,0,x.m+y.m⟩):=by show _=_; rw[mulF_mid hxu hyu Hmid.out];unfold plainE; rw[if_pos hS0]
       go_wp2_with fail
       refine bodyPost_ret (v:=.agg #[.int .i64 0,.int .i64 0,.int .i64 (qa:Nat)]) (by simp[results,Tryz.results40,go_sem,r0,r1,r2]) rfl ?_
       refine⟨0,0,qa,fvg,flg,vsg,rfl,?_,?_⟩
       ·show RK _ _ _ _ _ _ _ _ _ _ _ _
        rw[← HF.out]
        exact (((HKa.out.trans HKc.out).pre HB0.out).mono (by omega)).set3 HRh.out (by omega) _ _ _
       ·show AtE _ _ _ _ _
        rw[HT.out]
        exact⟨HMh.out.rc.wv.zero,HMh.out.rc.wv.zero,jW HKc.out.ext HQa.out⟩
      ·have hSz:Sz 600 1300 400 (sA x y+sB x y):=hsum.out.mono (by omega) (by omega) (by omega)
       have HF:=jH (full_mid (full:=full) hxu hyu Hmid.out hS0 rfl rfl)
       have HT:Hid (mulF full x y=⟨shx (sA x y+sB x y) (-(lowE (sA x y+sB x y):Int)),rr x y+lowE (sA x y+sB x y),x.m+y.m⟩):=by show _=_; rw[mulF_mid hxu hyu Hmid.out];unfold plainE; rw[if_neg hS0]
       have hqg:¬ ((qg:Int)=0):=fun h=>hS0 ((HMh.out.rc.wv.same HQg.out HMh.out.rc.wv.zero).1 (by omega))
       have hqg2:decide ((qg:Int)=0)=false:=by simpa using hqg
       have hqg3:((qg:Int)==0)=false:=by simpa using hqg
       have HRr2:=jH (jW ((HKd.out.trans HKe.out).trans HKh.out).ext HRr.out)
       clear HKb HRb
       have HKb:=HKc
       have HRb:=HRh
       have hlw:=low_calls HMh.out.rc HQg.out hS0
       go_wp2_with fail
       refine hlw.mono ?_
       rintro e5 w5 ⟨ql,rfl,hw5,hql⟩
       rw[hw5]
       clear hw5
       clear hlw
       have hl1:=hSz.ex _ (zI hS0)
       have hl2:=hSz.ex2 _ (zI hS0)
       obtain⟨bl,hbl⟩:=Sz.any (n:=1300) (a:=400) hl1 hl2
       obtain⟨bm,hbm⟩:=Sz.any (n:=1300) (a:=634) hl1 (fun f hf=>Nat.le_trans (hl2 f hf) (by omega))
       have hH:=fun M=>yA (k:=17000000000) (HMh.out.below (jN u6 M)).rc HQg.out hql.out hSz (hbl bl (jR _)) (by omega) (by omega) zo (by have:=hv_cost hSz hl1; omega) (by omega)
       have HlA:=jH (hbm (bm+B) (by omega))
       have HrA:=jH (hSr.mono (jR _) (jR _) (show B≤bm+B by omega))
       have Hc:Hid ((sumAsk 0 (form (rr x y)++form ((lowE (sA x y+sB x y):Nat):Int))).length≤30000000):=by show _≤_; have:=zv (x:=(rr x y)) (y:=((lowE (sA x y+sB x y):Nat):Int)) hSr.len hl1; omega
       have H7:=jH HQg.out
       have H8:=jH HRr2.out
       clear hl1 hl2 hbl hbm cc0 cx0 cx1 cx2 cy0 cy1 cy2 r0 r1 r2 fr0
       go_wp2_with fail
       go_region_held3 (fun w=>w.cell? ⟨c,0,none⟩=some (.pointer (some ⟨p,0,none⟩))) (first | exact hMCs.out _ _ _ | exact hMC9.out | exact hMC8.out | exact hMC7.out | exact hMC6.out | exact HMh.out.rc.c0)
        (first
          | (go_at_call 80; refine (hH _).mono ?_; rintro e6 w6 ⟨qh,fv6,fl6,vs6,rfl,hk6,hq6⟩
             have HM6:=jH ((HMh.out.below (jN u6 _)).put hk6.out)
             have hMC6:=jH HM6.out.rc.c0
             have hNd6:=qB HM6.out.rc hq6.out
             have HK6:=jH (hk6.out.pre (jN u6 _))
             clear hk6)
          | (go_at_call 83; refine hA7.mono ?_; rintro e8 w8 ⟨qv,fv8,fl8,vs8,rfl,hk8,hq8⟩
             have HM8:=jH (HM7.out.put hk8.out)
             have hMC8:=jH HM8.out.rc.c0
             have hNd8:=qB HM8.out.rc hq8.out
             have HK8:=jH (HK7.out.trans hk8.out))
          | (go_at_call 74; refine hNd8.mono ?_; rintro e9 w9 ⟨rfl,hk9⟩
             have HM9:=jH (HM8.out.put hk9.out)
             have hMC9:=jH HM9.out.rc.c0
             have HK9:=jH (HK8.out.trans hk9.out)
             have HR9:=jH (jd HMh.out.rc HK9.out HRb.out (by decide) (by decide) (by decide))
             have HKW:=jH (((HKa.out.trans HKb.out).pre HB0.out).trans HK9.out)
             have hMCs:=jH (fun x y z=>(HKW.out.set3 HR9.out (show W.heap.size≤bx+1+1 by omega) x y z).rc.c0)
             have r0:w9.cell? ⟨bx+1+1,0,none⟩=some (.int .i64 0):=by rw[jB HR9.out];rfl
             have r1:w9.cell? ⟨bx+1+1,1,none⟩=some (.int .i64 0):=by rw[jB HR9.out];rfl
             have r2:w9.cell? ⟨bx+1+1,2,none⟩=some (.int .i64 0):=by rw[jB HR9.out];rfl
             have fr0:=fun o=>jF HR9.out o)
          | (go_at_call 74; refine hNd6.mono ?_; rintro e7 w7 ⟨rfl,hk7⟩
             have HM7:=jH (HM6.out.put hk7.out)
             have hMC7:=jH HM7.out.rc.c0
             have HK7:=jH (HK6.out.trans hk7.out)
             have hA7:=zq (k:=30000000) HM7.out.rc (jW HK7.out.ext H8.out) (jW HK7.out.ext hql.out) HrA.out HlA.out (by omega) (by omega) Hc.out (by omega)))
       go_wp2_with fail
       refine bodyPost_ret (v:=.agg #[.int .i64 (qh:Nat),.int .i64 (qv:Nat),.int .i64 (qa:Nat)]) (by simp[results,Tryz.results40,go_sem,r0,r1,r2]) rfl ?_
       refine⟨qh,qv,qa,fv8,fl8,vs8,rfl,?_,?_⟩
       ·show RK _ _ _ _ _ _ _ _ _ _ _ _
        rw[← HF.out]
        exact (HKW.out.mono (by omega)).set3 HR9.out (by omega) _ _ _
       ·show AtE _ _ _ _ _
        rw[HT.out]
        exact⟨jW hk8.out.ext hq6.out,hq8.out,jW HK9.out.ext (jW HKb.out.ext HQa.out)⟩
end
end Sr
