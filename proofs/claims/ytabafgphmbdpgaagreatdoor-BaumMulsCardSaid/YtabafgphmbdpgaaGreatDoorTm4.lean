/- Texts of this claim, joined: RInv, MlW. -/
import Derived.Test.YtabafgphmbdpgaaGreatDoorTm1
import Derived.Test.YtabafgphmbdpgaaGreatDoorTm3
import Derived.Test.YtabafgphmbdpgaaGreatDoorTe1
set_option maxHeartbeats 8000000
set_option maxRecDepth 100000
namespace Sr
open Go Go.Proofs Go.RowKit Go.Maps Go.WideMaps
section
theorem zD {w:World}{q:Nat}{a:Addr}(h:a.block≠q)(x y z:Value): (Sr.set3 w q x y z).cell? a=w.cell? a:=by
 unfold World.cell?;rw[ji w h]
theorem lowE_neg (u:Int): lowE (-u)=lowE u:=by unfold lowE; rw[exps_neg]
noncomputable def invF (full:Bool)(x:E3): Bool:=if x.u=0 then orFull full (-x.m) else orFull (orFull (orFull (orFull full (-x.m)) (x.v - x.m)) (shx (-x.u) (-(lowE x.u:Int)))) (x.v - x.m+lowE x.u)
variable {x:E3}
theorem invE_low (h:x.u≠0): invE x=⟨shx (-x.u) (-(lowE x.u:Int)),x.v - x.m+lowE x.u,-x.m⟩:=by
 unfold invE plainE
 rw[if_neg h,if_neg (by omega),lowE_neg]
theorem invF_iff (hx:EOK x): invF false x=false↔InvOK x:=by
 classical
 have hm:=allowed_neg.2 hx.m
 unfold invF InvOK
 by_cases h:x.u=0
 ·simp[h,zN,hm]
 ·rw[if_neg h]
  unfold plainOK orFull
  have h2:¬ -x.u=0:=by omega
  rw[lowE_neg]
  by_cases a:allowed (x.v - x.m) <;>by_cases b:allowed (shx (-x.u) (-(lowE x.u:Int))) <;>by_cases c:allowed (x.v - x.m+lowE x.u) <;>simp[h,h2,hm,a,b,c]
theorem MS.one {b:Nat}{W:World}{c p:Nat}{fv:Value}{fl:List Value}{vs:List Int}{full:Bool}{bx bY:Nat}{y:E3}{iu iv im ju jv jm:Nat}(h:MS b W c p fv fl vs full bx bY x y iu iv im ju jv jm):
 W.cell? ⟨c,0,none⟩=some (.pointer (some ⟨p,0,none⟩))∧W.cell? ⟨bx,0,none⟩=some (.int .i64 (iu:Nat))∧W.cell? ⟨bx,1,none⟩=some (.int .i64 (iv:Nat))∧W.cell? ⟨bx,2,none⟩=some (.int .i64 (im:Nat)):=by
 obtain⟨a,⟨b0,b1,b2⟩,_⟩:=h.cells
 exact⟨a,b0,b1,b2⟩
def RInvQ (b:Nat)(W:World)(c p:Nat)(fv:Value)(fl:List Value)(vs:List Int)(full:Bool)(x:E3)(e:Ending)(W':World): Prop :=
 ∃ (ku kv km:Nat) (fv':Value) (fl':List Value) (vs':List Int),e=.returned (.agg #[.int .i64 (ku:Nat),.int .i64 (kv:Nat),.int .i64 (km:Nat)])∧Hid (RK (b+20000000000) W W' c p fv fv' fl fl' vs vs' (invF full x))∧Hid (AtE vs' (invE x) ku kv km)
theorem rInv_calls {b:Nat}{W:World}{c p:Nat}{fv:Value}{fl:List Value}{vs:List Int}{full:Bool}(H:RC b W c p fv fl vs full){iu iv im:Nat}(hx:AtE vs x iu iv im)(ho:EOK x)(hb:b+20000000000≤5000000000000):
 Calls Tryz.prog 43 #[.pointer (some ⟨c,0,none⟩),.agg #[.int .i64 (iu:Nat),.int .i64 (iv:Nat),.int .i64 (im:Nat)]] W (RInvQ b W c p fv fl vs full x):=by
 obtain⟨W0,bx,hW0,hbx,HM,HB0⟩:∃ W0 bx,(W.alloc (.cells #[.int .i64 (iu:Nat),.int .i64 (iv:Nat),.int .i64 (im:Nat)] 35)).alloc (.cells #[.int .i64 0,.int .i64 0,.int .i64 0] 35)=W0∧W.heap.size=bx ∧
  Hid (MS b W0 c p fv fl vs full bx (bx+1) x ⟨0,0,0⟩ iu iv im 0 0 0)∧Hid (Below W.heap.size W W0):=by
  have hbl:Below W.heap.size W ((W.alloc (.cells #[.int .i64 (iu:Nat),.int .i64 (iv:Nat),.int .i64 (im:Nat)] 35)).alloc (.cells #[.int .i64 0,.int .i64 0,.int .i64 0] 35)):=((Below.refl _ _).alloc (jR _) _).alloc (by simp) _
  exact⟨_,_,rfl,rfl,⟨H.below hbl,hx,⟨H.wv.zero,H.wv.zero,H.wv.zero⟩,qU W _ _,qA W _ _⟩,hbl⟩
 have Ho:=jH ho
 have hOp:=fun M=>cNeg_calls (HM.out.below (jN W0 M)).rc HM.out.ax.m (by omega)
 clear H hx ho
 go_enter Tryz.func43,Tryz.ntmps43
 go_wp2_with fail
 go_region_held3 (fun w=>w.cell? ⟨c,0,none⟩=some (.pointer (some ⟨p,0,none⟩))∧w.cell? ⟨bx,0,none⟩=some (.int .i64 (iu:Nat))∧w.cell? ⟨bx,1,none⟩=some (.int .i64 (iv:Nat))∧w.cell? ⟨bx,2,none⟩=some (.int .i64 (im:Nat))) (first | exact hMC2.out | exact hMC1.out | exact HM.out.one)
  (first
    | (go_at_call 72; refine (hOp _).mono ?_; rintro e1 w1a ⟨qa,fv1a,fl1a,vs1a,rfl,hk1,hq1⟩
       have HM1:=jH ((HM.out.below (jN W0 _)).put hk1.out)
       have hMC1:=jH HM1.out.one
       have hNd:=qB HM1.out.rc hq1.out
       have HK1:=jH (hk1.out.pre (jN W0 _))
       have HQa:=jH hq1.out
       clear hk1 hq1)
    | (go_at_call 74; refine hNd.mono ?_; rintro e2 w2a ⟨rfl,hk2⟩
       have HMa:=jH (HM1.out.put hk2.out)
       have hMC2:=jH HMa.out.one
       have HKa:=jH (HK1.out.trans hk2.out)))
 clear hMC1 hMC2 hNd hk2 HM1 HK1 hOp
 obtain⟨cc0,cx0,cx1,cx2⟩:=HMa.out.one
 have r0:w2a.cell? ⟨bx+1,0,none⟩=some (.int .i64 0):=by rw[jB HMa.out.bY];rfl
 have r1:w2a.cell? ⟨bx+1,1,none⟩=some (.int .i64 0):=by rw[jB HMa.out.bY];rfl
 have r2:w2a.cell? ⟨bx+1,2,none⟩=some (.int .i64 0):=by rw[jB HMa.out.bY];rfl
 have fr0:=fun o=>jF HMa.out.bY o
 by_cases hxu:x.u=0
 ·have hiu:iu=0:=(HMa.out.rc.wv.same HMa.out.ax.u HMa.out.rc.wv.zero).2 hxu
  subst hiu
  have HI:Hid (invE x=⟨0,0,-x.m⟩):=by show _=_; unfold invE; rw[if_pos hxu]
  have HF:Hid (invF full x=orFull full (-x.m)):=by show _=_; unfold invF; rw[if_pos hxu]
  go_wp2_with fail
  refine bodyPost_ret (v:=.agg #[.int .i64 0,.int .i64 0,.int .i64 (qa:Nat)]) (by simp[results,Tryz.results43,go_sem,r0,r1,r2]) rfl ?_
  refine⟨0,0,qa,fv1a,fl1a,vs1a,rfl,?_,?_⟩
  ·show RK _ _ _ _ _ _ _ _ _ _ _ _
   rw[HF.out]
   exact ((HKa.out.pre HB0.out).mono (by omega)).set3 HMa.out.bY (by omega) _ _ _
  ·show AtE _ _ _ _ _
   rw[HI.out]
   exact⟨HMa.out.rc.wv.zero,HMa.out.rc.wv.zero,HQa.out⟩
 ·have hiu:¬ ((iu:Int)=0):=fun h=>hxu ((HMa.out.rc.wv.same HMa.out.ax.u HMa.out.rc.wv.zero).1 (by omega))
  have hiu2:decide ((iu:Int)=0)=false:=by simpa using hiu
  have hiu3:((iu:Int)==0)=false:=by simpa using hiu
  have HI:=jH (invE_low hxu)
  have HF:Hid (invF full x=orFull (orFull (orFull (orFull full (-x.m)) (x.v - x.m)) (shx (-x.u) (-(lowE x.u:Int)))) (x.v - x.m+lowE x.u)):=by show _=_; unfold invF; rw[if_neg hxu]
  have hlw:=low_calls HMa.out.rc HMa.out.ax.u hxu
  go_wp2_with fail
  refine hlw.mono ?_
  rintro e5 w5 ⟨ql,rfl,hw5,hql⟩
  obtain rfl:w2a=w5:=hw5.symm
  have hOp:=fun M=>cSub_calls (k:=30000000) (HMa.out.below (jN w2a M)).rc HMa.out.ax.v HMa.out.ax.m (Sz.of_allowed Ho.out.v) (Sz.of_allowed Ho.out.m) (by omega) (by omega) (by have:=zv (x:=x.v) (y:=-x.m) Ho.out.v.1 (Sz.of_allowed Ho.out.m).neg.len; simp only[List.length_cons];omega) (by omega)
  have Hql:=jH hql.out
  clear hlw hw5 hql
  go_wp2_with fail
  clear cc0 cx0 cx1 cx2 r0 r1 r2 fr0
  go_region_held3 (fun w=>w.cell? ⟨c,0,none⟩=some (.pointer (some ⟨p,0,none⟩))∧w.cell? ⟨bx,0,none⟩=some (.int .i64 (iu:Nat))∧w.cell? ⟨bx,1,none⟩=some (.int .i64 (iv:Nat))∧w.cell? ⟨bx,2,none⟩=some (.int .i64 (im:Nat))) (first | exact hMC2.out | exact hMC1.out | exact HMa.out.one)
   (first
     | (go_at_call 85; refine (hOp _).mono ?_; rintro e1 w1b ⟨qb,fv1b,fl1b,vs1b,rfl,hk1,hq1⟩
        have HM1:=jH ((HMa.out.below (jN w2a _)).put hk1.out)
        have hMC1:=jH HM1.out.one
        have hNd:=qB HM1.out.rc hq1.out
        have HK1:=jH (hk1.out.pre (jN w2a _))
        have HQb:=jH hq1.out
        clear hk1 hq1)
     | (go_at_call 74; refine hNd.mono ?_; rintro e2 w2b ⟨rfl,hk2⟩
        have HMb:=jH (HM1.out.put hk2.out)
        have hMC2:=jH HMb.out.one
        have HKb:=jH (HK1.out.trans hk2.out)))
  clear hMC1 hMC2 hNd hk2 HM1 HK1 hOp
  have hlA:=zz Ho.out.u (.here (zI hxu))
  have hSu:=(Sz.of_allowed Ho.out.u).neg
  have hok:shOK (-x.u) (-(lowE x.u:Int)):=by have:=zo (u:=-x.u);rwa [lowE_neg] at this
  have hcost:=hv_cost hSu (Sz.of_allowed hlA).len
  have hSv:Sz 600 314 300 (x.v - x.m):=by
   have h:=((Sz.of_allowed Ho.out.v).mono (jR _) (show 300≤300+14 by omega) (jR _)).addS (Sz.of_allowed Ho.out.m).neg (by omega) (by omega) (by omega)
   rwa [show x.v+-x.m=x.v - x.m by omega] at h
  have hcost2:=zv (x:=x.v - x.m) (y:=((lowE x.u:Nat):Int)) hSv.len (Sz.of_allowed hlA).len
  have hOp:=fun M=>cNeg_calls (HMb.out.below (jN w2b M)).rc HMb.out.ax.u (by omega)
  have HlA:=jH hlA
  have HSu:=jH hSu
  have Hok:=jH hok
  have Hcost:=jH hcost
  have HSv:=jH hSv
  have Hcost2:=jH hcost2
  clear hlA hSu hok hcost hSv hcost2
  go_wp2_with fail
  have HMb2:=jH (And.intro HMb.out.one.1 HMb.out.one.2.1)
  go_region_held3 (fun w=>w.cell? ⟨c,0,none⟩=some (.pointer (some ⟨p,0,none⟩))∧w.cell? ⟨bx,0,none⟩=some (.int .i64 (iu:Nat))) (first | exact hMCs.out _ _ _ | exact hMC9.out | exact hMC8.out | exact hMC7.out | exact hMC6.out | exact hMC5.out | exact HMb2.out)
   (first
     | (go_at_call 72; refine (hOp _).mono ?_; rintro e5 w5 ⟨qn,fv5,fl5,vs5,rfl,hk5,hq5⟩
        have HM5:=jH ((HMb.out.below (jN w2b _)).put hk5.out)
        have hMC5:=jH (And.intro HM5.out.one.1 HM5.out.one.2.1)
        have HK5:=jH (hk5.out.pre (jN w2b _))
        have hH:=yA (k:=500000000) HM5.out.rc hq5.out (jW HK5.out.ext (jW HKb.out.ext Hql.out)) HSu.out (Sz.of_allowed HlA.out) (by omega) (by omega) Hok.out (by have:=Hcost.out; omega) (by omega))
     | (go_at_call 80; refine hH.mono ?_; rintro e6 w6 ⟨qh,fv6,fl6,vs6,rfl,hk6,hq6⟩
        have HM6:=jH (HM5.out.put hk6.out)
        have hMC6:=jH (And.intro HM6.out.one.1 HM6.out.one.2.1)
        have hNd6:=qB HM6.out.rc hq6.out
        have HK6:=jH (HK5.out.trans hk6.out))
     | (go_at_call 83; refine hA7.mono ?_; rintro e8 w8 ⟨qv,fv8,fl8,vs8,rfl,hk8,hq8⟩
        have HM8:=jH (HM7.out.put hk8.out)
        have hMC8:=jH (And.intro HM8.out.one.1 HM8.out.one.2.1)
        have hNd8:=qB HM8.out.rc hq8.out
        have HK8:=jH (HK7.out.trans hk8.out))
     | (go_at_call 74; refine hNd8.mono ?_; rintro e9 w9 ⟨rfl,hk9⟩
        have HM9:=jH (HM8.out.put hk9.out)
        have hMC9:=jH (And.intro HM9.out.one.1 HM9.out.one.2.1)
        have HK9:=jH (HK8.out.trans hk9.out)
        have hMCs:Hid (∀ x y z:Value,(Sr.set3 w9 (bx+1) x y z).cell? ⟨c,0,none⟩=some (.pointer (some ⟨p,0,none⟩))∧(Sr.set3 w9 (bx+1) x y z).cell? ⟨bx,0,none⟩=some (.int .i64 (iu:Nat))):=fun x y z =>
         ⟨(zD (jI HM9.out.rc.obj HM9.out.bY (show (75:Nat)≠35 by decide)) _ _ _).trans hMC9.out.1,(zD (show bx≠bx+1 by omega) _ _ _).trans hMC9.out.2⟩
        have r0:w9.cell? ⟨bx+1,0,none⟩=some (.int .i64 0):=by rw[jB HM9.out.bY];rfl
        have r1:w9.cell? ⟨bx+1,1,none⟩=some (.int .i64 0):=by rw[jB HM9.out.bY];rfl
        have r2:w9.cell? ⟨bx+1,2,none⟩=some (.int .i64 0):=by rw[jB HM9.out.bY];rfl
        have fr0:=fun o=>jF HM9.out.bY o)
     | (go_at_call 74; refine hNd6.mono ?_; rintro e7 w7 ⟨rfl,hk7⟩
        have HM7:=jH (HM6.out.put hk7.out)
        have hMC7:=jH (And.intro HM7.out.one.1 HM7.out.one.2.1)
        have HK7:=jH (HK6.out.trans hk7.out)
        have hA7:=zq (k:=30000000) HM7.out.rc (jW HK7.out.ext (jW (List.prefix_refl _) HQb.out)) (jW HK7.out.ext (jW HKb.out.ext Hql.out)) HSv.out ((Sz.of_allowed HlA.out).mono (jR _) (by omega) (jR _)) (by omega) (by omega) (by have:=Hcost2.out; omega) (by omega)))
  go_wp2_with fail
  refine bodyPost_ret (v:=.agg #[.int .i64 (qh:Nat),.int .i64 (qv:Nat),.int .i64 (qa:Nat)]) (by simp[results,Tryz.results43,go_sem,r0,r1,r2]) rfl ?_
  refine⟨qh,qv,qa,fv8,fl8,vs8,rfl,?_,?_⟩
  ·show RK _ _ _ _ _ _ _ _ _ _ _ _
   rw[HF.out]
   exact ((((HKa.out.trans HKb.out).trans HK9.out).pre HB0.out).mono (by omega)).set3 HM9.out.bY (by omega) _ _ _
  ·show AtE _ _ _ _ _
   rw[HI.out]
   exact⟨jW hk9.out.ext (jW hk8.out.ext (jW hk7.out.ext hq6.out)),jW hk9.out.ext hq8.out,jW HK9.out.ext (jW HKb.out.ext HQa.out)⟩
end
section
variable {x:E3}
theorem mul_sz {y:E3}(hx:EOK x)(hy:EOK y): MSz 400 false x y:=MSz.first hx ((Sz.of_allowed hy.u).mono (jR _) (by omega) (by omega)) hy.v ((Sz.of_allowed hy.m).mono (jR _) (by omega) (by omega)) (fun _=>hy.u)
theorem full_of {y:E3}: (TimesOK x y→fullF false x y=false∧mulF false x y=timesE x y)∧(¬ TimesOK x y→fullF false x y=true):=by
 classical
 have h1:TimesOK x y→fullF false x y=false:=fun h=>by unfold fullF; simp[h]
 refine⟨fun h=>⟨h1 h,(mulF_ok (h1 h)).2.2⟩,fun h=>by unfold fullF; simp[h]⟩
theorem invF_of (hx:EOK x): (InvOK x→invF false x=false)∧(¬ InvOK x→invF false x=true):=by
 have h:=invF_iff hx
 refine⟨h.2,fun k=>?_⟩
 cases hf:invF false x with
 | true=>rfl
 | false=>exact absurd (h.1 hf) k
structure MS3 (W w:World)(p b:Nat)(fv:Value)(fl:List Value)(vs:List Int)(L:List (Nat×Array Value×TypeId)): Prop where
 rw:∃ C:List Int,C.length≤b∧RW C w p fv fl vs
 bl:Below W.heap.size W w
 rf:∀ k∈rF p fv,W.heap.size≤k
 hs:Has w L
 ty:∀ q∈L,q.2.2=28∨q.2.2=35∨q.2.2=88
section
variable {W w w':World} {p b b' b2 c:Nat} {C:List Int} {fv fv':Value} {fl fl':List Value} {vs vs':List Int} {L:List (Nat×Array Value×TypeId)} {full full':Bool}
theorem MS2.ms3 (h:MS2 W w p C fv fl vs L)(hb:C.length≤b): MS3 W w p b fv fl vs L:=⟨⟨C,hb,h.rw⟩,h.bl,fun k hk=>h.rb k (rF_rB hk),h.hs,h.ty⟩
theorem MS3.below (h:MS3 W w p b fv fl vs L)(k:Below w.heap.size w w'): MS3 W w' p b fv fl vs L:=by
 obtain⟨C,h1,h2⟩:=h.rw
 exact⟨⟨C,h1,h2.below k⟩,Below.trans' h.bl k,h.rf,h.hs.below k,h.ty⟩
theorem MS3.add (h:MS3 W w p b fv fl vs L)(cs:Array Value)(T:TypeId)(hT:T=28∨T=35∨T=88){a:Nat}(ha:w.heap.size=a): MS3 W (w.alloc (.cells cs T)) p b fv fl vs ((a,cs,T)::L):=by
 subst ha
 have hb:=(Below.refl w.heap.size w).alloc (jR _) (.cells cs T)
 have h1:=h.below hb
 refine⟨h1.rw,h1.bl,h1.rf,h.hs.add cs T,fun q hq=>?_⟩
 rcases List.mem_cons.1 hq with rfl | hq
 ·exact hT
 ·exact h.ty q hq
theorem MS3.rc (h:MS3 W w p b fv fl vs L)(hb:b≤b'): RC b' ((w.alloc (.cells #[.pointer (some ⟨p,0,none⟩),.bool false] 75))) w.heap.size p fv fl vs false:=by
 obtain⟨C,h1,h2⟩:=h.rw
 exact⟨⟨C,Nat.le_trans h1 hb,h2.below ((Below.refl _ _).alloc (jR _) _)⟩,jD w _⟩
theorem MS3.rk (h:MS3 W w p b fv fl vs L)(H:RC b' w c p fv fl vs full)(hc:W.heap.size≤c)(k:RK b2 w w' c p fv fv' fl fl' vs vs' full'): MS3 W w' p b2 fv' fl' vs' L:={
 rw:=k.rc.rw
 bl:=jy h.bl (jR _) (fun q hq=>by
  rcases List.mem_cons.1 hq with rfl | hq
  ·exact hc
  ·exact h.rf q hq) k.fr
 rf:=fun q hq=>by
  rcases List.mem_cons.1 hq with rfl | hq
  ·exact h.rf q (List.mem_cons.2 (.inl rfl))
  ·rcases k.fvb q (by simpa using hq) with e | e
   ·exact h.rf q (List.mem_cons.2 (.inr (by simpa using e)))
   ·exact Nat.le_trans h.bl.size e
 hs:=fun q hq=>jd H k (h.hs q hq) (by rcases h.ty q hq with e | e | e <;>rw[e] <;>decide) (by rcases h.ty q hq with e | e | e <;>rw[e] <;>decide) (by rcases h.ty q hq with e | e | e <;>rw[e] <;>decide)
 ty:=h.ty }
end
theorem muls_calls {W:World}{V1 V2:Value}(h1:TIn W V1)(h2:TIn W V2): Calls Tryz.prog 11 #[V1,V2] W fun e W'=>e=.returned (.bool true)∧Hid (Below W.heap.size W W'):=by
 obtain⟨n1,n2,n3,a1,a2,a3,k1,c1,k2,c2,k3,c3,l1,l2,l3,rfl,t1,t2,t3⟩:=h1
 obtain⟨m1,m2,m3,d1,d2,d3,j1,e1,j2,e2,j3,e3,r1,r2,r3,rfl,u1,u2,u3⟩:=h2
 have T1:=jH t1
 have T2:=jH t2
 have T3:=jH t3
 have U1:=jH u1
 have U2:=jH u2
 have U3:=jH u3
 clear t1 t2 t3 u1 u2 u3
 obtain⟨W1,B,hW1,hB,HA,HB1⟩:∃ W1 B,(W.alloc (.cells #[.slice a1 k1 c1,.slice a2 k2 c2,.slice a3 k3 c3] 88)).alloc (.cells #[.slice d1 j1 e1,.slice d2 j2 e2,.slice d3 j3 e3] 88)=W1∧W.heap.size=B ∧
  Hid (Has W1 [(B+1,#[.slice d1 j1 e1,.slice d2 j2 e2,.slice d3 j3 e3],88),(B,#[.slice a1 k1 c1,.slice a2 k2 c2,.slice a3 k3 c3],88)])∧Hid (Below W.heap.size W W1):=by
  have h:=((Has.nil W).add #[.slice a1 k1 c1,.slice a2 k2 c2,.slice a3 k3 c3] 88).add #[.slice d1 j1 e1,.slice d2 j2 e2,.slice d3 j3 e3] 88
  rw[jY] at h
  exact⟨_,_,rfl,rfl,h,((Below.refl _ _).alloc (jR _) _).alloc (by simp) _⟩
 have hN:=xM W1
 go_enter Tryz.func11,Tryz.ntmps11
 go_wp2_with fail
 refine hN.mono ?_
 rintro e w2 ⟨p,fv,fl,rfl,hrw,hb2,hnew⟩
 have HM2:Hid (MS2 W1 w2 p [] fv fl [0] [(B+1,#[.slice d1 j1 e1,.slice d2 j2 e2,.slice d3 j3 e3],88),(B,#[.slice a1 k1 c1,.slice a2 k2 c2,.slice a3 k3 c3],88)]):=⟨hrw.out,hb2.out,hnew.out,HA.out.below hb2.out,by simp⟩
 clear hN hrw hb2 hnew
 have i0:w2.cell? ⟨B,0,none⟩=some (.slice a1 k1 c1):=by rw[HM2.out.hs.cell (b:=B) (c:=#[.slice a1 k1 c1,.slice a2 k2 c2,.slice a3 k3 c3]) (T:=88) (by simp) 0];rfl
 have i1:w2.cell? ⟨B,1,none⟩=some (.slice a2 k2 c2):=by rw[HM2.out.hs.cell (b:=B) (c:=#[.slice a1 k1 c1,.slice a2 k2 c2,.slice a3 k3 c3]) (T:=88) (by simp) 1];rfl
 have i2:w2.cell? ⟨B,2,none⟩=some (.slice a3 k3 c3):=by rw[HM2.out.hs.cell (b:=B) (c:=#[.slice a1 k1 c1,.slice a2 k2 c2,.slice a3 k3 c3]) (T:=88) (by simp) 2];rfl
 have hE:=element_calls HM2.out.rw (RIn.below HB1.out T1.out) (RIn.below HB1.out T2.out) (RIn.below HB1.out T3.out) HM2.out.bl HM2.out.rb (by simp)
 go_wp2_with fail
 refine hE.mono ?_
 rintro e wx ⟨qu4,qv4,qm4,iu4,iv4,im4,ok4,C4,fv4,fl4,vs4,rfl,hC4,hrw,hre,hok⟩
 obtain⟨w4,A4,hw4,hA4,HM4,HL4⟩:∃ w A,(wx.alloc (.cells #[.pointer qu4,.pointer qv4,.pointer qm4] 28)).alloc (.cells #[.int .i64 (iu4:Nat),.int .i64 (iv4:Nat),.int .i64 (im4:Nat)] 35)=w∧wx.heap.size=A ∧
  Hid (MS2 W1 w p C4 fv4 fl4 vs4 ((A+1,#[.int .i64 (iu4:Nat),.int .i64 (iv4:Nat),.int .i64 (im4:Nat)],35)::(A,#[.pointer qu4,.pointer qv4,.pointer qm4],28)::[(B+1,#[.slice d1 j1 e1,.slice d2 j2 e2,.slice d3 j3 e3],88),(B,#[.slice a1 k1 c1,.slice a2 k2 c2,.slice a3 k3 c3],88)]))∧Hid (Below wx.heap.size wx w) :=
  ⟨_,_,rfl,rfl,((HM2.out.re hre.out hrw.out).add _ _ (.inl rfl) rfl).add _ _ (.inr (.inl rfl)) (by simp),((Below.refl _ _).alloc (jR _) _).alloc (by simp) _⟩
 have HK4:Hid (ok4=true→∃ x,EOK x∧IsE w4 (.agg #[.pointer qu4,.pointer qv4,.pointer qm4]) x∧AtE vs4 x iu4 iv4 im4):=fun h=>by
  obtain⟨x,a,b,c⟩:=hok.out h
  exact⟨x,a,b.below HL4.out,c⟩
 have HC4:=jH hC4
 have HR4:Hid (Fr (rF p fv) w2 w4∧[0] <+: vs4):=⟨(hre.out.post HL4.out).fr,hre.out.ext⟩
 clear hE hrw hre hok i0 i1 i2 hC4
 have i0:w4.cell? ⟨B+1,0,none⟩=some (.slice d1 j1 e1):=by rw[HM4.out.hs.cell (b:=B+1) (c:=#[.slice d1 j1 e1,.slice d2 j2 e2,.slice d3 j3 e3]) (T:=88) (by simp) 0];rfl
 have i1:w4.cell? ⟨B+1,1,none⟩=some (.slice d2 j2 e2):=by rw[HM4.out.hs.cell (b:=B+1) (c:=#[.slice d1 j1 e1,.slice d2 j2 e2,.slice d3 j3 e3]) (T:=88) (by simp) 1];rfl
 have i2:w4.cell? ⟨B+1,2,none⟩=some (.slice d3 j3 e3):=by rw[HM4.out.hs.cell (b:=B+1) (c:=#[.slice d1 j1 e1,.slice d2 j2 e2,.slice d3 j3 e3]) (T:=88) (by simp) 2];rfl
 have hE:=element_calls HM4.out.rw (RIn.below HB1.out U1.out) (RIn.below HB1.out U2.out) (RIn.below HB1.out U3.out) HM4.out.bl HM4.out.rb (by have:=HC4.out; simp at this; omega)
 go_wp2_with fail
 refine hE.mono ?_
 rintro e wx ⟨qu6,qv6,qm6,iu6,iv6,im6,ok6,C6,fv6,fl6,vs6,rfl,hC6,hrw,hre,hok⟩
 obtain⟨w6,A6,hw6,hA6,HM6,HL6⟩:∃ w A,(wx.alloc (.cells #[.pointer qu6,.pointer qv6,.pointer qm6] 28)).alloc (.cells #[.int .i64 (iu6:Nat),.int .i64 (iv6:Nat),.int .i64 (im6:Nat)] 35)=w∧wx.heap.size=A ∧
  Hid (MS2 W1 w p C6 fv6 fl6 vs6 ((A+1,#[.int .i64 (iu6:Nat),.int .i64 (iv6:Nat),.int .i64 (im6:Nat)],35)::(A,#[.pointer qu6,.pointer qv6,.pointer qm6],28)::((A4+1,#[.int .i64 (iu4:Nat),.int .i64 (iv4:Nat),.int .i64 (im4:Nat)],35)::(A4,#[.pointer qu4,.pointer qv4,.pointer qm4],28)::[(B+1,#[.slice d1 j1 e1,.slice d2 j2 e2,.slice d3 j3 e3],88),(B,#[.slice a1 k1 c1,.slice a2 k2 c2,.slice a3 k3 c3],88)])))∧Hid (Below wx.heap.size wx w) :=
  ⟨_,_,rfl,rfl,((HM4.out.re hre.out hrw.out).add _ _ (.inl rfl) rfl).add _ _ (.inr (.inl rfl)) (by simp),((Below.refl _ _).alloc (jR _) _).alloc (by simp) _⟩
 have HK6:Hid (ok6=true→∃ x,EOK x∧IsE w6 (.agg #[.pointer qu6,.pointer qv6,.pointer qm6]) x∧AtE vs6 x iu6 iv6 im6):=fun h=>by
  obtain⟨x,a,b,c⟩:=hok.out h
  exact⟨x,a,b.below HL6.out,c⟩
 have HC6:=jH hC6
 have HR6:Hid (Fr (rF p fv4) w4 w6∧vs4 <+: vs6):=⟨(hre.out.post HL6.out).fr,hre.out.ext⟩
 clear hE hrw hre hok i0 i1 i2 hC6
 cases ok4 with
 | false =>
   have hS:=jx w6
   go_wp2_with fail
   refine hS.mono ?_
   rintro e wz ⟨rfl,hbz⟩
   go_wp2_with fail
   go_ret
   exact⟨rfl,Below.trans' (Below.trans' HB1.out HM6.out.bl) hbz.out⟩
 | true =>
   cases ok6 with
   | false =>
     have hS:=jx w6
     go_wp2_with fail
     refine hS.mono ?_
     rintro e wz ⟨rfl,hbz⟩
     go_wp2_with fail
     go_ret
     exact⟨rfl,Below.trans' (Below.trans' HB1.out HM6.out.bl) hbz.out⟩
   | true =>
     obtain⟨x,ox,ex,ax⟩:=HK4.out rfl
     obtain⟨y,oy,ey,ay⟩:=HK6.out rfl
     have HEX:Hid (IsE w6 (.agg #[.pointer qu4,.pointer qv4,.pointer qm4]) x):=ex.fr HM4.out.rw HR6.out.1
     have HEY:=jH ey
     have HAX:Hid (AtE vs6 x iu4 iv4 im4):=ax.ext HR6.out.2
     have HAY:=jH ay
     have Hox:=jH ox
     have Hoy:=jH oy
     have HM6b:Hid (MS3 W1 w6 p 600000 fv6 fl6 vs6 [(A6+1,#[.int .i64 (iu6:Nat),.int .i64 (iv6:Nat),.int .i64 (im6:Nat)],35),(A6,#[.pointer qu6,.pointer qv6,.pointer qm6],28),(A4+1,#[.int .i64 (iu4:Nat),.int .i64 (iv4:Nat),.int .i64 (im4:Nat)],35),(A4,#[.pointer qu4,.pointer qv4,.pointer qm4],28)]):=by
      have h:=HM6.out.ms3 (b:=600000) (by have h1:=HC4.out; have h2:=HC6.out; simp at h1; omega)
      exact⟨h.rw,h.bl,h.rf,fun q hq=>h.hs q (by simp only[List.mem_cons,List.not_mem_nil,or_false] at hq ⊢;rcases hq with rfl | rfl | rfl | rfl <;>simp),by simp⟩
     have hMu:=Mul_any HEX.out HEY.out
     clear ex ey ax ay ox oy HM6 HM4 HM2 HK4 HK6 HR4 HR6 HC4 HC6
     have a0:w6.cell? ⟨A4,0,none⟩=_:=HM6b.out.hs.cell (b:=A4) (c:=#[.pointer qu4,.pointer qv4,.pointer qm4]) (T:=28) (by simp) 0
     have a1:w6.cell? ⟨A4,1,none⟩=_:=HM6b.out.hs.cell (b:=A4) (c:=#[.pointer qu4,.pointer qv4,.pointer qm4]) (T:=28) (by simp) 1
     have a2:w6.cell? ⟨A4,2,none⟩=_:=HM6b.out.hs.cell (b:=A4) (c:=#[.pointer qu4,.pointer qv4,.pointer qm4]) (T:=28) (by simp) 2
     have b0:w6.cell? ⟨A6,0,none⟩=_:=HM6b.out.hs.cell (b:=A6) (c:=#[.pointer qu6,.pointer qv6,.pointer qm6]) (T:=28) (by simp) 0
     have b1:w6.cell? ⟨A6,1,none⟩=_:=HM6b.out.hs.cell (b:=A6) (c:=#[.pointer qu6,.pointer qv6,.pointer qm6]) (T:=28) (by simp) 1
     have b2:w6.cell? ⟨A6,2,none⟩=_:=HM6b.out.hs.cell (b:=A6) (c:=#[.pointer qu6,.pointer qv6,.pointer qm6]) (T:=28) (by simp) 2
     go_wp2_with fail
     refine hMu.mono ?_
     rintro e wm ⟨pu,pv,pm,er,r,rfl,hie,hbm,hcase⟩
     obtain⟨w7,A7,hw7,hA7,HM7,HRC,HIE7,HEX7⟩:∃ w A,(wm.alloc (.cells #[.pointer pu,.pointer pv,.pointer pm] 28)).alloc (.cells #[.pointer (some ⟨p,0,none⟩),.bool false] 75)=w∧wm.heap.size=A ∧
      Hid (MS3 W1 w p 600000 fv6 fl6 vs6 [(A,#[.pointer pu,.pointer pv,.pointer pm],28),(A6+1,#[.int .i64 (iu6:Nat),.int .i64 (iv6:Nat),.int .i64 (im6:Nat)],35),(A6,#[.pointer qu6,.pointer qv6,.pointer qm6],28),(A4+1,#[.int .i64 (iu4:Nat),.int .i64 (iv4:Nat),.int .i64 (im4:Nat)],35),(A4,#[.pointer qu4,.pointer qv4,.pointer qm4],28)]) ∧
      Hid (RC 1000000 w (A+1) p fv6 fl6 vs6 false)∧Hid (IsE w (.agg #[.pointer pu,.pointer pv,.pointer pm]) r)∧Hid (IsE w (.agg #[.pointer qu4,.pointer qv4,.pointer qm4]) x):=by
      have h1:=(HM6b.out.below hbm.out).add #[.pointer pu,.pointer pv,.pointer pm] 28 (.inl rfl) rfl
      have hb1:Below wm.heap.size wm (wm.alloc (.cells #[.pointer pu,.pointer pv,.pointer pm] 28)):=(jV wm _).out
      have hb2:=(jV (wm.alloc (.cells #[.pointer pu,.pointer pv,.pointer pm] 28)) (.cells #[.pointer (some ⟨p,0,none⟩),.bool false] 75)).out
      have h2:=h1.rc (b':=1000000) (by omega)
      rw[jY] at h2
      exact⟨_,_,rfl,rfl,h1.below hb2,h2,(hie.out.below hb1).below hb2,((HEX.out.below hbm.out).below hb1).below hb2⟩
     have hRM:=yT HRC.out HAX.out HAY.out (mul_sz Hox.out Hoy.out) (by omega)
     have Hcase:=jH hcase.out
     have HA7:Hid (W1.heap.size≤A7):=by show _≤_; rw[← hA7];exact Nat.le_trans HM6b.out.bl.size hbm.out.size
     clear hMu hie hbm hcase a0 a1 a2 b0 b1 b2
     have a0:w7.cell? ⟨A4+1,0,none⟩=_:=HM7.out.hs.cell (b:=A4+1) (c:=#[.int .i64 (iu4:Nat),.int .i64 (iv4:Nat),.int .i64 (im4:Nat)]) (T:=35) (by simp) 0
     have a1:w7.cell? ⟨A4+1,1,none⟩=_:=HM7.out.hs.cell (b:=A4+1) (c:=#[.int .i64 (iu4:Nat),.int .i64 (iv4:Nat),.int .i64 (im4:Nat)]) (T:=35) (by simp) 1
     have a2:w7.cell? ⟨A4+1,2,none⟩=_:=HM7.out.hs.cell (b:=A4+1) (c:=#[.int .i64 (iu4:Nat),.int .i64 (iv4:Nat),.int .i64 (im4:Nat)]) (T:=35) (by simp) 2
     have b0:w7.cell? ⟨A6+1,0,none⟩=_:=HM7.out.hs.cell (b:=A6+1) (c:=#[.int .i64 (iu6:Nat),.int .i64 (iv6:Nat),.int .i64 (im6:Nat)]) (T:=35) (by simp) 0
     have b1:w7.cell? ⟨A6+1,1,none⟩=_:=HM7.out.hs.cell (b:=A6+1) (c:=#[.int .i64 (iu6:Nat),.int .i64 (iv6:Nat),.int .i64 (im6:Nat)]) (T:=35) (by simp) 1
     have b2:w7.cell? ⟨A6+1,2,none⟩=_:=HM7.out.hs.cell (b:=A6+1) (c:=#[.int .i64 (iu6:Nat),.int .i64 (iv6:Nat),.int .i64 (im6:Nat)]) (T:=35) (by simp) 2
     go_wp2_with fail
     refine hRM.mono ?_
     rintro e w8 ⟨ku,kv,km,fv8,fl8,vs8,rfl,hk8,ha8⟩
     obtain⟨w9,A9,hw9,hA9,HM9,HB89,HA9⟩:∃ w A,w8.alloc (.cells #[.int .i64 (ku:Nat),.int .i64 (kv:Nat),.int .i64 (km:Nat)] 35)=w∧w8.heap.size=A ∧
      Hid (MS3 W1 w p 20001000000 fv8 fl8 vs8 [(A,#[.int .i64 (ku:Nat),.int .i64 (kv:Nat),.int .i64 (km:Nat)],35),(A7,#[.pointer pu,.pointer pv,.pointer pm],28),(A6+1,#[.int .i64 (iu6:Nat),.int .i64 (iv6:Nat),.int .i64 (im6:Nat)],35),(A6,#[.pointer qu6,.pointer qv6,.pointer qm6],28),(A4+1,#[.int .i64 (iu4:Nat),.int .i64 (iv4:Nat),.int .i64 (im4:Nat)],35),(A4,#[.pointer qu4,.pointer qv4,.pointer qm4],28)]) ∧
      Hid (Below w8.heap.size w8 w)∧Hid (W1.heap.size≤A) :=
      ⟨_,_,rfl,rfl,(HM7.out.rk HRC.out (by have:=HA7.out; omega) hk8.out).add _ _ (.inr (.inl rfl)) rfl,(jV w8 _).out,(HM7.out.rk HRC.out (by have:=HA7.out; omega) hk8.out).bl.size⟩
     have HIE9:Hid (IsE w9 (.agg #[.pointer pu,.pointer pv,.pointer pm]) r):=(HIE7.out.rk HRC.out hk8.out).below HB89.out
     have HEX9:Hid (IsE w9 (.agg #[.pointer qu4,.pointer qv4,.pointer qm4]) x):=(HEX7.out.rk HRC.out hk8.out).below HB89.out
     have HAX9:Hid (AtE vs8 x iu4 iv4 im4):=HAX.out.ext hk8.out.ext
     have HRC9:=jH (hk8.out.rc.below HB89.out)
     have c1:w9.cell? ⟨A7+1,1,none⟩=some (.bool (fullF false x y)):=by rw[jB HRC9.out.obj];rfl
     have HA8:=jH ha8.out
     clear hRM hk8 ha8 a0 a1 a2 b0 b1 b2 HM6b HM7 HIE7 HEX7 HEX HEY
     have a0:w9.cell? ⟨A7,0,none⟩=_:=HM9.out.hs.cell (b:=A7) (c:=#[.pointer pu,.pointer pv,.pointer pm]) (T:=28) (by simp) 0
     have a1:w9.cell? ⟨A7,1,none⟩=_:=HM9.out.hs.cell (b:=A7) (c:=#[.pointer pu,.pointer pv,.pointer pm]) (T:=28) (by simp) 1
     have a2:w9.cell? ⟨A7,2,none⟩=_:=HM9.out.hs.cell (b:=A7) (c:=#[.pointer pu,.pointer pv,.pointer pm]) (T:=28) (by simp) 2
     have b0:w9.cell? ⟨A9,0,none⟩=_:=HM9.out.hs.cell (b:=A9) (c:=#[.int .i64 (ku:Nat),.int .i64 (kv:Nat),.int .i64 (km:Nat)]) (T:=35) (by simp) 0
     have b1:w9.cell? ⟨A9,1,none⟩=_:=HM9.out.hs.cell (b:=A9) (c:=#[.int .i64 (ku:Nat),.int .i64 (kv:Nat),.int .i64 (km:Nat)]) (T:=35) (by simp) 1
     have b2:w9.cell? ⟨A9,2,none⟩=_:=HM9.out.hs.cell (b:=A9) (c:=#[.int .i64 (ku:Nat),.int .i64 (kv:Nat),.int .i64 (km:Nat)]) (T:=35) (by simp) 2
     rcases Hcase.out with ⟨h1,h2,h3⟩ | ⟨h1,h2,h3⟩
     ·subst h1
      obtain⟨f1,f2⟩:=full_of.1 h2
      rw[f1] at c1
      have HLk:Hid (AtE vs8 r ku kv km):=by rw[h3,← f2];exact HA8.out
      obtain⟨C9,-,hrw9⟩:=HM9.out.rw
      have hL:=like_calls hrw9 HIE9.out HLk.out
      clear h2 h3 f1 f2 hrw9 Hcase
      go_wp2_with fail
      refine hL.mono ?_
      rintro e w10 ⟨rfl,hb10⟩
      have HL10:=jH hb10.out
      clear hL hb10
      have HM10:=jH (HM9.out.below HL10.out)
      have HEX10:=jH (IsE.below HEX9.out HL10.out)
      have hIn:=Inv_any HEX10.out
      clear a0 a1 a2 b0 b1 b2 c1
      have d0:w10.cell? ⟨A4,0,none⟩=_:=HM10.out.hs.cell (b:=A4) (c:=#[.pointer qu4,.pointer qv4,.pointer qm4]) (T:=28) (by simp) 0
      have d1:w10.cell? ⟨A4,1,none⟩=_:=HM10.out.hs.cell (b:=A4) (c:=#[.pointer qu4,.pointer qv4,.pointer qm4]) (T:=28) (by simp) 1
      have d2:w10.cell? ⟨A4,2,none⟩=_:=HM10.out.hs.cell (b:=A4) (c:=#[.pointer qu4,.pointer qv4,.pointer qm4]) (T:=28) (by simp) 2
      go_wp2_with fail
      refine hIn.mono ?_
      rintro e wi ⟨ru,rv,rm,er2,r2,rfl,hie2,hbi,hcase2⟩
      obtain⟨w11,A11,hw11,hA11,HM11,HRC2,HIE11⟩:∃ w A,(wi.alloc (.cells #[.pointer ru,.pointer rv,.pointer rm] 28)).alloc (.cells #[.pointer (some ⟨p,0,none⟩),.bool false] 75)=w∧wi.heap.size=A ∧
       Hid (MS3 W1 w p 20001000000 fv8 fl8 vs8 [(A,#[.pointer ru,.pointer rv,.pointer rm],28),(A9,#[.int .i64 (ku:Nat),.int .i64 (kv:Nat),.int .i64 (km:Nat)],35),(A7,#[.pointer pu,.pointer pv,.pointer pm],28),(A6+1,#[.int .i64 (iu6:Nat),.int .i64 (iv6:Nat),.int .i64 (im6:Nat)],35),(A6,#[.pointer qu6,.pointer qv6,.pointer qm6],28),(A4+1,#[.int .i64 (iu4:Nat),.int .i64 (iv4:Nat),.int .i64 (im4:Nat)],35),(A4,#[.pointer qu4,.pointer qv4,.pointer qm4],28)]) ∧
       Hid (RC 20001000000 w (A+1) p fv8 fl8 vs8 false)∧Hid (IsE w (.agg #[.pointer ru,.pointer rv,.pointer rm]) r2):=by
       have h1:=(HM10.out.below hbi.out).add #[.pointer ru,.pointer rv,.pointer rm] 28 (.inl rfl) rfl
       have hb1:Below wi.heap.size wi (wi.alloc (.cells #[.pointer ru,.pointer rv,.pointer rm] 28)):=(jV wi _).out
       have hb2:=(jV (wi.alloc (.cells #[.pointer ru,.pointer rv,.pointer rm] 28)) (.cells #[.pointer (some ⟨p,0,none⟩),.bool false] 75)).out
       have h2:=h1.rc (b':=20001000000) (jR _)
       rw[jY] at h2
       exact⟨_,_,rfl,rfl,h1.below hb2,h2,(hie2.out.below hb1).below hb2⟩
      have hRI:=rInv_calls HRC2.out HAX9.out Hox.out (by omega)
      have Hcase2:=jH hcase2.out
      have HA11:Hid (W1.heap.size≤A11):=by show _≤_; rw[← hA11];exact Nat.le_trans HM10.out.bl.size hbi.out.size
      clear hIn hie2 hbi hcase2 d0 d1 d2
      have d0:w11.cell? ⟨A4+1,0,none⟩=_:=HM11.out.hs.cell (b:=A4+1) (c:=#[.int .i64 (iu4:Nat),.int .i64 (iv4:Nat),.int .i64 (im4:Nat)]) (T:=35) (by simp) 0
      have d1:w11.cell? ⟨A4+1,1,none⟩=_:=HM11.out.hs.cell (b:=A4+1) (c:=#[.int .i64 (iu4:Nat),.int .i64 (iv4:Nat),.int .i64 (im4:Nat)]) (T:=35) (by simp) 1
      have d2:w11.cell? ⟨A4+1,2,none⟩=_:=HM11.out.hs.cell (b:=A4+1) (c:=#[.int .i64 (iu4:Nat),.int .i64 (iv4:Nat),.int .i64 (im4:Nat)]) (T:=35) (by simp) 2
      go_wp2_with fail
      refine hRI.mono ?_
      rintro e w12 ⟨lu,lv,lm,fv12,fl12,vs12,rfl,hk12,ha12⟩
      have HM12:=jH (HM11.out.rk HRC2.out (by have:=HA11.out; omega) hk12.out)
      have HO9:Hid (w12.heap[A9]? = some (.cells #[.int .i64 (ku:Nat),.int .i64 (kv:Nat),.int .i64 (km:Nat)] 35 (0,0))):=HM12.out.hs (A9,#[.int .i64 (ku:Nat),.int .i64 (kv:Nat),.int .i64 (km:Nat)],35) (by simp)
      have HQ12:Hid (w12.heap[A11]? = some (.cells #[.pointer ru,.pointer rv,.pointer rm] 28 (0,0))):=HM12.out.hs (A11,#[.pointer ru,.pointer rv,.pointer rm],28) (by simp)
      have HI12:=jH (HIE11.out.rk HRC2.out hk12.out)
      have HA12:=jH ha12.out
      have HO12:=jH hk12.out.rc.obj
      clear hRI hk12 ha12 d0 d1 d2
      have s0:w12.cell? ⟨A9,0,none⟩=some (.int .i64 (ku:Nat)):=by rw[jB HO9.out];rfl
      have s1:w12.cell? ⟨A9,1,none⟩=some (.int .i64 (kv:Nat)):=by rw[jB HO9.out];rfl
      have s2:w12.cell? ⟨A9,2,none⟩=some (.int .i64 (km:Nat)):=by rw[jB HO9.out];rfl
      have fs:=fun o=>jF HO9.out o
      obtain⟨w13,hw13,HN9,HW13,HI13,HB13⟩:∃ w,((w12.setCell ⟨A9,0,none⟩ (.int .i64 (lu:Nat))).setCell ⟨A9,1,none⟩ (.int .i64 (lv:Nat))).setCell ⟨A9,2,none⟩ (.int .i64 (lm:Nat))=w∧Hid (w.heap[A9]? = some (.cells #[.int .i64 (lu:Nat),.int .i64 (lv:Nat),.int .i64 (lm:Nat)] 35 (0,0)))∧Hid (∀ q,q≠A9→w.heap[q]? = w12.heap[q]?) ∧
       Hid (IsE w (.agg #[.pointer ru,.pointer rv,.pointer rm]) r2)∧Hid (Below W1.heap.size W1 w) :=
       ⟨_,rfl,z7 HO9.out,fun q hq=>ji _ hq _ _ _,IsE.store3 HI12.out HO9.out,Below.set3 HM12.out.bl HA9.out⟩
      have hS:=jx w13
      go_wp2_with fail
      refine hS.mono ?_
      rintro e w14 ⟨rfl,hb14⟩
      have HB14:=jH hb14.out
      have HI14:=jH (IsE.below HI13.out hb14.out)
      have HQ14:Hid (w14.heap[A11]? = some (.cells #[.pointer ru,.pointer rv,.pointer rm] 28 (0,0))):=Below.here hb14.out ((HW13.out A11 (jI HQ12.out HO9.out (by decide))).trans HQ12.out)
      have HN14:=jH (Below.here hb14.out HN9.out)
      have HC14:Hid (w14.heap[A11+1]? = some (.cells #[.pointer (some ⟨p,0,none⟩),.bool (invF false x)] 75 (0,0))):=Below.here hb14.out ((HW13.out (A11+1) (jI HO12.out HO9.out (by decide))).trans HO12.out)
      have HR14:Hid (∃ C,RW C w14 p fv12 fl12 vs12):=by
       obtain⟨C,-,h⟩:=HM12.out.rw
       exact⟨C,(h.kept fun q hq=>HW13.out q (fun e=>by subst e; exact h.other HO9.out (by decide) (by decide) (by decide) hq)).below hb14.out⟩
      clear hS hb14 s0 s1 s2 fs
      have c2:w14.cell? ⟨A11+1,1,none⟩=some (.bool (invF false x)):=by rw[jB HC14.out];rfl
      have d0:w14.cell? ⟨A11,0,none⟩=some (.pointer ru):=by rw[jB HQ14.out];rfl
      have d1:w14.cell? ⟨A11,1,none⟩=some (.pointer rv):=by rw[jB HQ14.out];rfl
      have d2:w14.cell? ⟨A11,2,none⟩=some (.pointer rm):=by rw[jB HQ14.out];rfl
      have s0:w14.cell? ⟨A9,0,none⟩=some (.int .i64 (lu:Nat)):=by rw[jB HN14.out];rfl
      have s1:w14.cell? ⟨A9,1,none⟩=some (.int .i64 (lv:Nat)):=by rw[jB HN14.out];rfl
      have s2:w14.cell? ⟨A9,2,none⟩=some (.int .i64 (lm:Nat)):=by rw[jB HN14.out];rfl
      rcases Hcase2.out with ⟨g1,g2,g3⟩ | ⟨g1,g2,g3⟩
      ·subst g1
       rw[(invF_of Hox.out).1 g2] at c2
       obtain⟨C14,hr14⟩:=HR14.out
       have hL:=like_calls hr14 HI14.out (by rw[g3];exact HA12.out)
       clear g2 g3 hr14
       go_wp2_with fail
       refine hL.mono ?_
       rintro e w15 ⟨rfl,hb15⟩
       go_wp2_with fail
       go_ret
       exact⟨by first | rfl | simp,Below.trans' HB1.out (Below.trans' HB13.out (Below.trans' HB14.out hb15.out))⟩
      ·subst g1
       rw[(invF_of Hox.out).2 g2] at c2
       have hU:=isUnit_calls (W:=w14) (qu:=ru) (qv:=rv) (qm:=rm) (by rw[← g3];exact HI14.out)
       clear g2 g3
       go_wp2_with fail
       refine hU.mono ?_
       rintro e w15 ⟨rfl,hb15⟩
       go_wp2_with fail
       go_ret
       exact⟨by first | rfl | simp,Below.trans' HB1.out (Below.trans' HB13.out (Below.trans' HB14.out hb15.out))⟩
     ·subst h1
      rw[full_of.2 h2] at c1
      have hU:=isUnit_calls (W:=w9) (qu:=pu) (qv:=pv) (qm:=pm) (by rw[← h3];exact HIE9.out)
      clear h2 h3 Hcase
      go_wp2_with fail
      refine hU.mono ?_
      rintro e w10 ⟨rfl,hb10⟩
      have HL10:=jH hb10.out
      clear hU hb10
      have HM10:=jH (HM9.out.below HL10.out)
      have HEX10:=jH (IsE.below HEX9.out HL10.out)
      have hIn:=Inv_any HEX10.out
      clear a0 a1 a2 b0 b1 b2 c1
      have d0:w10.cell? ⟨A4,0,none⟩=_:=HM10.out.hs.cell (b:=A4) (c:=#[.pointer qu4,.pointer qv4,.pointer qm4]) (T:=28) (by simp) 0
      have d1:w10.cell? ⟨A4,1,none⟩=_:=HM10.out.hs.cell (b:=A4) (c:=#[.pointer qu4,.pointer qv4,.pointer qm4]) (T:=28) (by simp) 1
      have d2:w10.cell? ⟨A4,2,none⟩=_:=HM10.out.hs.cell (b:=A4) (c:=#[.pointer qu4,.pointer qv4,.pointer qm4]) (T:=28) (by simp) 2
      go_wp2_with fail
      refine hIn.mono ?_
      rintro e wi ⟨ru,rv,rm,er2,r2,rfl,hie2,hbi,hcase2⟩
      obtain⟨w11,A11,hw11,hA11,HM11,HRC2,HIE11⟩:∃ w A,(wi.alloc (.cells #[.pointer ru,.pointer rv,.pointer rm] 28)).alloc (.cells #[.pointer (some ⟨p,0,none⟩),.bool false] 75)=w∧wi.heap.size=A ∧
       Hid (MS3 W1 w p 20001000000 fv8 fl8 vs8 [(A,#[.pointer ru,.pointer rv,.pointer rm],28),(A9,#[.int .i64 (ku:Nat),.int .i64 (kv:Nat),.int .i64 (km:Nat)],35),(A7,#[.pointer pu,.pointer pv,.pointer pm],28),(A6+1,#[.int .i64 (iu6:Nat),.int .i64 (iv6:Nat),.int .i64 (im6:Nat)],35),(A6,#[.pointer qu6,.pointer qv6,.pointer qm6],28),(A4+1,#[.int .i64 (iu4:Nat),.int .i64 (iv4:Nat),.int .i64 (im4:Nat)],35),(A4,#[.pointer qu4,.pointer qv4,.pointer qm4],28)]) ∧
       Hid (RC 20001000000 w (A+1) p fv8 fl8 vs8 false)∧Hid (IsE w (.agg #[.pointer ru,.pointer rv,.pointer rm]) r2):=by
       have h1:=(HM10.out.below hbi.out).add #[.pointer ru,.pointer rv,.pointer rm] 28 (.inl rfl) rfl
       have hb1:Below wi.heap.size wi (wi.alloc (.cells #[.pointer ru,.pointer rv,.pointer rm] 28)):=(jV wi _).out
       have hb2:=(jV (wi.alloc (.cells #[.pointer ru,.pointer rv,.pointer rm] 28)) (.cells #[.pointer (some ⟨p,0,none⟩),.bool false] 75)).out
       have h2:=h1.rc (b':=20001000000) (jR _)
       rw[jY] at h2
       exact⟨_,_,rfl,rfl,h1.below hb2,h2,(hie2.out.below hb1).below hb2⟩
      have hRI:=rInv_calls HRC2.out HAX9.out Hox.out (by omega)
      have Hcase2:=jH hcase2.out
      have HA11:Hid (W1.heap.size≤A11):=by show _≤_; rw[← hA11];exact Nat.le_trans HM10.out.bl.size hbi.out.size
      clear hIn hie2 hbi hcase2 d0 d1 d2
      have d0:w11.cell? ⟨A4+1,0,none⟩=_:=HM11.out.hs.cell (b:=A4+1) (c:=#[.int .i64 (iu4:Nat),.int .i64 (iv4:Nat),.int .i64 (im4:Nat)]) (T:=35) (by simp) 0
      have d1:w11.cell? ⟨A4+1,1,none⟩=_:=HM11.out.hs.cell (b:=A4+1) (c:=#[.int .i64 (iu4:Nat),.int .i64 (iv4:Nat),.int .i64 (im4:Nat)]) (T:=35) (by simp) 1
      have d2:w11.cell? ⟨A4+1,2,none⟩=_:=HM11.out.hs.cell (b:=A4+1) (c:=#[.int .i64 (iu4:Nat),.int .i64 (iv4:Nat),.int .i64 (im4:Nat)]) (T:=35) (by simp) 2
      go_wp2_with fail
      refine hRI.mono ?_
      rintro e w12 ⟨lu,lv,lm,fv12,fl12,vs12,rfl,hk12,ha12⟩
      have HM12:=jH (HM11.out.rk HRC2.out (by have:=HA11.out; omega) hk12.out)
      have HO9:Hid (w12.heap[A9]? = some (.cells #[.int .i64 (ku:Nat),.int .i64 (kv:Nat),.int .i64 (km:Nat)] 35 (0,0))):=HM12.out.hs (A9,#[.int .i64 (ku:Nat),.int .i64 (kv:Nat),.int .i64 (km:Nat)],35) (by simp)
      have HQ12:Hid (w12.heap[A11]? = some (.cells #[.pointer ru,.pointer rv,.pointer rm] 28 (0,0))):=HM12.out.hs (A11,#[.pointer ru,.pointer rv,.pointer rm],28) (by simp)
      have HI12:=jH (HIE11.out.rk HRC2.out hk12.out)
      have HA12:=jH ha12.out
      have HO12:=jH hk12.out.rc.obj
      clear hRI hk12 ha12 d0 d1 d2
      have s0:w12.cell? ⟨A9,0,none⟩=some (.int .i64 (ku:Nat)):=by rw[jB HO9.out];rfl
      have s1:w12.cell? ⟨A9,1,none⟩=some (.int .i64 (kv:Nat)):=by rw[jB HO9.out];rfl
      have s2:w12.cell? ⟨A9,2,none⟩=some (.int .i64 (km:Nat)):=by rw[jB HO9.out];rfl
      have fs:=fun o=>jF HO9.out o
      obtain⟨w13,hw13,HN9,HW13,HI13,HB13⟩:∃ w,((w12.setCell ⟨A9,0,none⟩ (.int .i64 (lu:Nat))).setCell ⟨A9,1,none⟩ (.int .i64 (lv:Nat))).setCell ⟨A9,2,none⟩ (.int .i64 (lm:Nat))=w∧Hid (w.heap[A9]? = some (.cells #[.int .i64 (lu:Nat),.int .i64 (lv:Nat),.int .i64 (lm:Nat)] 35 (0,0)))∧Hid (∀ q,q≠A9→w.heap[q]? = w12.heap[q]?) ∧
       Hid (IsE w (.agg #[.pointer ru,.pointer rv,.pointer rm]) r2)∧Hid (Below W1.heap.size W1 w) :=
       ⟨_,rfl,z7 HO9.out,fun q hq=>ji _ hq _ _ _,IsE.store3 HI12.out HO9.out,Below.set3 HM12.out.bl HA9.out⟩
      have hS:=jx w13
      go_wp2_with fail
      refine hS.mono ?_
      rintro e w14 ⟨rfl,hb14⟩
      have HB14:=jH hb14.out
      have HI14:=jH (IsE.below HI13.out hb14.out)
      have HQ14:Hid (w14.heap[A11]? = some (.cells #[.pointer ru,.pointer rv,.pointer rm] 28 (0,0))):=Below.here hb14.out ((HW13.out A11 (jI HQ12.out HO9.out (by decide))).trans HQ12.out)
      have HN14:=jH (Below.here hb14.out HN9.out)
      have HC14:Hid (w14.heap[A11+1]? = some (.cells #[.pointer (some ⟨p,0,none⟩),.bool (invF false x)] 75 (0,0))):=Below.here hb14.out ((HW13.out (A11+1) (jI HO12.out HO9.out (by decide))).trans HO12.out)
      have HR14:Hid (∃ C,RW C w14 p fv12 fl12 vs12):=by
       obtain⟨C,-,h⟩:=HM12.out.rw
       exact⟨C,(h.kept fun q hq=>HW13.out q (fun e=>by subst e; exact h.other HO9.out (by decide) (by decide) (by decide) hq)).below hb14.out⟩
      clear hS hb14 s0 s1 s2 fs
      have c2:w14.cell? ⟨A11+1,1,none⟩=some (.bool (invF false x)):=by rw[jB HC14.out];rfl
      have d0:w14.cell? ⟨A11,0,none⟩=some (.pointer ru):=by rw[jB HQ14.out];rfl
      have d1:w14.cell? ⟨A11,1,none⟩=some (.pointer rv):=by rw[jB HQ14.out];rfl
      have d2:w14.cell? ⟨A11,2,none⟩=some (.pointer rm):=by rw[jB HQ14.out];rfl
      have s0:w14.cell? ⟨A9,0,none⟩=some (.int .i64 (lu:Nat)):=by rw[jB HN14.out];rfl
      have s1:w14.cell? ⟨A9,1,none⟩=some (.int .i64 (lv:Nat)):=by rw[jB HN14.out];rfl
      have s2:w14.cell? ⟨A9,2,none⟩=some (.int .i64 (lm:Nat)):=by rw[jB HN14.out];rfl
      rcases Hcase2.out with ⟨g1,g2,g3⟩ | ⟨g1,g2,g3⟩
      ·subst g1
       rw[(invF_of Hox.out).1 g2] at c2
       obtain⟨C14,hr14⟩:=HR14.out
       have hL:=like_calls hr14 HI14.out (by rw[g3];exact HA12.out)
       clear g2 g3 hr14
       go_wp2_with fail
       refine hL.mono ?_
       rintro e w15 ⟨rfl,hb15⟩
       go_wp2_with fail
       go_ret
       exact⟨by first | rfl | simp,Below.trans' HB1.out (Below.trans' HB13.out (Below.trans' HB14.out hb15.out))⟩
      ·subst g1
       rw[(invF_of Hox.out).2 g2] at c2
       have hU:=isUnit_calls (W:=w14) (qu:=ru) (qv:=rv) (qm:=rm) (by rw[← g3];exact HI14.out)
       clear g2 g3
       go_wp2_with fail
       refine hU.mono ?_
       rintro e w15 ⟨rfl,hb15⟩
       go_wp2_with fail
       go_ret
       exact⟨by first | rfl | simp,Below.trans' HB1.out (Below.trans' HB13.out (Below.trans' HB14.out hb15.out))⟩
end
end Sr
