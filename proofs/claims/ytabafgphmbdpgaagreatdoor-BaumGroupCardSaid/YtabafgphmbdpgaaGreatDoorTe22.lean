/- Texts of this claim, joined: Times, Sem, Guard, MulP. -/
import Derived.Test.YtabafgphmbdpgaaGreatDoorTe1
import Derived.Test.YtabafgphmbdpgaaGreatDoorTe21
import Derived.Defers
import Derived.Recover
import Derived.Laws.EntriesVeiled
set_option maxHeartbeats 8000000
set_option maxRecDepth 100000
namespace Sr
open Go Go.Proofs Go.RowKit Go.Maps Go.WideMaps
section
def rr (x y:E3): Int:=if x.v<y.v+x.m then x.v else y.v+x.m
def timesE (x y:E3): E3 :=
 if x.u=0 then plainE y.u (y.v+x.m) (x.m+y.m)
 else if y.u=0 then plainE x.u x.v (x.m+y.m)
 else plainE (shx x.u (x.v - rr x y)+shx y.u (y.v+x.m - rr x y)) (rr x y) (x.m+y.m)
structure TimesOK (x y:E3): Prop where
 m:allowed (x.m+y.m)
 q:allowed (y.v+x.m)
 left:x.u=0→plainOK y.u (y.v+x.m)
 right:x.u≠0→y.u=0→plainOK x.u x.v
 mine:x.u≠0→y.u≠0→allowed (x.v - rr x y)∧allowed (y.v+x.m - rr x y)∧allowed (shx x.u (x.v - rr x y))∧allowed (shx y.u (y.v+x.m - rr x y))∧allowed (shx x.u (x.v - rr x y)+shx y.u (y.v+x.m - rr x y)) ∧
  plainOK (shx x.u (x.v - rr x y)+shx y.u (y.v+x.m - rr x y)) (rr x y)
theorem zM {x k:Int}(h:0≤k): shOK x k:=fun e _=>by omega
theorem rr_le (x y:E3): 0≤x.v - rr x y∧0≤y.v+x.m - rr x y:=by unfold rr; split <;>omega
def Has (w:World)(l:List (Nat×Array Value×TypeId)): Prop:=∀ p∈l,w.heap[p.1]? = some (.cells p.2.1 p.2.2 (0,0))
variable {w:World}
theorem Has.below {w':World}{l:List (Nat×Array Value×TypeId)}(h:Has w l)(hb:Below w.heap.size w w'): Has w' l:=fun p hp=>Below.here hb (h p hp)
theorem Has.add {l:List (Nat×Array Value×TypeId)}(h:Has w l)(c:Array Value)(T:TypeId): Has (w.alloc (.cells c T)) ((w.heap.size,c,T)::l):=fun p hp=>by
 rcases List.mem_cons.1 hp with rfl | hp
 ·exact jD w _
 ·exact Below.here ((Below.refl _ _).alloc (jR _) _) (h p hp)
theorem Has.cell {w:World}{l:List (Nat×Array Value×TypeId)}(h:Has w l){b:Nat}{c:Array Value}{T:TypeId}(hm:(b,c,T)∈l)(o:Nat): w.cell? ⟨b,o,none⟩=c[o]?:=jB (h _ hm) o
theorem Has.set {l l':List (Nat×Array Value×TypeId)}{b:Nat}{v u:Value}{T:TypeId}(h:Has w ((b,#[v],T)::l))(hd:∀ p∈l,p.1≠b)(hl:l'=(b,#[u],T)::l): Has (w.setCell ⟨b,0,none⟩ u) l':=fun p hp=>by
 subst hl
 rcases List.mem_cons.1 hp with rfl | hp
 ·exact heap_setCell_same w b 0 _ T u (h (b,#[v],T) (by simp))
 ·rw[jS _ _ _ _ (by show p.1≠b; exact hd p hp)]
  exact h p (List.mem_cons_of_mem _ hp)
theorem zp {W:World}{V1 V2:Value}{x y:E3}(h1:IsE W V1 x)(h2:IsE W V2 y): Calls Tryz.prog 56 #[V1,V2] W (PX (TimesOK x y) (timesE x y) W):=by
 obtain⟨xu,xv,xm,rfl,hxu,hxv,hxm⟩:=h1
 obtain⟨yu,yv,ym,rfl,hyu,hyv,hym⟩:=h2
 have HXu:=jH hxu
 have HXv:=jH hxv
 have HXm:=jH hxm
 have HYu:=jH hyu
 have HYv:=jH hyv
 have HYm:=jH hym
 clear hxu hxv hxm hyu hyv hym
 obtain⟨W0,hW0⟩:∃ W0,W0=((W.alloc (.cells #[.pointer xu,.pointer xv,.pointer xm] 28)).alloc (.cells #[.pointer yu,.pointer yv,.pointer ym] 28)).alloc (.cells #[.pointer none,.pointer none,.pointer none] 28):=⟨_,rfl⟩
 have HB0:Hid (Below W.heap.size W W0):=by show Below _ _ _; rw[hW0];exact (((Below.refl _ _).alloc (jR _) _).alloc (by simp) _).alloc (by simp; omega) _
 have HH0:Hid (Has W0 [(W.heap.size+1+1,#[.pointer none,.pointer none,.pointer none],28),(W.heap.size+1,#[.pointer yu,.pointer yv,.pointer ym],28),(W.heap.size,#[.pointer xu,.pointer xv,.pointer xm],28)]):=by
  show Has _ _
  have h:=((Has.add (l:=[]) (fun p hp=>by simp at hp) #[.pointer xu,.pointer xv,.pointer xm] 28:Has (W.alloc _) _).add #[.pointer yu,.pointer yv,.pointer ym] 28).add #[.pointer none,.pointer none,.pointer none] 28
  rw[jY,jY] at h
  rw[hW0];exact h
 have hz0:W.heap.size+3=W0.heap.size:=by rw[hW0];simp
 have HW0:=jH hW0
 have hAdd1:=yE (W:=W0) (HXm.out.below HB0.out) (HYm.out.below HB0.out)
 clear hW0
 go_enter Tryz.func56,Tryz.ntmps56
 go_wp2_with fail
 rw[show ((W.alloc (.cells #[.pointer xu,.pointer xv,.pointer xm] 28)).alloc (.cells #[.pointer yu,.pointer yv,.pointer ym] 28)).alloc (.cells #[.pointer none,.pointer none,.pointer none] 28)=W0 from HW0.out.symm]
 refine hAdd1.mono ?_
 rintro e wa ⟨qm,er,rfl,hba,hra⟩
 have hmu:=qV (W:=wa) qm er
 clear hAdd1
 go_wp2_with fail
 refine hmu.mono ?_
 rintro e wbm ⟨⟨he,rfl⟩ | ⟨he,rfl⟩,hbb⟩
 rotate_left
 ·have hz:=hra.out.er.2 he
  rw[hz.2]
  refine And.intro rfl ?_
  exact Or.inr ⟨fun h=>hz.1 (h.m),rfl,Below.trans' HB0.out (Below.trans' hba.out hbb.out)⟩
 clear hmu
 have HAm:=jH (hra.out.er.1 he).1
 have hia:=(hra.out.er.1 he).2
 clear he
 have hbx:=Below.trans' hba.out hbb.out
 have HIm:=jH ((hia.below hbb.out).below ((Below.refl _ _).alloc (jR _) (.cells #[.pointer qm] 26)))
 have HHm:=jH ((HH0.out.below hbx).add #[.pointer qm] 26)
 have HWm:=jH (Below.trans' HB0.out (hbx.alloc hbx.size (.cells #[.pointer qm] 26)))
 have HDm:=jH (hbx.alloc hbx.size (.cells #[.pointer qm] 26))
 clear hba hra hia hbb hbx
 have c1:=HHm.out.cell (b:=W.heap.size+1) (c:=#[.pointer yu,.pointer yv,.pointer ym]) (T:=28) (by simp) 1
 have c2:=HHm.out.cell (b:=W.heap.size) (c:=#[.pointer xu,.pointer xv,.pointer xm]) (T:=28) (by simp) 2
 have hAdd2:=yE (W:=wbm.alloc (.cells #[.pointer qm] 26)) (HYv.out.below HWm.out) (HXm.out.below HWm.out)
 go_wp2_with fail
 clear c1 c2
 refine hAdd2.mono ?_
 rintro e wa ⟨qq,er,rfl,hba,hra⟩
 have hmu:=qV (W:=wa) qq er
 clear hAdd2
 go_wp2_with fail
 refine hmu.mono ?_
 rintro e wbq ⟨⟨he,rfl⟩ | ⟨he,rfl⟩,hbb⟩
 rotate_left
 ·have hz:=hra.out.er.2 he
  rw[hz.2]
  refine And.intro rfl ?_
  exact Or.inr ⟨fun h=>hz.1 (h.q),rfl,Below.trans' HWm.out (Below.trans' hba.out hbb.out)⟩
 clear hmu
 have HAq:=jH (hra.out.er.1 he).1
 have hia:=(hra.out.er.1 he).2
 clear he
 have hbx:=Below.trans' hba.out hbb.out
 have HIq:=jH ((hia.below hbb.out).below ((Below.refl _ _).alloc (jR _) (.cells #[.pointer qq] 26)))
 have HHq:=jH ((HHm.out.below hbx).add #[.pointer qq] 26)
 have HWq:=jH (Below.trans' HWm.out (hbx.alloc hbx.size (.cells #[.pointer qq] 26)))
 have HDq:=jH (hbx.alloc hbx.size (.cells #[.pointer qq] 26))
 clear hba hra hia hbb hbx
 have c1:=HHq.out.cell (b:=W.heap.size) (c:=#[.pointer xu,.pointer xv,.pointer xm]) (T:=28) (by simp) 0
 have hSg:=qQ (W:=wbq.alloc (.cells #[.pointer qq] 26)) (HXu.out.below HWq.out)
 by_cases hu:x.u=0
 ·have h0:isg x.u=0:=qM.2 hu
  rw[h0] at hSg
  have HTE:Hid (timesE x y=plainE y.u (y.v+x.m) (x.m+y.m)):=by show _=_; unfold timesE; rw[if_pos hu]
  have HU0:Hid (x.u=0):=hu
  clear h0 hu
  go_wp2_with fail
  refine hSg.mono ?_
  rintro e ws ⟨rfl,hbs⟩
  clear hSg c1
  have HHs:=jH (HHq.out.below hbs.out)
  have HWs:=jH (Below.trans' HWq.out hbs.out)
  have c1:=HHs.out.cell (b:=W.heap.size+1) (c:=#[.pointer yu,.pointer yv,.pointer ym]) (T:=28) (by simp) 0
  have c2:=HHs.out.cell (b:=wbq.heap.size) (c:=#[.pointer qq]) (T:=26) (by simp) 0
  have c3:=HHs.out.cell (b:=wbm.heap.size) (c:=#[.pointer qm]) (T:=26) (by simp) 0
  have hPl:=yl (W:=ws) (HYu.out.below HWs.out) (HIq.out.below hbs.out) ((HIm.out.below HDq.out).below hbs.out)
  go_wp2_with fail
  clear c1 c2 c3
  refine hPl.mono ?_
  rintro e w8 (⟨hok8,pu,pv,pm,rfl,hie,hb8⟩ | ⟨hno,rfl,hb8⟩)
  rotate_left
  ·refine And.intro rfl ?_
   exact Or.inr ⟨fun h=>hno (h.left HU0.out),rfl,Below.trans' HWs.out hb8.out⟩
  have HA8:=jH hok8
  clear hok8
  have HH8:=jH (HHs.out.below hb8.out)
  have d0:=HH8.out.cell (b:=W.heap.size+1+1) (c:=#[.pointer none,.pointer none,.pointer none]) (T:=28) (by simp) 0
  have d1:=HH8.out.cell (b:=W.heap.size+1+1) (c:=#[.pointer none,.pointer none,.pointer none]) (T:=28) (by simp) 1
  have d2:=HH8.out.cell (b:=W.heap.size+1+1) (c:=#[.pointer none,.pointer none,.pointer none]) (T:=28) (by simp) 2
  have Y3:=jH (HH8.out (W.heap.size+1+1,#[.pointer none,.pointer none,.pointer none],28) (by simp))
  have f0:=jF Y3.out 0
  have f1:=jF Y3.out 1
  have f2:=jF Y3.out 2
  clear hPl
  go_wp2_with fail
  refine bodyPost_ret (v:=.agg #[.pointer pu,.pointer pv,.pointer pm]) (by simp[results,Tryz.results56,go_sem,d0,d1,d2]) rfl ?_
  refine .inl ⟨⟨HAm.out,HAq.out,fun _=>HA8.out,fun h=>absurd HU0.out h,fun h=>absurd HU0.out h⟩,pu,pv,pm,rfl,?_,Below.set3 (Below.trans' HWs.out hb8.out) (by show W.heap.size≤W.heap.size+1+1; omega)⟩
  rw[HTE.out]
  exact IsE.store3 hie.out Y3.out
 ·have h0:(isg x.u==0)=false:=by simpa using mt qM.1 hu
  have HU:Hid (x.u≠0):=hu
  clear hu
  go_wp2_with fail
  refine hSg.mono ?_
  rintro e ws ⟨rfl,hbs⟩
  clear hSg c1
  have HHs:=jH (HHq.out.below hbs.out)
  have HWs:=jH (Below.trans' HWq.out hbs.out)
  have c1:=HHs.out.cell (b:=W.heap.size+1) (c:=#[.pointer yu,.pointer yv,.pointer ym]) (T:=28) (by simp) 0
  have hSg2:=qQ (W:=ws) (HYu.out.below HWs.out)
  by_cases hy:y.u=0
  ·have h02:isg y.u=0:=qM.2 hy
   rw[h02] at hSg2
   have HTE:Hid (timesE x y=plainE x.u x.v (x.m+y.m)):=by show _=_; unfold timesE; rw[if_neg HU.out,if_pos hy]
   have HY0:Hid (y.u=0):=hy
   clear h02 hy
   go_wp2_with fail
   refine hSg2.mono ?_
   rintro e wt ⟨rfl,hbt⟩
   clear hSg2 c1
   have HHt:=jH (HHs.out.below hbt.out)
   have HWt:=jH (Below.trans' HWs.out hbt.out)
   have c1:=HHt.out.cell (b:=W.heap.size) (c:=#[.pointer xu,.pointer xv,.pointer xm]) (T:=28) (by simp) 0
   have c2:=HHt.out.cell (b:=W.heap.size) (c:=#[.pointer xu,.pointer xv,.pointer xm]) (T:=28) (by simp) 1
   have c3:=HHt.out.cell (b:=wbm.heap.size) (c:=#[.pointer qm]) (T:=26) (by simp) 0
   have hPl:=yl (W:=wt) (HXu.out.below HWt.out) (HXv.out.below HWt.out) (((HIm.out.below HDq.out).below hbs.out).below hbt.out)
   go_wp2_with fail
   clear c1 c2 c3
   refine hPl.mono ?_
   rintro e w8 (⟨hok8,pu,pv,pm,rfl,hie,hb8⟩ | ⟨hno,rfl,hb8⟩)
   rotate_left
   ·refine And.intro rfl ?_
    exact Or.inr ⟨fun h=>hno (h.right HU.out HY0.out),rfl,Below.trans' HWt.out hb8.out⟩
   have HA8:=jH hok8
   clear hok8
   have HH8:=jH (HHt.out.below hb8.out)
   have d0:=HH8.out.cell (b:=W.heap.size+1+1) (c:=#[.pointer none,.pointer none,.pointer none]) (T:=28) (by simp) 0
   have d1:=HH8.out.cell (b:=W.heap.size+1+1) (c:=#[.pointer none,.pointer none,.pointer none]) (T:=28) (by simp) 1
   have d2:=HH8.out.cell (b:=W.heap.size+1+1) (c:=#[.pointer none,.pointer none,.pointer none]) (T:=28) (by simp) 2
   have Y3:=jH (HH8.out (W.heap.size+1+1,#[.pointer none,.pointer none,.pointer none],28) (by simp))
   have f0:=jF Y3.out 0
   have f1:=jF Y3.out 1
   have f2:=jF Y3.out 2
   clear hPl
   go_wp2_with fail
   refine bodyPost_ret (v:=.agg #[.pointer pu,.pointer pv,.pointer pm]) (by simp[results,Tryz.results56,go_sem,d0,d1,d2]) rfl ?_
   refine .inl ⟨⟨HAm.out,HAq.out,fun h=>absurd h HU.out,fun _ _=>HA8.out,fun _ h=>absurd HY0.out h⟩,pu,pv,pm,rfl,?_,Below.set3 (Below.trans' HWt.out hb8.out) (by show W.heap.size≤W.heap.size+1+1; omega)⟩
   rw[HTE.out]
   exact IsE.store3 hie.out Y3.out
  ·have h02:(isg y.u==0)=false:=by simpa using mt qM.1 hy
   have HY:Hid (y.u≠0):=hy
   clear hy
   go_wp2_with fail
   refine hSg2.mono ?_
   rintro e wt ⟨rfl,hbt⟩
   clear hSg2 c1
   have HHt:=jH (HHs.out.below hbt.out)
   have HWt:=jH (Below.trans' HWs.out hbt.out)
   have HQt:=jH ((HIq.out.below hbs.out).below hbt.out)
   have HMt:=jH (((HIm.out.below HDq.out).below hbs.out).below hbt.out)
   have c1:=HHt.out.cell (b:=wbq.heap.size) (c:=#[.pointer qq]) (T:=26) (by simp) 0
   have HHr:=jH (HHt.out.add #[.pointer qq] 26)
   have HDr:=jH ((Below.refl wt.heap.size wt).alloc (jR _) (.cells #[.pointer qq] 26))
   have c2:=HHr.out.cell (b:=W.heap.size) (c:=#[.pointer xu,.pointer xv,.pointer xm]) (T:=28) (by simp) 1
   have c3:=HHr.out.cell (b:=wbq.heap.size) (c:=#[.pointer qq]) (T:=26) (by simp) 0
   have HWr:=jH (Below.trans' HWt.out HDr.out)
   have hCm:=yF (W:=wt.alloc (.cells #[.pointer qq] 26)) (HXv.out.below HWr.out) (HQt.out.below HDr.out)
   clear hbs hbt
   have HTE:Hid (timesE x y=plainE (shx x.u (x.v - rr x y)+shx y.u (y.v+x.m - rr x y)) (rr x y) (x.m+y.m)):=by show _=_; unfold timesE; rw[if_neg HU.out,if_neg HY.out]
   by_cases hlt:x.v<y.v+x.m
   ·have h03:isg (x.v - (y.v+x.m))<0:=isg_lt (by omega)
    have HR:Hid (rr x y=x.v):=by show _=_; unfold rr; rw[if_pos hlt]
    clear hlt
    go_wp2_with fail
    refine hCm.mono ?_
    rintro e wc ⟨rfl,hbc⟩
    clear hCm c1 c2 c3
    have HHc:=jH (HHr.out.below hbc.out)
    have c1:=HHc.out.cell (b:=W.heap.size) (c:=#[.pointer xu,.pointer xv,.pointer xm]) (T:=28) (by simp) 1
    have c2:=HHc.out.cell (b:=wt.heap.size) (c:=#[.pointer qq]) (T:=26) (by simp) 0
    have y7:wc.heap[wt.heap.size]? = some (.cells #[.pointer qq] 26 (0,0)):=HHc.out (wt.heap.size,#[.pointer qq],26) (by simp)
    have f7:=jF y7 0
    have s1:=HWm.out.size
    have s2:=HWq.out.size
    have s3:=HWs.out.size
    have s4:=HWt.out.size
    have z1:=(jA (HHt.out (wbq.heap.size,#[.pointer qq],26) (by simp))).1
    have z2:=(jA (HHt.out (wbm.heap.size,#[.pointer qm],26) (by simp))).1
    have z3:=(jA (HHt.out (W.heap.size+1+1,#[.pointer none,.pointer none,.pointer none],28) (by simp))).1
    have z4:=(jA (HHt.out (W.heap.size+1,#[.pointer yu,.pointer yv,.pointer ym],28) (by simp))).1
    have z5:=(jA (HHt.out (W.heap.size,#[.pointer xu,.pointer xv,.pointer xm],28) (by simp))).1
    have HHv:=jH (HHc.out.set (u:=.pointer xv) (by intro p hp; simp at hp; rcases hp with rfl | rfl | rfl | rfl | rfl <;>dsimp only <;>omega) rfl)
    have HWc:=jH (Below.trans' HWr.out hbc.out)
    have HWv:=jH (HWc.out.setCell (p:=⟨wt.heap.size,0,none⟩) (by show W.heap.size≤wt.heap.size; omega) (.pointer xv))
    have HIr:=jH ((HXv.out.below HWc.out).setCell (o:=0) y7 (by decide) (.pointer xv))
    have HIq7:=jH (((HQt.out.below HDr.out).below hbc.out).setCell (o:=0) y7 (by decide) (.pointer xv))
    have HIm7:=jH (((HMt.out.below HDr.out).below hbc.out).setCell (o:=0) y7 (by decide) (.pointer xv))
    have HIr':Hid (IsN (wc.setCell ⟨wt.heap.size,0,none⟩ (.pointer xv)) (.agg #[.pointer xv]) (rr x y)):=by show IsN _ _ _; rw[HR.out];exact HIr.out
    clear s1 s2 s3 s4 z1 z2 z3 z4 z5 y7 hbc
    go_wp2_with fail
    clear c1 c2 f7
    obtain⟨w7,hw7⟩:∃ w7,w7=wc.setCell ⟨wt.heap.size,0,none⟩ (.pointer xv):=⟨_,rfl⟩
    rw[← hw7] at HHv HWv HIr' HIq7 HIm7 ⊢
    clear hw7
    have hSub1:=Sub_calls (W:=w7) (HXv.out.below HWv.out) HIr'.out
    refine hSub1.mono ?_
    rintro e wa ⟨qi,er,rfl,hba,hra⟩
    have hmu:=qV (W:=wa) qi er
    clear hSub1
    go_wp2_with fail
    refine hmu.mono ?_
    rintro e wbi ⟨⟨he,rfl⟩ | ⟨he,rfl⟩,hbb⟩
    rotate_left
    ·have hz:=hra.out.er.2 he
     rw[hz.2]
     refine And.intro rfl ?_
     exact Or.inr ⟨fun h=>hz.1 ((h.mine HU.out HY.out).1),rfl,Below.trans' HWv.out (Below.trans' hba.out hbb.out)⟩
    clear hmu
    have HAi:=jH (hra.out.er.1 he).1
    have hia:=(hra.out.er.1 he).2
    clear he
    have hbx:=Below.trans' hba.out hbb.out
    have HIi:=jH ((hia.below hbb.out).below ((Below.refl _ _).alloc (jR _) (.cells #[.pointer qi] 26)))
    have HHi:=jH ((HHv.out.below hbx).add #[.pointer qi] 26)
    have HWi:=jH (Below.trans' HWv.out (hbx.alloc hbx.size (.cells #[.pointer qi] 26)))
    have HDi:=jH (hbx.alloc hbx.size (.cells #[.pointer qi] 26))
    clear hba hra hia hbb hbx
    have c1:=HHi.out.cell (b:=wbq.heap.size) (c:=#[.pointer qq]) (T:=26) (by simp) 0
    have c2:=HHi.out.cell (b:=wt.heap.size) (c:=#[.pointer xv]) (T:=26) (by simp) 0
    have hSub2:=Sub_calls (W:=wbi.alloc (.cells #[.pointer qi] 26)) (HIq7.out.below HDi.out) (HIr'.out.below HDi.out)
    go_wp2_with fail
    clear c1 c2
    refine hSub2.mono ?_
    rintro e wa ⟨qj,er,rfl,hba,hra⟩
    have hmu:=qV (W:=wa) qj er
    clear hSub2
    go_wp2_with fail
    refine hmu.mono ?_
    rintro e wbj ⟨⟨he,rfl⟩ | ⟨he,rfl⟩,hbb⟩
    rotate_left
    ·have hz:=hra.out.er.2 he
     rw[hz.2]
     refine And.intro rfl ?_
     exact Or.inr ⟨fun h=>hz.1 ((h.mine HU.out HY.out).2.1),rfl,Below.trans' HWi.out (Below.trans' hba.out hbb.out)⟩
    clear hmu
    have HAj:=jH (hra.out.er.1 he).1
    have hia:=(hra.out.er.1 he).2
    clear he
    have hbx:=Below.trans' hba.out hbb.out
    have HIj:=jH ((hia.below hbb.out).below ((Below.refl _ _).alloc (jR _) (.cells #[.pointer qj] 26)))
    have HHj:=jH ((HHi.out.below hbx).add #[.pointer qj] 26)
    have HWj:=jH (Below.trans' HWi.out (hbx.alloc hbx.size (.cells #[.pointer qj] 26)))
    have HDj:=jH (hbx.alloc hbx.size (.cells #[.pointer qj] 26))
    clear hba hra hia hbb hbx
    have c1:=HHj.out.cell (b:=W.heap.size) (c:=#[.pointer xu,.pointer xv,.pointer xm]) (T:=28) (by simp) 0
    have c2:=HHj.out.cell (b:=wbi.heap.size) (c:=#[.pointer qi]) (T:=26) (by simp) 0
    have hSh1:=z6 (W:=wbj.alloc (.cells #[.pointer qj] 26)) (HXu.out.below HWj.out) (HIi.out.below HDj.out)
    go_wp2_with fail
    clear c1 c2
    refine hSh1.mono ?_
    rintro e wa ⟨qa,er,rfl,hba,hra0⟩
    have hra:Hid (NR wa (shx x.u (x.v - rr x y)) (.agg #[.pointer qa]) er):=by
     show NR _ _ _ _
     rcases hra0.out with h | h
     ·exact h.2
     ·exact absurd (zM ((rr_le x y).1)) h.1
    have hmu:=qV (W:=wa) qa er
    clear hSh1 hra0
    go_wp2_with fail
    refine hmu.mono ?_
    rintro e wba ⟨⟨he,rfl⟩ | ⟨he,rfl⟩,hbb⟩
    rotate_left
    ·have hz:=hra.out.er.2 he
     rw[hz.2]
     refine And.intro rfl ?_
     exact Or.inr ⟨fun h=>hz.1 ((h.mine HU.out HY.out).2.2.1),rfl,Below.trans' HWj.out (Below.trans' hba.out hbb.out)⟩
    clear hmu
    have HAa:=jH (hra.out.er.1 he).1
    have hia:=(hra.out.er.1 he).2
    clear he
    have hbx:=Below.trans' hba.out hbb.out
    have HIa:=jH ((hia.below hbb.out).below ((Below.refl _ _).alloc (jR _) (.cells #[.pointer qa] 26)))
    have HHa:=jH ((HHj.out.below hbx).add #[.pointer qa] 26)
    have HWa:=jH (Below.trans' HWj.out (hbx.alloc hbx.size (.cells #[.pointer qa] 26)))
    have HDa:=jH (hbx.alloc hbx.size (.cells #[.pointer qa] 26))
    clear hba hra hia hbb hbx
    have c1:=HHa.out.cell (b:=W.heap.size+1) (c:=#[.pointer yu,.pointer yv,.pointer ym]) (T:=28) (by simp) 0
    have c2:=HHa.out.cell (b:=wbj.heap.size) (c:=#[.pointer qj]) (T:=26) (by simp) 0
    have hSh2:=z6 (W:=wba.alloc (.cells #[.pointer qa] 26)) (HYu.out.below HWa.out) (HIj.out.below HDa.out)
    go_wp2_with fail
    clear c1 c2
    refine hSh2.mono ?_
    rintro e wa ⟨qb,er,rfl,hba,hra0⟩
    have hra:Hid (NR wa (shx y.u (y.v+x.m - rr x y)) (.agg #[.pointer qb]) er):=by
     show NR _ _ _ _
     rcases hra0.out with h | h
     ·exact h.2
     ·exact absurd (zM ((rr_le x y).2)) h.1
    have hmu:=qV (W:=wa) qb er
    clear hSh2 hra0
    go_wp2_with fail
    refine hmu.mono ?_
    rintro e wbb ⟨⟨he,rfl⟩ | ⟨he,rfl⟩,hbb⟩
    rotate_left
    ·have hz:=hra.out.er.2 he
     rw[hz.2]
     refine And.intro rfl ?_
     exact Or.inr ⟨fun h=>hz.1 ((h.mine HU.out HY.out).2.2.2.1),rfl,Below.trans' HWa.out (Below.trans' hba.out hbb.out)⟩
    clear hmu
    have HAb:=jH (hra.out.er.1 he).1
    have hia:=(hra.out.er.1 he).2
    clear he
    have hbx:=Below.trans' hba.out hbb.out
    have HIb:=jH ((hia.below hbb.out).below ((Below.refl _ _).alloc (jR _) (.cells #[.pointer qb] 26)))
    have HHb:=jH ((HHa.out.below hbx).add #[.pointer qb] 26)
    have HWb:=jH (Below.trans' HWa.out (hbx.alloc hbx.size (.cells #[.pointer qb] 26)))
    have HDb:=jH (hbx.alloc hbx.size (.cells #[.pointer qb] 26))
    clear hba hra hia hbb hbx
    obtain⟨wR,hwR⟩:∃ wR,wR=wbb.alloc (.cells #[.pointer qb] 26):=⟨_,rfl⟩
    have HIRa:=jH (HIa.out.below HDb.out)
    have HDr7:=jH (Below.trans' (Below.trans' (Below.trans' HDi.out HDj.out) HDa.out) HDb.out)
    have HIRr:=jH (HIr'.out.below HDr7.out)
    have HIRm:=jH (HIm7.out.below HDr7.out)
    go_wp2_with fail
    rw[← hwR] at HHb HWb HIb HIRa HIRr HIRm ⊢
    clear hwR
    have HKx:Hid (∀ w10 w':World,Below wR.heap.size wR w10→(∀ g,g≠W.heap.size+1+1→w'.heap[g]? = w10.heap[g]?)→(w'.cell? ⟨wba.heap.size,0,none⟩=some (.pointer qa)∧w'.cell? ⟨wbb.heap.size,0,none⟩=some (.pointer qb))∧w'.cell? ⟨wt.heap.size,0,none⟩=some (.pointer xv)∧w'.cell? ⟨wbm.heap.size,0,none⟩=some (.pointer qm)):=fun w10 w' hb hg=>by
     have hh:=HHb.out.below hb
     have y3:=hh (W.heap.size+1+1,#[.pointer none,.pointer none,.pointer none],28) (by simp)
     have y1:=hh (wba.heap.size,#[.pointer qa],26) (by simp)
     have y2:=hh (wbb.heap.size,#[.pointer qb],26) (by simp)
     have y7:=hh (wt.heap.size,#[.pointer xv],26) (by simp)
     have y8:=hh (wbm.heap.size,#[.pointer qm],26) (by simp)
     dsimp only at y1 y2 y3 y7 y8
     refine⟨⟨?_,?_⟩,?_,?_⟩
     ·rw[jB ((hg _ (jI y1 y3 (by decide))).trans y1)];rfl
     ·rw[jB ((hg _ (jI y2 y3 (by decide))).trans y2)];rfl
     ·rw[jB ((hg _ (jI y7 y3 (by decide))).trans y7)];rfl
     ·rw[jB ((hg _ (jI y8 y3 (by decide))).trans y8)];rfl
    have hAdd:=yE (W:=wR.drew) (HIRa.out.below ((Below.refl _ _).drew)) (HIb.out.below ((Below.refl _ _).drew))
    go_region_held2 (fun w'=>(w'.cell? ⟨wba.heap.size,0,none⟩=some (.pointer qa)∧w'.cell? ⟨wbb.heap.size,0,none⟩=some (.pointer qb))∧w'.cell? ⟨wt.heap.size,0,none⟩=some (.pointer xv)∧w'.cell? ⟨wbm.heap.size,0,none⟩=some (.pointer qm))
     (first | exact HKx.out wR wR.drew (Below.refl _ _) (fun _ _=>rfl) | exact HKx.out w9 w9 HB9.out (fun _ _=>rfl) | exact HKx.out w10 w10 HB10.out (fun _ _=>rfl) | exact HKx.out w12 w12 HB12.out (fun _ _=>rfl) | exact HKx.out w12 _ HB12.out (fun g hg=>ji w12 hg _ _ _))
     (first
       | (go_at_call 101
          refine hAdd.mono ?_
          rintro e w9 ⟨q9,er,rfl,hb9,hr9⟩
          have HB9:=jH (Below.trans' (W:=wR) ((Below.refl _ _).drew) hb9.out)
          have HI9:=hr9
          have HMu9:=qV (W:=w9) q9 er
          clear hb9 hr9)
       | (go_at_call 89
          refine HMu9.mono ?_
          rintro e w10 ⟨⟨he9,rfl⟩ | ⟨he9,rfl⟩,hb10⟩
          rotate_left
          ·have hz:=HI9.out.er.2 he9
           rw[hz.2]
           refine And.intro rfl ?_
           exact Or.inr ⟨fun h=>hz.1 (h.mine HU.out HY.out).2.2.2.2.1,rfl,Below.trans' HWb.out (Below.trans' HB9.out hb10.out)⟩
          have HA9:=jH (HI9.out.er.1 he9).1
          have HB10:=jH (Below.trans' HB9.out hb10.out)
          have HPl:=yl (W:=w10) ((HI9.out.er.1 he9).2.below hb10.out) (HIRr.out.below HB10.out) (HIRm.out.below HB10.out)
          clear HMu9 hb10 he9)
       | (go_at_call 88
          refine HPl.mono ?_
          rintro e w12 (⟨hok12,pu,pv,pm,rfl,hie,hb12⟩ | ⟨hno,rfl,hb12⟩)
          rotate_left
          ·refine And.intro rfl ?_
           exact Or.inr ⟨fun h=>hno (h.mine HU.out HY.out).2.2.2.2.2,rfl,Below.trans' HWb.out (Below.trans' HB10.out hb12.out)⟩
          have HA12:=jH hok12
          clear hok12
          have HB12:=jH (Below.trans' HB10.out hb12.out)
          have HH12:=jH (HHb.out.below HB12.out)
          have d0:=HH12.out.cell (b:=W.heap.size+1+1) (c:=#[.pointer none,.pointer none,.pointer none]) (T:=28) (by simp) 0
          have d1:=HH12.out.cell (b:=W.heap.size+1+1) (c:=#[.pointer none,.pointer none,.pointer none]) (T:=28) (by simp) 1
          have d2:=HH12.out.cell (b:=W.heap.size+1+1) (c:=#[.pointer none,.pointer none,.pointer none]) (T:=28) (by simp) 2
          have Y3:=jH (HH12.out (W.heap.size+1+1,#[.pointer none,.pointer none,.pointer none],28) (by simp))
          have f0:=jF Y3.out 0
          have f1:=jF Y3.out 1
          have f2:=jF Y3.out 2
          clear HPl hb12))
    go_wp2_with fail
    refine bodyPost_ret (v:=.agg #[.pointer pu,.pointer pv,.pointer pm]) (by simp[results,Tryz.results56,go_sem,d0,d1,d2]) rfl ?_
    refine .inl ⟨⟨HAm.out,HAq.out,fun h=>absurd h HU.out,fun _ h=>absurd h HY.out,fun _ _=>⟨HAi.out,HAj.out,HAa.out,HAb.out,HA9.out,HA12.out⟩⟩,pu,pv,pm,rfl,?_,Below.set3 (Below.trans' HWb.out HB12.out) (by show W.heap.size≤W.heap.size+1+1; omega)⟩
    rw[HTE.out]
    exact IsE.store3 hie.out Y3.out
   ·have h03:¬ (isg (x.v - (y.v+x.m))<0):=isg_nn (by omega)
    have HR:Hid (rr x y=y.v+x.m):=by show _=_; unfold rr; rw[if_neg hlt]
    clear hlt
    go_wp2_with fail
    refine hCm.mono ?_
    rintro e wc ⟨rfl,hbc⟩
    clear hCm c1 c2 c3
    have HHv:=jH (HHr.out.below hbc.out)
    have HWv:=jH (Below.trans' HWr.out hbc.out)
    have HIq7:=jH ((HQt.out.below HDr.out).below hbc.out)
    have HIm7:=jH ((HMt.out.below HDr.out).below hbc.out)
    have HIr':Hid (IsN wc (.agg #[.pointer qq]) (rr x y)):=by show IsN _ _ _; rw[HR.out];exact HIq7.out
    have c1:=HHv.out.cell (b:=W.heap.size) (c:=#[.pointer xu,.pointer xv,.pointer xm]) (T:=28) (by simp) 1
    have c2:=HHv.out.cell (b:=wt.heap.size) (c:=#[.pointer qq]) (T:=26) (by simp) 0
    clear hbc
    go_wp2_with fail
    clear c1 c2
    obtain⟨w7,hw7⟩:∃ w7,w7=wc:=⟨_,rfl⟩
    rw[← hw7] at HHv HWv HIr' HIq7 HIm7 ⊢
    clear hw7
    have hSub1:=Sub_calls (W:=w7) (HXv.out.below HWv.out) HIr'.out
    refine hSub1.mono ?_
    rintro e wa ⟨qi,er,rfl,hba,hra⟩
    have hmu:=qV (W:=wa) qi er
    clear hSub1
    go_wp2_with fail
    refine hmu.mono ?_
    rintro e wbi ⟨⟨he,rfl⟩ | ⟨he,rfl⟩,hbb⟩
    rotate_left
    ·have hz:=hra.out.er.2 he
     rw[hz.2]
     refine And.intro rfl ?_
     exact Or.inr ⟨fun h=>hz.1 ((h.mine HU.out HY.out).1),rfl,Below.trans' HWv.out (Below.trans' hba.out hbb.out)⟩
    clear hmu
    have HAi:=jH (hra.out.er.1 he).1
    have hia:=(hra.out.er.1 he).2
    clear he
    have hbx:=Below.trans' hba.out hbb.out
    have HIi:=jH ((hia.below hbb.out).below ((Below.refl _ _).alloc (jR _) (.cells #[.pointer qi] 26)))
    have HHi:=jH ((HHv.out.below hbx).add #[.pointer qi] 26)
    have HWi:=jH (Below.trans' HWv.out (hbx.alloc hbx.size (.cells #[.pointer qi] 26)))
    have HDi:=jH (hbx.alloc hbx.size (.cells #[.pointer qi] 26))
    clear hba hra hia hbb hbx
    have c1:=HHi.out.cell (b:=wbq.heap.size) (c:=#[.pointer qq]) (T:=26) (by simp) 0
    have c2:=HHi.out.cell (b:=wt.heap.size) (c:=#[.pointer qq]) (T:=26) (by simp) 0
    have hSub2:=Sub_calls (W:=wbi.alloc (.cells #[.pointer qi] 26)) (HIq7.out.below HDi.out) (HIr'.out.below HDi.out)
    go_wp2_with fail
    clear c1 c2
    refine hSub2.mono ?_
    rintro e wa ⟨qj,er,rfl,hba,hra⟩
    have hmu:=qV (W:=wa) qj er
    clear hSub2
    go_wp2_with fail
    refine hmu.mono ?_
    rintro e wbj ⟨⟨he,rfl⟩ | ⟨he,rfl⟩,hbb⟩
    rotate_left
    ·have hz:=hra.out.er.2 he
     rw[hz.2]
     refine And.intro rfl ?_
     exact Or.inr ⟨fun h=>hz.1 ((h.mine HU.out HY.out).2.1),rfl,Below.trans' HWi.out (Below.trans' hba.out hbb.out)⟩
    clear hmu
    have HAj:=jH (hra.out.er.1 he).1
    have hia:=(hra.out.er.1 he).2
    clear he
    have hbx:=Below.trans' hba.out hbb.out
    have HIj:=jH ((hia.below hbb.out).below ((Below.refl _ _).alloc (jR _) (.cells #[.pointer qj] 26)))
    have HHj:=jH ((HHi.out.below hbx).add #[.pointer qj] 26)
    have HWj:=jH (Below.trans' HWi.out (hbx.alloc hbx.size (.cells #[.pointer qj] 26)))
    have HDj:=jH (hbx.alloc hbx.size (.cells #[.pointer qj] 26))
    clear hba hra hia hbb hbx
    have c1:=HHj.out.cell (b:=W.heap.size) (c:=#[.pointer xu,.pointer xv,.pointer xm]) (T:=28) (by simp) 0
    have c2:=HHj.out.cell (b:=wbi.heap.size) (c:=#[.pointer qi]) (T:=26) (by simp) 0
    have hSh1:=z6 (W:=wbj.alloc (.cells #[.pointer qj] 26)) (HXu.out.below HWj.out) (HIi.out.below HDj.out)
    go_wp2_with fail
    clear c1 c2
    refine hSh1.mono ?_
    rintro e wa ⟨qa,er,rfl,hba,hra0⟩
    have hra:Hid (NR wa (shx x.u (x.v - rr x y)) (.agg #[.pointer qa]) er):=by
     show NR _ _ _ _
     rcases hra0.out with h | h
     ·exact h.2
     ·exact absurd (zM ((rr_le x y).1)) h.1
    have hmu:=qV (W:=wa) qa er
    clear hSh1 hra0
    go_wp2_with fail
    refine hmu.mono ?_
    rintro e wba ⟨⟨he,rfl⟩ | ⟨he,rfl⟩,hbb⟩
    rotate_left
    ·have hz:=hra.out.er.2 he
     rw[hz.2]
     refine And.intro rfl ?_
     exact Or.inr ⟨fun h=>hz.1 ((h.mine HU.out HY.out).2.2.1),rfl,Below.trans' HWj.out (Below.trans' hba.out hbb.out)⟩
    clear hmu
    have HAa:=jH (hra.out.er.1 he).1
    have hia:=(hra.out.er.1 he).2
    clear he
    have hbx:=Below.trans' hba.out hbb.out
    have HIa:=jH ((hia.below hbb.out).below ((Below.refl _ _).alloc (jR _) (.cells #[.pointer qa] 26)))
    have HHa:=jH ((HHj.out.below hbx).add #[.pointer qa] 26)
    have HWa:=jH (Below.trans' HWj.out (hbx.alloc hbx.size (.cells #[.pointer qa] 26)))
    have HDa:=jH (hbx.alloc hbx.size (.cells #[.pointer qa] 26))
    clear hba hra hia hbb hbx
    have c1:=HHa.out.cell (b:=W.heap.size+1) (c:=#[.pointer yu,.pointer yv,.pointer ym]) (T:=28) (by simp) 0
    have c2:=HHa.out.cell (b:=wbj.heap.size) (c:=#[.pointer qj]) (T:=26) (by simp) 0
    have hSh2:=z6 (W:=wba.alloc (.cells #[.pointer qa] 26)) (HYu.out.below HWa.out) (HIj.out.below HDa.out)
    go_wp2_with fail
    clear c1 c2
    refine hSh2.mono ?_
    rintro e wa ⟨qb,er,rfl,hba,hra0⟩
    have hra:Hid (NR wa (shx y.u (y.v+x.m - rr x y)) (.agg #[.pointer qb]) er):=by
     show NR _ _ _ _
     rcases hra0.out with h | h
     ·exact h.2
     ·exact absurd (zM ((rr_le x y).2)) h.1
    have hmu:=qV (W:=wa) qb er
    clear hSh2 hra0
    go_wp2_with fail
    refine hmu.mono ?_
    rintro e wbb ⟨⟨he,rfl⟩ | ⟨he,rfl⟩,hbb⟩
    rotate_left
    ·have hz:=hra.out.er.2 he
     rw[hz.2]
     refine And.intro rfl ?_
     exact Or.inr ⟨fun h=>hz.1 ((h.mine HU.out HY.out).2.2.2.1),rfl,Below.trans' HWa.out (Below.trans' hba.out hbb.out)⟩
    clear hmu
    have HAb:=jH (hra.out.er.1 he).1
    have hia:=(hra.out.er.1 he).2
    clear he
    have hbx:=Below.trans' hba.out hbb.out
    have HIb:=jH ((hia.below hbb.out).below ((Below.refl _ _).alloc (jR _) (.cells #[.pointer qb] 26)))
    have HHb:=jH ((HHa.out.below hbx).add #[.pointer qb] 26)
    have HWb:=jH (Below.trans' HWa.out (hbx.alloc hbx.size (.cells #[.pointer qb] 26)))
    have HDb:=jH (hbx.alloc hbx.size (.cells #[.pointer qb] 26))
    clear hba hra hia hbb hbx
    obtain⟨wR,hwR⟩:∃ wR,wR=wbb.alloc (.cells #[.pointer qb] 26):=⟨_,rfl⟩
    have HIRa:=jH (HIa.out.below HDb.out)
    have HDr7:=jH (Below.trans' (Below.trans' (Below.trans' HDi.out HDj.out) HDa.out) HDb.out)
    have HIRr:=jH (HIr'.out.below HDr7.out)
    have HIRm:=jH (HIm7.out.below HDr7.out)
    go_wp2_with fail
    rw[← hwR] at HHb HWb HIb HIRa HIRr HIRm ⊢
    clear hwR
    have HKx:Hid (∀ w10 w':World,Below wR.heap.size wR w10→(∀ g,g≠W.heap.size+1+1→w'.heap[g]? = w10.heap[g]?)→(w'.cell? ⟨wba.heap.size,0,none⟩=some (.pointer qa)∧w'.cell? ⟨wbb.heap.size,0,none⟩=some (.pointer qb))∧w'.cell? ⟨wt.heap.size,0,none⟩=some (.pointer qq)∧w'.cell? ⟨wbm.heap.size,0,none⟩=some (.pointer qm)):=fun w10 w' hb hg=>by
     have hh:=HHb.out.below hb
     have y3:=hh (W.heap.size+1+1,#[.pointer none,.pointer none,.pointer none],28) (by simp)
     have y1:=hh (wba.heap.size,#[.pointer qa],26) (by simp)
     have y2:=hh (wbb.heap.size,#[.pointer qb],26) (by simp)
     have y7:=hh (wt.heap.size,#[.pointer qq],26) (by simp)
     have y8:=hh (wbm.heap.size,#[.pointer qm],26) (by simp)
     dsimp only at y1 y2 y3 y7 y8
     refine⟨⟨?_,?_⟩,?_,?_⟩
     ·rw[jB ((hg _ (jI y1 y3 (by decide))).trans y1)];rfl
     ·rw[jB ((hg _ (jI y2 y3 (by decide))).trans y2)];rfl
     ·rw[jB ((hg _ (jI y7 y3 (by decide))).trans y7)];rfl
     ·rw[jB ((hg _ (jI y8 y3 (by decide))).trans y8)];rfl
    have hAdd:=yE (W:=wR.drew) (HIRa.out.below ((Below.refl _ _).drew)) (HIb.out.below ((Below.refl _ _).drew))
    go_region_held2 (fun w'=>(w'.cell? ⟨wba.heap.size,0,none⟩=some (.pointer qa)∧w'.cell? ⟨wbb.heap.size,0,none⟩=some (.pointer qb))∧w'.cell? ⟨wt.heap.size,0,none⟩=some (.pointer qq)∧w'.cell? ⟨wbm.heap.size,0,none⟩=some (.pointer qm))
     (first | exact HKx.out wR wR.drew (Below.refl _ _) (fun _ _=>rfl) | exact HKx.out w9 w9 HB9.out (fun _ _=>rfl) | exact HKx.out w10 w10 HB10.out (fun _ _=>rfl) | exact HKx.out w12 w12 HB12.out (fun _ _=>rfl) | exact HKx.out w12 _ HB12.out (fun g hg=>ji w12 hg _ _ _))
     (first
       | (go_at_call 101
          refine hAdd.mono ?_
          rintro e w9 ⟨q9,er,rfl,hb9,hr9⟩
          have HB9:=jH (Below.trans' (W:=wR) ((Below.refl _ _).drew) hb9.out)
          have HI9:=hr9
          have HMu9:=qV (W:=w9) q9 er
          clear hb9 hr9)
       | (go_at_call 89
          refine HMu9.mono ?_
          rintro e w10 ⟨⟨he9,rfl⟩ | ⟨he9,rfl⟩,hb10⟩
          rotate_left
          ·have hz:=HI9.out.er.2 he9
           rw[hz.2]
           refine And.intro rfl ?_
           exact Or.inr ⟨fun h=>hz.1 (h.mine HU.out HY.out).2.2.2.2.1,rfl,Below.trans' HWb.out (Below.trans' HB9.out hb10.out)⟩
          have HA9:=jH (HI9.out.er.1 he9).1
          have HB10:=jH (Below.trans' HB9.out hb10.out)
          have HPl:=yl (W:=w10) ((HI9.out.er.1 he9).2.below hb10.out) (HIRr.out.below HB10.out) (HIRm.out.below HB10.out)
          clear HMu9 hb10 he9)
       | (go_at_call 88
          refine HPl.mono ?_
          rintro e w12 (⟨hok12,pu,pv,pm,rfl,hie,hb12⟩ | ⟨hno,rfl,hb12⟩)
          rotate_left
          ·refine And.intro rfl ?_
           exact Or.inr ⟨fun h=>hno (h.mine HU.out HY.out).2.2.2.2.2,rfl,Below.trans' HWb.out (Below.trans' HB10.out hb12.out)⟩
          have HA12:=jH hok12
          clear hok12
          have HB12:=jH (Below.trans' HB10.out hb12.out)
          have HH12:=jH (HHb.out.below HB12.out)
          have d0:=HH12.out.cell (b:=W.heap.size+1+1) (c:=#[.pointer none,.pointer none,.pointer none]) (T:=28) (by simp) 0
          have d1:=HH12.out.cell (b:=W.heap.size+1+1) (c:=#[.pointer none,.pointer none,.pointer none]) (T:=28) (by simp) 1
          have d2:=HH12.out.cell (b:=W.heap.size+1+1) (c:=#[.pointer none,.pointer none,.pointer none]) (T:=28) (by simp) 2
          have Y3:=jH (HH12.out (W.heap.size+1+1,#[.pointer none,.pointer none,.pointer none],28) (by simp))
          have f0:=jF Y3.out 0
          have f1:=jF Y3.out 1
          have f2:=jF Y3.out 2
          clear HPl hb12))
    go_wp2_with fail
    refine bodyPost_ret (v:=.agg #[.pointer pu,.pointer pv,.pointer pm]) (by simp[results,Tryz.results56,go_sem,d0,d1,d2]) rfl ?_
    refine .inl ⟨⟨HAm.out,HAq.out,fun h=>absurd h HU.out,fun _ h=>absurd h HY.out,fun _ _=>⟨HAi.out,HAj.out,HAa.out,HAb.out,HA9.out,HA12.out⟩⟩,pu,pv,pm,rfl,?_,Below.set3 (Below.trans' HWb.out HB12.out) (by show W.heap.size≤W.heap.size+1+1; omega)⟩
    rw[HTE.out]
    exact IsE.store3 hie.out Y3.out
theorem times_calls {W:World}{V1 V2:Value}{x y:E3}(h1:IsE W V1 x)(h2:IsE W V2 y)(hok:TimesOK x y): Calls Tryz.prog 56 #[V1,V2] W (PQ (timesE x y) W) :=
 (zp h1 h2).mono fun _ _ h=>h.elim (fun h=>h.2) (fun h=>absurd hok h.1)
end
end Sr
namespace Sr
theorem two_ne:(2:Rat)≠0:=by decide
def tp (n:Int): Rat:=(2:Rat) ^ n
theorem yc (a b:Int): tp (a+b)=tp a*tp b:=Rat.zpow_add two_ne a b
theorem qW:tp 0=1:=Rat.zpow_zero 2
theorem tp_pos (a:Int): 0<tp a:=Rat.zpow_pos (by decide)
theorem tp_ne (a:Int): tp a≠0:=fun h=>by have:=tp_pos a; rw[h] at this; exact absurd this (by decide)
theorem tp_one:tp 1=2:=Rat.zpow_one 2
theorem tp_nat (n:Nat): tp n=(((2:Int) ^ n:Int):Rat):=by
 unfold tp; rw[Rat.zpow_natCast,Rat.intCast_pow];rfl
theorem tp_inv (a:Int): tp a*tp (-a)=1:=by rw[← yc,Int.add_right_neg,qW]
def tq (x:E3): Rat:=(x.u:Rat)*tp x.v
def Plain (x:E3): Prop:=(x.u=0∧x.v=0)∨x.u % 2=1
theorem shx_tp {x y:Int}(h:shOK x y): ((shx x y:Int):Rat)=(x:Rat)*tp y:=by
 rcases Int.lt_or_le y 0 with hy | hy
 ·obtain⟨k,rfl⟩:∃ k:Nat,y = -(k:Int):=⟨(-y).toNat,by omega⟩
  have h1:=shx_neg h
  have h2:((shx x (-(k:Int)):Int):Rat)*tp (k:Int)=(x:Rat):=by
   rw[tp_nat,← Rat.intCast_mul,h1]
  rw[← h2,Rat.mul_assoc,tp_inv,Rat.mul_one]
 ·obtain⟨k,rfl⟩:∃ k:Nat,y=(k:Int):=⟨y.toNat,by omega⟩
  rw[shx_nat,Rat.intCast_mul,tp_nat]
theorem tv_even {b:Bool}{e:Nat}(h:0<e): tv (b,e) % 2=0:=by
 obtain⟨k,rfl⟩:∃ k,e=k+1:=⟨e - 1,by omega⟩
 have h2:(2:Int) ^ (k+1)=2*2 ^ k:=Int.pow_succ' _ _
 cases b <;>simp only[tv] <;>omega
theorem lv_odd:∀ {l:List Tm},l≠[]→Naf l→(l.map (·.2)).getLastD 0=0→lv l % 2=1
 | [],h,_,_=>absurd rfl h
 | [t],_,_,h=>by
   obtain⟨b,e⟩:=t
   simp at h
   subst h
   cases b <;>simp[lv,tv]
 | t::s::l,_,hn,h=>by
   have e1:((t::s::l).map (·.2)).getLastD 0=((s::l).map (·.2)).getLastD 0:=by simp[List.getLastD]
   rw[e1] at h
   obtain⟨h1,h2⟩:=List.pairwise_cons.1 hn
   have h3:=lv_odd (by simp) h2 h
   have h4:=h1 s (by simp)
   have h6:tv t % 2=0:=tv_even (b:=t.1) (e:=t.2) (by omega)
   simp only[lv] at h3 ⊢;omega
theorem getLastD_map {f:Nat→Nat}: ∀ {l:List Nat},l≠[]→(l.map f).getLastD 0=f (l.getLastD 0)
 | [],h=>absurd rfl h
 | [a],_=>rfl
 | a::b::l,_=>by
   have h1:=getLastD_map (f:=f) (l:=b::l) (by simp)
   have e1:(a::b::l).getLastD 0=(b::l).getLastD 0:=by simp[List.getLastD]
   have e2:((a::b::l).map f).getLastD 0=((b::l).map f).getLastD 0:=by simp[List.getLastD]
   rw[e2,h1,e1]
theorem shx_odd {u:Int}(h:u≠0): shx u (-(lowE u:Int)) % 2=1:=by
 have hne:form u≠[]:=fun h0=>h (by have:=jc u; rw[h0] at this; exact this.symm)
 have hf:=yP (zo (u:=u))
 refine lv_odd (l:=shl u (-(lowE u:Int))) (fun h0=>hne (by unfold shl at h0; exact List.map_eq_nil_iff.1 h0)) (shl_naf zo) ?_
 have e:(shl u (-(lowE u:Int))).map (·.2)=(exps u).map fun (e:Nat)=>((e:Int)+-(lowE u:Int)).toNat:=by
  unfold shl exps; rw[List.map_map,List.map_map];rfl
 rw[e,getLastD_map (f:=fun (e:Nat)=>((e:Int)+-(lowE u:Int)).toNat) (fun h0=>hne (by unfold exps at h0; exact List.map_eq_nil_iff.1 h0))]
 have:(exps u).getLastD 0=lowE u:=rfl
 rw[this];omega
theorem plainE_m (u v m:Int): (plainE u v m).m=m:=by unfold plainE; split <;>rfl
theorem yB (u v m:Int): Plain (plainE u v m):=by
 unfold plainE; split
 ·exact .inl ⟨rfl,rfl⟩
 ·rename_i h; exact .inr (shx_odd h)
theorem yn (u v m:Int): tq (plainE u v m)=(u:Rat)*tp v:=by
 unfold plainE tq; split
 ·rename_i h; subst h; simp
 ·dsimp only
  rw[shx_tp zo,yc,Rat.mul_assoc,Rat.mul_comm (tp v),← Rat.mul_assoc (tp _),Rat.mul_comm (tp _) (tp _),tp_inv,Rat.one_mul]
theorem zw (x y:E3): (timesE x y).m=x.m+y.m:=by
 unfold timesE; split
 ·exact plainE_m _ _ _
 ·split <;>exact plainE_m _ _ _
theorem qH (x y:E3): Plain (timesE x y):=by
 unfold timesE; split
 ·exact yB _ _ _
 ·split <;>exact yB _ _ _
theorem yH (x y:E3): tq (timesE x y)=tq x+tp x.m*tq y:=by
 have h0:∀ z:E3,z.u=0→tq z=0:=fun z hz=>by unfold tq; rw[hz];simp
 have hy:(y.u:Rat)*tp (y.v+x.m)=tp x.m*tq y:=by
  unfold tq; rw[yc];grind
 unfold timesE; split
 ·rename_i h; rw[yn,h0 x h,hy];grind
 ·split
  ·rename_i h; rw[yn,h0 y h];unfold tq; grind
  ·have hr:=rr_le x y
   rw[yn,Rat.intCast_add,shx_tp (zM hr.1),shx_tp (zM hr.2)]
   have e1:tp (x.v - rr x y)*tp (rr x y)=tp x.v:=by rw[← yc];congr 1; omega
   have e2:tp (y.v+x.m - rr x y)*tp (rr x y)=tp (y.v+x.m):=by rw[← yc];congr 1; omega
   rw[← hy,← e2]
   unfold tq
   rw[← e1];grind
theorem yI {x y:E3}(hx:Plain x)(hy:Plain y)(hm:x.m=y.m)(ht:tq x=tq y): x=y:=by
 obtain⟨u,v,m⟩:=x
 obtain⟨u',v',m'⟩:=y
 dsimp only at hm
 subst hm
 have key:∀ {u v u' v':Int},v≤v'→(u:Rat)*tp v=(u':Rat)*tp v'→u=u'*2 ^ (v' - v).toNat:=fun {u v u' v'} hv h=>by
  have e1:tp v'=tp ((v' - v).toNat:Int)*tp v:=by rw[← yc];congr 1; omega
  rw[e1,← Rat.mul_assoc,tp_nat,← Rat.intCast_mul] at h
  have h2:((u:Int):Rat)=((u'*2 ^ (v' - v).toNat:Int):Rat):=by
   have:=congrArg (·*tp (-v)) h
   simp only[Rat.mul_assoc,tp_inv,Rat.mul_one] at this
   exact this
  exact Rat.intCast_inj.1 h2
 have odd:∀ {u v u' v':Int},u % 2=1→v≤v'→u=u'*2 ^ (v' - v).toNat→v'=v:=fun {u v u' v'} ho hv h=>by
  rcases Nat.eq_zero_or_pos (v' - v).toNat with h0 | h0
  ·omega
  ·obtain⟨k,hk⟩:∃ k,(v' - v).toNat=k+1:=⟨(v' - v).toNat - 1,by omega⟩
   rw[hk,Int.pow_succ,← Int.mul_assoc] at h
   omega
 unfold tq at ht
 dsimp only at ht
 unfold Plain at hx hy
 dsimp only at hx hy
 have z0:∀ {u v:Int},(u:Rat)*tp v=0→u=0:=fun {u v} h=>by
  rcases Rat.mul_eq_zero.1 h with h | h
  ·exact Rat.intCast_eq_zero_iff.1 h
  ·exact absurd h (tp_ne v)
 rcases hx with ⟨hu,hv⟩ | hu <;>rcases hy with ⟨hu',hv'⟩ | hu'
 ·subst hu hv hu' hv'; rfl
 ·subst hu; simp at ht
  have:=z0 ht.symm; omega
 ·subst hu'; simp at ht
  have:=z0 ht; omega
 ·rcases Int.le_total v v' with h | h
  ·have h1:=key h ht
   have h2:=odd hu h h1
   subst h2
   simp at h1
   subst h1; rfl
  ·have h1:=key h ht.symm
   have h2:=odd hu' h h1
   subst h2
   simp at h1
   subst h1; rfl
theorem timesE_assoc (x y z:E3): timesE (timesE x y) z=timesE x (timesE y z):=by
 refine yI (qH _ _) (qH _ _) ?_ ?_
 ·simp only[zw];omega
 ·simp only[yH,zw,yc];grind
theorem timesE_one {x:E3}(h:Plain x): timesE x ⟨0,0,0⟩=x:=by
 refine yI (qH _ _) h ?_ ?_
 ·simp[zw]
 ·rw[yH];simp[tq,Rat.add_zero]
end Sr
namespace Sr
open Go Go.Proofs Go.RowKit Go.Maps Go.WideMaps
theorem catch_idle (p:Addr)(w:World):
 CallsD Tryz.prog 92 #[.pointer (some p)] .returning w fun e u' w'=>e=.returned (.tuple #[])∧u'=.returning∧w'=w:=by
 have hta:∀ w,(Instr.typeAssert .nilIface 20 29 true).run Tryz.prog w=.ok (.tuple #[.int .i64 0,.bool false]) w:=fun w=>by kernel_rfl
 refine callsD_of_wpS Tryz.func92 rfl fun c₀ cs hu=>?_
 apply wpS_seq
 apply wpS_region
 simp[wpOpsS,go_sem,recoverD,hu,Tryz.ntmps92,Exit.thenS]
 refine wpS_of_wp ?_
 simp only[Array.replicate_succ,Array.replicate_zero]
 simp
 go_wp2_with fail
 cases c₀
 simp_all [bodyPostS,results,Tryz.results92]
theorem guarded_ok {W:World}{k:FuncId}{caps:Array Value}{R:World→Prop}(eg:∀ args w,(callFunc k args).run Tryz.prog w=.ok (.enter k args) w) 
 (h:Calls Tryz.prog k caps (W.alloc (.cells #[.int .i64 0] 29)) fun e W'=>e=.returned (.tuple #[])∧Hid (W'.heap[W.heap.size]? = some (.cells #[.int .i64 0] 29 (0,0)))∧Hid (R W')) :
 Calls Tryz.prog 45 #[.func (.func k) #[] caps] W fun e W'=>e=.returned (.int .i64 0)∧∃ W1,Hid (R W1)∧Hid (W1.heap[W.heap.size]? = some (.cells #[.int .i64 0] 29 (0,0)))∧W'=W1.setCell ⟨W.heap.size,0,none⟩ (.int .i64 0):=by
 have hmf:∀ (fn:Fn) (first cap:Array Value) (w:World),(Instr.makeFunc fn first cap).run Tryz.prog w=.ok (.func fn first cap) w:=fun _ _ _ _=>rfl
 go_enter_defers Tryz.func45,Tryz.ntmps45
 go_wp2_with fail
 refine h.mono ?_
 rintro e w1 ⟨rfl,hx,hr⟩
 have c1:w1.cell? ⟨W.heap.size,0,none⟩=some (.int .i64 0):=by rw[jB hx.out];rfl
 have f1:w1.frozen? ⟨W.heap.size,0,none⟩=false:=jF hx.out 0
 clear h
 go_wp2_with fail
 refine leaves_cons (f:=92) (args:=#[.pointer (some ⟨W.heap.size,0,none⟩)]) (by simp) (by simp[go_sem]) ?_
 refine (catch_idle ⟨W.heap.size,0,none⟩ _).mono ?_
 rintro e u' w'' ⟨rfl,rfl,rfl⟩
 have hb:=(jA hx.out).1
 have c2:(w1.setCell ⟨W.heap.size,0,none⟩ (.int .i64 0)).cell? ⟨W.heap.size,0,none⟩=some (.int .i64 0):=by rw[jB (heap_setCell_same w1 W.heap.size 0 _ 29 (.int .i64 0) hx.out) 0];rfl
 simp[Leaves,settle,results,Tryz.results45,go_sem]
 exact⟨_,by rw[c2],rfl,w1,hr,hx,rfl⟩
theorem eg55 (args:Array Value)(w:World): (callFunc 55 args).run Tryz.prog w=.ok (.enter 55 args) w:=by kernel_rfl
theorem z7 {w:World}{b:Nat}{x y z p q r:Value}{T:TypeId}(h:w.heap[b]? = some (.cells #[x,y,z] T (0,0))): (set3 w b p q r).heap[b]? = some (.cells #[p,q,r] T (0,0)):=by
 have h1:=heap_setCell_same w b 0 _ T p h
 have h2:=heap_setCell_same _ b 1 _ T q h1
 have h3:=heap_setCell_same _ b 2 _ T r h2
 exact h3
def Mul1Q (z:E3)(bo:Nat)(W W':World): Prop:=∃ w6 pu pv pm,IsE w6 (.agg #[.pointer pu,.pointer pv,.pointer pm]) z∧Below W.heap.size W w6∧W'=set3 w6 bo (.pointer pu) (.pointer pv) (.pointer pm)
theorem mul1_calls {W:World}{x y:E3}{xu xv xm yu yv ym o0 o1 o2:Option Addr}{bx by' bo:Nat} 
 (H:Hid (Has W [(bo,#[.pointer o0,.pointer o1,.pointer o2],28),(by',#[.pointer yu,.pointer yv,.pointer ym],28),(bx,#[.pointer xu,.pointer xv,.pointer xm],28)]))
 (hx:Hid (IsE W (.agg #[.pointer xu,.pointer xv,.pointer xm]) x)) (hy:Hid (IsE W (.agg #[.pointer yu,.pointer yv,.pointer ym]) y)) (hok:Hid (TimesOK x y)) :
 Calls Tryz.prog 55 #[.pointer (some ⟨bx,0,none⟩),.pointer (some ⟨by',0,none⟩),.pointer (some ⟨bo,0,none⟩)] W fun e W'=>e=.returned (.tuple #[])∧Hid (Mul1Q (timesE x y) bo W W'):=by
 have a0:=H.out.cell (b:=bx) (c:=#[.pointer xu,.pointer xv,.pointer xm]) (T:=28) (by simp) 0
 have a1:=H.out.cell (b:=bx) (c:=#[.pointer xu,.pointer xv,.pointer xm]) (T:=28) (by simp) 1
 have a2:=H.out.cell (b:=bx) (c:=#[.pointer xu,.pointer xv,.pointer xm]) (T:=28) (by simp) 2
 have b0:=H.out.cell (b:=by') (c:=#[.pointer yu,.pointer yv,.pointer ym]) (T:=28) (by simp) 0
 have b1:=H.out.cell (b:=by') (c:=#[.pointer yu,.pointer yv,.pointer ym]) (T:=28) (by simp) 1
 have b2:=H.out.cell (b:=by') (c:=#[.pointer yu,.pointer yv,.pointer ym]) (T:=28) (by simp) 2
 have hT:=times_calls hx.out hy.out hok.out
 go_enter Tryz.func55,Tryz.ntmps55
 go_wp2_with fail
 refine hT.mono ?_
 rintro e w6 ⟨pu,pv,pm,rfl,hie,hb6⟩
 have Y3:=jH (H.out.below hb6.out (bo,#[.pointer o0,.pointer o1,.pointer o2],28) (by simp))
 have d0:=jB Y3.out 0
 have d1:=jB Y3.out 1
 have d2:=jB Y3.out 2
 have f0:=jF Y3.out 0
 have f1:=jF Y3.out 1
 have f2:=jF Y3.out 2
 clear hT a0 a1 a2 b0 b1 b2
 go_wp2_with fail
 go_end0
 exact⟨rfl,w6,pu,pv,pm,hie.out,hb6.out,rfl⟩
def MulR (z:E3)(W:World)(b:Nat)(w:World): Prop:=∃ pu pv pm,IsE w (.agg #[.pointer pu,.pointer pv,.pointer pm]) z∧Below W.heap.size W w∧w.heap[b+3]? = some (.cells #[.pointer pu,.pointer pv,.pointer pm] 28 (0,0))∧w.heap[b+2]? = some (.cells #[.pointer none,.pointer none,.pointer none] 28 (0,0))
theorem Mul_calls {W:World}{V1 V2:Value}{x y:E3}(h1:IsE W V1 x)(h2:IsE W V2 y)(hok:TimesOK x y):
 Calls Tryz.prog 21 #[V1,V2] W fun e W'=>∃ qu qv qm,e=.returned (.tuple #[.agg #[.pointer qu,.pointer qv,.pointer qm],.int .i64 0])∧Hid (IsE W' (.agg #[.pointer qu,.pointer qv,.pointer qm]) (timesE x y))∧Hid (Below W.heap.size W W'):=by
 have HX:=jH h1
 have HY:=jH h2
 obtain⟨xu,xv,xm,rfl,-⟩:=h1
 obtain⟨yu,yv,ym,rfl,-⟩:=h2
 have HOK:=jH hok
 clear hok
 obtain⟨W4,hW4⟩:∃ W4,W4=(((W.alloc (.cells #[.pointer xu,.pointer xv,.pointer xm] 28)).alloc (.cells #[.pointer yu,.pointer yv,.pointer ym] 28)).alloc (.cells #[.pointer none,.pointer none,.pointer none] 28)).alloc (.cells #[.pointer none,.pointer none,.pointer none] 28):=⟨_,rfl⟩
 have HW4:=jH hW4
 have HB4:Hid (Below W.heap.size W W4):=by show Below _ _ _; rw[hW4];exact ((((Below.refl _ _).alloc (jR _) _).alloc (by simp) _).alloc (by simp; omega) _).alloc (by simp; omega) _
 have HH4:Hid (Has W4 [(W.heap.size+3,#[.pointer none,.pointer none,.pointer none],28),(W.heap.size+2,#[.pointer none,.pointer none,.pointer none],28),(W.heap.size+1,#[.pointer yu,.pointer yv,.pointer ym],28),(W.heap.size,#[.pointer xu,.pointer xv,.pointer xm],28)]):=by
  show Has _ _
  have h:=(((Has.add (l:=[]) (fun p hp=>by simp at hp) #[.pointer xu,.pointer xv,.pointer xm] 28:Has (W.alloc _) _).add #[.pointer yu,.pointer yv,.pointer ym] 28).add #[.pointer none,.pointer none,.pointer none] 28).add #[.pointer none,.pointer none,.pointer none] 28
  rw[jY,jY,jY] at h
  rw[hW4];exact h
 have hz:Hid (W4.heap.size=W.heap.size+4):=by show _=_; rw[hW4];simp
 clear hW4
 have HB5:Hid (Below W4.heap.size W4 (W4.alloc (.cells #[.int .i64 0] 29))):=(Below.refl _ _).alloc (jR _) _
 have HH5:=jH (HH4.out.below HB5.out)
 have hC:=mul1_calls (W:=W4.alloc (.cells #[.int .i64 0] 29)) (o0:=none) (o1:=none) (o2:=none) (bx:=W.heap.size) (by':=W.heap.size+1) (bo:=W.heap.size+3) (x:=x) (y:=y) (fun p hp=>HH5.out p (by
  simp only[List.mem_cons,List.not_mem_nil,or_false] at hp ⊢
  rcases hp with rfl | rfl | rfl <;>simp)) ((HX.out.below HB4.out).below HB5.out) ((HY.out.below HB4.out).below HB5.out) HOK
 have hG:=guarded_ok (R:=MulR (timesE x y) W W.heap.size) eg55 (hC.mono fun e w h=>by
  obtain⟨rfl,w6,pu,pv,pm,hie,hb6,rfl⟩:=h
  have h5:=HH5.out.below hb6
  have y3:=h5 (W.heap.size+3,#[.pointer none,.pointer none,.pointer none],28) (by simp)
  have y2:=h5 (W.heap.size+2,#[.pointer none,.pointer none,.pointer none],28) (by simp)
  dsimp only at y2 y3
  refine⟨rfl,?_,pu,pv,pm,IsE.store3 hie y3,Below.set3 (Below.trans' HB4.out (Below.trans' HB5.out hb6)) (by show W.heap.size≤W.heap.size+3; omega),z7 y3,?_⟩
  ·show _=_
   rw[ji _ (by have:=hz.out; omega)]
   exact Below.here hb6 (jD W4 _)
  ·rw[ji _ (by omega)];exact y2)
 clear hC
 go_enter Tryz.func21,Tryz.ntmps21
 go_wp2_with fail
 rw[show (((W.alloc (.cells #[.pointer xu,.pointer xv,.pointer xm] 28)).alloc (.cells #[.pointer yu,.pointer yv,.pointer ym] 28)).alloc (.cells #[.pointer none,.pointer none,.pointer none] 28)).alloc (.cells #[.pointer none,.pointer none,.pointer none] 28)=W4 from HW4.out.symm]
 refine hG.mono ?_
 rintro e w ⟨rfl,W1,hR,h29,he⟩
 obtain⟨pu,pv,pm,hie,hb,y3,y2⟩:=hR.out
 have hzz:=hz.out
 have HE:Hid (IsE w (.agg #[.pointer pu,.pointer pv,.pointer pm]) (timesE x y)):=by
  show IsE _ _ _
  obtain⟨_,_,_,k0,k1,k2,k3⟩:=hie
  rw[he]
  exact⟨_,_,_,k0,k1.setCell h29.out (by decide) _,k2.setCell h29.out (by decide) _,k3.setCell h29.out (by decide) _⟩
 have HB:Hid (Below W.heap.size W w):=by show Below _ _ _; rw[he];exact hb.setCell (by show W.heap.size≤W4.heap.size; omega) _
 have Y3:Hid (w.heap[W.heap.size+1+1+1]? = some (.cells #[.pointer pu,.pointer pv,.pointer pm] 28 (0,0))):=by
  show _=_; rw[he];exact (jS _ _ _ _ (by show _≠W4.heap.size; omega)).trans y3
 have Y2:Hid (w.heap[W.heap.size+1+1]? = some (.cells #[.pointer none,.pointer none,.pointer none] 28 (0,0))):=by
  show _=_; rw[he];exact (jS _ _ _ _ (by show _≠W4.heap.size; omega)).trans y2
 clear hR hie hb y3 y2 he hzz hG h29
 have d0:=jB Y3.out 0
 have d1:=jB Y3.out 1
 have d2:=jB Y3.out 2
 have e0:=jB Y2.out 0
 have e1:=jB Y2.out 1
 have e2:=jB Y2.out 2
 have f0:=jF Y2.out 0
 have f1:=jF Y2.out 1
 have f2:=jF Y2.out 2
 go_wp2_with fail
 refine bodyPost_ret (v:=.tuple #[.agg #[.pointer pu,.pointer pv,.pointer pm],.int .i64 0]) (by simp[results,Tryz.results21,go_sem,e0,e1,e2]) rfl ?_
 exact⟨pu,pv,pm,rfl,IsE.store3 HE.out Y2.out,Below.set3 HB.out (by show W.heap.size≤W.heap.size+1+1; omega)⟩
end Sr
