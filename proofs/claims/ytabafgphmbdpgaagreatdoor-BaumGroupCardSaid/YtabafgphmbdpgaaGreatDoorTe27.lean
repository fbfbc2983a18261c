/- Texts of this claim, joined: Tr3, Tr4, Chk, Ck, RepP. -/
import Derived.Test.YtabafgphmbdpgaaGreatDoorTe1
import Derived.Test.YtabafgphmbdpgaaGreatDoorTe26
set_option maxHeartbeats 8000000
set_option maxRecDepth 100000
namespace Sr
open Go Go.Proofs Go.RowKit Go.Maps Go.WideMaps
section
theorem eg93 (args:Array Value)(w:World): (callFunc 93 args).run Tryz.prog w=.ok (.enter 93 args) w:=by kernel_rfl
theorem eg46 (args:Array Value)(w:World): (callFunc 46 args).run Tryz.prog w=.ok (.enter 46 args) w:=by kernel_rfl
def IsQ (r:Option RedR)(W:World)(e:Ending)(W':World): Prop :=
 Hid (Below W.heap.size W W')∧((∃ st o G,r=some (st,o,G)∧e=.returned (.tuple #[.bool (unitE o G),.int .i64 0]))∨(r=none∧e=.returned (.tuple #[.bool false,.int .i64 5])))
variable {s:ByteArray}
theorem is_any {W:World}(hs:s.size≤1000): Calls Tryz.prog 51 #[.string s] W (IsQ (traceE s.data.toList) W):=by
 obtain⟨W2,hW2⟩:∃ W2,W2=(W.alloc (.cells #[.string s] 9)).alloc (.cells #[.bool false] 4):=⟨_,rfl⟩
 have HW2:=jH hW2
 have HB2:Hid (Below W.heap.size W W2):=by show Below _ _ _; rw[hW2];exact ((Below.refl _ _).alloc (jR _) _).alloc (by simp) _
 have HH:Hid (Has W2 [(W.heap.size,#[.string s],9),(W.heap.size+1,#[.bool false],4)]):=by
  show Has _ _
  have h:=((Has.nil W).add #[.string s] 9).add #[.bool false] 4
  rw[jY] at h
  rw[hW2];exact fun p hp=>h p (by simp at hp ⊢;rcases hp with rfl | rfl <;>simp)
 have hz2:Hid (W2.heap.size=W.heap.size+2):=by show _=_; rw[hW2];simp
 clear hW2
 have HB3:Hid (Below W2.heap.size W2 (W2.alloc (.cells #[.int .i64 0] 29))):=(Below.refl _ _).alloc (jR _) _
 have HH3:=jH (HH.out.below HB3.out)
 have hC:=is1_any (W:=W2.alloc (.cells #[.int .i64 0] 29)) (s:=s) hs HH3
 have hG:=guarded_any (W:=W2) (R:=fun n W1=>Below W.heap.size W W1∧((n=0∧∃ st o G,traceE s.data.toList=some (st,o,G)∧W1.heap[W.heap.size+1]? = some (.cells #[.bool (unitE o G)] 4 (0,0)))∨(n=5∧traceE s.data.toList=none∧W1.heap[W.heap.size+1]? = some (.cells #[.bool false] 4 (0,0))))) eg93 (hC.mono fun e w h=>by
  rcases h with ⟨st,o,G,hr,rfl,hb,hf⟩ | ⟨hr,rfl,hb⟩
  ·refine⟨.inl ⟨rfl,?_,.inl ⟨rfl,st,o,G,hr,hb.out⟩⟩,?_⟩
   ·exact jy (jy HB2.out (jR _) (F:=[]) (by simp) (Fr.of_below HB3.out)) (jR _) (by intro b hb; simp at hb; omega) hf.out
   ·exact (hf.out.block _ (by simp) (by have:=hz2.out; simp; omega)).trans (jD W2 _)
  ·refine⟨.inr ⟨5,rfl,?_,.inr ⟨rfl,hr,?_⟩⟩,?_⟩
   ·exact Below.trans' HB2.out (Below.trans' HB3.out hb.out)
   ·exact Below.here hb.out (HH3.out (W.heap.size+1,#[.bool false],4) (by simp))
   ·exact Below.here hb.out (jD W2 _))
 clear hC
 go_enter Tryz.func51,Tryz.ntmps51
 go_wp2_with fail
 rw[show (W.alloc (.cells #[.string s] 9)).alloc (.cells #[.bool false] 4)=W2 from HW2.out.symm]
 refine hG.mono ?_
 rintro e w ⟨n,W1,rfl,hR,h29,he⟩
 obtain⟨hbl,hcase⟩:=hR.out
 have hn29:W.heap.size+1≠W2.heap.size:=by have:=hz2.out; omega
 have HBw:Hid (Below W.heap.size W w):=by show Below _ _ _; rw[he];exact hbl.setCell (by show W.heap.size≤W2.heap.size; have:=hz2.out; omega) _
 rcases hcase with ⟨rfl,st,o,G,hr,hc⟩ | ⟨rfl,hr,hc⟩
 ·have Y:Hid (w.heap[W.heap.size+1]? = some (.cells #[.bool (unitE o G)] 4 (0,0))):=by show _=_; rw[he];exact (jS _ _ _ _ hn29).trans hc
  have HRr:Hid (traceE s.data.toList=some (st,o,G)):=hr
  have d0:=jB Y.out 0
  have f0:=jF Y.out 0
  clear hr hc he hR h29 hG hbl
  go_wp2_with fail
  refine bodyPost_ret (v:=.tuple #[.bool (unitE o G),.int .i64 0]) (by simp[results,Tryz.results51,go_sem,d0]) rfl ?_
  exact⟨HBw.out.setCell (by show W.heap.size≤W.heap.size+1; omega) _,.inl ⟨st,o,G,HRr.out,rfl⟩⟩
 ·have Y:Hid (w.heap[W.heap.size+1]? = some (.cells #[.bool false] 4 (0,0))):=by show _=_; rw[he];exact (jS _ _ _ _ hn29).trans hc
  have HRr:Hid (traceE s.data.toList=none):=hr
  have d0:=jB Y.out 0
  have f0:=jF Y.out 0
  clear hr hc he hR h29 hG hbl
  go_wp2_with fail
  refine bodyPost_ret (v:=.tuple #[.bool false,.int .i64 5]) (by simp[results,Tryz.results51,go_sem,d0]) rfl ?_
  exact⟨HBw.out.setCell (by show W.heap.size≤W.heap.size+1; omega) _,.inr ⟨HRr.out,rfl⟩⟩
def UnitQ (l:List UInt8)(W:World)(e:Ending)(W':World): Prop :=
 Hid (Below W.heap.size W W')∧((isWordL l=false∧e=.returned (.tuple #[.bool false,.int .i64 2]))∨(isWordL l=true∧((∃ st o G,traceE l=some (st,o,G)∧e=.returned (.tuple #[.bool (unitE o G),.int .i64 0]))∨(traceE l=none∧e=.returned (.tuple #[.bool false,.int .i64 5])))))
theorem zf (h:isWordL s.data.toList=true): s.size≤400:=by
 unfold isWordL at h
 simp at h
 simpa using h.1
theorem Unit_any {W:World}(hs:s.size≤9223372036854775807): Calls Tryz.prog 18 #[.string s] W (UnitQ s.data.toList W):=by
 have hIw:=zP s W hs
 by_cases hw:isWordL s.data.toList=true
 ·rw[hw] at hIw
  have HWd:=jH hw
  have hsz:=zf hw
  clear hw
  go_enter Tryz.func18,Tryz.ntmps18
  go_wp2_with fail
  refine hIw.mono ?_
  rintro e w1 ⟨rfl,hb1⟩
  have hIs:=is_any (W:=w1) (s:=s) (by omega)
  have HB1:=jH hb1.out
  clear hIw hb1
  go_wp2_with fail
  refine hIs.mono ?_
  rintro e w2 ⟨hb2,⟨st,o,G,hr,rfl⟩ | ⟨hr,rfl⟩⟩
  ·have HRr:=jH hr
   clear hr
   go_wp2_with fail
   go_ret2
   exact⟨Below.trans' HB1.out hb2.out,.inr ⟨HWd.out,.inl ⟨st,o,G,HRr.out,rfl⟩⟩⟩
  ·have HRr:=jH hr
   clear hr
   go_wp2_with fail
   go_ret2
   exact⟨Below.trans' HB1.out hb2.out,.inr ⟨HWd.out,.inr ⟨HRr.out,rfl⟩⟩⟩
 ·have hwf:isWordL s.data.toList=false:=by simpa using hw
  rw[hwf] at hIw
  have HWd:=jH hwf
  clear hw hwf
  go_enter Tryz.func18,Tryz.ntmps18
  go_wp2_with fail
  refine hIw.mono ?_
  rintro e w1 ⟨rfl,hb1⟩
  have HB1:=jH hb1.out
  clear hIw hb1
  go_wp2_with fail
  go_ret2
  exact⟨HB1,.inl ⟨HWd.out,rfl⟩⟩
end
section
variable {B0:Nat} {w:World}
theorem StRow.weak {B1:Nat}{v:Value}{st:List (Nat×Int)}(h:StRow B0 w v st)(hB:B1≤B0): StRow B1 w v st:=⟨by
 obtain⟨vs,k1,k2,k3⟩:=h.row
 exact⟨vs,k1,k2,fun i u t hu ht=>⟨(k3 i u t hu ht).1,fun b e=>Nat.le_trans hB ((k3 i u t hu ht).2 b e)⟩⟩,fun b e=>Nat.le_trans hB (h.own b e)⟩
theorem TrV.set {b1 b2 b3 B0:Nat}{st:List (Nat×Int)}{o:List UInt8}{G:List E3}{sv:Value}{qu qv qm:Option Addr}{w:World}(h:TrV b1 b2 b3 B0 st o G sv qu qv qm w){b k:Nat}{c:Array Value}{z:Nat×Nat}(hb:w.heap[b]? = some (.cells c 29 z))(v:Value):
 TrV b1 b2 b3 B0 st o G sv qu qv qm (w.setCell ⟨b,k,none⟩ v):={
 row:=h.row.set hb v
 el:=h.el.set hb v
 v1:=(jS _ _ _ _ (jI h.v1 hb (by decide))).trans h.v1
 v2:=(jS _ _ _ _ (jI h.v2 hb (by decide))).trans h.v2
 v3:=(jS _ _ _ _ (jI h.v3 hb (by decide))).trans h.v3 }
theorem TrV.below {b1 b2 b3 B0:Nat}{st:List (Nat×Int)}{o:List UInt8}{G:List E3}{sv:Value}{qu qv qm:Option Addr}{w w':World}(h:TrV b1 b2 b3 B0 st o G sv qu qv qm w)(hb:Below w.heap.size w w'): TrV b1 b2 b3 B0 st o G sv qu qv qm w':={
 row:=h.row.below hb
 el:=h.el.below hb
 v1:=Below.here hb h.v1
 v2:=Below.here hb h.v2
 v3:=Below.here hb h.v3 }
theorem jq {b o:Nat}{v:Value}(h:w.cell? ⟨b,o,none⟩=some v): w.setCell ⟨b,o,none⟩ v=w:=by
 unfold World.cell? at h
 unfold World.setCell
 have key:(w.heap.modify b fun | .cells c elem frozen=>.cells (c.setIfInBounds o v) elem frozen | o=>o)=w.heap:=by
  apply Array.ext
  ·simp
  ·intro i h1 h2
   rw[Array.getElem_modify]
   split
   ·rename_i hb
    subst hb
    rw[Array.getElem?_eq_getElem h2] at h
    cases hc:w.heap[b] with
    | cells c e f =>
      rw[hc] at h
      dsimp only at h ⊢
      congr 1
      have h':c[o]? = some v:=by simpa using h
      obtain⟨ho,rfl⟩:=jA h'
      apply Array.ext
      ·simp
      ·intro j h3 h4
       rw[Array.getElem_setIfInBounds]
       split
       ·rename_i he; subst he; rfl
       ·rfl
    | _=>exact absurd (h.symm.trans (by rw[hc])) (by simp)
   ·rfl
 simp only[Option.isSome_none,Bool.false_eq_true,if_false]
 exact congrArg (fun h=>({ w with heap:=h }:World)) key
def TrQ (l:List UInt8)(W:World)(e:Ending)(W':World): Prop :=
 Hid (Below W.heap.size W W')∧((isWordL l=false∧e=.returned (.tuple #[.slice none 0 0,.int .i64 0,.agg #[.pointer none,.pointer none,.pointer none],.int .i64 2])) ∨
  (isWordL l=true∧traceE l=none∧e=.returned (.tuple #[.slice none 0 0,.int .i64 0,.agg #[.pointer none,.pointer none,.pointer none],.int .i64 5])) ∨
  (isWordL l=true∧∃ st o G,traceE l=some (st,o,G)∧∃ sa sn sc qu qv qm,e=.returned (.tuple #[.slice sa sn sc,.int .i64 o.length,.agg #[.pointer qu,.pointer qv,.pointer qm],.int .i64 0])∧Hid (StRow W.heap.size W' (.slice sa sn sc) st)∧Hid (IsE W' (.agg #[.pointer qu,.pointer qv,.pointer qm]) (endE o G))))
theorem Trace_any {W:World}{s:ByteArray}(hs:s.size≤9223372036854775807): Calls Tryz.prog 14 #[.string s] W (TrQ s.data.toList W):=by
 obtain⟨W4,hW4⟩:∃ W4,W4=(((W.alloc (.cells #[.string s] 9)).alloc (.cells #[.slice none 0 0] 23)).alloc (.cells #[.int .i64 0] 3)).alloc (.cells #[.pointer none,.pointer none,.pointer none] 28):=⟨_,rfl⟩
 have HW4:=jH hW4
 have HB4:Hid (Below W.heap.size W W4):=by show Below _ _ _; rw[hW4];exact ((((Below.refl _ _).alloc (jR _) _).alloc (by simp) _).alloc (by simp; omega) _).alloc (by simp; omega) _
 have HH:Hid (Has W4 [(W.heap.size,#[.string s],9),(W.heap.size+1,#[.slice none 0 0],23),(W.heap.size+1+1,#[.int .i64 0],3),(W.heap.size+1+1+1,#[.pointer none,.pointer none,.pointer none],28)]):=by
  show Has _ _
  have h:=((((Has.nil W).add #[.string s] 9).add #[.slice none 0 0] 23).add #[.int .i64 0] 3).add #[.pointer none,.pointer none,.pointer none] 28
  rw[jY,jY,jY] at h
  rw[hW4];exact fun p hp=>h p (by simp at hp ⊢;rcases hp with rfl | rfl | rfl | rfl <;>simp)
 have hz4:Hid (W4.heap.size=W.heap.size+4):=by show _=_; rw[hW4];simp
 clear hW4
 have hIw:=zP s W4 hs
 by_cases hw:isWordL s.data.toList=true
 ·rw[hw] at hIw
  have HWd:=jH hw
  have hsz:=zf hw
  clear hw
  go_enter Tryz.func14,Tryz.ntmps14
  go_wp2_with fail
  rw[show (((W.alloc (.cells #[.string s] 9)).alloc (.cells #[.slice none 0 0] 23)).alloc (.cells #[.int .i64 0] 3)).alloc (.cells #[.pointer none,.pointer none,.pointer none] 28)=W4 from HW4.out.symm]
  refine hIw.mono ?_
  rintro e w1 ⟨rfl,hb1⟩
  have HB1:=jH (Below.trans' HB4.out hb1.out)
  have HH1:=jH (HH.out.below hb1.out)
  have hz1:W.heap.size+4≤w1.heap.size:=by have:=hb1.out.size; have:=hz4.out; omega
  clear hIw hb1
  have HB3:Hid (Below w1.heap.size w1 (w1.alloc (.cells #[.int .i64 0] 29))):=(Below.refl _ _).alloc (jR _) _
  have HH3:=jH (HH1.out.below HB3.out)
  have hC:=trace1_any (W:=w1.alloc (.cells #[.int .i64 0] 29)) (s:=s) (by omega) HH3
  have hG:=guarded_any (W:=w1) (R:=fun n W1=>Below W.heap.size W W1∧((n=0∧∃ st o G sv qu qv qm,traceE s.data.toList=some (st,o,G)∧TrV (W.heap.size+1) (W.heap.size+1+1) (W.heap.size+1+1+1) W.heap.size st o G sv qu qv qm W1)∨(n=5∧traceE s.data.toList=none∧Has W1 [(W.heap.size+1,#[.slice none 0 0],23),(W.heap.size+1+1,#[.int .i64 0],3),(W.heap.size+1+1+1,#[.pointer none,.pointer none,.pointer none],28)]))) eg46 (hC.mono fun e w h=>by
   rcases h with ⟨st,o,G,hr,rfl,sv,qu,qv,qm,hv,hf⟩ | ⟨hr,rfl,hb⟩
   ·refine⟨.inl ⟨rfl,?_,.inl ⟨rfl,st,o,G,sv,qu,qv,qm,hr,?_⟩⟩,?_⟩
    ·exact jy (jy HB1.out (jR _) (F:=[]) (by simp) (Fr.of_below HB3.out)) (jR _) (by intro b hb; simp at hb; omega) hf.out
    ·exact { row:=hv.out.row.weak (by simp; omega),el:=hv.out.el,v1:=hv.out.v1,v2:=hv.out.v2,v3:=hv.out.v3 }
    ·exact (hf.out.block _ (by simp) (by simp; omega)).trans (jD w1 _)
   ·refine⟨.inr ⟨5,rfl,?_,.inr ⟨rfl,hr,?_⟩⟩,?_⟩
    ·exact Below.trans' HB1.out (Below.trans' HB3.out hb.out)
    ·exact fun p hp=>(HH3.out.below hb.out) p (by simp at hp ⊢;rcases hp with rfl | rfl | rfl <;>simp)
    ·exact Below.here hb.out (jD w1 _))
  clear hC
  go_wp2_with fail
  refine hG.mono ?_
  rintro e w ⟨n,W1,rfl,hR,h29,he⟩
  obtain⟨hbl,hcase⟩:=hR.out
  have HBw:Hid (Below W.heap.size W w):=by show Below _ _ _; rw[he];exact hbl.setCell (by show W.heap.size≤w1.heap.size; omega) _
  rcases hcase with ⟨rfl,st,o,G,sv,qu,qv,qm,hr,hv⟩ | ⟨rfl,hr,hv⟩
  ·have HV:Hid (TrV (W.heap.size+1) (W.heap.size+1+1) (W.heap.size+1+1+1) W.heap.size st o G sv qu qv qm w):=by show TrV _ _ _ _ _ _ _ _ _ _ _ _; rw[he];exact hv.set h29.out _
   have HRr:Hid (traceE s.data.toList=some (st,o,G)):=hr
   obtain⟨sa,sc,hsv⟩:∃ sa sc,sv=.slice sa st.length sc:=by
    obtain⟨vs,k1,k2,k3⟩:=HV.out.row.row
    exact ja k2
   obtain⟨N,hN⟩:∃ N,N=st.length:=⟨_,rfl⟩
   rw[← hN] at hsv
   subst hsv
   have v1:=jB HV.out.v1 0
   have v2:=jB HV.out.v2 0
   have v30:=jB HV.out.v3 0
   have v31:=jB HV.out.v3 1
   have v32:=jB HV.out.v3 2
   have f1:=jF HV.out.v1 0
   have f2:=jF HV.out.v2 0
   have f30:=jF HV.out.v3 0
   have f31:=jF HV.out.v3 1
   have f32:=jF HV.out.v3 2
   have e1:w.setCell ⟨W.heap.size+1,0,none⟩ (.slice sa N sc)=w:=jq v1
   have e2:w.setCell ⟨W.heap.size+1+1,0,none⟩ (.int .i64 o.length)=w:=jq v2
   have e30:w.setCell ⟨W.heap.size+1+1+1,0,none⟩ (.pointer qu)=w:=jq v30
   have e31:w.setCell ⟨W.heap.size+1+1+1,1,none⟩ (.pointer qv)=w:=jq v31
   have e32:w.setCell ⟨W.heap.size+1+1+1,2,none⟩ (.pointer qm)=w:=jq v32
   clear hr hv he hR h29 hG hbl hN
   go_wp2_with fail
   go_region_law (fail)
   all_goals
    try simp only[e1,e2,e30,e31,e32]
    go_wp2_with fail
    refine bodyPost_ret (v:=.tuple #[.slice sa N sc,.int .i64 o.length,.agg #[.pointer qu,.pointer qv,.pointer qm],.int .i64 0]) (by simp[results,Tryz.results14,go_sem,v1,v2,v30,v31,v32]) rfl ?_
    refine⟨HBw.out.drew,.inr (.inr ⟨HWd.out,st,o,G,HRr.out,sa,N,sc,qu,qv,qm,rfl,?_,?_⟩)⟩
    ·exact HV.out.row.below (Below.refl _ _).drew
    ·exact HV.out.el.below (Below.refl _ _).drew
  ·have HRr:Hid (traceE s.data.toList=none):=hr
   have HHw:Hid (Has w [(W.heap.size+1,#[.slice none 0 0],23),(W.heap.size+1+1,#[.int .i64 0],3),(W.heap.size+1+1+1,#[.pointer none,.pointer none,.pointer none],28)]):=by
    show Has _ _; rw[he]
    intro p hp
    refine (jS _ _ _ _ ?_).trans (hv p hp)
    simp at hp
    rcases hp with rfl | rfl | rfl
    ·exact jI (hv (W.heap.size+1,#[.slice none 0 0],23) (by simp)) h29.out (by dsimp only; decide)
    ·exact jI (hv (W.heap.size+1+1,#[.int .i64 0],3) (by simp)) h29.out (by dsimp only; decide)
    ·exact jI (hv (W.heap.size+1+1+1,#[.pointer none,.pointer none,.pointer none],28) (by simp)) h29.out (by dsimp only; decide)
   have y1:=HHw.out (W.heap.size+1,#[.slice none 0 0],23) (by simp)
   have y2:=HHw.out (W.heap.size+1+1,#[.int .i64 0],3) (by simp)
   have y3:=HHw.out (W.heap.size+1+1+1,#[.pointer none,.pointer none,.pointer none],28) (by simp)
   dsimp only at y1 y2 y3
   have v1:=jB y1 0
   have v2:=jB y2 0
   have v30:=jB y3 0
   have v31:=jB y3 1
   have v32:=jB y3 2
   have f1:=jF y1 0
   have f2:=jF y2 0
   have f30:=jF y3 0
   have f31:=jF y3 1
   have f32:=jF y3 2
   clear hr hv he hR h29 hG hbl y1 y2 y3
   go_wp2_with fail
   refine bodyPost_ret (v:=.tuple #[.slice none 0 0,.int .i64 0,.agg #[.pointer none,.pointer none,.pointer none],.int .i64 5]) (by simp[results,Tryz.results14,go_sem,v1,v2,v30,v31,v32]) rfl ?_
   refine⟨?_,.inr (.inl ⟨HWd.out,HRr.out,rfl⟩)⟩
   exact ((((HBw.out.setCell (by show W.heap.size≤W.heap.size+1; omega) _).setCell (by show W.heap.size≤W.heap.size+1+1; omega) _).setCell (by show W.heap.size≤W.heap.size+1+1+1; omega) _).setCell (by show W.heap.size≤W.heap.size+1+1+1; omega) _).setCell (by show W.heap.size≤W.heap.size+1+1+1; omega) _
 ·have hwf:isWordL s.data.toList=false:=by simpa using hw
  rw[hwf] at hIw
  have HWd:=jH hwf
  clear hw hwf
  go_enter Tryz.func14,Tryz.ntmps14
  go_wp2_with fail
  rw[show (((W.alloc (.cells #[.string s] 9)).alloc (.cells #[.slice none 0 0] 23)).alloc (.cells #[.int .i64 0] 3)).alloc (.cells #[.pointer none,.pointer none,.pointer none] 28)=W4 from HW4.out.symm]
  refine hIw.mono ?_
  rintro e w ⟨rfl,hb1⟩
  have HBw:=jH (Below.trans' HB4.out hb1.out)
  have HHw:=jH (HH.out.below hb1.out)
  have y1:=HHw.out (W.heap.size+1,#[.slice none 0 0],23) (by simp)
  have y2:=HHw.out (W.heap.size+1+1,#[.int .i64 0],3) (by simp)
  have y3:=HHw.out (W.heap.size+1+1+1,#[.pointer none,.pointer none,.pointer none],28) (by simp)
  dsimp only at y1 y2 y3
  have v1:=jB y1 0
  have v2:=jB y2 0
  have v30:=jB y3 0
  have v31:=jB y3 1
  have v32:=jB y3 2
  have f1:=jF y1 0
  have f2:=jF y2 0
  have f30:=jF y3 0
  have f31:=jF y3 1
  have f32:=jF y3 2
  clear hIw hb1 y1 y2 y3
  go_wp2_with fail
  refine bodyPost_ret (v:=.tuple #[.slice none 0 0,.int .i64 0,.agg #[.pointer none,.pointer none,.pointer none],.int .i64 2]) (by simp[results,Tryz.results14,go_sem,v1,v2,v30,v31,v32]) rfl ?_
  refine⟨?_,.inl ⟨HWd.out,rfl⟩⟩
  exact ((((HBw.out.setCell (by show W.heap.size≤W.heap.size+1; omega) _).setCell (by show W.heap.size≤W.heap.size+1+1; omega) _).setCell (by show W.heap.size≤W.heap.size+1+1+1; omega) _).setCell (by show W.heap.size≤W.heap.size+1+1+1; omega) _).setCell (by show W.heap.size≤W.heap.size+1+1+1; omega) _
end
section
def pinI (o:List UInt8)(G:List E3)(i:Int): Bool:=decide (0≤i)&&decide (i+1<(o.length:Int))&&pinAt o G i.toNat
variable {B:Nat} {W:World} {o:List UInt8} {G:List E3} {v:Value}
theorem pinched_out {p:Nat}{ov gv:Value}{l:List Q3}(h:Rd B W p ov gv l o G){i:Int}(hi:i<0∨(o.length:Int)≤i+1)(hl:o.length≤1000000)(h1:-9223372036854775808≤i)(h2:i≤9223372036854775807):
 Calls Tryz.prog 66 #[.pointer (some ⟨p,0,none⟩),.int .i64 i] W fun e W'=>e=.returned (.bool false)∧Hid (Below W.heap.size W W'):=by
 obtain⟨oa,oc,rfl⟩:=ja h.out
 have a0:=h.c0
 have w2:IntKind.i64.wrap ((o.length:Int) - 1)=(o.length:Int) - 1:=by rw[IntKind.wrap_i64];omega
 clear h
 go_enter Tryz.func66,Tryz.ntmps66
 go_wp2_with fail
 by_cases hn:i<0
 ·have q1:decide (i<0)=true:=by simpa using hn
  go_quiet (fail)
  go_wp2_with fail
  go_ret
  exact⟨rfl,qp _ _⟩
 ·have q1:decide (i<0)=false:=by simpa using hn
  have q2:decide ((o.length:Int) - 1≤i)=true:=by simp; omega
  go_quiet (fail)
  go_wp2_with fail
  go_ret
  exact⟨rfl,qp _ _⟩
theorem pinched_any {p:Nat}{ov gv:Value}{l:List Q3}(h:Rd B W p ov gv l o G)(hgl:G.length=o.length+1)(hl:o.length≤1000000){i:Int}(h1:-9223372036854775808≤i)(h2:i≤9223372036854775807):
 Calls Tryz.prog 66 #[.pointer (some ⟨p,0,none⟩),.int .i64 i] W fun e W'=>e=.returned (.bool (pinI o G i))∧Hid (Below W.heap.size W W'):=by
 by_cases hr:0≤i∧i+1<(o.length:Int)
 ·obtain⟨j,rfl⟩:∃ j:Nat,i=(j:Int):=⟨i.toNat,by omega⟩
  have hj:j+1<o.length:=by omega
  have hc:=jG (show j<o.length by omega)
  have hd:=jG hj
  have hx:=jG (show j+1<G.length by omega)
  have e:pinI o G (j:Int)=(decide (o[j]≠o[j+1])&&pinB o[j] G[j+1]):=by
   unfold pinI pinAt
   rw[show ((j:Int)).toNat=j by omega,jo hc,jo hd,jo hx]
   simp[hr.2]
  rw[e]
  exact pinched_calls h hc hd hx hl hgl
 ·have e:pinI o G i=false:=by
   unfold pinI
   rcases Int.lt_or_le i 0 with h0 | h0
   ·simp[show ¬ 0≤i by omega]
   ·simp[show ¬ (i+1<(o.length:Int)) by omega]
  rw[e]
  exact pinched_out h (by omega) hl h1 h2
abbrev Stp:=Int×List UInt8
def SRd (w:World)(v:Value)(S:List Stp): Prop:=∃ a c,v=.slice a S.length c∧∀ (j:Nat) (s:Stp),S[j]? = some s→(-9223372036854775808≤s.1∧s.1≤9223372036854775807)∧∃ g u,a=some ⟨g,0,none⟩∧w.cell? ⟨g,j*2,none⟩=some (.int .i64 s.1)∧w.cell? ⟨g,j*2+1,none⟩=some u∧BRow w u s.2
theorem SRd.below {w w':World}{S:List Stp}(h:SRd w v S)(hb:Below w.heap.size w w'): SRd w' v S:=by
 obtain⟨a,c,h0,h1⟩:=h
 refine⟨a,c,h0,fun j s hs=>?_⟩
 obtain⟨k0,g,u,k1,k2,k3,k4⟩:=h1 j s hs
 exact⟨k0,g,u,k1,jQ hb k2,jQ hb k3,jK k4 hb⟩
theorem SRd.fr {w w':World}{S:List Stp}(h:SRd W v S)(hB:Below B W w')(hs:W.heap.size≤B): SRd w' v S:=by
 have:=w
 exact h.below ⟨hB.os,hB.tape,hB.output,hB.size,fun k hk=>hB.block k (by omega)⟩
open Classical in
noncomputable def chkE:List Stp→List UInt8→List E3→Except Int (List UInt8×List E3)
 | [],o,G=>.ok (o,G)
 | s::S,o,G =>
   if pinI o G s.1=true then
    if allowed (pinK o G s.1.toNat) then
     if nbytes (pinK o G s.1.toNat)=s.2 then
      if pinOK (o.getD s.1.toNat 0) (pinK o G s.1.toNat) (G.getD s.1.toNat Zero) (G.getD (s.1.toNat+2) Zero) then chkE S (pinO o s.1.toNat) (pinG o G s.1.toNat) else .error 5
     else .error 1
    else .error 5
   else .error 1
theorem chkE_nil (o:List UInt8)(G:List E3): chkE [] o G=.ok (o,G):=rfl
theorem chkE_no {s:Stp}{S:List Stp}(h:pinI o G s.1=false): chkE (s::S) o G=.error 1:=by
 rw[chkE,if_neg (by simp[h])]
theorem chkE_full {s:Stp}{S:List Stp}(h:pinI o G s.1=true)(ha:¬ allowed (pinK o G s.1.toNat)): chkE (s::S) o G=.error 5:=by
 rw[chkE,if_pos h,if_neg ha]
theorem chkE_bytes {s:Stp}{S:List Stp}(h:pinI o G s.1=true)(ha:allowed (pinK o G s.1.toNat))(hb:nbytes (pinK o G s.1.toNat)≠s.2): chkE (s::S) o G=.error 1:=by
 rw[chkE,if_pos h,if_pos ha,if_neg hb]
theorem chkE_made {s:Stp}{S:List Stp}(h:pinI o G s.1=true)(ha:allowed (pinK o G s.1.toNat))(hb:nbytes (pinK o G s.1.toNat)=s.2)(hp:¬ pinOK (o.getD s.1.toNat 0) (pinK o G s.1.toNat) (G.getD s.1.toNat Zero) (G.getD (s.1.toNat+2) Zero)): chkE (s::S) o G=.error 5:=by
 rw[chkE,if_pos h,if_pos ha,if_pos hb,if_neg hp]
theorem chkE_yes {s:Stp}{S:List Stp}(h:pinI o G s.1=true)(ha:allowed (pinK o G s.1.toNat))(hb:nbytes (pinK o G s.1.toNat)=s.2)(hp:pinOK (o.getD s.1.toNat 0) (pinK o G s.1.toNat) (G.getD s.1.toNat Zero) (G.getD (s.1.toNat+2) Zero)): chkE (s::S) o G=chkE S (pinO o s.1.toNat) (pinG o G s.1.toNat):=by
 rw[chkE,if_pos h,if_pos ha,if_pos hb,if_pos hp]
theorem equal_calls' {v1 v2:Value}{l1 l2:List UInt8}(h1:BRow W v1 l1)(h2:BRow W v2 l2): Calls Tryz.prog 68 #[v1,v2] W fun e W'=>e=.returned (.bool (decide (l1=l2)))∧W'=W:=by
 have e1:=zh h1 (W':=W) (fun _ _=>rfl)
 have e2:=zh h2 (W':=W) (fun _ _=>rfl)
 refine (Tryz.bytes_Equal_strs v1 v2 _ _ W e1 e2).mono fun e w h=>⟨?_,h.2⟩
 rw[h.1,Lib.toList_data,Lib.toList_data]
 refine congrArg (fun b:Bool=>Ending.returned (.bool b)) ?_
 rw[Bool.eq_iff_iff]
 simp
structure CkV (b2 b3:Nat)(o:List UInt8)(G:List E3)(qu qv qm:Option Addr)(w:World): Prop where
 el:IsE w (.agg #[.pointer qu,.pointer qv,.pointer qm]) (endE o G)
 v2:w.heap[b2]? = some (.cells #[.int .i64 o.length] 3 (0,0))
 v3:w.heap[b3]? = some (.cells #[.pointer qu,.pointer qv,.pointer qm] 28 (0,0))
def Ck1Q (b2 b3:Nat)(r:Except Int (List UInt8×List E3))(W:World)(e:Ending)(W':World): Prop :=
 (∃ o G,r=.ok (o,G)∧e=.returned (.tuple #[])∧∃ qu qv qm,Hid (CkV b2 b3 o G qu qv qm W')∧Hid (Fr [b2,b3] W W'))∨(∃ n,r=.error n∧e=pan n∧Hid (Below W.heap.size W W'))
noncomputable def checkE (l:List UInt8)(S:List Stp): Except Int (List UInt8×List E3):=chkE S (readE l).1 (readE l).2
theorem check1_any {s:ByteArray}(hs:s.size≤1000){S:List Stp}(hv:SRd W v S)(hSl:S.length≤1000000000){b0 b1 b2 b3:Nat}{z0:Int}{o0 o1 o2:Option Addr} 
 (H:Hid (Has W [(b0,#[.string s],9),(b1,#[v],23),(b2,#[.int .i64 z0],3),(b3,#[.pointer o0,.pointer o1,.pointer o2],28)])) :
 Calls Tryz.prog 65 #[.pointer (some ⟨b0,0,none⟩),.pointer (some ⟨b1,0,none⟩),.pointer (some ⟨b2,0,none⟩),.pointer (some ⟨b3,0,none⟩)] W (Ck1Q b2 b3 (checkE s.data.toList S) W):=by
 have HV:=jH hv
 obtain⟨sa,sc,rfl,-⟩:=hv
 have c0:=H.out.cell (b:=b0) (c:=#[.string s]) (T:=9) (by simp) 0
 have hRd:=read_calls (W:=W) s hs
 obtain⟨n,hn⟩:∃ n,n=S.length:=⟨_,rfl⟩
 have HN:=jH hn
 rw[← hn] at H hSl HV
 clear hn
 go_enter Tryz.func65,Tryz.ntmps65
 go_wp2_with fail
 refine hRd.mono ?_
 rintro e w1 ⟨p,ov,gv,l,rfl,hr1,hb1⟩
 have HB1:=jH hb1.out
 have HLow:Hid (∀ b∈rdF p ov gv,W.heap.size≤b∧b<w1.heap.size):=hr1.out.lows
 have HR0:=jH hr1.out
 have HH1:=jH (H.out.below HB1.out)
 have d1:=HH1.out.cell (b:=b1) (c:=#[.slice sa n sc]) (T:=23) (by simp) 0
 clear hRd hr1 hb1 c0
 go_wp2_with fail
 go_loopg [12] n (fun g1 kv wr=>∃ (k:Nat) (o':List UInt8) (G':List E3) (ov' gv':Value) (l':List Q3),kv=.int .i64 k∧k≤n∧n - k≤g1∧o'.length≤1000∧Hid (G'.length=o'.length+1)∧Hid (Rd W.heap.size wr p ov' gv' l' o' G')∧Hid (ov'.ownBlock=ov.ownBlock∧gv'.ownBlock=gv.ownBlock)∧Hid (Fr (rdF p ov gv) w1 wr)∧Hid (checkE s.data.toList S=chkE (S.drop k) o' G'))
 case atStart=>exact⟨0,_,_,ov,gv,l,rfl,by omega,by omega,by have:=readE_out s.data.toList; simp at this; omega,readE_len _,HR0,⟨rfl,rfl⟩,Fr.refl _ _,rfl⟩
 case round =>
  clear HR0 d1
  obtain⟨k,o',G',ov',gv',l',rfl,hkn,hg,hol,HGl,HR,HOw,HF,HE⟩:=hrel
  have HBr:Hid (Below W.heap.size W wr):=jy HB1.out (jR _) (fun b hb=>(HLow.out b hb).1) HF.out
  have hWr:W.heap.size≤wr.heap.size:=HBr.out.size
  by_cases hk:k<n
  ·have hkz:(k:Int)<(n:Int):=by omega
   have hk0:(0:Int)≤(k:Int):=Int.natCast_nonneg k
   have hkw:IntKind.i64.wrap ((k:Int)+1)=(k:Int)+1:=IntWalk.i64_in _ (by omega)
   obtain⟨st,hst⟩:∃ st,S[k]? = some st:=⟨_,jG (by rw[← HN.out];exact hk)⟩
   obtain⟨a',c',he,hcell⟩:=HV.out
   have he':=Value.slice.inj he
   obtain⟨rfl,-,rfl⟩:=he'
   clear he
   obtain⟨⟨at1,at2⟩,sg,u,rfl,k2,k3,k4⟩:=hcell k st hst
   obtain⟨at',pw⟩:=st
   dsimp only at at1 at2 k2 k3 k4
   have ca:=jQ HBr.out k2
   have cu:=jQ HBr.out k3
   obtain⟨ua,uc,hu⟩:=ja k4
   obtain⟨ul,hul⟩:∃ ul,ul=pw.length:=⟨_,rfl⟩
   rw[← hul] at hu
   subst hu
   have HU:=jH (jK k4 HBr.out)
   have HDr:Hid (S.drop k=(at',pw)::S.drop (k+1)):=by show _=_; rw[List.drop_eq_getElem_cons (by rw[← HN.out];exact hk)];congr 1; exact (jL hst).2
   have HD2:Hid (Below wr.heap.size wr (wr.alloc (.cells #[.int .i64 at',.slice ua ul uc] 42))):=(Below.refl _ _).alloc (jR _) _
   have HR2:=jH (HR.out.below HD2.out)
   have X2:Hid ((wr.alloc (.cells #[.int .i64 at',.slice ua ul uc] 42)).heap[wr.heap.size]? = some (.cells #[.int .i64 at',.slice ua ul uc] 42 (0,0))):=jD wr _
   have hPi:=pinched_any HR2.out HGl.out (by omega) at1 at2
   clear hcell k2 k3 k4 hul hst
   by_cases hpin:pinI o' G' at'=true
   ·obtain⟨i,rfl⟩:∃ i:Nat,at'=(i:Int):=by
     unfold pinI at hpin
     simp only[Bool.and_eq_true,decide_eq_true_eq] at hpin
     exact⟨at'.toNat,by omega⟩
    have hlt:i+1<o'.length:=by
     unfold pinI at hpin
     simp only[Bool.and_eq_true,decide_eq_true_eq] at hpin
     omega
    rw[hpin] at hPi
    have HPin:=jH hpin
    have HPat:Hid (pinAt o' G' i=true):=by
     show _=_
     unfold pinI at hpin
     simp only[Bool.and_eq_true,decide_eq_true_eq] at hpin
     have:=hpin.2
     rwa [show ((i:Int)).toNat=i by omega] at this
    obtain⟨c,hc⟩:∃ c,o'[i]? = some c:=⟨_,jG (by omega)⟩
    obtain⟨x0,hx0⟩:∃ x,G'[i]? = some x:=⟨_,jG (by rw[HGl.out];omega)⟩
    obtain⟨x1,hx1⟩:∃ x,G'[i+1]? = some x:=⟨_,jG (by rw[HGl.out];omega)⟩
    obtain⟨x2,hx2⟩:∃ x,G'[i+2]? = some x:=⟨_,jG (by rw[HGl.out];omega)⟩
    have HC:=jH hc
    have HX0:=jH hx0
    have HX1:=jH hx1
    have HX2:=jH hx2
    have HHB:Hid (c=98→(x1.u=0∨0≤x1.v)):=fun hcb=>by
     have h:=HPat.out
     unfold pinAt at h
     rw[jo hc,jo hx1] at h
     simp only[pinB,hcb,Bool.and_eq_true,if_pos,decide_eq_true_eq] at h
     exact h.2.2
    have HKe:Hid (pinK o' G' i=powE c x1):=by show _=_; unfold pinK; rw[jo hc,jo hx1]
    have hti:((i:Int)).toNat=i:=by omega
    have HTi:=jH hti
    clear hpin hc hx0 hx1 hx2 at1 at2 hti
    go_wp2_with fail
    refine hPi.mono ?_
    rintro e w3 ⟨rfl,hb3⟩
    have HB3:=jH (Below.trans' HD2.out hb3.out)
    have HR3:=jH (HR.out.below HB3.out)
    have X3:=jH (Below.here hb3.out X2.out)
    have e0:=jB X3.out 0
    have hPw:=power_any HR3.out HC.out HX1.out (by omega) HGl.out HHB.out
    clear hPi hb3 ca cu
    go_wp2_with fail
    refine hPw.mono ?_
    rintro e w4 (⟨hok4,q4,rfl,hi4,hb4⟩ | ⟨hno,rfl,hb4⟩)
    rotate_left
    ·refine And.intro rfl ?_
     refine Or.inr ⟨5,?_,rfl,?_⟩
     ·rw[HE.out,HDr.out,chkE_full HPin.out (by dsimp only; rw[HTi.out,HKe.out];exact hno)]
     ·exact jy HBr.out (jR _) (F:=[]) (by simp) (Fr.of_below (Below.trans' HB3.out hb4.out))
    have HA4:=jH hok4
    have HB5:Hid (Below wr.heap.size wr (w4.alloc (.cells #[.pointer q4] 26))):=(Below.trans' HB3.out hb4.out).alloc (Below.trans' HB3.out hb4.out).size _
    have HD5:Hid (Below w4.heap.size w4 (w4.alloc (.cells #[.pointer q4] 26))):=(Below.refl _ _).alloc (jR _) _
    have HI5:Hid (IsN (w4.alloc (.cells #[.pointer q4] 26)) (.agg #[.pointer q4]) (powE c x1)):=hi4.out.below HD5.out
    have X5:=jH (Below.here HD5.out (Below.here hb4.out X3.out))
    have Y5:Hid ((w4.alloc (.cells #[.pointer q4] 26)).heap[w4.heap.size]? = some (.cells #[.pointer q4] 26 (0,0))):=jD w4 _
    have HU5:=jH (jK HU.out HB5.out)
    clear hPw hok4 hi4 hb4 e0
    go_wp2_with fail
    have hBt:=Bytes_calls (W:=(w4.alloc (.cells #[.pointer q4] 26)).drew) (HI5.out.below ((Below.refl _ _).drew))
    have HK:Hid (∀ w':World,Below (w4.alloc (.cells #[.pointer q4] 26)).heap.size (w4.alloc (.cells #[.pointer q4] 26)) w'→w'.cell? ⟨w4.heap.size,0,none⟩=some (.pointer q4)∧w'.cell? ⟨wr.heap.size,1,none⟩=some (.slice ua ul uc)):=fun w' hb=>⟨by rw[jB (Below.here hb Y5.out)];rfl,by rw[jB (Below.here hb X5.out)];rfl⟩
    have HKb:Hid (allowed (pinK o' G' i)):=by show allowed _; rw[HKe.out];exact HA4.out
    obtain⟨tb,htb⟩:∃ tb,decide (nbytes (powE c x1)=pw)=tb:=⟨_,rfl⟩
    have HTb:=jH htb
    clear htb
    go_region_held2 (fun w'=>w'.cell? ⟨w4.heap.size,0,none⟩=some (.pointer q4)∧w'.cell? ⟨wr.heap.size,1,none⟩=some (.slice ua ul uc))
     (first | exact HK.out _ ((Below.refl _ _).drew) | exact HK.out _ HB6.out)
     (first
       | (go_at_call 69
          refine hBt.mono ?_
          rintro e w6 ⟨bv,rfl,hbr,hb6,hbo⟩
          have HB6:Hid (Below (w4.alloc (.cells #[.pointer q4] 26)).heap.size (w4.alloc (.cells #[.pointer q4] 26)) w6):=Below.trans' ((Below.refl _ _).drew) hb6.out
          have hEq:=equal_calls' hbr.out (jK HU5.out HB6.out)
          rw[HTb.out] at hEq
          clear hbr hb6 hbo hBt)
       | (go_at_call 68
          refine hEq.mono ?_
          rintro e w7 ⟨rfl,hw7⟩
          have hw7':w7=w6:=hw7
          subst hw7'
          clear hEq hw7))
    all_goals
     have HB7:=jH (Below.trans' HB5.out HB6.out)
     have HR7:=jH (HR.out.below HB7.out)
     have HI7:=jH (HI5.out.below HB6.out)
     have X7:=jH (Below.here HB6.out X5.out)
     have Y7:=jH (Below.here HB6.out Y5.out)
     have e0:=jB X7.out 0
     have e4:=jB Y7.out 0
     clear HK
     cases tb
     rotate_left
     ·have hbe:nbytes (powE c x1)=pw:=by simpa using HTb.out
      have HBE:Hid (nbytes (pinK o' G' i)=pw):=by show _=_; rw[HKe.out];exact hbe
      clear hbe
      have hPc:=pinch_any HR7.out HC.out hlt HX0.out HX2.out (by omega) HGl.out HI7.out
      have HPo:Hid (pinOK c (powE c x1) x0 x2=pinOK (o'.getD i 0) (pinK o' G' i) (G'.getD i Zero) (G'.getD (i+2) Zero)):=by show _=_; rw[jo HC.out,HKe.out,jo HX0.out,jo HX2.out]
      have HPg:Hid (G'.take i++[pinX c (powE c x1) x0 x2]++G'.drop (i+3)=pinG o' G' i):=by show _=_; unfold pinG; rw[jo HC.out,HKe.out,jo HX0.out,jo HX2.out]
      have HF7:Hid (Fr (rdF p ov gv) w1 w7):=HF.out.pre (Fr.of_below HB7.out)
      go_wp2_with fail
      refine hPc.mono ?_
      rintro e w9 (⟨hok9,ob,gb,hob,hgb,rfl,ov9,gv9,l9,hr9,ho9,hf9⟩ | ⟨hno,rfl,hb9⟩)
      rotate_left
      ·refine And.intro rfl ?_
       refine Or.inr ⟨5,?_,rfl,?_⟩
       ·rw[HE.out,HDr.out,chkE_made HPin.out (by dsimp only; rw[HTi.out];exact HKb.out) (by dsimp only; rw[HTi.out];exact HBE.out) (by dsimp only; rw[HTi.out,← HPo.out];exact hno)]
       ·exact jy HBr.out (jR _) (F:=[]) (by simp) (Fr.of_below (Below.trans' HB7.out hb9.out))
      have HOK9:Hid (pinOK (o'.getD i 0) (pinK o' G' i) (G'.getD i Zero) (G'.getD (i+2) Zero)):=by show pinOK _ _ _ _; rw[← HPo.out];exact hok9
      have hmem:∀ b∈[p,ob,gb],b∈rdF p ov gv:=fun b hb=>by
       have h1:=HOw.out.1; have h2:=HOw.out.2
       rw[hob] at h1; rw[hgb] at h2
       unfold rdF; rw[← h1,← h2]
       simpa using hb
      have HF9:Hid (Fr (rdF p ov gv) w1 w9):=HF7.out.pre (hf9.out.more hmem)
      have HR9:Hid (Rd W.heap.size w9 p ov9 gv9 l9 (pinO o' i) (pinG o' G' i)):=by
       show Rd _ _ _ _ _ _ _ _
       rw[← HPg.out];exact hr9.out
      have HO9:Hid (ov9.ownBlock=ov.ownBlock∧gv9.ownBlock=gv.ownBlock):=⟨ho9.out.1.trans (hob.symm.trans HOw.out.1),ho9.out.2.trans (hgb.symm.trans HOw.out.2)⟩
      have hpl:=zd hlt
      clear hPc hob hgb hr9 ho9 hf9 hok9 hmem e0 e4
      go_wp2_with fail
      go_roundg (n - (k+1))
      case measure=>omega
      case rel=>exact⟨k+1,pinO o' i,pinG o' G' i,ov9,gv9,l9,by go_num,by omega,by omega,by omega,pinG_len hlt HGl.out,HR9,HO9,HF9,by show _=_; rw[HE.out,HDr.out,chkE_yes HPin.out (by dsimp only; rw[HTi.out];exact HKb.out) (by dsimp only; rw[HTi.out];exact HBE.out) (by dsimp only; rw[HTi.out];exact HOK9.out)];dsimp only; rw[HTi.out]⟩
     ·have hbe:¬ (nbytes (powE c x1)=pw):=by simpa using HTb.out
      have HBE:Hid (nbytes (pinK o' G' i)≠pw):=by show _≠_; rw[HKe.out];exact hbe
      clear hbe
      go_wp2_with fail
      refine And.intro rfl ?_
      refine Or.inr ⟨1,?_,rfl,?_⟩
      ·rw[HE.out,HDr.out,chkE_bytes HPin.out (by dsimp only; rw[HTi.out];exact HKb.out) (by dsimp only; rw[HTi.out];exact HBE.out)]
      ·exact jy HBr.out (jR _) (F:=[]) (by simp) (Fr.of_below HB7.out)
   ·have hpf:pinI o' G' at'=false:=by simpa using hpin
    rw[hpf] at hPi
    have HPin:=jH hpf
    clear hpin hpf at1 at2
    go_wp2_with fail
    refine hPi.mono ?_
    rintro e w3 ⟨rfl,hb3⟩
    have HB3:=jH (Below.trans' HD2.out hb3.out)
    clear hPi hb3 ca cu
    go_wp2_with fail
    refine And.intro rfl ?_
    refine Or.inr ⟨1,?_,rfl,?_⟩
    ·rw[HE.out,HDr.out,chkE_no HPin.out]
    ·exact jy HBr.out (jR _) (F:=[]) (by simp) (Fr.of_below HB3.out)
  ·have hkz:¬ ((k:Int)<(n:Int)):=by omega
   have HFin:Hid (checkE s.data.toList S=.ok (o',G')):=by
    show _=_
    rw[HE.out,List.drop_of_length_le (by rw[← HN.out];omega),chkE_nil]
   have hEn:=end_calls HR.out HGl.out (by omega)
   have HHr:=jH (H.out.below HBr.out)
   go_wp2_with fail
   refine hEn.mono ?_
   rintro e w4 ⟨qu,qv,qm,rfl,hie,hb4⟩
   have HB4:=jH (Below.trans' HBr.out hb4.out)
   have HH4:=jH (HHr.out.below hb4.out)
   have y2:=HH4.out (b2,#[.int .i64 z0],3) (by simp)
   have y3:=HH4.out (b3,#[.pointer o0,.pointer o1,.pointer o2],28) (by simp)
   dsimp only at y2 y3
   have Z2:=jH y2
   have Z3:=jH y3
   have HIE:=jH hie.out
   have d2:=jB Z2.out 0
   have f2:=jF Z2.out 0
   have n23:b2≠b3:=jI Z2.out Z3.out (by decide)
   have d3:=jB Z3.out 0
   have d31:=jB Z3.out 1
   have d32:=jB Z3.out 2
   have f3:=jF Z3.out 0
   have f31:=jF Z3.out 1
   have f32:=jF Z3.out 2
   clear hEn hie hb4 y2 y3
   go_wp2_with fail
   go_end0
   have k2:(w4.setCell ⟨b2,0,none⟩ (.int .i64 o'.length)).heap[b2]? = some (.cells #[.int .i64 o'.length] 3 (0,0)):=heap_setCell_same w4 b2 0 _ 3 _ Z2.out
   have k3:(w4.setCell ⟨b2,0,none⟩ (.int .i64 o'.length)).heap[b3]? = some (.cells #[.pointer o0,.pointer o1,.pointer o2] 28 (0,0)):=(jS _ _ _ _ (jI Z3.out Z2.out (by decide))).trans Z3.out
   refine Or.inl ⟨o',G',HFin.out,rfl,qu,qv,qm,⟨?_,?_,?_⟩,?_⟩
   ·exact IsE.store3 (HIE.out.set Z2.out _) k3
   ·exact (ji _ (jI k2 k3 (by decide)) _ _ _).trans k2
   ·exact z7 k3
   ·exact ((((Fr.of_below HB4.out).pre (je _ _ (by simp))).pre (je _ _ (by simp))).pre (je _ _ (by simp))).pre (je _ _ (by simp))
end
theorem eg65 (args:Array Value)(w:World): (callFunc 65 args).run Tryz.prog w=.ok (.enter 65 args) w:=by kernel_rfl
theorem chkE_err {S:List Stp}: ∀ {o:List UInt8} {G:List E3} {n:Int},chkE S o G=.error n→n=1∨n=5:=by
 induction S with
 | nil=>intro o G n h; rw[chkE_nil] at h; cases h
 | cons s S ih =>
   intro o G n h
   rw[chkE] at h
   split at h
   ·split at h
    ·split at h
     ·split at h
      ·exact ih h
      ·cases h; exact .inr rfl
     ·cases h; exact .inl rfl
    ·cases h; exact .inr rfl
   ·cases h; exact .inl rfl
theorem CkV.set {b2 b3:Nat}{o:List UInt8}{G:List E3}{qu qv qm:Option Addr}{w:World}(h:CkV b2 b3 o G qu qv qm w){b k:Nat}{c:Array Value}{z:Nat×Nat}(hb:w.heap[b]? = some (.cells c 29 z))(v:Value):
 CkV b2 b3 o G qu qv qm (w.setCell ⟨b,k,none⟩ v):={
 el:=h.el.set hb v
 v2:=(jS _ _ _ _ (jI h.v2 hb (by decide))).trans h.v2
 v3:=(jS _ _ _ _ (jI h.v3 hb (by decide))).trans h.v3 }
def CkQ (l:List UInt8)(S:List Stp)(W:World)(e:Ending)(W':World): Prop :=
 Hid (Below W.heap.size W W')∧((isWordL l=false∧e=.returned (.tuple #[.int .i64 0,.agg #[.pointer none,.pointer none,.pointer none],.int .i64 2])) ∨
  (∃ n,isWordL l=true∧checkE l S=.error n∧e=.returned (.tuple #[.int .i64 0,.agg #[.pointer none,.pointer none,.pointer none],.int .i64 n])) ∨
  (isWordL l=true∧∃ o G,checkE l S=.ok (o,G)∧∃ qu qv qm,e=.returned (.tuple #[.int .i64 o.length,.agg #[.pointer qu,.pointer qv,.pointer qm],.int .i64 0])∧Hid (IsE W' (.agg #[.pointer qu,.pointer qv,.pointer qm]) (endE o G))))
theorem Check_any {W:World}{s:ByteArray}(hs:s.size≤9223372036854775807){v:Value}{S:List Stp}(hv:SRd W v S)(hSl:S.length≤1000000000): Calls Tryz.prog 33 #[.string s,v] W (CkQ s.data.toList S W):=by
 have HV:=jH hv
 obtain⟨sa,sc,rfl,-⟩:=hv
 obtain⟨n,hn⟩:∃ n,n=S.length:=⟨_,rfl⟩
 rw[← hn] at hSl HV
 have HN:=jH hn
 rw[show (Value.slice sa S.length sc)=.slice sa n sc by rw[hn]]
 clear hn
 obtain⟨W4,hW4⟩:∃ W4,W4=(((W.alloc (.cells #[.string s] 9)).alloc (.cells #[.slice sa n sc] 23)).alloc (.cells #[.int .i64 0] 3)).alloc (.cells #[.pointer none,.pointer none,.pointer none] 28):=⟨_,rfl⟩
 have HW4:=jH hW4
 have HB4:Hid (Below W.heap.size W W4):=by show Below _ _ _; rw[hW4];exact ((((Below.refl _ _).alloc (jR _) _).alloc (by simp) _).alloc (by simp; omega) _).alloc (by simp; omega) _
 have HH:Hid (Has W4 [(W.heap.size,#[.string s],9),(W.heap.size+1,#[.slice sa n sc],23),(W.heap.size+1+1,#[.int .i64 0],3),(W.heap.size+1+1+1,#[.pointer none,.pointer none,.pointer none],28)]):=by
  show Has _ _
  have h:=((((Has.nil W).add #[.string s] 9).add #[.slice sa n sc] 23).add #[.int .i64 0] 3).add #[.pointer none,.pointer none,.pointer none] 28
  rw[jY,jY,jY] at h
  rw[hW4];exact fun p hp=>h p (by simp at hp ⊢;rcases hp with rfl | rfl | rfl | rfl <;>simp)
 have hz4:Hid (W4.heap.size=W.heap.size+4):=by show _=_; rw[hW4];simp
 clear hW4
 have hIw:=zP s W4 hs
 by_cases hw:isWordL s.data.toList=true
 ·rw[hw] at hIw
  have HWd:=jH hw
  have hsz:=zf hw
  clear hw
  go_enter Tryz.func33,Tryz.ntmps33
  go_wp2_with fail
  rw[show (((W.alloc (.cells #[.string s] 9)).alloc (.cells #[.slice sa n sc] 23)).alloc (.cells #[.int .i64 0] 3)).alloc (.cells #[.pointer none,.pointer none,.pointer none] 28)=W4 from HW4.out.symm]
  refine hIw.mono ?_
  rintro e w1 ⟨rfl,hb1⟩
  have HB1:=jH (Below.trans' HB4.out hb1.out)
  have HH1:=jH (HH.out.below hb1.out)
  have hz1:W.heap.size+4≤w1.heap.size:=by have:=hb1.out.size; have:=hz4.out; omega
  clear hIw hb1
  have HB3:Hid (Below w1.heap.size w1 (w1.alloc (.cells #[.int .i64 0] 29))):=(Below.refl _ _).alloc (jR _) _
  have HH3:=jH (HH1.out.below HB3.out)
  have hC:=check1_any (W:=w1.alloc (.cells #[.int .i64 0] 29)) (s:=s) (by omega) (HV.out.below (Below.trans' HB1.out HB3.out)) (by rw[← HN.out];exact hSl) HH3
  have hG:=guarded_any (W:=w1) (R:=fun k W1=>Below W.heap.size W W1∧((k=0∧∃ o G qu qv qm,checkE s.data.toList S=.ok (o,G)∧CkV (W.heap.size+1+1) (W.heap.size+1+1+1) o G qu qv qm W1)∨(checkE s.data.toList S=.error k∧Has W1 [(W.heap.size+1+1,#[.int .i64 0],3),(W.heap.size+1+1+1,#[.pointer none,.pointer none,.pointer none],28)]))) eg65 (hC.mono fun e w h=>by
   rcases h with ⟨o,G,hr,rfl,qu,qv,qm,hv,hf⟩ | ⟨k,hr,rfl,hb⟩
   ·refine⟨.inl ⟨rfl,?_,.inl ⟨rfl,o,G,qu,qv,qm,hr,hv.out⟩⟩,?_⟩
    ·exact jy (jy HB1.out (jR _) (F:=[]) (by simp) (Fr.of_below HB3.out)) (jR _) (by intro b hb; simp at hb; omega) hf.out
    ·exact (hf.out.block _ (by simp) (by simp; omega)).trans (jD w1 _)
   ·refine⟨.inr ⟨k,rfl,?_,.inr ⟨hr,?_⟩⟩,?_⟩
    ·exact Below.trans' HB1.out (Below.trans' HB3.out hb.out)
    ·exact fun p hp=>(HH3.out.below hb.out) p (by simp at hp ⊢;rcases hp with rfl | rfl <;>simp)
    ·exact Below.here hb.out (jD w1 _))
  clear hC
  go_wp2_with fail
  refine hG.mono ?_
  rintro e w ⟨k,W1,rfl,hR,h29,he⟩
  obtain⟨hbl,hcase⟩:=hR.out
  have HBw:Hid (Below W.heap.size W w):=by show Below _ _ _; rw[he];exact hbl.setCell (by show W.heap.size≤w1.heap.size; omega) _
  rcases hcase with ⟨rfl,o,G,qu,qv,qm,hr,hv⟩ | ⟨hr,hv⟩
  ·have HV':Hid (CkV (W.heap.size+1+1) (W.heap.size+1+1+1) o G qu qv qm w):=by show CkV _ _ _ _ _ _ _ _; rw[he];exact hv.set h29.out _
   have HRr:Hid (checkE s.data.toList S=.ok (o,G)):=hr
   have v2:=jB HV'.out.v2 0
   have v30:=jB HV'.out.v3 0
   have v31:=jB HV'.out.v3 1
   have v32:=jB HV'.out.v3 2
   have f2:=jF HV'.out.v2 0
   have f30:=jF HV'.out.v3 0
   have f31:=jF HV'.out.v3 1
   have f32:=jF HV'.out.v3 2
   have e2:w.setCell ⟨W.heap.size+1+1,0,none⟩ (.int .i64 o.length)=w:=jq v2
   have e30:w.setCell ⟨W.heap.size+1+1+1,0,none⟩ (.pointer qu)=w:=jq v30
   have e31:w.setCell ⟨W.heap.size+1+1+1,1,none⟩ (.pointer qv)=w:=jq v31
   have e32:w.setCell ⟨W.heap.size+1+1+1,2,none⟩ (.pointer qm)=w:=jq v32
   clear hr hv he hR h29 hG hbl
   go_wp2_with fail
   go_region_law (fail)
   all_goals
    try simp only[e2,e30,e31,e32]
    go_wp2_with fail
    refine bodyPost_ret (v:=.tuple #[.int .i64 o.length,.agg #[.pointer qu,.pointer qv,.pointer qm],.int .i64 0]) (by simp[results,Tryz.results33,go_sem,v2,v30,v31,v32]) rfl ?_
    exact⟨HBw.out.drew,.inr (.inr ⟨HWd.out,o,G,HRr.out,qu,qv,qm,rfl,HV'.out.el.below (Below.refl _ _).drew⟩)⟩
  ·have HRr:Hid (checkE s.data.toList S=.error k):=hr
   have hk:decide (k=0)=false:=by rcases chkE_err hr with rfl | rfl <;>rfl
   have hk1:k≠0:=by simpa using hk
   have HHw:Hid (Has w [(W.heap.size+1+1,#[.int .i64 0],3),(W.heap.size+1+1+1,#[.pointer none,.pointer none,.pointer none],28)]):=by
    show Has _ _; rw[he]
    intro p hp
    refine (jS _ _ _ _ ?_).trans (hv p hp)
    simp at hp
    rcases hp with rfl | rfl
    ·exact jI (hv (W.heap.size+1+1,#[.int .i64 0],3) (by simp)) h29.out (by dsimp only; decide)
    ·exact jI (hv (W.heap.size+1+1+1,#[.pointer none,.pointer none,.pointer none],28) (by simp)) h29.out (by dsimp only; decide)
   have y2:=HHw.out (W.heap.size+1+1,#[.int .i64 0],3) (by simp)
   have y3:=HHw.out (W.heap.size+1+1+1,#[.pointer none,.pointer none,.pointer none],28) (by simp)
   dsimp only at y2 y3
   have v2:=jB y2 0
   have v30:=jB y3 0
   have v31:=jB y3 1
   have v32:=jB y3 2
   have f2:=jF y2 0
   have f30:=jF y3 0
   have f31:=jF y3 1
   have f32:=jF y3 2
   clear hr hv he hR h29 hG hbl y2 y3
   go_wp2_with fail
   refine bodyPost_ret (v:=.tuple #[.int .i64 0,.agg #[.pointer none,.pointer none,.pointer none],.int .i64 k]) (by simp[results,Tryz.results33,go_sem,v2,v30,v31,v32]) rfl ?_
   refine⟨?_,.inr (.inl ⟨k,HWd.out,HRr.out,rfl⟩)⟩
   exact (((HBw.out.setCell (by show W.heap.size≤W.heap.size+1+1; omega) _).setCell (by show W.heap.size≤W.heap.size+1+1+1; omega) _).setCell (by show W.heap.size≤W.heap.size+1+1+1; omega) _).setCell (by show W.heap.size≤W.heap.size+1+1+1; omega) _
 ·have hwf:isWordL s.data.toList=false:=by simpa using hw
  rw[hwf] at hIw
  have HWd:=jH hwf
  clear hw hwf
  go_enter Tryz.func33,Tryz.ntmps33
  go_wp2_with fail
  rw[show (((W.alloc (.cells #[.string s] 9)).alloc (.cells #[.slice sa n sc] 23)).alloc (.cells #[.int .i64 0] 3)).alloc (.cells #[.pointer none,.pointer none,.pointer none] 28)=W4 from HW4.out.symm]
  refine hIw.mono ?_
  rintro e w ⟨rfl,hb1⟩
  have HBw:=jH (Below.trans' HB4.out hb1.out)
  have HHw:=jH (HH.out.below hb1.out)
  have y2:=HHw.out (W.heap.size+1+1,#[.int .i64 0],3) (by simp)
  have y3:=HHw.out (W.heap.size+1+1+1,#[.pointer none,.pointer none,.pointer none],28) (by simp)
  dsimp only at y2 y3
  have v2:=jB y2 0
  have v30:=jB y3 0
  have v31:=jB y3 1
  have v32:=jB y3 2
  have f2:=jF y2 0
  have f30:=jF y3 0
  have f31:=jF y3 1
  have f32:=jF y3 2
  clear hIw hb1 y2 y3
  go_wp2_with fail
  refine bodyPost_ret (v:=.tuple #[.int .i64 0,.agg #[.pointer none,.pointer none,.pointer none],.int .i64 2]) (by simp[results,Tryz.results33,go_sem,v2,v30,v31,v32]) rfl ?_
  refine⟨?_,.inl ⟨HWd.out,rfl⟩⟩
  exact (((HBw.out.setCell (by show W.heap.size≤W.heap.size+1+1; omega) _).setCell (by show W.heap.size≤W.heap.size+1+1+1; omega) _).setCell (by show W.heap.size≤W.heap.size+1+1+1; omega) _).setCell (by show W.heap.size≤W.heap.size+1+1+1; omega) _
end Sr
namespace Sr
end Sr
