/- Texts of this claim, joined: Pin, Word, Stp, Red, Guard2, Shelf. -/
import Derived.Test.YtabafgphmbdpgaaGreatDoorIn12
import Derived.Laws.EntriesVeiled
import Derived.Shelf.Strings.Trim
import Derived.Shelf.Small.Utf8
import Derived.Shelf.Small.Bits
import Derived.Shelf.Small.Strs
import Derived.Shelf.Strconv.Itoa0
import Derived.Shelf.Strings.Search1
import Derived.Shelf.Unicode.Decode
import Derived.Shelf.Strings.Runes
import Derived.Shelf.Strings.AsciiSet
import Derived.Shelf.Unicode.DecodeSlow
import Derived.Shelf.Unicode.DecodeAny
import Derived.Shelf.Unicode.DecodeLast
import Derived.Shelf.Bytes.SlSearch0
import Derived.Shelf.Bytes.SlEqualAll
import Derived.Shelf.Bytes.Small
import Derived.Shelf.SlSortCmp.Xorshift
import Derived.Ground.SlsfProg
import Derived.Shelf.SlGeneric
/- pinch, also where it panics. -/
namespace Sr
open Go Go.Proofs Go.RowKit Go.Maps Go.WideMaps

/-- the element of a pinch -/
def pinE (c : UInt8) (k : Int) : E3 := if c = 66 then plainE k 0 0 else ⟨0, 0, k⟩
/-- the product of a pinch, and where all of its numbers are allowed -/
def pinX (c : UInt8) (k : Int) (x0 x2 : E3) : E3 := timesE (timesE x0 (pinE c k)) x2
def pinOK (c : UInt8) (k : Int) (x0 x2 : E3) : Prop := (c = 66 → plainOK k 0) ∧ TimesOK x0 (pinE c k) ∧ TimesOK (timesE x0 (pinE c k)) x2

theorem below_fr {B : Nat} {F : List Nat} {W0 W W' : World} (h : Below B W0 W) (hB : B ≤ W0.heap.size) (hi : ∀ b ∈ F, B ≤ b) (hf : Fr F W W') : Below B W0 W' :=
  ⟨hf.os.trans h.os, hf.tape.trans h.tape, hf.output.trans h.output, Nat.le_trans h.size hf.size, fun k hk => (hf.block k (by have := h.size; omega) fun hm => by have := hi k hm; omega).trans (h.block k hk)⟩
theorem Below.low {B : Nat} {W W' : World} (h : Below W.heap.size W W') (hB : B ≤ W.heap.size) : Below B W W' := ⟨h.os, h.tape, h.output, h.size, fun k hk => h.block k (by omega)⟩

theorem rown_at' {W : World} {e : TypeId} {s g n m cap : Nat} {xs : List Value} (h : W.ownsRow 0 e s (.slice (some ⟨g, 0, none⟩) m cap) n xs) {i : Nat} {v : Value} (hi : xs[i]? = some v) : W.cell? ⟨g, i, none⟩ = some v := by
  obtain ⟨hl, ⟨hh, h0⟩ | ⟨g', cap', cur, he, hr⟩⟩ := h
  · cases hh
  · cases he; exact rown_at ⟨hl, .inr ⟨g, cap, cur, rfl, hr⟩⟩ hi
theorem fr_setCell {F : List Nat} (w : World) {a : Addr} (v : Value) (h : a.block ∈ F) : Fr F w (w.setCell a v) :=
  ⟨rfl, rfl, rfl, by simp, fun b hb hn => RowKit.Below.heap_setCell _ _ _ _ (by rintro rfl; exact hn h)⟩
theorem cut_set {α : Type} {G : List α} {i : Nat} {x : α} (h : i < G.length) : (G.set i x).take (i + 1) ++ (G.set i x).drop (i + 3) = G.take i ++ [x] ++ G.drop (i + 3) := by
  rw [List.set_eq_take_append_cons_drop, if_pos h]
  have e : (G.take i).length = i := by simp; omega
  have e1 : G.take i ++ x :: G.drop (i + 1) = (G.take i ++ [x]) ++ G.drop (i + 1) := by simp
  have l1 : (G.take i ++ [x]).length = i + 1 := by simp; omega
  rw [e1, List.take_append_of_le_length (by omega), List.take_of_length_le (by omega), List.drop_append, List.drop_of_length_le (by omega), l1, List.drop_drop, show i + 1 + (i + 3 - (i + 1)) = i + 3 by omega]
  simp
/-- how pinch ends -/
def PinQ (B p ob gb : Nat) (o : List UInt8) (G : List E3) (W : World) (e : Ending) (W' : World) : Prop := e = .returned (.tuple #[]) ∧ ∃ ov' gv' l', Hid (Rd B W' p ov' gv' l' o G) ∧ Hid (ov'.ownBlock = some ob ∧ gv'.ownBlock = some gb) ∧ Hid (Fr [p, ob, gb] W W')
def PinP (ok : Prop) (B p : Nat) (ov gv : Value) (o : List UInt8) (G : List E3) (W : World) (e : Ending) (W' : World) : Prop := (ok ∧ ∃ ob gb, ov.ownBlock = some ob ∧ gv.ownBlock = some gb ∧ PinQ B p ob gb o G W e W') ∨ (¬ ok ∧ e = pan 5 ∧ Hid (Below W.heap.size W W'))

set_option maxHeartbeats 4000000 in
set_option maxRecDepth 100000 in
theorem pinch_any {B : Nat} {W : World} {p : Nat} {ov gv : Value} {l : List Q3} {o : List UInt8} {G : List E3} (h : Rd B W p ov gv l o G) {i : Nat} {c : UInt8} {x0 x2 : E3} (hc : o[i]? = some c) (h1 : i + 1 < o.length) (h0 : G[i]? = some x0) (h2 : G[i + 2]? = some x2) (hl : o.length ≤ 1000000) (hgl : G.length = o.length + 1)
    {qk : Option Addr} {k : Int} (hk : IsN W (.agg #[.pointer qk]) k) :
    Calls Tryz.prog 70 #[.pointer (some ⟨p, 0, none⟩), .int .i64 i, .agg #[.pointer qk]] W (PinP (pinOK c k x0 x2) B p ov gv (o.take i ++ o.drop (i + 2)) (G.take i ++ [pinX c k x0 x2] ++ G.drop (i + 3)) W) := by
  obtain ⟨ob, oc, rfl, hby⟩ := h.byte hc
  obtain ⟨gb, gc, t0, rfl, ht0, hie0, g0, g1, g2⟩ := h.el h0
  obtain ⟨gb', gc', t2, he, ht2, hie2, g3, g4, g5⟩ := h.el h2
  cases he
  have a0 := h.c0
  have a1 := h.c1
  have bc := hby hc
  have i1 : ((i : Int) + 2).toNat = i + 2 := by omega
  have i2 : (0 : Int) ≤ (i : Int) + 2 := by omega
  have i3 : ((i : Int) + 2) < (G.length : Int) := by omega
  have i4 : (i : Int) < (G.length : Int) := by omega
  have i5 : (i : Int) < (o.length : Int) := by omega
  have i6 : ((i : Int)).toNat = i := by omega
  have w1 : IntKind.i64.wrap ((i : Int) + 1) = (i : Int) + 1 := by rw [IntKind.wrap_i64]; omega
  have w2 : IntKind.i64.wrap ((i : Int) + 2) = (i : Int) + 2 := by rw [IntKind.wrap_i64]; omega
  have w3 : IntKind.i64.wrap ((i : Int) + 3) = (i : Int) + 3 := by rw [IntKind.wrap_i64]; omega
  have HR := Lib.hid h
  have HE0 := Lib.hid hie0
  have HE2 := Lib.hid hie2
  have HK0 := Lib.hid hk
  have HBY : Hid (∀ {j : Nat} {d : UInt8}, o[j]? = some d → W.cell? ⟨ob, j, none⟩ = some (.int .u8 (d.toNat : Nat))) := hby
  have hgi : i + 3 ≤ G.length := by omega
  clear hby h hie0 hie2 hk hgl
  have lp := cell_lt a0
  have np : p ≠ W.heap.size := Nat.ne_of_lt lp
  have lb := cell_lt bc
  have nb : ob ≠ W.heap.size := Nat.ne_of_lt lb
  have lg := cell_lt g0
  have ng : gb ≠ W.heap.size := Nat.ne_of_lt lg
  have np1 : p ≠ W.heap.size + 1 := by omega
  have nb1 : ob ≠ W.heap.size + 1 := by omega
  have ng1 : gb ≠ W.heap.size + 1 := by omega
  have HBl : Hid (B ≤ W.heap.size) := by show _ ≤ _; have := HR.out.hp; omega
  have HG0 := Lib.hid g0
  have HG1 := Lib.hid g1
  have HG2 := Lib.hid g2
  have HG3 := Lib.hid g3
  have HG4 := Lib.hid g4
  have HG5 := Lib.hid g5
  clear g0 g1 g2 g3 g4 g5
  obtain ⟨W2, hW2⟩ : ∃ W2, W2 = (W.alloc (.cells #[.pointer qk] 26)).alloc (.cells #[.pointer none, .pointer none, .pointer qk] 28) := ⟨_, rfl⟩
  have HW2 := Lib.hid hW2
  have HB2 : Hid (Below W.heap.size W W2) := by show Below _ _ _; rw [hW2]; exact ((Below.refl _ _).alloc (Nat.le_refl _) _).alloc (by simp) _
  have HH : Hid (Has W2 [(W.heap.size + 1, #[.pointer none, .pointer none, .pointer qk], 28), (W.heap.size, #[.pointer qk], 26)]) := by
    show Has _ _
    have h := ((Has.nil W).add #[.pointer qk] 26).add #[.pointer none, .pointer none, .pointer qk] 28
    rw [size_alloc] at h
    rw [hW2]; exact h
  clear hW2
  go_enter Tryz.func70, Tryz.ntmps70
  by_cases hb : c = 66
  · have hb1 : (c.toNat : Int) = 66 := by rw [hb]; rfl
    have HPE : Hid (pinE c k = plainE k 0 0) := by show _ = _; unfold pinE; rw [if_pos hb]
    have HCB : Hid (c = 66) := hb
    have hPl := plain_any (W := W2) (HK0.out.below HB2.out) (isN_zero W2) (isN_zero W2)
    clear hb
    go_wp2_with fail
    rw [show (W.alloc (.cells #[.pointer qk] 26)).alloc (.cells #[.pointer none, .pointer none, .pointer qk] 28) = W2 from HW2.out.symm]
    refine hPl.mono ?_
    rintro e wa (⟨hokp, eu, ev, em, rfl, hea, hba⟩ | ⟨hno, rfl, hba⟩)
    rotate_left
    · refine And.intro rfl ?_
      exact Or.inr ⟨fun h => hno (h.1 HCB.out), rfl, Below.trans' HB2.out hba.out⟩
    have HOKP : Hid (c = 66 → plainOK k 0) := fun _ => hokp
    have Y := Lib.hid ((HH.out.below hba.out) (W.heap.size + 1, #[.pointer none, .pointer none, .pointer qk], 28) (by simp))
    have d0 := cell_of Y.out 0
    have d1 := cell_of Y.out 1
    have d2 := cell_of Y.out 2
    have f0 := free_of Y.out 0
    have f1 := free_of Y.out 1
    have f2 := free_of Y.out 2
    have HBA0 := Lib.hid (Below.trans' HB2.out hba.out)
    have HEA0 := Lib.hid hea.out
    clear hPl hba hea hokp
    go_wp2_with fail
    have YA : Hid ((set3 wa (W.heap.size + 1) (.pointer eu) (.pointer ev) (.pointer em)).heap[W.heap.size + 1]? = some (.cells #[.pointer eu, .pointer ev, .pointer em] 28 (0, 0))) := set3_same Y.out
    have HEA : Hid (IsE (set3 wa (W.heap.size + 1) (.pointer eu) (.pointer ev) (.pointer em)) (.agg #[.pointer eu, .pointer ev, .pointer em]) (pinE c k)) := by
      show IsE _ _ _
      rw [HPE.out]; exact IsE.store3 HEA0.out Y.out
    have HBA : Hid (Below W.heap.size W (set3 wa (W.heap.size + 1) (.pointer eu) (.pointer ev) (.pointer em))) := Below.set3 HBA0.out (by omega)
    obtain ⟨wq, hwq⟩ : ∃ wq, wq = set3 wa (W.heap.size + 1) (.pointer eu) (.pointer ev) (.pointer em) := ⟨_, rfl⟩
    rw [← hwq] at YA HEA HBA
    rw [show ((wa.setCell ⟨W.heap.size + 1, 0, none⟩ (.pointer eu)).setCell ⟨W.heap.size + 1, 1, none⟩ (.pointer ev)).setCell ⟨W.heap.size + 1, 2, none⟩ (.pointer em) = wq from hwq.symm]
    clear hwq HEA0 HBA0 Y d0 d1 d2 f0 f1 f2 a0 a1 bc
    have g0 := below_cell HBA.out HG0.out
    have g1 := below_cell HBA.out HG1.out
    have g2 := below_cell HBA.out HG2.out
    -- the world wq, the element's block W.heap.size + 1 holds eu ev em
    have hA1 := (HR.out.below HBA.out).c1
    have hA0 := (HR.out.below HBA.out).c0
    have HRA := Lib.hid (HR.out.below HBA.out)
    have HX0 := Lib.hid (HE0.out.below HBA.out)
    have HX2 := Lib.hid (HE2.out.below HBA.out)
    have hT1 := times_any (W := wq.drew) (HX0.out.below ((Below.refl _ _).drew)) (HEA.out.below ((Below.refl _ _).drew))
    have HK : Hid (∀ w' : World, Below wq.heap.size wq w' → (fun w' => w'.cell? ⟨p, 1, none⟩ = some (.slice (some ⟨gb, 0, none⟩) G.length gc) ∧ (w'.cell? ⟨W.heap.size + 1, 0, none⟩ = some (.pointer eu) ∧ w'.cell? ⟨W.heap.size + 1, 1, none⟩ = some (.pointer ev) ∧ w'.cell? ⟨W.heap.size + 1, 2, none⟩ = some (.pointer em)) ∧ (w'.cell? ⟨gb, (i + 2) * 3, none⟩ = some (.pointer t2.1) ∧ w'.cell? ⟨gb, (i + 2) * 3 + 1, none⟩ = some (.pointer t2.2.1) ∧ w'.cell? ⟨gb, (i + 2) * 3 + 2, none⟩ = some (.pointer t2.2.2)) ∧ w'.cell? ⟨gb, i * 3, none⟩ = some (.pointer t0.1) ∧ w'.cell? ⟨gb, i * 3 + 1, none⟩ = some (.pointer t0.2.1) ∧ w'.cell? ⟨gb, i * 3 + 2, none⟩ = some (.pointer t0.2.2)) w') := fun w' hb => by
      have hy := Below.here hb YA.out
      have hbw := Below.trans' HBA.out hb
      refine ⟨(HRA.out.below hb).c1, ⟨by rw [cell_of hy]; rfl, by rw [cell_of hy]; rfl, by rw [cell_of hy]; rfl⟩, ⟨below_cell hbw HG3.out, below_cell hbw HG4.out, below_cell hbw HG5.out⟩, below_cell hbw HG0.out, below_cell hbw HG1.out, below_cell hbw HG2.out⟩
    refine wp_region_late (S := fun w' => w'.cell? ⟨p, 1, none⟩ = some (.slice (some ⟨gb, 0, none⟩) G.length gc) ∧ (w'.cell? ⟨W.heap.size + 1, 0, none⟩ = some (.pointer eu) ∧ w'.cell? ⟨W.heap.size + 1, 1, none⟩ = some (.pointer ev) ∧ w'.cell? ⟨W.heap.size + 1, 2, none⟩ = some (.pointer em)) ∧ (w'.cell? ⟨gb, (i + 2) * 3, none⟩ = some (.pointer t2.1) ∧ w'.cell? ⟨gb, (i + 2) * 3 + 1, none⟩ = some (.pointer t2.2.1) ∧ w'.cell? ⟨gb, (i + 2) * 3 + 2, none⟩ = some (.pointer t2.2.2)) ∧ w'.cell? ⟨gb, i * 3, none⟩ = some (.pointer t0.1) ∧ w'.cell? ⟨gb, i * 3 + 1, none⟩ = some (.pointer t0.2.1) ∧ w'.cell? ⟨gb, i * 3 + 2, none⟩ = some (.pointer t0.2.2)) (late := [24]) (by kernel_rfl) ?_ (fun hHeld => ?_)
    ·
      exact HK.out wq.drew ((Below.refl _ _).drew)
    refine wpAnyL_take (i := 0) (oi := { dst := some 21, op := Op.move (Operand.tmp 0), type := 98, pos := "baum.go:154", after := #[], guard := none }) (v := ?_) rfl (by kernel_rfl) (by kernel_rfl) (by kernel_rfl) (by kernel_rfl) (by kernel_rfl) (fun _ _ _ h => h) (Or.inl ⟨by rfl, ?_⟩) (by assumption) ?_
    rotate_left
    · (intro w hSw; (try dsimp only at hSw); go_simp)
      all_goals with_reducible rfl
    try simp only [Act.put, List.setIfInBounds_toArray, List.set_cons_zero, List.set_cons_succ]
    refine wpAnyL_take (i := 1) (oi := { dst := some 22, op := Op.nilCheck (Operand.tmp 21), type := 0, pos := "baum.go:154", after := #[{ on := 0, ground := Ground.data }], guard := none }) (v := ?_) rfl (by kernel_rfl) (by kernel_rfl) (by kernel_rfl) (by kernel_rfl) (by kernel_rfl) (fun _ _ _ h => h) (Or.inl ⟨by rfl, ?_⟩) (by assumption) ?_
    rotate_left
    · (intro w hSw; (try dsimp only at hSw); go_simp)
      all_goals with_reducible rfl
    try simp only [Act.put, List.setIfInBounds_toArray, List.set_cons_zero, List.set_cons_succ]
    refine wpAnyL_take (i := 2) (oi := { dst := some 23, op := Op.fieldAddr 152 (Operand.tmp 22) 1, type := 0, pos := "baum.go:154", after := #[{ on := 1, ground := Ground.data }], guard := none }) (v := ?_) rfl (by kernel_rfl) (by kernel_rfl) (by kernel_rfl) (by kernel_rfl) (by kernel_rfl) (fun _ _ _ h => h) (Or.inl ⟨by rfl, ?_⟩) (by assumption) ?_
    rotate_left
    · (intro w hSw; (try dsimp only at hSw); go_simp)
      all_goals with_reducible rfl
    try simp only [Act.put, List.setIfInBounds_toArray, List.set_cons_zero, List.set_cons_succ]
    refine wpAnyL_take (i := 3) (oi := { dst := some 24, op := Op.load 150 (Operand.tmp 23), type := 150, pos := "baum.go:154", after := #[{ on := 2, ground := Ground.data }], guard := none }) (v := ?_) rfl (by kernel_rfl) (by kernel_rfl) (by kernel_rfl) (by kernel_rfl) (by kernel_rfl) (fun _ _ _ h => h) (Or.inl ⟨by rfl, ?_⟩) (by assumption) ?_
    rotate_left
    · (intro w hSw; (try dsimp only at hSw); go_simp)
      all_goals with_reducible rfl
    try simp only [Act.put, List.setIfInBounds_toArray, List.set_cons_zero, List.set_cons_succ]
    refine wpAnyL_take (i := 4) (oi := { dst := some 25, op := Op.move (Operand.tmp 1), type := 3, pos := "baum.go:154", after := #[], guard := none }) (v := ?_) rfl (by kernel_rfl) (by kernel_rfl) (by kernel_rfl) (by kernel_rfl) (by kernel_rfl) (fun _ _ _ h => h) (Or.inl ⟨by rfl, ?_⟩) (by assumption) ?_
    rotate_left
    · (intro w hSw; (try dsimp only at hSw); go_simp)
      all_goals with_reducible rfl
    try simp only [Act.put, List.setIfInBounds_toArray, List.set_cons_zero, List.set_cons_succ]
    refine wpAnyL_take (i := 5) (oi := { dst := some 26, op := Op.move (Operand.tmp 0), type := 98, pos := "baum.go:154", after := #[], guard := none }) (v := ?_) rfl (by kernel_rfl) (by kernel_rfl) (by kernel_rfl) (by kernel_rfl) (by kernel_rfl) (fun _ _ _ h => h) (Or.inl ⟨by rfl, ?_⟩) (by assumption) ?_
    rotate_left
    · (intro w hSw; (try dsimp only at hSw); go_simp)
      all_goals with_reducible rfl
    try simp only [Act.put, List.setIfInBounds_toArray, List.set_cons_zero, List.set_cons_succ]
    refine wpAnyL_take (i := 6) (oi := { dst := some 27, op := Op.nilCheck (Operand.tmp 26), type := 0, pos := "baum.go:154", after := #[{ on := 5, ground := Ground.data }], guard := none }) (v := ?_) rfl (by kernel_rfl) (by kernel_rfl) (by kernel_rfl) (by kernel_rfl) (by kernel_rfl) (fun _ _ _ h => h) (Or.inl ⟨by rfl, ?_⟩) (by assumption) ?_
    rotate_left
    · (intro w hSw; (try dsimp only at hSw); go_simp)
      all_goals with_reducible rfl
    try simp only [Act.put, List.setIfInBounds_toArray, List.set_cons_zero, List.set_cons_succ]
    refine wpAnyL_take (i := 7) (oi := { dst := some 28, op := Op.fieldAddr 152 (Operand.tmp 27) 1, type := 0, pos := "baum.go:154", after := #[{ on := 6, ground := Ground.data }], guard := none }) (v := ?_) rfl (by kernel_rfl) (by kernel_rfl) (by kernel_rfl) (by kernel_rfl) (by kernel_rfl) (fun _ _ _ h => h) (Or.inl ⟨by rfl, ?_⟩) (by assumption) ?_
    rotate_left
    · (intro w hSw; (try dsimp only at hSw); go_simp)
      all_goals with_reducible rfl
    try simp only [Act.put, List.setIfInBounds_toArray, List.set_cons_zero, List.set_cons_succ]
    refine wpAnyL_take (i := 8) (oi := { dst := some 29, op := Op.load 150 (Operand.tmp 28), type := 150, pos := "baum.go:154", after := #[{ on := 7, ground := Ground.data }], guard := none }) (v := ?_) rfl (by kernel_rfl) (by kernel_rfl) (by kernel_rfl) (by kernel_rfl) (by kernel_rfl) (fun _ _ _ h => h) (Or.inl ⟨by rfl, ?_⟩) (by assumption) ?_
    rotate_left
    · (intro w hSw; (try dsimp only at hSw); go_simp)
      all_goals with_reducible rfl
    try simp only [Act.put, List.setIfInBounds_toArray, List.set_cons_zero, List.set_cons_succ]
    refine wpAnyL_take (i := 9) (oi := { dst := some 30, op := Op.move (Operand.tmp 1), type := 3, pos := "baum.go:154", after := #[], guard := none }) (v := ?_) rfl (by kernel_rfl) (by kernel_rfl) (by kernel_rfl) (by kernel_rfl) (by kernel_rfl) (fun _ _ _ h => h) (Or.inl ⟨by rfl, ?_⟩) (by assumption) ?_
    rotate_left
    · (intro w hSw; (try dsimp only at hSw); go_simp)
      all_goals with_reducible rfl
    try simp only [Act.put, List.setIfInBounds_toArray, List.set_cons_zero, List.set_cons_succ]
    refine wpAnyL_take (i := 10) (oi := { dst := some 31, op := Op.indexAddr 150 (Operand.tmp 29) (Operand.tmp 30), type := 0, pos := "baum.go:154", after := #[{ on := 8, ground := Ground.data }, { on := 9, ground := Ground.data }], guard := none }) (v := ?_) rfl (by kernel_rfl) (by kernel_rfl) (by kernel_rfl) (by kernel_rfl) (by kernel_rfl) (fun _ _ _ h => h) (Or.inl ⟨by rfl, ?_⟩) (by assumption) ?_
    rotate_left
    · (intro w hSw; (try dsimp only at hSw); go_simp)
      all_goals with_reducible rfl
    try simp only [Act.put, List.setIfInBounds_toArray, List.set_cons_zero, List.set_cons_succ]
    refine wpAnyL_take (i := 11) (oi := { dst := some 32, op := Op.load 28 (Operand.tmp 31), type := 28, pos := "baum.go:154", after := #[{ on := 10, ground := Ground.data }], guard := none }) (v := ?_) rfl (by kernel_rfl) (by kernel_rfl) (by kernel_rfl) (by kernel_rfl) (by kernel_rfl) (fun _ _ _ h => h) (Or.inl ⟨by rfl, ?_⟩) (by assumption) ?_
    rotate_left
    · (intro w hSw; (try dsimp only at hSw); go_simp)
      all_goals with_reducible rfl
    try simp only [Act.put, List.setIfInBounds_toArray, List.set_cons_zero, List.set_cons_succ]
    refine wpAnyL_take (i := 12) (oi := { dst := some 33, op := Op.load 28 (Operand.tmp 6), type := 28, pos := "baum.go:154", after := #[], guard := none }) (v := ?_) rfl (by kernel_rfl) (by kernel_rfl) (by kernel_rfl) (by kernel_rfl) (by kernel_rfl) (fun _ _ _ h => h) (Or.inl ⟨by rfl, ?_⟩) (by assumption) ?_
    rotate_left
    · (intro w hSw; (try dsimp only at hSw); go_simp)
      all_goals with_reducible rfl
    try simp only [Act.put, List.setIfInBounds_toArray, List.set_cons_zero, List.set_cons_succ]
    refine wpAnyL_take (i := 14) (oi := { dst := some 35, op := Op.move (Operand.tmp 0), type := 98, pos := "baum.go:154", after := #[], guard := none }) (v := ?_) rfl (by kernel_rfl) (by kernel_rfl) (by kernel_rfl) (by kernel_rfl) (by kernel_rfl) (fun _ _ _ h => h) (Or.inl ⟨by rfl, ?_⟩) (by assumption) ?_
    rotate_left
    · (intro w hSw; (try dsimp only at hSw); go_simp)
      all_goals with_reducible rfl
    try simp only [Act.put, List.setIfInBounds_toArray, List.set_cons_zero, List.set_cons_succ]
    refine wpAnyL_take (i := 15) (oi := { dst := some 36, op := Op.nilCheck (Operand.tmp 35), type := 0, pos := "baum.go:154", after := #[{ on := 14, ground := Ground.data }], guard := none }) (v := ?_) rfl (by kernel_rfl) (by kernel_rfl) (by kernel_rfl) (by kernel_rfl) (by kernel_rfl) (fun _ _ _ h => h) (Or.inl ⟨by rfl, ?_⟩) (by assumption) ?_
    rotate_left
    · (intro w hSw; (try dsimp only at hSw); go_simp)
      all_goals with_reducible rfl
    try simp only [Act.put, List.setIfInBounds_toArray, List.set_cons_zero, List.set_cons_succ]
    refine wpAnyL_take (i := 16) (oi := { dst := some 37, op := Op.fieldAddr 152 (Operand.tmp 36) 1, type := 0, pos := "baum.go:154", after := #[{ on := 15, ground := Ground.data }], guard := none }) (v := ?_) rfl (by kernel_rfl) (by kernel_rfl) (by kernel_rfl) (by kernel_rfl) (by kernel_rfl) (fun _ _ _ h => h) (Or.inl ⟨by rfl, ?_⟩) (by assumption) ?_
    rotate_left
    · (intro w hSw; (try dsimp only at hSw); go_simp)
      all_goals with_reducible rfl
    try simp only [Act.put, List.setIfInBounds_toArray, List.set_cons_zero, List.set_cons_succ]
    refine wpAnyL_take (i := 17) (oi := { dst := some 38, op := Op.load 150 (Operand.tmp 37), type := 150, pos := "baum.go:154", after := #[{ on := 16, ground := Ground.data }], guard := none }) (v := ?_) rfl (by kernel_rfl) (by kernel_rfl) (by kernel_rfl) (by kernel_rfl) (by kernel_rfl) (fun _ _ _ h => h) (Or.inl ⟨by rfl, ?_⟩) (by assumption) ?_
    rotate_left
    · (intro w hSw; (try dsimp only at hSw); go_simp)
      all_goals with_reducible rfl
    try simp only [Act.put, List.setIfInBounds_toArray, List.set_cons_zero, List.set_cons_succ]
    refine wpAnyL_take (i := 18) (oi := { dst := some 39, op := Op.move (Operand.tmp 1), type := 3, pos := "baum.go:154", after := #[], guard := none }) (v := ?_) rfl (by kernel_rfl) (by kernel_rfl) (by kernel_rfl) (by kernel_rfl) (by kernel_rfl) (fun _ _ _ h => h) (Or.inl ⟨by rfl, ?_⟩) (by assumption) ?_
    rotate_left
    · (intro w hSw; (try dsimp only at hSw); go_simp)
      all_goals with_reducible rfl
    try simp only [Act.put, List.setIfInBounds_toArray, List.set_cons_zero, List.set_cons_succ]
    refine wpAnyL_take (i := 19) (oi := { dst := some 40, op := Op.binOp BinOp.add 3 (Operand.tmp 39) (Operand.const (Value.int IntKind.i64 2)) 3, type := 3, pos := "baum.go:154", after := #[{ on := 18, ground := Ground.data }], guard := none }) (v := ?_) rfl (by kernel_rfl) (by kernel_rfl) (by kernel_rfl) (by kernel_rfl) (by kernel_rfl) (fun _ _ _ h => h) (Or.inl ⟨by rfl, ?_⟩) (by assumption) ?_
    rotate_left
    · (intro w hSw; (try dsimp only at hSw); go_simp)
      all_goals with_reducible rfl
    try simp only [Act.put, List.setIfInBounds_toArray, List.set_cons_zero, List.set_cons_succ]
    refine wpAnyL_take (i := 20) (oi := { dst := some 41, op := Op.indexAddr 150 (Operand.tmp 38) (Operand.tmp 40), type := 0, pos := "baum.go:154", after := #[{ on := 17, ground := Ground.data }, { on := 19, ground := Ground.data }], guard := none }) (v := ?_) rfl (by kernel_rfl) (by kernel_rfl) (by kernel_rfl) (by kernel_rfl) (by kernel_rfl) (fun _ _ _ h => h) (Or.inl ⟨by rfl, ?_⟩) (by assumption) ?_
    rotate_left
    · (intro w hSw; (try dsimp only at hSw); go_simp)
      all_goals with_reducible rfl
    try simp only [Act.put, List.setIfInBounds_toArray, List.set_cons_zero, List.set_cons_succ]
    refine wpAnyL_take (i := 21) (oi := { dst := some 42, op := Op.load 28 (Operand.tmp 41), type := 28, pos := "baum.go:154", after := #[{ on := 20, ground := Ground.data }], guard := none }) (v := ?_) rfl (by kernel_rfl) (by kernel_rfl) (by kernel_rfl) (by kernel_rfl) (by kernel_rfl) (fun _ _ _ h => h) (Or.inl ⟨by rfl, ?_⟩) (by assumption) ?_
    rotate_left
    · (intro w hSw; (try dsimp only at hSw); go_simp)
      all_goals with_reducible rfl
    try simp only [Act.put, List.setIfInBounds_toArray, List.set_cons_zero, List.set_cons_succ]
    refine wpAnyL_step (i := 13) (o := { dst := some 34, op := Op.call { callee := Callee.value (Operand.func 56), args := #[Operand.tmp 32, Operand.tmp 33], argTypes := #[28, 28] }, type := 28, pos := "baum.go:154", after := #[{ on := 11, ground := Ground.data }, { on := 12, ground := Ground.data }], guard := none }) rfl (by kernel_rfl) (fun K hK => ?_)
    go_simp
    go_wp2_with (
      go_at_call 56
      refine hT1.mono ?_
      rintro e w9 (⟨hok9, pu, pv, pm, rfl, hie9, hb9⟩ | ⟨hno, rfl, hb9⟩)
      rotate_left
      · refine And.intro rfl ?_
        exact Or.inr ⟨fun h => hno h.2.1, rfl, Below.trans' HBA.out (Below.trans' ((Below.refl _ _).drew) hb9.out)⟩
      have HO9 := Lib.hid hok9
      have HB9 := Lib.hid (Below.trans' (W := wq) ((Below.refl _ _).drew) hb9.out)
      have hT2 := times_any (W := w9) hie9.out (HX2.out.below HB9.out)
      clear hb9 hie9 hT1 hok9
      )
    refine hK.out _ _ ?_ (fun hHeld1 => ?_)
    ·
      exact HK.out w9 HB9.out
    clear hK K hHeld
    try simp only [Act.put, List.setIfInBounds_toArray, List.set_cons_zero, List.set_cons_succ]
    refine wpAnyL_step (i := 22) (o := { dst := some 43, op := Op.call { callee := Callee.value (Operand.func 56), args := #[Operand.tmp 34, Operand.tmp 42], argTypes := #[28, 28] }, type := 28, pos := "baum.go:154", after := #[{ on := 13, ground := Ground.data }, { on := 21, ground := Ground.data }, { on := 13, ground := Ground.chain }], guard := none }) rfl (by kernel_rfl) (fun K hK => ?_)
    go_simp
    go_wp2_with (
      go_at_call 56
      refine hT2.mono ?_
      rintro e w8 (⟨hok8, ru, rv, rm, rfl, hie8, hb8⟩ | ⟨hno, rfl, hb8⟩)
      rotate_left
      · refine And.intro rfl ?_
        exact Or.inr ⟨fun h => hno h.2.2, rfl, Below.trans' HBA.out (Below.trans' HB9.out hb8.out)⟩
      have HO8 := Lib.hid hok8
      have HB8 := Lib.hid (Below.trans' HB9.out hb8.out)
      have HIE8 := Lib.hid hie8.out
      have q0 := (HRA.out.below HB8.out).freeG (i * 3)
      have q1 := (HRA.out.below HB8.out).freeG (i * 3 + 1)
      have q2 := (HRA.out.below HB8.out).freeG (i * 3 + 2)
      have m0 := below_cell (Below.trans' HBA.out HB8.out) HG0.out
      have m1 := below_cell (Below.trans' HBA.out HB8.out) HG1.out
      have m2 := below_cell (Below.trans' HBA.out HB8.out) HG2.out
      clear hb8 hie8 hok8 hT2
      )
    refine hK.out _ _ ?_ (fun hHeld2 => ?_)
    ·
      exact HK.out w8 HB8.out
    clear hK K hHeld1
    try simp only [Act.put, List.setIfInBounds_toArray, List.set_cons_zero, List.set_cons_succ]
    refine wpAnyL_take (i := 23) (oi := { dst := some 44, op := Op.indexAddr 150 (Operand.tmp 24) (Operand.tmp 25), type := 0, pos := "baum.go:154", after := #[{ on := 3, ground := Ground.data }, { on := 4, ground := Ground.data }, { on := 0, ground := Ground.phase }, { on := 1, ground := Ground.phase }, { on := 2, ground := Ground.phase }, { on := 3, ground := Ground.phase }, { on := 4, ground := Ground.phase }, { on := 5, ground := Ground.phase }, { on := 6, ground := Ground.phase }, { on := 7, ground := Ground.phase }, { on := 8, ground := Ground.phase }, { on := 9, ground := Ground.phase }, { on := 10, ground := Ground.phase }, { on := 11, ground := Ground.phase }, { on := 12, ground := Ground.phase }, { on := 13, ground := Ground.phase }, { on := 14, ground := Ground.phase }, { on := 15, ground := Ground.phase }, { on := 16, ground := Ground.phase }, { on := 17, ground := Ground.phase }, { on := 18, ground := Ground.phase }, { on := 19, ground := Ground.phase }, { on := 20, ground := Ground.phase }, { on := 21, ground := Ground.phase }, { on := 22, ground := Ground.phase }], guard := none }) (v := ?_) rfl (by kernel_rfl) (by kernel_rfl) (by kernel_rfl) (by kernel_rfl) (by kernel_rfl) (fun _ _ _ h => h) (Or.inl ⟨by rfl, ?_⟩) (by assumption) ?_
    rotate_left
    · (intro w hSw; (try dsimp only at hSw); go_simp)
      all_goals with_reducible rfl
    try simp only [Act.put, List.setIfInBounds_toArray, List.set_cons_zero, List.set_cons_succ]
    refine wpAnyL_late (i := 24) (o := { dst := none, op := Op.store 28 (Operand.tmp 44) (Operand.tmp 43), type := 0, pos := "baum.go:154", after := #[{ on := 23, ground := Ground.data }, { on := 22, ground := Ground.data }, { on := 22, ground := Ground.chain }, { on := 0, ground := Ground.phase }, { on := 1, ground := Ground.phase }, { on := 2, ground := Ground.phase }, { on := 3, ground := Ground.phase }, { on := 4, ground := Ground.phase }, { on := 5, ground := Ground.phase }, { on := 6, ground := Ground.phase }, { on := 7, ground := Ground.phase }, { on := 8, ground := Ground.phase }, { on := 9, ground := Ground.phase }, { on := 10, ground := Ground.phase }, { on := 11, ground := Ground.phase }, { on := 12, ground := Ground.phase }, { on := 13, ground := Ground.phase }, { on := 14, ground := Ground.phase }, { on := 15, ground := Ground.phase }, { on := 16, ground := Ground.phase }, { on := 17, ground := Ground.phase }, { on := 18, ground := Ground.phase }, { on := 19, ground := Ground.phase }, { on := 20, ground := Ground.phase }, { on := 21, ground := Ground.phase }, { on := 22, ground := Ground.phase }], guard := none }) rfl (by kernel_rfl) rfl (fun K hK => ?_)
    go_simp
    refine hK.out _ _ ?_
    clear hK K
    try simp only [Act.put, List.setIfInBounds_toArray, List.set_cons_zero, List.set_cons_succ]
    refine wpAnyL_done (by kernel_rfl) ?_ _
    -- the element is stored: the two others, and the letters, are cut out
    have HRS0 := Lib.hid ((HRA.out.below HB8.out).put (i := i) (t := ⟨ru, rv, rm⟩) (by have := HR.out.len; omega) HIE8.out)
    have HFS0 : Hid (Fr [p, ob, gb] W (((w8.setCell ⟨gb, i * 3, none⟩ (.pointer ru)).setCell ⟨gb, i * 3 + 1, none⟩ (.pointer rv)).setCell ⟨gb, i * 3 + 2, none⟩ (.pointer rm))) :=
      (((Fr.of_below (Below.trans' HBA.out HB8.out)).pre (fr_setCell _ _ (by simp))).pre (fr_setCell _ _ (by simp))).pre (fr_setCell _ _ (by simp))
    obtain ⟨wS, hwS⟩ : ∃ wS, wS = ((w8.setCell ⟨gb, i * 3, none⟩ (.pointer ru)).setCell ⟨gb, i * 3 + 1, none⟩ (.pointer rv)).setCell ⟨gb, i * 3 + 2, none⟩ (.pointer rm) := ⟨_, rfl⟩
    have HRS : Hid (Rd B wS p (.slice (some ⟨ob, 0, none⟩) o.length oc) (.slice (some ⟨gb, 0, none⟩) G.length gc) (l.set i ⟨ru, rv, rm⟩) o (G.set i (pinX c k x0 x2))) := by
      show Rd _ _ _ _ _ _ _ _; rw [hwS]; exact HRS0.out
    have HFS : Hid (Fr [p, ob, gb] W wS) := by show Fr _ _ _; rw [hwS]; exact HFS0.out
    rw [← hwS]
    clear hwS HRS0 HFS0 q0 q1 q2 m0 m1 m2 hA1 hA0 g0 g1 g2 HK
    have hrow : wS.ownsRow 0 28 3 (.slice (some ⟨gb, 0, none⟩) G.length gc) G.length (qcl (l.set i ⟨ru, rv, rm⟩)) := by
      have h := HRS.out.row
      rw [HRS.out.len, List.length_set] at h; exact h
    have hDel := delE_calls (i := i + 1) (j := i + 3) hrow (qcl_one _) (by omega) (by omega)
    obtain ⟨n', hn'⟩ : ∃ n', n' = G.length - (i + 3 - (i + 1)) := ⟨_, rfl⟩
    rw [← hn', show ((i + 1 : Nat) : Int) = (i : Int) + 1 by omega, show ((i + 3 : Nat) : Int) = (i : Int) + 3 by omega] at hDel
    have b1 := HRS.out.c1
    have HN' := Lib.hid hn'
    clear hrow hn'
    go_wp2_with fail
    refine hDel.mono ?_
    rintro e w10 ⟨rfl, hr10, hf10⟩
    have hobj10 : Hid (w10.heap[p]? = some (.cells #[.slice (some ⟨ob, 0, none⟩) o.length oc, .slice (some ⟨gb, 0, none⟩) G.length gc] 152 (0, 0))) := by
      have hlt := (Array.getElem?_eq_some_iff.1 HRS.out.obj).1
      have hpg : p ≠ gb := by
        obtain ⟨cur, hg, -⟩ := rown_block (n := G.length) (by have h := HRS.out.row; rw [HRS.out.len, List.length_set] at h; exact h)
        exact type_ne HRS.out.obj hg (by decide)
      exact (hf10.out.block p hlt (by simpa using hpg)).trans HRS.out.obj
    have b10 : w10.cell? ⟨p, 1, none⟩ = some (.slice (some ⟨gb, 0, none⟩) G.length gc) := by rw [cell_of hobj10.out]; rfl
    have b10o : w10.cell? ⟨p, 0, none⟩ = some (.slice (some ⟨ob, 0, none⟩) o.length oc) := by rw [cell_of hobj10.out]; rfl
    have f10 := free_of hobj10.out 1
    have HR11 : Hid (Rd B (w10.setCell ⟨p, 1, none⟩ (.slice (some ⟨gb, 0, none⟩) n' gc)) p (.slice (some ⟨ob, 0, none⟩) o.length oc) (.slice (some ⟨gb, 0, none⟩) n' gc) ((l.set i ⟨ru, rv, rm⟩).take (i + 1) ++ (l.set i ⟨ru, rv, rm⟩).drop (i + 3)) o ((G.set i (pinX c k x0 x2)).take (i + 1) ++ (G.set i (pinX c k x0 x2)).drop (i + 3))) :=
      HRS.out.cutG hf10.out (by omega) (by rw [HRS.out.len, List.length_set]; omega) hr10.out
    have HF11 : Hid (Fr [p, ob, gb] W (w10.setCell ⟨p, 1, none⟩ (.slice (some ⟨gb, 0, none⟩) n' gc))) := (HFS.out.pre (hf10.out.more (by simp))).pre (fr_setCell _ _ (by simp))
    clear hDel hr10 hf10 b1
    go_wp2_with fail
    clear b10 f10 b10o
    obtain ⟨w11, hw11⟩ : ∃ w11, w11 = w10.setCell ⟨p, 1, none⟩ (.slice (some ⟨gb, 0, none⟩) n' gc) := ⟨_, rfl⟩
    rw [← hw11] at HR11 HF11 ⊢
    clear hw11
    have hrow := HR11.out.out
    have hDel := delB_calls (i := i) (j := i + 2) (g := ob) (n := o.length) (cap := oc) hrow (by intro u hu; obtain ⟨b, _, rfl⟩ := List.mem_map.1 hu; rfl) (by omega) (by omega)
    obtain ⟨n2, hn2⟩ : ∃ n2, n2 = o.length - (i + 2 - i) := ⟨_, rfl⟩
    rw [← hn2, show ((i + 2 : Nat) : Int) = (i : Int) + 2 by omega] at hDel
    have HN2 := Lib.hid hn2
    clear hrow hn2
    refine hDel.mono ?_
    rintro e w12 ⟨rfl, hr12, hf12⟩
    have hobj12 : Hid (w12.heap[p]? = some (.cells #[.slice (some ⟨ob, 0, none⟩) o.length oc, .slice (some ⟨gb, 0, none⟩) n' gc] 152 (0, 0))) := by
      have hlt := (Array.getElem?_eq_some_iff.1 HR11.out.obj).1
      have hpg : p ≠ ob := by
        obtain ⟨cur, hg, -⟩ := rown_block HR11.out.out
        exact type_ne HR11.out.obj hg (by decide)
      exact (hf12.out.block p hlt (by simpa using hpg)).trans HR11.out.obj
    have b10 : w12.cell? ⟨p, 0, none⟩ = some (.slice (some ⟨ob, 0, none⟩) o.length oc) := by rw [cell_of hobj12.out]; rfl
    have f10 := free_of hobj12.out 0
    have HR13 : Hid (Rd B (w12.setCell ⟨p, 0, none⟩ (.slice (some ⟨ob, 0, none⟩) n2 oc)) p (.slice (some ⟨ob, 0, none⟩) n2 oc) (.slice (some ⟨gb, 0, none⟩) n' gc) ((l.set i ⟨ru, rv, rm⟩).take (i + 1) ++ (l.set i ⟨ru, rv, rm⟩).drop (i + 3)) (o.take i ++ o.drop (i + 2)) ((G.set i (pinX c k x0 x2)).take (i + 1) ++ (G.set i (pinX c k x0 x2)).drop (i + 3))) :=
      HR11.out.cutO hf12.out (by omega) (by omega) hr12.out
    have HF13 : Hid (Fr [p, ob, gb] W (w12.setCell ⟨p, 0, none⟩ (.slice (some ⟨ob, 0, none⟩) n2 oc))) := (HF11.out.pre (hf12.out.more (by simp))).pre (fr_setCell _ _ (by simp))
    clear hDel hr12 hf12
    go_wp2_with fail
    go_end0
    refine Or.inl ⟨⟨HOKP.out, HO9.out, HO8.out⟩, ob, gb, rfl, rfl, rfl, .slice (some ⟨ob, 0, none⟩) n2 oc, .slice (some ⟨gb, 0, none⟩) n' gc, (l.set i ⟨ru, rv, rm⟩).take (i + 1) ++ (l.set i ⟨ru, rv, rm⟩).drop (i + 3), ?_, ⟨rfl, rfl⟩, HF13⟩
    show Rd _ _ _ _ _ _ _ _
    have h := HR13.out
    rw [cut_set (G := G) (by omega)] at h
    exact h
  · have hb1 : decide ((c.toNat : Int) = 66) = false := by
      simp only [decide_eq_false_iff_not]; intro h; exact hb (UInt8.toNat_inj.1 (by show _ = 66; omega))
    have hb2 : ((c.toNat : Int) == 66) = false := by simpa using hb1
    have HPE : Hid (pinE c k = ⟨0, 0, k⟩) := by show _ = _; unfold pinE; rw [if_neg hb]
    have HOKP : Hid (c = 66 → plainOK k 0) := fun h => absurd h hb
    clear hb
    go_wp2_with fail
    have YA : Hid (W2.heap[W.heap.size + 1]? = some (.cells #[.pointer none, .pointer none, .pointer qk] 28 (0, 0))) := HH.out (W.heap.size + 1, #[.pointer none, .pointer none, .pointer qk], 28) (by simp)
    have HEA : Hid (IsE W2 (.agg #[.pointer none, .pointer none, .pointer qk]) (pinE c k)) := by
      show IsE _ _ _
      rw [HPE.out]; exact ⟨none, none, qk, rfl, isN_zero _, isN_zero _, HK0.out.below HB2.out⟩
    have HBA := HB2
    rw [show (W.alloc (.cells #[.pointer qk] 26)).alloc (.cells #[.pointer none, .pointer none, .pointer qk] 28) = W2 from HW2.out.symm]
    clear a0 a1 bc
    have g0 := below_cell HBA.out HG0.out
    have g1 := below_cell HBA.out HG1.out
    have g2 := below_cell HBA.out HG2.out
    -- the world W2, the element's block W.heap.size + 1 holds none none qk
    have hA1 := (HR.out.below HBA.out).c1
    have hA0 := (HR.out.below HBA.out).c0
    have HRA := Lib.hid (HR.out.below HBA.out)
    have HX0 := Lib.hid (HE0.out.below HBA.out)
    have HX2 := Lib.hid (HE2.out.below HBA.out)
    have hT1 := times_any (W := W2.drew) (HX0.out.below ((Below.refl _ _).drew)) (HEA.out.below ((Below.refl _ _).drew))
    have HK : Hid (∀ w' : World, Below W2.heap.size W2 w' → (fun w' => w'.cell? ⟨p, 1, none⟩ = some (.slice (some ⟨gb, 0, none⟩) G.length gc) ∧ (w'.cell? ⟨W.heap.size + 1, 0, none⟩ = some (.pointer none) ∧ w'.cell? ⟨W.heap.size + 1, 1, none⟩ = some (.pointer none) ∧ w'.cell? ⟨W.heap.size + 1, 2, none⟩ = some (.pointer qk)) ∧ (w'.cell? ⟨gb, (i + 2) * 3, none⟩ = some (.pointer t2.1) ∧ w'.cell? ⟨gb, (i + 2) * 3 + 1, none⟩ = some (.pointer t2.2.1) ∧ w'.cell? ⟨gb, (i + 2) * 3 + 2, none⟩ = some (.pointer t2.2.2)) ∧ w'.cell? ⟨gb, i * 3, none⟩ = some (.pointer t0.1) ∧ w'.cell? ⟨gb, i * 3 + 1, none⟩ = some (.pointer t0.2.1) ∧ w'.cell? ⟨gb, i * 3 + 2, none⟩ = some (.pointer t0.2.2)) w') := fun w' hb => by
      have hy := Below.here hb YA.out
      have hbw := Below.trans' HBA.out hb
      refine ⟨(HRA.out.below hb).c1, ⟨by rw [cell_of hy]; rfl, by rw [cell_of hy]; rfl, by rw [cell_of hy]; rfl⟩, ⟨below_cell hbw HG3.out, below_cell hbw HG4.out, below_cell hbw HG5.out⟩, below_cell hbw HG0.out, below_cell hbw HG1.out, below_cell hbw HG2.out⟩
    refine wp_region_late (S := fun w' => w'.cell? ⟨p, 1, none⟩ = some (.slice (some ⟨gb, 0, none⟩) G.length gc) ∧ (w'.cell? ⟨W.heap.size + 1, 0, none⟩ = some (.pointer none) ∧ w'.cell? ⟨W.heap.size + 1, 1, none⟩ = some (.pointer none) ∧ w'.cell? ⟨W.heap.size + 1, 2, none⟩ = some (.pointer qk)) ∧ (w'.cell? ⟨gb, (i + 2) * 3, none⟩ = some (.pointer t2.1) ∧ w'.cell? ⟨gb, (i + 2) * 3 + 1, none⟩ = some (.pointer t2.2.1) ∧ w'.cell? ⟨gb, (i + 2) * 3 + 2, none⟩ = some (.pointer t2.2.2)) ∧ w'.cell? ⟨gb, i * 3, none⟩ = some (.pointer t0.1) ∧ w'.cell? ⟨gb, i * 3 + 1, none⟩ = some (.pointer t0.2.1) ∧ w'.cell? ⟨gb, i * 3 + 2, none⟩ = some (.pointer t0.2.2)) (late := [24]) (by kernel_rfl) ?_ (fun hHeld => ?_)
    ·
      exact HK.out W2.drew ((Below.refl _ _).drew)
    refine wpAnyL_take (i := 0) (oi := { dst := some 21, op := Op.move (Operand.tmp 0), type := 98, pos := "baum.go:154", after := #[], guard := none }) (v := ?_) rfl (by kernel_rfl) (by kernel_rfl) (by kernel_rfl) (by kernel_rfl) (by kernel_rfl) (fun _ _ _ h => h) (Or.inl ⟨by rfl, ?_⟩) (by assumption) ?_
    rotate_left
    · (intro w hSw; (try dsimp only at hSw); go_simp)
      all_goals with_reducible rfl
    try simp only [Act.put, List.setIfInBounds_toArray, List.set_cons_zero, List.set_cons_succ]
    refine wpAnyL_take (i := 1) (oi := { dst := some 22, op := Op.nilCheck (Operand.tmp 21), type := 0, pos := "baum.go:154", after := #[{ on := 0, ground := Ground.data }], guard := none }) (v := ?_) rfl (by kernel_rfl) (by kernel_rfl) (by kernel_rfl) (by kernel_rfl) (by kernel_rfl) (fun _ _ _ h => h) (Or.inl ⟨by rfl, ?_⟩) (by assumption) ?_
    rotate_left
    · (intro w hSw; (try dsimp only at hSw); go_simp)
      all_goals with_reducible rfl
    try simp only [Act.put, List.setIfInBounds_toArray, List.set_cons_zero, List.set_cons_succ]
    refine wpAnyL_take (i := 2) (oi := { dst := some 23, op := Op.fieldAddr 152 (Operand.tmp 22) 1, type := 0, pos := "baum.go:154", after := #[{ on := 1, ground := Ground.data }], guard := none }) (v := ?_) rfl (by kernel_rfl) (by kernel_rfl) (by kernel_rfl) (by kernel_rfl) (by kernel_rfl) (fun _ _ _ h => h) (Or.inl ⟨by rfl, ?_⟩) (by assumption) ?_
    rotate_left
    · (intro w hSw; (try dsimp only at hSw); go_simp)
      all_goals with_reducible rfl
    try simp only [Act.put, List.setIfInBounds_toArray, List.set_cons_zero, List.set_cons_succ]
    refine wpAnyL_take (i := 3) (oi := { dst := some 24, op := Op.load 150 (Operand.tmp 23), type := 150, pos := "baum.go:154", after := #[{ on := 2, ground := Ground.data }], guard := none }) (v := ?_) rfl (by kernel_rfl) (by kernel_rfl) (by kernel_rfl) (by kernel_rfl) (by kernel_rfl) (fun _ _ _ h => h) (Or.inl ⟨by rfl, ?_⟩) (by assumption) ?_
    rotate_left
    · (intro w hSw; (try dsimp only at hSw); go_simp)
      all_goals with_reducible rfl
    try simp only [Act.put, List.setIfInBounds_toArray, List.set_cons_zero, List.set_cons_succ]
    refine wpAnyL_take (i := 4) (oi := { dst := some 25, op := Op.move (Operand.tmp 1), type := 3, pos := "baum.go:154", after := #[], guard := none }) (v := ?_) rfl (by kernel_rfl) (by kernel_rfl) (by kernel_rfl) (by kernel_rfl) (by kernel_rfl) (fun _ _ _ h => h) (Or.inl ⟨by rfl, ?_⟩) (by assumption) ?_
    rotate_left
    · (intro w hSw; (try dsimp only at hSw); go_simp)
      all_goals with_reducible rfl
    try simp only [Act.put, List.setIfInBounds_toArray, List.set_cons_zero, List.set_cons_succ]
    refine wpAnyL_take (i := 5) (oi := { dst := some 26, op := Op.move (Operand.tmp 0), type := 98, pos := "baum.go:154", after := #[], guard := none }) (v := ?_) rfl (by kernel_rfl) (by kernel_rfl) (by kernel_rfl) (by kernel_rfl) (by kernel_rfl) (fun _ _ _ h => h) (Or.inl ⟨by rfl, ?_⟩) (by assumption) ?_
    rotate_left
    · (intro w hSw; (try dsimp only at hSw); go_simp)
      all_goals with_reducible rfl
    try simp only [Act.put, List.setIfInBounds_toArray, List.set_cons_zero, List.set_cons_succ]
    refine wpAnyL_take (i := 6) (oi := { dst := some 27, op := Op.nilCheck (Operand.tmp 26), type := 0, pos := "baum.go:154", after := #[{ on := 5, ground := Ground.data }], guard := none }) (v := ?_) rfl (by kernel_rfl) (by kernel_rfl) (by kernel_rfl) (by kernel_rfl) (by kernel_rfl) (fun _ _ _ h => h) (Or.inl ⟨by rfl, ?_⟩) (by assumption) ?_
    rotate_left
    · (intro w hSw; (try dsimp only at hSw); go_simp)
      all_goals with_reducible rfl
    try simp only [Act.put, List.setIfInBounds_toArray, List.set_cons_zero, List.set_cons_succ]
    refine wpAnyL_take (i := 7) (oi := { dst := some 28, op := Op.fieldAddr 152 (Operand.tmp 27) 1, type := 0, pos := "baum.go:154", after := #[{ on := 6, ground := Ground.data }], guard := none }) (v := ?_) rfl (by kernel_rfl) (by kernel_rfl) (by kernel_rfl) (by kernel_rfl) (by kernel_rfl) (fun _ _ _ h => h) (Or.inl ⟨by rfl, ?_⟩) (by assumption) ?_
    rotate_left
    · (intro w hSw; (try dsimp only at hSw); go_simp)
      all_goals with_reducible rfl
    try simp only [Act.put, List.setIfInBounds_toArray, List.set_cons_zero, List.set_cons_succ]
    refine wpAnyL_take (i := 8) (oi := { dst := some 29, op := Op.load 150 (Operand.tmp 28), type := 150, pos := "baum.go:154", after := #[{ on := 7, ground := Ground.data }], guard := none }) (v := ?_) rfl (by kernel_rfl) (by kernel_rfl) (by kernel_rfl) (by kernel_rfl) (by kernel_rfl) (fun _ _ _ h => h) (Or.inl ⟨by rfl, ?_⟩) (by assumption) ?_
    rotate_left
    · (intro w hSw; (try dsimp only at hSw); go_simp)
      all_goals with_reducible rfl
    try simp only [Act.put, List.setIfInBounds_toArray, List.set_cons_zero, List.set_cons_succ]
    refine wpAnyL_take (i := 9) (oi := { dst := some 30, op := Op.move (Operand.tmp 1), type := 3, pos := "baum.go:154", after := #[], guard := none }) (v := ?_) rfl (by kernel_rfl) (by kernel_rfl) (by kernel_rfl) (by kernel_rfl) (by kernel_rfl) (fun _ _ _ h => h) (Or.inl ⟨by rfl, ?_⟩) (by assumption) ?_
    rotate_left
    · (intro w hSw; (try dsimp only at hSw); go_simp)
      all_goals with_reducible rfl
    try simp only [Act.put, List.setIfInBounds_toArray, List.set_cons_zero, List.set_cons_succ]
    refine wpAnyL_take (i := 10) (oi := { dst := some 31, op := Op.indexAddr 150 (Operand.tmp 29) (Operand.tmp 30), type := 0, pos := "baum.go:154", after := #[{ on := 8, ground := Ground.data }, { on := 9, ground := Ground.data }], guard := none }) (v := ?_) rfl (by kernel_rfl) (by kernel_rfl) (by kernel_rfl) (by kernel_rfl) (by kernel_rfl) (fun _ _ _ h => h) (Or.inl ⟨by rfl, ?_⟩) (by assumption) ?_
    rotate_left
    · (intro w hSw; (try dsimp only at hSw); go_simp)
      all_goals with_reducible rfl
    try simp only [Act.put, List.setIfInBounds_toArray, List.set_cons_zero, List.set_cons_succ]
    refine wpAnyL_take (i := 11) (oi := { dst := some 32, op := Op.load 28 (Operand.tmp 31), type := 28, pos := "baum.go:154", after := #[{ on := 10, ground := Ground.data }], guard := none }) (v := ?_) rfl (by kernel_rfl) (by kernel_rfl) (by kernel_rfl) (by kernel_rfl) (by kernel_rfl) (fun _ _ _ h => h) (Or.inl ⟨by rfl, ?_⟩) (by assumption) ?_
    rotate_left
    · (intro w hSw; (try dsimp only at hSw); go_simp)
      all_goals with_reducible rfl
    try simp only [Act.put, List.setIfInBounds_toArray, List.set_cons_zero, List.set_cons_succ]
    refine wpAnyL_take (i := 12) (oi := { dst := some 33, op := Op.load 28 (Operand.tmp 6), type := 28, pos := "baum.go:154", after := #[], guard := none }) (v := ?_) rfl (by kernel_rfl) (by kernel_rfl) (by kernel_rfl) (by kernel_rfl) (by kernel_rfl) (fun _ _ _ h => h) (Or.inl ⟨by rfl, ?_⟩) (by assumption) ?_
    rotate_left
    · (intro w hSw; (try dsimp only at hSw); go_simp)
      all_goals with_reducible rfl
    try simp only [Act.put, List.setIfInBounds_toArray, List.set_cons_zero, List.set_cons_succ]
    refine wpAnyL_take (i := 14) (oi := { dst := some 35, op := Op.move (Operand.tmp 0), type := 98, pos := "baum.go:154", after := #[], guard := none }) (v := ?_) rfl (by kernel_rfl) (by kernel_rfl) (by kernel_rfl) (by kernel_rfl) (by kernel_rfl) (fun _ _ _ h => h) (Or.inl ⟨by rfl, ?_⟩) (by assumption) ?_
    rotate_left
    · (intro w hSw; (try dsimp only at hSw); go_simp)
      all_goals with_reducible rfl
    try simp only [Act.put, List.setIfInBounds_toArray, List.set_cons_zero, List.set_cons_succ]
    refine wpAnyL_take (i := 15) (oi := { dst := some 36, op := Op.nilCheck (Operand.tmp 35), type := 0, pos := "baum.go:154", after := #[{ on := 14, ground := Ground.data }], guard := none }) (v := ?_) rfl (by kernel_rfl) (by kernel_rfl) (by kernel_rfl) (by kernel_rfl) (by kernel_rfl) (fun _ _ _ h => h) (Or.inl ⟨by rfl, ?_⟩) (by assumption) ?_
    rotate_left
    · (intro w hSw; (try dsimp only at hSw); go_simp)
      all_goals with_reducible rfl
    try simp only [Act.put, List.setIfInBounds_toArray, List.set_cons_zero, List.set_cons_succ]
    refine wpAnyL_take (i := 16) (oi := { dst := some 37, op := Op.fieldAddr 152 (Operand.tmp 36) 1, type := 0, pos := "baum.go:154", after := #[{ on := 15, ground := Ground.data }], guard := none }) (v := ?_) rfl (by kernel_rfl) (by kernel_rfl) (by kernel_rfl) (by kernel_rfl) (by kernel_rfl) (fun _ _ _ h => h) (Or.inl ⟨by rfl, ?_⟩) (by assumption) ?_
    rotate_left
    · (intro w hSw; (try dsimp only at hSw); go_simp)
      all_goals with_reducible rfl
    try simp only [Act.put, List.setIfInBounds_toArray, List.set_cons_zero, List.set_cons_succ]
    refine wpAnyL_take (i := 17) (oi := { dst := some 38, op := Op.load 150 (Operand.tmp 37), type := 150, pos := "baum.go:154", after := #[{ on := 16, ground := Ground.data }], guard := none }) (v := ?_) rfl (by kernel_rfl) (by kernel_rfl) (by kernel_rfl) (by kernel_rfl) (by kernel_rfl) (fun _ _ _ h => h) (Or.inl ⟨by rfl, ?_⟩) (by assumption) ?_
    rotate_left
    · (intro w hSw; (try dsimp only at hSw); go_simp)
      all_goals with_reducible rfl
    try simp only [Act.put, List.setIfInBounds_toArray, List.set_cons_zero, List.set_cons_succ]
    refine wpAnyL_take (i := 18) (oi := { dst := some 39, op := Op.move (Operand.tmp 1), type := 3, pos := "baum.go:154", after := #[], guard := none }) (v := ?_) rfl (by kernel_rfl) (by kernel_rfl) (by kernel_rfl) (by kernel_rfl) (by kernel_rfl) (fun _ _ _ h => h) (Or.inl ⟨by rfl, ?_⟩) (by assumption) ?_
    rotate_left
    · (intro w hSw; (try dsimp only at hSw); go_simp)
      all_goals with_reducible rfl
    try simp only [Act.put, List.setIfInBounds_toArray, List.set_cons_zero, List.set_cons_succ]
    refine wpAnyL_take (i := 19) (oi := { dst := some 40, op := Op.binOp BinOp.add 3 (Operand.tmp 39) (Operand.const (Value.int IntKind.i64 2)) 3, type := 3, pos := "baum.go:154", after := #[{ on := 18, ground := Ground.data }], guard := none }) (v := ?_) rfl (by kernel_rfl) (by kernel_rfl) (by kernel_rfl) (by kernel_rfl) (by kernel_rfl) (fun _ _ _ h => h) (Or.inl ⟨by rfl, ?_⟩) (by assumption) ?_
    rotate_left
    · (intro w hSw; (try dsimp only at hSw); go_simp)
      all_goals with_reducible rfl
    try simp only [Act.put, List.setIfInBounds_toArray, List.set_cons_zero, List.set_cons_succ]
    refine wpAnyL_take (i := 20) (oi := { dst := some 41, op := Op.indexAddr 150 (Operand.tmp 38) (Operand.tmp 40), type := 0, pos := "baum.go:154", after := #[{ on := 17, ground := Ground.data }, { on := 19, ground := Ground.data }], guard := none }) (v := ?_) rfl (by kernel_rfl) (by kernel_rfl) (by kernel_rfl) (by kernel_rfl) (by kernel_rfl) (fun _ _ _ h => h) (Or.inl ⟨by rfl, ?_⟩) (by assumption) ?_
    rotate_left
    · (intro w hSw; (try dsimp only at hSw); go_simp)
      all_goals with_reducible rfl
    try simp only [Act.put, List.setIfInBounds_toArray, List.set_cons_zero, List.set_cons_succ]
    refine wpAnyL_take (i := 21) (oi := { dst := some 42, op := Op.load 28 (Operand.tmp 41), type := 28, pos := "baum.go:154", after := #[{ on := 20, ground := Ground.data }], guard := none }) (v := ?_) rfl (by kernel_rfl) (by kernel_rfl) (by kernel_rfl) (by kernel_rfl) (by kernel_rfl) (fun _ _ _ h => h) (Or.inl ⟨by rfl, ?_⟩) (by assumption) ?_
    rotate_left
    · (intro w hSw; (try dsimp only at hSw); go_simp)
      all_goals with_reducible rfl
    try simp only [Act.put, List.setIfInBounds_toArray, List.set_cons_zero, List.set_cons_succ]
    refine wpAnyL_step (i := 13) (o := { dst := some 34, op := Op.call { callee := Callee.value (Operand.func 56), args := #[Operand.tmp 32, Operand.tmp 33], argTypes := #[28, 28] }, type := 28, pos := "baum.go:154", after := #[{ on := 11, ground := Ground.data }, { on := 12, ground := Ground.data }], guard := none }) rfl (by kernel_rfl) (fun K hK => ?_)
    go_simp
    go_wp2_with (
      go_at_call 56
      refine hT1.mono ?_
      rintro e w9 (⟨hok9, pu, pv, pm, rfl, hie9, hb9⟩ | ⟨hno, rfl, hb9⟩)
      rotate_left
      · refine And.intro rfl ?_
        exact Or.inr ⟨fun h => hno h.2.1, rfl, Below.trans' HBA.out (Below.trans' ((Below.refl _ _).drew) hb9.out)⟩
      have HO9 := Lib.hid hok9
      have HB9 := Lib.hid (Below.trans' (W := W2) ((Below.refl _ _).drew) hb9.out)
      have hT2 := times_any (W := w9) hie9.out (HX2.out.below HB9.out)
      clear hb9 hie9 hT1 hok9
      )
    refine hK.out _ _ ?_ (fun hHeld1 => ?_)
    ·
      exact HK.out w9 HB9.out
    clear hK K hHeld
    try simp only [Act.put, List.setIfInBounds_toArray, List.set_cons_zero, List.set_cons_succ]
    refine wpAnyL_step (i := 22) (o := { dst := some 43, op := Op.call { callee := Callee.value (Operand.func 56), args := #[Operand.tmp 34, Operand.tmp 42], argTypes := #[28, 28] }, type := 28, pos := "baum.go:154", after := #[{ on := 13, ground := Ground.data }, { on := 21, ground := Ground.data }, { on := 13, ground := Ground.chain }], guard := none }) rfl (by kernel_rfl) (fun K hK => ?_)
    go_simp
    go_wp2_with (
      go_at_call 56
      refine hT2.mono ?_
      rintro e w8 (⟨hok8, ru, rv, rm, rfl, hie8, hb8⟩ | ⟨hno, rfl, hb8⟩)
      rotate_left
      · refine And.intro rfl ?_
        exact Or.inr ⟨fun h => hno h.2.2, rfl, Below.trans' HBA.out (Below.trans' HB9.out hb8.out)⟩
      have HO8 := Lib.hid hok8
      have HB8 := Lib.hid (Below.trans' HB9.out hb8.out)
      have HIE8 := Lib.hid hie8.out
      have q0 := (HRA.out.below HB8.out).freeG (i * 3)
      have q1 := (HRA.out.below HB8.out).freeG (i * 3 + 1)
      have q2 := (HRA.out.below HB8.out).freeG (i * 3 + 2)
      have m0 := below_cell (Below.trans' HBA.out HB8.out) HG0.out
      have m1 := below_cell (Below.trans' HBA.out HB8.out) HG1.out
      have m2 := below_cell (Below.trans' HBA.out HB8.out) HG2.out
      clear hb8 hie8 hok8 hT2
      )
    refine hK.out _ _ ?_ (fun hHeld2 => ?_)
    ·
      exact HK.out w8 HB8.out
    clear hK K hHeld1
    try simp only [Act.put, List.setIfInBounds_toArray, List.set_cons_zero, List.set_cons_succ]
    refine wpAnyL_take (i := 23) (oi := { dst := some 44, op := Op.indexAddr 150 (Operand.tmp 24) (Operand.tmp 25), type := 0, pos := "baum.go:154", after := #[{ on := 3, ground := Ground.data }, { on := 4, ground := Ground.data }, { on := 0, ground := Ground.phase }, { on := 1, ground := Ground.phase }, { on := 2, ground := Ground.phase }, { on := 3, ground := Ground.phase }, { on := 4, ground := Ground.phase }, { on := 5, ground := Ground.phase }, { on := 6, ground := Ground.phase }, { on := 7, ground := Ground.phase }, { on := 8, ground := Ground.phase }, { on := 9, ground := Ground.phase }, { on := 10, ground := Ground.phase }, { on := 11, ground := Ground.phase }, { on := 12, ground := Ground.phase }, { on := 13, ground := Ground.phase }, { on := 14, ground := Ground.phase }, { on := 15, ground := Ground.phase }, { on := 16, ground := Ground.phase }, { on := 17, ground := Ground.phase }, { on := 18, ground := Ground.phase }, { on := 19, ground := Ground.phase }, { on := 20, ground := Ground.phase }, { on := 21, ground := Ground.phase }, { on := 22, ground := Ground.phase }], guard := none }) (v := ?_) rfl (by kernel_rfl) (by kernel_rfl) (by kernel_rfl) (by kernel_rfl) (by kernel_rfl) (fun _ _ _ h => h) (Or.inl ⟨by rfl, ?_⟩) (by assumption) ?_
    rotate_left
    · (intro w hSw; (try dsimp only at hSw); go_simp)
      all_goals with_reducible rfl
    try simp only [Act.put, List.setIfInBounds_toArray, List.set_cons_zero, List.set_cons_succ]
    refine wpAnyL_late (i := 24) (o := { dst := none, op := Op.store 28 (Operand.tmp 44) (Operand.tmp 43), type := 0, pos := "baum.go:154", after := #[{ on := 23, ground := Ground.data }, { on := 22, ground := Ground.data }, { on := 22, ground := Ground.chain }, { on := 0, ground := Ground.phase }, { on := 1, ground := Ground.phase }, { on := 2, ground := Ground.phase }, { on := 3, ground := Ground.phase }, { on := 4, ground := Ground.phase }, { on := 5, ground := Ground.phase }, { on := 6, ground := Ground.phase }, { on := 7, ground := Ground.phase }, { on := 8, ground := Ground.phase }, { on := 9, ground := Ground.phase }, { on := 10, ground := Ground.phase }, { on := 11, ground := Ground.phase }, { on := 12, ground := Ground.phase }, { on := 13, ground := Ground.phase }, { on := 14, ground := Ground.phase }, { on := 15, ground := Ground.phase }, { on := 16, ground := Ground.phase }, { on := 17, ground := Ground.phase }, { on := 18, ground := Ground.phase }, { on := 19, ground := Ground.phase }, { on := 20, ground := Ground.phase }, { on := 21, ground := Ground.phase }, { on := 22, ground := Ground.phase }], guard := none }) rfl (by kernel_rfl) rfl (fun K hK => ?_)
    go_simp
    refine hK.out _ _ ?_
    clear hK K
    try simp only [Act.put, List.setIfInBounds_toArray, List.set_cons_zero, List.set_cons_succ]
    refine wpAnyL_done (by kernel_rfl) ?_ _
    -- the element is stored: the two others, and the letters, are cut out
    have HRS0 := Lib.hid ((HRA.out.below HB8.out).put (i := i) (t := ⟨ru, rv, rm⟩) (by have := HR.out.len; omega) HIE8.out)
    have HFS0 : Hid (Fr [p, ob, gb] W (((w8.setCell ⟨gb, i * 3, none⟩ (.pointer ru)).setCell ⟨gb, i * 3 + 1, none⟩ (.pointer rv)).setCell ⟨gb, i * 3 + 2, none⟩ (.pointer rm))) :=
      (((Fr.of_below (Below.trans' HBA.out HB8.out)).pre (fr_setCell _ _ (by simp))).pre (fr_setCell _ _ (by simp))).pre (fr_setCell _ _ (by simp))
    obtain ⟨wS, hwS⟩ : ∃ wS, wS = ((w8.setCell ⟨gb, i * 3, none⟩ (.pointer ru)).setCell ⟨gb, i * 3 + 1, none⟩ (.pointer rv)).setCell ⟨gb, i * 3 + 2, none⟩ (.pointer rm) := ⟨_, rfl⟩
    have HRS : Hid (Rd B wS p (.slice (some ⟨ob, 0, none⟩) o.length oc) (.slice (some ⟨gb, 0, none⟩) G.length gc) (l.set i ⟨ru, rv, rm⟩) o (G.set i (pinX c k x0 x2))) := by
      show Rd _ _ _ _ _ _ _ _; rw [hwS]; exact HRS0.out
    have HFS : Hid (Fr [p, ob, gb] W wS) := by show Fr _ _ _; rw [hwS]; exact HFS0.out
    rw [← hwS]
    clear hwS HRS0 HFS0 q0 q1 q2 m0 m1 m2 hA1 hA0 g0 g1 g2 HK
    have hrow : wS.ownsRow 0 28 3 (.slice (some ⟨gb, 0, none⟩) G.length gc) G.length (qcl (l.set i ⟨ru, rv, rm⟩)) := by
      have h := HRS.out.row
      rw [HRS.out.len, List.length_set] at h; exact h
    have hDel := delE_calls (i := i + 1) (j := i + 3) hrow (qcl_one _) (by omega) (by omega)
    obtain ⟨n', hn'⟩ : ∃ n', n' = G.length - (i + 3 - (i + 1)) := ⟨_, rfl⟩
    rw [← hn', show ((i + 1 : Nat) : Int) = (i : Int) + 1 by omega, show ((i + 3 : Nat) : Int) = (i : Int) + 3 by omega] at hDel
    have b1 := HRS.out.c1
    have HN' := Lib.hid hn'
    clear hrow hn'
    go_wp2_with fail
    refine hDel.mono ?_
    rintro e w10 ⟨rfl, hr10, hf10⟩
    have hobj10 : Hid (w10.heap[p]? = some (.cells #[.slice (some ⟨ob, 0, none⟩) o.length oc, .slice (some ⟨gb, 0, none⟩) G.length gc] 152 (0, 0))) := by
      have hlt := (Array.getElem?_eq_some_iff.1 HRS.out.obj).1
      have hpg : p ≠ gb := by
        obtain ⟨cur, hg, -⟩ := rown_block (n := G.length) (by have h := HRS.out.row; rw [HRS.out.len, List.length_set] at h; exact h)
        exact type_ne HRS.out.obj hg (by decide)
      exact (hf10.out.block p hlt (by simpa using hpg)).trans HRS.out.obj
    have b10 : w10.cell? ⟨p, 1, none⟩ = some (.slice (some ⟨gb, 0, none⟩) G.length gc) := by rw [cell_of hobj10.out]; rfl
    have b10o : w10.cell? ⟨p, 0, none⟩ = some (.slice (some ⟨ob, 0, none⟩) o.length oc) := by rw [cell_of hobj10.out]; rfl
    have f10 := free_of hobj10.out 1
    have HR11 : Hid (Rd B (w10.setCell ⟨p, 1, none⟩ (.slice (some ⟨gb, 0, none⟩) n' gc)) p (.slice (some ⟨ob, 0, none⟩) o.length oc) (.slice (some ⟨gb, 0, none⟩) n' gc) ((l.set i ⟨ru, rv, rm⟩).take (i + 1) ++ (l.set i ⟨ru, rv, rm⟩).drop (i + 3)) o ((G.set i (pinX c k x0 x2)).take (i + 1) ++ (G.set i (pinX c k x0 x2)).drop (i + 3))) :=
      HRS.out.cutG hf10.out (by omega) (by rw [HRS.out.len, List.length_set]; omega) hr10.out
    have HF11 : Hid (Fr [p, ob, gb] W (w10.setCell ⟨p, 1, none⟩ (.slice (some ⟨gb, 0, none⟩) n' gc))) := (HFS.out.pre (hf10.out.more (by simp))).pre (fr_setCell _ _ (by simp))
    clear hDel hr10 hf10 b1
    go_wp2_with fail
    clear b10 f10 b10o
    obtain ⟨w11, hw11⟩ : ∃ w11, w11 = w10.setCell ⟨p, 1, none⟩ (.slice (some ⟨gb, 0, none⟩) n' gc) := ⟨_, rfl⟩
    rw [← hw11] at HR11 HF11 ⊢
    clear hw11
    have hrow := HR11.out.out
    have hDel := delB_calls (i := i) (j := i + 2) (g := ob) (n := o.length) (cap := oc) hrow (by intro u hu; obtain ⟨b, _, rfl⟩ := List.mem_map.1 hu; rfl) (by omega) (by omega)
    obtain ⟨n2, hn2⟩ : ∃ n2, n2 = o.length - (i + 2 - i) := ⟨_, rfl⟩
    rw [← hn2, show ((i + 2 : Nat) : Int) = (i : Int) + 2 by omega] at hDel
    have HN2 := Lib.hid hn2
    clear hrow hn2
    refine hDel.mono ?_
    rintro e w12 ⟨rfl, hr12, hf12⟩
    have hobj12 : Hid (w12.heap[p]? = some (.cells #[.slice (some ⟨ob, 0, none⟩) o.length oc, .slice (some ⟨gb, 0, none⟩) n' gc] 152 (0, 0))) := by
      have hlt := (Array.getElem?_eq_some_iff.1 HR11.out.obj).1
      have hpg : p ≠ ob := by
        obtain ⟨cur, hg, -⟩ := rown_block HR11.out.out
        exact type_ne HR11.out.obj hg (by decide)
      exact (hf12.out.block p hlt (by simpa using hpg)).trans HR11.out.obj
    have b10 : w12.cell? ⟨p, 0, none⟩ = some (.slice (some ⟨ob, 0, none⟩) o.length oc) := by rw [cell_of hobj12.out]; rfl
    have f10 := free_of hobj12.out 0
    have HR13 : Hid (Rd B (w12.setCell ⟨p, 0, none⟩ (.slice (some ⟨ob, 0, none⟩) n2 oc)) p (.slice (some ⟨ob, 0, none⟩) n2 oc) (.slice (some ⟨gb, 0, none⟩) n' gc) ((l.set i ⟨ru, rv, rm⟩).take (i + 1) ++ (l.set i ⟨ru, rv, rm⟩).drop (i + 3)) (o.take i ++ o.drop (i + 2)) ((G.set i (pinX c k x0 x2)).take (i + 1) ++ (G.set i (pinX c k x0 x2)).drop (i + 3))) :=
      HR11.out.cutO hf12.out (by omega) (by omega) hr12.out
    have HF13 : Hid (Fr [p, ob, gb] W (w12.setCell ⟨p, 0, none⟩ (.slice (some ⟨ob, 0, none⟩) n2 oc))) := (HF11.out.pre (hf12.out.more (by simp))).pre (fr_setCell _ _ (by simp))
    clear hDel hr12 hf12
    go_wp2_with fail
    go_end0
    refine Or.inl ⟨⟨HOKP.out, HO9.out, HO8.out⟩, ob, gb, rfl, rfl, rfl, .slice (some ⟨ob, 0, none⟩) n2 oc, .slice (some ⟨gb, 0, none⟩) n' gc, (l.set i ⟨ru, rv, rm⟩).take (i + 1) ++ (l.set i ⟨ru, rv, rm⟩).drop (i + 3), ?_, ⟨rfl, rfl⟩, HF13⟩
    show Rd _ _ _ _ _ _ _ _
    have h := HR13.out
    rw [cut_set (G := G) (by omega)] at h
    exact h
end Sr
/- What words are: the plain model of read and reduce. -/
namespace Sr

abbrev Zero : E3 := ⟨0, 0, 0⟩
/-- a letter is read -/
def rdStep (s : List UInt8 × List E3) (c : UInt8) : List UInt8 × List E3 :=
  if c = 97 then (s.1, s.2.set (s.2.length - 1) (timesE (s.2.getD (s.2.length - 1) Zero) ⟨1, 0, 0⟩))
  else if c = 65 then (s.1, s.2.set (s.2.length - 1) (timesE (s.2.getD (s.2.length - 1) Zero) ⟨-1, 0, 0⟩))
  else (s.1 ++ [c], s.2 ++ [Zero])
def readE (l : List UInt8) : List UInt8 × List E3 := l.foldl rdStep ([], [Zero])

theorem rdStep_len {s : List UInt8 × List E3} {c : UInt8} (h : s.2.length = s.1.length + 1) : (rdStep s c).2.length = (rdStep s c).1.length + 1 := by
  unfold rdStep; split
  · simpa using h
  · split
    · simpa using h
    · simp [h]
theorem rdStep_out {s : List UInt8 × List E3} {c : UInt8} : (rdStep s c).1.length ≤ s.1.length + 1 := by
  unfold rdStep; split
  · simp
  · split <;> simp

/-- is there a pinch -/
def pinAt (o : List UInt8) (G : List E3) (i : Nat) : Bool := decide (o.getD i 0 ≠ o.getD (i + 1) 0) && pinB (o.getD i 0) (G.getD (i + 1) Zero)
/-- its number, and what is left behind it -/
def pinK (o : List UInt8) (G : List E3) (i : Nat) : Int := powE (o.getD i 0) (G.getD (i + 1) Zero)
def pinO (o : List UInt8) (i : Nat) : List UInt8 := o.take i ++ o.drop (i + 2)
def pinG (o : List UInt8) (G : List E3) (i : Nat) : List E3 := G.take i ++ [pinX (o.getD i 0) (pinK o G i) (G.getD i Zero) (G.getD (i + 2) Zero)] ++ G.drop (i + 3)
/-- all of its numbers are allowed -/
def pinA (o : List UInt8) (G : List E3) (i : Nat) : Prop := allowed (pinK o G i) ∧ pinOK (o.getD i 0) (pinK o G i) (G.getD i Zero) (G.getD (i + 2) Zero)

theorem pinO_len {o : List UInt8} {i : Nat} (h : i + 1 < o.length) : (pinO o i).length + 2 = o.length := by unfold pinO; simp; omega
theorem pinG_len {o : List UInt8} {G : List E3} {i : Nat} (h : i + 1 < o.length) (hg : G.length = o.length + 1) : (pinG o G i).length = (pinO o i).length + 1 := by
  unfold pinO pinG; simp; omega

abbrev RedR := List (Nat × Int) × List UInt8 × List E3
open Classical in
/-- the reduction from a place on; none: a number is not allowed -/
noncomputable def redE (o : List UInt8) (G : List E3) (i : Nat) : Option RedR :=
  if h : i + 1 < o.length then
    if pinAt o G i = true then
      if pinA o G i then (redE (pinO o i) (pinG o G i) (i - 1)).map fun r => ((i, pinK o G i) :: r.1, r.2) else none
    else redE o G (i + 1)
  else some ([], o, G)
  termination_by 2 * o.length - i
  decreasing_by
    · have := pinO_len h; omega
    · omega

theorem redE_end {o : List UInt8} {G : List E3} {i : Nat} (h : ¬ i + 1 < o.length) : redE o G i = some ([], o, G) := by
  rw [redE, dif_neg h]
theorem redE_no {o : List UInt8} {G : List E3} {i : Nat} (h : i + 1 < o.length) (hp : pinAt o G i = false) : redE o G i = redE o G (i + 1) := by
  rw [redE, dif_pos h, if_neg (by simp [hp])]
theorem redE_yes {o : List UInt8} {G : List E3} {i : Nat} (h : i + 1 < o.length) (hp : pinAt o G i = true) (ha : pinA o G i) : redE o G i = (redE (pinO o i) (pinG o G i) (i - 1)).map fun r => ((i, pinK o G i) :: r.1, r.2) := by
  rw [redE, dif_pos h, if_pos hp, if_pos ha]
theorem redE_full {o : List UInt8} {G : List E3} {i : Nat} (h : i + 1 < o.length) (hp : pinAt o G i = true) (ha : ¬ pinA o G i) : redE o G i = none := by
  rw [redE, dif_pos h, if_pos hp, if_neg ha]

/-- what has been done ahead of what is left to do -/
def onto (acc : List (Nat × Int)) (r : Option RedR) : Option RedR := r.map fun r => (acc ++ r.1, r.2)
theorem onto_nil (r : Option RedR) : onto [] r = r := by cases r <;> simp [onto]
theorem onto_snoc (acc : List (Nat × Int)) (t : Nat × Int) (r : Option RedR) : onto acc (r.map fun r => (t :: r.1, r.2)) = onto (acc ++ [t]) r := by
  cases r <;> simp [onto]
theorem onto_some (acc : List (Nat × Int)) (o : List UInt8) (G : List E3) : onto acc (some ([], o, G)) = some (acc, o, G) := by simp [onto]
theorem onto_none (acc : List (Nat × Int)) : onto acc none = none := rfl

/-- what stands there at the end -/
def endE (o : List UInt8) (G : List E3) : E3 := if o = [] then G.getD 0 Zero else Zero
end Sr
/- The row of steps. -/
namespace Sr
open Go Go.Proofs Go.RowKit Go.Maps Go.WideMaps

set_option maxRecDepth 100000 in
theorem info42 : (Tryz.prog.info? 42).map (fun i => (i.zero, i.size, i.bytes)) = some (some (.agg #[.int .i64 0, .slice none 0 0]), 2, 32) := by kernel_rfl
set_option maxRecDepth 100000 in
theorem un23 : Tryz.prog.underlying 23 = some (.slice 42) := by kernel_rfl

/-- cells of steps: the places, and slices of bytes -/
def stc : List (Nat × Int) → List Value → List Value
  | s :: st, u :: vs => .int .i64 (s.1 : Nat) :: u :: stc st vs
  | _, _ => []
theorem stc_len : ∀ {st : List (Nat × Int)} {vs : List Value}, vs.length = st.length → (stc st vs).length = st.length * 2
  | [], [], _ => rfl
  | s :: st, u :: vs, h => by simp only [stc, List.length_cons, stc_len (st := st) (vs := vs) (by simpa using h)]; omega
  | [], _ :: _, h => by simp at h
  | _ :: _, [], h => by simp at h
theorem stc_snoc : ∀ {st : List (Nat × Int)} {vs : List Value} {s : Nat × Int} {u : Value}, vs.length = st.length → stc (st ++ [s]) (vs ++ [u]) = stc st vs ++ [.int .i64 (s.1 : Nat), u]
  | [], [], _, _, _ => rfl
  | s :: st, u :: vs, t, w, h => by simp [stc, stc_snoc (st := st) (vs := vs) (s := t) (u := w) (by simpa using h)]
  | [], _ :: _, _, _, h => by simp at h
  | _ :: _, [], _, _, h => by simp at h

structure StRow (B0 : Nat) (w : World) (v : Value) (st : List (Nat × Int)) : Prop where
  row : ∃ vs : List Value, vs.length = st.length ∧ w.ownsRow 0 42 2 v st.length (stc st vs) ∧ ∀ (i : Nat) (u : Value) (s : Nat × Int), vs[i]? = some u → st[i]? = some s → BRow w u (nbytes s.2) ∧ ∀ b, u.ownBlock = some b → B0 ≤ b
  own : ∀ b, v.ownBlock = some b → B0 ≤ b
theorem StRow.kept {B0 : Nat} {w w' : World} {v : Value} {st : List (Nat × Int)} (h : StRow B0 w v st) (hk : ∀ (b : Nat) (c : Array Value) (T : TypeId), w.heap[b]? = some (.cells c T (0, 0)) → B0 ≤ b → (T = 42 ∨ T = 5) → w'.heap[b]? = w.heap[b]?) : StRow B0 w' v st := by
  obtain ⟨vs, h1, h2, h3⟩ := h.row
  refine ⟨⟨vs, h1, ownsRow_kept h2 fun b e => ?_, fun i u s hu hs => ⟨ownsRow_kept (h3 i u s hu hs).1 fun b e => ?_, (h3 i u s hu hs).2⟩⟩, h.own⟩
  · obtain ⟨c, hc⟩ := row_type h2 e
    exact hk b c 42 hc (h.own b e) (.inl rfl)
  · obtain ⟨c, hc⟩ := row_type (h3 i u s hu hs).1 e
    exact hk b c 5 hc ((h3 i u s hu hs).2 b e) (.inr rfl)
theorem StRow.below {B0 : Nat} {w w' : World} {v : Value} {st : List (Nat × Int)} (h : StRow B0 w v st) (hb : Below w.heap.size w w') : StRow B0 w' v st :=
  h.kept fun b _ _ hc _ _ => hb.block b (Array.getElem?_eq_some_iff.1 hc).1
theorem StRow.fr {B0 : Nat} {F : List Nat} {w w' : World} {v : Value} {st : List (Nat × Int)} (h : StRow B0 w v st) (hf : Fr F w w') (hF : ∀ b ∈ F, b < B0) : StRow B0 w' v st :=
  h.kept fun b _ _ hc hb _ => hf.block b (Array.getElem?_eq_some_iff.1 hc).1 fun hm => by have := hF b hm; omega
theorem StRow.nil (B0 : Nat) (w : World) : StRow B0 w (.slice none 0 0) [] :=
  ⟨⟨[], rfl, ⟨rfl, .inl ⟨rfl, rfl⟩⟩, fun i u s h => by simp at h⟩, fun b h => by cases h⟩
theorem StRow.snoc {B0 : Nat} {w5 w7 : World} {v v' bv : Value} {st : List (Nat × Int)} {vs : List Value} {s : Nat × Int} {o : Obj} (h : StRow B0 w5 v st) (hl : vs.length = st.length)
    (h3 : ∀ (i : Nat) (u : Value) (s : Nat × Int), vs[i]? = some u → st[i]? = some s → BRow w5 u (nbytes s.2) ∧ ∀ b, u.ownBlock = some b → B0 ≤ b)
    (hbr : BRow w5 bv (nbytes s.2)) (hbo : ∀ b, bv.ownBlock = some b → B0 ≤ b) (hB : B0 ≤ w5.heap.size)
    (K : w7.ownsRow 0 42 2 v' (st.length + 1) (stc st vs ++ [.int .i64 (s.1 : Nat), bv])) (G : (w5.alloc o).grownBy w7 v.ownBlock) (A : v'.ownBlock = v.ownBlock ∨ v'.ownBlock = some (w5.alloc o).heap.size) : StRow B0 w7 v' (st ++ [s]) := by
  obtain ⟨vs0, _, hr0, _⟩ := h.row
  have keep : ∀ {u : Value} {l : List UInt8}, BRow w5 u l → BRow w7 u l := fun {u l} hu => ownsRow_kept hu fun b e => by
    obtain ⟨c, hc⟩ := row_type hu e
    have hlt := ownsRow_lt hu e
    refine (G.block b (by simp; omega) fun e' => ?_).trans (heap_old _ _ hlt)
    obtain ⟨c', hc'⟩ := row_type hr0 e'.symm
    rw [hc] at hc'; cases hc'
  refine ⟨⟨vs ++ [bv], by simp [hl], ?_, fun i u t hu ht => ?_⟩, fun b e => ?_⟩
  · rw [stc_snoc hl, List.length_append]; exact K
  · rcases Nat.lt_or_ge i vs.length with hlt | hge
    · rw [List.getElem?_append_left hlt] at hu
      rw [List.getElem?_append_left (by omega)] at ht
      exact ⟨keep (h3 i u t hu ht).1, (h3 i u t hu ht).2⟩
    · rw [List.getElem?_append_right hge] at hu
      rw [List.getElem?_append_right (by omega)] at ht
      have e1 : i - vs.length = 0 := by
        have := (List.getElem?_eq_some_iff.1 hu).1; simp at this; omega
      have e2 : i - st.length = 0 := by omega
      rw [e1] at hu; rw [e2] at ht
      simp at hu ht
      subst hu ht
      exact ⟨keep hbr, hbo⟩
  · rcases A with A | A
    · exact h.own b (A ▸ e)
    · rw [A] at e; simp at e; omega

section
variable {ops : Array Oper} {rest : List Oper} {o : Oper} {a : Act} {Q : Exit → Act → World → Prop} {W : World}
theorem app_S1 (hgd : o.guard = none) (s x : Operand) (ho : o.op = .call { callee := .builtin .append, args := #[s, x], argTypes := #[23, 23] })
    (v : Value) (n : Nat) (l : List Value) (hs : a.eval s = v) (hown : W.ownsRow 0 42 2 v n l) (B : Nat) (i : Int) (t : Value) (h1 : t.oneCell' = true) (hx : a.eval x = .slice (some ⟨B, 0, none⟩) 1 1)
    (hB : W.heap[B]? = some (.cells #[.int .i64 i, t] 42 (0, 0))) (hb : n + 1 ≤ 1099511627776)
    (h : ∀ v' w', w'.ownsRow 0 42 2 v' (n + 1) (l ++ [.int .i64 i, t]) → W.grownBy w' v.ownBlock → v' ≠ .slice none 0 0 → (v'.ownBlock = v.ownBlock ∨ v'.ownBlock = some W.heap.size) → wpList Tryz.prog ops Q rest (a.put o.dst v') w') :
    wpList Tryz.prog ops Q (o :: rest) a W := by
  obtain ⟨ii, hi, hz0, hz1, hz2⟩ := info_parts info42
  refine wpList_append_own_at _ hgd s x 23 ho 0 42 ii _ 2 32 un23 hi hz0 hz1 hz2 rfl (by decide) v n _ hs hown ⟨B, 0, none⟩ 1 1 [.int .i64 i, t] hx rfl (fun j u hu => World.news_of_block hB j u hu) (by simp [h1]; rfl) (by simp only [maxLen]; omega) (by omega) (Nat.zero_le _) ?_
  intro v' w' k1 k2 k3 k4
  exact h v' w' k1 k2 (fun e => by have := (k3.1 e).2; omega) k4
end
end Sr
/- reduce, also where it panics. -/
namespace Sr
open Go Go.Proofs Go.RowKit Go.Maps Go.WideMaps

theorem int_pred (i : Nat) : Value.int .i64 (max ((i : Int) - 1) 0) = .int .i64 ((i - 1 : Nat) : Int) := by congr 1; omega
theorem rown_shape {W : World} {e : TypeId} {s n : Nat} {v : Value} {xs : List Value} (h : W.ownsRow 0 e s v n xs) : ∃ a c, v = .slice a n c := by
  obtain ⟨hl, ⟨rfl, h0⟩ | ⟨g, cap, cur, rfl, -⟩⟩ := h
  · exact ⟨none, 0, by rw [h0]⟩
  · exact ⟨_, _, rfl⟩
/-- blocks of other types do not count for a reading -/
theorem Rd.other {B : Nat} {w w' : World} {p : Nat} {ov gv : Value} {l : List Q3} {o : List UInt8} {G : List E3} (h : Rd B w p ov gv l o G)
    (hk : ∀ (b : Nat) (c : Array Value) (T : TypeId), w.heap[b]? = some (.cells c T (0, 0)) → T ≠ 42 → w'.heap[b]? = w.heap[b]?) : Rd B w' p ov gv l o G :=
  h.kept fun b c T hb hT => hk b c T hb (by rcases hT with h | h | h | h | h | h <;> (first | subst h | (obtain ⟨rfl, -⟩ := h)) <;> decide)
/-- the blocks of a reading -/
def rdF (p : Nat) (ov gv : Value) : List Nat := p :: (ov.ownBlock.toList ++ gv.ownBlock.toList)
theorem Rd.lows {B : Nat} {w : World} {p : Nat} {ov gv : Value} {l : List Q3} {o : List UInt8} {G : List E3} (h : Rd B w p ov gv l o G) : ∀ b ∈ rdF p ov gv, B ≤ b ∧ b < w.heap.size := fun b hb => by
  unfold rdF at hb
  rcases List.mem_cons.1 hb with rfl | hb
  · exact ⟨h.hp, (Array.getElem?_eq_some_iff.1 h.obj).1⟩
  · rcases List.mem_append.1 hb with hb | hb
    · have e : ov.ownBlock = some b := by simpa using hb
      exact ⟨h.ho b e, ownsRow_lt h.out e⟩
    · have e : gv.ownBlock = some b := by simpa using hb
      exact ⟨h.hg b e, ownsRow_lt h.row e⟩

theorem Fr.newer {F F2 : List Nat} {W w w' : World} (h : Fr F W w) (k : Fr F2 w w') (h2 : ∀ b ∈ F2, W.heap.size ≤ b) : Fr F W w' :=
  ⟨k.os.trans h.os, k.tape.trans h.tape, k.output.trans h.output, Nat.le_trans h.size k.size, fun b hb hn => (k.block b (by have := h.size; omega) fun hm => by have := h2 b hm; omega).trans (h.block b hb hn)⟩
/-- how reduce ends -/
def RedQ (B p : Nat) (r : Option RedR) (W : World) (e : Ending) (W' : World) : Prop :=
  (∃ st o' G', r = some (st, o', G') ∧ ∃ sv ov' gv' l', e = .returned sv ∧ Hid (Rd B W' p ov' gv' l' o' G') ∧ Hid (StRow W.heap.size W' sv st) ∧ Hid (Below B W W')) ∨ (r = none ∧ e = pan 5 ∧ Hid (Below B W W'))

theorem getD_of {α : Type} {l : List α} {i : Nat} {x d : α} (h : l[i]? = some x) : l.getD i d = x := by rw [List.getD_eq_getElem?_getD, h]; rfl

set_option maxHeartbeats 8000000 in
set_option maxRecDepth 100000 in
theorem reduce_any {B : Nat} {W : World} {p : Nat} {ov gv : Value} {l : List Q3} {o : List UInt8} {G : List E3} (h : Rd B W p ov gv l o G) (hl : o.length ≤ 100000) (hgl : G.length = o.length + 1) :
    Calls Tryz.prog 48 #[.pointer (some ⟨p, 0, none⟩)] W (RedQ B p (redE o G 0) W) := by
  have HLow : Hid (∀ b ∈ rdF p ov gv, B ≤ b ∧ b < W.heap.size) := h.lows
  have HBs : Hid (B ≤ W.heap.size) := by show _ ≤ _; have := h.hp; have := (Array.getElem?_eq_some_iff.1 h.obj).1; omega
  have HR0 := Lib.hid h
  have HGL := Lib.hid hgl
  clear h hgl
  go_enter Tryz.func48, Tryz.ntmps48
  go_wp2_with fail
  go_loopg [3, 4] (2 * o.length + 1) (fun g1 sv iv wr => ∃ (i : Nat) (acc : List (Nat × Int)) (o' : List UInt8) (G' : List E3) (ov' gv' : Value) (l' : List Q3), iv = .int .i64 i ∧ i ≤ o'.length ∧ acc.length + o'.length ≤ 100000 ∧ 2 * o'.length + 1 - i ≤ g1 ∧ Hid (G'.length = o'.length + 1) ∧ Hid (Rd B wr p ov' gv' l' o' G') ∧ Hid (ov'.ownBlock = ov.ownBlock ∧ gv'.ownBlock = gv.ownBlock) ∧ Hid (Fr (rdF p ov gv) W wr) ∧ Hid (StRow W.heap.size wr sv acc) ∧ Hid (redE o G 0 = onto acc (redE o' G' i)))
  case atStart => exact ⟨0, [], o, G, ov, gv, l, rfl, by omega, by simpa using hl, by omega, HGL, HR0, ⟨rfl, rfl⟩, Fr.refl _ _, StRow.nil _ _, (onto_nil _).symm⟩
  case round =>
    obtain ⟨i, acc, o', G', ov', gv', l', rfl, hio, hacc, hg, HGl, HR, HOw, HF, HSt, HE⟩ := hrel
    clear HR0 HGL hl
    have hshape := rown_shape HR.out.out
    obtain ⟨oa, oc, rfl⟩ := hshape
    have c0 := HR.out.c0
    have HBr : Hid (Below B W wr) := below_fr (Below.refl _ _) HBs.out (fun b hb => (HLow.out b hb).1) HF.out
    have hw1 : IntKind.i64.wrap ((i : Int) + 1) = (i : Int) + 1 := IntWalk.i64_in _ (by omega)
    by_cases hlt : i + 1 < o'.length
    · have hltz : ((i : Int) + 1) < (o'.length : Int) := by omega
      obtain ⟨c, hc⟩ : ∃ c, o'[i]? = some c := ⟨_, List.getElem?_eq_getElem (by omega)⟩
      obtain ⟨d, hd⟩ : ∃ d, o'[i + 1]? = some d := ⟨_, List.getElem?_eq_getElem hlt⟩
      obtain ⟨x0, hx0⟩ : ∃ x, G'[i]? = some x := ⟨_, List.getElem?_eq_getElem (by rw [HGl.out]; omega)⟩
      obtain ⟨x1, hx1⟩ : ∃ x, G'[i + 1]? = some x := ⟨_, List.getElem?_eq_getElem (by rw [HGl.out]; omega)⟩
      obtain ⟨x2, hx2⟩ : ∃ x, G'[i + 2]? = some x := ⟨_, List.getElem?_eq_getElem (by rw [HGl.out]; omega)⟩
      have hPi := pinched_calls HR.out hc hd hx1 (by omega) HGl.out
      have HPA : Hid (pinAt o' G' i = (decide (c ≠ d) && pinB c x1)) := by show _ = _; unfold pinAt; rw [getD_of hc, getD_of hd, getD_of hx1]
      rw [← HPA.out] at hPi
      have HC := Lib.hid hc
      have HX0 := Lib.hid hx0
      have HX1 := Lib.hid hx1
      have HX2 := Lib.hid hx2
      clear hc hd hx0 hx1 hx2
      by_cases hpin : pinAt o' G' i = true
      · rw [hpin] at hPi
        have HPin := Lib.hid hpin
        have hHB : c = 98 → (x1.u = 0 ∨ 0 ≤ x1.v) := fun hcb => by
          have := HPA.out.symm.trans HPin.out
          simp only [pinB, hcb, Bool.and_eq_true, if_pos, decide_eq_true_eq] at this
          exact this.2.2
        have HHB : Hid (c = 98 → (x1.u = 0 ∨ 0 ≤ x1.v)) := hHB
        clear hpin hHB
        go_wp2_with fail
        refine hPi.mono ?_
        rintro e w1 ⟨rfl, hb1⟩
        have HR1 := Lib.hid (HR.out.below hb1.out)
        have hPw := power_any HR1.out HC.out HX1.out (by omega) HGl.out HHB.out
        have HB1 := Lib.hid hb1.out
        clear hPi hb1 c0
        go_wp2_with fail
        refine hPw.mono ?_
        have HKe : Hid (pinK o' G' i = powE c x1) := by show _ = _; unfold pinK; rw [getD_of HC.out, getD_of HX1.out]
        rintro e w2 (⟨hok2, q2, rfl, hi2, hb2⟩ | ⟨hno, rfl, hb2⟩)
        rotate_left
        · refine And.intro rfl ?_
          refine Or.inr ⟨?_, rfl, ?_⟩
          · rw [HE.out, redE_full hlt HPin.out (fun h => hno (HKe.out ▸ h.1))]; rfl
          · exact below_fr HBr.out HBs.out (F := []) (by simp) (Fr.of_below (Below.trans' HB1.out hb2.out))
        have HA2 := Lib.hid hok2
        have HB3 : Hid (Below wr.heap.size wr (w2.alloc (.cells #[.pointer q2] 26))) := (Below.trans' HB1.out hb2.out).alloc (Below.trans' HB1.out hb2.out).size _
        have HI3 : Hid (IsN (w2.alloc (.cells #[.pointer q2] 26)) (.agg #[.pointer q2]) (powE c x1)) := hi2.out.below ((Below.refl _ _).alloc (Nat.le_refl _) _)
        have X3 : Hid ((w2.alloc (.cells #[.pointer q2] 26)).heap[w2.heap.size]? = some (.cells #[.pointer q2] 26 (0, 0))) := heap_last w2 _
        have hBt := Bytes_calls (W := w2.alloc (.cells #[.pointer q2] 26)) HI3.out
        have hsz2 : wr.heap.size ≤ w2.heap.size := (Below.trans' HB1.out hb2.out).size
        have hWr : W.heap.size ≤ wr.heap.size := HF.out.size
        clear hPw hok2 hi2 hb2
        go_wp2_with fail
        refine hBt.mono ?_
        rintro e w5 ⟨bv, rfl, hbr, hb5, hbo⟩
        have HB5 := Lib.hid (Below.trans' HB3.out hb5.out)
        have HI5 := Lib.hid (HI3.out.below hb5.out)
        have X5 := Lib.hid (Below.here hb5.out X3.out)
        have HS5 := Lib.hid (HSt.out.below HB5.out)
        have HR5 := Lib.hid (HR.out.below HB5.out)
        have HBo : Hid (∀ b, bv.ownBlock = some b → W.heap.size ≤ b) := fun b e => by have := hbo.out b e; simp at this; omega
        obtain ⟨bg, bc, hbv⟩ := hbr.out.form (by unfold nbytes; simp [tw_len]; omega)
        obtain ⟨nb, hnb⟩ : ∃ nb, nb = (nbytes (powE c x1)).length := ⟨_, rfl⟩
        rw [← hnb] at hbv
        subst hbv
        have HBR := Lib.hid hbr.out
        obtain ⟨vs, hvl, hrow, hvs⟩ := HS5.out.row
        have HVL := Lib.hid hvl
        have HVS : Hid (∀ (i : Nat) (u : Value) (s : Nat × Int), vs[i]? = some u → acc[i]? = some s → BRow w5 u (nbytes s.2) ∧ ∀ b, u.ownBlock = some b → W.heap.size ≤ b) := hvs
        have HRow := Lib.hid hrow
        have hb26 : w2.heap.size < w5.heap.size := (Array.getElem?_eq_some_iff.1 X5.out).1
        have hbnd : acc.length + 1 ≤ 1099511627776 := by omega
        have HB53 := Lib.hid hb5.out
        clear hBt hbr hb5 hbo hnb hvl hrow hvs
        have hA42 := fun (o : Obj) => heap_last w5 o
        go_wp2_with (at_builtin
                     go_loud (
                       (refine app_S1 rfl _ _ rfl u3 acc.length _ rfl (World.ownsRow.alloc HRow.out _) _ (i : Int) _ rfl rfl (heap_last _ _) hbnd ?_; intro v' w7 K7 G7 N7 A7
                        have HK7 := Lib.hid K7
                        have HG7 := Lib.hid (Gb.of G7 A7)
                        have HS7 := Lib.hid (StRow.snoc (s := (i, powE c x1)) HS5.out HVL.out HVS.out HBR.out HBo.out (by have := HB5.out.size; omega) K7 G7 A7)
                        clear K7 G7 N7 A7
                        have HK42 : Hid (∀ (b : Nat) (c : Array Value) (T : TypeId), w5.heap[b]? = some (.cells c T (0, 0)) → T ≠ 42 → w7.heap[b]? = w5.heap[b]?) := fun b c T hb hT => HG7.out.fr.block b (Array.getElem?_eq_some_iff.1 hb).1 fun hm => by
                          obtain ⟨c', hc'⟩ := row_type HRow.out (b := b) (by simpa using hm)
                          exact type_ne hb hc' hT rfl
                        have X7 : Hid (w7.heap[w2.heap.size]? = some (.cells #[.pointer q2] 26 (0, 0))) := (HK42.out _ _ _ X5.out (by decide)).trans X5.out
                        have c7 : w7.cell? ⟨w2.heap.size, 0, none⟩ = some (.pointer q2) := by rw [cell_of X7.out]; rfl
                        have HI7 : Hid (IsN w7 (.agg #[.pointer q2]) (powE c x1)) := HI5.out.kept fun b c T hb hT => HK42.out b c T hb (by rcases hT with h | h | h <;> subst h <;> decide)
                        have HR7 := Lib.hid (HR5.out.other HK42.out)
                        have hPc := pinch_any HR7.out HC.out hlt HX0.out HX2.out (by omega) HGl.out HI7.out)))
        refine hPc.mono ?_
        have HPo : Hid (pinOK c (powE c x1) x0 x2 = pinOK (o'.getD i 0) (pinK o' G' i) (G'.getD i Zero) (G'.getD (i + 2) Zero)) := by show _ = _; rw [getD_of HC.out, HKe.out, getD_of HX0.out, getD_of HX2.out]
        have HPg : Hid (G'.take i ++ [pinX c (powE c x1) x0 x2] ++ G'.drop (i + 3) = pinG o' G' i) := by show _ = _; unfold pinG; rw [getD_of HC.out, HKe.out, getD_of HX0.out, getD_of HX2.out]
        have HF7 : Hid (Fr (rdF p ov gv) W w7) := (HF.out.pre (Fr.of_below HB5.out)).newer HG7.out.fr (fun b hb => HS5.out.own b (by simpa using hb))
        rintro e w9 (⟨hok9, ob, gb, hob, hgb, rfl, ov9, gv9, l9, hr9, ho9, hf9⟩ | ⟨hno, rfl, hb9⟩)
        rotate_left
        · refine And.intro rfl ?_
          refine Or.inr ⟨?_, rfl, ?_⟩
          · rw [HE.out, redE_full hlt HPin.out (fun h => hno (HPo.out ▸ h.2))]; rfl
          · exact below_fr (Below.refl _ _) HBs.out (fun b hb => (HLow.out b hb).1) (HF7.out.pre (Fr.of_below hb9.out))
        have HA9 : Hid (pinA o' G' i) := ⟨HKe.out ▸ HA2.out, HPo.out ▸ hok9⟩
        have hmem : ∀ b ∈ [p, ob, gb], b ∈ rdF p ov gv := fun b hb => by
          have h1 := HOw.out.1; have h2 := HOw.out.2
          rw [hob] at h1; rw [hgb] at h2
          unfold rdF; rw [← h1, ← h2]
          simpa using hb
        have HF9 : Hid (Fr (rdF p ov gv) W w9) := HF7.out.pre (hf9.out.more hmem)
        have HS9 : Hid (StRow W.heap.size w9 v' (acc ++ [(i, powE c x1)])) := HS7.out.fr hf9.out (fun b hb => (HLow.out b (hmem b hb)).2)
        have HR9 : Hid (Rd B w9 p ov9 gv9 l9 (pinO o' i) (pinG o' G' i)) := by
          show Rd _ _ _ _ _ _ _ _
          rw [← HPg.out]; exact hr9.out
        have HO9 : Hid (ov9.ownBlock = ov.ownBlock ∧ gv9.ownBlock = gv.ownBlock) := ⟨ho9.out.1.trans (hob.symm.trans HOw.out.1), ho9.out.2.trans (hgb.symm.trans HOw.out.2)⟩
        have hw2 : IntKind.i64.wrap ((i : Int) - 1) = (i : Int) - 1 := IntWalk.i64_in _ (by omega)
        have hpl := pinO_len hlt
        clear hPc hob hgb hr9 ho9 hf9 hok9 hmem c7
        go_wp2_with fail
        go_roundg (2 * (pinO o' i).length + 1 - (i - 1))
        case measure => omega
        case rel => exact ⟨i - 1, acc ++ [(i, powE c x1)], pinO o' i, pinG o' G' i, ov9, gv9, l9, int_pred i, by omega, by simp; omega, by omega, pinG_len hlt HGl.out, HR9, HO9, HF9, HS9, by show _ = _; rw [HE.out, redE_yes hlt HPin.out HA9.out, onto_snoc, HKe.out]⟩
      · have hpf : pinAt o' G' i = false := by simpa using hpin
        rw [hpf] at hPi
        have HPin := Lib.hid hpf
        clear hpin hpf
        go_wp2_with fail
        refine hPi.mono ?_
        rintro e w1 ⟨rfl, hb1⟩
        have HR1 := Lib.hid (HR.out.below hb1.out)
        have HF1 := Lib.hid (HF.out.pre (Fr.of_below hb1.out))
        have HS1 := Lib.hid (HSt.out.below hb1.out)
        clear hPi hb1 c0
        go_wp2_with fail
        go_roundg (2 * o'.length + 1 - (i + 1))
        case measure => omega
        case rel => exact ⟨i + 1, acc, o', G', _, gv', l', by go_num, by omega, by omega, by omega, HGl, HR1, HOw, HF1, HS1, by show _ = _; rw [HE.out, redE_no hlt HPin.out]⟩
    · have hltz : ¬ (((i : Int) + 1) < (o'.length : Int)) := by omega
      go_wp2_with fail
      refine bodyPost_ret (results_tmp rfl _ _ _) rfl ?_
      refine Or.inl ⟨acc, o', G', ?_, u3, _, gv', l', rfl, HR, HSt, HBr⟩
      rw [HE.out, redE_end hlt, onto_some]
end Sr
/- guarded, also where something panics. -/
namespace Sr
open Go Go.Proofs Go.RowKit Go.Maps Go.WideMaps

set_option maxHeartbeats 1000000 in
set_option maxRecDepth 100000 in
theorem catch_full (p : Nat) (n m : Int) (w : World) (hc : w.cell? ⟨p, 0, none⟩ = some (.int .i64 m)) (hz : w.frozen? ⟨p, 0, none⟩ = false) :
    CallsD Tryz.prog 92 #[.pointer (some ⟨p, 0, none⟩)] (.panicking [{ v := .iface 29 (.int .i64 n), recovered := false }]) w fun e u' w' => e = .returned (.tuple #[]) ∧ u' = .panicking [{ v := .iface 29 (.int .i64 n), recovered := true }] ∧ w' = w.setCell ⟨p, 0, none⟩ (.int .i64 n) := by
  have hta : ∀ w, (Instr.typeAssert (.iface 29 (.int .i64 n)) 20 29 true).run Tryz.prog w = .ok (.tuple #[.int .i64 n, .bool true]) w := fun w => by kernel_rfl
  refine callsD_of_wpS Tryz.func92 rfl fun c₀ cs hu => ?_
  apply wpS_seq
  apply wpS_region
  simp [wpOpsS, go_sem, recoverD, hu, Tryz.ntmps92, Exit.thenS]
  refine wpS_of_wp ?_
  simp only [Array.replicate_succ, Array.replicate_zero]
  simp
  go_wp2_with fail
  cases c₀
  simp_all [bodyPostS, results, Tryz.results92]
set_option maxHeartbeats 1000000 in
set_option maxRecDepth 100000 in
theorem guarded_any {W : World} {k : FuncId} {caps : Array Value} {R : Int → World → Prop} (eg : ∀ args w, (callFunc k args).run Tryz.prog w = .ok (.enter k args) w)
    (h : Calls Tryz.prog k caps (W.alloc (.cells #[.int .i64 0] 29)) fun e W' => (e = .returned (.tuple #[]) ∧ Hid (R 0 W') ∨ ∃ n, e = pan n ∧ Hid (R n W')) ∧ Hid (W'.heap[W.heap.size]? = some (.cells #[.int .i64 0] 29 (0, 0)))) :
    Calls Tryz.prog 45 #[.func (.func k) #[] caps] W fun e W' => ∃ n W1, e = .returned (.int .i64 n) ∧ Hid (R n W1) ∧ Hid (W1.heap[W.heap.size]? = some (.cells #[.int .i64 0] 29 (0, 0))) ∧ W' = W1.setCell ⟨W.heap.size, 0, none⟩ (.int .i64 n) := by
  have hmf : ∀ (fn : Fn) (first cap : Array Value) (w : World), (Instr.makeFunc fn first cap).run Tryz.prog w = .ok (.func fn first cap) w := fun _ _ _ _ => rfl
  go_enter_defers Tryz.func45, Tryz.ntmps45
  go_wp2_with fail
  refine h.mono ?_
  rintro e w1 ⟨⟨rfl, hr⟩ | ⟨n, rfl, hr⟩, hx⟩
  · have c1 : w1.cell? ⟨W.heap.size, 0, none⟩ = some (.int .i64 0) := by rw [cell_of hx.out]; rfl
    have f1 : w1.frozen? ⟨W.heap.size, 0, none⟩ = false := free_of hx.out 0
    clear h
    go_wp2_with fail
    refine leaves_cons (f := 92) (args := #[.pointer (some ⟨W.heap.size, 0, none⟩)]) (by simp) (by simp [go_sem]) ?_
    refine (catch_idle ⟨W.heap.size, 0, none⟩ _).mono ?_
    rintro e u' w'' ⟨rfl, rfl, rfl⟩
    have hb := (Array.getElem?_eq_some_iff.1 hx.out).1
    have c2 : (w1.setCell ⟨W.heap.size, 0, none⟩ (.int .i64 0)).cell? ⟨W.heap.size, 0, none⟩ = some (.int .i64 0) := by rw [cell_of (heap_setCell_same w1 W.heap.size 0 _ 29 (.int .i64 0) hx.out) 0]; rfl
    simp [Leaves, settle, results, Tryz.results45, go_sem]
    exact ⟨_, by rw [c2], 0, rfl, w1, hr, hx, rfl⟩
  · have c1 : w1.cell? ⟨W.heap.size, 0, none⟩ = some (.int .i64 0) := by rw [cell_of hx.out]; rfl
    have f1 : w1.frozen? ⟨W.heap.size, 0, none⟩ = false := free_of hx.out 0
    clear h
    refine leaves_cons (f := 92) (args := #[.pointer (some ⟨W.heap.size, 0, none⟩)]) (by simp) (by simp [go_sem]) ?_
    refine (catch_full W.heap.size n 0 _ c1 f1).mono ?_
    rintro e u' w'' ⟨rfl, rfl, rfl⟩
    have c2 : (w1.setCell ⟨W.heap.size, 0, none⟩ (.int .i64 n)).cell? ⟨W.heap.size, 0, none⟩ = some (.int .i64 n) := by rw [cell_of (heap_setCell_same w1 W.heap.size 0 _ 29 (.int .i64 n) hx.out) 0]; rfl
    simp [Leaves, settle, results, Tryz.results45, go_sem]
    exact ⟨_, by rw [c2], n, rfl, w1, hr, hx, rfl⟩
end Sr
/-
  DERIVED: THE SHELF's CONTRACTS AT THIS DUMP, IN PLAIN WORDS (tools/lay-plain.mjs out of 'TryzShelf2.lean', which tools/lay-shelf.mjs wrote): THE SAME DECLARATIONS UNDER THE SAME NAMES: 'import', 'namespace', 'open', 'def', 'theorem' AND NOTHING ELSE: no command of the shelf's: FOR A HAND-IN. Each laying: the table of numbers ('.._ren') and one theorem, a field a fact of the dump's own or the kernel's comparison; each contract: ONE APPLICATION.
-/
namespace Go.Proofs
open Go.Shelf
def Tryz.lays231_ren : Go.Shelf.Ren := ⟨fun | 231 => 125 | n => n, fun | 9 => 9 | 5 => 5 | 3 => 3 | 4 => 4 | n => n, fun | n => n⟩
theorem Tryz.lays231 : Go.Proofs.Lays.n231 Tryz.prog Tryz.lays231_ren := {
  mixed := by kernel_rfl
  f231 := Tryz.func125.trans (congrArg some (by kernel_rfl))
  t3 := Tryz.underlying3
  a3 := Tryz.isAgg3
  z3 := Tryz.sizeOf3
  v3 := Tryz.zeroValue3
  t4 := Tryz.underlying4
  a4 := Tryz.isAgg4
  z4 := Tryz.sizeOf4
  v4 := Tryz.zeroValue4
  t5 := Tryz.underlying5
  a5 := Tryz.isAgg5
  z5 := Tryz.sizeOf5
  v5 := Tryz.zeroValue5
  t9 := Tryz.underlying9
  a9 := Tryz.isAgg9
  z9 := Tryz.sizeOf9
  v9 := Tryz.zeroValue9 }
open Go.RowKit in
/-- strings.trimLeftByte (no doc; what TrimLeft and Trim call at a cutset of one ASCII byte): the leading bytes that are c are cut off. The world is as it was. (LAID: no walk: one application.) -/
theorem Tryz.strings_trimLeftByte (s : ByteArray) (c : UInt8) (w : World) :
    Calls Tryz.prog 125 #[.string s, .int .u8 c.toNat] w fun e w' => e = .returned (.string ⟨(Lib.trimLeftB s.data.toList c).toArray⟩) ∧ w' = w := Any.strings_trimLeftByte Tryz.lays231 s c w
def Tryz.lays232_ren : Go.Shelf.Ren := ⟨fun | 232 => 126 | n => n, fun | 9 => 9 | 5 => 5 | 3 => 3 | 4 => 4 | n => n, fun | n => n⟩
theorem Tryz.lays232 : Go.Proofs.Lays.n232 Tryz.prog Tryz.lays232_ren := {
  mixed := by kernel_rfl
  f232 := Tryz.func126.trans (congrArg some (by kernel_rfl))
  t3 := Tryz.underlying3
  a3 := Tryz.isAgg3
  z3 := Tryz.sizeOf3
  v3 := Tryz.zeroValue3
  t4 := Tryz.underlying4
  a4 := Tryz.isAgg4
  z4 := Tryz.sizeOf4
  v4 := Tryz.zeroValue4
  t5 := Tryz.underlying5
  a5 := Tryz.isAgg5
  z5 := Tryz.sizeOf5
  v5 := Tryz.zeroValue5
  t9 := Tryz.underlying9
  a9 := Tryz.isAgg9
  z9 := Tryz.sizeOf9
  v9 := Tryz.zeroValue9 }
open Go.RowKit in
/-- strings.trimRightByte (no doc; what TrimRight and Trim call at a cutset of one ASCII byte): the trailing bytes that are c are cut off. The world is as it was. ('hs': a string's length is a number that an int holds.) (LAID: no walk: one application.) -/
theorem Tryz.strings_trimRightByte (s : ByteArray) (c : UInt8) (w : World) (hs : s.size ≤ 9223372036854775807) :
    Calls Tryz.prog 126 #[.string s, .int .u8 c.toNat] w fun e w' => e = .returned (.string ⟨(Lib.trimRightB s.data.toList c).toArray⟩) ∧ w' = w := Any.strings_trimRightByte Tryz.lays232 s c w hs
def Tryz.lays160_ren : Go.Shelf.Ren := ⟨fun | 160 => 91 | 232 => 126 | 231 => 125 | 227 => 127 | 234 => 129 | 233 => 128 | 236 => 131 | 235 => 130 | 228 => 142 | 271 => 145 | 151 => 144 | 197 => 143 | 120 => 160 | 152 => 159 | 260 => 158 | 137 => 167 | 119 => 168 | 224 => 169 | 225 => 170 | 217 => 172 | 266 => 173 | n => n, fun | 9 => 9 | 4 => 4 | 3 => 3 | 5 => 5 | 117 => 184 | 116 => 183 | 0 => 0 | 124 => 187 | 21 => 21 | 105 => 197 | 46 => 173 | 119 => 218 | 139 => 221 | 138 => 220 | n => n, fun | 3 => 0 | 4 => 1 | n => n⟩
theorem Tryz.lays160 : Go.Proofs.Lays.n160 Tryz.prog Tryz.lays160_ren := {
  mixed := by kernel_rfl
  f119 := Tryz.func168.trans (congrArg some (by kernel_rfl))
  f120 := Tryz.func160.trans (congrArg some (by kernel_rfl))
  f137 := Tryz.func167.trans (congrArg some (by kernel_rfl))
  f151 := Tryz.func144.trans (congrArg some (by kernel_rfl))
  f152 := Tryz.func159.trans (congrArg some (by kernel_rfl))
  f160 := Tryz.func91.trans (congrArg some (by kernel_rfl))
  f197 := Tryz.func143.trans (congrArg some (by kernel_rfl))
  f217 := Tryz.func172.trans (congrArg some (by kernel_rfl))
  f224 := Tryz.func169.trans (congrArg some (by kernel_rfl))
  f225 := Tryz.func170.trans (congrArg some (by kernel_rfl))
  f227 := Tryz.func127.trans (congrArg some (by kernel_rfl))
  f228 := Tryz.func142.trans (congrArg some (by kernel_rfl))
  f231 := Tryz.func125.trans (congrArg some (by kernel_rfl))
  f232 := Tryz.func126.trans (congrArg some (by kernel_rfl))
  f233 := Tryz.func128.trans (congrArg some (by kernel_rfl))
  f234 := Tryz.func129.trans (congrArg some (by kernel_rfl))
  f235 := Tryz.func130.trans (congrArg some (by kernel_rfl))
  f236 := Tryz.func131.trans (congrArg some (by kernel_rfl))
  f260 := Tryz.func158.trans (congrArg some (by kernel_rfl))
  f266 := Tryz.func173.trans (congrArg some (by kernel_rfl))
  f271 := Tryz.func145.trans (congrArg some (by kernel_rfl))
  t0 := Tryz.underlying0
  a0 := Tryz.isAgg0
  z0 := Tryz.sizeOf0
  v0 := Tryz.zeroValue0
  t3 := Tryz.underlying3
  a3 := Tryz.isAgg3
  z3 := Tryz.sizeOf3
  v3 := Tryz.zeroValue3
  t4 := Tryz.underlying4
  a4 := Tryz.isAgg4
  z4 := Tryz.sizeOf4
  v4 := Tryz.zeroValue4
  t5 := Tryz.underlying5
  a5 := Tryz.isAgg5
  z5 := Tryz.sizeOf5
  v5 := Tryz.zeroValue5
  t9 := Tryz.underlying9
  a9 := Tryz.isAgg9
  z9 := Tryz.sizeOf9
  v9 := Tryz.zeroValue9
  t21 := Tryz.underlying21
  a21 := Tryz.isAgg21
  z21 := Tryz.sizeOf21
  v21 := Tryz.zeroValue21
  t46 := Tryz.underlying173
  a46 := Tryz.isAgg173
  z46 := Tryz.sizeOf173
  v46 := Tryz.zeroValue173
  t105 := Tryz.underlying197
  a105 := Tryz.isAgg197
  z105 := Tryz.sizeOf197
  v105 := Tryz.zeroValue197
  t116 := Tryz.underlying183
  a116 := Tryz.isAgg183
  z116 := Tryz.sizeOf183
  t117 := Tryz.underlying184
  a117 := Tryz.isAgg184
  z117 := Tryz.sizeOf184
  v117 := Tryz.zeroValue184
  t119 := Tryz.underlying218
  a119 := Tryz.isAgg218
  z119 := Tryz.sizeOf218
  t124 := Tryz.underlying187
  a124 := Tryz.isAgg187
  z124 := Tryz.sizeOf187
  v124 := Tryz.zeroValue187
  t138 := Tryz.underlying220
  a138 := Tryz.isAgg220
  z138 := Tryz.sizeOf220
  v138 := Tryz.zeroValue220
  t139 := Tryz.underlying221
  a139 := Tryz.isAgg221
  z139 := Tryz.sizeOf221
  v139 := Tryz.zeroValue221
  g3 := by kernel_rfl
  g4 := by kernel_rfl }
open Go.RowKit in
/-- strings.Trim: "Trim returns a slice of the string s with all leading and trailing Unicode code points contained in cutset removed.": AT A cutset OF ONE ASCII BYTE. THE WORLD BEHIND IT: as it was, or (where s is not empty) with ONE DRAW MORE off the tape: the statement 'return trimLeftByte(trimRightByte(s, c), c)' draws its order of evaluation. (LAID: no walk: one application.) -/
theorem Tryz.strings_Trim_one (s : ByteArray) (c : UInt8) (hc : c.toNat < 128) (w : World) (hs : s.size ≤ 9223372036854775807) :
    Calls Tryz.prog 91 #[.string s, .string ⟨#[c]⟩] w fun e w' => e = .returned (.string ⟨(Lib.trimB s.data.toList c).toArray⟩) ∧ (w' = w ∨ w' = w.drew) := Any.strings_Trim_one Tryz.lays160 s c hc w hs
def Tryz.lays119_ren : Go.Shelf.Ren := ⟨fun | 119 => 168 | n => n, fun | 21 => 21 | 4 => 4 | n => n, fun | n => n⟩
theorem Tryz.lays119 : Go.Proofs.Lays.n119 Tryz.prog Tryz.lays119_ren := {
  mixed := by kernel_rfl
  f119 := Tryz.func168.trans (congrArg some (by kernel_rfl))
  t4 := Tryz.underlying4
  a4 := Tryz.isAgg4
  z4 := Tryz.sizeOf4
  v4 := Tryz.zeroValue4
  t21 := Tryz.underlying21
  a21 := Tryz.isAgg21
  z21 := Tryz.sizeOf21
  v21 := Tryz.zeroValue21 }
/-- utf8.ValidRune: "ValidRune reports whether r can be legally encoded as UTF-8. Code points that are out of range or a surrogate half are illegal.": IT RETURNS 'Lib.validRune r'; the world is as it was. (LAID: no walk: one application.) -/
theorem Tryz.utf8_ValidRune (r : Int) (w : World) :
    Calls Tryz.prog 168 #[.int .i32 r] w fun e w' => e = .returned (.bool (Lib.validRune r)) ∧ w' = w := Any.utf8_ValidRune Tryz.lays119 r w
def Tryz.lays120_ren : Go.Shelf.Ren := ⟨fun | 120 => 160 | n => n, fun | 5 => 5 | 4 => 4 | n => n, fun | n => n⟩
theorem Tryz.lays120 : Go.Proofs.Lays.n120 Tryz.prog Tryz.lays120_ren := {
  mixed := by kernel_rfl
  f120 := Tryz.func160.trans (congrArg some (by kernel_rfl))
  t4 := Tryz.underlying4
  a4 := Tryz.isAgg4
  z4 := Tryz.sizeOf4
  v4 := Tryz.zeroValue4
  t5 := Tryz.underlying5
  a5 := Tryz.isAgg5
  z5 := Tryz.sizeOf5
  v5 := Tryz.zeroValue5 }
/-- utf8.RuneStart: "RuneStart reports whether the byte could be the first byte of an encoded, possibly invalid rune. Second and subsequent bytes always have the top two bits set to 10.": IT RETURNS 'Lib.runeStart b'; the world is as it was. ('h0', 'h1': b is a byte: a caller has it of every byte that it was handed.) (LAID: no walk: one application.) -/
theorem Tryz.utf8_RuneStart (b : Int) (w : World) (h0 : 0 ≤ b) (h1 : b < 256) :
    Calls Tryz.prog 160 #[.int .u8 b] w fun e w' => e = .returned (.bool (Lib.runeStart b)) ∧ w' = w := Any.utf8_RuneStart Tryz.lays120 b w h0 h1
def Tryz.lays137_ren : Go.Shelf.Ren := ⟨fun | 137 => 167 | 217 => 172 | 266 => 173 | n => n, fun | 9 => 9 | 5 => 5 | 3 => 3 | n => n, fun | n => n⟩
theorem Tryz.lays137 : Go.Proofs.Lays.n137 Tryz.prog Tryz.lays137_ren := {
  mixed := by kernel_rfl
  f137 := Tryz.func167.trans (congrArg some (by kernel_rfl))
  f217 := Tryz.func172.trans (congrArg some (by kernel_rfl))
  f266 := Tryz.func173.trans (congrArg some (by kernel_rfl))
  t3 := Tryz.underlying3
  a3 := Tryz.isAgg3
  z3 := Tryz.sizeOf3
  v3 := Tryz.zeroValue3
  t5 := Tryz.underlying5
  a5 := Tryz.isAgg5
  z5 := Tryz.sizeOf5
  v5 := Tryz.zeroValue5
  t9 := Tryz.underlying9
  a9 := Tryz.isAgg9
  z9 := Tryz.sizeOf9
  v9 := Tryz.zeroValue9 }
open Go.RowKit in
/-- strings.IndexByte: "IndexByte returns the index of the first instance of c in s, or -1 if c is not present in s.": IT RETURNS 'Lib.indexByte s c'; the world is as it was. (LAID: no walk: one application.) -/
theorem Tryz.strings_IndexByte (s : ByteArray) (c : Int) (w : World) :
    Calls Tryz.prog 167 #[.string s, .int .u8 c] w fun e w' => e = .returned (.int .i64 (Lib.indexByte s.data.toList c.toNat.toUInt8)) ∧ w' = w := Any.strings_IndexByte Tryz.lays137 s c w
def Tryz.lays217_ren : Go.Shelf.Ren := ⟨fun | 217 => 172 | 266 => 173 | n => n, fun | 9 => 9 | 5 => 5 | 3 => 3 | n => n, fun | n => n⟩
theorem Tryz.lays217 : Go.Proofs.Lays.n217 Tryz.prog Tryz.lays217_ren := {
  mixed := by kernel_rfl
  f217 := Tryz.func172.trans (congrArg some (by kernel_rfl))
  f266 := Tryz.func173.trans (congrArg some (by kernel_rfl))
  t3 := Tryz.underlying3
  a3 := Tryz.isAgg3
  z3 := Tryz.sizeOf3
  v3 := Tryz.zeroValue3
  t5 := Tryz.underlying5
  a5 := Tryz.isAgg5
  z5 := Tryz.sizeOf5
  v5 := Tryz.zeroValue5
  t9 := Tryz.underlying9
  a9 := Tryz.isAgg9
  z9 := Tryz.sizeOf9
  v9 := Tryz.zeroValue9 }
open Go.RowKit Go.Lib in
/-- internal/stringslite.IndexByte (what strings.IndexByte calls): IT RETURNS 'Lib.indexByte s c'; the world is as it was. (LAID: no walk: one application.) -/
theorem Tryz.stringslite_IndexByte (s : ByteArray) (c : Int) (w : World) :
    Calls Tryz.prog 172 #[.string s, .int .u8 c] w fun e w' => e = .returned (.int .i64 (Lib.indexByte s.data.toList c.toNat.toUInt8)) ∧ w' = w := Any.stringslite_IndexByte Tryz.lays217 s c w
def Tryz.lays224_ren : Go.Shelf.Ren := ⟨fun | 224 => 169 | n => n, fun | 3 => 3 | n => n, fun | n => n⟩
theorem Tryz.lays224 : Go.Proofs.Lays.n224 Tryz.prog Tryz.lays224_ren := {
  mixed := by kernel_rfl
  f224 := Tryz.func169.trans (congrArg some (by kernel_rfl))
  t3 := Tryz.underlying3
  a3 := Tryz.isAgg3
  z3 := Tryz.sizeOf3
  v3 := Tryz.zeroValue3 }
open Go.RowKit Go.Lib in
/-- internal/bytealg.Cutover: "Cutover reports the number of failures of IndexByte we should tolerate before switching over to Index. n is the number of bytes processed so far.": on amd64: (n + 16) / 8. (LAID: no walk: one application.) -/
theorem Tryz.bytealg_Cutover (n : Int) (h0 : 0 ≤ n) (h1 : n < 4611686018427387904) (w : World) :
    Calls Tryz.prog 169 #[.int .i64 n] w fun e w' => e = .returned (.int .i64 ((n + 16) / 8)) ∧ w' = w := Any.bytealg_Cutover Tryz.lays224 n h0 h1 w
def Tryz.lays197_ren : Go.Shelf.Ren := ⟨fun | 197 => 143 | 260 => 158 | n => n, fun | 9 => 9 | 21 => 21 | 3 => 3 | 4 => 4 | 5 => 5 | 105 => 197 | 119 => 218 | 0 => 0 | 46 => 173 | 139 => 221 | 138 => 220 | n => n, fun | 3 => 0 | 4 => 1 | n => n⟩
theorem Tryz.lays197 : Go.Proofs.Lays.n197 Tryz.prog Tryz.lays197_ren := {
  mixed := by kernel_rfl
  f197 := Tryz.func143.trans (congrArg some (by kernel_rfl))
  f260 := Tryz.func158.trans (congrArg some (by kernel_rfl))
  t0 := Tryz.underlying0
  a0 := Tryz.isAgg0
  z0 := Tryz.sizeOf0
  v0 := Tryz.zeroValue0
  t3 := Tryz.underlying3
  a3 := Tryz.isAgg3
  z3 := Tryz.sizeOf3
  v3 := Tryz.zeroValue3
  t4 := Tryz.underlying4
  a4 := Tryz.isAgg4
  z4 := Tryz.sizeOf4
  v4 := Tryz.zeroValue4
  t5 := Tryz.underlying5
  a5 := Tryz.isAgg5
  z5 := Tryz.sizeOf5
  v5 := Tryz.zeroValue5
  t9 := Tryz.underlying9
  a9 := Tryz.isAgg9
  z9 := Tryz.sizeOf9
  v9 := Tryz.zeroValue9
  t21 := Tryz.underlying21
  a21 := Tryz.isAgg21
  z21 := Tryz.sizeOf21
  v21 := Tryz.zeroValue21
  t46 := Tryz.underlying173
  a46 := Tryz.isAgg173
  z46 := Tryz.sizeOf173
  v46 := Tryz.zeroValue173
  t105 := Tryz.underlying197
  a105 := Tryz.isAgg197
  z105 := Tryz.sizeOf197
  v105 := Tryz.zeroValue197
  t119 := Tryz.underlying218
  a119 := Tryz.isAgg218
  z119 := Tryz.sizeOf218
  t138 := Tryz.underlying220
  a138 := Tryz.isAgg220
  z138 := Tryz.sizeOf220
  v138 := Tryz.zeroValue220
  t139 := Tryz.underlying221
  a139 := Tryz.isAgg221
  z139 := Tryz.sizeOf221
  v139 := Tryz.zeroValue221
  g3 := by kernel_rfl
  g4 := by kernel_rfl }
open Go.RowKit Go.Lib in
/-- unicode/utf8.DecodeRuneInString: "DecodeRuneInString is like DecodeRune but its input is a string.": ("DecodeRune unpacks the first UTF-8 encoding in p and returns the rune and its width in bytes."): WHERE s BEGINS WITH AN ASCII BYTE x: (x, 1). (LAID: no walk: one application.) -/
theorem Tryz.utf8_DecodeRuneInString_ascii (s : ByteArray) (x : UInt8) (w : World) (h0 : s.data.toList[0]? = some x) (hx : x.toNat < 128) :
    Calls Tryz.prog 143 #[.string s] w fun e w' => e = .returned (.tuple #[.int .i32 x.toNat, .int .i64 1]) ∧ w' = w := Any.utf8_DecodeRuneInString_ascii Tryz.lays197 s x w h0 hx
def Tryz.lays152_ren : Go.Shelf.Ren := ⟨fun | 152 => 159 | 137 => 167 | 119 => 168 | 224 => 169 | 225 => 170 | 217 => 172 | 266 => 173 | n => n, fun | 9 => 9 | 21 => 21 | 3 => 3 | 4 => 4 | 5 => 5 | 0 => 0 | 46 => 173 | n => n, fun | n => n⟩
theorem Tryz.lays152 : Go.Proofs.Lays.n152 Tryz.prog Tryz.lays152_ren := {
  mixed := by kernel_rfl
  f119 := Tryz.func168.trans (congrArg some (by kernel_rfl))
  f137 := Tryz.func167.trans (congrArg some (by kernel_rfl))
  f152 := Tryz.func159.trans (congrArg some (by kernel_rfl))
  f217 := Tryz.func172.trans (congrArg some (by kernel_rfl))
  f224 := Tryz.func169.trans (congrArg some (by kernel_rfl))
  f225 := Tryz.func170.trans (congrArg some (by kernel_rfl))
  f266 := Tryz.func173.trans (congrArg some (by kernel_rfl))
  t0 := Tryz.underlying0
  a0 := Tryz.isAgg0
  z0 := Tryz.sizeOf0
  v0 := Tryz.zeroValue0
  t3 := Tryz.underlying3
  a3 := Tryz.isAgg3
  z3 := Tryz.sizeOf3
  v3 := Tryz.zeroValue3
  t4 := Tryz.underlying4
  a4 := Tryz.isAgg4
  z4 := Tryz.sizeOf4
  v4 := Tryz.zeroValue4
  t5 := Tryz.underlying5
  a5 := Tryz.isAgg5
  z5 := Tryz.sizeOf5
  v5 := Tryz.zeroValue5
  t9 := Tryz.underlying9
  a9 := Tryz.isAgg9
  z9 := Tryz.sizeOf9
  v9 := Tryz.zeroValue9
  t21 := Tryz.underlying21
  a21 := Tryz.isAgg21
  z21 := Tryz.sizeOf21
  v21 := Tryz.zeroValue21
  t46 := Tryz.underlying173
  a46 := Tryz.isAgg173
  z46 := Tryz.sizeOf173
  v46 := Tryz.zeroValue173 }
open Go.RowKit Go.Lib in
theorem Tryz.strings_IndexRune_ascii (s : ByteArray) (r : Int) (w : World) (h0 : 0 ≤ r) (h1 : r < 128) :
    Calls Tryz.prog 159 #[.string s, .int .i32 r] w fun e w' => e = .returned (.int .i64 (Lib.indexByte s.data.toList r.toNat.toUInt8)) ∧ w' = w := Any.strings_IndexRune_ascii Tryz.lays152 s r w h0 h1
def Tryz.lays151_ren : Go.Shelf.Ren := ⟨fun | 151 => 144 | 152 => 159 | 137 => 167 | 119 => 168 | 224 => 169 | 225 => 170 | 217 => 172 | 266 => 173 | n => n, fun | 9 => 9 | 21 => 21 | 4 => 4 | 3 => 3 | 5 => 5 | 0 => 0 | 46 => 173 | n => n, fun | n => n⟩
theorem Tryz.lays151 : Go.Proofs.Lays.n151 Tryz.prog Tryz.lays151_ren := {
  mixed := by kernel_rfl
  f119 := Tryz.func168.trans (congrArg some (by kernel_rfl))
  f137 := Tryz.func167.trans (congrArg some (by kernel_rfl))
  f151 := Tryz.func144.trans (congrArg some (by kernel_rfl))
  f152 := Tryz.func159.trans (congrArg some (by kernel_rfl))
  f217 := Tryz.func172.trans (congrArg some (by kernel_rfl))
  f224 := Tryz.func169.trans (congrArg some (by kernel_rfl))
  f225 := Tryz.func170.trans (congrArg some (by kernel_rfl))
  f266 := Tryz.func173.trans (congrArg some (by kernel_rfl))
  t0 := Tryz.underlying0
  a0 := Tryz.isAgg0
  z0 := Tryz.sizeOf0
  v0 := Tryz.zeroValue0
  t3 := Tryz.underlying3
  a3 := Tryz.isAgg3
  z3 := Tryz.sizeOf3
  v3 := Tryz.zeroValue3
  t4 := Tryz.underlying4
  a4 := Tryz.isAgg4
  z4 := Tryz.sizeOf4
  v4 := Tryz.zeroValue4
  t5 := Tryz.underlying5
  a5 := Tryz.isAgg5
  z5 := Tryz.sizeOf5
  v5 := Tryz.zeroValue5
  t9 := Tryz.underlying9
  a9 := Tryz.isAgg9
  z9 := Tryz.sizeOf9
  v9 := Tryz.zeroValue9
  t21 := Tryz.underlying21
  a21 := Tryz.isAgg21
  z21 := Tryz.sizeOf21
  v21 := Tryz.zeroValue21
  t46 := Tryz.underlying173
  a46 := Tryz.isAgg173
  z46 := Tryz.sizeOf173
  v46 := Tryz.zeroValue173 }
open Go.RowKit Go.Lib in
theorem Tryz.strings_ContainsRune_ascii (s : ByteArray) (r : Int) (w : World) (h0 : 0 ≤ r) (h1 : r < 128) :
    Calls Tryz.prog 144 #[.string s, .int .i32 r] w fun e w' => e = .returned (.bool (decide (0 ≤ Lib.indexByte s.data.toList r.toNat.toUInt8))) ∧ w' = w := Any.strings_ContainsRune_ascii Tryz.lays151 s r w h0 h1
def Tryz.lays227_ren : Go.Shelf.Ren := ⟨fun | 227 => 127 | n => n, fun | 9 => 9 | 116 => 183 | 4 => 4 | 0 => 0 | 3 => 3 | 5 => 5 | n => n, fun | n => n⟩
theorem Tryz.lays227 : Go.Proofs.Lays.n227 Tryz.prog Tryz.lays227_ren := {
  mixed := by kernel_rfl
  f227 := Tryz.func127.trans (congrArg some (by kernel_rfl))
  t0 := Tryz.underlying0
  a0 := Tryz.isAgg0
  z0 := Tryz.sizeOf0
  v0 := Tryz.zeroValue0
  t3 := Tryz.underlying3
  a3 := Tryz.isAgg3
  z3 := Tryz.sizeOf3
  v3 := Tryz.zeroValue3
  t4 := Tryz.underlying4
  a4 := Tryz.isAgg4
  z4 := Tryz.sizeOf4
  v4 := Tryz.zeroValue4
  t5 := Tryz.underlying5
  a5 := Tryz.isAgg5
  z5 := Tryz.sizeOf5
  v5 := Tryz.zeroValue5
  t9 := Tryz.underlying9
  a9 := Tryz.isAgg9
  z9 := Tryz.sizeOf9
  v9 := Tryz.zeroValue9
  t116 := Tryz.underlying183
  a116 := Tryz.isAgg183
  z116 := Tryz.sizeOf183 }
open Go.RowKit Go.Lib in
theorem Tryz.strings_makeASCIISet (hv116 : ∀ w, (zeroValue 183).run Tryz.prog w = .ok (.agg (Array.replicate 256 (.bool false))) w) (chars : ByteArray) (w : World) (hs : chars.size < 4294967281) (hascii : ∀ (j : Nat) b, chars.data.toList[j]? = some b → b.toNat < 128) :
    Calls Tryz.prog 127 #[.string chars] w fun e w' => e = .returned (.tuple #[.agg (Lib.setCells chars.data.toList), .bool true]) ∧ w' = w.alloc (.cells (Lib.setCells chars.data.toList) 183) := Any.strings_makeASCIISet Tryz.lays227 hv116 (by kernel_rfl) chars w hs hascii
def Tryz.lays228_ren : Go.Shelf.Ren := ⟨fun | 228 => 142 | n => n, fun | 124 => 187 | 5 => 5 | 4 => 4 | 0 => 0 | 116 => 183 | n => n, fun | n => n⟩
theorem Tryz.lays228 : Go.Proofs.Lays.n228 Tryz.prog Tryz.lays228_ren := {
  mixed := by kernel_rfl
  f228 := Tryz.func142.trans (congrArg some (by kernel_rfl))
  t0 := Tryz.underlying0
  a0 := Tryz.isAgg0
  z0 := Tryz.sizeOf0
  v0 := Tryz.zeroValue0
  t4 := Tryz.underlying4
  a4 := Tryz.isAgg4
  z4 := Tryz.sizeOf4
  v4 := Tryz.zeroValue4
  t5 := Tryz.underlying5
  a5 := Tryz.isAgg5
  z5 := Tryz.sizeOf5
  v5 := Tryz.zeroValue5
  t116 := Tryz.underlying183
  a116 := Tryz.isAgg183
  z116 := Tryz.sizeOf183
  t124 := Tryz.underlying187
  a124 := Tryz.isAgg187
  z124 := Tryz.sizeOf187
  v124 := Tryz.zeroValue187 }
open Go.RowKit Go.Lib in
/-- '(as *asciiSet) contains(c)': 'as[c]': the set lies at block b, whole. (LAID: no walk: one application.) -/
theorem Tryz.asciiSet_contains (b : Nat) (x : UInt8) (v : Bool) (w : World) (hc : w.cell? ⟨b, x.toNat, none⟩ = some (.bool v)) :
    Calls Tryz.prog 142 #[.pointer (some ⟨b, 0, none⟩), .int .u8 x.toNat] w fun e w' => e = .returned (.bool v) ∧ w' = w := Any.asciiSet_contains Tryz.lays228 b x v w hc
def Tryz.lays260_ren : Go.Shelf.Ren := ⟨fun | 260 => 158 | n => n, fun | 9 => 9 | 21 => 21 | 3 => 3 | 4 => 4 | 5 => 5 | 119 => 218 | 0 => 0 | 46 => 173 | 139 => 221 | 138 => 220 | n => n, fun | 3 => 0 | 4 => 1 | n => n⟩
theorem Tryz.lays260 : Go.Proofs.Lays.n260 Tryz.prog Tryz.lays260_ren := {
  mixed := by kernel_rfl
  f260 := Tryz.func158.trans (congrArg some (by kernel_rfl))
  t0 := Tryz.underlying0
  a0 := Tryz.isAgg0
  z0 := Tryz.sizeOf0
  v0 := Tryz.zeroValue0
  t3 := Tryz.underlying3
  a3 := Tryz.isAgg3
  z3 := Tryz.sizeOf3
  v3 := Tryz.zeroValue3
  t4 := Tryz.underlying4
  a4 := Tryz.isAgg4
  z4 := Tryz.sizeOf4
  v4 := Tryz.zeroValue4
  t5 := Tryz.underlying5
  a5 := Tryz.isAgg5
  z5 := Tryz.sizeOf5
  v5 := Tryz.zeroValue5
  t9 := Tryz.underlying9
  a9 := Tryz.isAgg9
  z9 := Tryz.sizeOf9
  v9 := Tryz.zeroValue9
  t21 := Tryz.underlying21
  a21 := Tryz.isAgg21
  z21 := Tryz.sizeOf21
  v21 := Tryz.zeroValue21
  t46 := Tryz.underlying173
  a46 := Tryz.isAgg173
  z46 := Tryz.sizeOf173
  v46 := Tryz.zeroValue173
  t119 := Tryz.underlying218
  a119 := Tryz.isAgg218
  z119 := Tryz.sizeOf218
  t138 := Tryz.underlying220
  a138 := Tryz.isAgg220
  z138 := Tryz.sizeOf220
  v138 := Tryz.zeroValue220
  t139 := Tryz.underlying221
  a139 := Tryz.isAgg221
  z139 := Tryz.sizeOf221
  v139 := Tryz.zeroValue221
  g3 := by kernel_rfl
  g4 := by kernel_rfl }
open Go.RowKit Go.Lib in
theorem Tryz.utf8_decodeRuneInStringSlow (s : ByteArray) (w : World) (hT : Lib.Utf8Tabs 0 1 w) :
    Calls Tryz.prog 158 #[.string s] w fun e w' => e = .returned (.tuple #[.int .i32 (Lib.decodeGo s).1, .int .i64 (Lib.decodeGo s).2]) ∧ Below w.heap.size w w' := Any.utf8_decodeRuneInStringSlow Tryz.lays260 s w hT
open Go.RowKit Go.Lib in
/-- **unicode/utf8.DecodeRuneInString AT EVERY STRING.** (LAID: no walk: one application.) -/
theorem Tryz.utf8_DecodeRuneInString (s : ByteArray) (w : World) (hT : Lib.Utf8Tabs 0 1 w) :
    Calls Tryz.prog 143 #[.string s] w fun e w' => e = .returned (.tuple #[.int .i32 (Lib.decodeGo s).1, .int .i64 (Lib.decodeGo s).2]) ∧ Below w.heap.size w w' := Any.utf8_DecodeRuneInString Tryz.lays197 s w hT
def Tryz.lays271_ren : Go.Shelf.Ren := ⟨fun | 271 => 145 | 120 => 160 | 197 => 143 | 260 => 158 | n => n, fun | 9 => 9 | 21 => 21 | 3 => 3 | 4 => 4 | 5 => 5 | 105 => 197 | 119 => 218 | 0 => 0 | 46 => 173 | 139 => 221 | 138 => 220 | n => n, fun | 3 => 0 | 4 => 1 | n => n⟩
theorem Tryz.lays271 : Go.Proofs.Lays.n271 Tryz.prog Tryz.lays271_ren := {
  mixed := by kernel_rfl
  f120 := Tryz.func160.trans (congrArg some (by kernel_rfl))
  f197 := Tryz.func143.trans (congrArg some (by kernel_rfl))
  f260 := Tryz.func158.trans (congrArg some (by kernel_rfl))
  f271 := Tryz.func145.trans (congrArg some (by kernel_rfl))
  t0 := Tryz.underlying0
  a0 := Tryz.isAgg0
  z0 := Tryz.sizeOf0
  v0 := Tryz.zeroValue0
  t3 := Tryz.underlying3
  a3 := Tryz.isAgg3
  z3 := Tryz.sizeOf3
  v3 := Tryz.zeroValue3
  t4 := Tryz.underlying4
  a4 := Tryz.isAgg4
  z4 := Tryz.sizeOf4
  v4 := Tryz.zeroValue4
  t5 := Tryz.underlying5
  a5 := Tryz.isAgg5
  z5 := Tryz.sizeOf5
  v5 := Tryz.zeroValue5
  t9 := Tryz.underlying9
  a9 := Tryz.isAgg9
  z9 := Tryz.sizeOf9
  v9 := Tryz.zeroValue9
  t21 := Tryz.underlying21
  a21 := Tryz.isAgg21
  z21 := Tryz.sizeOf21
  v21 := Tryz.zeroValue21
  t46 := Tryz.underlying173
  a46 := Tryz.isAgg173
  z46 := Tryz.sizeOf173
  v46 := Tryz.zeroValue173
  t105 := Tryz.underlying197
  a105 := Tryz.isAgg197
  z105 := Tryz.sizeOf197
  v105 := Tryz.zeroValue197
  t119 := Tryz.underlying218
  a119 := Tryz.isAgg218
  z119 := Tryz.sizeOf218
  t138 := Tryz.underlying220
  a138 := Tryz.isAgg220
  z138 := Tryz.sizeOf220
  v138 := Tryz.zeroValue220
  t139 := Tryz.underlying221
  a139 := Tryz.isAgg221
  z139 := Tryz.sizeOf221
  v139 := Tryz.zeroValue221
  g3 := by kernel_rfl
  g4 := by kernel_rfl }
open Go.RowKit Go.Lib in
/-- **unicode/utf8.DecodeLastRuneInString AT EVERY STRING.** (LAID: no walk: one application.) -/
theorem Tryz.utf8_DecodeLastRuneInString (s : ByteArray) (w : World) (hs : s.size ≤ 9223372036854775807) (hT : Lib.Utf8Tabs 0 1 w) :
    Calls Tryz.prog 145 #[.string s] w fun e w' => e = .returned (.tuple #[.int .i32 (Lib.decodeLastL s.data.toList).1, .int .i64 (Lib.decodeLastL s.data.toList).2]) ∧ Below w.heap.size w w' := Any.utf8_DecodeLastRuneInString Tryz.lays271 s w hs hT
def Tryz.lays115_ren : Go.Shelf.Ren := ⟨fun | 115 => 68 | n => n, fun | 37 => 40 | 4 => 4 | 9 => 9 | 5 => 5 | n => n, fun | n => n⟩
theorem Tryz.lays115 : Go.Proofs.Lays.n115 Tryz.prog Tryz.lays115_ren := {
  mixed := by kernel_rfl
  f115 := Tryz.func68.trans (congrArg some (by kernel_rfl))
  t4 := Tryz.underlying4
  a4 := Tryz.isAgg4
  z4 := Tryz.sizeOf4
  v4 := Tryz.zeroValue4
  t9 := Tryz.underlying9
  a9 := Tryz.isAgg9
  z9 := Tryz.sizeOf9
  v9 := Tryz.zeroValue9
  t37 := Tryz.underlying40
  a37 := Tryz.isAgg40
  z37 := Tryz.sizeOf40
  v37 := Tryz.zeroValue40 }
open Go.Proofs Go.RowKit Go.Lib in
/-- bytes.Equal, each argument with what 'string(..)' of it gives. (LAID: no walk: one application.) -/
theorem Tryz.bytes_Equal_strs (v1 v2 : Value) (t1 t2 : ByteArray) (w : World) (h1 : (convert 40 9 v1).run Tryz.prog w = .ok (.string t1) w) (h2 : (convert 40 9 v2).run Tryz.prog w = .ok (.string t2) w) :
    Calls Tryz.prog 68 #[v1, v2] w fun e w' => e = .returned (.bool (t1.toList == t2.toList)) ∧ w' = w := Any.bytes_Equal_strs Tryz.lays115 v1 v2 t1 t2 w h1 h2
def Tryz.laysnb115_ren : Go.Shelf.Ren := ⟨fun | 115 => 68 | n => n, fun | 37 => 40 | 4 => 4 | 9 => 9 | 5 => 5 | n => n, fun | n => n⟩
theorem Tryz.laysnb115 : Go.Proofs.Lays.nb115 Tryz.prog Tryz.laysnb115_ren := {
  mixed := by kernel_rfl
  f115 := Tryz.func68.trans (congrArg some (by kernel_rfl))
  t4 := Tryz.underlying4
  a4 := Tryz.isAgg4
  z4 := Tryz.sizeOf4
  v4 := Tryz.zeroValue4
  t9 := Tryz.underlying9
  a9 := Tryz.isAgg9
  z9 := Tryz.sizeOf9
  v9 := Tryz.zeroValue9
  t37 := Tryz.underlying40
  a37 := Tryz.isAgg40
  z37 := Tryz.sizeOf40
  v37 := Tryz.zeroValue40
  t5 := Tryz.underlying5
  a5 := Tryz.isAgg5
  z5 := Tryz.sizeOf5
  v5 := Tryz.zeroValue5 }
/-- bytes.Equal: WHOLE. (LAID: no walk: one application.) -/
theorem Tryz.bytes_Equal_all (p1 p2 : Option Addr) (n c m d : Nat) (xs ys : List Int) (w : World) (hx : xs.length = n) (hy : ys.length = m) (h1 : Lib.BytesIn w p1 n xs) (h2 : Lib.BytesIn w p2 m ys) :
    Calls Tryz.prog 68 #[.slice p1 n c, .slice p2 m d] w fun e w' => e = .returned (.bool (Lib.bytesOf xs == Lib.bytesOf ys)) ∧ w' = w := Any.bytes_Equal_all Tryz.laysnb115 p1 p2 n c m d xs ys w hx hy h1 h2
/-- bytes.Equal: "Equal reports whether a and b are the same length and contain the same bytes. A nil argument is equivalent to an empty slice.": IT RETURNS 'the bytes of the one == the bytes of the other'; the world is as it was. THE TWO ARGUMENTS COME AS WHATEVER VALUES, each with the one fact that the walk wants of it: what 'string(..)' of it gives: for a slice whose cells you know: 'run_convert_bytes_arg' (Derived/Laws/BytesArg.lean) hands that fact; for a nil one: 'run_convert_bytes_nil' (with xs := []). (LAID: no walk: one application.) -/
theorem Tryz.bytes_Equal (v1 v2 : Value) (xs ys : List Int) (w : World) (h1 : (convert 40 9 v1).run Tryz.prog w = .ok (.string (strOfNums xs)) w) (h2 : (convert 40 9 v2).run Tryz.prog w = .ok (.string (strOfNums ys)) w) :
    Calls Tryz.prog 68 #[v1, v2] w fun e w' => e = .returned (.bool (Lib.bytesOf xs == Lib.bytesOf ys)) ∧ w' = w := Any.bytes_Equal Tryz.lays115 v1 v2 xs ys w h1 h2
end Go.Proofs
