/- Texts of this claim, joined: Part, Terms, Bytes, Must. -/
import Derived.Test.YtabafgphmbdpgaaGreatDoorIn10
import Derived.Deep.OwnRows
import Derived.Recover
import Derived.WalkSmall
import Derived.WalkLawsBesides
import Derived.Deep.RegionHeld2
/- number.part: a part of a number as a number. -/
namespace Sr
open Go Go.Proofs Go.RowKit Go.Maps Go.WideMaps

theorem info4 : (Tryz.prog.info? 4).map (fun i => (i.zero, i.size, i.bytes)) = some (some (.bool false), 1, 1) := by kernel_rfl
theorem un172 : Tryz.prog.underlying 172 = some (.slice 4) := by kernel_rfl

/-- a store into a row of one-cell elements -/
theorem set1 {W : World} {e : TypeId} {g n cap : Nat} {xs : List Value} (i : Nat) (v : Value) (h : W.ownsRow 0 e 1 (.slice (some ⟨g, 0, none⟩) n cap) n xs) :
    (W.setCell ⟨g, i, none⟩ v).ownsRow 0 e 1 (.slice (some ⟨g, 0, none⟩) n cap) n (xs.set i v) := by
  obtain ⟨h1, ⟨h2, _⟩ | ⟨g', cap', cur, hv, _, h4, h5, h6, h7, h8⟩⟩ := h
  · cases h2
  · cases hv
    have k1 := heap_setCell_same W g i cur e v h4
    exact ⟨by simpa using h1, .inr ⟨g, cap, _, rfl, Nat.zero_le _, k1, h5, h6, by simp [h7], by rw [Array.toList_setIfInBounds, List.take_set, h8]⟩⟩
theorem row1_free {W : World} {e : TypeId} {g n cap : Nat} {xs : List Value} (h : W.ownsRow 0 e 1 (.slice (some ⟨g, 0, none⟩) n cap) n xs) (i : Nat) : W.frozen? ⟨g, i, none⟩ = false := by
  obtain ⟨h1, ⟨h2, _⟩ | ⟨g', cap', cur, hv, _, h4, _⟩⟩ := h
  · cases h2
  · cases hv; exact free_of h4 i
theorem row1_at {W : World} {e : TypeId} {g n cap : Nat} {xs : List Value} (h : W.ownsRow 0 e 1 (.slice (some ⟨g, 0, none⟩) n cap) n xs) {i : Nat} {v : Value} (hi : xs[i]? = some v) : W.cell? ⟨g, i, none⟩ = some v := by
  obtain ⟨g', cap', hv, hc⟩ := row1_cell h hi
  cases hv; exact hc
theorem row1_at' {W : World} {e : TypeId} {g n n' cap : Nat} {xs : List Value} (h : W.ownsRow 0 e 1 (.slice (some ⟨g, 0, none⟩) n cap) n' xs) {i : Nat} {v : Value} (hi : xs[i]? = some v) : W.cell? ⟨g, i, none⟩ = some v := by
  obtain ⟨g', cap', hv, hc⟩ := row1_cell h hi
  cases hv; exact hc
theorem made_row {W : World} (e : TypeId) (z : Value) (n : Nat) (hn : n ≤ maxLen) : (W.alloc (.cells (madeCells #[z] n) e)).ownsRow 0 e 1 (.slice (some ⟨W.heap.size, 0, none⟩) n n) n (List.replicate n z) := by
  refine ⟨by simp, .inr ⟨W.heap.size, n, _, rfl, Nat.zero_le _, heap_last _ _, Nat.le_refl _, hn, by rw [size_madeCells]; simp, ?_⟩⟩
  refine List.ext_getElem? fun i => ?_
  rw [List.getElem?_replicate]
  by_cases hi : i < n
  · rw [List.getElem?_take_of_lt (by omega), if_pos hi]
    have := (World.rowIs_made W z n e)
    simp [madeCells, hi, Nat.mod_one]
  · rw [if_neg hi, List.getElem?_eq_none]
    rw [List.length_take]; omega

theorem made_set {W : World} (e : TypeId) (z v : Value) (n i : Nat) (hn : n ≤ maxLen) : (W.alloc (.cells ((madeCells #[z] n).setIfInBounds i v) e)).ownsRow 0 e 1 (.slice (some ⟨W.heap.size, 0, none⟩) n n) n ((List.replicate n z).set i v) := by
  obtain ⟨h1, ⟨h2, _⟩ | ⟨g', cap', cur, hv, _, h4, h5, h6, h7, h8⟩⟩ := made_row (W := W) e z n hn
  · cases h2
  · cases hv
    rw [heap_last] at h4
    cases h4
    exact ⟨by simp, .inr ⟨W.heap.size, n, _, rfl, Nat.zero_le _, heap_last _ _, h5, h6, by simp [h7], by rw [Array.toList_setIfInBounds, List.take_set, h8]⟩⟩
theorem rows_set {W : World} {g i : Nat} {v u : Value} {l : List PT} (hne : ∀ b, u.ownBlock = some b → b ≠ g) (h : TRow W u l) : TRow (W.setCell ⟨g, i, none⟩ v) u l :=
  ownsRow_kept h fun b e => RowKit.Below.heap_setCell _ _ _ _ (hne b e)
/-- a row of marks -/
def URow (W : World) (g n : Nat) (u : List Bool) : Prop := W.ownsRow 0 4 1 (.slice (some ⟨g, 0, none⟩) n n) n (u.map .bool)
theorem URow.at {W : World} {g n : Nat} {u : List Bool} (h : URow W g n u) {i : Nat} {b : Bool} (hi : u[i]? = some b) : W.cell? ⟨g, i, none⟩ = some (.bool b) := row1_at h (by rw [List.getElem?_map, hi]; rfl)
theorem URow.set {W : World} {g n : Nat} {u : List Bool} (h : URow W g n u) (i : Nat) (b : Bool) : URow (W.setCell ⟨g, i, none⟩ (.bool b)) g n (u.set i b) := by
  have := set1 i (.bool b) h
  unfold URow; rw [List.map_set]; exact this

/-- the state of the marking loops: bu holds the marks -/
structure PM (w1 : World) (bu k : Nat) (u : List Bool) (wr : World) : Prop where
  fr : Fr [bu] w1 wr
  row : URow wr bu (k + 1) u
theorem PM.set {w1 wr : World} {bu k : Nat} {u : List Bool} (h : PM w1 bu k u wr) (i : Nat) (b : Bool) : PM w1 bu k (u.set i b) (wr.setCell ⟨bu, i, none⟩ (.bool b)) :=
  ⟨⟨h.fr.os, h.fr.tape, h.fr.output, by have := h.fr.size; simpa using this, fun c hc hn => (RowKit.Below.heap_setCell _ _ _ _ (by show c ≠ bu; simpa using hn)).trans (h.fr.block c hc hn)⟩, h.row.set i b⟩
theorem PM.below {w1 wr w' : World} {bu k : Nat} {u : List Bool} (h : PM w1 bu k u wr) (hb : Below wr.heap.size wr w') : PM w1 bu k u w' :=
  ⟨⟨hb.os.trans h.fr.os, hb.tape.trans h.fr.tape, hb.output.trans h.fr.output, Nat.le_trans h.fr.size hb.size, fun c hc hn => (hb.block c (Nat.lt_of_lt_of_le hc h.fr.size)).trans (h.fr.block c hc hn)⟩, ownsRow_below h.row hb⟩
theorem PM.nb {w1 wr : World} {bu k : Nat} {u : List Bool} (h : PM w1 bu k u wr) {nb : Nat} {pv sv : Value} {fl : List Value} {x : Int} (hn : NB w1 nb pv sv fl x) (hu : ∃ c, w1.heap[bu]? = some (.cells c 4 (0, 0))) : NB wr nb pv sv fl x :=
  hn.kept fun b c T hb ht => h.fr.block b (Array.getElem?_eq_some_iff.1 hb).1 (by
    obtain ⟨c', hc'⟩ := hu
    have : b ≠ bu := type_ne hb hc' (by rintro rfl; rcases ht with h | h | h <;> cases h)
    simpa using this)

theorem PM.trow {w1 wr : World} {bu k : Nat} {u : List Bool} (h : PM w1 bu k u wr) (hu : ∃ c, w1.heap[bu]? = some (.cells c 4 (0, 0))) {v : Value} {l : List PT} (hr : TRow w1 v l) : TRow wr v l :=
  ownsRow_kept hr fun b e => h.fr.block b (ownsRow_lt hr e) (by
    obtain ⟨c', hc'⟩ := hu
    obtain ⟨c, hc⟩ := row_type hr e
    have : b ≠ bu := type_ne hc hc' (by decide)
    simpa using this)
theorem PM.drew {w1 wr : World} {bu k : Nat} {u : List Bool} (h : PM w1 bu k u wr) : Hid (PM w1 bu k u wr.drew) := h.below ((Below.refl _ _).drew)

def partX (wr : World) (k : Nat) : World := ((wr.alloc (.cells #[.slice none 0 0, .slice none 0 0] 158)).alloc (.cells (madeCells #[.int .i64 0] k) 3)).alloc (.cells #[.slice (some ⟨wr.heap.size + 1, 0, none⟩) k k] 80)
theorem partX_size (wr : World) (k : Nat) : (partX wr k).heap.size = wr.heap.size + 3 := by simp [partX]
theorem partX_below (wr : World) (k : Nat) : Below wr.heap.size wr (partX wr k) := (((Below.refl _ _).alloc (Nat.le_refl _) _).alloc (by simp) _).alloc (by simp; omega) _
theorem partX_box (wr : World) (k : Nat) : (partX wr k).heap[wr.heap.size + 1 + 1]? = some (.cells #[.slice (some ⟨wr.heap.size + 1, 0, none⟩) k k] 80 (0, 0)) := by unfold partX; exact heap_at (by simp)
/-- the state of the gathering loop: bp the places, bn the number -/
structure PL (w3 : World) (x : Int) (q k bp bn i : Nat) (ds : List Nat) (ov : Value) (fl : List Value) (wr : World) : Prop where
  fr : Fr [bp, bn] w3 wr
  obj : wr.heap[bn]? = some (.cells #[ov, .slice none 0 0] 158 (0, 0))
  orow : wr.ownsRow 0 111 1 ov (sel x q i).length fl
  own : ∀ b, ov.ownBlock = some b → w3.heap.size ≤ b
  rows : ∀ (j r : Nat), (sel x q i)[j]? = some r → ∃ u, fl[j]? = some u ∧ TRow wr u (atPl (Sr.parts (q : Int)) (r : Int))
  prow : wr.ownsRow 0 3 1 (.slice (some ⟨bp, 0, none⟩) k k) k (ds.map fun (i : Nat) => .int .i64 (i : Nat))
  pls : Pls x q k i ds

theorem partX_start (wr : World) {k : Nat} (hk : k ≤ maxLen) (x : Int) (q : Nat) : PL (partX wr k) x q k (wr.heap.size + 1) wr.heap.size 0 (List.replicate k 0) (.slice none 0 0) [] (partX wr k) := by
  have hs : sel x q 0 = [] := by simp [sel]
  refine ⟨Fr.refl _ _, ?_, by rw [hs]; exact ⟨rfl, .inl ⟨rfl, rfl⟩⟩, fun b h => (by cases h), fun j r h => (by rw [hs] at h; simp at h), ?_, Pls.start x q k⟩
  · unfold partX; rw [heap_old _ _ (by simp; omega), heap_old _ _ (by simp)]; exact heap_at rfl
  · have h := made_row (W := wr.alloc (.cells #[.slice none 0 0, .slice none 0 0] 158)) 3 (.int .i64 0) k hk
    rw [size_alloc] at h
    rw [List.map_replicate]
    exact World.ownsRow.alloc h _
section
variable {w3 wr : World} {x : Int} {q k bp bn i : Nat} {ds : List Nat} {ov : Value} {fl : List Value}
theorem PL.no (S : PL w3 x q k bp bn i ds ov fl wr) {p : Nat} (hi : (Sr.parts x)[i]? = some p) (hp : ¬ IsPart (q : Int) p) : PL w3 x q k bp bn (i + 1) ds ov fl wr :=
  ⟨S.fr, S.obj, by rw [sel_no hi hp]; exact S.orow, S.own, by rw [sel_no hi hp]; exact S.rows, S.prow, S.pls.no hi hp⟩
theorem PL.keep (S : PL w3 x q k bp bn i ds ov fl wr) {b : Nat} (hb : b < w3.heap.size) (h1 : b ≠ bp) (h2 : b ≠ bn) : wr.heap[b]? = w3.heap[b]? := S.fr.block b hb (by simp [h1, h2])
theorem PL.step (S : PL w3 x q k bp bn i ds ov fl wr) {p : Nat} (hk : (Sr.parts x)[k]? = some q) (hi : (Sr.parts x)[i]? = some p) (hik : i < k) (hp : IsPart (q : Int) p) (lp : bp < w3.heap.size) (ln : bn < w3.heap.size) {c : Nat} (hc : c = (sel x q i).length) {w6 w7 : World} {u : Value} {o : Obj} {g cap : Nat}
    (hb : Below wr.heap.size (wr.setCell ⟨bp, i, none⟩ (.int .i64 (c : Nat))) w6) (hu : TRow w6 u (atPl (Sr.parts (q : Int)) (p : Int))) (hown : w7.ownsRow 0 111 1 (.slice (some ⟨g, 0, none⟩) (c + 1) cap) (c + 1) (fl ++ [u])) (hg : (w6.alloc o).grownBy w7 ov.ownBlock) (hat : ov.ownBlock = some g ∨ g = w6.heap.size + 1) :
    w7.cell? ⟨bn, 0, none⟩ = some ov ∧ w7.frozen? ⟨bn, 0, none⟩ = false ∧ PL w3 x q k bp bn (i + 1) (ds.set i c) (.slice (some ⟨g, 0, none⟩) (c + 1) cap) (fl ++ [u]) (w7.setCell ⟨bn, 0, none⟩ (.slice (some ⟨g, 0, none⟩) (c + 1) cap)) := by
  have hsz := S.fr.size
  have hs6 : wr.heap.size ≤ w6.heap.size := by have := hb.size; simpa using this
  have hs7 : w6.heap.size + 1 ≤ w7.heap.size := by have := hg.size; simpa using this
  obtain ⟨pc, hpc⟩ := row_type S.prow (b := bp) rfl
  have nnp : bn ≠ bp := type_ne S.obj hpc (by decide)
  have novn : ov.ownBlock ≠ some bn := fun e => by
    obtain ⟨c, hc⟩ := row_type S.orow e
    exact type_ne hc S.obj (by decide) rfl
  have novp : ov.ownBlock ≠ some bp := fun e => by
    obtain ⟨c, hc⟩ := row_type S.orow e
    exact type_ne hc hpc (by decide) rfl
  have k6 : ∀ b, b < wr.heap.size → b ≠ bp → w6.heap[b]? = wr.heap[b]? := fun b h1 h2 => (hb.block b h1).trans (RowKit.Below.heap_setCell _ _ _ _ h2)
  have k7 : ∀ b, b < wr.heap.size → b ≠ bp → ov.ownBlock ≠ some b → w7.heap[b]? = wr.heap[b]? := fun b h1 h2 h3 =>
    (hg.block b (by simp; omega) (fun e => h3 e.symm)).trans ((heap_old _ _ (by omega)).trans (k6 b h1 h2))
  have h7 : w7.heap[bn]? = some (.cells #[ov, .slice none 0 0] 158 (0, 0)) := (k7 _ (by omega) nnp novn).trans S.obj
  have keep : ∀ b, b < wr.heap.size → b ≠ bp → ov.ownBlock ≠ some b → b ≠ bn → (w7.setCell ⟨bn, 0, none⟩ (.slice (some ⟨g, 0, none⟩) (c + 1) cap)).heap[b]? = wr.heap[b]? := fun b h1 h2 h3 h4 =>
    (RowKit.Below.heap_setCell _ _ _ _ h4).trans (k7 b h1 h2 h3)
  have hfl : fl.length = (sel x q i).length := by have := S.orow.1; omega
  have hsel := sel_yes hi hp
  have hprow5 := set1 i (.int .i64 (c : Nat)) S.prow
  refine ⟨by rw [cell_of h7]; rfl, free_of h7 0, ⟨?_, heap_setCell_same w7 bn 0 _ 158 _ h7, ?_, ?_, ?_, ?_, by rw [hc]; exact S.pls.yes hk hi hik hp⟩⟩
  · refine ⟨(show w7.os = w6.os from hg.os).trans ((show w6.os = wr.os from hb.os).trans S.fr.os), (show w7.tape = w6.tape from hg.tape).trans ((show w6.tape = wr.tape from hb.tape).trans S.fr.tape), (show w7.output = w6.output from hg.output).trans ((show w6.output = wr.output from hb.output).trans S.fr.output), by simp; omega, fun b h1 h2 => ?_⟩
    have h3 : b ≠ bp ∧ b ≠ bn := by simpa using h2
    rw [keep b (by omega) h3.1 (fun e => by have := S.own b e; omega) h3.2]
    exact S.fr.block b h1 h2
  · rw [hsel, List.length_append, ← hc]
    exact ownsRow_kept hown fun b e => RowKit.Below.heap_setCell _ _ _ _ (by
      show b ≠ bn
      intro e5
      obtain ⟨c, hc⟩ := row_type hown e
      exact type_ne hc h7 (by decide) e5)
  · intro b e
    have e' : b = g := by simpa [Value.ownBlock] using e.symm
    subst e'
    rcases hat with h | h
    · exact S.own b h
    · omega
  · intro j r hr
    rw [hsel] at hr
    by_cases hj : j < (sel x q i).length
    · rw [List.getElem?_append_left hj] at hr
      obtain ⟨u', h1, h2⟩ := S.rows j r hr
      refine ⟨u', by rw [List.getElem?_append_left (by omega)]; exact h1, ownsRow_kept h2 fun b e => ?_⟩
      obtain ⟨c2, hc2⟩ := row_type h2 e
      refine keep b (ownsRow_lt h2 e) (type_ne hc2 hpc (by decide)) (fun e2 => ?_) (type_ne hc2 S.obj (by decide))
      obtain ⟨c3, hc3⟩ := row_type S.orow e2
      exact type_ne hc2 hc3 (by decide) rfl
    · have hjl : j = (sel x q i).length := by
        have := (List.getElem?_eq_some_iff.1 hr).1
        simp at this; omega
      subst hjl
      simp at hr; subst hr
      refine ⟨u, by rw [List.getElem?_append_right (by omega)]; simp [hfl], ownsRow_kept hu fun b e => ?_⟩
      obtain ⟨c2, hc2⟩ := row_type hu e
      have hlt := ownsRow_lt hu e
      refine (RowKit.Below.heap_setCell _ _ _ _ ?_).trans ((hg.block b (by simp; omega) ?_).trans (heap_old _ _ hlt))
      · show b ≠ bn
        have h6 : w6.heap[bn]? = some (.cells #[ov, .slice none 0 0] 158 (0, 0)) := (k6 _ (by omega) nnp).trans S.obj
        exact type_ne hc2 h6 (by decide)
      · intro e2
        obtain ⟨c3, hc3⟩ := row_type S.orow e2.symm
        have h4 := (k6 b (ownsRow_lt S.orow e2.symm) (by rintro rfl; exact novp e2.symm)).trans hc3
        exact type_ne hc2 h4 (by decide) rfl
  · rw [List.map_set]
    refine ownsRow_kept hprow5 fun b e => ?_
    have e' : b = bp := by simpa [Value.ownBlock] using e.symm
    subst e'
    refine (RowKit.Below.heap_setCell _ _ _ _ (by show b ≠ bn; exact nnp.symm)).trans ((hg.block b (by simp; omega) (fun e2 => novp e2.symm)).trans ((heap_old _ _ (by omega)).trans (hb.block b (by omega))))
end

set_option maxHeartbeats 8000000 in
set_option maxRecDepth 100000 in
theorem part_calls {W : World} {nb : Nat} {pv sv : Value} {fl : List Value} {x : Int} (h : NB W nb pv sv fl x) (hal : allowed x) {k q : Nat} (hq : (Sr.parts x)[k]? = some q) :
    Calls Tryz.prog 157 #[.pointer (some ⟨nb, 0, none⟩), .int .i64 (k : Nat)] W fun e W' => ∃ r, e = .returned (.agg #[.pointer r]) ∧ Hid (IsN W' (.agg #[.pointer r]) (q : Int)) ∧ Hid (Below W.heap.size W W') := by
  have HAl := Lib.hid hal
  have hkl : k < (Sr.parts x).length := (List.getElem?_eq_some_iff.1 hq).1
  have hkb : k < 1999 := by have := hal.2.2.1; omega
  obtain ⟨pa, pc, hpv⟩ : ∃ pa pc, pv = .slice pa (Sr.parts x).length pc := by
    obtain ⟨_, ⟨q1, q2⟩ | ⟨g, cap, cur, q1, _⟩⟩ := h.parts
    · exact ⟨none, 0, by rw [q1, q2]⟩
    · exact ⟨_, cap, q1⟩
  obtain ⟨np, hnp⟩ : ∃ np, np = (Sr.parts x).length := ⟨_, rfl⟩
  rw [← hnp] at hpv hkl
  subst hpv
  have HNP := Lib.hid hnp
  obtain ⟨u0, hu0, hr0⟩ := h.rows k q hq
  obtain ⟨gp, cp, heq, cq⟩ := row1_cell h.parts hu0
  obtain ⟨e1, e2, e3⟩ := Value.slice.inj heq
  subst e1
  clear e2 e3 heq
  have cnb : W.cell? ⟨nb, 0, none⟩ = some (.slice (some ⟨gp, 0, none⟩) np pc) := by rw [cell_of h.obj]; rfl
  have hnbl : nb < W.heap.size := (Array.getElem?_eq_some_iff.1 h.obj).1
  have hnbs : nb ≠ W.heap.size := by omega
  have hgpl : gp < W.heap.size := cell_lt cq
  have hgps : gp ≠ W.heap.size := by omega
  have k0 : (0 : Int) ≤ (k : Int) := Int.natCast_nonneg k
  have kz : (k : Int) < (np : Int) := by omega
  obtain ⟨ra, rc, rfl, _, _⟩ := hr0.shape
  obtain ⟨nr, hnr⟩ : ∃ nr, nr = (atPl (Sr.parts x) (q : Int)).length := ⟨_, rfl⟩
  rw [← hnr] at cq hu0
  have HNr : Hid (nr = (form (q : Int)).length) := by show _ = _; rw [hnr]; simp [atPl]
  have HQ := Lib.hid hq
  have HN := Lib.hid h
  have HU0 := Lib.hid hu0
  clear hal hnp hr0 hu0 hnr hq h
  by_cases h0 : nr = 0
  · have h0z : ((nr : Int) == 0) = true := by simp [h0]
    have HQ0 : Hid (q = 0) := by
      have h1 : form (q : Int) = [] := List.length_eq_zero_iff.1 (by rw [← HNr.out]; exact h0)
      have := form_nil h1
      show q = 0; omega
    go_enter Tryz.func157, Tryz.ntmps157
    go_wp2_with fail
    refine bodyPost_ret (v := .agg #[.pointer none]) (by simp [results, Tryz.results157, go_sem]) rfl ?_
    refine ⟨none, rfl, ?_, (Below.refl _ _).alloc (Nat.le_refl _) _⟩
    rw [HQ0.out]; exact ⟨allowed_zero, .inl ⟨rfl, rfl⟩⟩
  · have h0z : ((nr : Int) == 0) = false := by simpa using h0
    have H0 := Lib.hid h0
    have hw1 : IntKind.i64.wrap ((k : Int) + 1) = (k : Int) + 1 := by rw [IntKind.wrap_i64]; omega
    have hmk1 : ∀ w, (Instr.makeSlice 172 (.int .i64 ((k : Int) + 1)) (.int .i64 ((k : Int) + 1))).run Tryz.prog w = .ok (.slice (some ⟨w.heap.size, 0, none⟩) (k + 1) (k + 1)) (w.alloc (.cells (madeCells #[.bool false] (k + 1)) 4)) := fun w =>
      run_make_row' (P := Tryz.prog) 172 4 (.bool false) 1 un172 info4 rfl .i64 .i64 (k + 1) (by omega) (by omega) w
    have hrowM := made_row (W := W.alloc (.cells #[.pointer none] 26)) 4 (.bool false) (k + 1) (by simp only [maxLen]; omega)
    rw [size_alloc] at hrowM
    have cM : ((W.alloc (.cells #[.pointer none] 26)).alloc (.cells (madeCells #[.bool false] (k + 1)) 4)).cell? ⟨W.heap.size + 1, k, none⟩ = some (.bool false) := row1_at hrowM (by simp)
    have fM := row1_free hrowM k
    have M0 := Lib.hid (Mk.start HQ.out)
    have k1z : (k : Int) < ((k : Int) + 1) := by omega
    clear hrowM h0
    have hrow1 := made_set (W := W.alloc (.cells #[.pointer none] 26)) 4 (.bool false) (.bool true) (k + 1) k (by simp only [maxLen]; omega)
    rw [size_alloc] at hrow1
    obtain ⟨w1, hw1'⟩ : ∃ w1, w1 = (W.alloc (.cells #[.pointer none] 26)).alloc (.cells ((madeCells #[.bool false] (k + 1)).setIfInBounds k (.bool true)) 4) := ⟨_, rfl⟩
    rw [← hw1'] at hrow1
    have HW1 := Lib.hid hw1'
    have S0 : Hid (PM w1 (W.heap.size + 1) k ((List.replicate (k + 1) false).set k true) w1) := ⟨Fr.refl _ _, by unfold URow; rw [List.map_set, List.map_replicate]; exact hrow1⟩
    clear hw1' hrow1
    go_enter Tryz.func157, Tryz.ntmps157
    go_wp2_with fail
    clear hmk1 cM fM cnb cq
    have hw1' := HW1.out
    rw [← hw1']
    have HB1 : Hid (Below W.heap.size W w1) := by show Below _ _ _; rw [hw1']; exact ((Below.refl _ _).alloc (Nat.le_refl _) _).alloc (by simp) _
    have hz1 : w1.heap.size = W.heap.size + 2 := by rw [hw1']; simp
    have HX4 : Hid (w1.heap[W.heap.size]? = some (.cells #[.pointer none] 26 (0, 0))) := by show _ = _; rw [hw1', heap_old _ _ (by simp)]; exact heap_last W _
    have HXu : Hid (∃ c, w1.heap[W.heap.size + 1]? = some (.cells c 4 (0, 0))) := ⟨_, by rw [hw1']; exact heap_at (by simp)⟩
    have HN1 := Lib.hid (HN.out.below HB1.out)
    clear hw1' HW1
    go_loopg [6] (k + 1) (fun g1 vi wr => ∃ (r : Nat) (u : List Bool), vi = .int .i64 ((r : Int) - 1) ∧ r ≤ k + 1 ∧ r ≤ g1 ∧ Hid (PM w1 (W.heap.size + 1) k u wr) ∧ Hid (Mk x q k r u))
    case atStart => exact ⟨k + 1, _, by go_num, by omega, by omega, S0, M0⟩
    case round =>
      clear S0 M0
      obtain ⟨r, u, rfl, hrk, hg, HS, HM⟩ := hrel
      by_cases hr : 0 < r
      · obtain ⟨i, rfl⟩ : ∃ i, r = i + 1 := ⟨r - 1, by omega⟩
        have hi : (((i + 1 : Nat) : Int) - 1) = (i : Int) := by omega
        rw [hi]
        clear hi
        have i0 : (0 : Int) ≤ (i : Int) := Int.natCast_nonneg i
        have iz : (i : Int) < (np : Int) := by omega
        have hnw := HS.out.nb HN1.out HXu.out
        obtain ⟨pi, hpi⟩ : ∃ pi, (Sr.parts x)[i]? = some pi := ⟨_, List.getElem?_eq_getElem (by have := HNP.out; omega)⟩
        obtain ⟨ui, hui, hri⟩ := hnw.rows i pi hpi
        obtain ⟨g9, c9, hq9, ci⟩ := row1_cell hnw.parts hui
        obtain ⟨e9, e9b, e9c⟩ := Value.slice.inj hq9
        cases e9
        clear hq9 e9b e9c
        have cnb : wr.cell? ⟨nb, 0, none⟩ = some (.slice (some ⟨gp, 0, none⟩) np pc) := by rw [cell_of hnw.obj]; rfl
        obtain ⟨ia, ic, rfl, _, _⟩ := hri.shape
        obtain ⟨ni, hni⟩ : ∃ ni, ni = (atPl (Sr.parts x) (pi : Int)).length := ⟨_, rfl⟩
        have hnib : ni ≤ 300 := by rw [hni]; have := HAl.out.2.1 pi (List.mem_of_getElem? hpi); simpa [atPl] using this
        rw [← hni] at ci
        have HNi := Lib.hid hni
        have HPi := Lib.hid hpi
        have HRi := Lib.hid hri
        have HRi1 : Hid (TRow w1 (.slice ia ni ic) (atPl (Sr.parts x) (pi : Int))) := by
          obtain ⟨u1, q1, q2⟩ := HN1.out.rows i pi HPi.out
          rw [hui] at q1; cases q1
          rw [HNi.out]; exact q2
        have I0 := Lib.hid HM.out.inner
        have HLi : Hid (ni = (exps (pi : Int)).length) := by show _ = _; rw [HNi.out]; simp [atPl, exps]
        clear hnw hui hri hni hpi HRi
        go_wp2_with fail
        go_loopg [42] ni (fun g2 vj wq => ∃ (m : Nat) (u2 : List Bool), vj = .int .i64 m ∧ m ≤ ni ∧ ni - m ≤ g2 ∧ Hid (PM w1 (W.heap.size + 1) k u2 wq) ∧ Hid (MkI x q k i m u2))
        case atStart => exact ⟨0, u, rfl, by omega, by omega, HS, I0⟩
        case round =>
          clear I0 HS HM ci cnb
          obtain ⟨m, u2, rfl, hmn, hg2, HS2, HM2⟩ := hrel
          by_cases hm : m < ni
          · have hmz : (m : Int) < (ni : Int) := by omega
            have m0 : (0 : Int) ≤ (m : Int) := Int.natCast_nonneg m
            have hmw : IntKind.i64.wrap ((m : Int) + 1) = (m : Int) + 1 := IntWalk.i64_in _ (by omega)
            obtain ⟨e, he⟩ : ∃ e, (exps (pi : Int))[m]? = some e := ⟨_, List.getElem?_eq_getElem (by rw [← HLi.out]; exact hm)⟩
            obtain ⟨t, ht, rfl⟩ : ∃ t, (form (pi : Int))[m]? = some t ∧ t.2 = e := by
              unfold exps at he; rw [List.getElem?_map] at he; exact Option.map_eq_some_iff.1 he
            obtain ⟨sx, e⟩ := t
            have hap : (atPl (Sr.parts x) (pi : Int))[m]? = some (sx, (Sr.parts x).idxOf e) := by unfold atPl; rw [List.getElem?_map, ht]; rfl
            have hep : e ∈ Sr.parts x := mem_parts.2 (.step (mem_parts.1 (List.mem_of_getElem? HPi.out)) (List.mem_of_getElem? he))
            have hei : (Sr.parts x).idxOf e < i := (parts_lt (parts_get hep) HPi.out).2 (by have := exps_lt (List.mem_of_getElem? he); simpa using this)
            have hrw := HS2.out.trow HXu.out HRi1.out
            obtain ⟨_, _, ea, _, sa⟩ := hrw.shape
            obtain ⟨ga, hga, cx0, cx1⟩ := sa m _ hap
            obtain ⟨q1, q2, q3⟩ := Value.slice.inj ea
            subst hga
            subst q1
            clear q2 q3 ea sa hrw
            dsimp only at cx0 cx1
            obtain ⟨ba, hba⟩ := HM2.out.mk'.bool (j := (Sr.parts x).idxOf e) (by omega)
            obtain ⟨bi, hbi⟩ := HM2.out.mk'.bool (j := i) (by omega)
            have HNx := HM2.out.step HPi.out he hba hbi
            have cba := HS2.out.row.at hba
            have cbi := HS2.out.row.at hbi
            have fba := row1_free HS2.out.row ((Sr.parts x).idxOf e)
            obtain ⟨a, ha⟩ : ∃ a, a = (Sr.parts x).idxOf e := ⟨_, rfl⟩
            rw [← ha] at cx1 cba fba hei HNx
            have a0 : (0 : Int) ≤ (a : Int) := Int.natCast_nonneg a
            have az : (a : Int) < (k : Int) + 1 := by omega
            have iz2 : (i : Int) < (k : Int) + 1 := by omega
            have hul : W.heap.size + 1 < wr.heap.size := cell_lt cba
            have hus : W.heap.size + 1 ≠ wr.heap.size := by omega
            have hgl : ga < wr.heap.size := cell_lt cx0
            have hgs : ga ≠ wr.heap.size := by omega
            have HPM := fun (b : Bool) => Lib.hid ((HS2.out.set a b).below (w' := ((wr.setCell ⟨W.heap.size + 1, a, none⟩ (.bool b)).alloc (.cells #[.bool sx, .int .i64 (a : Nat)] 154))) ((Below.refl _ _).alloc (Nat.le_refl _) _))
            have HNX := Lib.hid HNx
            clear ht he hap hep hba hbi ha HNx
            cases ba <;> cases bi
            all_goals
              go_wp2_with fail
              go_region
              go_wp2_with fail
              go_roundg (ni - (m + 1))
              case measure => omega
              case rel => exact ⟨m + 1, _, by go_num, by omega, by omega, (HPM _).out.drew, HNX⟩
          · have hmz : ¬ ((m : Int) < (ni : Int)) := by omega
            have HMk : Hid (Mk x q k i u2) := HM2.out.done' HPi.out (by rw [← HLi.out]; omega)
            have hiw : IntKind.i64.wrap ((i : Int) - 1) = (i : Int) - 1 := IntWalk.i64_in _ (by omega)
            go_wp2_with fail
            go_roundg i
            case measure => omega
            case rel => exact ⟨i, u2, rfl, by omega, by omega, HS2, HMk⟩
      · obtain rfl : r = 0 := by omega
        have hmk2 : ∀ w, (Instr.makeSlice 80 (.int .i64 (k : Int)) (.int .i64 (k : Int))).run Tryz.prog w = .ok (.slice (some ⟨w.heap.size, 0, none⟩) k k) (w.alloc (.cells (madeCells #[.int .i64 0] k) 3)) := fun w =>
          run_make_row' (P := Tryz.prog) 80 3 (.int .i64 0) 8 un80 info3 rfl .i64 .i64 k (by omega) (by omega) w
        have hm1 : ¬ ((0 : Int) ≤ ((0 : Nat) : Int) - 1) := by omega
        go_wp2_with fail
        clear hmk2 hm1
        have HMf := Lib.hid HM.out
        have HPMf := Lib.hid HS.out
        have P0 := Lib.hid (partX_start wr (k := k) (by simp only [maxLen]; omega) x q)
        obtain ⟨w2, hw2⟩ : ∃ w2, w2 = wr := ⟨_, rfl⟩
        obtain ⟨w3, hw3⟩ : ∃ w3, w3 = partX wr k := ⟨_, rfl⟩
        rw [show ((wr.alloc (.cells #[.slice none 0 0, .slice none 0 0] 158)).alloc (.cells (madeCells #[.int .i64 0] k) 3)).alloc (.cells #[.slice (some ⟨wr.heap.size + 1, 0, none⟩) k k] 80) = w3 from hw3.symm]
        rw [← hw3] at P0
        rw [← hw2] at P0 HPMf ⊢
        rw [← hw2] at hw3
        have hz3 : w3.heap.size = w2.heap.size + 3 := by rw [hw3, partX_size]
        have HB3 : Hid (Below w2.heap.size w2 w3) := by show Below _ _ _; rw [hw3]; exact partX_below w2 k
        have HX10 : Hid (w3.heap[w2.heap.size + 1 + 1]? = some (.cells #[.slice (some ⟨w2.heap.size + 1, 0, none⟩) k k] 80 (0, 0))) := by show _ = _; rw [hw3]; exact partX_box w2 k
        have HN2 := Lib.hid (HPMf.out.nb HN1.out HXu.out)
        have hz2 : w1.heap.size ≤ w2.heap.size := HPMf.out.fr.size
        clear hw3 hw2 HS HM
        go_loopg [68] k (fun g1 vi wr => ∃ (i : Nat) (ds : List Nat) (ov : Value) (fl2 : List Value), vi = .int .i64 i ∧ i ≤ k ∧ k - i ≤ g1 ∧ Hid (PL w3 x q k (w2.heap.size + 1) w2.heap.size i ds ov fl2 wr))
        case atStart => exact ⟨0, _, _, [], rfl, by omega, by omega, P0⟩
        case round =>
          clear P0
          obtain ⟨i, ds, ov, fl2, rfl, hik, hg3, HS⟩ := hrel
          have hsz := HS.out.fr.size
          have keep : ∀ b, b < w2.heap.size → wr.heap[b]? = w2.heap[b]? := fun b hb => (HS.out.keep (by omega) (by omega) (by omega)).trans (HB3.out.block b hb)
          have HNw := Lib.hid (HN2.out.kept (w' := wr) (fun b c T hb _ => keep b (Array.getElem?_eq_some_iff.1 hb).1))
          have HUw : Hid (URow wr (W.heap.size + 1) (k + 1) u) := ownsRow_kept HPMf.out.row fun b e => keep b (ownsRow_lt HPMf.out.row e)
          have HX10w := Lib.hid ((HS.out.keep (b := w2.heap.size + 1 + 1) (by omega) (by omega) (by omega)).trans HX10.out)
          have HX4w : Hid (wr.heap[W.heap.size]? = some (.cells #[.pointer none] 26 (0, 0))) := (keep _ (by omega)).trans ((HPMf.out.fr.block _ (by omega) (by simp)).trans HX4.out)
          have cnb : wr.cell? ⟨nb, 0, none⟩ = some (.slice (some ⟨gp, 0, none⟩) np pc) := by rw [cell_of HNw.out.obj]; rfl
          have c10 : wr.cell? ⟨w2.heap.size + 1 + 1, 0, none⟩ = some (.slice (some ⟨w2.heap.size + 1, 0, none⟩) k k) := by rw [cell_of HX10w.out]; rfl
          clear keep
          by_cases hi : i < k
          · have hiz : (i : Int) < (k : Int) := by omega
            have i0 : (0 : Int) ≤ (i : Int) := Int.natCast_nonneg i
            have hiw : IntKind.i64.wrap ((i : Int) + 1) = (i : Int) + 1 := IntWalk.i64_in _ (by omega)
            have izu : (i : Int) < (k : Int) + 1 := by omega
            have izn : (i : Int) < (np : Int) := by omega
            obtain ⟨pi, hpi⟩ : ∃ pi, (Sr.parts x)[i]? = some pi := ⟨_, List.getElem?_eq_getElem (by have := HNP.out; omega)⟩
            obtain ⟨bi, hbi⟩ := HMf.out.bool (j := i) (by omega)
            have cbi := HUw.out.at hbi
            have hfin := HMf.out.fin HQ.out hpi hi
            cases bi
            · have hno : ¬ IsPart (q : Int) pi := fun h => by have := hfin.2 h; rw [hbi] at this; cases this
              have HNx := Lib.hid (HS.out.no hpi hno)
              clear hbi hfin hno hpi
              go_wp2_with fail
              go_roundg (k - (i + 1))
              case measure => omega
              case rel => exact ⟨i + 1, ds, ov, fl2, by go_num, by omega, by omega, HNx⟩
            · have hyes : IsPart (q : Int) pi := hfin.1 hbi
              obtain ⟨oa, oc, hov⟩ : ∃ oa oc, ov = .slice oa (sel x q i).length oc := by
                obtain ⟨_, ⟨q1, q2⟩ | ⟨g, cap, cur, q1, _⟩⟩ := HS.out.orow
                · exact ⟨none, 0, by rw [q1, q2]⟩
                · exact ⟨_, cap, q1⟩
              obtain ⟨c, hc⟩ : ∃ c, c = (sel x q i).length := ⟨_, rfl⟩
              rw [← hc] at hov
              subst hov
              have hcb : c ≤ 2000 := by
                have h1 := (List.filter_sublist (l := (Sr.parts x).take i) (p := fun p => @decide (IsPart (q : Int) p) (Classical.propDecidable _))).length_le
                rw [hc]
                unfold sel
                rw [List.length_take] at h1
                omega
              have con : wr.cell? ⟨w2.heap.size, 0, none⟩ = some (.slice oa c oc) := by rw [cell_of HS.out.obj]; rfl
              have cbp : wr.cell? ⟨w2.heap.size + 1, i, none⟩ = some (.int .i64 (ds[i]'(by rw [HS.out.pls.len]; exact hi) : Nat)) := row1_at HS.out.prow (by rw [List.getElem?_map, List.getElem?_eq_getElem (by rw [HS.out.pls.len]; exact hi)]; rfl)
              have fbp := row1_free HS.out.prow i
              obtain ⟨ui, hui, hri⟩ := HNw.out.rows i pi hpi
              obtain ⟨g9, c9, hq9, ci⟩ := row1_cell HNw.out.parts hui
              obtain ⟨e9, e9b, e9c⟩ := Value.slice.inj hq9
              cases e9
              clear hq9 e9b e9c
              have n1 : nb ≠ w2.heap.size + 1 := by have := (Array.getElem?_eq_some_iff.1 HN2.out.obj).1; omega
              have hnb2 : nb < w2.heap.size := (Array.getElem?_eq_some_iff.1 HN2.out.obj).1
              have hgp2 : gp < w2.heap.size := by
                have := HN2.out.parts
                exact ownsRow_lt this (b := gp) rfl
              have n2 : gp ≠ w2.heap.size + 1 := by omega
              have HC := Lib.hid hc
              have HHi : Hid (Hid (PL w3 x q k (w2.heap.size + 1) w2.heap.size i ds (.slice oa c oc) fl2 wr)) := HS
              obtain ⟨ia, ic, rfl, _, _⟩ := hri.shape
              obtain ⟨ni, hni⟩ : ∃ ni, ni = (atPl (Sr.parts x) (pi : Int)).length := ⟨_, rfl⟩
              have hnib : (atPl (Sr.parts x) (pi : Int)).length ≤ 1000000 := by have := HAl.out.2.1 pi (List.mem_of_getElem? hpi); simp [atPl]; omega
              have hlds : (ds.set i c).length = k := by rw [List.length_set]; exact HS.out.pls.len
              have hprw := set1 i (.int .i64 (c : Nat)) HS.out.prow
              rw [← List.map_set] at hprw
              have hrows := rows_set (g := w2.heap.size + 1) (i := i) (v := .int .i64 (c : Nat)) (fun b e => by have := ownsRow_lt HS.out.prow (b := w2.heap.size + 1) rfl; obtain ⟨c1, h1⟩ := row_type hri e; obtain ⟨c2, h2⟩ := row_type HS.out.prow (b := w2.heap.size + 1) rfl; exact type_ne h1 h2 (by decide)) hri
              have HP := placedS_calls (W := (wr.setCell ⟨w2.heap.size + 1, i, none⟩ (.int .i64 (c : Nat))).drew.drew) (bp := w2.heap.size + 1 + 1) (pv := .slice (some ⟨w2.heap.size + 1, 0, none⟩) k k) (v := .slice ia (atPl (Sr.parts x) (pi : Int)).length ic) (ds := ds.set i c) (l := atPl (Sr.parts x) (pi : Int)) (G := fun j => (Sr.parts (q : Int)).idxOf ((Sr.parts x).getD j 0))
                ((RowKit.Below.heap_setCell _ _ _ _ (by show w2.heap.size + 1 + 1 ≠ w2.heap.size + 1; omega)).trans HX10w.out) (by unfold IRow; rw [hlds]; exact hprw) hrows
                (by
                  have h1 := HS.out.pls.yes HQ.out hpi hi hyes
                  rw [← hc] at h1
                  exact h1.places HQ.out fun e he => by
                    have h2 : e ∈ Sr.parts x := mem_parts.2 (.step (mem_parts.1 (List.mem_of_getElem? hpi)) he)
                    exact ⟨h2, by have := (parts_lt (parts_get h2) hpi).2 (by have := exps_lt he; simpa using this); omega, .step hyes he⟩) hnib
              rw [show repl (fun j => (Sr.parts (q : Int)).idxOf ((Sr.parts x).getD j 0)) (atPl (Sr.parts x) (pi : Int)) = atPl (Sr.parts (q : Int)) (pi : Int) from atPl_part fun e he => mem_parts.2 (.step (mem_parts.1 (List.mem_of_getElem? hpi)) he)] at HP
              rw [← hni] at HP ci
              have HPi := Lib.hid hpi
              have HYes := Lib.hid hyes
              have HOv : Hid ((wr.setCell ⟨w2.heap.size + 1, i, none⟩ (.int .i64 (c : Nat))).ownsRow 0 111 1 (.slice oa c oc) c fl2) := by
                have h1 := HS.out.orow
                rw [← hc] at h1
                exact ownsRow_kept h1 fun b e => RowKit.Below.heap_setCell _ _ _ _ (by
                  obtain ⟨c1, q1⟩ := row_type h1 e; obtain ⟨c2, q2⟩ := row_type HS.out.prow (b := w2.heap.size + 1) rfl
                  exact type_ne q1 q2 (by decide))
              have HObj : Hid ((wr.setCell ⟨w2.heap.size + 1, i, none⟩ (.int .i64 (c : Nat))).heap[w2.heap.size]? = some (.cells #[.slice oa c oc, .slice none 0 0] 158 (0, 0))) := (RowKit.Below.heap_setCell _ _ _ _ (by show w2.heap.size ≠ w2.heap.size + 1; omega)).trans HS.out.obj
              have hn0 : w2.heap.size ≠ w2.heap.size + 1 := by omega
              have hn1 : w2.heap.size + 1 + 1 ≠ w2.heap.size + 1 := by omega
              have hlw : w2.heap.size < wr.heap.size := by omega
              have hcb2 : c + 1 ≤ 1099511627776 := by omega
              clear hbi hfin hc hui hri hni hlds hprw hrows hpi hyes
              go_wp2_with fail
              go_region
              go_wp2_with fail
              go_region_law (first
                | (refine step_F1 rfl (.tmp 87) (.tmp 97) rfl (.slice oa c oc) c fl2 rfl (World.ownsRow.alloc HOv6.out _) _ (.slice ua nq uc) rfl rfl (heap_last _ _) hcb2 _ rfl ?_; intro g cap w7 I7 G7 A7 L7
                   obtain ⟨c7, f7, hpl⟩ := HS.out.step HQ.out HPi.out hi HYes.out (by omega) (by omega) HC.out HB6.out HU6.out I7 G7 (by simpa using A7)
                   have HPL := Lib.hid hpl
                   clear I7 G7 A7 L7 hpl)
                | (go_simp; go_at_call 166; refine HP.mono ?_; rintro y w6 ⟨u6, rfl, hu6, hb6, ho6⟩
                   obtain ⟨ua, uc, rfl, _, _⟩ := hu6.out.shape
                   have HU6 := Lib.hid hu6.out
                   obtain ⟨nq, hnq⟩ : ∃ nq, nq = (atPl (Sr.parts (q : Int)) (pi : Int)).length := ⟨_, rfl⟩
                   rw [← hnq] at HU6
                   rw [← hnq]
                   have HB6 : Hid (Below wr.heap.size (wr.setCell ⟨w2.heap.size + 1, i, none⟩ (.int .i64 (c : Nat))) w6) := ⟨hb6.out.os, hb6.out.tape, hb6.out.output, by have := hb6.out.size; simpa using this, fun b hb => hb6.out.block b (by simpa using hb)⟩
                   have HOv6 : Hid (w6.ownsRow 0 111 1 (.slice oa c oc) c fl2) := ownsRow_kept HOv.out fun b e => HB6.out.block b (by have := ownsRow_lt HOv.out e; simpa using this)
                   have HO6 := Lib.hid ((HB6.out.block _ hlw).trans HObj.out)
                   have c13w : w6.cell? ⟨w2.heap.size, 0, none⟩ = some (.slice oa c oc) := by rw [cell_of HO6.out]; rfl
                   have c13a : ∀ o, (w6.alloc o).cell? ⟨w2.heap.size, 0, none⟩ = some (.slice oa c oc) := fun o => by rw [cell_of ((heap_old _ _ (Array.getElem?_eq_some_iff.1 HO6.out).1).trans HO6.out)]; rfl
                   clear hu6 hb6 ho6 hnq))
              all_goals
                clear HU6 HB6 HOv6 c13w c13a HO6 HOv HObj HP c7 f7 con cbp fbp ci
                go_wp2_with fail
                go_roundg (k - (i + 1))
                case measure => omega
                case rel => exact ⟨i + 1, _, _, _, by go_num, by omega, by omega, HPL⟩
          · have hiz : ¬ ((i : Int) < (k : Int)) := by omega
            have hik2 : i = k := by omega
            have hqx := List.mem_of_getElem? HQ.out
            have hqp : IsPart x q := mem_parts.1 hqx
            obtain ⟨uk, huk, hrk⟩ := HNw.out.rows k q HQ.out
            rw [HU0.out] at huk
            cases huk
            have ck := row1_at' HNw.out.parts HU0.out
            have hsel : Hid (sel x q i = Sr.parts (q : Int)) := by show _ = _; rw [hik2]; exact sel_parts HQ.out
            have hlds : ds.length = k := HS.out.pls.len
            have hlen : (atPl (Sr.parts x) (q : Int)).length ≤ 1000000 := by have := HAl.out.2.1 q hqx; simp [atPl]; omega
            have hnrq : nr = (atPl (Sr.parts x) (q : Int)).length := by rw [HNr.out]; simp [atPl]
            rw [hnrq] at hrk
            have HP := placedS_calls (W := wr) (bp := w2.heap.size + 1 + 1) (pv := .slice (some ⟨w2.heap.size + 1, 0, none⟩) k k) (v := .slice ra (atPl (Sr.parts x) (q : Int)).length rc) (ds := ds) (l := atPl (Sr.parts x) (q : Int)) (G := fun j => (Sr.parts (q : Int)).idxOf ((Sr.parts x).getD j 0))
              HX10w.out (by unfold IRow; rw [hlds]; exact HS.out.prow) hrk
              (HS.out.pls.places HQ.out fun e he => by
                have h2 : e ∈ Sr.parts x := mem_parts.2 (.step hqp he)
                exact ⟨h2, by have := (parts_lt (parts_get h2) HQ.out).2 (by have := exps_lt he; simpa using this); omega, .here he⟩) hlen
            rw [show repl (fun j => (Sr.parts (q : Int)).idxOf ((Sr.parts x).getD j 0)) (atPl (Sr.parts x) (q : Int)) = atPl (Sr.parts (q : Int)) (q : Int) from atPl_part fun e he => mem_parts.2 (.step hqp he)] at HP
            rw [← hnrq] at HP
            have HQp := Lib.hid hqp
            have l13 : w2.heap.size < wr.heap.size := by omega
            have l4 : W.heap.size < wr.heap.size := by omega
            have hlW : W.heap.size + 1 < w2.heap.size := by omega
            clear hqx hqp hrk hlds hlen hnrq hik2
            go_wp2_with fail
            refine HP.mono ?_
            rintro y w8 ⟨u8, rfl, hu8, hb8, ho8⟩
            obtain ⟨ua, uc, rfl, _, _⟩ := hu8.out.shape
            obtain ⟨nq, hnq⟩ : ∃ nq, nq = (atPl (Sr.parts (q : Int)) (q : Int)).length := ⟨_, rfl⟩
            have HO8 := Lib.hid ((hb8.out.block _ l13).trans HS.out.obj)
            have HX8 := Lib.hid ((hb8.out.block _ l4).trans HX4w.out)
            have c13 : w8.cell? ⟨w2.heap.size, 1, none⟩ = some (.slice none 0 0) := by rw [cell_of HO8.out]; rfl
            have f13 : w8.frozen? ⟨w2.heap.size, 1, none⟩ = false := free_of HO8.out 1
            have c4 : w8.cell? ⟨W.heap.size, 0, none⟩ = some (.pointer none) := by rw [cell_of HX8.out]; rfl
            have f4 : w8.frozen? ⟨W.heap.size, 0, none⟩ = false := free_of HX8.out 0
            have n413 : W.heap.size ≠ w2.heap.size := by omega
            have HU8 := Lib.hid hu8.out
            rw [← hnq] at HU8
            rw [← hnq]
            clear HP hu8 hnq
            go_wp2_with fail
            refine bodyPost_ret (v := .agg #[.pointer (some ⟨w2.heap.size, 0, none⟩)]) (by simp [results, Tryz.results157, go_sem, c4]) rfl ?_
            have hb8' := hb8.out
            refine ⟨some ⟨w2.heap.size, 0, none⟩, rfl, ⟨allowed_part HAl.out HQp.out, .inr ⟨fun h => ?_, w2.heap.size, ov, .slice ua nq uc, fl2, rfl, ?_⟩⟩, ?_⟩
            · have h1 := HNr.out
              rw [h, form_zero] at h1
              exact H0.out h1
            · have ho := HS.out.orow
              rw [hsel.out] at ho
              refine give_end HO8.out HX8.out HU8.out (ownsRow_below ho hb8') (fun j r hr => ?_)
              obtain ⟨u', h1, h2⟩ := HS.out.rows j r (by rw [hsel.out]; exact hr)
              exact ⟨u', h1, ownsRow_below h2 hb8'⟩
            · have f1 := HB1.out
              have f2 := HPMf.out.fr
              have f3 := HB3.out
              have f4' := HS.out.fr
              have hlow : Below W.heap.size W w8 := by
                have s1 := f1.size
                have s8 := hb8'.size
                refine ⟨hb8'.os.trans (f4'.os.trans (f3.os.trans (f2.os.trans f1.os))), hb8'.tape.trans (f4'.tape.trans (f3.tape.trans (f2.tape.trans f1.tape))), hb8'.output.trans (f4'.output.trans (f3.output.trans (f2.output.trans f1.output))), by omega, fun b hb => ?_⟩
                rw [hb8'.block b (by omega), f4'.block b (by omega) (by simp; omega), f3.block b (by omega), f2.block b (by omega) (by simp; omega)]
                exact f1.block b hb
              exact (hlow.setCell (by show W.heap.size ≤ w2.heap.size; omega) _).setCell (Nat.le_refl _) _
end Sr
/- Terms of a number; Low. -/
namespace Sr
open Go Go.Proofs Go.RowKit Go.Maps Go.WideMaps

set_option maxRecDepth 100000 in
theorem info179 : (Tryz.prog.info? 179).map (fun i => (i.zero, i.size, i.bytes)) = some (some (.agg #[.bool false, .pointer none]), 2, 16) := by kernel_rfl
set_option maxRecDepth 100000 in
theorem un175 : Tryz.prog.underlying 175 = some (.slice 179) := by kernel_rfl

/-- the cells of a list of Terms -/
def tcl (l : List (Bool × Option Addr)) : List Value := l.flatMap fun t => [.bool t.1, .pointer t.2]
theorem tcl_len (l : List (Bool × Option Addr)) : (tcl l).length = l.length * 2 := by
  induction l with
  | nil => rfl
  | cons t l ih => simp only [tcl, List.flatMap_cons, List.length_append, List.length_cons, List.length_nil] at *; omega
theorem tcl_append (a b : List (Bool × Option Addr)) : tcl (a ++ b) = tcl a ++ tcl b := by simp [tcl]
theorem tcl_get : ∀ {l : List (Bool × Option Addr)} {k : Nat} {t : Bool × Option Addr}, l[k]? = some t → (tcl l)[k * 2]? = some (.bool t.1) ∧ (tcl l)[k * 2 + 1]? = some (.pointer t.2)
  | [], _, _, h => by simp at h
  | u :: l, 0, t, h => by simp at h; subst h; simp [tcl]
  | u :: l, k + 1, t, h => by
    have := tcl_get (l := l) (k := k) (t := t) (by simpa using h)
    have e : tcl (u :: l) = [.bool u.1, .pointer u.2] ++ tcl l := rfl
    rw [e, List.getElem?_append_right (by simp; omega), List.getElem?_append_right (by simp; omega)]
    have e1 : (k + 1) * 2 - [Value.bool u.1, Value.pointer u.2].length = k * 2 := by simp; omega
    have e2 : (k + 1) * 2 + 1 - [Value.bool u.1, Value.pointer u.2].length = k * 2 + 1 := by simp; omega
    rw [e1, e2]; exact this

/-- a row of Terms: those of x from the first on -/
structure TmRow (w : World) (v : Value) (x : Int) (l : List (Bool × Option Addr)) : Prop where
  row : w.ownsRow 0 179 2 v l.length (tcl l)
  nums : ∀ (j : Nat) (u : Bool × Option Addr) (t : Tm), l[j]? = some u → (form x)[j]? = some t → u.1 = t.1 ∧ IsN w (.agg #[.pointer u.2]) (t.2 : Int)

/-- how Terms ends -/
def TmQ (x : Int) (W : World) (e : Ending) (W' : World) : Prop := ∃ (v' : Value) (l : List (Bool × Option Addr)), e = .returned v' ∧ Hid (TmRow W' v' x l) ∧ Hid (l.length = (form x).length) ∧ Hid (Below W.heap.size W W')

section
variable {ops : Array Oper} {o : Oper} {a : Act} {Q : Exit → Act → World → Prop} {K : Act → World → Prop} {W : World} {E : Prop}
theorem step_T2 (hgd : o.guard = none) (s x : Operand) (ho : o.op = .call { callee := .builtin .append, args := #[s, x], argTypes := #[175, 175] })
    (v : Value) (n : Nat) (l : List Value) (hs : a.eval s = v) (hown : W.ownsRow 0 179 2 v n l) (B : Nat) (t1 t2 : Value) (h1 : t1.oneCell' = true) (h2 : t2.oneCell' = true) (hx : a.eval x = .slice (some ⟨B, 0, none⟩) 1 1)
    (hB : W.heap[B]? = some (.cells #[t1, t2] 179 (0, 0))) (hb : n + 1 ≤ 1099511627776) (H : Nat) (hH : W.heap.size = H)
    (h : ∀ g cap w', w'.ownsRow 0 179 2 (.slice (some ⟨g, 0, none⟩) (n + 1) cap) (n + 1) (l ++ [t1, t2]) → W.grownBy w' v.ownBlock → (v.ownBlock = some g ∨ g = H) → g < w'.heap.size → K (a.put o.dst (.slice (some ⟨g, 0, none⟩) (n + 1) cap)) w') :
    if Region.wanted o (yielded ops a.tmps) = true then Oper.wp Tryz.prog o a W K Q else E := by
  obtain ⟨i, hi, hz0, hz1, hz2⟩ := info_parts info179
  refine step_append_lies W hgd s x 175 ho 0 179 i _ 2 16 un175 hi hz0 hz1 hz2 rfl (by decide) v n _ hs hown ⟨B, 0, none⟩ 1 1 [t1, t2] hx rfl (fun j u hu => World.news_of_block hB j u hu) (by simp [h1, h2]) (by omega) (by simp only [maxLen]; omega) (by omega) (Nat.zero_le _) H hH ?_
  intro g cap w' k1 k2 k3 k4
  exact h g cap w' k1 k2 k3 k4
end

theorem tm_held {wr w5 w7 : World} {ov : Value} {n b1 b2 : Nat} {l : List Value} {c1 c2 : Array Value} {o : Obj} {S : World → Prop} (hr : wr.ownsRow 0 179 2 ov n l) (hS : ∀ w', w'.heap[b1]? = some (.cells c1 26 (0, 0)) → w'.heap[b2]? = some (.cells c2 154 (0, 0)) → S w')
    (h1 : w5.heap[b1]? = some (.cells c1 26 (0, 0))) (h2 : w5.heap[b2]? = some (.cells c2 154 (0, 0))) (hg : (w5.alloc o).grownBy w7 ov.ownBlock) (hr5 : w5.ownsRow 0 179 2 ov n l) : S w7 := by
  have _ := hr
  have key : ∀ {b : Nat} {c : Array Value} {T : TypeId}, w5.heap[b]? = some (.cells c T (0, 0)) → T ≠ 179 → w7.heap[b]? = some (.cells c T (0, 0)) := fun {b c T} h hT => by
    have hlt := (Array.getElem?_eq_some_iff.1 h).1
    rw [hg.block b (by simp; omega) (fun e => by
      obtain ⟨c', hc'⟩ := row_type hr5 e.symm
      exact type_ne h hc' hT rfl), heap_old _ _ hlt]
    exact h
  exact hS w7 (key h1 (by decide)) (key h2 (by decide))

theorem tm_below {w1 w5 w7 : World} {ov : Value} {o : Obj} (h : Below w1.heap.size w1 w5) (ho : ∀ b, ov.ownBlock = some b → w1.heap.size ≤ b) (hg : (w5.alloc o).grownBy w7 ov.ownBlock) : Below w1.heap.size w1 w7 := by
  have hs := h.size
  refine ⟨(show w7.os = w5.os from hg.os).trans h.os, (show w7.tape = w5.tape from hg.tape).trans h.tape, (show w7.output = w5.output from hg.output).trans h.output, by have := hg.size; simp at this; omega, fun b hb => ?_⟩
  rw [hg.block b (by simp; omega) (fun e => by have := ho b e.symm; omega), heap_old _ _ (by omega)]
  exact h.block b hb
theorem tm_next {wr w5 w7 : World} {x : Int} {ov : Value} {l : List (Bool × Option Addr)} {k g cap : Nat} {o : Obj} {sx : Bool} {e : Nat} {r : Option Addr} (hr : TmRow wr ov x l) (hlk : l.length = k) (ht : (form x)[k]? = some (sx, e)) (hb : Below wr.heap.size wr w5) (hi : IsN w5 (.agg #[.pointer r]) (e : Int))
    (hI : w7.ownsRow 0 179 2 (.slice (some ⟨g, 0, none⟩) (l.length + 1) cap) (l.length + 1) (tcl l ++ [.bool sx, .pointer r])) (hg : (w5.alloc o).grownBy w7 ov.ownBlock) (hr5 : w5.ownsRow 0 179 2 ov l.length (tcl l)) :
    TmRow w7 (.slice (some ⟨g, 0, none⟩) (l.length + 1) cap) x (l ++ [(sx, r)]) := by
  have key : ∀ {v : Value} {z : Int}, IsN w5 v z → IsN w7 v z := fun {v z} h => h.kept fun b c T hb2 hT => by
    have hlt := (Array.getElem?_eq_some_iff.1 hb2).1
    rw [hg.block b (by simp; omega) (fun e => by
      obtain ⟨c', hc'⟩ := row_type hr5 e.symm
      exact type_ne hb2 hc' (by rintro rfl; rcases hT with h | h | h <;> cases h) rfl), heap_old _ _ hlt]
  refine ⟨?_, fun j u t hj ht' => ?_⟩
  · rw [List.length_append, tcl_append]; exact hI
  · by_cases h : j < l.length
    · rw [List.getElem?_append_left h] at hj
      obtain ⟨h1, h2⟩ := hr.nums j u t hj ht'
      exact ⟨h1, key (h2.below hb)⟩
    · have hjl : j = l.length := by
        have := (List.getElem?_eq_some_iff.1 hj).1
        simp at this; omega
      subst hjl
      rw [hlk, ht] at ht'
      cases ht'
      simp at hj
      subst hj
      exact ⟨rfl, key hi⟩

set_option maxHeartbeats 8000000 in
set_option maxRecDepth 100000 in
theorem Terms_calls {W : World} {v : Value} {x : Int} (hx : IsN W v x) : Calls Tryz.prog 141 #[v] W (TmQ x W) := by
  have hal := hx.1
  have hx0 := hx
  obtain ⟨_, ⟨rfl, rfl⟩ | ⟨hne, nb, pv, sv, fl, rfl, hnb⟩⟩ := hx
  · have hs := self_none
    go_enter Tryz.func141, Tryz.ntmps141
    go_wp2_with fail
    refine (hs _).mono ?_
    rintro e w1 ⟨rfl, o, rfl⟩
    clear hs
    go_wp2_with fail
    refine wp_loop_rounds 1 ?_
    rw [rounds_succ]
    go_wp2_with fail
    refine bodyPost_ret (results_tmp rfl _ _ _) rfl ?_
    exact ⟨_, [], rfl, ⟨⟨rfl, .inl ⟨rfl, rfl⟩⟩, fun j u t h => by simp at h⟩, by show _ = _; simp [form_zero], ((Below.refl _ _).alloc (Nat.le_refl _) _).alloc (by simp) _⟩
  · have HNB := Lib.hid hnb
    have HAl := Lib.hid hal
    obtain ⟨sa, sc, rfl, _, _⟩ := hnb.self.shape
    obtain ⟨n, hn⟩ : ∃ n, n = (atPl (Sr.parts x) x).length := ⟨_, rfl⟩
    have HNf : Hid (n = (form x).length) := by show _ = _; rw [hn]; simp [atPl]
    have hnb3 : n ≤ 300 := by have := HAl.out.1; have := HNf.out; omega
    rw [← hn] at HNB
    have hself := self_some (HNB.out.below ((Below.refl W.heap.size W).alloc (Nat.le_refl _) (.cells #[.pointer (some ⟨nb, 0, none⟩)] 26)))
    have HSl : Hid (TRow W (.slice sa n sc) (atPl (Sr.parts x) x)) := by rw [hn]; exact hnb.self
    clear hn hnb hal hx0
    go_enter Tryz.func141, Tryz.ntmps141
    go_wp2_with fail
    refine hself.mono ?_
    rintro e w1 ⟨rfl, o, hw1⟩
    have HB1 : Hid (Below W.heap.size W w1) := by show Below _ _ _; rw [hw1]; exact ((Below.refl _ _).alloc (Nat.le_refl _) _).alloc (by simp) _
    have HX1 : Hid (w1.heap[W.heap.size]? = some (.cells #[.pointer (some ⟨nb, 0, none⟩)] 26 (0, 0))) := by show _ = _; rw [hw1, heap_old _ _ (by simp)]; exact heap_last W _
    have R0 : Hid (TmRow w1 (.slice none 0 0) x []) := ⟨⟨rfl, .inl ⟨rfl, rfl⟩⟩, fun j u t h => by simp at h⟩
    clear hself hw1
    go_wp2_with fail
    go_loopg [3, 9] n (fun g1 vo vi wr => ∃ (k : Nat) (l : List (Bool × Option Addr)) (ov : Value), vo = ov ∧ vi = .int .i64 k ∧ k ≤ n ∧ n - k ≤ g1 ∧ l.length = k ∧ Hid (TmRow wr ov x l) ∧ Hid (Below w1.heap.size w1 wr) ∧ Hid (∀ b, ov.ownBlock = some b → w1.heap.size ≤ b))
    case atStart => exact ⟨0, [], _, rfl, rfl, by omega, by omega, rfl, R0, Below.refl _ _, fun b h => by cases h⟩
    case round =>
      clear R0
      obtain ⟨k, l, ov, hov, rfl, hkn, hg, hlk, HR, HB, HO⟩ := hrel
      subst hov
      by_cases hk : k < n
      · have hkz : (k : Int) < (n : Int) := by omega
        have hk0 : (0 : Int) ≤ (k : Int) := Int.natCast_nonneg k
        have hkw : IntKind.i64.wrap ((k : Int) + 1) = (k : Int) + 1 := IntWalk.i64_in _ (by omega)
        have HB2 := Lib.hid (Below.trans' HB1.out HB.out)
        obtain ⟨t, ht⟩ : ∃ t, (form x)[k]? = some t := ⟨_, List.getElem?_eq_getElem (by rw [← HNf.out]; exact hk)⟩
        obtain ⟨sx, e⟩ := t
        have hep : e ∈ Sr.parts x := mem_parts.2 (.here (mem_exps (List.mem_of_getElem? ht)))
        have hap : (atPl (Sr.parts x) x)[k]? = some (sx, (Sr.parts x).idxOf e) := by unfold atPl; rw [List.getElem?_map, ht]; rfl
        obtain ⟨_, _, ea, _, sa'⟩ := TRow.shape (ownsRow_below HSl.out HB2.out)
        obtain ⟨ga, hga, cx0, cx1⟩ := sa' k _ hap
        obtain ⟨q1, q2, q3⟩ := Value.slice.inj ea
        subst hga
        subst q1
        clear q2 q3 ea sa'
        dsimp only at cx0 cx1
        have HPart := part_calls (W := (wr.alloc (.cells #[.bool sx, .int .i64 ((Sr.parts x).idxOf e : Nat)] 154)).drew) (HNB.out.below ((HB2.out.alloc HB2.out.size _).drew)) HAl.out (parts_get hep)
        obtain ⟨a, ha⟩ : ∃ a, a = (Sr.parts x).idxOf e := ⟨_, rfl⟩
        rw [← ha] at cx1 HPart
        have hgl : ga < wr.heap.size := cell_lt cx0
        have hgs : ga ≠ wr.heap.size := by omega
        have HT := Lib.hid ht
        have hz1 : W.heap.size < wr.heap.size := by
          have h1 := (Array.getElem?_eq_some_iff.1 HX1.out).1
          have := HB.out.size; omega
        have e26 : (wr.alloc (.cells #[.bool sx, .int .i64 (a : Nat)] 154)).drew.heap[W.heap.size]? = some (.cells #[.pointer (some ⟨nb, 0, none⟩)] 26 (0, 0)) := (heap_old _ _ hz1).trans (Below.here HB.out HX1.out)
        have e154 : (wr.alloc (.cells #[.bool sx, .int .i64 (a : Nat)] 154)).drew.heap[wr.heap.size]? = some (.cells #[.bool sx, .int .i64 (a : Nat)] 154 (0, 0)) := heap_last wr _
        have E26 := Lib.hid e26
        have E154 := Lib.hid e154
        have HSS : Hid (∀ w' : World, w'.heap[W.heap.size]? = some (.cells #[.pointer (some ⟨nb, 0, none⟩)] 26 (0, 0)) → w'.heap[wr.heap.size]? = some (.cells #[.bool sx, .int .i64 (a : Nat)] 154 (0, 0)) → w'.cell? ⟨W.heap.size, 0, none⟩ = some (.pointer (some ⟨nb, 0, none⟩)) ∧ w'.cell? ⟨wr.heap.size, 0, none⟩ = some (.bool sx) ∧ w'.cell? ⟨wr.heap.size, 1, none⟩ = some (.int .i64 (a : Nat))) := fun w' h1 h2 =>
          ⟨by rw [cell_of h1]; rfl, by rw [cell_of h2]; rfl, by rw [cell_of h2]; rfl⟩
        have hS0 := HSS.out _ e26 e154
        have hlb : l.length + 1 ≤ 1099511627776 := by omega
        clear hep hap ha ht e26 e154
        go_wp2_with fail
        clear cx0 cx1
        go_region_held3 (fun w' => w'.cell? ⟨W.heap.size, 0, none⟩ = some (.pointer (some ⟨nb, 0, none⟩)) ∧ w'.cell? ⟨wr.heap.size, 0, none⟩ = some (.bool sx) ∧ w'.cell? ⟨wr.heap.size, 1, none⟩ = some (.int .i64 (a : Nat)))
          (first | exact hS0 | exact HS1.out | exact HS2.out _ | exact HS3.out)
          (first
            | (go_at_call 157
               refine HPart.mono ?_
               rintro z w5 ⟨r5, rfl, hi5, hb5⟩
               have HB5 := Lib.hid hb5.out
               have HS1 := Lib.hid (HSS.out w5 (Below.here hb5.out E26.out) (Below.here hb5.out E154.out))
               have HS2 : Hid (∀ o, (w5.alloc o).cell? ⟨W.heap.size, 0, none⟩ = some (.pointer (some ⟨nb, 0, none⟩)) ∧ (w5.alloc o).cell? ⟨wr.heap.size, 0, none⟩ = some (.bool sx) ∧ (w5.alloc o).cell? ⟨wr.heap.size, 1, none⟩ = some (.int .i64 (a : Nat))) := fun o =>
                 HSS.out _ ((heap_old _ _ (Array.getElem?_eq_some_iff.1 (Below.here hb5.out E26.out)).1).trans (Below.here hb5.out E26.out)) ((heap_old _ _ (Array.getElem?_eq_some_iff.1 (Below.here hb5.out E154.out)).1).trans (Below.here hb5.out E154.out))
               have HRow5 := Lib.hid (ownsRow_below (ownsRow_below HR.out.row (((Below.refl _ _).alloc (Nat.le_refl _) (.cells #[.bool sx, .int .i64 (a : Nat)] 154)).drew)) hb5.out)
               clear hb5)
            | (refine step_T2 rfl (.tmp 13) (.tmp 22) rfl u3 l.length (tcl l) rfl (World.ownsRow.alloc HRow5.out _) _ (.bool sx) (.pointer r5) rfl rfl rfl (heap_last _ _) hlb _ rfl ?_; intro g cap w7 I7 G7 A7 L7
               have HI7 := Lib.hid I7
               have HG7 := Lib.hid G7
               have HA7 : Hid (u3.ownBlock = some g ∨ g = w5.heap.size + 1) := by show _ ∨ _; simpa using A7
               have HS3 := Lib.hid (tm_held HR.out.row HSS.out (Below.here HB5.out E26.out) (Below.here HB5.out E154.out) G7 HRow5.out)
               clear I7 G7 A7 L7))
        have hb5' : Below wr.heap.size wr w5 := Below.trans' (((Below.refl _ _).alloc (Nat.le_refl _) (.cells #[.bool sx, .int .i64 (a : Nat)] 154)).drew) HB5.out
        have HNx := Lib.hid (tm_next HR.out hlk HT.out hb5' hi5.out HI7.out HG7.out HRow5.out)
        have HBx : Hid (Below w1.heap.size w1 w7) := tm_below (Below.trans' HB.out hb5') HO.out HG7.out
        have HOx : Hid (∀ b, (Value.slice (some ⟨g, 0, none⟩) (k + 1) cap).ownBlock = some b → w1.heap.size ≤ b) := fun b e => by
          have e' : b = g := by simpa [Value.ownBlock] using e.symm
          subst e'
          rcases HA7.out with h | h
          · exact HO.out b h
          · have := hb5'.size; have := HB.out.size; omega
        rw [hlk] at HNx
        have hlk2 : (l ++ [(sx, r5)]).length = k + 1 := by simp [hlk]
        clear HS1 HS2 HS3 HSS hS0 HPart HI7 HG7 HA7 HRow5 HB5 hb5'
        go_wp2_with fail
        go_roundg (n - (k + 1))
        case measure => omega
        case rel => exact ⟨k + 1, l ++ [(sx, r5)], _, rfl, by go_num, by omega, by omega, hlk2, HNx, HBx, HOx⟩
      · have hkz : ¬ ((k : Int) < (n : Int)) := by omega
        go_wp2_with fail
        refine bodyPost_ret (results_tmp rfl _ _ _) rfl ?_
        exact ⟨_, l, rfl, HR, by show _ = _; have := HNf.out; omega, Below.trans' HB1.out HB.out⟩

/-- how often x can be halved: the least exponent -/
def lowE (x : Int) : Nat := (exps x).getLastD 0
set_option maxHeartbeats 4000000 in
set_option maxRecDepth 100000 in
theorem Low_calls {W : World} {v : Value} {x : Int} (hx : IsN W v x) (hne : x ≠ 0) : Calls Tryz.prog 124 #[v] W fun e W' => ∃ q, e = .returned (.tuple #[.agg #[.pointer q], .int .i64 0]) ∧ Hid (IsN W' (.agg #[.pointer q]) (lowE x : Int)) ∧ Hid (Below W.heap.size W W') := by
  obtain ⟨qx, rfl⟩ := hx.ptr
  have HX := Lib.hid hx
  obtain ⟨W0, hW0⟩ : ∃ W0, W0 = (W.alloc (.cells #[.pointer qx] 26)).alloc (.cells #[.pointer none] 26) := ⟨_, rfl⟩
  have HW0 := Lib.hid hW0
  have HB0 : Hid (Below W.heap.size W W0) := by show Below _ _ _; rw [hW0]; exact ((Below.refl _ _).alloc (Nat.le_refl _) _).alloc (by simp) _
  have X1 : Hid (W0.heap[W.heap.size + 1]? = some (.cells #[.pointer none] 26 (0, 0))) := by show _ = _; rw [hW0]; exact heap_at (by simp)
  have HT := Terms_calls (HX.out.below HB0.out)
  have HE : Hid (form x ≠ []) := fun h => hne (form_nil h)
  have HAl : Hid ((form x).length ≤ 300) := hx.1.1
  clear hx hne hW0
  go_enter Tryz.func124, Tryz.ntmps124
  go_wp2_with fail
  rw [show (W.alloc (.cells #[.pointer qx] 26)).alloc (.cells #[.pointer none] 26) = W0 from HW0.out.symm]
  refine HT.mono ?_
  rintro e w1 ⟨v1, l, rfl, hr1, hl1, hb1⟩
  clear HT
  have hpos : 0 < l.length := by rw [hl1.out]; exact List.length_pos_iff.2 HE.out
  obtain ⟨g, cap, cur, hv, h4, h5, h6, h7, h8⟩ : ∃ g cap cur, v1 = .slice (some ⟨g, 0, none⟩) l.length cap ∧ w1.heap[g]? = some (.cells cur 179 (0, 0)) ∧ l.length ≤ cap ∧ cap ≤ maxLen ∧ cur.size = cap * 2 ∧ cur.toList.take (l.length * 2) = tcl l := by
    obtain ⟨_, ⟨_, h2⟩ | ⟨g, cap, cur, hv, _, h4, h5, h6, h7, h8⟩⟩ := hr1.out.row
    · omega
    · exact ⟨g, cap, cur, hv, h4, h5, h6, h7, h8⟩
  subst hv
  obtain ⟨k, hk⟩ : ∃ k, l.length = k + 1 := ⟨l.length - 1, by omega⟩
  obtain ⟨u, hu⟩ : ∃ u, l[k]? = some u := ⟨_, List.getElem?_eq_getElem (by omega)⟩
  obtain ⟨t, ht⟩ : ∃ t, (form x)[k]? = some t := ⟨_, List.getElem?_eq_getElem (by rw [← hl1.out]; omega)⟩
  obtain ⟨_, hi⟩ := hr1.out.nums k u t hu ht
  have hlow : t.2 = lowE x := by
    unfold lowE
    have h1 : (exps x)[k]? = some t.2 := by unfold exps; rw [List.getElem?_map, ht]; rfl
    have h2 : (exps x).length = k + 1 := by rw [exps_length, ← hl1.out, hk]
    rw [List.getLastD_eq_getLast?, List.getLast?_eq_getElem?, h2, Nat.add_sub_cancel, h1]; rfl
  rw [hlow] at hi
  have HI := Lib.hid hi
  obtain ⟨_, d1⟩ := tcl_get hu
  rw [← h8, List.getElem?_take_of_lt (by omega), Array.getElem?_toList, ← cell_of h4] at d1
  have hkl : k + 1 ≤ 300 := by rw [← hk, hl1.out]; exact HAl.out
  rw [hk]
  have hz : ((((k + 1 : Nat)) : Int) == 0) = false := by simp; omega
  have hw : IntKind.i64.wrap (((k + 1 : Nat) : Int) - 1) = (k : Int) := by rw [IntKind.wrap_i64]; omega
  have k0 : (0 : Int) ≤ (k : Int) := Int.natCast_nonneg k
  have kz : (k : Int) < ((k + 1 : Nat) : Int) := by omega
  have HX1 := Lib.hid (Below.here hb1.out X1.out)
  have c1 : w1.cell? ⟨W.heap.size + 1, 0, none⟩ = some (.pointer none) := by rw [cell_of HX1.out]; rfl
  have f1 : w1.frozen? ⟨W.heap.size + 1, 0, none⟩ = false := free_of HX1.out 0
  obtain ⟨us, ur⟩ := u
  dsimp only at d1 HI
  clear hr1 hl1 hpos h4 h5 h6 h7 h8 hk hu ht hi hlow
  go_wp2_with fail
  refine bodyPost_ret (v := .tuple #[.agg #[.pointer ur], .int .i64 0]) (by simp [results, Tryz.results124, go_sem, c1]) rfl ?_
  exact ⟨ur, rfl, HI.out.setCell HX1.out (by decide) _, (Below.trans' HB0.out hb1.out).setCell (by show W.heap.size ≤ W.heap.size + 1; omega) _⟩
end Sr
/- Bytes of a number. -/
namespace Sr
open Go Go.Proofs Go.RowKit Go.Maps Go.WideMaps

def tw (n : Nat) : List UInt8 := [UInt8.ofNat (n / 256), UInt8.ofNat n]
def sb (s : Bool) : UInt8 := if s then 1 else 0
/-- the bytes of a row of terms -/
def wl (l : List PT) : List UInt8 := tw l.length ++ l.flatMap fun t => sb t.1 :: tw t.2
/-- the bytes of a number -/
noncomputable def nbytes (x : Int) : List UInt8 := tw ((Sr.parts x).length + 1) ++ ((Sr.parts x).flatMap fun (p : Nat) => wl (atPl (Sr.parts x) (p : Int))) ++ wl (atPl (Sr.parts x) x)
theorem tw_len (n : Nat) : (tw n).length = 2 := rfl
theorem tw_cells (n : Nat) : (#[Value.int .u8 ((n : Int) / 256 % 256), .int .u8 ((n : Int) % 256)]).toList = (tw n).map fun b => .int .u8 (b.toNat : Nat) := by
  simp only [tw, List.map_cons, List.map_nil, u8z]
  simp

/-- a row has been appended to: nothing else has turned -/
structure Gb (W : World) (v : Value) (W' : World) (v' : Value) : Prop where
  fr : Fr v.ownBlock.toList W W'
  own : v'.ownBlock = v.ownBlock ∨ ∀ b, v'.ownBlock = some b → W.heap.size ≤ b

theorem Gb.of {W w3 : World} {v v' : Value} {o : Obj} (G : (W.alloc o).grownBy w3 v.ownBlock) (A : v'.ownBlock = v.ownBlock ∨ v'.ownBlock = some (W.alloc o).heap.size) : Gb W v w3 v' := by
  refine ⟨⟨G.os, G.tape, G.output, by have := G.size; simp at this; omega, fun b hb hn => ?_⟩, ?_⟩
  · exact (G.block b (by simp; omega) (fun e => hn (by simp [← e]))).trans (heap_old _ _ hb)
  · rcases A with A | A
    · exact .inl A
    · refine .inr fun b e => ?_
      rw [A] at e
      have : b = W.heap.size + 1 := by simpa using e.symm
      omega

theorem Gb.trans {W W' W'' : World} {v v' v'' : Value} (h : Gb W v W' v') (k : Gb W' v' W'' v'') : Gb W v W'' v'' := by
  have hs := h.fr.size
  refine ⟨⟨k.fr.os.trans h.fr.os, k.fr.tape.trans h.fr.tape, k.fr.output.trans h.fr.output, Nat.le_trans hs k.fr.size, fun b hb hn => ?_⟩, ?_⟩
  · rw [k.fr.block b (by omega) (fun e => by
      have e' : v'.ownBlock = some b := by simpa using e
      rcases h.own with h1 | h1
      · exact hn (by rw [← h1]; exact e)
      · have := h1 b e'; omega)]
    exact h.fr.block b hb hn
  · rcases k.own with k1 | k1
    · rcases h.own with h1 | h1
      · exact .inl (k1.trans h1)
      · exact .inr fun b e => h1 b (k1 ▸ e)
    · exact .inr fun b e => Nat.le_trans hs (k1 b e)
theorem Gb.at {W w3 : World} {v : Value} {o : Obj} {g n cap H : Nat} (G : (W.alloc o).grownBy w3 v.ownBlock) (hH : (W.alloc o).heap.size = H) (A : v.ownBlock = some g ∨ g = H) : Gb W v w3 (.slice (some ⟨g, 0, none⟩) n cap) :=
  Gb.of G (by
    rcases A with A | A
    · exact .inl A.symm
    · exact .inr (by rw [hH, A]; rfl))
theorem BRow.form {W : World} {v : Value} {l : List UInt8} (h : BRow W v l) (hn : 0 < l.length) : ∃ g cap, v = .slice (some ⟨g, 0, none⟩) l.length cap := by
  obtain ⟨g, cap, hv, _⟩ := World.ownsRow.form h hn
  exact ⟨g, cap, hv⟩

set_option maxHeartbeats 1000000 in
set_option maxRecDepth 100000 in
theorem two_calls {W : World} {v : Value} {l : List UInt8} {n : Nat} (h : BRow W v l) (_hn : n ≤ 1000000) (hl : l.length ≤ 1000000000) :
    Calls Tryz.prog 108 #[v, .int .i64 (n : Nat)] W fun e W' => ∃ v', e = .returned v' ∧ Hid (BRow W' v' (l ++ tw n)) ∧ Hid (Gb W v W' v') := by
  have HR := Lib.hid h
  have hlb : l.length + 2 ≤ 1099511627776 := by omega
  have n0 : (0 : Int) ≤ (n : Int) := Int.natCast_nonneg n
  clear h
  go_enter Tryz.func108, Tryz.ntmps108
  go_wp2_with (at_builtin; go_loud (refine app_B rfl _ _ rfl v l rfl (World.ownsRow.alloc HR.out _) _ 2 (tw n) rfl rfl _ (tw_cells n) (heap_last _ _) hlb ?_); intro v' w3 K3 G3 A3
               have HK := Lib.hid K3
               have HG := Lib.hid (Gb.of G3 A3)
               clear K3 G3 A3)
  refine bodyPost_ret (results_tmp rfl _ _ _) rfl ?_
  exact ⟨v', rfl, HK, HG⟩

section
variable {ops : Array Oper} {o : Oper} {a : Act} {Q : Exit → Act → World → Prop} {K : Act → World → Prop} {W : World} {E : Prop}
theorem step_B1 (hgd : o.guard = none) (s x : Operand) (ho : o.op = .call { callee := .builtin .append, args := #[s, x], argTypes := #[40, 40] })
    (v : Value) (l : List UInt8) (hs : a.eval s = v) (hown : BRow W v l) (B : Nat) (b : UInt8) (hx : a.eval x = .slice (some ⟨B, 0, none⟩) 1 1) (c : Int) (hc : c = (b.toNat : Nat))
    (hB : W.heap[B]? = some (.cells #[.int .u8 c] 5 (0, 0))) (hb : l.length + 1 ≤ 1099511627776) (H : Nat) (hH : W.heap.size = H)
    (h : ∀ g cap w', BRow w' (.slice (some ⟨g, 0, none⟩) (l.length + 1) cap) (l ++ [b]) → W.grownBy w' v.ownBlock → (v.ownBlock = some g ∨ g = H) → g < w'.heap.size → K (a.put o.dst (.slice (some ⟨g, 0, none⟩) (l.length + 1) cap)) w') :
    if Region.wanted o (yielded ops a.tmps) = true then Oper.wp Tryz.prog o a W K Q else E := by
  obtain ⟨i, hi, hz0, hz1, hz2⟩ := info_parts info5
  subst hc
  refine step_append_lies W hgd s x 40 ho 0 5 i _ 1 1 un40 hi hz0 hz1 hz2 rfl (by decide) v l.length _ hs hown ⟨B, 0, none⟩ 1 1 [.int .u8 (b.toNat : Nat)] hx rfl (fun j u hu => World.news_of_block hB j u hu) (by simp; rfl) (by omega) (by simp only [maxLen]; omega) (by omega) (Nat.zero_le _) H hH ?_
  intro g cap w' k1 k2 k3 k4
  refine h g cap w' ?_ k2 k3 k4
  unfold BRow
  rw [List.length_append, List.map_append]; exact k1
end

/-- the box with the bytes so far -/
structure OB (w1 : World) (b3 : Nat) (l : List UInt8) (ov : Value) (w : World) : Prop where
  fr : Fr [b3] w1 w
  box : w.heap[b3]? = some (.cells #[ov] 40 (0, 0))
  row : BRow w ov l
  own : ∀ b, ov.ownBlock = some b → w1.heap.size ≤ b
theorem OB.below {w1 w w' : World} {b3 : Nat} {l : List UInt8} {ov : Value} (S : OB w1 b3 l ov w) (hb : Below w.heap.size w w') : OB w1 b3 l ov w' :=
  ⟨⟨hb.os.trans S.fr.os, hb.tape.trans S.fr.tape, hb.output.trans S.fr.output, Nat.le_trans S.fr.size hb.size, fun c hc hn => (hb.block c (Nat.lt_of_lt_of_le hc S.fr.size)).trans (S.fr.block c hc hn)⟩, Below.here hb S.box, ownsRow_below S.row hb, S.own⟩
/-- after an append to the row (and what it made) the new row is stored -/
theorem OB.store {w1 w w3 : World} {b3 : Nat} {l l' : List UInt8} {ov v' : Value} (S : OB w1 b3 l ov w) (hr : BRow w3 v' l') (hg : Gb w ov w3 v') :
    w3.cell? ⟨b3, 0, none⟩ = some ov ∧ w3.frozen? ⟨b3, 0, none⟩ = false ∧ OB w1 b3 l' v' (w3.setCell ⟨b3, 0, none⟩ v') := by
  have hs := S.fr.size
  have hne : ov.ownBlock ≠ some b3 := fun e => by
    obtain ⟨c, hc⟩ := row_type S.row e
    exact type_ne hc S.box (by decide) rfl
  have h3 : w3.heap[b3]? = some (.cells #[ov] 40 (0, 0)) := (hg.fr.block b3 (Array.getElem?_eq_some_iff.1 S.box).1 (by simpa using hne)).trans S.box
  have hs3 := hg.fr.size
  refine ⟨by rw [cell_of h3]; rfl, free_of h3 0, ⟨⟨hg.fr.os.trans S.fr.os, hg.fr.tape.trans S.fr.tape, hg.fr.output.trans S.fr.output, by simp; omega, fun b hb hn => ?_⟩, heap_setCell_same w3 b3 0 _ 40 _ h3, ?_, fun b e => ?_⟩⟩
  · have hb3 : b ≠ b3 := by simpa using hn
    rw [RowKit.Below.heap_setCell _ _ _ _ (by show b ≠ b3; exact hb3), hg.fr.block b (by omega) (fun h => by have := S.own b (by simpa using h); omega)]
    exact S.fr.block b hb hn
  · exact ownsRow_kept hr fun b e => RowKit.Below.heap_setCell _ _ _ _ (by
      show b ≠ b3
      obtain ⟨c, hc⟩ := row_type hr e
      exact type_ne hc h3 (by decide))
  · rcases hg.own with h | h
    · exact S.own b (h ▸ e)
    · have := h b e; omega

/-- how write ends -/
def WrQ (w1 : World) (b3 : Nat) (l : List UInt8) (e : Ending) (W' : World) : Prop := ∃ ov', e = .returned (.tuple #[]) ∧ Hid (OB w1 b3 l ov' W')
set_option maxHeartbeats 8000000 in
set_option maxRecDepth 100000 in
theorem write_calls {w1 W : World} {b3 : Nat} {acc : List UInt8} {ov : Value} (S : Hid (OB w1 b3 acc ov W)) {v : Value} {l : List PT} (hl : TRow w1 v l) (hvb : ∀ b, v.ownBlock = some b → b ≠ b3) (hn : l.length ≤ 300) (hp : ∀ t ∈ l, t.2 ≤ 2000) (ha : acc.length ≤ 900000000) :
    Calls Tryz.prog 110 #[v, .pointer (some ⟨b3, 0, none⟩)] W (WrQ w1 b3 (acc ++ wl l)) := by
  have HL := Lib.hid hl
  have HVB : Hid (∀ b, v.ownBlock = some b → b ≠ b3) := hvb
  have HP : Hid (∀ t ∈ l, t.2 ≤ 2000) := hp
  have HA : Hid (acc.length ≤ 900000000) := ha
  obtain ⟨va, vc, rfl, _, _⟩ := hl.shape
  obtain ⟨n, hnl⟩ : ∃ n, n = l.length := ⟨_, rfl⟩
  have HNl := Lib.hid hnl
  rw [← hnl] at HL HVB hn ⊢
  have H2 := two_calls (n := n) S.out.row (by omega) (by omega)
  have c3 : W.cell? ⟨b3, 0, none⟩ = some ov := by rw [cell_of S.out.box]; rfl
  clear hl hp ha hnl hvb
  go_enter Tryz.func110, Tryz.ntmps110
  go_wp2_with fail
  refine H2.mono ?_
  rintro e w2 ⟨v2, rfl, hr2, hg2⟩
  obtain ⟨c2, f2, hob⟩ := S.out.store hr2.out hg2.out
  obtain ⟨g2, p2, hv2⟩ := hr2.out.form (by simp [tw_len])
  obtain ⟨N2, hN2⟩ : ∃ N2, N2 = (acc ++ tw n).length := ⟨_, rfl⟩
  rw [← hN2] at hv2
  subst hv2
  have S0 : Hid (OB w1 b3 (acc ++ (tw n ++ (l.take 0).flatMap fun t => sb t.1 :: tw t.2)) (.slice (some ⟨g2, 0, none⟩) N2 p2) (w2.setCell ⟨b3, 0, none⟩ (.slice (some ⟨g2, 0, none⟩) N2 p2))) := by
    show OB _ _ _ _ _
    simpa using hob
  clear H2 hr2 hg2 hob c3 S hN2
  go_wp2_with fail
  go_loopg [12] n (fun g1 vi wr => ∃ (k : Nat) (ov : Value), vi = .int .i64 k ∧ k ≤ n ∧ n - k ≤ g1 ∧ Hid (OB w1 b3 (acc ++ (tw n ++ (l.take k).flatMap fun t => sb t.1 :: tw t.2)) ov wr))
  case atStart => exact ⟨0, _, rfl, by omega, by omega, S0⟩
  case round =>
    clear S0 c2 f2
    obtain ⟨k, ov, rfl, hkn, hg, HS⟩ := hrel
    by_cases hk : k < n
    · have hkz : (k : Int) < (n : Int) := by omega
      have hk0 : (0 : Int) ≤ (k : Int) := Int.natCast_nonneg k
      have hkw : IntKind.i64.wrap ((k : Int) + 1) = (k : Int) + 1 := IntWalk.i64_in _ (by omega)
      obtain ⟨t, ht⟩ : ∃ t, l[k]? = some t := ⟨_, List.getElem?_eq_getElem (by rw [← HNl.out]; exact hk)⟩
      have htp := HP.out t (List.mem_of_getElem? ht)
      have hrw : TRow wr (.slice va n vc) l := ownsRow_kept HL.out fun b e => HS.out.fr.block b (ownsRow_lt HL.out e) (by
        have := HVB.out b e
        simpa using this)
      obtain ⟨_, _, ea, _, sa⟩ := hrw.shape
      obtain ⟨ga, hga, cx0, cx1⟩ := sa k t ht
      obtain ⟨q1, q2, q3⟩ := Value.slice.inj ea
      subst hga
      subst q1
      clear q2 q3 ea sa hrw
      obtain ⟨L, hL⟩ : ∃ L, L = acc ++ (tw n ++ (l.take k).flatMap fun t => sb t.1 :: tw t.2) := ⟨_, rfl⟩
      have HLe : Hid (acc ++ (tw n ++ (l.take (k + 1)).flatMap fun t => sb t.1 :: tw t.2) = L ++ [sb t.1] ++ tw t.2) := by
        show _ = _
        rw [hL, take_succ ht, List.flatMap_append]
        simp [List.append_assoc]
      have hLl : L.length ≤ 900002000 := by
        have key : ∀ m : List PT, (m.flatMap fun t => sb t.1 :: tw t.2).length = 3 * m.length := by
          intro m
          induction m with
          | nil => rfl
          | cons u m ih => simp only [List.flatMap_cons, List.length_append, List.length_cons, tw_len, ih]; omega
        rw [hL, List.length_append, List.length_append, key, List.length_take, tw_len]
        have := HA.out
        omega
      rw [← hL] at HS
      obtain ⟨sx, a⟩ := t
      dsimp only at cx0 cx1 htp HLe
      have hgl : ga < wr.heap.size := cell_lt cx0
      have hgs : ga ≠ wr.heap.size := by omega
      have HSA := Lib.hid (HS.out.below (w' := (wr.alloc (.cells #[.bool sx, .int .i64 (a : Nat)] 154))) ((Below.refl _ _).alloc (Nat.le_refl _) _))
      have hcb : ((wr.alloc (.cells #[.bool sx, .int .i64 (a : Nat)] 154))).cell? ⟨b3, 0, none⟩ = some ov := by rw [cell_of HSA.out.box]; rfl
      have e154 : ((wr.alloc (.cells #[.bool sx, .int .i64 (a : Nat)] 154))).heap[wr.heap.size]? = some (.cells #[.bool sx, .int .i64 (a : Nat)] 154 (0, 0)) := heap_last wr _
      have E154 := Lib.hid e154
      have HT := Lib.hid ht
      have hbA : ∀ o, ((wr.alloc (.cells #[.bool sx, .int .i64 (a : Nat)] 154)).alloc o).cell? ⟨b3, 0, none⟩ = some ov := fun o => by rw [cell_of ((heap_old _ _ (Array.getElem?_eq_some_iff.1 HSA.out.box).1).trans HSA.out.box)]; rfl
      have hlb : L.length + 1 ≤ 1099511627776 := by omega
      clear hL ht e154
      cases sx
      ·
        go_wp2_with fail
        go_region_law (first
          | (refine step_B1 rfl (.tmp 18) (.tmp 20) rfl ov L rfl (World.ownsRow.alloc HSA.out.row _) _ (sb false) rfl 0 rfl (heap_at (w := wr.alloc (.cells #[.bool false, .int .i64 (a : Nat)] 154)) (o := .cells #[.int .u8 0] 5) (by simp)) hlb _ rfl ?_; intro g cap w7 I7 G7 A7 L7
             have HG7 := Lib.hid (Gb.at (W := wr.alloc (.cells #[.bool false, .int .i64 (a : Nat)] 154)) (o := .cells #[.int .u8 0] 5) (n := L.length + 1) (cap := cap) ⟨G7.os, G7.tape, G7.output, G7.size, G7.block⟩ rfl A7)
             have h154 := (HG7.out.fr.block _ (by simp) (fun e => by
               have e' : ov.ownBlock = some wr.heap.size := by simpa using e
               have := ownsRow_lt HS.out.row e'; omega)).trans E154.out
             have c154 : w7.cell? ⟨wr.heap.size, 1, none⟩ = some (.int .i64 (a : Nat)) := by rw [cell_of h154]; rfl
             have H2b := two_calls (n := a) (W := w7) (v := .slice (some ⟨g, 0, none⟩) (L.length + 1) cap) (l := L ++ [sb false]) I7 (by omega) (by simp; omega)
             clear I7 G7 A7 L7 h154)
          | (go_simp; go_at_call 108; refine H2b.mono ?_; rintro z w8 ⟨v8, rfl, hr8, hg8⟩
             obtain ⟨c8, f8, hob⟩ := HSA.out.store hr8.out (HG7.out.trans hg8.out)
             obtain ⟨g8, p8, hv8⟩ := hr8.out.form (by simp [tw_len])
             obtain ⟨N8, hN8⟩ : ∃ N8, N8 = (L ++ [sb false] ++ tw a).length := ⟨_, rfl⟩
             rw [← hN8] at hv8
             subst hv8
             have HOb := Lib.hid hob
             clear hr8 hg8 hob hN8))
        all_goals
          clear H2b HG7 c154 c8 f8 hbA hcb cx0 cx1
          go_wp2_with fail
          go_roundg (n - (k + 1))
          case measure => omega
          case rel => exact ⟨k + 1, _, by go_num, by omega, by omega, by show OB _ _ _ _ _; rw [HLe.out]; exact HOb.out⟩
      ·
        go_wp2_with fail
        go_region_law (first
          | (refine step_B1 rfl (.tmp 18) (.tmp 20) rfl ov L rfl (World.ownsRow.alloc HSA.out.row _) _ (sb true) rfl 1 rfl (heap_at (w := wr.alloc (.cells #[.bool true, .int .i64 (a : Nat)] 154)) (o := .cells #[.int .u8 1] 5) (by simp)) hlb _ rfl ?_; intro g cap w7 I7 G7 A7 L7
             have HG7 := Lib.hid (Gb.at (W := wr.alloc (.cells #[.bool true, .int .i64 (a : Nat)] 154)) (o := .cells #[.int .u8 1] 5) (n := L.length + 1) (cap := cap) ⟨G7.os, G7.tape, G7.output, G7.size, G7.block⟩ rfl A7)
             have h154 := (HG7.out.fr.block _ (by simp) (fun e => by
               have e' : ov.ownBlock = some wr.heap.size := by simpa using e
               have := ownsRow_lt HS.out.row e'; omega)).trans E154.out
             have c154 : w7.cell? ⟨wr.heap.size, 1, none⟩ = some (.int .i64 (a : Nat)) := by rw [cell_of h154]; rfl
             have H2b := two_calls (n := a) (W := w7) (v := .slice (some ⟨g, 0, none⟩) (L.length + 1) cap) (l := L ++ [sb true]) I7 (by omega) (by simp; omega)
             clear I7 G7 A7 L7 h154)
          | (go_simp; go_at_call 108; refine H2b.mono ?_; rintro z w8 ⟨v8, rfl, hr8, hg8⟩
             obtain ⟨c8, f8, hob⟩ := HSA.out.store hr8.out (HG7.out.trans hg8.out)
             obtain ⟨g8, p8, hv8⟩ := hr8.out.form (by simp [tw_len])
             obtain ⟨N8, hN8⟩ : ∃ N8, N8 = (L ++ [sb true] ++ tw a).length := ⟨_, rfl⟩
             rw [← hN8] at hv8
             subst hv8
             have HOb := Lib.hid hob
             clear hr8 hg8 hob hN8))
        all_goals
          clear H2b HG7 c154 c8 f8 hbA hcb cx0 cx1
          go_wp2_with fail
          go_roundg (n - (k + 1))
          case measure => omega
          case rel => exact ⟨k + 1, _, by go_num, by omega, by omega, by show OB _ _ _ _ _; rw [HLe.out]; exact HOb.out⟩
    · have hkz : ¬ ((k : Int) < (n : Int)) := by omega
      go_wp2_with fail
      go_end0
      refine ⟨ov, rfl, ?_⟩
      have h := HS.out
      rw [List.take_of_length_le (by have := HNl.out; omega), HNl.out] at h
      exact h

theorem wl_len (l : List PT) : (wl l).length = 2 + 3 * l.length := by
  have key : ∀ m : List PT, (m.flatMap fun t => sb t.1 :: tw t.2).length = 3 * m.length := by
    intro m
    induction m with
    | nil => rfl
    | cons u m ih => simp only [List.flatMap_cons, List.length_append, List.length_cons, tw_len, ih]; omega
  unfold wl
  rw [List.length_append, key, tw_len]
theorem atPl_bd (l : List Nat) (x : Int) : ∀ t ∈ atPl l x, t.2 ≤ l.length := fun t ht => by
  obtain ⟨u, _, rfl⟩ := List.mem_map.1 ht
  exact List.idxOf_le_length
theorem flat_bd {x : Int} (hp : ∀ p ∈ Sr.parts x, (form ((p : Nat) : Int)).length ≤ 300) (k : Nat) : (((Sr.parts x).take k).flatMap fun (p : Nat) => wl (atPl (Sr.parts x) (p : Int))).length ≤ 902 * k := by
  induction k with
  | zero => simp
  | succ k ih =>
    rcases Nat.lt_or_ge k (Sr.parts x).length with h | h
    · rw [List.take_add_one, List.getElem?_eq_getElem h, List.flatMap_append, List.length_append]
      have h1 := hp _ (List.getElem_mem h)
      simp only [Option.toList_some, List.flatMap_cons, List.flatMap_nil, List.append_nil, wl_len]
      have : (atPl (Sr.parts x) ((Sr.parts x)[k] : Int)).length ≤ 300 := by simpa [atPl] using h1
      omega
    · rw [List.take_of_length_le (by omega)] at ih ⊢
      omega

set_option maxHeartbeats 1000000 in
set_option maxRecDepth 100000 in
theorem Weight_calls {W : World} {v : Value} {x : Int} (hx : IsN W v x) : Calls Tryz.prog 109 #[v] W fun e W' => e = .returned (.int .i64 ((Sr.parts x).length + 1 : Nat)) ∧ Hid (Below W.heap.size W W') := by
  obtain ⟨q, rfl⟩ := hx.ptr
  have hb := hx.1.2.2.1
  obtain ⟨pv, sv, fl, HR0⟩ := hx.get'
  have HR : Hid (∀ w', Below W.heap.size W w' → Rows w' (.agg #[.pointer q]) x pv sv fl) := HR0
  obtain ⟨n, hn⟩ : ∃ n, n = (Sr.parts x).length := ⟨_, rfl⟩
  obtain ⟨pa, pc, hpv⟩ : ∃ pa pc, pv = .slice pa (Sr.parts x).length pc := by
    obtain ⟨_, ⟨q1, q2⟩ | ⟨g, cap, cur, q1, _⟩⟩ := (HR0 W (Below.refl _ _)).prow
    · exact ⟨none, 0, by rw [q1, q2]⟩
    · exact ⟨_, cap, q1⟩
  rw [← hn] at hpv hb ⊢
  subst hpv
  have hs := fun w' hb => (HR.out w' hb).parts
  have HB : Hid (Below W.heap.size W (W.alloc (.cells #[.pointer q] 26))) := (Below.refl _ _).alloc (Nat.le_refl _) _
  have hw : IntKind.i64.wrap ((n : Int) + 1) = (n : Int) + 1 := IntWalk.i64_in _ (by omega)
  clear HR0 hx hn
  go_enter Tryz.func109, Tryz.ntmps109
  go_wp2_with fail
  refine (hs _ HB.out).mono ?_
  rintro e w1 ⟨rfl, o, rfl⟩
  clear hs
  go_wp2_with fail
  refine bodyPost_ret (results_tmp rfl _ _ _) rfl ?_
  exact ⟨by go_num, HB.out.alloc (by simp) o⟩

/-- how Bytes ends -/
def BtQ (x : Int) (W : World) (e : Ending) (W' : World) : Prop := ∃ v', e = .returned v' ∧ Hid (BRow W' v' (nbytes x)) ∧ Hid (Below W.heap.size W W') ∧ Hid (∀ b, v'.ownBlock = some b → W.heap.size ≤ b)
set_option maxHeartbeats 8000000 in
set_option maxRecDepth 100000 in
theorem Bytes_calls {W : World} {v : Value} {x : Int} (hx : IsN W v x) : Calls Tryz.prog 69 #[v] W (BtQ x W) := by
  obtain ⟨q, rfl⟩ := hx.ptr
  have HX := Lib.hid hx
  have hb := hx.1.2.2.1
  obtain ⟨pv, sv, fl, HR0⟩ := hx.get'
  have HR : Hid (∀ w', Below W.heap.size W w' → Rows w' (.agg #[.pointer q]) x pv sv fl) := HR0
  obtain ⟨n, hn⟩ : ∃ n, n = (Sr.parts x).length := ⟨_, rfl⟩
  obtain ⟨pa, pc, hpv⟩ : ∃ pa pc, pv = .slice pa (Sr.parts x).length pc := by
    obtain ⟨_, ⟨q1, q2⟩ | ⟨g, cap, cur, q1, _⟩⟩ := (HR0 W (Below.refl _ _)).prow
    · exact ⟨none, 0, by rw [q1, q2]⟩
    · exact ⟨_, cap, q1⟩
  have HNp := Lib.hid hn
  rw [← hn] at hpv hb
  subst hpv
  have HB0 : Hid (Below W.heap.size W (W.alloc (.cells #[.pointer q] 26))) := (Below.refl _ _).alloc (Nat.le_refl _) _
  have HWt := Weight_calls (HX.out.below HB0.out)
  rw [← hn] at HWt
  have HXq : Hid ((W.alloc (.cells #[.pointer q] 26)).heap[W.heap.size]? = some (.cells #[.pointer q] 26 (0, 0))) := heap_last W _
  clear HR0 hx hn
  go_enter Tryz.func69, Tryz.ntmps69
  go_wp2_with fail
  refine HWt.mono ?_
  rintro e w1 ⟨rfl, hb1⟩
  have HB1 := Lib.hid (Below.trans' HB0.out hb1.out)
  have HX1 := Lib.hid (Below.here hb1.out HXq.out)
  have H2 := two_calls (W := w1) (v := .slice none 0 0) (l := []) (n := n + 1) ⟨rfl, .inl ⟨rfl, rfl⟩⟩ (by omega) (by simp)
  clear HWt hb1
  go_wp2_with fail
  refine H2.mono ?_
  rintro e w2 ⟨v2, rfl, hr2, hg2⟩
  obtain ⟨g2, p2, hv2⟩ := hr2.out.form (by simp [tw_len])
  have hN2 : (([] : List UInt8) ++ tw (n + 1)).length = 2 := rfl
  rw [hN2] at hv2
  subst hv2
  have HB2 : Hid (Below W.heap.size W w2) := fr_below (F := []) HB1.out (by simp) hg2.out.fr
  have HX2 : Hid (w2.heap[W.heap.size]? = some (.cells #[.pointer q] 26 (0, 0))) := by
    have hlt := (Array.getElem?_eq_some_iff.1 HX1.out).1
    exact (hg2.out.fr.block _ hlt (by simp [Value.ownBlock])).trans HX1.out
  have HR2 := Lib.hid hr2.out
  have HB12 : Hid (Below w1.heap.size w1 w2) := ⟨hg2.out.fr.os, hg2.out.fr.tape, hg2.out.fr.output, hg2.out.fr.size, fun b hb => hg2.out.fr.block b hb (by simp [Value.ownBlock])⟩
  have c2 : ∀ o, (w2.alloc o).cell? ⟨W.heap.size, 0, none⟩ = some (.pointer q) := fun o => by rw [cell_of ((heap_old _ _ (Array.getElem?_eq_some_iff.1 HX2.out).1).trans HX2.out)]; rfl
  have HOw : Hid (∀ b, (Value.slice (some ⟨g2, 0, none⟩) 2 p2).ownBlock = some b → w1.heap.size ≤ b) := fun b e => by
    rcases hg2.out.own with h | h
    · rw [h] at e; cases e
    · exact h b e
  have HPt := (HR.out _ (HB2.out.alloc HB2.out.size (.cells #[.slice (some ⟨g2, 0, none⟩) 2 p2] 40))).parts
  clear H2 hr2 hg2 hN2
  go_wp2_with fail
  refine HPt.mono ?_
  rintro e w3 ⟨rfl, o3, rfl⟩
  clear HPt
  go_wp2_with fail
  obtain ⟨w4, hw4⟩ : ∃ w4, w4 = (w2.alloc (.cells #[.slice (some ⟨g2, 0, none⟩) 2 p2] 40)).alloc o3 := ⟨_, rfl⟩
  rw [← hw4]
  have HB4 : Hid (Below W.heap.size W w4) := by show Below _ _ _; rw [hw4]; exact (HB2.out.alloc HB2.out.size _).alloc (by have := HB2.out.size; simp; omega) _
  have HX4 : Hid (w4.heap[W.heap.size]? = some (.cells #[.pointer q] 26 (0, 0))) := by
    have hlt := (Array.getElem?_eq_some_iff.1 HX2.out).1
    show _ = _; rw [hw4, heap_old _ _ (by simp; omega), heap_old _ _ hlt]; exact HX2.out
  have hz4 : w4.heap.size = w2.heap.size + 2 := by rw [hw4]; simp
  have HRws := Lib.hid (HR.out w1 HB1.out)
  have hz12 : w1.heap.size ≤ w2.heap.size := HB12.out.size
  have S0 : Hid (OB w1 w2.heap.size (tw (n + 1) ++ ((Sr.parts x).take 0).flatMap fun (p : Nat) => wl (atPl (Sr.parts x) (p : Int))) (.slice (some ⟨g2, 0, none⟩) 2 p2) w4) := by
    refine ⟨Fr.of_below ?_, ?_, ?_, HOw.out⟩
    · rw [hw4]; exact (HB12.out.alloc HB12.out.size _).alloc (by simp; omega) _
    · rw [hw4, heap_old _ _ (by simp)]; exact heap_last w2 _
    · have h := World.ownsRow.alloc (World.ownsRow.alloc HR2.out (.cells #[.slice (some ⟨g2, 0, none⟩) 2 p2] 40)) o3
      rw [← hw4] at h
      simpa [BRow] using h
  have hWlt : W.heap.size < w1.heap.size := (Array.getElem?_eq_some_iff.1 HX1.out).1
  clear hw4 c2 HR2
  go_loopg [14] n (fun g1 vi wr => ∃ (k : Nat) (ov : Value), vi = .int .i64 k ∧ k ≤ n ∧ n - k ≤ g1 ∧ Hid (OB w1 w2.heap.size (tw (n + 1) ++ ((Sr.parts x).take k).flatMap fun (p : Nat) => wl (atPl (Sr.parts x) (p : Int))) ov wr))
  case atStart => exact ⟨0, _, rfl, by omega, by omega, S0⟩
  case round =>
    clear S0
    obtain ⟨k, ov, rfl, hkn, hg, HS⟩ := hrel
    have hfb := flat_bd (x := x) HX.out.1.2.1 k
    have keep : ∀ b, b < w1.heap.size → wr.heap[b]? = w1.heap[b]? := fun b hb => HS.out.fr.block b hb (by simp; omega)
    have hacc : (tw (n + 1) ++ ((Sr.parts x).take k).flatMap fun (p : Nat) => wl (atPl (Sr.parts x) (p : Int))).length ≤ 900000000 := by rw [List.length_append, tw_len]; omega
    by_cases hk : k < n
    · have hkz : (k : Int) < (n : Int) := by omega
      have hk0 : (0 : Int) ≤ (k : Int) := Int.natCast_nonneg k
      have hkw : IntKind.i64.wrap ((k : Int) + 1) = (k : Int) + 1 := IntWalk.i64_in _ (by omega)
      obtain ⟨p, hp⟩ : ∃ p, (Sr.parts x)[k]? = some p := ⟨_, List.getElem?_eq_getElem (by rw [← HNp.out]; exact hk)⟩
      obtain ⟨u, hu, hru⟩ := HRws.out.rows k p hp
      obtain ⟨gp, cp, heq, cq⟩ := row1_cell (ownsRow_kept (W' := wr) HRws.out.prow fun b e => keep b (ownsRow_lt HRws.out.prow e)) hu
      obtain ⟨e1, e2, e3⟩ := Value.slice.inj heq
      subst e1
      clear e2 e3 heq
      have HWr := write_calls HS hru (fun b e => by have := ownsRow_lt hru e; omega) (by have := HX.out.1.2.1 p (List.mem_of_getElem? hp); simpa [atPl] using this) (fun t ht => by have := atPl_bd _ _ t ht; have := HNp.out; omega) hacc
      have HP := Lib.hid hp
      clear hp hu hru keep hacc hfb
      go_wp2_with fail
      refine HWr.mono ?_
      rintro e w5 ⟨ov5, rfl, hob⟩
      have HNx : Hid (OB w1 w2.heap.size (tw (n + 1) ++ ((Sr.parts x).take (k + 1)).flatMap fun (p : Nat) => wl (atPl (Sr.parts x) (p : Int))) ov5 w5) := by
        show OB _ _ _ _ _
        rw [take_snoc' HP.out, List.flatMap_append, ← List.append_assoc]
        simpa using hob.out
      clear HWr hob cq
      go_wp2_with fail
      go_roundg (n - (k + 1))
      case measure => omega
      case rel => exact ⟨k + 1, ov5, by go_num, by omega, by omega, HNx⟩
    · have hkz : ¬ ((k : Int) < (n : Int)) := by omega
      have hk2 : (Sr.parts x).take k = Sr.parts x := List.take_of_length_le (by have := HNp.out; omega)
      have hXr : wr.heap[W.heap.size]? = some (.cells #[.pointer q] 26 (0, 0)) := (keep _ hWlt).trans HX1.out
      have cr : wr.cell? ⟨W.heap.size, 0, none⟩ = some (.pointer q) := by rw [cell_of hXr]; rfl
      have hlow : Below W.heap.size W wr := fr_below (F := [w2.heap.size]) HB1.out (by intro b hb; simp at hb; omega) HS.out.fr
      have hself := (HR.out wr hlow).self
      have HWr := fun (o : Obj) => write_calls (Lib.hid (HS.out.below ((Below.refl wr.heap.size wr).alloc (Nat.le_refl _) o))) HRws.out.srow (fun b e => by have := ownsRow_lt HRws.out.srow e; omega) (by have := HX.out.1.1; simpa [atPl] using this) (fun t ht => by have := atPl_bd _ _ t ht; have := HNp.out; omega) hacc
      have HE : Hid ((tw (n + 1) ++ ((Sr.parts x).take k).flatMap fun (p : Nat) => wl (atPl (Sr.parts x) (p : Int))) ++ wl (atPl (Sr.parts x) x) = nbytes x) := by
        show _ = _
        rw [hk2]; unfold nbytes; rw [← HNp.out]
      clear hk2 hXr hlow keep hacc hfb
      go_wp2_with fail
      refine hself.mono ?_
      rintro e w5 ⟨rfl, o5, rfl⟩
      clear hself
      go_wp2_with fail
      refine (HWr o5).mono ?_
      rintro e w6 ⟨ov6, rfl, hob⟩
      have c6 : w6.cell? ⟨w2.heap.size, 0, none⟩ = some ov6 := by rw [cell_of hob.out.box]; rfl
      clear HWr cr
      go_wp2_with fail
      refine bodyPost_ret (results_tmp rfl _ _ _) rfl ?_
      refine ⟨ov6, rfl, ?_, fr_below (F := [w2.heap.size]) HB1.out (by intro b hb; simp at hb; omega) hob.out.fr, fun b e => by have := hob.out.own b e; omega⟩
      have h := hob.out.row
      rw [HE.out] at h
      exact h
end Sr
/- baum.must, plain: also where they panic. -/
namespace Sr
open Go Go.Proofs Go.RowKit Go.Maps Go.WideMaps

set_option maxHeartbeats 1000000 in
set_option maxRecDepth 100000 in
theorem must_ok {W : World} (q : Option Addr) : Calls Tryz.prog 89 #[.agg #[.pointer q], .int .i64 0] W fun e W' => e = .returned (.agg #[.pointer q]) ∧ Hid (Below W.heap.size W W') := by
  go_enter Tryz.func89, Tryz.ntmps89
  go_wp2_with fail
  refine bodyPost_ret (v := .agg #[.pointer q]) (by simp [results, Tryz.results89, go_sem]) rfl ?_
  exact ⟨rfl, ((Below.refl _ _).alloc (Nat.le_refl _) _).alloc (by simp) _⟩
/-- a panic with an error of the program's own -/
def pan (n : Int) : Ending := .panicked [{ v := .iface 29 (.int .i64 n), recovered := false }]
set_option maxHeartbeats 1000000 in
set_option maxRecDepth 100000 in
theorem must_bad {W : World} (q : Option Addr) {er : Int} (h : (er == 0) = false) : Calls Tryz.prog 89 #[.agg #[.pointer q], .int .i64 er] W fun e W' => e = pan er ∧ Hid (Below W.heap.size W W') := by
  have h2 : decide (er = 0) = false := by simpa using h
  go_enter Tryz.func89, Tryz.ntmps89
  go_wp2_with fail
  exact ⟨rfl, rfl, ((Below.refl _ _).alloc (Nat.le_refl _) _).alloc (by simp) _⟩
theorem must_any {W : World} (q : Option Addr) (er : Int) : Calls Tryz.prog 89 #[.agg #[.pointer q], .int .i64 er] W fun e W' => (er = 0 ∧ e = .returned (.agg #[.pointer q]) ∨ er ≠ 0 ∧ e = pan er) ∧ Hid (Below W.heap.size W W') := by
  by_cases h : er = 0
  · subst h; exact (must_ok q).mono fun e w ⟨h1, h2⟩ => ⟨.inl ⟨rfl, h1⟩, h2⟩
  · exact (must_bad q (by simpa using h)).mono fun e w ⟨h1, h2⟩ => ⟨.inr ⟨h, h1⟩, h2⟩

/-- an element's three numbers -/
structure E3 where
  u : Int
  v : Int
  m : Int
def IsE (w : World) (V : Value) (x : E3) : Prop := ∃ qu qv qm, V = .agg #[.pointer qu, .pointer qv, .pointer qm] ∧ IsN w (.agg #[.pointer qu]) x.u ∧ IsN w (.agg #[.pointer qv]) x.v ∧ IsN w (.agg #[.pointer qm]) x.m
theorem IsE.below {w w' : World} {V : Value} {x : E3} (h : IsE w V x) (hb : Below w.heap.size w w') : IsE w' V x := by
  obtain ⟨a, b, c, h0, h1, h2, h3⟩ := h
  exact ⟨a, b, c, h0, h1.below hb, h2.below hb, h3.below hb⟩
theorem isN_zero (w : World) : IsN w (.agg #[.pointer none]) 0 := ⟨allowed_zero, .inl ⟨rfl, rfl⟩⟩

/-- the plain form, and where all numbers in between are allowed -/
def plainE (u v m : Int) : E3 := if u = 0 then ⟨0, 0, m⟩ else ⟨shx u (-(lowE u : Int)), v + lowE u, m⟩
def plainOK (u v : Int) : Prop := u = 0 ∨ (allowed (shx u (-(lowE u : Int))) ∧ allowed (v + lowE u))
theorem NR.below {w w' : World} {x : Int} {v : Value} {er : Int} (h : NR w x v er) (hb : Below w.heap.size w w') : NR w' x v er := by
  rcases h with ⟨h1, h2, h3⟩ | h
  · exact .inl ⟨h1, h2, h3.below hb⟩
  · exact .inr h
theorem NR.er {w : World} {x : Int} {q : Option Addr} {er : Int} (h : NR w x (.agg #[.pointer q]) er) : (er = 0 → allowed x ∧ IsN w (.agg #[.pointer q]) x) ∧ (er ≠ 0 → ¬ allowed x ∧ er = 5) := by
  rcases h with ⟨h1, h2, h3⟩ | ⟨h1, h2, h3⟩
  · exact ⟨fun _ => ⟨h1, h3⟩, fun h => absurd h2 h⟩
  · exact ⟨fun h => by omega, fun _ => ⟨h1, h2⟩⟩
theorem NR.yes {w : World} {x : Int} {q : Option Addr} {er : Int} (h : NR w x (.agg #[.pointer q]) er) (ha : allowed x) : er = 0 ∧ IsN w (.agg #[.pointer q]) x := by
  rcases h with h | h
  · exact h.2
  · exact absurd ha h.1
theorem last_le : ∀ {L : List Nat}, L.Pairwise (fun a b => b + 1 < a) → ∀ e ∈ L, L.getLastD 0 ≤ e
  | [], _, e, he => by simp at he
  | [a], _, e, he => by simp at he; subst he; simp
  | a :: b :: L, hd, e, he => by
    have e1 : (a :: b :: L).getLastD 0 = (b :: L).getLastD 0 := by simp [List.getLastD]
    rw [e1]
    obtain ⟨h1, h2⟩ := List.pairwise_cons.1 hd
    rcases List.mem_cons.1 he with rfl | he
    · have h3 := last_le h2 b (by simp)
      have h4 := h1 b (by simp)
      omega
    · exact last_le h2 e he
theorem low_ok {u : Int} : shOK u (-(lowE u : Int)) := by
  intro e he
  have h3 := last_le (exps_desc u) e he
  unfold lowE
  omega
theorem isg_zero {x : Int} : isg x = 0 ↔ x = 0 := by
  unfold isg; constructor
  · intro h; split at h
    · omega
    · split at h <;> omega
  · rintro rfl; simp

/-- how plain ends where it ends well -/
def PQ (x : E3) (W : World) (e : Ending) (W' : World) : Prop := ∃ qu qv qm, e = .returned (.agg #[.pointer qu, .pointer qv, .pointer qm]) ∧ Hid (IsE W' (.agg #[.pointer qu, .pointer qv, .pointer qm]) x) ∧ Hid (Below W.heap.size W W')

/-- how a calculation ends that may panic: just where a number is not allowed -/
def PX (ok : Prop) (x : E3) (W : World) (e : Ending) (W' : World) : Prop := (ok ∧ PQ x W e W') ∨ (¬ ok ∧ e = pan 5 ∧ Hid (Below W.heap.size W W'))

def set3 (w : World) (b : Nat) (x y z : Value) : World := ((w.setCell ⟨b, 0, none⟩ x).setCell ⟨b, 1, none⟩ y).setCell ⟨b, 2, none⟩ z
theorem set3_block (w : World) {b g : Nat} (h : g ≠ b) (x y z : Value) : (set3 w b x y z).heap[g]? = w.heap[g]? :=
  (RowKit.Below.heap_setCell _ _ _ _ h).trans ((RowKit.Below.heap_setCell _ _ _ _ h).trans (RowKit.Below.heap_setCell _ _ _ _ h))
theorem IsE.store3 {w : World} {V : Value} {x : E3} (h : IsE w V x) {b : Nat} {c : Array Value} {T : TypeId} {fz : Nat × Nat} (hb : w.heap[b]? = some (.cells c T fz)) (hT : T ≠ 158 ∧ T ≠ 111 ∧ T ≠ 154 := by decide) {p q r : Value} : IsE (((w.setCell ⟨b, 0, none⟩ p).setCell ⟨b, 1, none⟩ q).setCell ⟨b, 2, none⟩ r) V x := by
  have key : ∀ {v : Value} {z : Int}, IsN w v z → IsN (set3 w b p q r) v z := fun {v z} hn => hn.kept fun g c' T' hg ht => set3_block w (type_ne hg hb (by
    rintro rfl
    rcases ht with ht | ht | ht
    · exact hT.1 ht
    · exact hT.2.1 ht
    · exact hT.2.2 ht)) p q r
  obtain ⟨qu, qv, qm, h0, h1, h2, h3⟩ := h
  exact ⟨qu, qv, qm, h0, key h1, key h2, key h3⟩
theorem Below.set3 {W w : World} (h : Below W.heap.size W w) {b : Nat} (hb : W.heap.size ≤ b) {p q r : Value} : Below W.heap.size W (((w.setCell ⟨b, 0, none⟩ p).setCell ⟨b, 1, none⟩ q).setCell ⟨b, 2, none⟩ r) := ((h.setCell hb _).setCell hb _).setCell hb _

set_option maxHeartbeats 8000000 in
set_option maxRecDepth 100000 in
theorem plain_any {W : World} {a b c : Value} {u v m : Int} (ha : IsN W a u) (hb : IsN W b v) (hc : IsN W c m) : Calls Tryz.prog 88 #[a, b, c] W (PX (plainOK u v) (plainE u v m) W) := by
  obtain ⟨qa, rfl⟩ := ha.ptr
  obtain ⟨qb, rfl⟩ := hb.ptr
  obtain ⟨qc, rfl⟩ := hc.ptr
  have HA := Lib.hid ha
  have HB := Lib.hid hb
  have HC := Lib.hid hc
  clear ha hb hc
  obtain ⟨W0, hW0⟩ : ∃ W0, W0 = (((W.alloc (.cells #[.pointer qa] 26)).alloc (.cells #[.pointer qb] 26)).alloc (.cells #[.pointer qc] 26)).alloc (.cells #[.pointer none, .pointer none, .pointer none] 28) := ⟨_, rfl⟩
  have HW0 := Lib.hid hW0
  have HB0 : Hid (Below W.heap.size W W0) := by show Below _ _ _; rw [hW0]; exact ((((Below.refl _ _).alloc (Nat.le_refl _) _).alloc (by simp) _).alloc (by simp; omega) _).alloc (by simp; omega) _
  have hz0 : W.heap.size + 4 = W0.heap.size := by rw [hW0]; simp
  have X0 : Hid (W0.heap[W.heap.size]? = some (.cells #[.pointer qa] 26 (0, 0))) := by show _ = _; rw [hW0, heap_old _ _ (by simp <;> omega), heap_old _ _ (by simp <;> omega), heap_old _ _ (by simp <;> omega)]; exact heap_at rfl
  have X1 : Hid (W0.heap[W.heap.size + 1]? = some (.cells #[.pointer qb] 26 (0, 0))) := by show _ = _; rw [hW0, heap_old _ _ (by simp <;> omega), heap_old _ _ (by simp <;> omega)]; exact heap_at (by simp)
  have X2 : Hid (W0.heap[W.heap.size + 1 + 1]? = some (.cells #[.pointer qc] 26 (0, 0))) := by show _ = _; rw [hW0, heap_old _ _ (by simp)]; exact heap_at (by simp)
  have X3 : Hid (W0.heap[W.heap.size + 1 + 1 + 1]? = some (.cells #[.pointer none, .pointer none, .pointer none] 28 (0, 0))) := by show _ = _; rw [hW0]; exact heap_at (by simp)
  have hSg := Sign_calls (HA.out.below HB0.out)
  clear hW0
  by_cases hu : u = 0
  · subst hu
    have h0 : isg 0 = 0 := by simp [isg]
    rw [h0] at hSg
    have HPe : Hid (plainE 0 v m = ⟨0, 0, m⟩) := by show _ = _; simp [plainE]
    go_enter Tryz.func88, Tryz.ntmps88
    go_wp2_with fail
    rw [show (((W.alloc (.cells #[.pointer qa] 26)).alloc (.cells #[.pointer qb] 26)).alloc (.cells #[.pointer qc] 26)).alloc (.cells #[.pointer none, .pointer none, .pointer none] 28) = W0 from HW0.out.symm]
    refine hSg.mono ?_
    rintro e w1 ⟨rfl, hb1⟩
    clear hSg
    have Y2 := Lib.hid (Below.here hb1.out X2.out)
    have Y3 := Lib.hid (Below.here hb1.out X3.out)
    have c2 : w1.cell? ⟨W.heap.size + 1 + 1, 0, none⟩ = some (.pointer qc) := by rw [cell_of Y2.out]; rfl
    have c30 : w1.cell? ⟨W.heap.size + 1 + 1 + 1, 0, none⟩ = some (.pointer none) := by rw [cell_of Y3.out]; rfl
    have c31 : w1.cell? ⟨W.heap.size + 1 + 1 + 1, 1, none⟩ = some (.pointer none) := by rw [cell_of Y3.out]; rfl
    have c32 : w1.cell? ⟨W.heap.size + 1 + 1 + 1, 2, none⟩ = some (.pointer none) := by rw [cell_of Y3.out]; rfl
    have f3 : ∀ o, w1.frozen? ⟨W.heap.size + 1 + 1 + 1, o, none⟩ = false := fun o => free_of Y3.out o
    have f30 := f3 0
    have f31 := f3 1
    have f32 := f3 2
    clear f3
    go_wp2_with fail
    refine bodyPost_ret (v := .agg #[.pointer none, .pointer none, .pointer qc]) (by simp [results, Tryz.results88, go_sem, c30, c31, c32]) rfl ?_
    refine .inl ⟨.inl rfl, none, none, qc, rfl, ?_, Below.set3 (Below.trans' HB0.out hb1.out) (by omega)⟩
    rw [HPe.out]
    exact IsE.store3 ⟨none, none, qc, rfl, isN_zero _, isN_zero _, (HC.out.below HB0.out).below hb1.out⟩ Y3.out
  · have hsz := mt isg_zero.1 hu
    have hsz2 : (isg u == 0) = false := by simpa using hsz
    go_enter Tryz.func88, Tryz.ntmps88
    go_wp2_with fail
    rw [show (((W.alloc (.cells #[.pointer qa] 26)).alloc (.cells #[.pointer qb] 26)).alloc (.cells #[.pointer qc] 26)).alloc (.cells #[.pointer none, .pointer none, .pointer none] 28) = W0 from HW0.out.symm]
    refine hSg.mono ?_
    rintro e w1 ⟨rfl, hb1⟩
    clear hSg
    have HB1 := Lib.hid (Below.trans' HB0.out hb1.out)
    have HBx := Lib.hid hb1.out
    have Y0 := Lib.hid (Below.here hb1.out X0.out)
    have c0 : w1.cell? ⟨W.heap.size, 0, none⟩ = some (.pointer qa) := by rw [cell_of Y0.out]; rfl
    have HLow := Low_calls (HA.out.below HB1.out) hu
    clear hb1
    go_wp2_with fail
    refine HLow.mono ?_
    rintro e w2 ⟨ql, rfl, hil, hb2⟩
    have HMu := must_ok (W := w2) ql
    clear HLow
    go_wp2_with fail
    refine HMu.mono ?_
    rintro e w3 ⟨rfl, hb3⟩
    have HB3 := Lib.hid (Below.trans' hb2.out hb3.out)
    have HIl := Lib.hid (hil.out.below hb3.out)
    clear HMu c0 hil hb2 hb3
    go_wp2_with fail
    -- l lies in a variable: w4
    obtain ⟨w4, hw4⟩ : ∃ w4, w4 = w3.alloc (.cells #[.pointer ql] 26) := ⟨_, rfl⟩
    rw [← hw4]
    have HB4 : Hid (Below w1.heap.size w1 w4) := by show Below _ _ _; rw [hw4]; exact HB3.out.alloc HB3.out.size _
    have X7 : Hid (w4.heap[w3.heap.size]? = some (.cells #[.pointer ql] 26 (0, 0))) := by show _ = _; rw [hw4]; exact heap_last w3 _
    have HIl4 : Hid (IsN w4 (.agg #[.pointer ql]) (lowE u : Int)) := by show IsN _ _ _; rw [hw4]; exact HIl.out.below ((Below.refl _ _).alloc (Nat.le_refl _) _)
    have HB4W := Lib.hid (Below.trans' HB1.out HB4.out)
    have HB40 := Lib.hid (Below.trans' HBx.out HB4.out)
    have HK : Hid (∀ w', Below w4.heap.size w4 w' → w'.cell? ⟨W.heap.size, 0, none⟩ = some (.pointer qa) ∧ w'.cell? ⟨w3.heap.size, 0, none⟩ = some (.pointer ql) ∧ w'.cell? ⟨W.heap.size + 1, 0, none⟩ = some (.pointer qb) ∧ w'.cell? ⟨W.heap.size + 1 + 1, 0, none⟩ = some (.pointer qc)) := fun w' hb =>
      ⟨by rw [cell_of (Below.here hb (Below.here HB40.out X0.out))]; rfl, by rw [cell_of (Below.here hb X7.out)]; rfl, by rw [cell_of (Below.here hb (Below.here HB40.out X1.out))]; rfl, by rw [cell_of (Below.here hb (Below.here HB40.out X2.out))]; rfl⟩
    have hK0 := HK.out w4.drew ((Below.refl _ _).drew)
    have HNeg : ∀ w, Below w4.heap.size w4 w → Calls Tryz.prog 87 #[.agg #[.pointer ql]] w fun e w' => ∃ q, e = .returned (.agg #[.pointer q]) ∧ Hid (IsN w' (.agg #[.pointer q]) (-(lowE u : Int))) ∧ Hid (Below w4.heap.size w4 w') ∧ Hid (Below w.heap.size w w') := fun w hb =>
      (Neg_calls (HIl4.out.below hb)).mono fun e w' ⟨q, h1, h2, h3⟩ => ⟨q, h1, h2, Below.trans' hb h3.out, h3⟩
    have HSh : ∀ q5 w, Below w4.heap.size w4 w → IsN w (.agg #[.pointer q5]) (-(lowE u : Int)) → Calls Tryz.prog 28 #[.agg #[.pointer qa], .agg #[.pointer q5]] w fun e w' => ∃ q er, e = .returned (.tuple #[.agg #[.pointer q], .int .i64 er]) ∧ Hid (NR w' (shx u (-(lowE u : Int))) (.agg #[.pointer q]) er) ∧ Hid (Below w4.heap.size w4 w') ∧ Hid (Below w.heap.size w w') := fun q5 w hb hi =>
      (Shift_calls (HA.out.below (Below.trans' HB4W.out hb)) hi).mono fun e w' ⟨q, er, h1, h2, h3⟩ => by
        rcases h3.out with h | h
        · exact ⟨q, er, h1, h.2, Below.trans' hb h2.out, h2⟩
        · exact absurd low_ok h.1
    have HMu : ∀ q er w z, Below w4.heap.size w4 w → NR w z (.agg #[.pointer q]) er → Calls Tryz.prog 89 #[.agg #[.pointer q], .int .i64 er] w fun e w' => ((e = .returned (.agg #[.pointer q]) ∧ Hid (allowed z) ∧ Hid (IsN w' (.agg #[.pointer q]) z)) ∨ (Hid (¬ allowed z) ∧ e = pan 5)) ∧ Hid (Below w4.heap.size w4 w') ∧ Hid (Below w.heap.size w w') := fun q er w z hb hi =>
      (must_any q er).mono fun e w' ⟨h1, h2⟩ => by
        refine ⟨?_, Below.trans' hb h2.out, h2⟩
        rcases h1 with ⟨h3, h4⟩ | ⟨h3, h4⟩
        · exact .inl ⟨h4, (hi.er.1 h3).1, (hi.er.1 h3).2.below h2.out⟩
        · exact .inr ⟨(hi.er.2 h3).1, (hi.er.2 h3).2 ▸ h4⟩
    have hbd : Below w4.heap.size w4 w4.drew := (Below.refl _ _).drew
    have HMH := Lib.hid HMu
    have HSH := Lib.hid HSh
    have HNH := Lib.hid HNeg
    have HBd := Lib.hid hbd
    clear hw4 HMu HSh HNeg hbd hK0
    go_wp2_with fail
    go_region_held2 (fun w' => w'.cell? ⟨W.heap.size, 0, none⟩ = some (.pointer qa) ∧ w'.cell? ⟨w3.heap.size, 0, none⟩ = some (.pointer ql))
      (first
        | exact ⟨(HK.out _ HBd.out).1, (HK.out _ HBd.out).2.1⟩
        | exact ⟨(HK.out _ (HBd.out.alloc HBd.out.size _)).1, (HK.out _ (HBd.out.alloc HBd.out.size _)).2.1⟩
        | exact ⟨(HK.out _ HB5.out).1, (HK.out _ HB5.out).2.1⟩
        | exact ⟨(HK.out _ (HB5.out.alloc HB5.out.size _)).1, (HK.out _ (HB5.out.alloc HB5.out.size _)).2.1⟩
        | exact ⟨(HK.out _ HB6.out).1, (HK.out _ HB6.out).2.1⟩
        | exact ⟨(HK.out _ (HB6.out.alloc HB6.out.size _)).1, (HK.out _ (HB6.out.alloc HB6.out.size _)).2.1⟩
        | exact ⟨(HK.out _ HB7.out).1, (HK.out _ HB7.out).2.1⟩
        | exact ⟨(HK.out _ (HB7.out.alloc HB7.out.size _)).1, (HK.out _ (HB7.out.alloc HB7.out.size _)).2.1⟩
        | exact ⟨(HK.out _ (HB7.out.setCell (by first | exact HB6.out.size | exact HB5.out.size | exact Nat.le_refl _) _)).1, (HK.out _ (HB7.out.setCell (by first | exact HB6.out.size | exact HB5.out.size | exact Nat.le_refl _) _)).2.1⟩)
      (first
        | (go_at_call 87
           refine Calls.mono (HNH.out _ ?_) ?_
           · first | exact HBd.out | exact HBd.out.alloc HBd.out.size _
           rintro e w5 ⟨q5, rfl, HI5, HB5, HW5⟩
           first | (have H85 := Lib.hid (Below.here HW5.out (heap_last _ (.cells #[.pointer none] 26)))) | skip)
        | (go_at_call 28
           refine Calls.mono (HSH.out _ _ ?_ ?_) ?_
           · first | exact HB5.out | exact HB5.out.alloc HB5.out.size _
           · first | exact HI5.out | exact HI5.out.below ((Below.refl _ _).alloc (Nat.le_refl _) _)
           rintro e w6 ⟨q6, er6, rfl, HI6, HB6, HW6⟩
           first | (have H86 := Lib.hid (Below.here HW6.out H85.out)) | (have H86 := Lib.hid (Below.here HW6.out (heap_last w5 (.cells #[.pointer none] 26)))) | skip)
        | (go_at_call 89
           refine Calls.mono (HMH.out _ _ _ (shx u (-(lowE u : Int))) ?_ ?_) ?_
           · first | exact HB6.out | exact HB6.out.alloc HB6.out.size _
           · first | exact HI6.out | exact HI6.out.below ((Below.refl _ _).alloc (Nat.le_refl _) _)
           rintro e w7 ⟨⟨rfl, HA7, HI7⟩ | ⟨HA7, rfl⟩, HB7, HW7⟩
           rotate_left
           · refine And.intro rfl ?_
             exact Or.inr ⟨fun h => h.elim (fun h => hu h) (fun h => HA7.out h.1), rfl, Below.trans' HB4W.out HB7.out⟩
           first | (have H87 := Lib.hid (Below.here HW7.out H86.out)) | (have H87 := Lib.hid (Below.here HW7.out (heap_last w6 (.cells #[.pointer none] 26)))) | skip
           first | (have f8 := free_of H87.out 0; have c8 := cell_of H87.out 0; simp only [List.getElem?_toArray, List.getElem?_cons_zero] at c8) | skip))
    all_goals
      first
        | (change Exit.then _ _ _ _ (w7.alloc (.cells #[.pointer q6] 26))
           have hx8 := heap_last w7 (.cells #[.pointer q6] 26)
           have hb8 := HB7.out.alloc HB7.out.size (.cells #[.pointer q6] 26)
           have hi8 := HI7.out.below ((Below.refl _ _).alloc (Nat.le_refl _) (.cells #[.pointer q6] 26))
           obtain ⟨w8, hw8⟩ : ∃ w8, w8 = w7.alloc (.cells #[.pointer q6] 26) := ⟨_, rfl⟩
           obtain ⟨b8, hb8'⟩ : ∃ b8, b8 = w7.heap.size := ⟨_, rfl⟩
           rw [← hw8] at hx8 hb8 hi8 ⊢
           rw [← hb8'] at hx8 ⊢
           clear hw8 hb8')
        | (change Exit.then _ _ _ _ (w7.setCell ⟨w6.heap.size, 0, none⟩ (.pointer q6))
           have hx8 := heap_setCell_same w7 w6.heap.size 0 _ 26 (.pointer q6) H87.out
           have hb8 := HB7.out.setCell (p := ⟨w6.heap.size, 0, none⟩) HB6.out.size (.pointer q6)
           have hi8 := HI7.out.setCell (o := 0) H87.out (by decide) (.pointer q6)
           obtain ⟨w8, hw8⟩ : ∃ w8, w8 = w7.setCell ⟨w6.heap.size, 0, none⟩ (.pointer q6) := ⟨_, rfl⟩
           obtain ⟨b8, hb8'⟩ : ∃ b8, b8 = w6.heap.size := ⟨_, rfl⟩
           rw [← hw8] at hx8 hb8 hi8 ⊢
           rw [← hb8'] at hx8 ⊢
           clear hw8 hb8')
        | (change Exit.then _ _ _ _ (w7.setCell ⟨w5.heap.size, 0, none⟩ (.pointer q6))
           have hx8 := heap_setCell_same w7 w5.heap.size 0 _ 26 (.pointer q6) H87.out
           have hb8 := HB7.out.setCell (p := ⟨w5.heap.size, 0, none⟩) HB5.out.size (.pointer q6)
           have hi8 := HI7.out.setCell (o := 0) H87.out (by decide) (.pointer q6)
           obtain ⟨w8, hw8⟩ : ∃ w8, w8 = w7.setCell ⟨w5.heap.size, 0, none⟩ (.pointer q6) := ⟨_, rfl⟩
           obtain ⟨b8, hb8'⟩ : ∃ b8, b8 = w5.heap.size := ⟨_, rfl⟩
           rw [← hw8] at hx8 hb8 hi8 ⊢
           rw [← hb8'] at hx8 ⊢
           clear hw8 hb8')
        | (change Exit.then _ _ _ _ (w7.setCell ⟨w4.heap.size, 0, none⟩ (.pointer q6))
           have hx8 := heap_setCell_same w7 w4.heap.size 0 _ 26 (.pointer q6) H87.out
           have hb8 := HB7.out.setCell (p := ⟨w4.heap.size, 0, none⟩) (Nat.le_refl _) (.pointer q6)
           have hi8 := HI7.out.setCell (o := 0) H87.out (by decide) (.pointer q6)
           obtain ⟨w8, hw8⟩ : ∃ w8, w8 = w7.setCell ⟨w4.heap.size, 0, none⟩ (.pointer q6) := ⟨_, rfl⟩
           obtain ⟨b8, hb8'⟩ : ∃ b8, b8 = w4.heap.size := ⟨_, rfl⟩
           rw [← hw8] at hx8 hb8 hi8 ⊢
           rw [← hb8'] at hx8 ⊢
           clear hw8 hb8')
    all_goals
      have HX8 := Lib.hid hx8
      have HB8 := Lib.hid hb8
      have HI8 := Lib.hid hi8
      have HB8W := Lib.hid (Below.trans' HB4W.out HB8.out)
      have HX3w := Lib.hid (Below.here HB8.out (Below.here HB40.out X3.out))
      have HK8 : Hid (∀ w', Below w8.heap.size w8 w' → (w'.cell? ⟨W.heap.size + 1, 0, none⟩ = some (.pointer qb) ∧ w'.cell? ⟨w3.heap.size, 0, none⟩ = some (.pointer ql) ∧ w'.cell? ⟨W.heap.size + 1 + 1, 0, none⟩ = some (.pointer qc)) ∧ w'.cell? ⟨b8, 0, none⟩ = some (.pointer q6)) := fun w' hb =>
        ⟨(HK.out w' (Below.trans' HB8.out hb)).2.2.1 |> fun h => ⟨h, (HK.out w' (Below.trans' HB8.out hb)).2.1, (HK.out w' (Below.trans' HB8.out hb)).2.2.2⟩, by rw [cell_of (Below.here hb HX8.out)]; rfl⟩
      have hAdd := add_calls (W := w8.drew) ((HB.out.below HB8W.out).below ((Below.refl _ _).drew)) ((HIl4.out.below HB8.out).below ((Below.refl _ _).drew))
      have HKx : Hid (∀ w10 w' : World, Below w8.heap.size w8 w10 → (∀ g, g ≠ W.heap.size + 1 + 1 + 1 → w'.heap[g]? = w10.heap[g]?) → (w'.cell? ⟨W.heap.size + 1, 0, none⟩ = some (.pointer qb) ∧ w'.cell? ⟨w3.heap.size, 0, none⟩ = some (.pointer ql) ∧ w'.cell? ⟨W.heap.size + 1 + 1, 0, none⟩ = some (.pointer qc)) ∧ w'.cell? ⟨b8, 0, none⟩ = some (.pointer q6)) := fun w10 w' hb hg => by
        have y1 := Below.here hb (Below.here HB8.out (Below.here HB40.out X1.out))
        have y2 := Below.here hb (Below.here HB8.out (Below.here HB40.out X2.out))
        have y7 := Below.here hb (Below.here HB8.out X7.out)
        have y8 := Below.here hb HX8.out
        have y3 := Below.here hb HX3w.out
        refine ⟨⟨?_, ?_, ?_⟩, ?_⟩
        · rw [cell_of ((hg _ (type_ne y1 y3 (by decide))).trans y1)]; rfl
        · rw [cell_of ((hg _ (type_ne y7 y3 (by decide))).trans y7)]; rfl
        · rw [cell_of ((hg _ (type_ne y2 y3 (by decide))).trans y2)]; rfl
        · rw [cell_of ((hg _ (type_ne y8 y3 (by decide))).trans y8)]; rfl
      clear hx8 hb8 hi8
      go_wp2_with fail
      go_region_held2 (fun w' => (w'.cell? ⟨W.heap.size + 1, 0, none⟩ = some (.pointer qb) ∧ w'.cell? ⟨w3.heap.size, 0, none⟩ = some (.pointer ql) ∧ w'.cell? ⟨W.heap.size + 1 + 1, 0, none⟩ = some (.pointer qc)) ∧ w'.cell? ⟨b8, 0, none⟩ = some (.pointer q6))
        (first | exact HK8.out w8.drew ((Below.refl _ _).drew) | exact HK8.out _ HB9.out | exact HK8.out _ HB10.out | exact HKx.out w10 _ HB10.out (fun g hg => set3_block w10 hg _ _ _))
        (first
          | (go_at_call 101
             refine hAdd.mono ?_
             rintro e w9 ⟨q9, er, rfl, hb9, hr9⟩
             have HB9 := Lib.hid (Below.trans' (W := w8) ((Below.refl _ _).drew) hb9.out)
             have HI9 := hr9
             have HMu9 := must_any (W := w9) q9 er
             clear hb9 hr9)
          | (go_at_call 89
             refine HMu9.mono ?_
             rintro e w10 ⟨⟨he9, rfl⟩ | ⟨he9, rfl⟩, hb10⟩
             rotate_left
             · have hz := HI9.out.er.2 he9
               rw [hz.2]
               refine And.intro rfl ?_
               exact Or.inr ⟨fun h => h.elim (fun h => hu h) (fun h => hz.1 h.2), rfl, Below.trans' HB8W.out (Below.trans' HB9.out hb10.out)⟩
             have HB10 := Lib.hid (Below.trans' HB9.out hb10.out)
             have HI10 := Lib.hid ((HI9.out.er.1 he9).2.below hb10.out)
             have HA10 := Lib.hid (HI9.out.er.1 he9).1
             clear he9
             have Y3 := Lib.hid (Below.here HB10.out HX3w.out)
             have c30 : w10.cell? ⟨W.heap.size + 1 + 1 + 1, 0, none⟩ = some (.pointer none) := by rw [cell_of Y3.out]; rfl
             have c31 : w10.cell? ⟨W.heap.size + 1 + 1 + 1, 1, none⟩ = some (.pointer none) := by rw [cell_of Y3.out]; rfl
             have c32 : w10.cell? ⟨W.heap.size + 1 + 1 + 1, 2, none⟩ = some (.pointer none) := by rw [cell_of Y3.out]; rfl
             have f30 := free_of Y3.out 0
             have f31 := free_of Y3.out 1
             have f32 := free_of Y3.out 2
             clear HMu9 hb10))
      go_wp2_with fail
      refine bodyPost_ret (v := .agg #[.pointer q6, .pointer q9, .pointer qc]) (by simp [results, Tryz.results88, go_sem, c30, c31, c32]) rfl ?_
      refine .inl ⟨.inr ⟨HA7.out, HA10.out⟩, q6, q9, qc, rfl, ?_, Below.set3 (Below.trans' HB8W.out HB10.out) (by omega)⟩
      have hpe : plainE u v m = ⟨shx u (-(lowE u : Int)), v + lowE u, m⟩ := by unfold plainE; rw [if_neg hu]
      rw [hpe]
      exact IsE.store3 ⟨q6, q9, qc, rfl, HI8.out.below HB10.out, HI10.out, (HC.out.below HB8W.out).below HB10.out⟩ Y3.out
theorem plain_calls {W : World} {a b c : Value} {u v m : Int} (ha : IsN W a u) (hb : IsN W b v) (hc : IsN W c m) (hok : plainOK u v) : Calls Tryz.prog 88 #[a, b, c] W (PQ (plainE u v m) W) :=
  (plain_any ha hb hc).mono fun _ _ h => h.elim (fun h => h.2) (fun h => absurd hok h.1)
end Sr
