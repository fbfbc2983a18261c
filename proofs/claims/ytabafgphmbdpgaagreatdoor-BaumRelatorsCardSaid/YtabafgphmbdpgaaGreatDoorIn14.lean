/- Texts of this claim, joined: Isw, Lat, RdP, Read, Tr1, InnP, Tr2, Tr3, Tr4. -/
import Derived.Test.YtabafgphmbdpgaaGreatDoorIn13
import Derived.Shelf.Strings.SlTrimAscii
import Derived.Laws.IdiomStrings
/- isWord, end. -/
namespace Sr
open Go Go.Proofs Go.RowKit Go.Maps Go.WideMaps

def letters : List UInt8 := [97, 65, 98, 66]
/-- is a text a word -/
def isWordL (l : List UInt8) : Bool := decide (l.length ≤ 400) && l.all (letters.contains ·)

theorem dropWhile_nil {α : Type} {p : α → Bool} {l : List α} : l.dropWhile p = [] ↔ l.all p = true := by
  induction l with
  | nil => simp
  | cons a l ih =>
    rw [List.dropWhile_cons]
    cases h : p a <;> simp [h, ih]
theorem trimS_nil (l : List UInt8) : Lib.trimS l letters = [] ↔ l.all (letters.contains ·) = true := by
  unfold Lib.trimS Lib.trimLeftS Lib.trimRightS
  rw [dropWhile_nil]
  constructor
  · intro h
    have h1 : (l.reverse.dropWhile (letters.contains ·)) = [] := by
      cases he : l.reverse.dropWhile (letters.contains ·) with
      | nil => rfl
      | cons a t =>
        exfalso
        have h2 := List.head_dropWhile_not (letters.contains ·) (l := l.reverse) (by rw [he]; simp)
        rw [he] at h
        simp only [List.all_reverse, List.all_cons, Bool.and_eq_true] at h
        simp only [he, List.head_cons] at h2
        rw [h.1] at h2; cases h2
    rw [dropWhile_nil, List.all_reverse] at h1
    exact h1
  · intro h
    have : l.reverse.dropWhile (letters.contains ·) = [] := by rw [dropWhile_nil, List.all_reverse]; exact h
    rw [this]; rfl

set_option maxHeartbeats 4000000 in
set_option maxRecDepth 100000 in
theorem isWord_calls (s : ByteArray) (w : World) (hs : s.size ≤ 9223372036854775807) :
    Calls Tryz.prog 44 #[.string s] w fun e w' => e = .returned (.bool (isWordL s.data.toList)) ∧ Hid (Below w.heap.size w w') := by
  have hsz : s.data.toList.length = s.size := by simp
  by_cases hl : s.size ≤ 400
  · have hlz : (s.size : Int) ≤ 400 := by omega
    have hcon := Any.strings_Trim_laid Tryz.lays160 (by kernel_rfl) s ⟨#[97, 65, 98, 66]⟩ w hs (by decide) (ascii_of_all (by decide))
    change Calls Tryz.prog 91 _ _ (fun e w' => e = .returned (.string ⟨(Lib.trimS s.data.toList letters).toArray⟩) ∧ Below w.heap.size w w') at hcon
    have HE : Hid (isWordL s.data.toList = s.data.toList.all (letters.contains ·)) := by show _ = _; unfold isWordL; rw [hsz]; simp [hl]
    have ht := trimS_nil s.data.toList
    generalize Lib.trimS s.data.toList letters = r at hcon ht
    clear hsz hl
    by_cases hr : r = []
    · subst hr
      have HW : Hid (s.data.toList.all (letters.contains ·) = true) := ht.1 rfl
      clear ht
      go_enter Tryz.func44, Tryz.ntmps44
      go_wp2_with (go_at_call 91; refine hcon.mono ?_; rintro e w' ⟨rfl, hB⟩)
      refine bodyPost_ret (results_tmp rfl _ _ _) rfl ?_
      refine ⟨?_, hB⟩
      rw [HE.out, HW.out]; rfl
    · have HW : Hid (s.data.toList.all (letters.contains ·) = false) := by
        show _ = _
        cases h : s.data.toList.all (letters.contains ·) with
        | false => rfl
        | true => exact absurd (ht.2 h) hr
      have hre : r.isEmpty = false := by cases r with
        | nil => exact absurd rfl hr
        | cons a t => rfl
      clear ht
      go_enter Tryz.func44, Tryz.ntmps44
      go_wp2_with (go_at_call 91; refine hcon.mono ?_; rintro e w' ⟨rfl, hB⟩)
      refine bodyPost_ret (results_tmp rfl _ _ _) rfl ?_
      refine ⟨?_, hB⟩
      rw [HE.out, HW.out]
      first | rfl | (simp; exact hr)
  · have hlz : ¬ ((s.size : Int) ≤ 400) := by omega
    have HE : Hid (isWordL s.data.toList = false) := by show _ = _; unfold isWordL; rw [hsz]; simp [hl]
    clear hsz hl
    go_enter Tryz.func44, Tryz.ntmps44
    go_wp2_with fail
    refine bodyPost_ret (results_tmp rfl _ _ _) rfl ?_
    refine ⟨?_, Below.refl _ _⟩
    rw [HE.out]; rfl

set_option maxHeartbeats 4000000 in
set_option maxRecDepth 100000 in
theorem end_calls {B : Nat} {W : World} {p : Nat} {ov gv : Value} {l : List Q3} {o : List UInt8} {G : List E3} (h : Rd B W p ov gv l o G) (hgl : G.length = o.length + 1) (hl : o.length ≤ 100000) :
    Calls Tryz.prog 49 #[.pointer (some ⟨p, 0, none⟩)] W fun e W' => ∃ qu qv qm, e = .returned (.tuple #[.int .i64 o.length, .agg #[.pointer qu, .pointer qv, .pointer qm]]) ∧ Hid (IsE W' (.agg #[.pointer qu, .pointer qv, .pointer qm]) (endE o G)) ∧ Hid (Below W.heap.size W W') := by
  have HR := Lib.hid h
  obtain ⟨oa, oc, rfl⟩ := rown_shape h.out
  have c0 := h.c0
  have c1 := h.c1
  have lp := cell_lt c0
  have np : p ≠ W.heap.size := Nat.ne_of_lt lp
  by_cases ho : o = []
  · have hlen : o.length = 0 := by rw [ho]; rfl
    obtain ⟨x, hx⟩ : ∃ x, G[0]? = some x := ⟨_, List.getElem?_eq_getElem (by omega)⟩
    obtain ⟨gb, gc, t, rfl, ht, hie, g0, g1, g2⟩ := h.el hx
    have HEE : Hid (endE o G = x) := by show _ = _; unfold endE; rw [if_pos ho, getD_of hx]
    have HIE := Lib.hid hie
    have hgl1 : (0 : Int) < (G.length : Int) := by omega
    have hgl2 : 0 < G.length := by omega
    have HLE := Lib.hid hlen
    rw [Nat.zero_mul] at g0 g1 g2
    rw [Nat.zero_add] at g1 g2
    rw [hlen] at c0
    have HH := Lib.hid ((Has.nil W).add #[.pointer none, .pointer none, .pointer none] 28)
    have lg := cell_lt g0
    have ng : gb ≠ W.heap.size := Nat.ne_of_lt lg
    clear h hx hie ht ho hgl hlen
    go_enter Tryz.func49, Tryz.ntmps49
    go_wp2_with fail
    go_region_law (fail)
    all_goals
      have HB : Below W.heap.size W (W.alloc (.cells #[.pointer t.1, .pointer t.2.1, .pointer t.2.2] 28)).drew := ((Below.refl _ _).alloc (Nat.le_refl _) _).drew
      go_wp2_with fail
      refine bodyPost_ret (v := .tuple #[.int .i64 0, .agg #[.pointer t.1, .pointer t.2.1, .pointer t.2.2]]) (by simp [results, Tryz.results49, go_sem]) rfl ?_
      refine ⟨t.1, t.2.1, t.2.2, by rw [HLE.out]; rfl, ?_, HB⟩
      show IsE _ _ _
      rw [HEE.out]
      exact HIE.out.below HB
  · have hpos : 0 < o.length := List.length_pos_iff.2 ho
    have hz : (0 : Int) < (o.length : Int) := by omega
    have HEE : Hid (endE o G = Zero) := by show _ = _; unfold endE; rw [if_neg ho]
    have HH := Lib.hid ((Has.nil W).add #[.pointer none, .pointer none, .pointer none] 28)
    have d0 := HH.out.cell (b := W.heap.size) (c := #[.pointer none, .pointer none, .pointer none]) (T := 28) (by simp) 0
    clear h ho hgl
    go_enter Tryz.func49, Tryz.ntmps49
    go_wp2_with fail
    refine bodyPost_ret (v := .tuple #[.int .i64 o.length, .agg #[.pointer none, .pointer none, .pointer none]]) (by simp [results, Tryz.results49, go_sem]) rfl ?_
    refine ⟨none, none, none, rfl, ?_, (Below.refl _ _).alloc (Nat.le_refl _) _⟩
    show IsE _ _ _
    rw [HEE.out]
    exact ⟨none, none, none, rfl, isN_zero _, isN_zero _, isN_zero _⟩
end Sr
/- Bounds of products: plain part. -/
namespace Sr

theorem p2 (n : Nat) : 0 < 2 ^ n := Nat.two_pow_pos n
theorem mul_p2 {a p q : Nat} (h : p ≤ q) : a * 2 ^ p ≤ a * 2 ^ q := Nat.mul_le_mul_left _ (Nat.pow_le_pow_right (by omega) h)
theorem le_p2 (a p : Nat) : a ≤ a * 2 ^ p := Nat.le_mul_of_pos_right _ (p2 p)
theorem shx_abs {x k : Int} (h : 0 ≤ k) : (shx x k).natAbs = x.natAbs * 2 ^ k.toNat := by
  obtain ⟨n, rfl⟩ : ∃ n : Nat, k = (n : Int) := ⟨k.toNat, by omega⟩
  rw [shx_nat, Int.natAbs_mul, Int.natAbs_pow]; rfl
theorem shx_low_abs (u : Int) : (shx u (-(lowE u : Int))).natAbs * 2 ^ lowE u = u.natAbs := by
  have h := shx_neg (low_ok (u := u))
  conv => rhs; rw [← h]
  rw [Int.natAbs_mul, Int.natAbs_pow]; rfl
theorem low_lt {u : Int} (h : u ≠ 0) : 2 ^ lowE u ≤ u.natAbs := by
  have h1 := shx_low_abs u
  have h2 : 0 < (shx u (-(lowE u : Int))).natAbs := by
    have := shx_odd h; omega
  calc 2 ^ lowE u = 1 * 2 ^ lowE u := by omega
    _ ≤ _ := Nat.mul_le_mul_right _ h2
    _ = _ := h1
/-- a bound of numbers that are allowed -/
def B289 : Nat := 2 ^ 240
theorem b289 (n : Nat) (h : n ≤ 2 ^ 200) : n ≤ B289 := Nat.le_trans h (Nat.pow_le_pow_right (by omega) (by omega))
theorem allowed_B {x : Int} (h : x.natAbs ≤ B289) : allowed x := allowed_small h
theorem allowed_300 {x : Int} (h : x.natAbs ≤ 100000) : allowed x := allowed_small (Nat.le_trans h (by decide))
theorem low_300 {u : Int} (h : u.natAbs ≤ B289) : lowE u ≤ 240 := by
  by_cases hu : u = 0
  · subst hu; unfold lowE; simp [exps, form_zero]
  · have h1 := Nat.le_trans (low_lt hu) h
    exact (Nat.pow_le_pow_iff_right (by omega)).1 h1
theorem plainOK_of {u v : Int} (hu : u.natAbs ≤ B289) (hv : v.natAbs ≤ 50000) : plainOK u v := by
  refine .inr ⟨allowed_B ?_, allowed_300 ?_⟩
  · have h1 := shx_low_abs u
    have h2 := le_p2 (shx u (-(lowE u : Int))).natAbs (lowE u)
    omega
  · have := low_300 hu; omega

/-- a product of at most k letters -/
structure Lat (k : Nat) (x : E3) : Prop where
  pl : Plain x
  m : x.m.natAbs ≤ k
  v : x.u ≠ 0 → -(k : Int) ≤ x.v
  t : x.u.natAbs * 2 ^ (x.v + k).toNat ≤ k * 4 ^ k
theorem four_pow (k : Nat) : 4 ^ k = 2 ^ (2 * k) := by rw [Nat.pow_mul]
theorem k_le (k : Nat) : k ≤ 2 ^ k := Nat.le_of_lt Nat.lt_two_pow_self
theorem Lat.vhi {k : Nat} {x : E3} (h : Lat k x) : x.v ≤ 2 * k := by
  by_cases hu : x.u = 0
  · rcases h.pl with ⟨_, h1⟩ | h1
    · omega
    · omega
  · have h1 := h.t
    have h2 := h.v hu
    have h3 : 2 ^ (x.v + k).toNat ≤ x.u.natAbs * 2 ^ (x.v + k).toNat := by
      calc 2 ^ (x.v + k).toNat = 1 * 2 ^ (x.v + k).toNat := by omega
        _ ≤ _ := Nat.mul_le_mul_right _ (by omega)
    have h4 : k * 4 ^ k ≤ 2 ^ (3 * k) := by
      rw [four_pow, show 3 * k = k + 2 * k by omega, Nat.pow_add]
      exact Nat.mul_le_mul_right _ (k_le k)
    have h5 := (Nat.pow_le_pow_iff_right (a := 2) (by omega)).1 (Nat.le_trans h3 (Nat.le_trans h1 h4))
    omega
theorem Lat.vlo {k : Nat} {x : E3} (h : Lat k x) : -(k : Int) ≤ x.v := by
  by_cases hu : x.u = 0
  · rcases h.pl with ⟨_, h1⟩ | h1
    · omega
    · omega
  · exact h.v hu
theorem Lat.u {k : Nat} {x : E3} (h : Lat k x) : x.u.natAbs ≤ k * 4 ^ k := Nat.le_trans (le_p2 _ _) h.t
theorem lat_plain {k : Nat} {u v m : Int} (hm : m.natAbs ≤ k) (hv : u ≠ 0 → -(k : Int) ≤ v) (ht : u ≠ 0 → u.natAbs * 2 ^ (v + k).toNat ≤ k * 4 ^ k) : Lat k (plainE u v m) := by
  refine ⟨plainE_plain _ _ _, by rw [plainE_m]; exact hm, ?_, ?_⟩
  · unfold plainE; split
    · intro h; exact absurd rfl h
    · rename_i hu; intro _; have := hv hu; show -(k : Int) ≤ v + lowE u; omega
  · unfold plainE; split
    · simp
    · rename_i hu
      show (shx u (-(lowE u : Int))).natAbs * 2 ^ (v + lowE u + k).toNat ≤ _
      have h1 := shx_low_abs u
      have h2 := hv hu
      have e : (v + lowE u + k).toNat = lowE u + (v + k).toNat := by omega
      rw [e, Nat.pow_add, ← Nat.mul_assoc, h1]
      exact ht hu
theorem kk {k j : Nat} : k * 4 ^ k * 2 ^ j ≤ k * 4 ^ (k + j) := by
  rw [four_pow, four_pow, Nat.mul_assoc, ← Nat.pow_add]
  exact Nat.mul_le_mul_left _ (Nat.pow_le_pow_right (by omega) (by omega))
theorem jj {k j : Nat} : j * 4 ^ j * 2 ^ (2 * k) ≤ j * 4 ^ (k + j) := by
  rw [four_pow, four_pow, Nat.mul_assoc, ← Nat.pow_add]
  exact Nat.mul_le_mul_left _ (Nat.pow_le_pow_right (by omega) (by omega))
theorem big_le {k j : Nat} (h : k + j ≤ 110) : (k + j) * 4 ^ (k + j) ≤ B289 := by
  refine Nat.le_trans (Nat.mul_le_mul h (Nat.pow_le_pow_right (by omega) h)) (by unfold B289; decide)
set_option maxHeartbeats 2000000 in
theorem lat_times {k j : Nat} {x y : E3} (hx : Lat k x) (hy : Lat j y) (hkj : k + j ≤ 110) : TimesOK x y ∧ Lat (k + j) (timesE x y) := by
  have x1 := hx.m
  have y1 := hy.m
  have x2 := hx.vlo
  have y2 := hy.vlo
  have x3 := hx.vhi
  have y3 := hy.vhi
  have xt := hx.t
  have yt := hy.t
  have hbig := big_le hkj
  have hsum : k * 4 ^ (k + j) + j * 4 ^ (k + j) = (k + j) * 4 ^ (k + j) := (Nat.add_mul _ _ _).symm
  have kk1 := kk (k := k) (j := j)
  have jj1 := jj (k := k) (j := j)
  -- the two shifted numbers
  have ax : ∀ s : Int, 0 ≤ s → s ≤ x.v + k + j → x.u.natAbs * 2 ^ s.toNat ≤ k * 4 ^ (k + j) := fun s h0 h1 => by
    refine Nat.le_trans (mul_p2 (q := (x.v + k).toNat + j) (by omega)) ?_
    rw [Nat.pow_add, ← Nat.mul_assoc]
    exact Nat.le_trans (Nat.mul_le_mul_right _ xt) kk1
  have ay : ∀ s : Int, 0 ≤ s → s ≤ y.v + j + 2 * k → y.u.natAbs * 2 ^ s.toNat ≤ j * 4 ^ (k + j) := fun s h0 h1 => by
    refine Nat.le_trans (mul_p2 (q := (y.v + j).toNat + 2 * k) (by omega)) ?_
    rw [Nat.pow_add, ← Nat.mul_assoc]
    exact Nat.le_trans (Nat.mul_le_mul_right _ yt) jj1
  have ax0 := ax 0 (by omega) (by omega)
  have ay0 := ay 0 (by omega) (by omega)
  simp only [Int.toNat_zero, Nat.pow_zero, Nat.mul_one] at ax0 ay0
  generalize hP : k * 4 ^ (k + j) = P at *
  generalize hQ : j * 4 ^ (k + j) = Q at *
  have hr := rr_le x y
  have hrlo : -((k + j : Nat) : Int) ≤ rr x y := by unfold rr; split <;> omega
  have hrhi : (rr x y).natAbs ≤ 1000 := by unfold rr; split <;> omega
  have sx := ax (x.v - rr x y) hr.1 (by omega)
  have sy := ay (y.v + x.m - rr x y) hr.2 (by omega)
  rw [← shx_abs hr.1] at sx
  rw [← shx_abs hr.2] at sy
  have sxy : (shx x.u (x.v - rr x y) + shx y.u (y.v + x.m - rr x y)).natAbs ≤ B289 := by omega
  have al : ∀ z : Int, z.natAbs ≤ B289 → allowed z := fun z hz => allowed_B hz
  refine ⟨⟨allowed_300 (by omega), allowed_300 (by omega), fun _ => plainOK_of (by omega) (by omega), fun _ _ => plainOK_of (by omega) (by omega), fun _ _ => ⟨allowed_300 (by omega), allowed_300 (by omega), al _ (by omega), al _ (by omega), al _ sxy, plainOK_of sxy (by omega)⟩⟩, ?_⟩
  unfold timesE
  split
  · refine lat_plain (by omega) (fun _ => by omega) fun _ => ?_
    have := ay (y.v + x.m + (k + j : Nat)) (by omega) (by omega)
    rw [← hsum]; omega
  · split
    · refine lat_plain (by omega) (fun _ => by omega) fun _ => ?_
      have := ax (x.v + (k + j : Nat)) (by omega) (by omega)
      rw [← hsum]; omega
    · refine lat_plain (by omega) (fun _ => by omega) fun _ => ?_
      have b1 := ax (x.v + (k + j : Nat)) (by omega) (by omega)
      have b2 := ay (y.v + x.m + (k + j : Nat)) (by omega) (by omega)
      have e1 : (x.v + (k + j : Nat)).toNat = (x.v - rr x y).toNat + (rr x y + (k + j : Nat)).toNat := by omega
      have e2 : (y.v + x.m + (k + j : Nat)).toNat = (y.v + x.m - rr x y).toNat + (rr x y + (k + j : Nat)).toNat := by omega
      rw [e1, Nat.pow_add, ← Nat.mul_assoc, ← shx_abs hr.1] at b1
      rw [e2, Nat.pow_add, ← Nat.mul_assoc, ← shx_abs hr.2] at b2
      have b3 : (shx x.u (x.v - rr x y) + shx y.u (y.v + x.m - rr x y)).natAbs ≤ (shx x.u (x.v - rr x y)).natAbs + (shx y.u (y.v + x.m - rr x y)).natAbs := Int.natAbs_add_le _ _
      have b4 := Nat.mul_le_mul_right (2 ^ (rr x y + (k + j : Nat)).toNat) b3
      rw [Nat.add_mul] at b4
      rw [← hsum]; omega
theorem lat_zero : Lat 0 ⟨0, 0, 0⟩ := ⟨.inl ⟨rfl, rfl⟩, by simp, fun h => absurd rfl h, by simp⟩
theorem lat_a (s : Int) (h : s = 1 ∨ s = -1) : Lat 1 ⟨s, 0, 0⟩ := by
  rcases h with rfl | rfl
  · exact ⟨.inr rfl, by simp, fun _ => by simp, by decide⟩
  · exact ⟨.inr rfl, by simp, fun _ => by simp, by decide⟩
theorem lat_t (s : Int) (h : s = 1 ∨ s = -1) : Lat 1 ⟨0, 0, s⟩ := by
  rcases h with rfl | rfl
  · exact ⟨.inl ⟨rfl, rfl⟩, by simp, fun h => absurd rfl h, by simp⟩
  · exact ⟨.inl ⟨rfl, rfl⟩, by simp, fun h => absurd rfl h, by simp⟩

/-- powers of a -/
def powA (n : Int) : E3 := plainE n 0 0
theorem powA_tq (n : Int) : tq (powA n) = (n : Rat) := by unfold powA; rw [plainE_tq, tp_zero, Rat.mul_one]
theorem powA_m (n : Int) : (powA n).m = 0 := plainE_m _ _ _
theorem powA_zero : powA 0 = ⟨0, 0, 0⟩ := rfl
theorem powA_add (n s : Int) (_h : s = 1 ∨ s = -1) : timesE (powA n) ⟨s, 0, 0⟩ = powA (n + s) := by
  refine plain_ext (timesE_plain _ _) (plainE_plain _ _ _) ?_ ?_
  · rw [timesE_m, powA_m, powA_m]; rfl
  · rw [timesE_tq, powA_tq, powA_tq, powA_m, tp_zero, Rat.intCast_add]
    simp [tq, tp_zero]
theorem powA_ok {n : Int} (hn : n.natAbs ≤ 1000) (s : Int) (h : s = 1 ∨ s = -1) : TimesOK (powA n) ⟨s, 0, 0⟩ := by
  have hm := powA_m n
  have hlow : lowE n ≤ 240 := low_300 (b289 _ (Nat.le_trans hn (by decide)))
  have hu : (powA n).u.natAbs ≤ 1000 := by
    unfold powA plainE; split
    · simp
    · show (shx n (-(lowE n : Int))).natAbs ≤ 1000
      have h1 := shx_low_abs n
      have h2 := le_p2 (shx n (-(lowE n : Int))).natAbs (lowE n)
      omega
  have hv : 0 ≤ (powA n).v ∧ (powA n).v ≤ 240 := by
    unfold powA plainE; split
    · simp
    · show 0 ≤ 0 + (lowE n : Int) ∧ 0 + (lowE n : Int) ≤ 240; omega
  have big : ∀ {z : Int}, z.natAbs ≤ 2000 → z.natAbs ≤ B289 := fun h => b289 _ (Nat.le_trans h (by decide))
  have hs : s.natAbs = 1 := by rcases h with rfl | rfl <;> rfl
  refine ⟨allowed_300 (by rw [hm]; simp), allowed_300 (by rw [hm]; simp), fun _ => plainOK_of (big (by show s.natAbs ≤ 2000; omega)) (by show (0 + (powA n).m).natAbs ≤ _; rw [hm]; simp), fun _ _ => plainOK_of (big (by omega)) (by omega), fun hu0 _ => ?_⟩
  have hrr : rr (powA n) ⟨s, 0, 0⟩ = 0 := by
    unfold rr
    rw [if_neg (by show ¬ _ < 0 + (powA n).m; rw [hm]; omega)]
    show 0 + (powA n).m = 0; rw [hm]; rfl
  have e1 : shx (powA n).u ((powA n).v - 0) = n := by
    unfold powA plainE
    split
    · rename_i h0; exact absurd (by unfold powA plainE; rw [if_pos h0]) hu0
    · show shx (shx n (-(lowE n : Int))) (0 + (lowE n : Int) - 0) = n
      have : (0 + (lowE n : Int) - 0) = -(-(lowE n : Int)) := by omega
      rw [this]; exact shx_back low_ok
  have e2 : shx s ((0 : Int) + (powA n).m - 0) = s := by
    rw [hm]; show shx s ((0 : Nat) : Int) = s; rw [shx_nat]; simp
  show allowed ((powA n).v - rr (powA n) ⟨s, 0, 0⟩) ∧ allowed (0 + (powA n).m - rr (powA n) ⟨s, 0, 0⟩) ∧ allowed (shx (powA n).u ((powA n).v - rr (powA n) ⟨s, 0, 0⟩)) ∧ allowed (shx s (0 + (powA n).m - rr (powA n) ⟨s, 0, 0⟩)) ∧ allowed (shx (powA n).u ((powA n).v - rr (powA n) ⟨s, 0, 0⟩) + shx s (0 + (powA n).m - rr (powA n) ⟨s, 0, 0⟩)) ∧ plainOK (shx (powA n).u ((powA n).v - rr (powA n) ⟨s, 0, 0⟩) + shx s (0 + (powA n).m - rr (powA n) ⟨s, 0, 0⟩)) (rr (powA n) ⟨s, 0, 0⟩)
  rw [hrr, e1, e2]
  exact ⟨allowed_300 (by omega), allowed_300 (by rw [hm]; simp), allowed_300 (by omega), allowed_300 (by omega), allowed_300 (by omega), plainOK_of (big (by omega)) (by simp)⟩
end Sr
/- A reading, when a letter and an element are put behind. -/
namespace Sr
open Go Go.Proofs Go.RowKit Go.Maps Go.WideMaps

theorem Gb.keep {w w' : World} {v v' : Value} {e : TypeId} {s n : Nat} {xs : List Value} (hg : Gb w v w' v') (hr : w.ownsRow 0 e s v n xs) {b : Nat} {c : Array Value} {T : TypeId} {z : Nat × Nat} (hb : w.heap[b]? = some (.cells c T z)) (hT : T ≠ e ∨ z ≠ (0, 0)) : w'.heap[b]? = w.heap[b]? :=
  hg.fr.block b (Array.getElem?_eq_some_iff.1 hb).1 fun hm => by
    obtain ⟨c', hc'⟩ := row_type hr (b := b) (by simpa using hm)
    rw [hb] at hc'
    cases hc'
    rcases hT with h | h <;> exact h rfl

theorem Rd.pushO {B : Nat} {w w' : World} {p : Nat} {ov gv v' : Value} {l : List Q3} {o : List UInt8} {G : List E3} {c : UInt8} (h : Rd B w p ov gv l o G) (hB : B ≤ w.heap.size) (hg : Gb w ov w' v') (hr : BRow w' v' (o ++ [c])) :
    Rd B (w'.setCell ⟨p, 0, none⟩ v') p v' gv l (o ++ [c]) G := by
  have hk : ∀ (b : Nat) (c : Array Value) (T : TypeId), w.heap[b]? = some (.cells c T (0, 0)) → T ≠ 5 → w'.heap[b]? = w.heap[b]? := fun b c T hb hT => hg.keep h.out hb (.inl hT)
  have ho1 : w'.heap[p]? = some (.cells #[ov, gv] 152 (0, 0)) := (hk _ _ _ h.obj (by decide)).trans h.obj
  have hp2 : ∀ b, b ≠ p → (w'.setCell ⟨p, 0, none⟩ v').heap[b]? = w'.heap[b]? := fun b hb => RowKit.Below.heap_setCell _ _ _ _ hb
  have hke : ∀ {V : Value} {z : E3}, IsE w V z → IsE (w'.setCell ⟨p, 0, none⟩ v') V z := fun hz => hz.kept fun b c T hb hT => by
    have hT2 : T ≠ 5 ∧ T ≠ 152 := by rcases hT with h | h | h <;> subst h <;> decide
    rw [hp2 b (type_ne ((hk _ _ _ hb hT2.1).trans hb) ho1 hT2.2)]
    exact hk _ _ _ hb hT2.1
  exact {
    obj := heap_setCell_same w' p 0 _ 152 _ ho1
    out := rown_kept hr fun b cur hb => hp2 b (type_ne hb ho1 (by decide))
    row := rown_kept h.row fun b cur hb => by rw [hp2 b (type_ne ((hk _ _ _ hb (by decide)).trans hb) ho1 (by decide))]; exact hk _ _ _ hb (by decide)
    len := h.len
    els := fun k u z hu hz => hke (h.els k u z hu hz)
    hp := h.hp, hg := h.hg
    ho := fun b hb => by
      rcases hg.own with e | e
      · exact h.ho b (e ▸ hb)
      · have := e b hb; omega }

theorem Rd.pushG {B : Nat} {w w' : World} {p : Nat} {ov gv v' : Value} {l : List Q3} {o : List UInt8} {G : List E3} (h : Rd B w p ov gv l o G) (hB : B ≤ w.heap.size) (hg : Gb w gv w' v') (hr : w'.ownsRow 0 28 3 v' (l.length + 1) (qcl l ++ [.pointer none, .pointer none, .pointer none])) :
    Rd B (w'.setCell ⟨p, 1, none⟩ v') p ov v' (l ++ [⟨none, none, none⟩]) o (G ++ [⟨0, 0, 0⟩]) := by
  have hk : ∀ (b : Nat) (c : Array Value) (T : TypeId), w.heap[b]? = some (.cells c T (0, 0)) → T ≠ 28 → w'.heap[b]? = w.heap[b]? := fun b c T hb hT => hg.keep h.row hb (.inl hT)
  have ho1 : w'.heap[p]? = some (.cells #[ov, gv] 152 (0, 0)) := (hk _ _ _ h.obj (by decide)).trans h.obj
  have hp2 : ∀ b, b ≠ p → (w'.setCell ⟨p, 1, none⟩ v').heap[b]? = w'.heap[b]? := fun b hb => RowKit.Below.heap_setCell _ _ _ _ hb
  have hke : ∀ {V : Value} {z : E3}, IsE w V z → IsE (w'.setCell ⟨p, 1, none⟩ v') V z := fun hz => hz.kept fun b c T hb hT => by
    have hT2 : T ≠ 28 ∧ T ≠ 152 := by rcases hT with h | h | h <;> subst h <;> decide
    rw [hp2 b (type_ne ((hk _ _ _ hb hT2.1).trans hb) ho1 hT2.2)]
    exact hk _ _ _ hb hT2.1
  have hl := h.len
  have e1 : qcl l ++ [.pointer none, .pointer none, .pointer none] = qcl (l ++ [⟨none, none, none⟩]) := by rw [qcl_append]; rfl
  rw [e1] at hr
  exact {
    obj := heap_setCell_same w' p 1 _ 152 _ ho1
    out := rown_kept h.out fun b cur hb => by rw [hp2 b (type_ne ((hk _ _ _ hb (by decide)).trans hb) ho1 (by decide))]; exact hk _ _ _ hb (by decide)
    row := by
      rw [List.length_append]
      exact rown_kept hr fun b cur hb => hp2 b (type_ne hb ho1 (by decide))
    len := by simp [hl]
    els := fun k u z hu hz => by
      rcases Nat.lt_or_ge k l.length with hlt | hge
      · rw [List.getElem?_append_left hlt] at hu
        rw [List.getElem?_append_left (by omega)] at hz
        exact hke (h.els k u z hu hz)
      · rw [List.getElem?_append_right hge] at hu
        rw [List.getElem?_append_right (by omega)] at hz
        have e1 : k - l.length = 0 := by have := (List.getElem?_eq_some_iff.1 hu).1; simp at this; omega
        have e2 : k - G.length = 0 := by omega
        rw [e1] at hu; rw [e2] at hz
        simp at hu hz
        subst hu hz
        exact ⟨none, none, none, rfl, isN_zero _, isN_zero _, isN_zero _⟩
    hp := h.hp, ho := h.ho
    hg := fun b hb => by
      rcases hg.own with e | e
      · exact h.hg b (e ▸ hb)
      · have := e b hb; omega }

section
variable {ops : Array Oper} {rest : List Oper} {o : Oper} {a : Act} {Q : Exit → Act → World → Prop} {W : World}
theorem app_E1 (hgd : o.guard = none) (s x : Operand) (ho : o.op = .call { callee := .builtin .append, args := #[s, x], argTypes := #[150, 150] })
    (v : Value) (n : Nat) (l : List Value) (hs : a.eval s = v) (hown : W.ownsRow 0 28 3 v n l) (B : Nat) (hx : a.eval x = .slice (some ⟨B, 0, none⟩) 1 1)
    (hB : W.heap[B]? = some (.cells #[.pointer none, .pointer none, .pointer none] 28 (0, 0))) (hb : n + 1 ≤ 1099511627776)
    (h : ∀ v' w', w'.ownsRow 0 28 3 v' (n + 1) (l ++ [.pointer none, .pointer none, .pointer none]) → W.grownBy w' v.ownBlock → v' ≠ .slice none 0 0 → (v'.ownBlock = v.ownBlock ∨ v'.ownBlock = some W.heap.size) → wpList Tryz.prog ops Q rest (a.put o.dst v') w') :
    wpList Tryz.prog ops Q (o :: rest) a W := by
  obtain ⟨ii, hi, hz0, hz1, hz2⟩ := info_parts info28
  refine wpList_append_own_at _ hgd s x 150 ho 0 28 ii _ 3 24 un150 hi hz0 hz1 hz2 rfl (by decide) v n _ hs hown ⟨B, 0, none⟩ 1 1 [.pointer none, .pointer none, .pointer none] hx rfl (fun j u hu => World.news_of_block hB j u hu) (by simp; rfl) (by simp only [maxLen]; omega) (by omega) (Nat.zero_le _) ?_
  intro v' w' k1 k2 k3 k4
  exact h v' w' k1 k2 (fun e => by have := (k3.1 e).2; omega) k4
end

/-- what has been read: all elements are powers of a -/
def AllA (k : Nat) (G : List E3) : Prop := ∀ (i : Nat) (x : E3), G[i]? = some x → ∃ n : Int, x = powA n ∧ n.natAbs ≤ k
theorem AllA.zero : AllA 0 [Zero] := fun i x h => by
  rcases i with _ | i
  · simp at h; subst h; exact ⟨0, rfl, by simp⟩
  · simp at h
theorem AllA.set {k : Nat} {G : List E3} (h : AllA k G) {i : Nat} {x : E3} {s : Int} (hs : s = 1 ∨ s = -1) (hi : G[i]? = some x) : AllA (k + 1) (G.set i (timesE x ⟨s, 0, 0⟩)) := fun j y hy => by
  rw [List.getElem?_set] at hy
  split at hy
  · split at hy
    · cases hy
      obtain ⟨n, rfl, hn⟩ := h i x hi
      exact ⟨n + s, powA_add n s hs, by rcases hs with rfl | rfl <;> omega⟩
    · cases hy
  · obtain ⟨n, h1, h2⟩ := h j y hy
    exact ⟨n, h1, by omega⟩
theorem AllA.push {k : Nat} {G : List E3} (h : AllA k G) : AllA (k + 1) (G ++ [Zero]) := fun j y hy => by
  rcases Nat.lt_or_ge j G.length with hlt | hge
  · rw [List.getElem?_append_left hlt] at hy
    obtain ⟨n, h1, h2⟩ := h j y hy
    exact ⟨n, h1, by omega⟩
  · rw [List.getElem?_append_right hge] at hy
    have e2 : j - G.length = 0 := by have := (List.getElem?_eq_some_iff.1 hy).1; simp at this; omega
    rw [e2] at hy; simp at hy; subst hy
    exact ⟨0, rfl, by simp⟩
end Sr
/- read. -/
namespace Sr
open Go Go.Proofs Go.RowKit Go.Maps Go.WideMaps

theorem foldl_len : ∀ (l : List UInt8) (st : List UInt8 × List E3), st.2.length = st.1.length + 1 → (l.foldl rdStep st).2.length = (l.foldl rdStep st).1.length + 1
  | [], _, h => h
  | c :: l, st, h => foldl_len l (rdStep st c) (rdStep_len h)
theorem foldl_out : ∀ (l : List UInt8) (st : List UInt8 × List E3), (l.foldl rdStep st).1.length ≤ st.1.length + l.length
  | [], _ => by simp
  | c :: l, st => by
    have h1 := foldl_out l (rdStep st c)
    have h2 := rdStep_out (s := st) (c := c)
    simp only [List.foldl_cons, List.length_cons]; omega
theorem readE_len (l : List UInt8) : (readE l).2.length = (readE l).1.length + 1 := foldl_len l _ rfl
theorem readE_out (l : List UInt8) : (readE l).1.length ≤ l.length := by have := foldl_out l ([], [Zero]); simpa [readE] using this
theorem bytesRow_get {s : ByteArray} {cap k : Nat} {c : UInt8} (h : s.data.toList[k]? = some c) : (bytesRow s cap)[k]? = some (.int .u8 (c.toNat : Nat)) := by
  have hlt := (List.getElem?_eq_some_iff.1 h).1
  unfold bytesRow
  rw [Array.getElem?_append_left (by simpa using hlt)]
  simp only [Array.getElem?_map]
  rw [← Array.getElem?_toList, h]; rfl

/-- how read ends -/
def ReadQ (l : List UInt8) (W : World) (e : Ending) (W' : World) : Prop := ∃ p ov gv q, e = .returned (.pointer (some ⟨p, 0, none⟩)) ∧ Hid (Rd W.heap.size W' p ov gv q (readE l).1 (readE l).2) ∧ Hid (Below W.heap.size W W')

set_option maxHeartbeats 8000000 in
set_option maxRecDepth 100000 in
theorem read_calls {W : World} (s : ByteArray) (hs : s.size ≤ 1000) : Calls Tryz.prog 47 #[.string s] W (ReadQ s.data.toList W) := by
  have u5 : Tryz.prog.underlying 5 = some (.int .u8) := by kernel_rfl
  have u9 : Tryz.prog.underlying 9 = some .string := by kernel_rfl
  have hmk : ∀ w, (Instr.makeSlice 150 (.int .i64 1) (.int .i64 1)).run Tryz.prog w = .ok (.slice (some ⟨w.heap.size, 0, none⟩) 1 1) (w.alloc (.cells #[.pointer none, .pointer none, .pointer none] 28)) := fun w => by kernel_rfl
  have hcv := fun (w : World) => run_bytes_of_string (P := Tryz.prog) w 9 40 5 s u9 un40 u5
  go_enter Tryz.func47, Tryz.ntmps47
  go_wp2_with fail
  generalize grownCap _ _ _ _ = cap
  generalize hnf : (bytesRow s cap).size = nf
  obtain ⟨p, hpe⟩ : ∃ p, p = W.heap.size + 1 := ⟨_, rfl⟩
  obtain ⟨w0, hw0⟩ : ∃ w0, w0 = (((W.alloc (.cells #[.pointer none, .pointer none, .pointer none] 28)).alloc (.cells #[.slice none 0 0, .slice (some ⟨W.heap.size, 0, none⟩) 1 1] 152)).alloc (.cells (bytesRow s cap) 5 (nf, nf + 1))).drew := ⟨_, rfl⟩
  have HX0 : Hid (w0.heap[W.heap.size]? = some (.cells #[.pointer none, .pointer none, .pointer none] 28 (0, 0))) := by
    show _ = _; rw [hw0]; show ((W.alloc _).alloc _ |>.alloc _).heap[_]? = _
    rw [heap_old _ _ (by simp <;> omega), heap_old _ _ (by simp)]; exact heap_last W _
  have HX1 : Hid (w0.heap[p]? = some (.cells #[.slice none 0 0, .slice (some ⟨W.heap.size, 0, none⟩) 1 1] 152 (0, 0))) := by
    show _ = _; rw [hw0]; show ((W.alloc _).alloc _ |>.alloc _).heap[_]? = _
    rw [heap_old _ _ (by simp <;> omega), hpe]; exact heap_at (by simp)
  have HX2 : Hid (w0.heap[p + 1]? = some (.cells (bytesRow s cap) 5 (nf, nf + 1))) := by
    show _ = _; rw [hw0]; show ((W.alloc _).alloc _ |>.alloc _).heap[_]? = _
    rw [hpe]; exact heap_at (by simp)
  have HBW0 : Hid (Below W.heap.size W w0) := by
    show Below _ _ _; rw [hw0]
    exact ((((Below.refl _ _).alloc (Nat.le_refl _) _).alloc (by simp) _).alloc (by simp; omega) _).drew
  have HRD0 : Hid (Rd W.heap.size w0 p (.slice none 0 0) (.slice (some ⟨W.heap.size, 0, none⟩) 1 1) [⟨none, none, none⟩] [] [Zero]) := {
    obj := HX1.out
    out := ⟨rfl, .inl ⟨rfl, rfl⟩⟩
    row := ⟨rfl, .inr ⟨W.heap.size, 1, _, rfl, Nat.zero_le _, HX0.out, Nat.le_refl _, by decide, rfl, rfl⟩⟩
    len := rfl
    els := fun i t x h1 h2 => by
      rcases i with _ | i
      · simp at h1 h2; subst h1 h2; exact ⟨none, none, none, rfl, isN_zero _, isN_zero _, isN_zero _⟩
      · simp at h1
    hp := by omega
    ho := fun b e => by cases e
    hg := fun b e => by cases e; exact Nat.le_refl _ }
  rw [← hpe, ← hw0]
  obtain ⟨cb, hcb⟩ : ∃ cb, cb = p + 1 := ⟨_, rfl⟩
  rw [← hcb] at HX2 ⊢
  have HPW : Hid (W.heap.size ≤ p) := by show _ ≤ _; omega
  clear hcb hw0 hpe HX0 HX1 hmk hcv hnf
  go_loopg [13] s.size (fun g1 kv wr => ∃ (k : Nat) (o' : List UInt8) (G' : List E3) (ov gv : Value) (l : List Q3), kv = .int .i64 k ∧ k ≤ s.size ∧ s.size - k ≤ g1 ∧ Hid ((s.data.toList.take k).foldl rdStep ([], [Zero]) = (o', G')) ∧ Hid (AllA k G') ∧ Hid (Rd W.heap.size wr p ov gv l o' G') ∧ Hid (Below W.heap.size W wr) ∧ Hid (wr.heap[cb]? = some (.cells (bytesRow s cap) 5 (nf, nf + 1))))
  case atStart => exact ⟨0, [], [Zero], _, _, _, rfl, by omega, by omega, rfl, AllA.zero, HRD0, HBW0, HX2⟩
  case round =>
    clear HRD0 HBW0 HX2
    obtain ⟨k, o', G', ov, gv, l, rfl, hks, hg, HSt, HAA, HR, HBw, HCb⟩ := hrel
    by_cases hk : k < s.size
    · have hkz : (k : Int) < (s.size : Int) := by omega
      have hk0 : (0 : Int) ≤ (k : Int) := Int.natCast_nonneg k
      have hkw : IntKind.i64.wrap ((k : Int) + 1) = (k : Int) + 1 := IntWalk.i64_in _ (by omega)
      obtain ⟨c, hc⟩ : ∃ c, s.data.toList[k]? = some c := ⟨_, List.getElem?_eq_getElem (by simpa using hk)⟩
      have bc : wr.cell? ⟨cb, k, none⟩ = some (.int .u8 (c.toNat : Nat)) := by rw [cell_of HCb.out]; exact bytesRow_get hc
      have HT1 : Hid ((s.data.toList.take (k + 1)).foldl rdStep ([], [Zero]) = rdStep ((s.data.toList.take k).foldl rdStep ([], [Zero])) c) := by
        show _ = _; rw [List.take_add_one, hc, Option.toList_some, List.foldl_append]; rfl
      have hlen : G'.length = o'.length + 1 := by
        have := foldl_len (s.data.toList.take k) ([], [Zero]) rfl
        rw [HSt.out] at this; exact this
      have hol : o'.length ≤ k := by
        have := foldl_out (s.data.toList.take k) ([], [Zero])
        rw [HSt.out, List.length_take] at this
        simp at this; omega
      obtain ⟨M, hM⟩ : ∃ M, M = G'.length := ⟨_, rfl⟩
      obtain ⟨x, hx⟩ : ∃ x, G'[M - 1]? = some x := ⟨_, List.getElem?_eq_getElem (by omega)⟩
      obtain ⟨gb, gc, t, rfl, ht, hie, g0, g1, g2⟩ := HR.out.el hx
      rw [← hM] at HR
      have a0 := HR.out.c0
      have a1 := HR.out.c1
      have hM1 : 1 ≤ M := by omega
      have hM2 : M ≤ 100000 := by omega
      have i1 : ((M : Int) - 1).toNat = M - 1 := by omega
      have i2 : (0 : Int) ≤ (M : Int) - 1 := by omega
      have i3 : (M : Int) - 1 < (M : Int) := by omega
      have i4 : (1 : Int) ≤ (M : Int) := by omega
      have iw : IntKind.i64.wrap ((M : Int) - 1) = (M : Int) - 1 := IntWalk.i64_in _ (by omega)
      have HX := Lib.hid hx
      have HM := Lib.hid hM
      have HEl := Lib.hid hie
      have HG0 := Lib.hid g0
      have HG1 := Lib.hid g1
      have HG2 := Lib.hid g2
      have HLl : Hid (M - 1 < l.length) := (List.getElem?_eq_some_iff.1 ht).1
      have HGB : Hid (W.heap.size ≤ gb) := HR.out.hg gb rfl
      have lg := cell_lt g0
      have HNE : Hid (cb ≠ gb) := by
        obtain ⟨cur, hcur⟩ := row_type HR.out.row (b := gb) rfl
        exact type_ne HCb.out hcur (by decide)
      have HLN : Hid (G'.length = o'.length + 1) := hlen
      clear hx hM hie ht hlen
      by_cases h97 : c = 97
      · have hb1 : (c.toNat : Int) = 97 := by rw [h97]; rfl
        have HC : Hid (c = 97) := h97
        clear h97 hc
        -- the letter 1
        have HIo := Lib.hid (fun W => Of_calls 1 (by decide) (by decide) W)
        have HTO : Hid (TimesOK x ⟨1, 0, 0⟩) := by
          show TimesOK _ _
          obtain ⟨n, rfl, hn⟩ := HAA.out (M - 1) x HX.out
          exact powA_ok (by omega) 1 (.inl rfl)
        have HK : Hid (∀ w' : World, Below wr.heap.size wr w' → w'.cell? ⟨p, 1, none⟩ = some (.slice (some ⟨gb, 0, none⟩) M gc) ∧ w'.cell? ⟨gb, (M - 1) * 3, none⟩ = some (.pointer t.1) ∧ w'.cell? ⟨gb, (M - 1) * 3 + 1, none⟩ = some (.pointer t.2.1) ∧ w'.cell? ⟨gb, (M - 1) * 3 + 2, none⟩ = some (.pointer t.2.2)) := fun w' hb => ⟨(HR.out.below hb).c1, below_cell hb HG0.out, below_cell hb HG1.out, below_cell hb HG2.out⟩
        go_wp2_with fail
        refine wp_region_late (S := fun w' => w'.cell? ⟨p, 1, none⟩ = some (.slice (some ⟨gb, 0, none⟩) M gc) ∧ w'.cell? ⟨gb, (M - 1) * 3, none⟩ = some (.pointer t.1) ∧ w'.cell? ⟨gb, (M - 1) * 3 + 1, none⟩ = some (.pointer t.2.1) ∧ w'.cell? ⟨gb, (M - 1) * 3 + 2, none⟩ = some (.pointer t.2.2)) (late := [16]) (by kernel_rfl) ?_ (fun hHeld => ?_)
        ·
          exact HK.out wr.drew ((Below.refl _ _).drew)
        refine wpAnyL_take (i := 0) (oi := { dst := some 46, op := Op.move (Operand.tmp 3), type := 98, pos := "baum.go:116", after := #[], guard := none }) (v := ?_) rfl (by kernel_rfl) (by kernel_rfl) (by kernel_rfl) (by kernel_rfl) (by kernel_rfl) (fun _ _ _ h => h) (Or.inl ⟨by rfl, ?_⟩) (by assumption) ?_
        rotate_left
        · (intro w hSw; (try dsimp only at hSw); go_simp)
          all_goals with_reducible rfl
        try simp only [Act.put, List.setIfInBounds_toArray, List.set_cons_zero, List.set_cons_succ]
        refine wpAnyL_take (i := 1) (oi := { dst := some 47, op := Op.nilCheck (Operand.tmp 46), type := 0, pos := "baum.go:116", after := #[{ on := 0, ground := Ground.data }], guard := none }) (v := ?_) rfl (by kernel_rfl) (by kernel_rfl) (by kernel_rfl) (by kernel_rfl) (by kernel_rfl) (fun _ _ _ h => h) (Or.inl ⟨by rfl, ?_⟩) (by assumption) ?_
        rotate_left
        · (intro w hSw; (try dsimp only at hSw); go_simp)
          all_goals with_reducible rfl
        try simp only [Act.put, List.setIfInBounds_toArray, List.set_cons_zero, List.set_cons_succ]
        refine wpAnyL_take (i := 2) (oi := { dst := some 48, op := Op.fieldAddr 152 (Operand.tmp 47) 1, type := 0, pos := "baum.go:116", after := #[{ on := 1, ground := Ground.data }], guard := none }) (v := ?_) rfl (by kernel_rfl) (by kernel_rfl) (by kernel_rfl) (by kernel_rfl) (by kernel_rfl) (fun _ _ _ h => h) (Or.inl ⟨by rfl, ?_⟩) (by assumption) ?_
        rotate_left
        · (intro w hSw; (try dsimp only at hSw); go_simp)
          all_goals with_reducible rfl
        try simp only [Act.put, List.setIfInBounds_toArray, List.set_cons_zero, List.set_cons_succ]
        refine wpAnyL_take (i := 3) (oi := { dst := some 49, op := Op.load 150 (Operand.tmp 48), type := 150, pos := "baum.go:116", after := #[{ on := 2, ground := Ground.data }], guard := none }) (v := ?_) rfl (by kernel_rfl) (by kernel_rfl) (by kernel_rfl) (by kernel_rfl) (by kernel_rfl) (fun _ _ _ h => h) (Or.inl ⟨by rfl, ?_⟩) (by assumption) ?_
        rotate_left
        · (intro w hSw; (try dsimp only at hSw); go_simp)
          all_goals with_reducible rfl
        try simp only [Act.put, List.setIfInBounds_toArray, List.set_cons_zero, List.set_cons_succ]
        refine wpAnyL_take (i := 4) (oi := { dst := some 50, op := Op.move (Operand.tmp 6), type := 3, pos := "baum.go:116", after := #[], guard := none }) (v := ?_) rfl (by kernel_rfl) (by kernel_rfl) (by kernel_rfl) (by kernel_rfl) (by kernel_rfl) (fun _ _ _ h => h) (Or.inl ⟨by rfl, ?_⟩) (by assumption) ?_
        rotate_left
        · (intro w hSw; (try dsimp only at hSw); go_simp)
          all_goals with_reducible rfl
        try simp only [Act.put, List.setIfInBounds_toArray, List.set_cons_zero, List.set_cons_succ]
        refine wpAnyL_take (i := 5) (oi := { dst := some 51, op := Op.move (Operand.tmp 3), type := 98, pos := "baum.go:116", after := #[], guard := none }) (v := ?_) rfl (by kernel_rfl) (by kernel_rfl) (by kernel_rfl) (by kernel_rfl) (by kernel_rfl) (fun _ _ _ h => h) (Or.inl ⟨by rfl, ?_⟩) (by assumption) ?_
        rotate_left
        · (intro w hSw; (try dsimp only at hSw); go_simp)
          all_goals with_reducible rfl
        try simp only [Act.put, List.setIfInBounds_toArray, List.set_cons_zero, List.set_cons_succ]
        refine wpAnyL_take (i := 6) (oi := { dst := some 52, op := Op.nilCheck (Operand.tmp 51), type := 0, pos := "baum.go:116", after := #[{ on := 5, ground := Ground.data }], guard := none }) (v := ?_) rfl (by kernel_rfl) (by kernel_rfl) (by kernel_rfl) (by kernel_rfl) (by kernel_rfl) (fun _ _ _ h => h) (Or.inl ⟨by rfl, ?_⟩) (by assumption) ?_
        rotate_left
        · (intro w hSw; (try dsimp only at hSw); go_simp)
          all_goals with_reducible rfl
        try simp only [Act.put, List.setIfInBounds_toArray, List.set_cons_zero, List.set_cons_succ]
        refine wpAnyL_take (i := 7) (oi := { dst := some 53, op := Op.fieldAddr 152 (Operand.tmp 52) 1, type := 0, pos := "baum.go:116", after := #[{ on := 6, ground := Ground.data }], guard := none }) (v := ?_) rfl (by kernel_rfl) (by kernel_rfl) (by kernel_rfl) (by kernel_rfl) (by kernel_rfl) (fun _ _ _ h => h) (Or.inl ⟨by rfl, ?_⟩) (by assumption) ?_
        rotate_left
        · (intro w hSw; (try dsimp only at hSw); go_simp)
          all_goals with_reducible rfl
        try simp only [Act.put, List.setIfInBounds_toArray, List.set_cons_zero, List.set_cons_succ]
        refine wpAnyL_take (i := 8) (oi := { dst := some 54, op := Op.load 150 (Operand.tmp 53), type := 150, pos := "baum.go:116", after := #[{ on := 7, ground := Ground.data }], guard := none }) (v := ?_) rfl (by kernel_rfl) (by kernel_rfl) (by kernel_rfl) (by kernel_rfl) (by kernel_rfl) (fun _ _ _ h => h) (Or.inl ⟨by rfl, ?_⟩) (by assumption) ?_
        rotate_left
        · (intro w hSw; (try dsimp only at hSw); go_simp)
          all_goals with_reducible rfl
        try simp only [Act.put, List.setIfInBounds_toArray, List.set_cons_zero, List.set_cons_succ]
        refine wpAnyL_take (i := 9) (oi := { dst := some 55, op := Op.move (Operand.tmp 6), type := 3, pos := "baum.go:116", after := #[], guard := none }) (v := ?_) rfl (by kernel_rfl) (by kernel_rfl) (by kernel_rfl) (by kernel_rfl) (by kernel_rfl) (fun _ _ _ h => h) (Or.inl ⟨by rfl, ?_⟩) (by assumption) ?_
        rotate_left
        · (intro w hSw; (try dsimp only at hSw); go_simp)
          all_goals with_reducible rfl
        try simp only [Act.put, List.setIfInBounds_toArray, List.set_cons_zero, List.set_cons_succ]
        refine wpAnyL_take (i := 10) (oi := { dst := some 56, op := Op.indexAddr 150 (Operand.tmp 54) (Operand.tmp 55), type := 0, pos := "baum.go:116", after := #[{ on := 8, ground := Ground.data }, { on := 9, ground := Ground.data }], guard := none }) (v := ?_) rfl (by kernel_rfl) (by kernel_rfl) (by kernel_rfl) (by kernel_rfl) (by kernel_rfl) (fun _ _ _ h => h) (Or.inl ⟨by rfl, ?_⟩) (by assumption) ?_
        rotate_left
        · (intro w hSw; (try dsimp only at hSw); go_simp)
          all_goals with_reducible rfl
        try simp only [Act.put, List.setIfInBounds_toArray, List.set_cons_zero, List.set_cons_succ]
        refine wpAnyL_take (i := 11) (oi := { dst := some 57, op := Op.load 28 (Operand.tmp 56), type := 28, pos := "baum.go:116", after := #[{ on := 10, ground := Ground.data }], guard := none }) (v := ?_) rfl (by kernel_rfl) (by kernel_rfl) (by kernel_rfl) (by kernel_rfl) (by kernel_rfl) (fun _ _ _ h => h) (Or.inl ⟨by rfl, ?_⟩) (by assumption) ?_
        rotate_left
        · (intro w hSw; (try dsimp only at hSw); go_simp)
          all_goals with_reducible rfl
        try simp only [Act.put, List.setIfInBounds_toArray, List.set_cons_zero, List.set_cons_succ]
        refine wpAnyL_step (i := 12) (o := { dst := some 58, op := Op.call { callee := Callee.value (Operand.func 20), args := #[Operand.const (Value.int IntKind.i64 1)], argTypes := #[2] }, type := 26, pos := "baum.go:116", after := #[], guard := none }) rfl (by kernel_rfl) (fun K hK => ?_)
        go_simp
        go_wp2_with (
          go_at_call 20
          refine (HIo.out _).mono ?_
          rintro e w5 ⟨q5, rfl, hi5, hb5⟩
          have HB5 := Lib.hid (Below.trans' (W := wr) ((Below.refl _ _).drew) hb5.out)
          have hT := times_any (W := w5) (y := ⟨1, 0, 0⟩) (V2 := .agg #[.pointer q5, .pointer none, .pointer none]) (HEl.out.below HB5.out) ⟨q5, none, none, rfl, hi5.out, isN_zero _, isN_zero _⟩
          clear hb5 hi5
          )
        refine hK.out _ _ ?_ (fun hHeld1 => ?_)
        ·
          exact HK.out w5 HB5.out
        clear hK K hHeld
        try simp only [Act.put, List.setIfInBounds_toArray, List.set_cons_zero, List.set_cons_succ]
        refine wpAnyL_take (i := 13) (oi := { dst := some 59, op := Op.build 28 #[(0, Operand.tmp 58)], type := 28, pos := "baum.go:116", after := #[{ on := 12, ground := Ground.data }], guard := none }) (v := ?_) rfl (by kernel_rfl) (by kernel_rfl) (by kernel_rfl) (by kernel_rfl) (by kernel_rfl) (fun _ _ _ h => h) (Or.inl ⟨by rfl, ?_⟩) (by assumption) ?_
        rotate_left
        · (intro w hSw; (try dsimp only at hSw); go_simp)
          all_goals with_reducible rfl
        try simp only [Act.put, List.setIfInBounds_toArray, List.set_cons_zero, List.set_cons_succ]
        refine wpAnyL_step (i := 14) (o := { dst := some 60, op := Op.call { callee := Callee.value (Operand.func 56), args := #[Operand.tmp 57, Operand.tmp 59], argTypes := #[28, 28] }, type := 28, pos := "baum.go:116", after := #[{ on := 11, ground := Ground.data }, { on := 13, ground := Ground.data }, { on := 12, ground := Ground.chain }], guard := none }) rfl (by kernel_rfl) (fun K hK => ?_)
        go_simp
        go_wp2_with (
          go_at_call 56
          refine hT.mono ?_
          rintro e w8 (⟨hok8, ru, rv, rm, rfl, hie8, hb8⟩ | ⟨hno, rfl, hb8⟩)
          rotate_left
          · exact absurd HTO.out hno
          have HB8 := Lib.hid (Below.trans' HB5.out hb8.out)
          have HIE8 := Lib.hid hie8.out
          have q0 := (HR.out.below HB8.out).freeG ((M - 1) * 3)
          have q1 := (HR.out.below HB8.out).freeG ((M - 1) * 3 + 1)
          have q2 := (HR.out.below HB8.out).freeG ((M - 1) * 3 + 2)
          have n0 := below_cell HB8.out HG0.out
          have n1 := below_cell HB8.out HG1.out
          have n2 := below_cell HB8.out HG2.out
          clear hb8 hie8 hok8 hT
          )
        refine hK.out _ _ ?_ (fun hHeld2 => ?_)
        ·
          exact HK.out w8 HB8.out
        clear hK K hHeld1
        try simp only [Act.put, List.setIfInBounds_toArray, List.set_cons_zero, List.set_cons_succ]
        refine wpAnyL_take (i := 15) (oi := { dst := some 61, op := Op.indexAddr 150 (Operand.tmp 49) (Operand.tmp 50), type := 0, pos := "baum.go:116", after := #[{ on := 3, ground := Ground.data }, { on := 4, ground := Ground.data }, { on := 0, ground := Ground.phase }, { on := 1, ground := Ground.phase }, { on := 2, ground := Ground.phase }, { on := 3, ground := Ground.phase }, { on := 4, ground := Ground.phase }, { on := 5, ground := Ground.phase }, { on := 6, ground := Ground.phase }, { on := 7, ground := Ground.phase }, { on := 8, ground := Ground.phase }, { on := 9, ground := Ground.phase }, { on := 10, ground := Ground.phase }, { on := 11, ground := Ground.phase }, { on := 12, ground := Ground.phase }, { on := 13, ground := Ground.phase }, { on := 14, ground := Ground.phase }], guard := none }) (v := ?_) rfl (by kernel_rfl) (by kernel_rfl) (by kernel_rfl) (by kernel_rfl) (by kernel_rfl) (fun _ _ _ h => h) (Or.inl ⟨by rfl, ?_⟩) (by assumption) ?_
        rotate_left
        · (intro w hSw; (try dsimp only at hSw); go_simp)
          all_goals with_reducible rfl
        try simp only [Act.put, List.setIfInBounds_toArray, List.set_cons_zero, List.set_cons_succ]
        refine wpAnyL_late (i := 16) (o := { dst := none, op := Op.store 28 (Operand.tmp 61) (Operand.tmp 60), type := 0, pos := "baum.go:116", after := #[{ on := 15, ground := Ground.data }, { on := 14, ground := Ground.data }, { on := 14, ground := Ground.chain }, { on := 0, ground := Ground.phase }, { on := 1, ground := Ground.phase }, { on := 2, ground := Ground.phase }, { on := 3, ground := Ground.phase }, { on := 4, ground := Ground.phase }, { on := 5, ground := Ground.phase }, { on := 6, ground := Ground.phase }, { on := 7, ground := Ground.phase }, { on := 8, ground := Ground.phase }, { on := 9, ground := Ground.phase }, { on := 10, ground := Ground.phase }, { on := 11, ground := Ground.phase }, { on := 12, ground := Ground.phase }, { on := 13, ground := Ground.phase }, { on := 14, ground := Ground.phase }], guard := none }) rfl (by kernel_rfl) rfl (fun K hK => ?_)
        go_simp
        refine hK.out _ _ ?_
        clear hK K
        try simp only [Act.put, List.setIfInBounds_toArray, List.set_cons_zero, List.set_cons_succ]
        refine wpAnyL_done (by kernel_rfl) ?_ _
        all_goals
          have HRS0 := Lib.hid ((HR.out.below HB8.out).put (i := M - 1) (t := ⟨ru, rv, rm⟩) HLl.out HIE8.out)
          have HBS0 : Hid (Below W.heap.size W (((w8.setCell ⟨gb, (M - 1) * 3, none⟩ (.pointer ru)).setCell ⟨gb, (M - 1) * 3 + 1, none⟩ (.pointer rv)).setCell ⟨gb, (M - 1) * 3 + 2, none⟩ (.pointer rm))) :=
            (((Below.trans' HBw.out HB8.out).setCell HGB.out _).setCell HGB.out _).setCell HGB.out _
          have HCB0 : Hid ((((w8.setCell ⟨gb, (M - 1) * 3, none⟩ (.pointer ru)).setCell ⟨gb, (M - 1) * 3 + 1, none⟩ (.pointer rv)).setCell ⟨gb, (M - 1) * 3 + 2, none⟩ (.pointer rm)).heap[cb]? = some (.cells (bytesRow s cap) 5 (nf, nf + 1))) := by
            have hne := HNE.out
            exact ((RowKit.Below.heap_setCell _ _ _ _ hne).trans ((RowKit.Below.heap_setCell _ _ _ _ hne).trans (RowKit.Below.heap_setCell _ _ _ _ hne))).trans (Below.here HB8.out HCb.out)
          obtain ⟨wS, hwS⟩ : ∃ wS, wS = ((w8.setCell ⟨gb, (M - 1) * 3, none⟩ (.pointer ru)).setCell ⟨gb, (M - 1) * 3 + 1, none⟩ (.pointer rv)).setCell ⟨gb, (M - 1) * 3 + 2, none⟩ (.pointer rm) := ⟨_, rfl⟩
          have HRS : Hid (Rd W.heap.size wS p ov (.slice (some ⟨gb, 0, none⟩) M gc) (l.set (M - 1) ⟨ru, rv, rm⟩) o' (G'.set (M - 1) (timesE x ⟨1, 0, 0⟩))) := by
            show Rd _ _ _ _ _ _ _ _; rw [hwS]; exact HRS0.out
          have HBS : Hid (Below W.heap.size W wS) := by show Below _ _ _; rw [hwS]; exact HBS0.out
          have HCB : Hid (wS.heap[cb]? = some (.cells (bytesRow s cap) 5 (nf, nf + 1))) := by show _ = _; rw [hwS]; exact HCB0.out
          rw [← hwS]
          clear hwS HRS0 HBS0 HCB0 q0 q1 q2 n0 n1 n2 g0 g1 g2 HK a0 a1 bc
          go_wp2_with fail
          go_roundg (s.size - (k + 1))
          case measure => omega
          case rel => exact ⟨k + 1, o', G'.set (M - 1) (timesE x ⟨1, 0, 0⟩), ov, _, _, by go_num, by omega, by omega, by show _ = _; rw [HT1.out, HSt.out, HC.out]; unfold rdStep; rw [if_pos rfl]; dsimp only; rw [← HM.out, getD_of HX.out], HAA.out.set (.inl rfl) HX.out, HRS, HBS, HCB⟩
      · have hb1 : decide ((c.toNat : Int) = 97) = false := by
          simp only [decide_eq_false_iff_not]; intro h; exact h97 (UInt8.toNat_inj.1 (by show _ = 97; omega))
        have hb2 : ((c.toNat : Int) == 97) = false := by simpa using hb1
        by_cases h65 : c = 65
        · have hb3 : (c.toNat : Int) = 65 := by rw [h65]; rfl
          have HC : Hid (c = 65) := h65
          clear h97 hc h65 hb1 hb2
          -- the letter (-1)
          have HIo := Lib.hid (fun W => Of_calls (-1) (by decide) (by decide) W)
          have HTO : Hid (TimesOK x ⟨(-1), 0, 0⟩) := by
            show TimesOK _ _
            obtain ⟨n, rfl, hn⟩ := HAA.out (M - 1) x HX.out
            exact powA_ok (by omega) (-1) (.inr rfl)
          have HK : Hid (∀ w' : World, Below wr.heap.size wr w' → w'.cell? ⟨p, 1, none⟩ = some (.slice (some ⟨gb, 0, none⟩) M gc) ∧ w'.cell? ⟨gb, (M - 1) * 3, none⟩ = some (.pointer t.1) ∧ w'.cell? ⟨gb, (M - 1) * 3 + 1, none⟩ = some (.pointer t.2.1) ∧ w'.cell? ⟨gb, (M - 1) * 3 + 2, none⟩ = some (.pointer t.2.2)) := fun w' hb => ⟨(HR.out.below hb).c1, below_cell hb HG0.out, below_cell hb HG1.out, below_cell hb HG2.out⟩
          go_wp2_with fail
          refine wp_region_late (S := fun w' => w'.cell? ⟨p, 1, none⟩ = some (.slice (some ⟨gb, 0, none⟩) M gc) ∧ w'.cell? ⟨gb, (M - 1) * 3, none⟩ = some (.pointer t.1) ∧ w'.cell? ⟨gb, (M - 1) * 3 + 1, none⟩ = some (.pointer t.2.1) ∧ w'.cell? ⟨gb, (M - 1) * 3 + 2, none⟩ = some (.pointer t.2.2)) (late := [16]) (by kernel_rfl) ?_ (fun hHeld => ?_)
          ·
            exact HK.out wr.drew ((Below.refl _ _).drew)
          refine wpAnyL_take (i := 0) (oi := { dst := some 64, op := Op.move (Operand.tmp 3), type := 98, pos := "baum.go:118", after := #[], guard := none }) (v := ?_) rfl (by kernel_rfl) (by kernel_rfl) (by kernel_rfl) (by kernel_rfl) (by kernel_rfl) (fun _ _ _ h => h) (Or.inl ⟨by rfl, ?_⟩) (by assumption) ?_
          rotate_left
          · (intro w hSw; (try dsimp only at hSw); go_simp)
            all_goals with_reducible rfl
          try simp only [Act.put, List.setIfInBounds_toArray, List.set_cons_zero, List.set_cons_succ]
          refine wpAnyL_take (i := 1) (oi := { dst := some 65, op := Op.nilCheck (Operand.tmp 64), type := 0, pos := "baum.go:118", after := #[{ on := 0, ground := Ground.data }], guard := none }) (v := ?_) rfl (by kernel_rfl) (by kernel_rfl) (by kernel_rfl) (by kernel_rfl) (by kernel_rfl) (fun _ _ _ h => h) (Or.inl ⟨by rfl, ?_⟩) (by assumption) ?_
          rotate_left
          · (intro w hSw; (try dsimp only at hSw); go_simp)
            all_goals with_reducible rfl
          try simp only [Act.put, List.setIfInBounds_toArray, List.set_cons_zero, List.set_cons_succ]
          refine wpAnyL_take (i := 2) (oi := { dst := some 66, op := Op.fieldAddr 152 (Operand.tmp 65) 1, type := 0, pos := "baum.go:118", after := #[{ on := 1, ground := Ground.data }], guard := none }) (v := ?_) rfl (by kernel_rfl) (by kernel_rfl) (by kernel_rfl) (by kernel_rfl) (by kernel_rfl) (fun _ _ _ h => h) (Or.inl ⟨by rfl, ?_⟩) (by assumption) ?_
          rotate_left
          · (intro w hSw; (try dsimp only at hSw); go_simp)
            all_goals with_reducible rfl
          try simp only [Act.put, List.setIfInBounds_toArray, List.set_cons_zero, List.set_cons_succ]
          refine wpAnyL_take (i := 3) (oi := { dst := some 67, op := Op.load 150 (Operand.tmp 66), type := 150, pos := "baum.go:118", after := #[{ on := 2, ground := Ground.data }], guard := none }) (v := ?_) rfl (by kernel_rfl) (by kernel_rfl) (by kernel_rfl) (by kernel_rfl) (by kernel_rfl) (fun _ _ _ h => h) (Or.inl ⟨by rfl, ?_⟩) (by assumption) ?_
          rotate_left
          · (intro w hSw; (try dsimp only at hSw); go_simp)
            all_goals with_reducible rfl
          try simp only [Act.put, List.setIfInBounds_toArray, List.set_cons_zero, List.set_cons_succ]
          refine wpAnyL_take (i := 4) (oi := { dst := some 68, op := Op.move (Operand.tmp 6), type := 3, pos := "baum.go:118", after := #[], guard := none }) (v := ?_) rfl (by kernel_rfl) (by kernel_rfl) (by kernel_rfl) (by kernel_rfl) (by kernel_rfl) (fun _ _ _ h => h) (Or.inl ⟨by rfl, ?_⟩) (by assumption) ?_
          rotate_left
          · (intro w hSw; (try dsimp only at hSw); go_simp)
            all_goals with_reducible rfl
          try simp only [Act.put, List.setIfInBounds_toArray, List.set_cons_zero, List.set_cons_succ]
          refine wpAnyL_take (i := 5) (oi := { dst := some 69, op := Op.move (Operand.tmp 3), type := 98, pos := "baum.go:118", after := #[], guard := none }) (v := ?_) rfl (by kernel_rfl) (by kernel_rfl) (by kernel_rfl) (by kernel_rfl) (by kernel_rfl) (fun _ _ _ h => h) (Or.inl ⟨by rfl, ?_⟩) (by assumption) ?_
          rotate_left
          · (intro w hSw; (try dsimp only at hSw); go_simp)
            all_goals with_reducible rfl
          try simp only [Act.put, List.setIfInBounds_toArray, List.set_cons_zero, List.set_cons_succ]
          refine wpAnyL_take (i := 6) (oi := { dst := some 70, op := Op.nilCheck (Operand.tmp 69), type := 0, pos := "baum.go:118", after := #[{ on := 5, ground := Ground.data }], guard := none }) (v := ?_) rfl (by kernel_rfl) (by kernel_rfl) (by kernel_rfl) (by kernel_rfl) (by kernel_rfl) (fun _ _ _ h => h) (Or.inl ⟨by rfl, ?_⟩) (by assumption) ?_
          rotate_left
          · (intro w hSw; (try dsimp only at hSw); go_simp)
            all_goals with_reducible rfl
          try simp only [Act.put, List.setIfInBounds_toArray, List.set_cons_zero, List.set_cons_succ]
          refine wpAnyL_take (i := 7) (oi := { dst := some 71, op := Op.fieldAddr 152 (Operand.tmp 70) 1, type := 0, pos := "baum.go:118", after := #[{ on := 6, ground := Ground.data }], guard := none }) (v := ?_) rfl (by kernel_rfl) (by kernel_rfl) (by kernel_rfl) (by kernel_rfl) (by kernel_rfl) (fun _ _ _ h => h) (Or.inl ⟨by rfl, ?_⟩) (by assumption) ?_
          rotate_left
          · (intro w hSw; (try dsimp only at hSw); go_simp)
            all_goals with_reducible rfl
          try simp only [Act.put, List.setIfInBounds_toArray, List.set_cons_zero, List.set_cons_succ]
          refine wpAnyL_take (i := 8) (oi := { dst := some 72, op := Op.load 150 (Operand.tmp 71), type := 150, pos := "baum.go:118", after := #[{ on := 7, ground := Ground.data }], guard := none }) (v := ?_) rfl (by kernel_rfl) (by kernel_rfl) (by kernel_rfl) (by kernel_rfl) (by kernel_rfl) (fun _ _ _ h => h) (Or.inl ⟨by rfl, ?_⟩) (by assumption) ?_
          rotate_left
          · (intro w hSw; (try dsimp only at hSw); go_simp)
            all_goals with_reducible rfl
          try simp only [Act.put, List.setIfInBounds_toArray, List.set_cons_zero, List.set_cons_succ]
          refine wpAnyL_take (i := 9) (oi := { dst := some 73, op := Op.move (Operand.tmp 6), type := 3, pos := "baum.go:118", after := #[], guard := none }) (v := ?_) rfl (by kernel_rfl) (by kernel_rfl) (by kernel_rfl) (by kernel_rfl) (by kernel_rfl) (fun _ _ _ h => h) (Or.inl ⟨by rfl, ?_⟩) (by assumption) ?_
          rotate_left
          · (intro w hSw; (try dsimp only at hSw); go_simp)
            all_goals with_reducible rfl
          try simp only [Act.put, List.setIfInBounds_toArray, List.set_cons_zero, List.set_cons_succ]
          refine wpAnyL_take (i := 10) (oi := { dst := some 74, op := Op.indexAddr 150 (Operand.tmp 72) (Operand.tmp 73), type := 0, pos := "baum.go:118", after := #[{ on := 8, ground := Ground.data }, { on := 9, ground := Ground.data }], guard := none }) (v := ?_) rfl (by kernel_rfl) (by kernel_rfl) (by kernel_rfl) (by kernel_rfl) (by kernel_rfl) (fun _ _ _ h => h) (Or.inl ⟨by rfl, ?_⟩) (by assumption) ?_
          rotate_left
          · (intro w hSw; (try dsimp only at hSw); go_simp)
            all_goals with_reducible rfl
          try simp only [Act.put, List.setIfInBounds_toArray, List.set_cons_zero, List.set_cons_succ]
          refine wpAnyL_take (i := 11) (oi := { dst := some 75, op := Op.load 28 (Operand.tmp 74), type := 28, pos := "baum.go:118", after := #[{ on := 10, ground := Ground.data }], guard := none }) (v := ?_) rfl (by kernel_rfl) (by kernel_rfl) (by kernel_rfl) (by kernel_rfl) (by kernel_rfl) (fun _ _ _ h => h) (Or.inl ⟨by rfl, ?_⟩) (by assumption) ?_
          rotate_left
          · (intro w hSw; (try dsimp only at hSw); go_simp)
            all_goals with_reducible rfl
          try simp only [Act.put, List.setIfInBounds_toArray, List.set_cons_zero, List.set_cons_succ]
          refine wpAnyL_step (i := 12) (o := { dst := some 76, op := Op.call { callee := Callee.value (Operand.func 20), args := #[Operand.const (Value.int IntKind.i64 (-1))], argTypes := #[2] }, type := 26, pos := "baum.go:118", after := #[], guard := none }) rfl (by kernel_rfl) (fun K hK => ?_)
          go_simp
          go_wp2_with (
            go_at_call 20
            refine (HIo.out _).mono ?_
            rintro e w5 ⟨q5, rfl, hi5, hb5⟩
            have HB5 := Lib.hid (Below.trans' (W := wr) ((Below.refl _ _).drew) hb5.out)
            have hT := times_any (W := w5) (y := ⟨(-1), 0, 0⟩) (V2 := .agg #[.pointer q5, .pointer none, .pointer none]) (HEl.out.below HB5.out) ⟨q5, none, none, rfl, hi5.out, isN_zero _, isN_zero _⟩
            clear hb5 hi5
            )
          refine hK.out _ _ ?_ (fun hHeld1 => ?_)
          ·
            exact HK.out w5 HB5.out
          clear hK K hHeld
          try simp only [Act.put, List.setIfInBounds_toArray, List.set_cons_zero, List.set_cons_succ]
          refine wpAnyL_take (i := 13) (oi := { dst := some 77, op := Op.build 28 #[(0, Operand.tmp 76)], type := 28, pos := "baum.go:118", after := #[{ on := 12, ground := Ground.data }], guard := none }) (v := ?_) rfl (by kernel_rfl) (by kernel_rfl) (by kernel_rfl) (by kernel_rfl) (by kernel_rfl) (fun _ _ _ h => h) (Or.inl ⟨by rfl, ?_⟩) (by assumption) ?_
          rotate_left
          · (intro w hSw; (try dsimp only at hSw); go_simp)
            all_goals with_reducible rfl
          try simp only [Act.put, List.setIfInBounds_toArray, List.set_cons_zero, List.set_cons_succ]
          refine wpAnyL_step (i := 14) (o := { dst := some 78, op := Op.call { callee := Callee.value (Operand.func 56), args := #[Operand.tmp 75, Operand.tmp 77], argTypes := #[28, 28] }, type := 28, pos := "baum.go:118", after := #[{ on := 11, ground := Ground.data }, { on := 13, ground := Ground.data }, { on := 12, ground := Ground.chain }], guard := none }) rfl (by kernel_rfl) (fun K hK => ?_)
          go_simp
          go_wp2_with (
            go_at_call 56
            refine hT.mono ?_
            rintro e w8 (⟨hok8, ru, rv, rm, rfl, hie8, hb8⟩ | ⟨hno, rfl, hb8⟩)
            rotate_left
            · exact absurd HTO.out hno
            have HB8 := Lib.hid (Below.trans' HB5.out hb8.out)
            have HIE8 := Lib.hid hie8.out
            have q0 := (HR.out.below HB8.out).freeG ((M - 1) * 3)
            have q1 := (HR.out.below HB8.out).freeG ((M - 1) * 3 + 1)
            have q2 := (HR.out.below HB8.out).freeG ((M - 1) * 3 + 2)
            have n0 := below_cell HB8.out HG0.out
            have n1 := below_cell HB8.out HG1.out
            have n2 := below_cell HB8.out HG2.out
            clear hb8 hie8 hok8 hT
            )
          refine hK.out _ _ ?_ (fun hHeld2 => ?_)
          ·
            exact HK.out w8 HB8.out
          clear hK K hHeld1
          try simp only [Act.put, List.setIfInBounds_toArray, List.set_cons_zero, List.set_cons_succ]
          refine wpAnyL_take (i := 15) (oi := { dst := some 79, op := Op.indexAddr 150 (Operand.tmp 67) (Operand.tmp 68), type := 0, pos := "baum.go:118", after := #[{ on := 3, ground := Ground.data }, { on := 4, ground := Ground.data }, { on := 0, ground := Ground.phase }, { on := 1, ground := Ground.phase }, { on := 2, ground := Ground.phase }, { on := 3, ground := Ground.phase }, { on := 4, ground := Ground.phase }, { on := 5, ground := Ground.phase }, { on := 6, ground := Ground.phase }, { on := 7, ground := Ground.phase }, { on := 8, ground := Ground.phase }, { on := 9, ground := Ground.phase }, { on := 10, ground := Ground.phase }, { on := 11, ground := Ground.phase }, { on := 12, ground := Ground.phase }, { on := 13, ground := Ground.phase }, { on := 14, ground := Ground.phase }], guard := none }) (v := ?_) rfl (by kernel_rfl) (by kernel_rfl) (by kernel_rfl) (by kernel_rfl) (by kernel_rfl) (fun _ _ _ h => h) (Or.inl ⟨by rfl, ?_⟩) (by assumption) ?_
          rotate_left
          · (intro w hSw; (try dsimp only at hSw); go_simp)
            all_goals with_reducible rfl
          try simp only [Act.put, List.setIfInBounds_toArray, List.set_cons_zero, List.set_cons_succ]
          refine wpAnyL_late (i := 16) (o := { dst := none, op := Op.store 28 (Operand.tmp 79) (Operand.tmp 78), type := 0, pos := "baum.go:118", after := #[{ on := 15, ground := Ground.data }, { on := 14, ground := Ground.data }, { on := 14, ground := Ground.chain }, { on := 0, ground := Ground.phase }, { on := 1, ground := Ground.phase }, { on := 2, ground := Ground.phase }, { on := 3, ground := Ground.phase }, { on := 4, ground := Ground.phase }, { on := 5, ground := Ground.phase }, { on := 6, ground := Ground.phase }, { on := 7, ground := Ground.phase }, { on := 8, ground := Ground.phase }, { on := 9, ground := Ground.phase }, { on := 10, ground := Ground.phase }, { on := 11, ground := Ground.phase }, { on := 12, ground := Ground.phase }, { on := 13, ground := Ground.phase }, { on := 14, ground := Ground.phase }], guard := none }) rfl (by kernel_rfl) rfl (fun K hK => ?_)
          go_simp
          refine hK.out _ _ ?_
          clear hK K
          try simp only [Act.put, List.setIfInBounds_toArray, List.set_cons_zero, List.set_cons_succ]
          refine wpAnyL_done (by kernel_rfl) ?_ _
          all_goals
            have HRS0 := Lib.hid ((HR.out.below HB8.out).put (i := M - 1) (t := ⟨ru, rv, rm⟩) HLl.out HIE8.out)
            have HBS0 : Hid (Below W.heap.size W (((w8.setCell ⟨gb, (M - 1) * 3, none⟩ (.pointer ru)).setCell ⟨gb, (M - 1) * 3 + 1, none⟩ (.pointer rv)).setCell ⟨gb, (M - 1) * 3 + 2, none⟩ (.pointer rm))) :=
              (((Below.trans' HBw.out HB8.out).setCell HGB.out _).setCell HGB.out _).setCell HGB.out _
            have HCB0 : Hid ((((w8.setCell ⟨gb, (M - 1) * 3, none⟩ (.pointer ru)).setCell ⟨gb, (M - 1) * 3 + 1, none⟩ (.pointer rv)).setCell ⟨gb, (M - 1) * 3 + 2, none⟩ (.pointer rm)).heap[cb]? = some (.cells (bytesRow s cap) 5 (nf, nf + 1))) := by
              have hne := HNE.out
              exact ((RowKit.Below.heap_setCell _ _ _ _ hne).trans ((RowKit.Below.heap_setCell _ _ _ _ hne).trans (RowKit.Below.heap_setCell _ _ _ _ hne))).trans (Below.here HB8.out HCb.out)
            obtain ⟨wS, hwS⟩ : ∃ wS, wS = ((w8.setCell ⟨gb, (M - 1) * 3, none⟩ (.pointer ru)).setCell ⟨gb, (M - 1) * 3 + 1, none⟩ (.pointer rv)).setCell ⟨gb, (M - 1) * 3 + 2, none⟩ (.pointer rm) := ⟨_, rfl⟩
            have HRS : Hid (Rd W.heap.size wS p ov (.slice (some ⟨gb, 0, none⟩) M gc) (l.set (M - 1) ⟨ru, rv, rm⟩) o' (G'.set (M - 1) (timesE x ⟨(-1), 0, 0⟩))) := by
              show Rd _ _ _ _ _ _ _ _; rw [hwS]; exact HRS0.out
            have HBS : Hid (Below W.heap.size W wS) := by show Below _ _ _; rw [hwS]; exact HBS0.out
            have HCB : Hid (wS.heap[cb]? = some (.cells (bytesRow s cap) 5 (nf, nf + 1))) := by show _ = _; rw [hwS]; exact HCB0.out
            rw [← hwS]
            clear hwS HRS0 HBS0 HCB0 q0 q1 q2 n0 n1 n2 g0 g1 g2 HK a0 a1 bc
            go_wp2_with fail
            go_roundg (s.size - (k + 1))
            case measure => omega
            case rel => exact ⟨k + 1, o', G'.set (M - 1) (timesE x ⟨(-1), 0, 0⟩), ov, _, _, by go_num, by omega, by omega, by show _ = _; rw [HT1.out, HSt.out, HC.out]; unfold rdStep; rw [if_neg (by decide), if_pos rfl]; dsimp only; rw [← HM.out, getD_of HX.out], HAA.out.set (.inr rfl) HX.out, HRS, HBS, HCB⟩
        · have hb3 : decide ((c.toNat : Int) = 65) = false := by
            simp only [decide_eq_false_iff_not]; intro h; exact h65 (UInt8.toNat_inj.1 (by show _ = 65; omega))
          have hb4 : ((c.toNat : Int) == 65) = false := by simpa using hb3
          have HC : Hid (rdStep (o', G') c = (o' ++ [c], G' ++ [Zero])) := by show _ = _; unfold rdStep; rw [if_neg h97, if_neg h65]
          have HBs : Hid (W.heap.size ≤ wr.heap.size) := HBw.out.size
          have hb9 : o'.length + 1 ≤ 1099511627776 := by omega
          obtain ⟨oa, oc, hov⟩ := rown_shape HR.out.out
          subst hov
          have hcl : cb < wr.heap.size := cell_lt bc
          clear h97 h65 hc g0 g1 g2
          have hlb : l.length + 1 ≤ 1099511627776 := by have := HR.out.len; have := HLN.out; omega
          go_wp2_with (at_builtin
                       first
                         | (refine app_B rfl _ _ rfl (.slice oa o'.length oc) o' rfl (World.ownsRow.alloc HR.out.out _) _ 1 [c] rfl rfl _ rfl (heap_last _ _) hb9 ?_; intro v1 w7 K7 G7 A7
                            obtain ⟨g1, p1, hv1⟩ := BRow.form K7 (by simp)
                            obtain ⟨N1, hN1⟩ : ∃ N1, N1 = (o' ++ [c]).length := ⟨_, rfl⟩
                            rw [← hN1] at hv1
                            subst hv1
                            clear hN1
                            have HG7 := Lib.hid (Gb.of G7 A7)
                            have HO7 : Hid (w7.heap[p]? = some (.cells #[.slice oa o'.length oc, .slice (some ⟨gb, 0, none⟩) M gc] 152 (0, 0))) := (HG7.out.keep HR.out.out HR.out.obj (.inl (by decide))).trans HR.out.obj
                            have c7 : w7.cell? ⟨p, 0, none⟩ = some (.slice oa o'.length oc) := by rw [cell_of HO7.out]; rfl
                            have c71 : w7.cell? ⟨p, 1, none⟩ = some (.slice (some ⟨gb, 0, none⟩) M gc) := by rw [cell_of HO7.out]; rfl
                            have f7 := free_of HO7.out 0
                            have HE28 : Hid (((w7.setCell ⟨p, 0, none⟩ (.slice (some ⟨g1, 0, none⟩) N1 p1)).alloc (.cells #[.pointer none, .pointer none, .pointer none] 28)).heap[w7.heap.size]? = some (.cells #[.pointer none, .pointer none, .pointer none] 28 (0, 0))) := heap_at (by simp)
                            have HR8 := Lib.hid (HR.out.pushO HBs.out HG7.out K7)
                            have HCb8 : Hid ((w7.setCell ⟨p, 0, none⟩ (.slice (some ⟨g1, 0, none⟩) N1 p1)).heap[cb]? = some (.cells (bytesRow s cap) 5 (nf, nf + 1))) := by
                              have hne : cb ≠ p := type_ne HCb.out HR.out.obj (by decide)
                              exact (RowKit.Below.heap_setCell _ _ _ _ hne).trans ((HG7.out.keep HR.out.out HCb.out (.inr (by simp))).trans HCb.out)
                            have HB8 : Hid (Below W.heap.size W (w7.setCell ⟨p, 0, none⟩ (.slice (some ⟨g1, 0, none⟩) N1 p1))) := (below_fr HBw.out (Nat.le_refl _) (fun b hb => HR.out.ho b (by simpa using hb)) HG7.out.fr).setCell HPW.out _
                            clear K7 G7 A7)
                         | (go_loud (refine app_E1 rfl _ _ rfl (.slice (some ⟨gb, 0, none⟩) M gc) l.length (qcl l) rfl (World.ownsRow.alloc HR8.out.row _) _ rfl HE28.out hlb ?_); intro v2 w9 K9 G9 N9 A9
                            obtain ⟨g2, p2, hv2, -, -⟩ := rown_form K9 (by omega)
                            obtain ⟨N2, hN2⟩ : ∃ N2, N2 = l.length + 1 := ⟨_, rfl⟩
                            rw [← hN2] at hv2
                            subst hv2
                            clear hN2
                            have HG9 := Lib.hid (Gb.of G9 A9)
                            have HO9 : Hid (w9.heap[p]? = some (.cells #[.slice (some ⟨g1, 0, none⟩) N1 p1, .slice (some ⟨gb, 0, none⟩) M gc] 152 (0, 0))) := (HG9.out.keep HR8.out.row HR8.out.obj (.inl (by decide))).trans HR8.out.obj
                            have c9 : w9.cell? ⟨p, 1, none⟩ = some (.slice (some ⟨gb, 0, none⟩) M gc) := by rw [cell_of HO9.out]; rfl
                            have f9 := free_of HO9.out 1
                            have HR10 := Lib.hid (HR8.out.pushG HB8.out.size HG9.out K9)
                            have HCb10 : Hid ((w9.setCell ⟨p, 1, none⟩ (.slice (some ⟨g2, 0, none⟩) N2 p2)).heap[cb]? = some (.cells (bytesRow s cap) 5 (nf, nf + 1))) := by
                              have hne : cb ≠ p := type_ne HCb.out HR.out.obj (by decide)
                              exact (RowKit.Below.heap_setCell _ _ _ _ hne).trans ((HG9.out.keep HR8.out.row HCb8.out (.inl (by decide))).trans HCb8.out)
                            have HB10 : Hid (Below W.heap.size W (w9.setCell ⟨p, 1, none⟩ (.slice (some ⟨g2, 0, none⟩) N2 p2))) := (below_fr HB8.out (Nat.le_refl _) (fun b hb => HR8.out.hg b (by simpa using hb)) HG9.out.fr).setCell HPW.out _
                            clear K9 G9 N9 A9))
          go_roundg (s.size - (k + 1))
          case measure => omega
          case rel => exact ⟨k + 1, o' ++ [c], G' ++ [Zero], _, _, _, by go_num, by omega, by omega, by show _ = _; rw [HT1.out, HSt.out, HC.out], HAA.out.push, HR10, HB10, HCb10⟩
    · have hkz : ¬ ((k : Int) < (s.size : Int)) := by omega
      have HFin : Hid (readE s.data.toList = (o', G')) := by
        show _ = _; unfold readE
        rw [← HSt.out, List.take_of_length_le (by simp; omega)]
      go_wp2_with fail
      refine bodyPost_ret (results_tmp rfl _ _ _) rfl ?_
      refine ⟨p, ov, gv, l, rfl, ?_, HBw⟩
      rw [HFin.out]; exact HR
end Sr
/- The closures of Trace and is. -/
namespace Sr
open Go Go.Proofs Go.RowKit Go.Maps Go.WideMaps

/-- what a word is reduced to -/
noncomputable def traceE (l : List UInt8) : Option RedR := redE (readE l).1 (readE l).2 0

theorem redE_len {o' : List UInt8} {G' : List E3} : ∀ (n : Nat) (o : List UInt8) (G : List E3) (i : Nat) (st : List (Nat × Int)), 2 * o.length - i ≤ n → i ≤ o.length → G.length = o.length + 1 → redE o G i = some (st, o', G') → G'.length = o'.length + 1 ∧ o'.length ≤ o.length := by
  intro n
  induction n with
  | zero =>
    intro o G i st hn hi hg h
    have hlt : ¬ i + 1 < o.length := by omega
    rw [redE_end hlt] at h
    cases h
    exact ⟨hg, Nat.le_refl _⟩
  | succ n ih =>
    intro o G i st hn hi hg h
    by_cases hlt : i + 1 < o.length
    · by_cases hp : pinAt o G i = true
      · by_cases ha : pinA o G i
        · rw [redE_yes hlt hp ha] at h
          cases hr : redE (pinO o i) (pinG o G i) (i - 1) with
          | none => rw [hr] at h; cases h
          | some r =>
            rw [hr] at h
            obtain ⟨st', o'', G''⟩ := r
            simp only [Option.map_some, Option.some.injEq, Prod.mk.injEq] at h
            obtain ⟨-, rfl, rfl⟩ := h
            have hl := pinO_len hlt
            have := ih (pinO o i) (pinG o G i) (i - 1) st' (by omega) (by omega) (pinG_len hlt hg) hr
            exact ⟨this.1, by omega⟩
        · rw [redE_full hlt hp ha] at h; cases h
      · rw [redE_no hlt (by simpa using hp)] at h
        exact ih o G (i + 1) st (by omega) (by omega) hg h
    · rw [redE_end hlt] at h
      cases h
      exact ⟨hg, Nat.le_refl _⟩
theorem traceE_len {l : List UInt8} {st : List (Nat × Int)} {o : List UInt8} {G : List E3} (h : traceE l = some (st, o, G)) : G.length = o.length + 1 ∧ o.length ≤ l.length := by
  have h1 := redE_len _ _ _ 0 st (Nat.le_refl _) (Nat.zero_le _) (readE_len l) h
  have h2 := readE_out l
  exact ⟨h1.1, by omega⟩

theorem Rd.set {B : Nat} {w : World} {p : Nat} {ov gv : Value} {l : List Q3} {o : List UInt8} {G : List E3} (h : Rd B w p ov gv l o G) {b k : Nat} {c : Array Value} {T : TypeId} {z : Nat × Nat} (hb : w.heap[b]? = some (.cells c T z)) (v : Value) (hT : T ≠ 158 ∧ T ≠ 111 ∧ T ≠ 154 ∧ T ≠ 152 ∧ T ≠ 5 ∧ T ≠ 28 := by decide) : Rd B (w.setCell ⟨b, k, none⟩ v) p ov gv l o G :=
  h.kept fun b' c' T' hb' hT' => RowKit.Below.heap_setCell _ _ _ _ (type_ne hb' hb (by
    obtain ⟨h1, h2, h3, h4, h5, h6⟩ := hT
    rintro rfl
    rcases hT' with h | h | h | h | h | h
    · exact h1 h
    · exact h2 h
    · exact h3 h
    · exact h4 h
    · exact h5 h
    · exact h6 h.1))
theorem StRow.set {B0 : Nat} {w : World} {v : Value} {st : List (Nat × Int)} (h : StRow B0 w v st) {b k : Nat} {c : Array Value} {T : TypeId} {z : Nat × Nat} (hb : w.heap[b]? = some (.cells c T z)) (u : Value) (hT : T ≠ 42 ∧ T ≠ 5 := by decide) : StRow B0 (w.setCell ⟨b, k, none⟩ u) v st :=
  h.kept fun b' c' T' hb' _ hT' => RowKit.Below.heap_setCell _ _ _ _ (type_ne hb' hb (by
    obtain ⟨h1, h2⟩ := hT
    rintro rfl
    rcases hT' with h | h
    · exact h1 h
    · exact h2 h))
theorem IsE.set {w : World} {V : Value} {x : E3} (h : IsE w V x) {b k : Nat} {c : Array Value} {T : TypeId} {z : Nat × Nat} (hb : w.heap[b]? = some (.cells c T z)) (u : Value) (hT : T ≠ 158 ∧ T ≠ 111 ∧ T ≠ 154 := by decide) : IsE (w.setCell ⟨b, k, none⟩ u) V x :=
  h.kept fun b' c' T' hb' hT' => RowKit.Below.heap_setCell _ _ _ _ (type_ne hb' hb (by
    obtain ⟨h1, h2, h3⟩ := hT
    rintro rfl
    rcases hT' with h | h | h
    · exact h1 h
    · exact h2 h
    · exact h3 h))

theorem set3_same' {w : World} {b : Nat} {x y z : Value} {T : TypeId} (h : w.heap[b]? = some (.cells #[x, y, z] T (0, 0))) (p : Value) : (w.setCell ⟨b, 0, none⟩ p).heap[b]? = some (.cells #[p, y, z] T (0, 0)) := heap_setCell_same w b 0 _ T p h
theorem set3_same'' {w : World} {b : Nat} {x y z : Value} {T : TypeId} (h : w.heap[b]? = some (.cells #[x, y, z] T (0, 0))) (p q : Value) : ((w.setCell ⟨b, 0, none⟩ p).setCell ⟨b, 1, none⟩ q).heap[b]? = some (.cells #[p, q, z] T (0, 0)) := heap_setCell_same _ b 1 _ T q (set3_same' h p)
/-- the variables of Trace behind its closure -/
structure TrV (b1 b2 b3 B0 : Nat) (st : List (Nat × Int)) (o : List UInt8) (G : List E3) (sv : Value) (qu qv qm : Option Addr) (w : World) : Prop where
  row : StRow B0 w sv st
  el : IsE w (.agg #[.pointer qu, .pointer qv, .pointer qm]) (endE o G)
  v1 : w.heap[b1]? = some (.cells #[sv] 23 (0, 0))
  v2 : w.heap[b2]? = some (.cells #[.int .i64 o.length] 3 (0, 0))
  v3 : w.heap[b3]? = some (.cells #[.pointer qu, .pointer qv, .pointer qm] 28 (0, 0))
def Tr1Q (b1 b2 b3 : Nat) (r : Option RedR) (W : World) (e : Ending) (W' : World) : Prop :=
  (∃ st o G, r = some (st, o, G) ∧ e = .returned (.tuple #[]) ∧ ∃ sv qu qv qm, Hid (TrV b1 b2 b3 W.heap.size st o G sv qu qv qm W') ∧ Hid (Fr [b1, b2, b3] W W')) ∨ (r = none ∧ e = pan 5 ∧ Hid (Below W.heap.size W W'))

set_option maxHeartbeats 4000000 in
set_option maxRecDepth 100000 in
theorem trace1_any {W : World} {s : ByteArray} (hs : s.size ≤ 1000) {b0 b1 b2 b3 : Nat} {sv0 : Value} {z0 : Int} {o0 o1 o2 : Option Addr}
    (H : Hid (Has W [(b0, #[.string s], 9), (b1, #[sv0], 23), (b2, #[.int .i64 z0], 3), (b3, #[.pointer o0, .pointer o1, .pointer o2], 28)])) :
    Calls Tryz.prog 46 #[.pointer (some ⟨b0, 0, none⟩), .pointer (some ⟨b1, 0, none⟩), .pointer (some ⟨b2, 0, none⟩), .pointer (some ⟨b3, 0, none⟩)] W (Tr1Q b1 b2 b3 (traceE s.data.toList) W) := by
  have c0 := H.out.cell (b := b0) (c := #[.string s]) (T := 9) (by simp) 0
  have hRd := read_calls (W := W) s hs
  have HSz : Hid ((readE s.data.toList).1.length ≤ 1000) := by
    show _ ≤ _
    have := readE_out s.data.toList
    simp at this; omega
  go_enter Tryz.func46, Tryz.ntmps46
  go_wp2_with fail
  refine hRd.mono ?_
  rintro e w1 ⟨p, ov, gv, q, rfl, hr1, hb1⟩
  have HB1 := Lib.hid hb1.out
  have hRe := reduce_any hr1.out (by have := HSz.out; omega) (readE_len _)
  have HLow := Lib.hid hr1.out.lows
  clear hRd hr1 hb1 c0
  go_wp2_with fail
  refine hRe.mono ?_
  rintro e w2 (⟨st, o, G, hre, sv, ov2, gv2, l2, rfl, hr2, hs2, hb2⟩ | ⟨hno, rfl, hb2⟩)
  rotate_left
  · refine And.intro rfl ?_
    exact Or.inr ⟨hno, rfl, ⟨hb2.out.os.trans HB1.out.os, hb2.out.tape.trans HB1.out.tape, hb2.out.output.trans HB1.out.output, Nat.le_trans HB1.out.size hb2.out.size, fun k hk => (hb2.out.block k hk).trans (HB1.out.block k hk)⟩⟩
  obtain ⟨sa, sc, hsv⟩ : ∃ sa sc, sv = .slice sa st.length sc := by
    obtain ⟨vs, k1, k2, k3⟩ := hs2.out.row
    exact rown_shape k2
  obtain ⟨N, hN⟩ : ∃ N, N = st.length := ⟨_, rfl⟩
  rw [← hN] at hsv
  subst hsv
  clear hN
  have HRe : Hid (traceE s.data.toList = some (st, o, G)) := hre
  have HB2 : Hid (Below W.heap.size W w2) := ⟨hb2.out.os.trans HB1.out.os, hb2.out.tape.trans HB1.out.tape, hb2.out.output.trans HB1.out.output, Nat.le_trans HB1.out.size hb2.out.size, fun k hk => (hb2.out.block k hk).trans (HB1.out.block k hk)⟩
  have HS2 : Hid (StRow W.heap.size w2 (.slice sa N sc) st) := ⟨by
    obtain ⟨vs, k1, k2, k3⟩ := hs2.out.row
    exact ⟨vs, k1, k2, fun i u t hu ht => ⟨(k3 i u t hu ht).1, fun b e => Nat.le_trans HB1.out.size ((k3 i u t hu ht).2 b e)⟩⟩, fun b e => Nat.le_trans HB1.out.size (hs2.out.own b e)⟩
  have HR2 := Lib.hid hr2.out
  have HH2 := Lib.hid (H.out.below HB2.out)
  have y1 := HH2.out (b1, #[sv0], 23) (by simp)
  dsimp only at y1
  have d1 := HH2.out.cell (b := b1) (c := #[sv0]) (T := 23) (by simp) 0
  have f1 := free_of y1 0
  have hlen := traceE_len hre
  have hol : o.length ≤ 100000 := by have := hlen.2; simp at this; omega
  have HR3 := Lib.hid (HR2.out.set (k := 0) y1 (.slice sa N sc))
  have HS3 := Lib.hid (HS2.out.set (k := 0) y1 (.slice sa N sc))
  have HF3 : Hid (Fr [b1, b2, b3] W (w2.setCell ⟨b1, 0, none⟩ (.slice sa N sc))) := (Fr.of_below HB2.out).pre (fr_setCell _ _ (by simp))
  have hEn := end_calls HR3.out hlen.1 hol
  have Y1 : Hid ((w2.setCell ⟨b1, 0, none⟩ (.slice sa N sc)).heap[b1]? = some (.cells #[.slice sa N sc] 23 (0, 0))) := heap_setCell_same w2 b1 0 _ 23 _ y1
  have y2 := HH2.out (b2, #[.int .i64 z0], 3) (by simp)
  have y3 := HH2.out (b3, #[.pointer o0, .pointer o1, .pointer o2], 28) (by simp)
  dsimp only at y2 y3
  have Y2 : Hid ((w2.setCell ⟨b1, 0, none⟩ (.slice sa N sc)).heap[b2]? = some (.cells #[.int .i64 z0] 3 (0, 0))) := (RowKit.Below.heap_setCell _ _ _ _ (type_ne y2 y1 (by decide))).trans y2
  have Y3 : Hid ((w2.setCell ⟨b1, 0, none⟩ (.slice sa N sc)).heap[b3]? = some (.cells #[.pointer o0, .pointer o1, .pointer o2] 28 (0, 0))) := (RowKit.Below.heap_setCell _ _ _ _ (type_ne y3 y1 (by decide))).trans y3
  clear hRe hre hr2 hs2 hb2 y1 y2 y3 hlen
  go_wp2_with fail
  clear d1 f1
  obtain ⟨w3, hw3⟩ : ∃ w3, w3 = w2.setCell ⟨b1, 0, none⟩ (.slice sa N sc) := ⟨_, rfl⟩
  rw [← hw3] at HR3 HS3 HF3 hEn Y1 Y2 Y3 ⊢
  clear hw3
  refine hEn.mono ?_
  rintro e w4 ⟨qu, qv, qm, rfl, hie, hb4⟩
  have HS4 := Lib.hid (HS3.out.below hb4.out)
  have HF4 := Lib.hid (HF3.out.pre (Fr.of_below hb4.out))
  have Z1 := Lib.hid (Below.here hb4.out Y1.out)
  have Z2 := Lib.hid (Below.here hb4.out Y2.out)
  have Z3 := Lib.hid (Below.here hb4.out Y3.out)
  have HIE := Lib.hid hie.out
  have d2 := cell_of Z2.out 0
  have f2 := free_of Z2.out 0
  have n23 : b2 ≠ b3 := type_ne Z2.out Z3.out (by decide)
  have d3 := cell_of Z3.out 0
  have d31 := cell_of Z3.out 1
  have d32 := cell_of Z3.out 2
  have f3 := free_of Z3.out 0
  have f31 := free_of Z3.out 1
  have f32 := free_of Z3.out 2
  clear hEn hie hb4 Y1 Y2 Y3
  go_wp2_with fail
  go_end0
  have k2 : (w4.setCell ⟨b2, 0, none⟩ (.int .i64 o.length)).heap[b2]? = some (.cells #[.int .i64 o.length] 3 (0, 0)) := heap_setCell_same w4 b2 0 _ 3 _ Z2.out
  have k1 : (w4.setCell ⟨b2, 0, none⟩ (.int .i64 o.length)).heap[b1]? = some (.cells #[.slice sa N sc] 23 (0, 0)) := (RowKit.Below.heap_setCell _ _ _ _ (type_ne Z1.out Z2.out (by decide))).trans Z1.out
  have k3 : (w4.setCell ⟨b2, 0, none⟩ (.int .i64 o.length)).heap[b3]? = some (.cells #[.pointer o0, .pointer o1, .pointer o2] 28 (0, 0)) := (RowKit.Below.heap_setCell _ _ _ _ (type_ne Z3.out Z2.out (by decide))).trans Z3.out
  refine Or.inl ⟨st, o, G, HRe.out, rfl, .slice sa N sc, qu, qv, qm, ⟨?_, ?_, ?_, ?_, ?_⟩, ?_⟩
  · exact (((HS4.out.set Z2.out _).set k3 _).set (set3_same' k3 (.pointer qu)) _).set (set3_same'' k3 (.pointer qu) (.pointer qv)) _
  · exact IsE.store3 (HIE.out.set Z2.out _) k3
  · exact (set3_block _ (type_ne k1 k3 (by decide)) _ _ _).trans k1
  · exact (set3_block _ (type_ne k2 k3 (by decide)) _ _ _).trans k2
  · exact set3_same k3
  · exact (((HF4.out.pre (fr_setCell _ _ (by simp))).pre (fr_setCell _ _ (by simp))).pre (fr_setCell _ _ (by simp))).pre (fr_setCell _ _ (by simp))
end Sr
/- Words of a and t: the plain law. -/
namespace Sr

/-- a letter of BaumInner: its word, its element -/
def wdL (n : UInt8) : List UInt8 := if n.toNat % 4 = 0 then [97] else if n.toNat % 4 = 1 then [65] else if n.toNat % 4 = 2 then [98, 97, 66] else [98, 65, 66]
def elL (n : UInt8) : E3 := if n.toNat % 4 = 0 then ⟨1, 0, 0⟩ else if n.toNat % 4 = 1 then ⟨-1, 0, 0⟩ else if n.toNat % 4 = 2 then ⟨0, 0, 1⟩ else ⟨0, 0, -1⟩
def prodE (L : List UInt8) : E3 := L.foldl (fun x n => timesE x (elL n)) Zero
def wordL (L : List UInt8) : List UInt8 := L.flatMap wdL

theorem elL_lat (n : UInt8) : Lat 1 (elL n) := by
  unfold elL
  split
  · exact lat_a 1 (.inl rfl)
  · split
    · exact lat_a (-1) (.inr rfl)
    · split
      · exact lat_t 1 (.inl rfl)
      · exact lat_t (-1) (.inr rfl)
theorem prodE_snoc (L : List UInt8) (n : UInt8) : prodE (L ++ [n]) = timesE (prodE L) (elL n) := by simp [prodE]
theorem prodE_lat : ∀ (k : Nat) (L : List UInt8), L.length = k → k ≤ 110 → Lat k (prodE L)
  | 0, L, h, _ => by
    have : L = [] := List.length_eq_zero_iff.1 h
    subst this; exact lat_zero
  | k + 1, L, h, hk => by
    have hne : L ≠ [] := by intro e; subst e; simp at h
    have e := List.dropLast_concat_getLast hne
    rw [← e, prodE_snoc]
    exact (lat_times (prodE_lat k L.dropLast (by simp; omega) (by omega)) (elL_lat _) (by omega)).2

/-- what has been read: n0 is the first power of a; behind it powers of t and a, the last ones first -/
def gr (n0 : Int) : List (Int × Int) → List E3
  | [] => [powA n0]
  | (s, n) :: R => gr n0 R ++ [powA s, powA n]
def og : List (Int × Int) → List UInt8
  | [] => []
  | _ :: R => og R ++ [98, 66]
def pr (n0 : Int) : List (Int × Int) → E3
  | [] => powA n0
  | (s, n) :: R => timesE (timesE (pr n0 R) ⟨0, 0, s⟩) (powA n)
def sz (n0 : Int) : List (Int × Int) → Nat
  | [] => n0.natAbs
  | (_, n) :: R => sz n0 R + 1 + n.natAbs
theorem pr_plain (n0 : Int) : ∀ R, Plain (pr n0 R)
  | [] => plainE_plain _ _ _
  | (_, _) :: _ => timesE_plain _ _

theorem rd_last (o : List UInt8) (H : List E3) (x : E3) : rdStep (o, H ++ [x]) 97 = (o, H ++ [timesE x ⟨1, 0, 0⟩]) := by
  unfold rdStep; rw [if_pos rfl]; dsimp only
  have e : (H ++ [x]).length - 1 = H.length := by simp
  rw [e, getD_of (x := x) (by simp)]
  simp
theorem rd_lastA (o : List UInt8) (H : List E3) (x : E3) : rdStep (o, H ++ [x]) 65 = (o, H ++ [timesE x ⟨-1, 0, 0⟩]) := by
  unfold rdStep; rw [if_neg (by decide), if_pos rfl]; dsimp only
  have e : (H ++ [x]).length - 1 = H.length := by simp
  rw [e, getD_of (x := x) (by simp)]
  simp
theorem rd_b (o : List UInt8) (G : List E3) : rdStep (o, G) 98 = (o ++ [98], G ++ [Zero]) := rfl
theorem rd_B (o : List UInt8) (G : List E3) : rdStep (o, G) 66 = (o ++ [66], G ++ [Zero]) := rfl
theorem gr_last (n0 : Int) (R : List (Int × Int)) : ∃ H n, gr n0 R = H ++ [powA n] := by
  cases R with
  | nil => exact ⟨[], n0, rfl⟩
  | cons p R => obtain ⟨s, n⟩ := p; exact ⟨gr n0 R ++ [powA s], n, by simp [gr]⟩

/-- a power of a is put behind -/
theorem step_a (n0 : Int) (R : List (Int × Int)) (s : Int) (hs : s = 1 ∨ s = -1) : ∃ n0' R', (∀ H x, gr n0 R = H ++ [x] → gr n0' R' = H ++ [timesE x ⟨s, 0, 0⟩]) ∧ og R' = og R ∧ pr n0' R' = timesE (pr n0 R) ⟨s, 0, 0⟩ ∧ sz n0' R' ≤ sz n0 R + 1 ∧ R'.length = R.length ∧ ((∀ p ∈ R, p.1 = 1 ∨ p.1 = -1) → ∀ p ∈ R', p.1 = 1 ∨ p.1 = -1) := by
  have h1 : s.natAbs = 1 := by rcases hs with rfl | rfl <;> rfl
  cases R with
  | nil =>
    refine ⟨n0 + s, [], fun H x h => ?_, rfl, (powA_add n0 s hs).symm, ?_, rfl, fun h => h⟩
    · have := List.append_inj' (s₁ := []) (t₁ := [powA n0]) (s₂ := H) (t₂ := [x]) h (by simp)
      obtain ⟨rfl, h2⟩ := this
      cases h2
      simp only [gr, List.nil_append]; rw [powA_add n0 s hs]
    · simp only [sz]; omega
  | cons p R =>
    obtain ⟨t, n⟩ := p
    refine ⟨n0, (t, n + s) :: R, fun H x h => ?_, rfl, ?_, ?_, rfl, fun h p hp => ?_⟩
    · have e : gr n0 ((t, n) :: R) = (gr n0 R ++ [powA t]) ++ [powA n] := by simp [gr]
      rw [e] at h
      obtain ⟨rfl, h2⟩ := List.append_inj' h (by simp)
      cases h2
      simp only [gr]; rw [powA_add n s hs]; simp
    · simp only [pr]; rw [← powA_add n s hs, ← timesE_assoc]
    · simp only [sz]; omega
    · rcases List.mem_cons.1 hp with rfl | hp
      · exact h (t, n) (by simp)
      · exact h p (List.mem_cons_of_mem _ hp)
theorem step_t (n0 : Int) (R : List (Int × Int)) (s : Int) : gr n0 ((s, 0) :: R) = gr n0 R ++ [powA s] ++ [Zero] ∧ pr n0 ((s, 0) :: R) = timesE (pr n0 R) ⟨0, 0, s⟩ := by
  refine ⟨by simp [gr, powA_zero], ?_⟩
  simp only [pr]; rw [powA_zero]; exact timesE_one (timesE_plain _ _)

def tcount (L : List UInt8) : Nat := (L.filter fun n => 2 ≤ n.toNat % 4).length
theorem tcount_snoc (L : List UInt8) (n : UInt8) : tcount (L ++ [n]) = tcount L + if 2 ≤ n.toNat % 4 then 1 else 0 := by
  unfold tcount; rw [List.filter_append, List.length_append]
  congr 1
  by_cases h : 2 ≤ n.toNat % 4 <;> simp [h]

theorem read_inner : ∀ (k : Nat) (L : List UInt8), L.length = k → ∃ n0 R, readE (wordL L) = (og R, gr n0 R) ∧ prodE L = pr n0 R ∧ sz n0 R ≤ L.length ∧ R.length = tcount L ∧ ∀ p ∈ R, p.1 = 1 ∨ p.1 = -1
  | 0, L, h => by
    have : L = [] := List.length_eq_zero_iff.1 h
    subst this
    exact ⟨0, [], rfl, rfl, by simp [sz], rfl, fun p hp => by simp at hp⟩
  | k + 1, L, h => by
    have hne : L ≠ [] := by intro e; subst e; simp at h
    obtain ⟨M, c, rfl⟩ : ∃ M c, L = M ++ [c] := ⟨L.dropLast, L.getLast hne, (List.dropLast_concat_getLast hne).symm⟩
    obtain ⟨n0, R, h1, h2, h3, h4, h5⟩ := read_inner k M (by simp at h; omega)
    have hw : readE (wordL (M ++ [c])) = (wdL c).foldl rdStep (readE (wordL M)) := by simp [readE, wordL, List.flatMap_append, List.foldl_append]
    have hl : (M ++ [c]).length = M.length + 1 := by simp
    obtain ⟨H, n, hg⟩ := gr_last n0 R
    rw [hw, h1, prodE_snoc, h2, tcount_snoc, ← h4, hl]
    unfold wdL elL
    by_cases c0 : c.toNat % 4 = 0
    · rw [if_pos c0, if_pos c0, if_neg (show ¬ 2 ≤ c.toNat % 4 by omega)]
      obtain ⟨n0', R', k1, k2, k3, k4, k5, k6⟩ := step_a n0 R 1 (.inl rfl)
      refine ⟨n0', R', ?_, k3.symm, by omega, by omega, k6 h5⟩
      show rdStep (og R, gr n0 R) 97 = _
      rw [hg, rd_last, k1 _ _ hg, k2]
    · rw [if_neg c0, if_neg c0]
      by_cases c1 : c.toNat % 4 = 1
      · rw [if_pos c1, if_pos c1, if_neg (show ¬ 2 ≤ c.toNat % 4 by omega)]
        obtain ⟨n0', R', k1, k2, k3, k4, k5, k6⟩ := step_a n0 R (-1) (.inr rfl)
        refine ⟨n0', R', ?_, k3.symm, by omega, by omega, k6 h5⟩
        show rdStep (og R, gr n0 R) 65 = _
        rw [hg, rd_lastA, k1 _ _ hg, k2]
      · rw [if_neg c1, if_neg c1, if_pos (show 2 ≤ c.toNat % 4 by omega)]
        have fin : ∀ s : Int, s = 1 ∨ s = -1 → ∃ n0' R', (og R ++ [98] ++ [66], gr n0 R ++ [timesE Zero ⟨s, 0, 0⟩] ++ [Zero]) = (og R', gr n0' R') ∧ timesE (pr n0 R) ⟨0, 0, s⟩ = pr n0' R' ∧ sz n0' R' ≤ M.length + 1 ∧ R'.length = R.length + 1 ∧ ∀ p ∈ R', p.1 = 1 ∨ p.1 = -1 := fun s hs => by
          refine ⟨n0, (s, 0) :: R, ?_, (step_t n0 R s).2.symm, by simp only [sz]; simp; omega, rfl, fun p hp => ?_⟩
          · rw [(step_t n0 R s).1]
            have : timesE Zero ⟨s, 0, 0⟩ = powA s := by have := powA_add 0 s hs; rw [powA_zero, Int.zero_add] at this; exact this
            rw [this]; simp [og]
          · rcases List.mem_cons.1 hp with rfl | hp
            · exact hs
            · exact h5 p hp
        by_cases c2 : c.toNat % 4 = 2
        · rw [if_pos c2, if_pos c2]
          obtain ⟨n0', R', k1, k2, k3, k4, k5⟩ := fin 1 (.inl rfl)
          refine ⟨n0', R', ?_, k2, k3, k4, k5⟩
          show rdStep (rdStep (rdStep (og R, gr n0 R) 98) 97) 66 = _
          rw [rd_b, rd_last, rd_B]; exact k1
        · rw [if_neg c2, if_neg c2]
          obtain ⟨n0', R', k1, k2, k3, k4, k5⟩ := fin (-1) (.inr rfl)
          refine ⟨n0', R', ?_, k2, k3, k4, k5⟩
          show rdStep (rdStep (rdStep (og R, gr n0 R) 98) 65) 66 = _
          rw [rd_b, rd_lastA, rd_B]; exact k1

theorem powA_lat (n : Int) : Lat n.natAbs (powA n) := by
  refine lat_plain (by simp) (fun _ => by omega) fun _ => ?_
  have : ((0 : Int) + (n.natAbs : Int)).toNat = n.natAbs := by omega
  rw [this]
  exact Nat.mul_le_mul_left _ (Nat.pow_le_pow_left (by omega) _)
theorem powA_v (n : Int) : 0 ≤ (powA n).v := by
  unfold powA plainE; split
  · simp
  · show 0 ≤ 0 + (lowE n : Int); omega
theorem powA_shx (n : Int) : shx (powA n).u (powA n).v = n := by
  unfold powA plainE
  split
  · rename_i h; subst h
    show shx 0 ((0 : Nat) : Int) = 0
    rw [shx_nat]; simp
  · show shx (shx n (-(lowE n : Int))) (0 + (lowE n : Int)) = n
    have : (0 + (lowE n : Int)) = -(-(lowE n : Int)) := by omega
    rw [this]; exact shx_back low_ok

/-- the pinches of such a word, from the first one on -/
def pwr : List (Int × Int) → List E3 := fun T => T.flatMap fun p => [powA p.1, powA p.2]
def pwo : List (Int × Int) → List UInt8 := fun T => T.flatMap fun _ => [98, 66]
def sz2 : List (Int × Int) → Nat
  | [] => 0
  | p :: T => 1 + p.2.natAbs + sz2 T
theorem red_inner : ∀ (T : List (Int × Int)) (g0 : E3) (k : Nat), Lat k g0 → k + sz2 T ≤ 110 → (∀ p ∈ T, p.1 = 1 ∨ p.1 = -1) → ∃ st, redE (pwo T) (g0 :: pwr T) 0 = some (st, [], [T.foldl (fun x p => timesE (timesE x ⟨0, 0, p.1⟩) (powA p.2)) g0]) ∧ st.length = T.length
  | [], g0, k, _, _, _ => ⟨[], redE_end (by simp [pwo]), rfl⟩
  | (s, n) :: T, g0, k, hl, hk, hs => by
    have hs1 : s = 1 ∨ s = -1 := hs (s, n) (by simp)
    have ho : pwo ((s, n) :: T) = 98 :: 66 :: pwo T := rfl
    have hg : pwr ((s, n) :: T) = powA s :: powA n :: pwr T := rfl
    rw [ho, hg]
    have h1 : 0 + 1 < (98 :: 66 :: pwo T).length := by simp
    have hx1 : (g0 :: powA s :: powA n :: pwr T).getD (0 + 1) Zero = powA s := rfl
    have hx2 : (g0 :: powA s :: powA n :: pwr T).getD (0 + 2) Zero = powA n := rfl
    have hx0 : (g0 :: powA s :: powA n :: pwr T).getD 0 Zero = g0 := rfl
    have ho0 : (98 :: 66 :: pwo T).getD 0 (0 : UInt8) = 98 := rfl
    have ho1 : (98 :: 66 :: pwo T).getD (0 + 1) (0 : UInt8) = 66 := rfl
    have hp : pinAt (98 :: 66 :: pwo T) (g0 :: powA s :: powA n :: pwr T) 0 = true := by
      unfold pinAt; rw [ho0, ho1, hx1]
      unfold pinB; rw [if_pos rfl]
      simp only [powA_m, powA_v, or_true, and_self, decide_true, Bool.and_true]
      decide
    have hK : pinK (98 :: 66 :: pwo T) (g0 :: powA s :: powA n :: pwr T) 0 = s := by
      unfold pinK; rw [ho0, hx1]; unfold powE; rw [if_pos rfl]; exact powA_shx s
    have hE : pinE 98 s = ⟨0, 0, s⟩ := by unfold pinE; rw [if_neg (by decide)]
    have hz : sz2 ((s, n) :: T) = 1 + n.natAbs + sz2 T := rfl
    rw [hz] at hk
    obtain ⟨ok1, l1⟩ := lat_times hl (lat_t s hs1) (by omega)
    obtain ⟨ok2, l2⟩ := lat_times l1 (powA_lat n) (by omega)
    have hA : pinA (98 :: 66 :: pwo T) (g0 :: powA s :: powA n :: pwr T) 0 := by
      unfold pinA; rw [hK, ho0, hx0, hx2]
      refine ⟨allowed_300 (by rcases hs1 with rfl | rfl <;> simp), fun h => absurd h (by decide), ?_, ?_⟩
      · rw [hE]; exact ok1
      · rw [hE]; exact ok2
    have hG : pinG (98 :: 66 :: pwo T) (g0 :: powA s :: powA n :: pwr T) 0 = timesE (timesE g0 ⟨0, 0, s⟩) (powA n) :: pwr T := by
      unfold pinG; rw [hK, ho0, hx0, hx2]; unfold pinX; rw [hE]; rfl
    have hO : pinO (98 :: 66 :: pwo T) 0 = pwo T := rfl
    obtain ⟨st, h2, h3⟩ := red_inner T _ _ l2 (by omega) fun p hp => hs p (List.mem_cons_of_mem _ hp)
    refine ⟨(0, s) :: st, ?_, by simp [h3]⟩
    rw [redE_yes h1 hp hA, hK, hO, hG]
    show Option.map _ (redE _ _ 0) = _
    rw [h2]; rfl

theorem gr_front (n0 : Int) : ∀ R, gr n0 R = powA n0 :: pwr R.reverse
  | [] => rfl
  | (s, n) :: R => by
    rw [gr, gr_front n0 R]; simp [pwr, List.flatMap_append]
theorem og_front : ∀ R, og R = pwo R.reverse
  | [] => rfl
  | p :: R => by rw [og, og_front R]; simp [pwo, List.flatMap_append]
theorem pr_front (n0 : Int) : ∀ R, R.reverse.foldl (fun x p => timesE (timesE x ⟨0, 0, p.1⟩) (powA p.2)) (powA n0) = pr n0 R
  | [] => rfl
  | (s, n) :: R => by
    rw [List.reverse_cons, List.foldl_append, pr_front n0 R]; rfl
theorem sz2_append : ∀ a b, sz2 (a ++ b) = sz2 a + sz2 b
  | [], b => by simp [sz2]
  | p :: a, b => by simp only [List.cons_append, sz2, sz2_append a b]; omega
theorem sz_front (n0 : Int) : ∀ R, sz n0 R = n0.natAbs + sz2 R.reverse
  | [] => by simp [sz, sz2]
  | (s, n) :: R => by
    rw [sz, sz_front n0 R, List.reverse_cons, sz2_append]; simp only [sz2]; omega

/-- words of a and t are reduced to the product of their elements -/
theorem inner_law (L : List UInt8) (hL : L.length ≤ 100) : ∃ st, traceE (wordL L) = some (st, [], [prodE L]) ∧ st.length = tcount L := by
  obtain ⟨n0, R, h1, h2, h3, h4, h5⟩ := read_inner L.length L rfl
  rw [sz_front] at h3
  obtain ⟨st, h6, h7⟩ := red_inner R.reverse (powA n0) n0.natAbs (powA_lat n0) (by omega) (fun p hp => h5 p (by simpa using hp))
  refine ⟨st, ?_, by rw [h7]; simp [h4]⟩
  unfold traceE
  rw [h1, og_front, gr_front, h6, pr_front, h2]
end Sr
/- is, Unit. -/
namespace Sr
open Go Go.Proofs Go.RowKit Go.Maps Go.WideMaps

/-- is the word the unit -/
def unitE (o : List UInt8) (G : List E3) : Bool := decide (o = []) && decide (endE o G = Zero)
def Is1Q (b1 : Nat) (r : Option RedR) (W : World) (e : Ending) (W' : World) : Prop :=
  (∃ st o G, r = some (st, o, G) ∧ e = .returned (.tuple #[]) ∧ Hid (W'.heap[b1]? = some (.cells #[.bool (unitE o G)] 4 (0, 0))) ∧ Hid (Fr [b1] W W')) ∨ (r = none ∧ e = pan 5 ∧ Hid (Below W.heap.size W W'))

set_option maxHeartbeats 4000000 in
set_option maxRecDepth 100000 in
theorem is1_any {W : World} {s : ByteArray} (hs : s.size ≤ 1000) {b0 b1 : Nat} {z0 : Bool}
    (H : Hid (Has W [(b0, #[.string s], 9), (b1, #[.bool z0], 4)])) :
    Calls Tryz.prog 93 #[.pointer (some ⟨b0, 0, none⟩), .pointer (some ⟨b1, 0, none⟩)] W (Is1Q b1 (traceE s.data.toList) W) := by
  have c0 := H.out.cell (b := b0) (c := #[.string s]) (T := 9) (by simp) 0
  have hRd := read_calls (W := W) s hs
  have HSz : Hid ((readE s.data.toList).1.length ≤ 1000) := by
    show _ ≤ _
    have := readE_out s.data.toList
    simp at this; omega
  go_enter Tryz.func93, Tryz.ntmps93
  go_wp2_with fail
  refine hRd.mono ?_
  rintro e w1 ⟨p, ov, gv, q, rfl, hr1, hb1⟩
  have HB1 := Lib.hid hb1.out
  have hRe := reduce_any hr1.out (by have := HSz.out; omega) (readE_len _)
  clear hRd hr1 hb1 c0
  go_wp2_with fail
  refine hRe.mono ?_
  rintro e w2 (⟨st, o, G, hre, sv, ov2, gv2, l2, rfl, hr2, hs2, hb2⟩ | ⟨hno, rfl, hb2⟩)
  rotate_left
  · refine And.intro rfl ?_
    exact Or.inr ⟨hno, rfl, ⟨hb2.out.os.trans HB1.out.os, hb2.out.tape.trans HB1.out.tape, hb2.out.output.trans HB1.out.output, Nat.le_trans HB1.out.size hb2.out.size, fun k hk => (hb2.out.block k hk).trans (HB1.out.block k hk)⟩⟩
  have HRe : Hid (traceE s.data.toList = some (st, o, G)) := hre
  have HB2 : Hid (Below W.heap.size W w2) := ⟨hb2.out.os.trans HB1.out.os, hb2.out.tape.trans HB1.out.tape, hb2.out.output.trans HB1.out.output, Nat.le_trans HB1.out.size hb2.out.size, fun k hk => (hb2.out.block k hk).trans (HB1.out.block k hk)⟩
  have hlen := traceE_len hre
  have hol : o.length ≤ 100000 := by have := hlen.2; simp at this; omega
  have hEn := end_calls hr2.out hlen.1 hol
  clear hRe hre hr2 hs2 hb2 hlen
  go_wp2_with fail
  refine hEn.mono ?_
  rintro e w4 ⟨qu, qv, qm, rfl, hie, hb4⟩
  have HB4 := Lib.hid (Below.trans' HB2.out hb4.out)
  have HIE := Lib.hid hie.out
  have HH4 := Lib.hid (H.out.below HB4.out)
  have HB5 : Hid (Below W.heap.size W (w4.alloc (.cells #[.pointer qu, .pointer qv, .pointer qm] 28))) := HB4.out.alloc HB4.out.size _
  have HD5 : Hid (Below w4.heap.size w4 (w4.alloc (.cells #[.pointer qu, .pointer qv, .pointer qm] 28))) := (Below.refl _ _).alloc (Nat.le_refl _) _
  have HIE5 := Lib.hid (HIE.out.below HD5.out)
  have HH5 := Lib.hid (HH4.out.below HD5.out)
  have y1 := HH5.out (b1, #[.bool z0], 4) (by simp)
  dsimp only at y1
  have Y1 := Lib.hid y1
  have d1 := cell_of Y1.out 0
  have f1 := free_of Y1.out 0
  clear hEn hie hb4 y1
  by_cases ho : o = []
  · have hlz : o.length = 0 := by rw [ho]; rfl
    have HU : Hid (unitE o G = decide (endE o G = Zero)) := by show _ = _; unfold unitE; simp [ho]
    have hUn := unit_calls HIE5.out
    rw [hlz]
    clear ho hlz
    clear d1 f1
    go_wp2_with fail
    refine hUn.mono ?_
    rintro e w6 ⟨rfl, hb6⟩
    have Y6 := Lib.hid (Below.here hb6.out Y1.out)
    have HB6 := Lib.hid (Below.trans' HB5.out hb6.out)
    have d1 := cell_of Y6.out 0
    have f1 := free_of Y6.out 0
    clear hUn hb6
    go_wp2_with fail
    go_end0
    refine Or.inl ⟨st, o, G, HRe.out, rfl, ?_, (Fr.of_below HB6.out).pre (fr_setCell _ _ (by simp))⟩
    show _ = _
    rw [HU.out]
    exact heap_setCell_same w6 b1 0 _ 4 _ Y6.out
  · have hlz : o.length ≠ 0 := by intro h; exact ho (List.length_eq_zero_iff.1 h)
    have hlz1 : decide ((o.length : Int) = 0) = false := by simp only [decide_eq_false_iff_not]; omega
    have hlz2 : ((o.length : Int) == 0) = false := by simpa using hlz1
    have HU : Hid (unitE o G = false) := by show _ = _; unfold unitE; simp [ho]
    clear ho
    go_wp2_with fail
    go_end0
    refine Or.inl ⟨st, o, G, HRe.out, rfl, ?_, (Fr.of_below HB5.out).pre (fr_setCell _ _ (by simp))⟩
    show _ = _
    rw [HU.out]
    exact heap_setCell_same _ b1 0 _ 4 _ Y1.out
end Sr
/- is, Unit: the functions. -/
namespace Sr
open Go Go.Proofs Go.RowKit Go.Maps Go.WideMaps

set_option maxRecDepth 100000 in
theorem eg93 (args : Array Value) (w : World) : (callFunc 93 args).run Tryz.prog w = .ok (.enter 93 args) w := by kernel_rfl
set_option maxRecDepth 100000 in
theorem eg46 (args : Array Value) (w : World) : (callFunc 46 args).run Tryz.prog w = .ok (.enter 46 args) w := by kernel_rfl

/-- how is ends -/
def IsQ (r : Option RedR) (W : World) (e : Ending) (W' : World) : Prop :=
  Hid (Below W.heap.size W W') ∧ ((∃ st o G, r = some (st, o, G) ∧ e = .returned (.tuple #[.bool (unitE o G), .int .i64 0])) ∨ (r = none ∧ e = .returned (.tuple #[.bool false, .int .i64 5])))

set_option maxHeartbeats 4000000 in
set_option maxRecDepth 100000 in
theorem is_any {W : World} {s : ByteArray} (hs : s.size ≤ 1000) : Calls Tryz.prog 51 #[.string s] W (IsQ (traceE s.data.toList) W) := by
  obtain ⟨W2, hW2⟩ : ∃ W2, W2 = (W.alloc (.cells #[.string s] 9)).alloc (.cells #[.bool false] 4) := ⟨_, rfl⟩
  have HW2 := Lib.hid hW2
  have HB2 : Hid (Below W.heap.size W W2) := by show Below _ _ _; rw [hW2]; exact ((Below.refl _ _).alloc (Nat.le_refl _) _).alloc (by simp) _
  have HH : Hid (Has W2 [(W.heap.size, #[.string s], 9), (W.heap.size + 1, #[.bool false], 4)]) := by
    show Has _ _
    have h := ((Has.nil W).add #[.string s] 9).add #[.bool false] 4
    rw [size_alloc] at h
    rw [hW2]; exact fun p hp => h p (by simp at hp ⊢; rcases hp with rfl | rfl <;> simp)
  have hz2 : Hid (W2.heap.size = W.heap.size + 2) := by show _ = _; rw [hW2]; simp
  clear hW2
  have HB3 : Hid (Below W2.heap.size W2 (W2.alloc (.cells #[.int .i64 0] 29))) := (Below.refl _ _).alloc (Nat.le_refl _) _
  have HH3 := Lib.hid (HH.out.below HB3.out)
  have hC := is1_any (W := W2.alloc (.cells #[.int .i64 0] 29)) (s := s) hs HH3
  have hG := guarded_any (W := W2) (R := fun n W1 => Below W.heap.size W W1 ∧ ((n = 0 ∧ ∃ st o G, traceE s.data.toList = some (st, o, G) ∧ W1.heap[W.heap.size + 1]? = some (.cells #[.bool (unitE o G)] 4 (0, 0))) ∨ (n = 5 ∧ traceE s.data.toList = none ∧ W1.heap[W.heap.size + 1]? = some (.cells #[.bool false] 4 (0, 0))))) eg93 (hC.mono fun e w h => by
    rcases h with ⟨st, o, G, hr, rfl, hb, hf⟩ | ⟨hr, rfl, hb⟩
    · refine ⟨.inl ⟨rfl, ?_, .inl ⟨rfl, st, o, G, hr, hb.out⟩⟩, ?_⟩
      · exact below_fr (below_fr HB2.out (Nat.le_refl _) (F := []) (by simp) (Fr.of_below HB3.out)) (Nat.le_refl _) (by intro b hb; simp at hb; omega) hf.out
      · exact (hf.out.block _ (by simp) (by have := hz2.out; simp; omega)).trans (heap_last W2 _)
    · refine ⟨.inr ⟨5, rfl, ?_, .inr ⟨rfl, hr, ?_⟩⟩, ?_⟩
      · exact Below.trans' HB2.out (Below.trans' HB3.out hb.out)
      · exact Below.here hb.out (HH3.out (W.heap.size + 1, #[.bool false], 4) (by simp))
      · exact Below.here hb.out (heap_last W2 _))
  clear hC
  go_enter Tryz.func51, Tryz.ntmps51
  go_wp2_with fail
  rw [show (W.alloc (.cells #[.string s] 9)).alloc (.cells #[.bool false] 4) = W2 from HW2.out.symm]
  refine hG.mono ?_
  rintro e w ⟨n, W1, rfl, hR, h29, he⟩
  obtain ⟨hbl, hcase⟩ := hR.out
  have hn29 : W.heap.size + 1 ≠ W2.heap.size := by have := hz2.out; omega
  have HBw : Hid (Below W.heap.size W w) := by show Below _ _ _; rw [he]; exact hbl.setCell (by show W.heap.size ≤ W2.heap.size; have := hz2.out; omega) _
  rcases hcase with ⟨rfl, st, o, G, hr, hc⟩ | ⟨rfl, hr, hc⟩
  · have Y : Hid (w.heap[W.heap.size + 1]? = some (.cells #[.bool (unitE o G)] 4 (0, 0))) := by show _ = _; rw [he]; exact (RowKit.Below.heap_setCell _ _ _ _ hn29).trans hc
    have HRr : Hid (traceE s.data.toList = some (st, o, G)) := hr
    have d0 := cell_of Y.out 0
    have f0 := free_of Y.out 0
    clear hr hc he hR h29 hG hbl
    go_wp2_with fail
    refine bodyPost_ret (v := .tuple #[.bool (unitE o G), .int .i64 0]) (by simp [results, Tryz.results51, go_sem, d0]) rfl ?_
    exact ⟨HBw.out.setCell (by show W.heap.size ≤ W.heap.size + 1; omega) _, .inl ⟨st, o, G, HRr.out, rfl⟩⟩
  · have Y : Hid (w.heap[W.heap.size + 1]? = some (.cells #[.bool false] 4 (0, 0))) := by show _ = _; rw [he]; exact (RowKit.Below.heap_setCell _ _ _ _ hn29).trans hc
    have HRr : Hid (traceE s.data.toList = none) := hr
    have d0 := cell_of Y.out 0
    have f0 := free_of Y.out 0
    clear hr hc he hR h29 hG hbl
    go_wp2_with fail
    refine bodyPost_ret (v := .tuple #[.bool false, .int .i64 5]) (by simp [results, Tryz.results51, go_sem, d0]) rfl ?_
    exact ⟨HBw.out.setCell (by show W.heap.size ≤ W.heap.size + 1; omega) _, .inr ⟨HRr.out, rfl⟩⟩

/-- how Unit ends -/
def UnitQ (l : List UInt8) (W : World) (e : Ending) (W' : World) : Prop :=
  Hid (Below W.heap.size W W') ∧ ((isWordL l = false ∧ e = .returned (.tuple #[.bool false, .int .i64 2])) ∨ (isWordL l = true ∧ ((∃ st o G, traceE l = some (st, o, G) ∧ e = .returned (.tuple #[.bool (unitE o G), .int .i64 0])) ∨ (traceE l = none ∧ e = .returned (.tuple #[.bool false, .int .i64 5])))))

theorem isWordL_size {s : ByteArray} (h : isWordL s.data.toList = true) : s.size ≤ 400 := by
  unfold isWordL at h
  simp at h
  simpa using h.1

set_option maxHeartbeats 4000000 in
set_option maxRecDepth 100000 in
theorem Unit_any {W : World} {s : ByteArray} (hs : s.size ≤ 9223372036854775807) : Calls Tryz.prog 18 #[.string s] W (UnitQ s.data.toList W) := by
  have hIw := isWord_calls s W hs
  by_cases hw : isWordL s.data.toList = true
  · rw [hw] at hIw
    have HWd := Lib.hid hw
    have hsz := isWordL_size hw
    clear hw
    go_enter Tryz.func18, Tryz.ntmps18
    go_wp2_with fail
    refine hIw.mono ?_
    rintro e w1 ⟨rfl, hb1⟩
    have hIs := is_any (W := w1) (s := s) (by omega)
    have HB1 := Lib.hid hb1.out
    clear hIw hb1
    go_wp2_with fail
    refine hIs.mono ?_
    rintro e w2 ⟨hb2, ⟨st, o, G, hr, rfl⟩ | ⟨hr, rfl⟩⟩
    · have HRr := Lib.hid hr
      clear hr
      go_wp2_with fail
      go_ret2
      exact ⟨Below.trans' HB1.out hb2.out, .inr ⟨HWd.out, .inl ⟨st, o, G, HRr.out, rfl⟩⟩⟩
    · have HRr := Lib.hid hr
      clear hr
      go_wp2_with fail
      go_ret2
      exact ⟨Below.trans' HB1.out hb2.out, .inr ⟨HWd.out, .inr ⟨HRr.out, rfl⟩⟩⟩
  · have hwf : isWordL s.data.toList = false := by simpa using hw
    rw [hwf] at hIw
    have HWd := Lib.hid hwf
    clear hw hwf
    go_enter Tryz.func18, Tryz.ntmps18
    go_wp2_with fail
    refine hIw.mono ?_
    rintro e w1 ⟨rfl, hb1⟩
    have HB1 := Lib.hid hb1.out
    clear hIw hb1
    go_wp2_with fail
    go_ret2
    exact ⟨HB1, .inl ⟨HWd.out, rfl⟩⟩
end Sr
/- Trace. -/
namespace Sr
open Go Go.Proofs Go.RowKit Go.Maps Go.WideMaps

theorem StRow.weak {B0 B1 : Nat} {w : World} {v : Value} {st : List (Nat × Int)} (h : StRow B0 w v st) (hB : B1 ≤ B0) : StRow B1 w v st := ⟨by
  obtain ⟨vs, k1, k2, k3⟩ := h.row
  exact ⟨vs, k1, k2, fun i u t hu ht => ⟨(k3 i u t hu ht).1, fun b e => Nat.le_trans hB ((k3 i u t hu ht).2 b e)⟩⟩, fun b e => Nat.le_trans hB (h.own b e)⟩
theorem TrV.set {b1 b2 b3 B0 : Nat} {st : List (Nat × Int)} {o : List UInt8} {G : List E3} {sv : Value} {qu qv qm : Option Addr} {w : World} (h : TrV b1 b2 b3 B0 st o G sv qu qv qm w) {b k : Nat} {c : Array Value} {z : Nat × Nat} (hb : w.heap[b]? = some (.cells c 29 z)) (v : Value) :
    TrV b1 b2 b3 B0 st o G sv qu qv qm (w.setCell ⟨b, k, none⟩ v) := {
  row := h.row.set hb v
  el := h.el.set hb v
  v1 := (RowKit.Below.heap_setCell _ _ _ _ (type_ne h.v1 hb (by decide))).trans h.v1
  v2 := (RowKit.Below.heap_setCell _ _ _ _ (type_ne h.v2 hb (by decide))).trans h.v2
  v3 := (RowKit.Below.heap_setCell _ _ _ _ (type_ne h.v3 hb (by decide))).trans h.v3 }
theorem TrV.below {b1 b2 b3 B0 : Nat} {st : List (Nat × Int)} {o : List UInt8} {G : List E3} {sv : Value} {qu qv qm : Option Addr} {w w' : World} (h : TrV b1 b2 b3 B0 st o G sv qu qv qm w) (hb : Below w.heap.size w w') : TrV b1 b2 b3 B0 st o G sv qu qv qm w' := {
  row := h.row.below hb
  el := h.el.below hb
  v1 := Below.here hb h.v1
  v2 := Below.here hb h.v2
  v3 := Below.here hb h.v3 }

/-- what is there is stored: nothing changes -/
theorem setCell_self {w : World} {b o : Nat} {v : Value} (h : w.cell? ⟨b, o, none⟩ = some v) : w.setCell ⟨b, o, none⟩ v = w := by
  unfold World.cell? at h
  unfold World.setCell
  have key : (w.heap.modify b fun | .cells c elem frozen => .cells (c.setIfInBounds o v) elem frozen | o => o) = w.heap := by
    apply Array.ext
    · simp
    · intro i h1 h2
      rw [Array.getElem_modify]
      split
      · rename_i hb
        subst hb
        rw [Array.getElem?_eq_getElem h2] at h
        cases hc : w.heap[b] with
        | cells c e f =>
          rw [hc] at h
          dsimp only at h ⊢
          congr 1
          have h' : c[o]? = some v := by simpa using h
          obtain ⟨ho, rfl⟩ := Array.getElem?_eq_some_iff.1 h'
          apply Array.ext
          · simp
          · intro j h3 h4
            rw [Array.getElem_setIfInBounds]
            split
            · rename_i he; subst he; rfl
            · rfl
        | _ => exact absurd (h.symm.trans (by rw [hc])) (by simp)
      · rfl
  simp only [Option.isSome_none, Bool.false_eq_true, if_false]
  exact congrArg (fun h => ({ w with heap := h } : World)) key

/-- how Trace ends -/
def TrQ (l : List UInt8) (W : World) (e : Ending) (W' : World) : Prop :=
  Hid (Below W.heap.size W W') ∧ ((isWordL l = false ∧ e = .returned (.tuple #[.slice none 0 0, .int .i64 0, .agg #[.pointer none, .pointer none, .pointer none], .int .i64 2])) ∨
    (isWordL l = true ∧ traceE l = none ∧ e = .returned (.tuple #[.slice none 0 0, .int .i64 0, .agg #[.pointer none, .pointer none, .pointer none], .int .i64 5])) ∨
    (isWordL l = true ∧ ∃ st o G, traceE l = some (st, o, G) ∧ ∃ sa sn sc qu qv qm, e = .returned (.tuple #[.slice sa sn sc, .int .i64 o.length, .agg #[.pointer qu, .pointer qv, .pointer qm], .int .i64 0]) ∧ Hid (StRow W.heap.size W' (.slice sa sn sc) st) ∧ Hid (IsE W' (.agg #[.pointer qu, .pointer qv, .pointer qm]) (endE o G))))

set_option maxHeartbeats 8000000 in
set_option maxRecDepth 100000 in
theorem Trace_any {W : World} {s : ByteArray} (hs : s.size ≤ 9223372036854775807) : Calls Tryz.prog 14 #[.string s] W (TrQ s.data.toList W) := by
  obtain ⟨W4, hW4⟩ : ∃ W4, W4 = (((W.alloc (.cells #[.string s] 9)).alloc (.cells #[.slice none 0 0] 23)).alloc (.cells #[.int .i64 0] 3)).alloc (.cells #[.pointer none, .pointer none, .pointer none] 28) := ⟨_, rfl⟩
  have HW4 := Lib.hid hW4
  have HB4 : Hid (Below W.heap.size W W4) := by show Below _ _ _; rw [hW4]; exact ((((Below.refl _ _).alloc (Nat.le_refl _) _).alloc (by simp) _).alloc (by simp; omega) _).alloc (by simp; omega) _
  have HH : Hid (Has W4 [(W.heap.size, #[.string s], 9), (W.heap.size + 1, #[.slice none 0 0], 23), (W.heap.size + 1 + 1, #[.int .i64 0], 3), (W.heap.size + 1 + 1 + 1, #[.pointer none, .pointer none, .pointer none], 28)]) := by
    show Has _ _
    have h := ((((Has.nil W).add #[.string s] 9).add #[.slice none 0 0] 23).add #[.int .i64 0] 3).add #[.pointer none, .pointer none, .pointer none] 28
    rw [size_alloc, size_alloc, size_alloc] at h
    rw [hW4]; exact fun p hp => h p (by simp at hp ⊢; rcases hp with rfl | rfl | rfl | rfl <;> simp)
  have hz4 : Hid (W4.heap.size = W.heap.size + 4) := by show _ = _; rw [hW4]; simp
  clear hW4
  have hIw := isWord_calls s W4 hs
  by_cases hw : isWordL s.data.toList = true
  · rw [hw] at hIw
    have HWd := Lib.hid hw
    have hsz := isWordL_size hw
    clear hw
    go_enter Tryz.func14, Tryz.ntmps14
    go_wp2_with fail
    rw [show (((W.alloc (.cells #[.string s] 9)).alloc (.cells #[.slice none 0 0] 23)).alloc (.cells #[.int .i64 0] 3)).alloc (.cells #[.pointer none, .pointer none, .pointer none] 28) = W4 from HW4.out.symm]
    refine hIw.mono ?_
    rintro e w1 ⟨rfl, hb1⟩
    have HB1 := Lib.hid (Below.trans' HB4.out hb1.out)
    have HH1 := Lib.hid (HH.out.below hb1.out)
    have hz1 : W.heap.size + 4 ≤ w1.heap.size := by have := hb1.out.size; have := hz4.out; omega
    clear hIw hb1
    have HB3 : Hid (Below w1.heap.size w1 (w1.alloc (.cells #[.int .i64 0] 29))) := (Below.refl _ _).alloc (Nat.le_refl _) _
    have HH3 := Lib.hid (HH1.out.below HB3.out)
    have hC := trace1_any (W := w1.alloc (.cells #[.int .i64 0] 29)) (s := s) (by omega) HH3
    have hG := guarded_any (W := w1) (R := fun n W1 => Below W.heap.size W W1 ∧ ((n = 0 ∧ ∃ st o G sv qu qv qm, traceE s.data.toList = some (st, o, G) ∧ TrV (W.heap.size + 1) (W.heap.size + 1 + 1) (W.heap.size + 1 + 1 + 1) W.heap.size st o G sv qu qv qm W1) ∨ (n = 5 ∧ traceE s.data.toList = none ∧ Has W1 [(W.heap.size + 1, #[.slice none 0 0], 23), (W.heap.size + 1 + 1, #[.int .i64 0], 3), (W.heap.size + 1 + 1 + 1, #[.pointer none, .pointer none, .pointer none], 28)]))) eg46 (hC.mono fun e w h => by
      rcases h with ⟨st, o, G, hr, rfl, sv, qu, qv, qm, hv, hf⟩ | ⟨hr, rfl, hb⟩
      · refine ⟨.inl ⟨rfl, ?_, .inl ⟨rfl, st, o, G, sv, qu, qv, qm, hr, ?_⟩⟩, ?_⟩
        · exact below_fr (below_fr HB1.out (Nat.le_refl _) (F := []) (by simp) (Fr.of_below HB3.out)) (Nat.le_refl _) (by intro b hb; simp at hb; omega) hf.out
        · exact { row := hv.out.row.weak (by simp; omega), el := hv.out.el, v1 := hv.out.v1, v2 := hv.out.v2, v3 := hv.out.v3 }
        · exact (hf.out.block _ (by simp) (by simp; omega)).trans (heap_last w1 _)
      · refine ⟨.inr ⟨5, rfl, ?_, .inr ⟨rfl, hr, ?_⟩⟩, ?_⟩
        · exact Below.trans' HB1.out (Below.trans' HB3.out hb.out)
        · exact fun p hp => (HH3.out.below hb.out) p (by simp at hp ⊢; rcases hp with rfl | rfl | rfl <;> simp)
        · exact Below.here hb.out (heap_last w1 _))
    clear hC
    go_wp2_with fail
    refine hG.mono ?_
    rintro e w ⟨n, W1, rfl, hR, h29, he⟩
    obtain ⟨hbl, hcase⟩ := hR.out
    have HBw : Hid (Below W.heap.size W w) := by show Below _ _ _; rw [he]; exact hbl.setCell (by show W.heap.size ≤ w1.heap.size; omega) _
    rcases hcase with ⟨rfl, st, o, G, sv, qu, qv, qm, hr, hv⟩ | ⟨rfl, hr, hv⟩
    · have HV : Hid (TrV (W.heap.size + 1) (W.heap.size + 1 + 1) (W.heap.size + 1 + 1 + 1) W.heap.size st o G sv qu qv qm w) := by show TrV _ _ _ _ _ _ _ _ _ _ _ _; rw [he]; exact hv.set h29.out _
      have HRr : Hid (traceE s.data.toList = some (st, o, G)) := hr
      obtain ⟨sa, sc, hsv⟩ : ∃ sa sc, sv = .slice sa st.length sc := by
        obtain ⟨vs, k1, k2, k3⟩ := HV.out.row.row
        exact rown_shape k2
      obtain ⟨N, hN⟩ : ∃ N, N = st.length := ⟨_, rfl⟩
      rw [← hN] at hsv
      subst hsv
      have v1 := cell_of HV.out.v1 0
      have v2 := cell_of HV.out.v2 0
      have v30 := cell_of HV.out.v3 0
      have v31 := cell_of HV.out.v3 1
      have v32 := cell_of HV.out.v3 2
      have f1 := free_of HV.out.v1 0
      have f2 := free_of HV.out.v2 0
      have f30 := free_of HV.out.v3 0
      have f31 := free_of HV.out.v3 1
      have f32 := free_of HV.out.v3 2
      have e1 : w.setCell ⟨W.heap.size + 1, 0, none⟩ (.slice sa N sc) = w := setCell_self v1
      have e2 : w.setCell ⟨W.heap.size + 1 + 1, 0, none⟩ (.int .i64 o.length) = w := setCell_self v2
      have e30 : w.setCell ⟨W.heap.size + 1 + 1 + 1, 0, none⟩ (.pointer qu) = w := setCell_self v30
      have e31 : w.setCell ⟨W.heap.size + 1 + 1 + 1, 1, none⟩ (.pointer qv) = w := setCell_self v31
      have e32 : w.setCell ⟨W.heap.size + 1 + 1 + 1, 2, none⟩ (.pointer qm) = w := setCell_self v32
      clear hr hv he hR h29 hG hbl hN
      go_wp2_with fail
      go_region_law (fail)
      all_goals
        try simp only [e1, e2, e30, e31, e32]
        go_wp2_with fail
        refine bodyPost_ret (v := .tuple #[.slice sa N sc, .int .i64 o.length, .agg #[.pointer qu, .pointer qv, .pointer qm], .int .i64 0]) (by simp [results, Tryz.results14, go_sem, v1, v2, v30, v31, v32]) rfl ?_
        refine ⟨HBw.out.drew, .inr (.inr ⟨HWd.out, st, o, G, HRr.out, sa, N, sc, qu, qv, qm, rfl, ?_, ?_⟩)⟩
        · exact HV.out.row.below (Below.refl _ _).drew
        · exact HV.out.el.below (Below.refl _ _).drew
    · have HRr : Hid (traceE s.data.toList = none) := hr
      have HHw : Hid (Has w [(W.heap.size + 1, #[.slice none 0 0], 23), (W.heap.size + 1 + 1, #[.int .i64 0], 3), (W.heap.size + 1 + 1 + 1, #[.pointer none, .pointer none, .pointer none], 28)]) := by
        show Has _ _; rw [he]
        intro p hp
        refine (RowKit.Below.heap_setCell _ _ _ _ ?_).trans (hv p hp)
        simp at hp
        rcases hp with rfl | rfl | rfl
        · exact type_ne (hv (W.heap.size + 1, #[.slice none 0 0], 23) (by simp)) h29.out (by dsimp only; decide)
        · exact type_ne (hv (W.heap.size + 1 + 1, #[.int .i64 0], 3) (by simp)) h29.out (by dsimp only; decide)
        · exact type_ne (hv (W.heap.size + 1 + 1 + 1, #[.pointer none, .pointer none, .pointer none], 28) (by simp)) h29.out (by dsimp only; decide)
      have y1 := HHw.out (W.heap.size + 1, #[.slice none 0 0], 23) (by simp)
      have y2 := HHw.out (W.heap.size + 1 + 1, #[.int .i64 0], 3) (by simp)
      have y3 := HHw.out (W.heap.size + 1 + 1 + 1, #[.pointer none, .pointer none, .pointer none], 28) (by simp)
      dsimp only at y1 y2 y3
      have v1 := cell_of y1 0
      have v2 := cell_of y2 0
      have v30 := cell_of y3 0
      have v31 := cell_of y3 1
      have v32 := cell_of y3 2
      have f1 := free_of y1 0
      have f2 := free_of y2 0
      have f30 := free_of y3 0
      have f31 := free_of y3 1
      have f32 := free_of y3 2
      clear hr hv he hR h29 hG hbl y1 y2 y3
      go_wp2_with fail
      refine bodyPost_ret (v := .tuple #[.slice none 0 0, .int .i64 0, .agg #[.pointer none, .pointer none, .pointer none], .int .i64 5]) (by simp [results, Tryz.results14, go_sem, v1, v2, v30, v31, v32]) rfl ?_
      refine ⟨?_, .inr (.inl ⟨HWd.out, HRr.out, rfl⟩)⟩
      exact ((((HBw.out.setCell (by show W.heap.size ≤ W.heap.size + 1; omega) _).setCell (by show W.heap.size ≤ W.heap.size + 1 + 1; omega) _).setCell (by show W.heap.size ≤ W.heap.size + 1 + 1 + 1; omega) _).setCell (by show W.heap.size ≤ W.heap.size + 1 + 1 + 1; omega) _).setCell (by show W.heap.size ≤ W.heap.size + 1 + 1 + 1; omega) _
  · have hwf : isWordL s.data.toList = false := by simpa using hw
    rw [hwf] at hIw
    have HWd := Lib.hid hwf
    clear hw hwf
    go_enter Tryz.func14, Tryz.ntmps14
    go_wp2_with fail
    rw [show (((W.alloc (.cells #[.string s] 9)).alloc (.cells #[.slice none 0 0] 23)).alloc (.cells #[.int .i64 0] 3)).alloc (.cells #[.pointer none, .pointer none, .pointer none] 28) = W4 from HW4.out.symm]
    refine hIw.mono ?_
    rintro e w ⟨rfl, hb1⟩
    have HBw := Lib.hid (Below.trans' HB4.out hb1.out)
    have HHw := Lib.hid (HH.out.below hb1.out)
    have y1 := HHw.out (W.heap.size + 1, #[.slice none 0 0], 23) (by simp)
    have y2 := HHw.out (W.heap.size + 1 + 1, #[.int .i64 0], 3) (by simp)
    have y3 := HHw.out (W.heap.size + 1 + 1 + 1, #[.pointer none, .pointer none, .pointer none], 28) (by simp)
    dsimp only at y1 y2 y3
    have v1 := cell_of y1 0
    have v2 := cell_of y2 0
    have v30 := cell_of y3 0
    have v31 := cell_of y3 1
    have v32 := cell_of y3 2
    have f1 := free_of y1 0
    have f2 := free_of y2 0
    have f30 := free_of y3 0
    have f31 := free_of y3 1
    have f32 := free_of y3 2
    clear hIw hb1 y1 y2 y3
    go_wp2_with fail
    refine bodyPost_ret (v := .tuple #[.slice none 0 0, .int .i64 0, .agg #[.pointer none, .pointer none, .pointer none], .int .i64 2]) (by simp [results, Tryz.results14, go_sem, v1, v2, v30, v31, v32]) rfl ?_
    refine ⟨?_, .inl ⟨HWd.out, rfl⟩⟩
    exact ((((HBw.out.setCell (by show W.heap.size ≤ W.heap.size + 1; omega) _).setCell (by show W.heap.size ≤ W.heap.size + 1 + 1; omega) _).setCell (by show W.heap.size ≤ W.heap.size + 1 + 1 + 1; omega) _).setCell (by show W.heap.size ≤ W.heap.size + 1 + 1 + 1; omega) _).setCell (by show W.heap.size ≤ W.heap.size + 1 + 1 + 1; omega) _
end Sr
