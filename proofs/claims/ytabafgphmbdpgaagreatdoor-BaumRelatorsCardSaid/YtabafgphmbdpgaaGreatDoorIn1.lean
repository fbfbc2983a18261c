/- Texts of this claim, joined: Naf, Sum, Parts, Gap, Ghost, MapF, Wd, Cmp, Cmp2, Cmp3, Cmp4. -/
import Derived.Maps.OwnSet
import Derived.Test.YtabafgphmbdpgaaGreatDoorProg
import Derived.WalkKit
import Derived.WalkSpells
import Derived.Outline
import Derived.WideKeyArgs2
import Derived.DeepKeys4
import Derived.Deep.LoopGhost
import Derived.Deep.CutBlock
import Derived.Deep.CutRange
import Derived.Deep.RegionWith
import Derived.BigRegion
import Derived.BigQuiet
import Derived.Deep.RegionHeld3
import Derived.StillTailTactics
namespace Sr
/-- a term: minus sign, exponent -/
abbrev Tm := Bool × Nat
def tv (t : Tm) : Int := if t.1 then -(2 ^ t.2 : Int) else (2 ^ t.2 : Int)
def lv : List Tm → Int
  | [] => 0
  | t :: l => tv t + lv l
/-- the greatest exponent first, no two neighbours -/
def Naf (l : List Tm) : Prop := l.Pairwise (fun a b => b.2 + 1 < a.2)

theorem lv_append (a b : List Tm) : lv (a ++ b) = lv a + lv b := by
  induction a with
  | nil => simp [lv]
  | cons t a ih => simp [lv, ih]; omega

theorem two_pow_pos (n : Nat) : (0 : Int) < 2 ^ n := Int.pow_pos (by omega)
theorem two_pow_succ (n : Nat) : (2 : Int) ^ (n + 1) = 2 * 2 ^ n := by rw [Int.pow_succ]; omega
theorem two_pow_mono {m n : Nat} (h : m ≤ n) : (2 : Int) ^ m ≤ 2 ^ n := by
  have := Nat.pow_le_pow_right (show 0 < 2 by omega) h
  have h2 : ((2 ^ m : Nat) : Int) ≤ ((2 ^ n : Nat) : Int) := by exact_mod_cast this
  simpa using h2

theorem Naf.tail {t : Tm} {l : List Tm} (h : Naf (t :: l)) : Naf l := (List.pairwise_cons.1 h).2

/-- a form is less than 4/3 of its greatest power, more than 2/3 -/
theorem naf_bound : ∀ (l : List Tm), Naf l → ∀ e, (∀ t ∈ l, t.2 < e) → 3 * lv l < 2 * 2 ^ e ∧ -(2 * 2 ^ e) < 3 * lv l := by
  intro l
  induction l with
  | nil => intro _ e _; have := two_pow_pos e; simp [lv]; omega
  | cons t l ih =>
    intro h e he
    have ht : t.2 < e := he t (by simp)
    obtain ⟨h1, h2⟩ := List.pairwise_cons.1 h
    -- the tail has exponents below t.2 - 1
    have hp := two_pow_pos t.2
    have hm := two_pow_mono (show t.2 + 1 ≤ e by omega)
    rw [two_pow_succ] at hm
    cases l with
    | nil => simp only [lv, tv]; split <;> omega
    | cons u l =>
      have hu := h1 u (by simp)
      obtain ⟨q, hq⟩ : ∃ q, t.2 = q + 1 := ⟨t.2 - 1, by omega⟩
      have := ih h2 q (fun v hv => by have := h1 v hv; omega)
      rw [hq, two_pow_succ] at hm hp
      simp only [lv] at this ⊢
      simp only [tv, hq, two_pow_succ] at this ⊢
      split <;> omega

theorem naf_top {t : Tm} {l : List Tm} (h : Naf (t :: l)) : 3 * lv l < 2 ^ t.2 ∧ -(2 ^ t.2 : Int) < 3 * lv l := by
  obtain ⟨h1, h2⟩ := List.pairwise_cons.1 h
  cases l with
  | nil => have := two_pow_pos t.2; simp [lv]; omega
  | cons u l =>
    have hu := h1 u (by simp)
    obtain ⟨q, hq⟩ : ∃ q, t.2 = q + 1 := ⟨t.2 - 1, by omega⟩
    have := naf_bound (u :: l) h2 q (fun v hv => by have := h1 v hv; omega)
    rw [hq, two_pow_succ]; omega

theorem naf_pos {e : Nat} {l : List Tm} (h : Naf ((false, e) :: l)) : 2 * 2 ^ e < 3 * lv ((false, e) :: l) ∧ 3 * lv ((false, e) :: l) < 4 * 2 ^ e := by
  have := naf_top h; simp only [lv, tv] at this ⊢; simp; omega
theorem naf_neg {e : Nat} {l : List Tm} (h : Naf ((true, e) :: l)) : 3 * lv ((true, e) :: l) < -(2 * 2 ^ e) ∧ -(4 * 2 ^ e) < 3 * lv ((true, e) :: l) := by
  have := naf_top h; simp only [lv, tv] at this ⊢; simp; omega

/-- how two lists compare by their first difference -/
def sg (m : Bool) : Int := if m then -1 else 1
def isg (x : Int) : Int := if x < 0 then -1 else if x = 0 then 0 else 1
def lcmp : List Tm → List Tm → Int
  | [], [] => 0
  | [], y :: _ => -(sg y.1)
  | x :: _, [] => sg x.1
  | x :: a, y :: b => if x = y then lcmp a b else if x.1 ≠ y.1 then sg x.1 else sg x.1 * isg ((x.2 : Int) - y.2)

theorem isg_neg {x : Int} (h : x < 0) : isg x = -1 := by simp [isg, h]
theorem isg_pos {x : Int} (h : 0 < x) : isg x = 1 := by unfold isg; rw [if_neg (by omega), if_neg (by omega)]

theorem lcmp_eq : ∀ (a b : List Tm), Naf a → Naf b → lcmp a b = isg (lv a - lv b) := by
  intro a
  induction a with
  | nil =>
    intro b _ hb
    cases b with
    | nil => simp [lcmp, lv, isg]
    | cons y b =>
      obtain ⟨s, e⟩ := y
      have := two_pow_pos e
      cases s
      · have := naf_pos hb; rw [isg_neg (by simp only [lv] at *; omega)]; simp [lcmp, sg]
      · have := naf_neg hb; rw [isg_pos (by simp only [lv] at *; omega)]; simp [lcmp, sg]
  | cons x a ih =>
    intro b ha hb
    cases b with
    | nil =>
      obtain ⟨s, e⟩ := x
      have := two_pow_pos e
      cases s
      · have := naf_pos ha; rw [isg_pos (by simp only [lv] at *; omega)]; simp [lcmp, sg]
      · have := naf_neg ha; rw [isg_neg (by simp only [lv] at *; omega)]; simp [lcmp, sg]
    | cons y b =>
      unfold lcmp
      by_cases hxy : x = y
      · subst hxy; rw [if_pos rfl, ih b ha.tail hb.tail]; congr 1; simp only [lv]; omega
      · rw [if_neg hxy]
        obtain ⟨s, e⟩ := x
        obtain ⟨s', e'⟩ := y
        have p := two_pow_pos e
        have p' := two_pow_pos e'
        cases s <;> cases s'
        · have h1 := naf_pos ha
          have h2 := naf_pos hb
          have hne : e ≠ e' := fun h => hxy (by rw [h])
          simp only [ne_eq, not_true_eq_false, if_false, sg]
          rcases Nat.lt_or_gt_of_ne hne with h | h
          · have hm := two_pow_mono (show e + 1 ≤ e' by omega); rw [two_pow_succ] at hm
            rw [isg_neg (by omega), isg_neg (by omega)]; rfl
          · have hm := two_pow_mono (show e' + 1 ≤ e by omega); rw [two_pow_succ] at hm
            rw [isg_pos (by omega), isg_pos (by omega)]; rfl
        · have h1 := naf_pos ha
          have h2 := naf_neg hb
          simp only [ne_eq, Bool.false_eq_true, not_false_eq_true, if_true, sg, if_false]
          rw [isg_pos (by omega)]
        · have h1 := naf_neg ha
          have h2 := naf_pos hb
          simp only [ne_eq, Bool.true_eq_false, not_false_eq_true, if_true, sg]
          rw [isg_neg (by omega)]
        · have h1 := naf_neg ha
          have h2 := naf_neg hb
          have hne : e ≠ e' := fun h => hxy (by rw [h])
          simp only [ne_eq, not_true_eq_false, if_false, sg]
          rcases Nat.lt_or_gt_of_ne hne with h | h
          · have hm := two_pow_mono (show e + 1 ≤ e' by omega); rw [two_pow_succ] at hm
            rw [isg_neg (by omega), isg_pos (by omega)]; rfl
          · have hm := two_pow_mono (show e' + 1 ≤ e by omega); rw [two_pow_succ] at hm
            rw [isg_pos (by omega), isg_neg (by omega)]; rfl

theorem lcmp_zero : ∀ (a b : List Tm), lcmp a b = 0 → a = b := by
  intro a
  induction a with
  | nil => intro b h; cases b with | nil => rfl | cons y b => simp only [lcmp, sg] at h; split at h <;> simp at h
  | cons x a ih =>
    intro b h
    cases b with
    | nil => simp only [lcmp, sg] at h; split at h <;> simp at h
    | cons y b =>
      unfold lcmp at h
      by_cases hxy : x = y
      · rw [if_pos hxy] at h; rw [hxy, ih b h]
      · rw [if_neg hxy] at h
        by_cases hs : x.1 = y.1
        · rw [if_neg (by simpa using hs)] at h
          have hne : x.2 ≠ y.2 := fun h => hxy (Prod.ext hs h)
          exfalso
          simp only [sg, isg] at h
          revert h
          repeat' split
          all_goals omega
        · rw [if_pos hs] at h; simp only [sg] at h; split at h <;> simp at h

theorem naf_unique {a b : List Tm} (ha : Naf a) (hb : Naf b) (h : lv a = lv b) : a = b :=
  lcmp_zero a b (by rw [lcmp_eq a b ha hb, h]; simp [isg])

/-- the form, the least exponent first, from e on -/
def nafUp (e : Nat) (x : Int) : List Tm :=
  if _h : x = 0 then [] else
    if x % 2 = 0 then nafUp (e + 1) (x / 2)
    else if x % 4 = 1 then (false, e) :: nafUp (e + 1) ((x - 1) / 2)
    else (true, e) :: nafUp (e + 1) ((x + 1) / 2)
  termination_by x.natAbs
  decreasing_by all_goals omega

/-- the form of a number -/
def form (x : Int) : List Tm := (nafUp 0 x).reverse

theorem nafUp_spec : ∀ (n : Nat) (x : Int) (e : Nat), x.natAbs ≤ n →
    lv (nafUp e x) = x * 2 ^ e ∧ (nafUp e x).Pairwise (fun a b => a.2 + 1 < b.2) ∧ (∀ t ∈ nafUp e x, e ≤ t.2) ∧ (x % 2 = 0 → ∀ t ∈ nafUp e x, e + 1 ≤ t.2) := by
  intro n
  induction n with
  | zero =>
    intro x e h
    obtain rfl : x = 0 := by omega
    unfold nafUp; simp [lv]
  | succ n ih =>
    intro x e h
    by_cases h0 : x = 0
    · subst h0; unfold nafUp; simp [lv]
    · unfold nafUp
      rw [dif_neg h0]
      by_cases h2 : x % 2 = 0
      · rw [if_pos h2]
        obtain ⟨a, b, c, d⟩ := ih (x / 2) (e + 1) (by omega)
        refine ⟨?_, b, fun t ht => by have := c t ht; omega, fun _ t ht => c t ht⟩
        rw [a, two_pow_succ, ← Int.mul_assoc]; congr 1; omega
      · rw [if_neg h2]
        by_cases h4 : x % 4 = 1
        · rw [if_pos h4]
          obtain ⟨a, b, c, d⟩ := ih ((x - 1) / 2) (e + 1) (by omega)
          have hd := d (by omega)
          refine ⟨?_, List.pairwise_cons.2 ⟨fun t ht => by have := hd t ht; simp; omega, b⟩, ?_, fun h => by omega⟩
          · simp only [lv, tv, a, two_pow_succ, ← Int.mul_assoc]
            rw [show (x - 1) / 2 * 2 = x - 1 by omega, Int.sub_mul]; simp; omega
          · intro t ht; rcases List.mem_cons.1 ht with rfl | ht
            · simp
            · have := c t ht; omega
        · rw [if_neg h4]
          obtain ⟨a, b, c, d⟩ := ih ((x + 1) / 2) (e + 1) (by omega)
          have hd := d (by omega)
          refine ⟨?_, List.pairwise_cons.2 ⟨fun t ht => by have := hd t ht; simp; omega, b⟩, ?_, fun h => by omega⟩
          · simp only [lv, tv, a, two_pow_succ, ← Int.mul_assoc]
            rw [show (x + 1) / 2 * 2 = x + 1 by omega, Int.add_mul]; simp; omega
          · intro t ht; rcases List.mem_cons.1 ht with rfl | ht
            · simp
            · have := c t ht; omega

theorem lv_reverse (l : List Tm) : lv l.reverse = lv l := by
  induction l with
  | nil => rfl
  | cons t l ih => simp [lv_append, lv, ih]; omega

theorem form_naf (x : Int) : Naf (form x) := by
  have := (nafUp_spec _ x 0 (Nat.le_refl _)).2.1
  unfold Naf form; rw [List.pairwise_reverse]; exact this
theorem form_val (x : Int) : lv (form x) = x := by
  have := (nafUp_spec _ x 0 (Nat.le_refl _)).1
  unfold form; rw [lv_reverse, this]; simp
theorem form_of {l : List Tm} (h : Naf l) : form (lv l) = l := naf_unique (form_naf _) h (form_val _)
theorem form_of' {l : List Tm} {x : Int} (h : Naf l) (hx : lv l = x) : form x = l := by rw [← hx, form_of h]
theorem form_zero : form 0 = [] := form_of (l := []) List.Pairwise.nil
theorem form_inj {x y : Int} (h : form x = form y) : x = y := by rw [← form_val x, h, form_val]
theorem form_cmp (x y : Int) : lcmp (form x) (form y) = isg (x - y) := by rw [lcmp_eq _ _ (form_naf x) (form_naf y), form_val, form_val]

theorem lt_two_pow (n : Nat) : (n : Int) < 2 ^ n := by
  have := Nat.lt_two_pow_self (n := n)
  have h2 : ((n : Nat) : Int) < ((2 ^ n : Nat) : Int) := by exact_mod_cast this
  simpa using h2
theorem three_lt (e : Nat) : 3 * (e : Int) < 2 * 2 ^ e := by
  induction e with
  | zero => simp
  | succ e ih => rw [two_pow_succ]; have := lt_two_pow e; cases e with
    | zero => simp
    | succ q => rw [two_pow_succ] at *; push_cast at *; omega
/-- exponents are less than the number -/
theorem exp_lt {x : Int} {t : Tm} (h : t ∈ form x) : t.2 < x.natAbs := by
  have hn := form_naf x
  have hv := form_val x
  cases hf : form x with
  | nil => rw [hf] at h; simp at h
  | cons u l =>
    rw [hf] at h hn hv
    have hle : t.2 ≤ u.2 := by
      rcases List.mem_cons.1 h with rfl | h
      · exact Nat.le_refl _
      · have := (List.pairwise_cons.1 hn).1 t h; omega
    obtain ⟨s, e⟩ := u
    have he := three_lt e
    have hp := two_pow_pos e
    cases s
    · have := naf_pos hn; rw [hv] at this; simp at hle; omega
    · have := naf_neg hn; rw [hv] at this; simp at hle; omega
end Sr
namespace Sr

def restv (cnt : Nat → Int) : List Nat → Int
  | [] => 0
  | x :: r => cnt x * 2 ^ x + restv cnt r
/-- what lies at a place: the carry, and what is there -/
def load (cnt : Nat → Int) (rest : List Nat) (carry : Int) (e k : Nat) : Int :=
  (if carry ≠ 0 ∧ e = k then carry else 0) + (if rest.head? = some k then cnt k else 0)
def mass (cnt : Nat → Int) : List Nat → Nat
  | [] => 0
  | x :: r => (cnt x).natAbs + 1 + mass cnt r

structure SumInv (T : Int) (cnt : Nat → Int) (rest : List Nat) (carry : Int) (e : Nat) (out : List Tm) : Prop where
  val : lv out + carry * 2 ^ e + restv cnt rest = T
  asc : out.Pairwise (fun a b => a.2 + 1 < b.2)
  srt : rest.Pairwise (· < ·)
  low : carry ≠ 0 → ∀ x ∈ rest, e ≤ x
  und : ∀ t ∈ out, (carry ≠ 0 → t.2 < e) ∧ ∀ x ∈ rest, t.2 < x
  par : ∀ t ∈ out, load cnt rest carry e (t.2 + 1) % 2 = 0

def sumMeas (cnt : Nat → Int) (rest : List Nat) (carry : Int) (e : Nat) : Nat :=
  2 * (mass cnt rest + carry.natAbs) + (if carry ≠ 0 ∧ rest.head? ≠ some e then 1 else 0)

theorem SumInv.done {T : Int} {cnt : Nat → Int} {e : Nat} {out : List Tm} (h : SumInv T cnt [] 0 e out) : form T = out.reverse := by
  refine form_of' ?_ ?_
  · unfold Naf; rw [List.pairwise_reverse]; exact h.asc
  · rw [lv_reverse]; have := h.val; simp [restv] at this; omega

/-- what is at the next place, and what is left of the list -/
def nextE (rest : List Nat) (carry : Int) (e : Nat) : Nat := if carry = 0 then rest.headD 0 else e
def hereOf (cnt : Nat → Int) (rest : List Nat) (carry : Int) (e : Nat) : Int := carry + (if rest.head? = some (nextE rest carry e) then cnt (nextE rest carry e) else 0)
def restOf (rest : List Nat) (carry : Int) (e : Nat) : List Nat := if rest.head? = some (nextE rest carry e) then rest.tail else rest
def aboveOf (cnt : Nat → Int) (rest : List Nat) (up : Nat) : Int := if rest.head? = some up then cnt up else 0
def leftOf (here above : Int) : Int := if (here + 2 * above) % 4 = 3 then -1 else 1

theorem mass_tail (cnt : Nat → Int) (rest : List Nat) (carry : Int) (e : Nat) :
    mass cnt (restOf rest carry e) + (hereOf cnt rest carry e).natAbs + (if rest.head? = some (nextE rest carry e) then 1 else 0) ≤ mass cnt rest + carry.natAbs := by
  cases rest with
  | nil => simp [restOf, hereOf, mass]
  | cons x r =>
    simp only [restOf, hereOf, List.head?_cons, Option.some.injEq]
    by_cases h : x = nextE (x :: r) carry e
    · rw [if_pos h, if_pos h, if_pos h, ← h]; simp only [mass, List.tail_cons]; omega
    · rw [if_neg h, if_neg h, if_neg h]; simp

section
variable {T : Int} {cnt : Nat → Int} {rest : List Nat} {carry : Int} {e : Nat} {out : List Tm}

/-- the facts at the next place -/
theorem SumInv.at_next (h : SumInv T cnt rest carry e out) (hne : rest ≠ [] ∨ carry ≠ 0) :
    lv out + hereOf cnt rest carry e * 2 ^ nextE rest carry e + restv cnt (restOf rest carry e) = T ∧
    (restOf rest carry e).Pairwise (· < ·) ∧ (∀ x ∈ restOf rest carry e, nextE rest carry e < x) ∧
    (∀ t ∈ out, t.2 < nextE rest carry e) ∧ (∀ t ∈ out, t.2 + 1 = nextE rest carry e → hereOf cnt rest carry e % 2 = 0) := by
  obtain ⟨val, asc, srt, low, und, par⟩ := h
  by_cases hc : carry = 0
  · subst hc
    cases rest with
    | nil => simp at hne
    | cons x r =>
      obtain ⟨s1, s2⟩ := List.pairwise_cons.1 srt
      simp only [nextE, hereOf, restOf, List.headD_cons, List.head?_cons, if_true, List.tail_cons]
      refine ⟨by simp only [restv] at val; simp at val ⊢; omega, s2, fun y hy => s1 y hy, fun t ht => (und t ht).2 x (by simp), fun t ht he => ?_⟩
      have := par t ht
      simp only [load, List.head?_cons, he] at this
      simpa using this
  · have hl := low hc
    simp only [nextE, if_neg hc, hereOf, restOf]
    cases rest with
    | nil =>
      refine ⟨by simpa using val, by simp, by simp, fun t ht => (und t ht).1 hc, fun t ht he => ?_⟩
      have := par t ht
      simp only [load, he] at this
      simpa [hc] using this
    | cons x r =>
      obtain ⟨s1, s2⟩ := List.pairwise_cons.1 srt
      by_cases hx : x = e
      · subst hx
        simp only [List.head?_cons, if_true, List.tail_cons]
        refine ⟨by simp only [restv] at val; rw [Int.add_mul]; omega, s2, s1, fun t ht => (und t ht).1 hc, fun t ht he => ?_⟩
        have := par t ht
        simp only [load, List.head?_cons, he] at this
        simpa [hc] using this
      · simp only [List.head?_cons, Option.some.injEq, hx, if_false]
        refine ⟨by simpa using val, srt, ?_, fun t ht => (und t ht).1 hc, fun t ht he => ?_⟩
        · intro y hy
          have hxe : e < x := by have := hl x (by simp); omega
          rcases List.mem_cons.1 hy with rfl | hy
          · exact hxe
          · have := s1 y hy; omega
        · have := par t ht
          simp only [load, List.head?_cons, he, Option.some.injEq, hx] at this
          simpa [hc] using this

theorem SumInv.zero (h : SumInv T cnt rest carry e out) (hne : rest ≠ [] ∨ carry ≠ 0) (h0 : hereOf cnt rest carry e = 0) (e' : Nat) :
    SumInv T cnt (restOf rest carry e) 0 e' out := by
  obtain ⟨a, b, c, d, _⟩ := h.at_next hne
  refine ⟨by rw [h0] at a; simp at a ⊢; exact a, h.asc, b, by simp, fun t ht => ⟨by simp, fun x hx => ?_⟩, fun t ht => ?_⟩
  · have := c x hx; have := d t ht; omega
  · have ht' := d t ht
    simp only [load, ne_eq, not_true_eq_false, false_and, if_false]
    split
    · rename_i hh
      have := c (t.2 + 1) (by cases hr : restOf rest carry e with | nil => simp [hr] at hh | cons y r => simp [hr] at hh; simp [hh])
      omega
    · simp

theorem head_mem {l : List Nat} {x : Nat} (h : l.head? = some x) : x ∈ l := by
  cases l with | nil => simp at h | cons y r => simp at h; simp [h]

theorem SumInv.even (h : SumInv T cnt rest carry e out) (hne : rest ≠ [] ∨ carry ≠ 0) (h2 : hereOf cnt rest carry e % 2 = 0) :
    SumInv T cnt (restOf rest carry e) (hereOf cnt rest carry e / 2) (nextE rest carry e + 1) out := by
  obtain ⟨a, b, c, d, _⟩ := h.at_next hne
  generalize hereOf cnt rest carry e = here at *
  generalize restOf rest carry e = r' at *
  generalize nextE rest carry e = q at *
  refine ⟨?_, h.asc, b, fun _ x hx => by have := c x hx; omega, fun t ht => ⟨fun _ => by have := d t ht; omega, fun x hx => by have := c x hx; have := d t ht; omega⟩, fun t ht => ?_⟩
  · rw [two_pow_succ, ← Int.mul_assoc, show here / 2 * 2 = here by omega]; exact a
  · have ht' := d t ht
    simp only [load]
    rw [if_neg (by omega), if_neg (fun hh => by have := c _ (head_mem hh); omega)]; rfl

theorem leftOf_cases (here above : Int) (h : here % 2 ≠ 0) : (leftOf here above = 1 ∨ leftOf here above = -1) ∧ (here + 2 * above - leftOf here above) % 4 = 0 := by
  unfold leftOf; split <;> omega

theorem SumInv.odd (h : SumInv T cnt rest carry e out) (hne : rest ≠ [] ∨ carry ≠ 0) (h2 : hereOf cnt rest carry e % 2 ≠ 0)
    {left : Int} (hl : left = leftOf (hereOf cnt rest carry e) (aboveOf cnt (restOf rest carry e) (nextE rest carry e + 1))) :
    SumInv T cnt (restOf rest carry e) ((hereOf cnt rest carry e - left) / 2) (nextE rest carry e + 1) (out ++ [(decide (left < 0), nextE rest carry e)]) := by
  obtain ⟨a, b, c, d, p⟩ := h.at_next hne
  have hlc := leftOf_cases _ (aboveOf cnt (restOf rest carry e) (nextE rest carry e + 1)) h2
  rw [← hl] at hlc
  generalize hereOf cnt rest carry e = here at *
  generalize restOf rest carry e = r' at *
  generalize nextE rest carry e = q at *
  obtain ⟨hl1, hl4⟩ := hlc
  have htv : tv (decide (left < 0), q) = left * 2 ^ q := by
    rcases hl1 with e | e <;> simp [e, tv]
  refine ⟨?_, ?_, b, fun _ x hx => by have := c x hx; omega, ?_, ?_⟩
  · rw [lv_append, two_pow_succ, ← Int.mul_assoc, show (here - left) / 2 * 2 = here - left by omega]
    simp only [lv, htv, Int.sub_mul]; omega
  · refine List.pairwise_append.2 ⟨h.asc, by simp, ?_⟩
    intro t ht u hu
    obtain rfl : u = (decide (left < 0), q) := by simpa using hu
    have := d t ht
    by_cases e : t.2 + 1 = q
    · exact absurd (p t ht e) h2
    · simp; omega
  · intro t ht
    rcases List.mem_append.1 ht with ht | ht
    · have := d t ht; exact ⟨fun _ => by omega, fun x hx => by have := c x hx; omega⟩
    · obtain rfl : t = (decide (left < 0), q) := by simpa using ht
      exact ⟨fun _ => by simp, fun x hx => c x hx⟩
  · intro t ht
    rcases List.mem_append.1 ht with ht | ht
    · have := d t ht
      simp only [load]
      rw [if_neg (by omega), if_neg (fun hh => by have := c _ (head_mem hh); omega)]; rfl
    · obtain rfl : t = (decide (left < 0), q) := by simpa using ht
      simp only [load, aboveOf] at *
      by_cases hz : (here - left) / 2 = 0
      · rw [if_neg (by simp [hz])]
        split <;> rename_i hh
        · rw [if_pos hh] at hl4; omega
        · rfl
      · rw [if_pos ⟨hz, trivial⟩]
        split <;> rename_i hh
        · rw [if_pos hh] at hl4; omega
        · rw [if_neg hh] at hl4; omega

/-- the measure goes down -/
theorem meas_half (here left : Int) (hl : left = 1 ∨ left = -1) (h2 : here % 2 ≠ 0) : 2 * ((here - left) / 2).natAbs ≤ here.natAbs + 1 := by omega

theorem sumMeas_zero (hne : rest ≠ [] ∨ carry ≠ 0) (e' : Nat) (h0 : hereOf cnt rest carry e = 0) :
    sumMeas cnt (restOf rest carry e) 0 e' < sumMeas cnt rest carry e := by
  have := mass_tail cnt rest carry e
  unfold sumMeas
  simp only [ne_eq, not_true_eq_false, false_and, if_false, Int.natAbs_zero]
  by_cases hh : rest.head? = some (nextE rest carry e)
  · rw [if_pos hh] at this; omega
  · rw [if_neg hh] at this
    by_cases hc : carry = 0
    · subst hc
      cases rest with
      | nil => simp at hne
      | cons x r => simp [nextE] at hh
    · simp only [hereOf, if_neg hh] at h0; omega

theorem sumMeas_down (hne : rest ≠ [] ∨ carry ≠ 0) {c : Int} (h0 : hereOf cnt rest carry e ≠ 0)
    (hc : (hereOf cnt rest carry e % 2 = 0 ∧ c = hereOf cnt rest carry e / 2) ∨
      (hereOf cnt rest carry e % 2 ≠ 0 ∧ c = (hereOf cnt rest carry e - leftOf (hereOf cnt rest carry e) (aboveOf cnt (restOf rest carry e) (nextE rest carry e + 1))) / 2)) :
    sumMeas cnt (restOf rest carry e) c (nextE rest carry e + 1) < sumMeas cnt rest carry e := by
  have hm := mass_tail cnt rest carry e
  unfold sumMeas
  have hb : 2 * c.natAbs ≤ (hereOf cnt rest carry e).natAbs + 1 := by
    rcases hc with ⟨_, rfl⟩ | ⟨h2, rfl⟩
    · omega
    · exact meas_half _ _ (leftOf_cases _ _ h2).1 h2
  by_cases hh : rest.head? = some (nextE rest carry e)
  · rw [if_pos hh] at hm
    have : (if c ≠ 0 ∧ (restOf rest carry e).head? ≠ some (nextE rest carry e + 1) then 1 else 0) ≤ 1 := by split <;> omega
    omega
  · rw [if_neg hh] at hm
    have hc0 : carry ≠ 0 := by
      rintro rfl
      cases rest with
      | nil => simp at hne
      | cons x r => simp [nextE] at hh
    have hq : nextE rest carry e = e := by simp [nextE, hc0]
    rw [hq] at hh
    rw [if_pos (show carry ≠ 0 ∧ rest.head? ≠ some e from ⟨hc0, hh⟩)]
    by_cases h1 : 2 ≤ (hereOf cnt rest carry e).natAbs
    · have : (if c ≠ 0 ∧ (restOf rest carry e).head? ≠ some (nextE rest carry e + 1) then 1 else 0) ≤ 1 := by split <;> omega
      omega
    · -- one or minus one
      rcases hc with ⟨h2, _⟩ | ⟨h2, rfl⟩
      · omega
      · generalize hereOf cnt rest carry e = here at *
        have hll := leftOf_cases here (aboveOf cnt (restOf rest carry e) (nextE rest carry e + 1)) h2
        by_cases hab : (restOf rest carry e).head? = some (nextE rest carry e + 1)
        · rw [if_neg (by simp [hab])]; omega
        · have h0' : aboveOf cnt (restOf rest carry e) (nextE rest carry e + 1) = 0 := by simp [aboveOf, hab]
          rw [h0'] at hll ⊢
          have : (here - leftOf here 0) / 2 = 0 := by omega
          rw [this]; simp; omega
end
end Sr
namespace Sr

def exps (x : Int) : List Nat := (form x).map (·.2)
theorem exps_lt {x : Int} {e : Nat} (h : e ∈ exps x) : e < x.natAbs := by
  obtain ⟨t, ht, rfl⟩ := List.mem_map.1 h
  exact exp_lt ht
theorem mem_exps {x : Int} {t : Tm} (h : t ∈ form x) : t.2 ∈ exps x := List.mem_map.2 ⟨t, h, rfl⟩
theorem exps_desc (x : Int) : (exps x).Pairwise (fun a b => b + 1 < a) := by
  unfold exps; rw [List.pairwise_map]; exact form_naf x
theorem exps_length (x : Int) : (exps x).length = (form x).length := by simp [exps]

theorem lv_neg (l : List Tm) : lv (l.map (fun t => (!t.1, t.2))) = -lv l := by
  induction l with
  | nil => rfl
  | cons t l ih =>
    simp only [List.map_cons, lv, ih]
    obtain ⟨s, e⟩ := t
    cases s <;> simp [tv] <;> omega
theorem form_neg (x : Int) : form (-x) = (form x).map (fun t => (!t.1, t.2)) := by
  refine form_of' ?_ ?_
  · unfold Naf; rw [List.pairwise_map]; exact form_naf x
  · rw [lv_neg, form_val]
theorem exps_neg (x : Int) : exps (-x) = exps x := by
  unfold exps; rw [form_neg, List.map_map]; rfl

/-- a part of a number, but itself -/
inductive IsPart (x : Int) : Nat → Prop
  | here {p : Nat} : p ∈ exps x → IsPart x p
  | step {q p : Nat} : IsPart x q → p ∈ exps (q : Int) → IsPart x p

theorem IsPart.lt {x : Int} {p : Nat} (h : IsPart x p) : p < x.natAbs := by
  induction h with
  | here h => exact exps_lt h
  | step _ h ih => have := exps_lt h; omega
theorem IsPart.trans {x : Int} {q p : Nat} (h : IsPart x q) (h' : IsPart (q : Int) p) : IsPart x p := by
  induction h' with
  | here h1 => exact .step h h1
  | step _ h1 ih => exact .step ih h1
theorem IsPart.cases_top {x : Int} {p : Nat} (h : IsPart x p) : ∃ e ∈ exps x, p = e ∨ IsPart (e : Int) p := by
  induction h with
  | here h => exact ⟨_, h, .inl rfl⟩
  | step _ h ih =>
    obtain ⟨e, he, h1 | h1⟩ := ih
    · subst h1; exact ⟨_, he, .inr (.here h)⟩
    · exact ⟨_, he, .inr (.step h1 h)⟩

open Classical in
/-- the parts of a number but itself, rising -/
noncomputable def parts (x : Int) : List Nat := (List.range x.natAbs).filter (fun p => decide (IsPart x p))
theorem mem_parts {x : Int} {p : Nat} : p ∈ parts x ↔ IsPart x p := by
  classical
  unfold parts
  rw [List.mem_filter]
  simp only [List.mem_range, decide_eq_true_eq]
  exact ⟨fun h => h.2, fun h => ⟨h.lt, h⟩⟩
theorem parts_sorted (x : Int) : (parts x).Pairwise (· < ·) := by
  classical
  unfold parts
  exact List.Pairwise.filter _ List.pairwise_lt_range
theorem sorted_nodup {l : List Nat} (h : l.Pairwise (· < ·)) : l.Nodup := by
  unfold List.Nodup
  exact h.imp (fun h => by omega)
theorem parts_nodup (x : Int) : (parts x).Nodup := sorted_nodup (parts_sorted x)
/-- two rising lists with the same elements are one -/
theorem sorted_ext : ∀ {a b : List Nat}, a.Pairwise (· < ·) → b.Pairwise (· < ·) → (∀ x, x ∈ a ↔ x ∈ b) → a = b
  | [], [], _, _, _ => rfl
  | [], y :: b, _, _, h => by have := (h y).2 (by simp); simp at this
  | x :: a, [], _, _, h => by have := (h x).1 (by simp); simp at this
  | x :: a, y :: b, ha, hb, h => by
    obtain ⟨a1, a2⟩ := List.pairwise_cons.1 ha
    obtain ⟨b1, b2⟩ := List.pairwise_cons.1 hb
    have hxy : x = y := by
      have h1 := (h x).1 (by simp)
      have h2 := (h y).2 (by simp)
      rcases List.mem_cons.1 h1 with e | h1
      · exact e
      · rcases List.mem_cons.1 h2 with e | h2
        · exact e.symm
        · have := a1 y h2; have := b1 x h1; omega
    subst hxy
    rw [sorted_ext a2 b2 (fun z => ?_)]
    have := h z
    constructor
    · intro hz
      rcases List.mem_cons.1 (this.1 (List.mem_cons_of_mem _ hz)) with e | hz'
      · have := a1 z hz; omega
      · exact hz'
    · intro hz
      rcases List.mem_cons.1 (this.2 (List.mem_cons_of_mem _ hz)) with e | hz'
      · have := b1 z hz; omega
      · exact hz'

/-- the height -/
def maxl : List Nat → Nat
  | [] => 0
  | x :: l => max x (maxl l)
theorem le_maxl {l : List Nat} {x : Nat} (h : x ∈ l) : x ≤ maxl l := by
  induction l with
  | nil => simp at h
  | cons y l ih =>
    rcases List.mem_cons.1 h with rfl | h
    · simp only [maxl]; omega
    · have := ih h; simp only [maxl]; omega
def height (x : Int) : Nat := maxl ((form x).attach.map (fun t => height (t.1.2 : Int) + 1))
  termination_by x.natAbs
  decreasing_by have := exp_lt t.2; omega
theorem height_eq (x : Int) : height x = maxl ((exps x).map (fun (e : Nat) => height (e : Int) + 1)) := by
  rw [height]
  congr 1
  unfold exps
  rw [List.map_map]
  conv => rhs; rw [← List.attach_map_subtype_val (form x)]
  rw [List.map_map]; rfl

def allowed (x : Int) : Prop := (form x).length ≤ 300 ∧ (∀ p ∈ parts x, (form (p : Int)).length ≤ 300) ∧ (parts x).length + 1 ≤ 2000 ∧ height x ≤ 100
theorem allowed_zero : allowed 0 := by
  have h : parts 0 = [] := by
    cases h : parts 0 with
    | nil => rfl
    | cons p l => have := mem_parts.1 (show p ∈ parts 0 by simp [h]); have := this.lt; simp at this
  refine ⟨by simp [form_zero], by simp [h], by simp [h], by rw [height_eq]; simp [exps, form_zero, maxl]⟩
theorem isPart_neg {x : Int} {p : Nat} : IsPart (-x) p ↔ IsPart x p := by
  have key : ∀ {x y : Int} {p : Nat}, exps x = exps y → IsPart x p → IsPart y p := by
    intro x y p e h
    induction h with
    | here h => exact .here (e ▸ h)
    | step _ h ih => exact .step ih h
  exact ⟨key (exps_neg x), key (exps_neg x).symm⟩
theorem parts_neg (x : Int) : parts (-x) = parts x := sorted_ext (parts_sorted _) (parts_sorted _) (fun p => by rw [mem_parts, mem_parts, isPart_neg])
theorem height_neg (x : Int) : height (-x) = height x := by rw [height_eq, exps_neg, ← height_eq]
theorem allowed_neg {x : Int} : allowed (-x) ↔ allowed x := by unfold allowed; rw [parts_neg, height_neg, form_neg, List.length_map]

/-- the terms of a number with the places of the exponents in a list -/
def atPl (l : List Nat) (x : Int) : List (Bool × Nat) := (form x).map (fun t => (t.1, l.idxOf t.2))
end Sr
namespace Sr

theorem gap : ∀ (n : Nat) (l : List Nat) (m : Nat), l.length ≤ n → ∃ i, i ≤ n ∧ ∀ e ∈ l, e ≠ m + 2 * i ∧ e ≠ m + 2 * i + 1 := by
  intro n
  induction n with
  | zero => intro l m h; exact ⟨0, Nat.le_refl _, fun e he => by cases l with | nil => simp at he | cons x l => simp at h⟩
  | succ n ih =>
    intro l m h
    by_cases hw : ∀ e ∈ l, e ≠ m ∧ e ≠ m + 1
    · exact ⟨0, by omega, by simpa using hw⟩
    · have hlen : (l.filter (fun e => decide (m + 2 ≤ e))).length ≤ n := by
        have h1 : (l.filter (fun e => decide (m + 2 ≤ e))).length < l.length := by
          rcases Nat.lt_or_ge (l.filter (fun e => decide (m + 2 ≤ e))).length l.length with h2 | h2
          · exact h2
          · exfalso
            apply hw
            have h3 := (List.length_filter_eq_length_iff (p := fun e => decide (m + 2 ≤ e)) (l := l)).1 (Nat.le_antisymm (List.length_filter_le _ _) h2)
            intro e he
            have := h3 e he
            simp at this
            omega
        omega
      obtain ⟨i, hi, h2⟩ := ih _ (m + 2) hlen
      refine ⟨i + 1, by omega, fun e he => ?_⟩
      by_cases hm : m + 2 ≤ e
      · have := h2 e (List.mem_filter.2 ⟨he, by simpa using hm⟩)
        omega
      · omega

theorem lv_filter (p : Tm → Bool) (l : List Tm) : lv (l.filter p) + lv (l.filter (fun t => !p t)) = lv l := by
  induction l with
  | nil => rfl
  | cons t l ih =>
    by_cases h : p t = true
    · simp [h, lv]; omega
    · simp [h, lv]; omega

/-- a form whose top is bounded -/
theorem form_top {x : Int} {m : Nat} (h1 : 3 * x < 3 * 2 ^ m) (h2 : -(3 * 2 ^ m) < 3 * x) : ∀ t ∈ form x, t.2 ≤ m := by
  intro t ht
  have hn := form_naf x
  have hv := form_val x
  cases hf : form x with
  | nil => rw [hf] at ht; simp at ht
  | cons u l =>
    rw [hf] at ht hn hv
    have hle : t.2 ≤ u.2 := by
      rcases List.mem_cons.1 ht with rfl | h
      · exact Nat.le_refl _
      · have := (List.pairwise_cons.1 hn).1 t h; omega
    obtain ⟨s, e⟩ := u
    rcases Nat.lt_or_ge m e with hlt | hge
    · exfalso
      have hp := two_pow_pos m
      have hm := two_pow_mono (show m + 1 ≤ e by omega)
      rw [two_pow_succ] at hm
      cases s
      · have := naf_pos hn; rw [hv] at this; omega
      · have := naf_neg hn; rw [hv] at this; omega
    · simp at hle; omega

theorem form_split (x j : Int) (m0 : Nat) (h1 : 3 * j ≤ 2 ^ m0) (h2 : -(2 ^ m0 : Int) ≤ 3 * j) :
    ∃ hi lo : List Tm, form (x + j) = hi ++ lo ∧ (∀ t ∈ hi, t ∈ form x) ∧ (∀ t ∈ lo, t.2 ≤ m0 + 2 * (form x).length) := by
  obtain ⟨i, hi, hg⟩ := gap (exps x).length (exps x) m0 (Nat.le_refl _)
  rw [exps_length] at hi
  let p : Tm → Bool := fun t => decide (m0 + 2 * i ≤ t.2)
  have hv := lv_filter p (form x)
  rw [form_val] at hv
  have hhi : ∀ t ∈ (form x).filter p, m0 + 2 * i + 2 ≤ t.2 := by
    intro t ht
    obtain ⟨ht1, ht2⟩ := List.mem_filter.1 ht
    have := hg t.2 (mem_exps ht1)
    simp [p] at ht2; omega
  have hlo := naf_bound ((form x).filter (fun t => !p t)) (List.Pairwise.filter _ (form_naf x)) (m0 + 2 * i) (fun t ht => by
    have := (List.mem_filter.1 ht).2
    simp [p] at this; omega)
  have hm := two_pow_mono (show m0 ≤ m0 + 2 * i by omega)
  have hp := two_pow_pos (m0 + 2 * i)
  have ht := form_top (x := lv ((form x).filter (fun t => !p t)) + j) (m := m0 + 2 * i) (by omega) (by omega)
  refine ⟨(form x).filter p, form (lv ((form x).filter (fun t => !p t)) + j), ?_, fun t ht => (List.mem_filter.1 ht).1, fun t ht' => by have := ht t ht'; omega⟩
  refine form_of' ?_ ?_
  · unfold Naf
    refine List.pairwise_append.2 ⟨List.Pairwise.filter _ (form_naf x), form_naf _, fun a ha b hb => ?_⟩
    have := hhi a ha; have := ht b hb; omega
  · rw [lv_append, form_val]; omega

/-- what 'sum' may ask 'next' for: the base is closed -/
structure Base (P : List Nat) (J : Nat) : Prop where
  zero : 0 ∈ P
  exps : ∀ p ∈ P, ∀ j, j ≤ J → ∀ e ∈ exps (((p + j : Nat)) : Int), e ∈ P
  len : ∀ p ∈ P, ∀ j, j ≤ J → 4 * ((form ((p + j : Nat) : Int)).length + 2) ≤ J

theorem nodup_length_le : ∀ (a b : List Nat), a.Nodup → (∀ x ∈ a, x ∈ b) → a.length ≤ b.length
  | [], _, _, _ => by simp
  | x :: a, b, h, hs => by
    obtain ⟨h1, h2⟩ := List.nodup_cons.1 h
    have hx := hs x (by simp)
    have := nodup_length_le a (b.erase x) h2 (fun y hy => by
      refine (List.mem_erase_of_ne (fun e => by subst e; exact h1 hy)).2 (hs y (List.mem_cons_of_mem _ hy)))
    rw [List.length_erase_of_mem hx] at this
    have := List.length_pos_of_mem hx
    simp only [List.length_cons]; omega

theorem exps_nodup (x : Int) : (exps x).Nodup := by unfold List.Nodup; exact (exps_desc x).imp (fun h => by omega)
theorem naf_len {l : List Tm} {m : Nat} (h : Naf l) (hm : ∀ t ∈ l, t.2 ≤ m) : l.length ≤ m + 1 := by
  have h1 : (l.map (·.2)).Nodup := by unfold List.Nodup; rw [List.pairwise_map]; exact h.imp (fun h => by omega)
  have := nodup_length_le _ (List.range (m + 1)) h1 (fun e he => by
    obtain ⟨t, ht, rfl⟩ := List.mem_map.1 he
    exact List.mem_range.2 (by have := hm t ht; omega))
  simpa using this

theorem base_of {P : List Nat} (h0 : ∀ e, e ≤ 614 → e ∈ P) (h1 : ∀ p ∈ P, (form (p : Int)).length ≤ 300) (h2 : ∀ p ∈ P, ∀ e ∈ exps (p : Int), e ∈ P) : Base P 4096 := by
  have key : ∀ p ∈ P, ∀ j, j ≤ 4096 → (∀ e ∈ exps (((p + j : Nat)) : Int), e ∈ P) ∧ (form ((p + j : Nat) : Int)).length ≤ 915 := by
    intro p hp j hj
    obtain ⟨hi, lo, e, a, b⟩ := form_split (p : Int) (j : Int) 14 (by omega) (by omega)
    have hl := h1 p hp
    have e' : form ((p + j : Nat) : Int) = hi ++ lo := by rw [← e]; congr 1
    have hn : Naf (hi ++ lo) := e' ▸ form_naf _
    obtain ⟨n1, n2, _⟩ := List.pairwise_append.1 hn
    have l1 : hi.length ≤ (form (p : Int)).length := by
      have h1 : (hi.map (·.2)).Nodup := by unfold List.Nodup; rw [List.pairwise_map]; exact n1.imp (fun h => by omega)
      have := nodup_length_le _ (exps (p : Int)) h1 (fun e he => by
        obtain ⟨t, ht, rfl⟩ := List.mem_map.1 he
        exact mem_exps (a t ht))
      simpa [exps_length] using this
    have l2 := naf_len (m := 614) n2 (fun t ht => by have := b t ht; omega)
    refine ⟨fun x hx => ?_, by rw [e', List.length_append]; omega⟩
    obtain ⟨t, ht, rfl⟩ := List.mem_map.1 hx
    rw [e'] at ht
    rcases List.mem_append.1 ht with ht | ht
    · exact h2 p hp t.2 (mem_exps (a t ht))
    · exact h0 t.2 (by have := b t ht; omega)
  exact ⟨h0 0 (by omega), fun p hp j hj => (key p hp j hj).1, fun p hp j hj => by have := (key p hp j hj).2; omega⟩

theorem small_form {x : Int} (h : x.natAbs ≤ 1000) : ∀ t ∈ form x, t.2 ≤ 10 := form_top (by omega) (by omega)

/-- a base for some allowed numbers -/
noncomputable def baseOf (xs : List Int) : List Nat := List.range 615 ++ xs.flatMap parts
theorem base_parts {xs : List Int} (h : ∀ x ∈ xs, allowed x) : Base (baseOf xs) 4096 := by
  refine base_of (fun e he => by unfold baseOf; simp; omega) (fun p hp => ?_) (fun p hp e he => ?_)
  · rcases List.mem_append.1 hp with hp | hp
    · have hp := List.mem_range.1 hp
      have := naf_len (form_naf (p : Int)) (small_form (by omega))
      omega
    · obtain ⟨x, hx, hp⟩ := List.mem_flatMap.1 hp
      exact (h x hx).2.1 p hp
  · rcases List.mem_append.1 hp with hp | hp
    · have hp := List.mem_range.1 hp
      have := exps_lt he
      unfold baseOf; simp; omega
    · obtain ⟨x, hx, hp⟩ := List.mem_flatMap.1 hp
      exact List.mem_append.2 (.inr (List.mem_flatMap.2 ⟨x, hx, mem_parts.2 (.step (mem_parts.1 hp) he)⟩))
theorem baseOf_exps {xs : List Int} {x : Int} (h : x ∈ xs) : ∀ e ∈ exps x, e ∈ baseOf xs := fun _ he =>
  List.mem_append.2 (.inr (List.mem_flatMap.2 ⟨x, h, mem_parts.2 (.here he)⟩))
theorem baseOf_parts {xs : List Int} {x : Int} (h : x ∈ xs) : ∀ e ∈ parts x, e ∈ baseOf xs := fun _ he =>
  List.mem_append.2 (.inr (List.mem_flatMap.2 ⟨x, h, he⟩))
theorem baseOf_len : ∀ {xs : List Int}, (∀ x ∈ xs, allowed x) → (baseOf xs).length ≤ 615 + 2000 * xs.length := by
  intro xs
  unfold baseOf
  rw [List.length_append, List.length_range]
  intro h
  have : (xs.flatMap parts).length ≤ 2000 * xs.length := by
    induction xs with
    | nil => simp
    | cons x xs ih =>
      have := (h x (by simp)).2.2.1
      have := ih (fun y hy => h y (List.mem_cons_of_mem _ hy))
      simp only [List.flatMap_cons, List.length_append, List.length_cons]; omega
  omega
end Sr
namespace Sr

/-- the numbers of a world, in the order of their places -/
structure WV (vs : List Int) : Prop where
  zero : vs[0]? = some 0
  nodup : vs.Nodup
  closed : ∀ (i : Nat) (x : Int), vs[i]? = some x → ∀ e ∈ exps x, ∃ k : Nat, k < i ∧ vs[k]? = some (e : Int)

/-- a term with the place of its exponent -/
abbrev PT := Bool × Nat
/-- the form of a number, with places -/
def pf (vs : List Int) (x : Int) : List PT := (form x).map (fun t => (t.1, vs.idxOf (t.2 : Int)))
/-- the number at a place -/
def at_ (vs : List Int) (i : Nat) : Int := vs.getD i 0
/-- what a list of terms comes to -/
def ptv (vs : List Int) (l : List PT) : Int := lv (l.map (fun t => (t.1, (at_ vs t.2).toNat)))
/-- the terms of a world: places that are there, of numbers that are not negative -/
def PTok (vs : List Int) (l : List PT) : Prop := ∀ t ∈ l, ∃ e : Nat, vs[t.2]? = some (e : Int)

section
variable {vs vs' : List Int}

theorem idx_lt {x : Int} (h : x ∈ vs) : vs.idxOf x < vs.length := List.idxOf_lt_length_of_mem h
theorem get_idx {x : Int} (h : x ∈ vs) : vs[vs.idxOf x]? = some x := by
  rw [List.getElem?_eq_getElem (idx_lt h)]; simp
theorem WV.idx_get (h : WV vs) {i : Nat} {x : Int} (hi : vs[i]? = some x) : vs.idxOf x = i := by
  obtain ⟨hlt, rfl⟩ := List.getElem?_eq_some_iff.1 hi
  exact List.Nodup.idxOf_getElem h.nodup i hlt
theorem WV.at_idx {x : Int} (h : x ∈ vs) : at_ vs (vs.idxOf x) = x := by unfold at_; rw [List.getD_eq_getElem?_getD, get_idx h]; rfl
theorem at_of {i : Nat} {x : Int} (h : vs[i]? = some x) : at_ vs i = x := by unfold at_; rw [List.getD_eq_getElem?_getD, h]; rfl
theorem WV.mem_zero (h : WV vs) : (0 : Int) ∈ vs := List.mem_of_getElem? h.zero
theorem WV.idx_zero (h : WV vs) : vs.idxOf 0 = 0 := h.idx_get h.zero
theorem WV.mem_exps (h : WV vs) {x : Int} (hx : x ∈ vs) {e : Nat} (he : e ∈ exps x) : (e : Int) ∈ vs := by
  obtain ⟨k, _, hk⟩ := h.closed _ _ (get_idx hx) e he
  exact List.mem_of_getElem? hk
theorem WV.mem_parts (h : WV vs) {x : Int} (hx : x ∈ vs) {p : Nat} (hp : IsPart x p) : (p : Int) ∈ vs := by
  induction hp with
  | here he => exact h.mem_exps hx he
  | step _ he ih => exact h.mem_exps ih he

/-- more numbers behind -/
theorem idx_ext (hp : vs <+: vs') {x : Int} (hx : x ∈ vs) : vs'.idxOf x = vs.idxOf x := by
  obtain ⟨l, rfl⟩ := hp; simp [List.idxOf_append, hx]
theorem get_ext (hp : vs <+: vs') {i : Nat} {x : Int} (hi : vs[i]? = some x) : vs'[i]? = some x := by
  obtain ⟨l, rfl⟩ := hp
  rw [List.getElem?_append_left (List.getElem?_eq_some_iff.1 hi).1]; exact hi
theorem mem_ext (hp : vs <+: vs') {x : Int} (hx : x ∈ vs) : x ∈ vs' := hp.subset hx
theorem at_ext (hp : vs <+: vs') {i : Nat} (hi : i < vs.length) : at_ vs' i = at_ vs i := by
  have := List.getElem?_eq_getElem hi
  rw [at_of this, at_of (get_ext hp this)]
theorem pf_ext (hp : vs <+: vs') (h : WV vs) {x : Int} (hx : ∀ e ∈ exps x, (e : Int) ∈ vs) : pf vs' x = pf vs x := by
  have _ := h
  unfold pf
  refine List.map_congr_left (fun t ht => ?_)
  rw [idx_ext hp (hx _ (Sr.mem_exps ht))]
theorem PTok.ext (hp : vs <+: vs') {l : List PT} (h : PTok vs l) : PTok vs' l := fun t ht => by
  obtain ⟨e, he⟩ := h t ht; exact ⟨e, get_ext hp he⟩
theorem ptv_ext (hp : vs <+: vs') {l : List PT} (h : PTok vs l) : ptv vs' l = ptv vs l := by
  unfold ptv
  congr 1
  refine List.map_congr_left (fun t ht => ?_)
  obtain ⟨e, he⟩ := h t ht
  rw [at_of he, at_of (get_ext hp he)]

/-- the form with places comes to the number -/
theorem ptv_pf (h : WV vs) {x : Int} (hx : ∀ e ∈ exps x, (e : Int) ∈ vs) : ptv vs (pf vs x) = x := by
  have _ := h
  unfold ptv pf
  rw [List.map_map]
  have : (form x).map ((fun t : PT => (t.1, (at_ vs t.2).toNat)) ∘ fun t => (t.1, vs.idxOf (t.2 : Int))) = (form x).map id := by
    refine List.map_congr_left (fun t ht => ?_)
    simp only [Function.comp]
    rw [WV.at_idx (hx _ (Sr.mem_exps ht))]; simp
  rw [this, List.map_id, form_val]
theorem ptok_pf {x : Int} (hx : ∀ e ∈ exps x, (e : Int) ∈ vs) : PTok vs (pf vs x) := by
  intro t ht
  obtain ⟨u, hu, rfl⟩ := List.mem_map.1 ht
  exact ⟨u.2, get_idx (hx _ (Sr.mem_exps hu))⟩
theorem pf_inj (h : WV vs) {x y : Int} (hx : ∀ e ∈ exps x, (e : Int) ∈ vs) (hy : ∀ e ∈ exps y, (e : Int) ∈ vs) (he : pf vs x = pf vs y) : x = y := by
  rw [← ptv_pf h hx, he, ptv_pf h hy]
theorem ptv_append (a b : List PT) : ptv vs (a ++ b) = ptv vs a + ptv vs b := by simp [ptv, lv_append]
theorem PTok.append {a b : List PT} (ha : PTok vs a) (hb : PTok vs b) : PTok vs (a ++ b) := fun t ht => (List.mem_append.1 ht).elim (ha t) (hb t)

/-- a number is put in behind -/
theorem WV.push (h : WV vs) {x : Int} (hn : x ∉ vs) (hx : ∀ e ∈ exps x, (e : Int) ∈ vs) : WV (vs ++ [x]) := by
  have hpos : 0 < vs.length := by have := (List.getElem?_eq_some_iff.1 h.zero).1; omega
  refine ⟨by rw [List.getElem?_append_left hpos]; exact h.zero, ?_, ?_⟩
  · refine List.nodup_append.2 ⟨h.nodup, by simp, fun a ha b hb => ?_⟩
    obtain rfl : b = x := by simpa using hb
    rintro rfl; exact hn ha
  · intro i y hi e he
    rcases Nat.lt_or_ge i vs.length with hlt | hge
    · rw [List.getElem?_append_left hlt] at hi
      obtain ⟨k, hk, hk2⟩ := h.closed i y hi e he
      exact ⟨k, hk, by rw [List.getElem?_append_left (by omega)]; exact hk2⟩
    · rw [List.getElem?_append_right hge] at hi
      obtain ⟨h0, h1⟩ := List.getElem?_eq_some_iff.1 hi
      have hi0 : i = vs.length := by simp at h0; omega
      simp [hi0] at h1
      subst h1
      have := hx e he
      exact ⟨vs.idxOf (e : Int), by have := idx_lt this; omega, by rw [List.getElem?_append_left (idx_lt this)]; exact get_idx this⟩

/-- what 'id' does to the numbers -/
def putIn (vs : List Int) (x : Int) : List Int := if x ∈ vs then vs else vs ++ [x]
theorem putIn_ext (vs : List Int) (x : Int) : vs <+: putIn vs x := by unfold putIn; split; exact List.prefix_refl _; exact List.prefix_append _ _
theorem putIn_wv (h : WV vs) {x : Int} (hx : ∀ e ∈ exps x, (e : Int) ∈ vs) : WV (putIn vs x) := by unfold putIn; split; exact h; rename_i hn; exact h.push hn hx
theorem putIn_mem (vs : List Int) (x : Int) : x ∈ putIn vs x := by unfold putIn; split <;> simp_all
theorem putIn_len (vs : List Int) (x : Int) : (putIn vs x).length ≤ vs.length + 1 := by unfold putIn; split <;> simp
end

/-- bytes of a key -/
def kb1 (t : PT) : List UInt8 := [if t.1 then 1 else 0, UInt8.ofNat (t.2 / 16777216), UInt8.ofNat (t.2 / 65536), UInt8.ofNat (t.2 / 256), UInt8.ofNat t.2]
def kb (l : List PT) : List UInt8 := l.flatMap kb1
theorem kb1_inj {s t : PT} (hs : s.2 < 4294967296) (ht : t.2 < 4294967296) (h : kb1 s = kb1 t) : s = t := by
  obtain ⟨a, m⟩ := s
  obtain ⟨b, n⟩ := t
  simp only [kb1, List.cons.injEq, and_true] at h
  obtain ⟨h0, h1, h2, h3, h4⟩ := h
  have e1 := congrArg UInt8.toNat h1
  have e2 := congrArg UInt8.toNat h2
  have e3 := congrArg UInt8.toNat h3
  have e4 := congrArg UInt8.toNat h4
  simp only [UInt8.toNat_ofNat'] at e1 e2 e3 e4
  have hab : a = b := by cases a <;> cases b <;> simp_all
  subst hab
  have : m = n := by simp only [Nat.reducePow] at *; omega
  rw [this]
theorem kb1_len (t : PT) : (kb1 t).length = 5 := rfl
theorem kb_inj : ∀ {a b : List PT}, (∀ t ∈ a, t.2 < 4294967296) → (∀ t ∈ b, t.2 < 4294967296) → kb a = kb b → a = b
  | [], [], _, _, _ => rfl
  | [], t :: b, _, _, h => by have := congrArg List.length h; simp [kb, kb1] at this
  | s :: a, [], _, _, h => by have := congrArg List.length h; simp [kb, kb1] at this
  | s :: a, t :: b, ha, hb, h => by
    simp only [kb, List.flatMap_cons] at h
    obtain ⟨h1, h2⟩ := List.append_inj h rfl
    rw [kb1_inj (ha s (by simp)) (hb t (by simp)) h1, kb_inj (fun t ht => ha t (List.mem_cons_of_mem _ ht)) (fun t ht => hb t (List.mem_cons_of_mem _ ht)) h2]
theorem kb_len (l : List PT) : (kb l).length = 5 * l.length := by
  induction l with
  | nil => rfl
  | cons t l ih => simp only [kb, List.flatMap_cons, List.length_append, kb1_len, List.length_cons] at *; omega
end Sr
namespace Go
open Go.ChangeMaps Go.MapKept
open Go.Maps (Keyed)

/-- block b is a map that holds just what f says -/
def MapF (P : Program) (k : TypeId) (w : World) (b : Nat) (f : Value → Option Value) : Prop :=
  ∃ es clock, w.heap[b]? = some (.map es clock) ∧ (∀ e ∈ es.toList, ∃ l, keyOf P k e.key = some l) ∧ es.toList.Pairwise (fun x y => x.key ≠ y.key) ∧
    ∀ x v, f x = some v ↔ ∃ e ∈ es.toList, e.key = x ∧ e.val = v

open Classical in
noncomputable def updF (f : Value → Option Value) (x v : Value) : Value → Option Value := fun y => if y = x then some v else f y

variable {P : Program} {k e t : TypeId} {w : World} {b : Nat} {f : Value → Option Value}

theorem MapF.made (P : Program) (k : TypeId) (w : World) : MapF P k (w.alloc (.map #[] 0)) w.heap.size (fun _ => none) :=
  ⟨#[], 0, (MapKept.heap_alloc w _).1, by simp, by simp, by simp⟩

theorem MapF.lt (h : MapF P k w b f) : b < w.heap.size := by
  obtain ⟨es, clock, hb, _⟩ := h
  exact (Array.getElem?_eq_some_iff.1 hb).1

theorem MapF.kept {w' : World} (h : MapF P k w b f) (hb : w'.heap[b]? = w.heap[b]?) : MapF P k w' b f := by
  obtain ⟨es, clock, h1, r⟩ := h
  exact ⟨es, clock, hb.trans h1, r⟩

theorem MapF.look (c : Bool) (h : MapF P k w b f) (K : Keyed P k) (ht : P.underlying t = some (.map k e)) {z : Value} (hz : (zeroValue e).run P w = .ok z w) {x : Value} {l : Lit} (hx : keyOf P k x = some l) :
    (Instr.lookup t (.map (some b)) x c).run P w = .ok (if c then .tuple #[(f x).getD z, .bool (f x).isSome] else (f x).getD z) w := by
  obtain ⟨es, clock, hb, hk, hd, hf⟩ := h
  rcases K.find w hx es.toList hk with ⟨h1, h2⟩ | ⟨j, e0, h1, h2, h3⟩
  · have hn : f x = none := by
      cases hfx : f x with
      | none => rfl
      | some v => obtain ⟨e1, he1, hk1, _⟩ := (hf x v).1 hfx; exact absurd hk1 (h2 e1 he1)
    rw [hn]
    simp [Instr.lookup, run_underlying ht, MapKept.run_getObj_map hb, K.check w _ hx, h1, hz, Result.andThen]
  · have hs : f x = some e0.val := (hf x e0.val).2 ⟨e0, List.mem_of_getElem? h2, h3, rfl⟩
    rw [hs]
    simp [Instr.lookup, run_underlying ht, MapKept.run_getObj_map hb, K.check w _ hx, h1, Result.andThen]

theorem MapF.store (h : MapF P k w b f) (K : Keyed P k) (ht : P.underlying t = some (.map k e)) {x v : Value} {l : Lit} (hx : keyOf P k x = some l) :
    ∃ w', (Instr.mapUpdate t (.map (some b)) x v).run P w = .ok () w' ∧ MapF P k w' b (updF f x v) ∧ w'.heap.size = w.heap.size ∧ w.grownBy w' (some b) := by
  obtain ⟨es, clock, hb, hk, hd, hf⟩ := h
  have hlt : b < w.heap.size := (Array.getElem?_eq_some_iff.1 hb).1
  rcases K.find w hx es.toList hk with ⟨h1, h2⟩ | ⟨j, e0, h1, h2, h3⟩
  · refine ⟨setBlock w b (.map (es.push ⟨x, v, clock⟩) (clock + 1)), ?_, ⟨_, _, heap_setBlock_same hb _, ?_, ?_, ?_⟩, by simp [setBlock], ⟨rfl, rfl, rfl, by simp [setBlock], fun i _ hi => heap_setBlock_other hb _ (fun e => hi (by rw [e]))⟩⟩
    · simp [Instr.mapUpdate, run_underlying ht, MapKept.run_getObj_map hb, K.check w false hx, h1, MapKept.run_setObj_map _ hb, Result.andThen, setBlock]
    · intro e1 he1
      simp only [Array.toList_push, List.mem_append, List.mem_singleton] at he1
      rcases he1 with he1 | rfl
      · exact hk e1 he1
      · exact ⟨l, hx⟩
    · rw [Array.toList_push]
      refine List.pairwise_append.2 ⟨hd, by simp, fun a ha b' hb' => ?_⟩
      obtain rfl : b' = ⟨x, v, clock⟩ := by simpa using hb'
      exact h2 a ha
    · intro y u
      simp only [Array.toList_push, List.mem_append, List.mem_singleton, updF]
      by_cases hy : y = x
      · subst hy
        rw [if_pos rfl]
        constructor
        · intro hu; cases hu; exact ⟨_, .inr rfl, rfl, rfl⟩
        · rintro ⟨e1, he1 | rfl, hk1, hv1⟩
          · exact absurd hk1 (h2 e1 he1)
          · rw [← hv1]
      · rw [if_neg hy, hf]
        constructor
        · rintro ⟨e1, he1, r⟩; exact ⟨e1, .inl he1, r⟩
        · rintro ⟨e1, he1 | rfl, hk1, hv1⟩
          · exact ⟨e1, he1, hk1, hv1⟩
          · exact absurd hk1.symm hy
  · have hj : es[j]? = some e0 := by simpa using h2
    have hlist : (es.modify j (fun e' => { e' with key := x, val := v })).toList = es.toList.set j { e0 with key := x, val := v } := by rw [Array.toList_modify, modify_eq_set _ _ _ _ h2]
    have hjl : j < es.toList.length := (List.getElem?_eq_some_iff.1 h2).1
    have hother : ∀ i a, es.toList[i]? = some a → i ≠ j → a.key ≠ x := by
      intro i a hi hij e1
      rw [← h3] at e1
      have hil := (List.getElem?_eq_some_iff.1 hi).1
      have ei := (List.getElem?_eq_some_iff.1 hi).2
      have ej := (List.getElem?_eq_some_iff.1 h2).2
      rcases Nat.lt_or_gt_of_ne hij with h | h
      · have := List.pairwise_iff_getElem.1 hd i j hil hjl h; rw [ei, ej] at this; exact this e1
      · have := List.pairwise_iff_getElem.1 hd j i hjl hil h; rw [ei, ej] at this; exact this e1.symm
    have who : ∀ a, a ∈ es.toList.set j { e0 with key := x, val := v } ↔ a = { e0 with key := x, val := v } ∨ (a ∈ es.toList ∧ a.key ≠ x) := by
      intro a
      constructor
      · intro ha
        obtain ⟨i, hi⟩ := List.mem_iff_getElem?.1 ha
        rw [List.getElem?_set] at hi
        by_cases hij : j = i
        · subst hij; rw [if_pos rfl, if_pos hjl] at hi; exact .inl (Option.some.inj hi).symm
        · rw [if_neg hij] at hi; exact .inr ⟨List.mem_of_getElem? hi, hother i a hi (Ne.symm hij)⟩
      · rintro (rfl | ⟨ha, hne⟩)
        · exact List.mem_iff_getElem?.2 ⟨j, by rw [List.getElem?_set, if_pos rfl, if_pos hjl]⟩
        · obtain ⟨i, hi⟩ := List.mem_iff_getElem?.1 ha
          have : j ≠ i := by rintro rfl; rw [h2] at hi; cases hi; exact hne h3
          exact List.mem_iff_getElem?.2 ⟨i, by rw [List.getElem?_set, if_neg this]; exact hi⟩
    refine ⟨setBlock w b (.map (es.modify j (fun e' => { e' with key := x, val := v })) clock), ?_, ⟨_, _, heap_setBlock_same hb _, ?_, ?_, ?_⟩, by simp [setBlock], ⟨rfl, rfl, rfl, by simp [setBlock], fun i _ hi => heap_setBlock_other hb _ (fun e => hi (by rw [e]))⟩⟩
    · simp [Instr.mapUpdate, run_underlying ht, MapKept.run_getObj_map hb, K.check w false hx, h1, hj, h3, K.stays w hx, MapKept.run_setObj_map _ hb, Result.andThen, setBlock]
    · intro e1 he1
      rw [hlist] at he1
      rcases (who e1).1 he1 with rfl | ⟨h, _⟩
      · exact ⟨l, hx⟩
      · exact hk e1 h
    · rw [hlist]
      have : (es.toList.set j { e0 with key := x, val := v }).map (·.key) = es.toList.map (·.key) := by
        apply List.ext_getElem?
        intro i
        rw [List.map_set]
        simp only [List.getElem?_set, List.getElem?_map, List.length_map]
        split
        · rename_i h; subst h; rw [h2]; simp [h3]
        · rfl
      have h' : (es.toList.map (·.key)).Pairwise (· ≠ ·) := by rw [List.pairwise_map]; exact hd
      rw [← this, List.pairwise_map] at h'
      exact h'
    · intro y u
      rw [hlist]
      by_cases hy : y = x
      · subst hy
        simp only [updF, if_true]
        constructor
        · intro hu; cases hu; exact ⟨_, (who _).2 (.inl rfl), rfl, rfl⟩
        · rintro ⟨e1, he1, hk1, hv1⟩
          rcases (who e1).1 he1 with rfl | ⟨_, hne⟩
          · rw [← hv1]
          · exact absurd hk1 hne
      · simp only [updF, if_neg hy]
        rw [hf]
        constructor
        · rintro ⟨e1, he1, hk1, hv1⟩; exact ⟨e1, (who e1).2 (.inr ⟨he1, by rw [hk1]; exact hy⟩), hk1, hv1⟩
        · rintro ⟨e1, he1, hk1, hv1⟩
          rcases (who e1).1 he1 with rfl | ⟨h, _⟩
          · exact absurd hk1.symm hy
          · exact ⟨e1, h, hk1, hv1⟩

end Go
/- A Go world of package num in memory: what its blocks hold. -/
namespace Sr
open Go Go.Proofs Go.RowKit Go.Maps Go.WideMaps

/-- the cells of a list of terms -/
def tcells (l : List PT) : List Value := l.flatMap fun t => [.bool t.1, .int .i64 (t.2 : Nat)]
theorem tcells_len (l : List PT) : (tcells l).length = l.length * 2 := by
  induction l with
  | nil => rfl
  | cons t l ih => simp only [tcells, List.flatMap_cons, List.length_append, List.length_cons, List.length_nil] at *; omega
theorem tcells_append (a b : List PT) : tcells (a ++ b) = tcells a ++ tcells b := by simp [tcells]

theorem law9 : Keyed Tryz.prog 9 := string_keyed Tryz.underlying9
theorem law3 : Keyed Tryz.prog 3 := int_keyed Tryz.underlying3

/-- a row of terms in a block of its own -/
def TRow (W : World) (v : Value) (l : List PT) : Prop := W.ownsRow 0 154 2 v l.length (tcells l)

/-- how w' follows on w: outside F nothing has turned -/
structure Fr (F : List Nat) (w w' : World) : Prop where
  os : w'.os = w.os
  tape : w'.tape = w.tape
  output : w'.output = w.output
  size : w.heap.size ≤ w'.heap.size
  block : ∀ b, b < w.heap.size → b ∉ F → w'.heap[b]? = w.heap[b]?

/-- .. and F' is F and new blocks -/
structure FE (F : List Nat) (w : World) (F' : List Nat) (w' : World) : Prop where
  fr : Fr F w w'
  sub : ∀ b ∈ F', b ∈ F ∨ w.heap.size ≤ b

theorem Fr.refl (F : List Nat) (w : World) : Fr F w w := ⟨rfl, rfl, rfl, Nat.le_refl _, fun _ _ _ => rfl⟩
theorem FE.refl (F : List Nat) (w : World) : FE F w F w := ⟨Fr.refl F w, fun _ h => .inl h⟩
theorem FE.trans {F F1 F2 : List Nat} {w w1 w2 : World} (h : FE F w F1 w1) (k : FE F1 w1 F2 w2) : FE F w F2 w2 := by
  refine ⟨⟨k.fr.os.trans h.fr.os, k.fr.tape.trans h.fr.tape, k.fr.output.trans h.fr.output, Nat.le_trans h.fr.size k.fr.size, fun b hb hn => ?_⟩, fun b hb => ?_⟩
  · have hn1 : b ∉ F1 := fun hb1 => by rcases h.sub b hb1 with h1 | h1; exact hn h1; omega
    exact (k.fr.block b (Nat.lt_of_lt_of_le hb h.fr.size) hn1).trans (h.fr.block b hb hn)
  · rcases k.sub b hb with h1 | h1
    · exact h.sub b h1
    · exact .inr (Nat.le_trans h.fr.size h1)

/-- the parts of a world's memory -/
structure WD where
  fv : Value
  mp : Nat
  mg : Nat
  mo : Nat
  fl : List Value

theorem Fr.of_below {F : List Nat} {w w' : World} (h : Below w.heap.size w w') : Fr F w w' := ⟨h.os, h.tape, h.output, h.size, fun b hb _ => h.block b hb⟩

theorem zero3 (w : World) : (zeroValue 3).run Tryz.prog w = .ok (.int .i64 0) w := by kernel_rfl
set_option maxRecDepth 100000 in
theorem laidOut : laidOutB Tryz.prog = true := by kernel_rfl
set_option maxRecDepth 100000 in
theorem row162 : (162 : TypeId) < Tryz.prog.types.size := of_decide_eq_true (by kernel_rfl)
theorem wide162 : (match Tryz.prog.underlying 162 with | some (.array _ _) | some (.struct _) => true | _ => false) = true := by rw [Tryz.underlying162]
theorem cells162 : Tryz.prog.cellsOf 162 = 2 := by kernel_rfl
set_option maxRecDepth 100000 in
theorem law162 : Keyed Tryz.prog 162 := Keyed.of_law (deep_law_laid laidOut (m := 2) (by omega) row162 (by kernel_rfl) wide162)
set_option maxRecDepth 100000 in
theorem key162 {a b : Int} (ha : (Lit.int .i64 a).wf = true) (hb : (Lit.int .i64 b).wf = true) : ∃ l, keyOf Tryz.prog 162 (.agg #[.int .i64 a, .int .i64 b]) = some l := by
  have hk : Tryz.prog.keyType 162 = true := by kernel_rfl
  have hf : (Value.agg #[.int .i64 a, .int .i64 b]).formed Tryz.prog 162 = true := by simp [Value.formed, Tryz.underlying162, cells162]
  have hs : ∃ n, Tryz.prog.types.size + 1 = n + 2 := ⟨Tryz.prog.types.size - 1, by have h : (162 : Nat) < Tryz.prog.types.size := row162; omega⟩
  obtain ⟨n, hn⟩ := hs
  have c3 : Tryz.prog.cellsOf 3 = 1 := by kernel_rfl
  refine Option.isSome_iff_exists.1 ?_
  unfold keyOf
  rw [Tryz.underlying162]
  simp only [hk, hf, Bool.and_self, if_true, hn]
  simp [Program.keyLits, Tryz.underlying162, Tryz.underlying3, c3, ha, hb, Value.cells, cells162, List.range_succ]
theorem keyInt {a : Int} (ha : (Lit.int .i64 a).wf = true) : keyOf Tryz.prog 3 (.int .i64 a) = some (.int .i64 a) := keyOf_int_mk Tryz.underlying3 ha
theorem keyStr {s : ByteArray} (hs : s.size ≤ maxLen) : keyOf Tryz.prog 9 (.string s) = some (.string s.data.toList) := keyOf_string_mk Tryz.underlying9 hs
theorem wfNat {a : Nat} (h : a < 9223372036854775808) : (Lit.int .i64 (a : Int)).wf = true := WalkArith.wf_i64 (by omega)

/-- block p is a world with the numbers vs; F: all its blocks; gk: of which numbers the next one is known; C bounds gk, m the others -/
structure WO (C : List Nat) (W : World) (p : Nat) (F : List Nat) (D : WD) (vs : List Int) (gk : List Nat) (m : Nat) : Prop where
  wv : WV vs
  obj : W.heap[p]? = some (.cells #[D.fv, .map (some D.mp), .map (some D.mg), .map (some D.mo)] 125 (0, 0))
  inF : p ∈ F ∧ D.mp ∈ F ∧ D.mg ∈ F ∧ D.mo ∈ F
  ne : D.mp ≠ D.mg ∧ D.mp ≠ D.mo ∧ D.mg ≠ D.mo
  forms : W.ownsRow 0 111 1 D.fv vs.length D.fl
  fblk : ∀ b, D.fv.ownBlock = some b → b ∈ F
  rows : ∀ (i : Nat) (x : Int), vs[i]? = some x → ∃ v, D.fl[i]? = some v ∧ TRow W v (pf vs x) ∧ ∀ b, v.ownBlock = some b → b ∈ F
  plc : ∃ f, MapF Tryz.prog 9 W D.mp f ∧ ∀ k v, f k = some v ↔ ∃ (i : Nat) (x : Int), vs[i]? = some x ∧ k = .string ⟨(kb (pf vs x)).toArray⟩ ∧ v = .int .i64 (i : Nat)
  grt : ∃ f, MapF Tryz.prog 3 W D.mg f ∧ (∀ k v, f k = some v → ∃ (i j e : Nat), vs[i]? = some (e : Int) ∧ vs[j]? = some ((e : Int) + 1) ∧ k = .int .i64 (i : Nat) ∧ v = .int .i64 (j : Nat) ∧ e ∈ gk) ∧
    ∀ e ∈ gk, ∃ (i : Nat), vs[i]? = some (e : Int) ∧ f (.int .i64 (i : Nat)) ≠ none
  ord : ∃ f, MapF Tryz.prog 162 W D.mo f ∧ ∀ k v, f k = some v → ∃ (a b : Nat) (x y : Int), vs[a]? = some x ∧ vs[b]? = some y ∧ k = .agg #[.int .i64 (a : Nat), .int .i64 (b : Nat)] ∧ v = .int .i64 (isg (x - y))
  gnd : gk.Nodup
  cov : ∀ e ∈ gk, e ∈ C
  len : vs.length ≤ m + gk.length
  bnd : m + C.length ≤ 2147483648
  blt : ∀ b ∈ F, b < W.heap.size

section
variable {C : List Nat} {W W' : World} {p : Nat} {F : List Nat} {D : WD} {vs : List Int} {gk : List Nat} {m : Nat}

theorem ownsRow_kept {base e size n : Nat} {v : Value} {xs : List Value} (h : W.ownsRow base e size v n xs) (hb : ∀ b, v.ownBlock = some b → W'.heap[b]? = W.heap[b]?) : W'.ownsRow base e size v n xs := by
  obtain ⟨h1, h2 | ⟨g, cap, cur, rfl, h3, h4, h5⟩⟩ := h
  · exact ⟨h1, .inl h2⟩
  · exact ⟨h1, .inr ⟨g, cap, cur, rfl, h3, (hb g rfl).trans h4, h5⟩⟩

/-- a world is kept where its blocks are -/
theorem WO.kept (h : WO C W p F D vs gk m) (hb : ∀ b ∈ F, W'.heap[b]? = W.heap[b]?) : WO C W' p F D vs gk m where
  wv := h.wv
  obj := (hb p h.inF.1).trans h.obj
  inF := h.inF
  ne := h.ne
  forms := ownsRow_kept h.forms (fun b e => hb b (h.fblk b e))
  fblk := h.fblk
  rows := fun i x hi => by
    obtain ⟨v, h1, h2, h3⟩ := h.rows i x hi
    exact ⟨v, h1, ownsRow_kept h2 (fun b e => hb b (h3 b e)), h3⟩
  plc := by obtain ⟨f, h1, h2⟩ := h.plc; exact ⟨f, h1.kept (hb _ h.inF.2.1), h2⟩
  grt := by obtain ⟨f, h1, h2⟩ := h.grt; exact ⟨f, h1.kept (hb _ h.inF.2.2.1), h2⟩
  ord := by obtain ⟨f, h1, h2⟩ := h.ord; exact ⟨f, h1.kept (hb _ h.inF.2.2.2), h2⟩
  gnd := h.gnd
  cov := h.cov
  len := h.len
  bnd := h.bnd
  blt := fun b hbF => by
    have := h.blt b hbF
    have h1 := hb b hbF
    rw [Array.getElem?_eq_getElem this] at h1
    exact (Array.getElem?_eq_some_iff.1 h1).1
theorem WO.below (h : WO C W p F D vs gk m) (hb : Below W.heap.size W W') : WO C W' p F D vs gk m := h.kept fun b hbF => hb.block b (h.blt b hbF)
theorem WO.alloc (h : WO C W p F D vs gk m) (o : Obj) : WO C (W.alloc o) p F D vs gk m := h.below ((Below.refl _ _).alloc (Nat.le_refl _) o)
theorem WO.drew (h : WO C W p F D vs gk m) : WO C W.drew p F D vs gk m := h.kept fun _ _ => rfl
theorem WO.setCell (h : WO C W p F D vs gk m) {a : Addr} (ha : a.block ∉ F) (v : Value) : WO C (W.setCell a v) p F D vs gk m := h.kept fun b hb => Below.heap_setCell _ _ _ _ (by rintro rfl; exact ha hb)
theorem nodup_count {gk C : List Nat} (h1 : gk.Nodup) (h2 : ∀ e ∈ gk, e ∈ C) : gk.length ≤ C.length := nodup_length_le _ _ h1 h2
theorem WO.vlen (h : WO C W p F D vs gk m) : vs.length ≤ 2147483648 := by
  have := h.len; have := nodup_count h.gnd h.cov; have := h.bnd; omega
theorem cell_of {W : World} {b : Nat} {c : Array Value} {T : TypeId} {fz : Nat × Nat} (h : W.heap[b]? = some (.cells c T fz)) (o : Nat) : W.cell? ⟨b, o, none⟩ = c[o]? := by
  simp [World.cell?, h]
theorem free_of {W : World} {b : Nat} {c : Array Value} {T : TypeId} (h : W.heap[b]? = some (.cells c T (0, 0))) (o : Nat) : W.frozen? ⟨b, o, none⟩ = false := by
  simp [World.frozen?, h]
theorem WO.c0 (h : WO C W p F D vs gk m) : W.cell? ⟨p, 0, none⟩ = some D.fv := by rw [cell_of h.obj]; rfl
theorem WO.c1 (h : WO C W p F D vs gk m) : W.cell? ⟨p, 1, none⟩ = some (.map (some D.mp)) := by rw [cell_of h.obj]; rfl
theorem WO.c2 (h : WO C W p F D vs gk m) : W.cell? ⟨p, 2, none⟩ = some (.map (some D.mg)) := by rw [cell_of h.obj]; rfl
theorem WO.c3 (h : WO C W p F D vs gk m) : W.cell? ⟨p, 3, none⟩ = some (.map (some D.mo)) := by rw [cell_of h.obj]; rfl
end

theorem heap_last (w : World) (o : Obj) : (w.alloc o).heap[w.heap.size]? = some o := (MapKept.heap_alloc w o).1
theorem heap_old (w : World) (o : Obj) {b : Nat} (h : b < w.heap.size) : (w.alloc o).heap[b]? = w.heap[b]? := Below.heap_alloc w o b h
theorem size_alloc (w : World) (o : Obj) : (w.alloc o).heap.size = w.heap.size + 1 := by simp

theorem newWorld_wo (C : List Nat) (hC : C.length ≤ 2147483640) (w w1 : World) (hs : w1.heap.size = w.heap.size + 2) (hf : w1.heap[w.heap.size]? = some (.cells #[.slice none 0 0] 111 (0, 0)))
    (HM : MapF Tryz.prog 9 w1 (w.heap.size + 1) (updF (fun _ => none) (.string ⟨#[]⟩) (.int .i64 0))) :
    WO C (((w1.alloc (.map #[] 0)).alloc (.map #[] 0)).alloc (.cells #[.slice (some ⟨w.heap.size, 0, none⟩) 1 1, .map (some (w.heap.size + 1)), .map (some (w.heap.size + 2)), .map (some (w.heap.size + 2 + 1))] 125)) (w.heap.size + 4)
      [w.heap.size + 4, w.heap.size + 1, w.heap.size + 2, w.heap.size + 3, w.heap.size] ⟨.slice (some ⟨w.heap.size, 0, none⟩) 1 1, w.heap.size + 1, w.heap.size + 2, w.heap.size + 3, [.slice none 0 0]⟩ [0] [] 1 := by
  generalize w.heap.size = n at *
  have h3 : (w1.alloc (.map #[] 0)).heap.size = n + 3 := by rw [size_alloc, hs]
  have h4 : ((w1.alloc (.map #[] 0)).alloc (.map #[] 0)).heap.size = n + 4 := by rw [size_alloc, h3]
  have e4 := heap_last ((w1.alloc (.map #[] 0)).alloc (.map #[] 0)) (.cells #[.slice (some ⟨n, 0, none⟩) 1 1, .map (some (n + 1)), .map (some (n + 2)), .map (some (n + 2 + 1))] 125)
  rw [h4] at e4
  have m3 : MapF Tryz.prog 162 (((w1.alloc (.map #[] 0)).alloc (.map #[] 0)).alloc (.cells #[.slice (some ⟨n, 0, none⟩) 1 1, .map (some (n + 1)), .map (some (n + 2)), .map (some (n + 2 + 1))] 125)) (n + 3) (fun _ => none) := by
    have := MapF.made Tryz.prog 162 (w1.alloc (.map #[] 0))
    rw [h3] at this
    exact this.kept (heap_old _ _ (by omega))
  have m2 : MapF Tryz.prog 3 (((w1.alloc (.map #[] 0)).alloc (.map #[] 0)).alloc (.cells #[.slice (some ⟨n, 0, none⟩) 1 1, .map (some (n + 1)), .map (some (n + 2)), .map (some (n + 2 + 1))] 125)) (n + 2) (fun _ => none) := by
    have := MapF.made Tryz.prog 3 w1
    rw [hs] at this
    exact (this.kept (heap_old _ _ (by omega))).kept (heap_old _ _ (by omega))
  have m1 := ((HM.kept (heap_old w1 (.map #[] 0) (by omega))).kept (heap_old (w1.alloc (.map #[] 0)) (.map #[] 0) (by omega))).kept (heap_old ((w1.alloc (.map #[] 0)).alloc (.map #[] 0)) (.cells #[.slice (some ⟨n, 0, none⟩) 1 1, .map (some (n + 1)), .map (some (n + 2)), .map (some (n + 2 + 1))] 125) (by omega))
  have f0 := (heap_old ((w1.alloc (.map #[] 0)).alloc (.map #[] 0)) (.cells #[.slice (some ⟨n, 0, none⟩) 1 1, .map (some (n + 1)), .map (some (n + 2)), .map (some (n + 2 + 1))] 125) (b := n) (by omega)).trans ((heap_old (w1.alloc (.map #[] 0)) (.map #[] 0) (b := n) (by omega)).trans ((heap_old w1 (.map #[] 0) (b := n) (by omega)).trans hf))
  generalize hW : (((w1.alloc (.map #[] 0)).alloc (.map #[] 0)).alloc (.cells #[.slice (some ⟨n, 0, none⟩) 1 1, .map (some (n + 1)), .map (some (n + 2)), .map (some (n + 2 + 1))] 125)) = W at *
  have hsz : W.heap.size = n + 5 := by rw [← hW, size_alloc, h4]
  have z : ∀ (i : Nat) (x : Int), ([0] : List Int)[i]? = some x → i = 0 ∧ x = 0 := fun i x h => by
    cases i with
    | zero => simp at h; exact ⟨rfl, h.symm⟩
    | succ i => simp at h
  have hpf : pf [0] 0 = [] := by simp [pf, form_zero]
  exact {
    wv := ⟨rfl, by simp, fun i x h e he => by obtain ⟨_, rfl⟩ := z i x h; simp [exps, form_zero] at he⟩
    obj := e4
    inF := by simp
    ne := by simp
    forms := ⟨rfl, .inr ⟨n, 1, _, rfl, Nat.zero_le _, f0, Nat.le_refl _, by decide, rfl, rfl⟩⟩
    fblk := fun b hb => by simp [Value.ownBlock] at hb; simp [hb]
    rows := fun i x h => by
      obtain ⟨rfl, rfl⟩ := z i x h
      exact ⟨_, rfl, by rw [hpf]; exact ⟨rfl, .inl ⟨rfl, rfl⟩⟩, fun b hb => by cases hb⟩
    plc := ⟨_, m1, fun k v => by
      constructor
      · intro h
        unfold updF at h
        split at h
        · rename_i hk; cases h; exact ⟨0, 0, rfl, by rw [hk, hpf]; rfl, rfl⟩
        · cases h
      · rintro ⟨i, x, h, rfl, rfl⟩
        obtain ⟨rfl, rfl⟩ := z i x h
        rw [hpf]
        unfold updF
        exact if_pos rfl⟩
    grt := ⟨_, m2, ⟨fun k v h => (by cases h), fun e he => (by simp at he)⟩⟩
    ord := ⟨_, m3, fun k v h => (by cases h)⟩
    gnd := by simp
    cov := by simp
    len := by simp
    bnd := by omega
    blt := fun b hb => by simp at hb; omega }

set_option maxHeartbeats 1000000 in
set_option maxRecDepth 100000 in
theorem newWorld_calls (C : List Nat) (hC : C.length ≤ 2147483640) (w : World) : Calls Tryz.prog 52 #[] w fun e w' => ∃ (p : Nat) (F : List Nat) (D : WD), e = .returned (.pointer (some ⟨p, 0, none⟩)) ∧ Hid (WO C w' p F D [0] [] 1) ∧ Hid (FE [] w F w') := by
  have hmm := @run_makeMap Tryz.prog
  obtain ⟨w1, hrun, hm, hs, hg⟩ := (MapF.made Tryz.prog 9 (w.alloc (.cells #[.slice none 0 0] 111))).store law9 Tryz.underlying121 (x := .string ⟨#[]⟩) (v := .int .i64 0) (keyStr (by decide))
  rw [show (w.alloc (.cells #[.slice none 0 0] 111)).heap.size = w.heap.size + 1 by simp] at hrun hm hg
  rw [show ((w.alloc (.cells #[.slice none 0 0] 111)).alloc (.map #[] 0)).heap.size = w.heap.size + 2 by simp] at hs
  have hb0 : Below w.heap.size w ((w.alloc (.cells #[.slice none 0 0] 111)).alloc (.map #[] 0)) := ((Below.refl _ _).alloc (Nat.le_refl _) _).alloc (Nat.le_of_lt (by simp)) _
  have hb1 : Hid (Below w.heap.size w w1) := hb0.grown hg (by simp; omega) (fun k hk => by cases hk; omega)
  have hf : Hid (w1.heap[w.heap.size]? = some (.cells #[.slice none 0 0] 111 (0, 0))) := by
    have := hg.block w.heap.size (by simp; omega) (by intro e; have := Option.some.inj e; omega)
    show _ = _
    rw [this]
    show ((w.alloc _).alloc _).heap[w.heap.size]? = _
    rw [Below.heap_alloc _ _ _ (by simp)]
    exact (MapKept.heap_alloc w _).1
  have HM : Hid (MapF Tryz.prog 9 w1 (w.heap.size + 1) _) := hm
  clear hm hg hb0
  go_enter Tryz.func52, Tryz.ntmps52
  go_wp2_with fail
  refine bodyPost_ret (results_tmp rfl _ _ _) rfl ?_
  refine ⟨w.heap.size + 4, [w.heap.size + 4, w.heap.size + 1, w.heap.size + 2, w.heap.size + 3, w.heap.size], ⟨.slice (some ⟨w.heap.size, 0, none⟩) 1 1, w.heap.size + 1, w.heap.size + 2, w.heap.size + 3, [.slice none 0 0]⟩, rfl, ?_, ?_⟩
  · exact newWorld_wo C hC w w1 hs hf.out HM.out
  · refine ⟨Fr.of_below ?_, fun b hb => .inr ?_⟩
    · exact ((((hb1.out.alloc (by omega) _).alloc (by simp; omega) _).alloc (by simp; omega) _))
    · simp at hb; omega
end Sr
/- The walks of world.cmp, compared, differ. -/
namespace Sr
open Go Go.Proofs Go.RowKit Go.Maps Go.WideMaps

theorem sg_true : sg true = -1 := rfl
theorem sg_false : sg false = 1 := rfl

set_option maxHeartbeats 1000000 in
set_option maxRecDepth 100000 in
theorem one_calls (s : Bool) (a : Int) (w : World) : Calls Tryz.prog 136 #[.agg #[.bool s, .int .i64 a]] w fun e w' => e = .returned (.int .i64 (sg s)) ∧ w' = w.alloc (.cells #[.bool s, .int .i64 a] 154) := by
  cases s
  all_goals
    go_enter Tryz.func136, Tryz.ntmps136
    go_wp2_with fail
    go_ret
    exact ⟨rfl, rfl⟩

/-- what differ says -/
def dif (sx sy hx hy : Bool) (c : Int) : Int := if hx = false then -(sg sy) else if hy = false ∨ sx ≠ sy then sg sx else sg sx * c

theorem Fr.pre {F : List Nat} {W W1 W2 : World} (h : Fr F W W1) (k : Fr F W1 W2) : Fr F W W2 :=
  ⟨k.os.trans h.os, k.tape.trans h.tape, k.output.trans h.output, Nat.le_trans h.size k.size, fun b hb hn => (k.block b (Nat.lt_of_lt_of_le hb h.size) hn).trans (h.block b hb hn)⟩

theorem Fr.drew {F : List Nat} {W w : World} (h : Fr F W w) : Fr F W w.drew := ⟨h.os, h.tape, h.output, h.size, h.block⟩
theorem Fr.alloc {F : List Nat} {W w : World} (h : Fr F W w) (o : Obj) : Fr F W (w.alloc o) :=
  ⟨h.os, h.tape, h.output, Nat.le_trans h.size (by simp), fun b hb hn => (heap_old _ _ (Nat.lt_of_lt_of_le hb h.size)).trans (h.block b hb hn)⟩

theorem wrapc (c : Int) (h : -1 ≤ c ∧ c ≤ 1) : IntKind.i64.wrap c = c := IntWalk.i64_in _ (by omega)
set_option maxHeartbeats 1000000 in
set_option maxRecDepth 100000 in
theorem differ_both {C : List Nat} {W : World} {p : Nat} {F : List Nat} {D : WD} {vs : List Int} {gk : List Nat} {m : Nat} (H : Hid (WO C W p F D vs gk m)) (s : Bool) (ax ay c : Int) (hcb : -1 ≤ c ∧ c ≤ 1)
    (HC : ∀ W1, Hid (WO C W1 p F D vs gk m) → Calls Tryz.prog 64 #[.pointer (some ⟨p, 0, none⟩), .int .i64 ax, .int .i64 ay] W1 fun e W2 => e = .returned (.int .i64 c) ∧ Hid (WO C W2 p F D vs gk m) ∧ Hid (Fr F W1 W2)) :
    Calls Tryz.prog 107 #[.pointer (some ⟨p, 0, none⟩), .agg #[.bool s, .int .i64 ax], .agg #[.bool s, .int .i64 ay], .bool true, .bool true] W fun e W' => e = .returned (.int .i64 (sg s * c)) ∧ Hid (WO C W' p F D vs gk m) ∧ Hid (Fr F W W') := by
  have ho : ∀ a w, Calls Tryz.prog 136 #[.agg #[.bool s, .int .i64 a]] w fun e w' => e = .returned (.int .i64 (sg s)) ∧ w' = w.alloc (.cells #[.bool s, .int .i64 a] 154) := fun a w => one_calls s a w
  have HC2 : ∀ a b c' : Obj, Calls Tryz.prog 64 #[.pointer (some ⟨p, 0, none⟩), .int .i64 ax, .int .i64 ay] (((W.alloc a).alloc b).alloc c').drew fun e W2 => e = .returned (.int .i64 c) ∧ Hid (WO C W2 p F D vs gk m) ∧ Hid (Fr F W W2) ∧ Hid (Fr F (((W.alloc a).alloc b).alloc c').drew W2) := fun a b c' => by
    refine (HC _ ?_).mono fun e W2 ⟨h1, h2, h3⟩ => ⟨h1, h2, Fr.pre ?_ h3.out, h3⟩
    · exact (((H.out.alloc a).alloc b).alloc c').drew
    · exact ((((Fr.refl F W).alloc a).alloc b).alloc c').drew
  have hw : IntKind.i64.wrap (sg s * c) = sg s * c := wrapc _ (by cases s <;> simp [sg_true, sg_false] <;> omega)
  have hnF : ∀ b ∈ F, b < W.heap.size := H.out.blt
  have hn0 : W.heap.size ∉ F := fun h => by have := hnF _ h; omega
  have hn1 : W.heap.size + 1 ∉ F := fun h => by have := hnF _ h; omega
  clear hnF
  have hS : ∀ (a b : Array Value) (c' : Obj) (W2 : World), Fr F (((W.alloc (.cells a 154)).alloc (.cells b 154)).alloc c').drew W2 → W2.heap[W.heap.size]? = some (.cells a 154 (0, 0)) ∧ W2.heap[W.heap.size + 1]? = some (.cells b 154 (0, 0)) := fun a b c' W2 hf => by
    have h0 : ((W.alloc (.cells a 154)).alloc (.cells b 154)).heap[W.heap.size]? = some (.cells a 154 (0, 0)) := (heap_old _ _ (by simp)).trans (heap_last W _)
    have h1 : ((W.alloc (.cells a 154)).alloc (.cells b 154)).heap[W.heap.size + 1]? = some (.cells b 154 (0, 0)) := by have := heap_last (W.alloc (.cells a 154)) (.cells b 154); rwa [size_alloc] at this
    exact ⟨(hf.block _ (by simp; omega) hn0).trans ((heap_old _ _ (by simp; omega)).trans h0), (hf.block _ (by simp) hn1).trans ((heap_old _ _ (by simp)).trans h1)⟩
  have HS : Hid (∀ (a b : Array Value) (c' : Obj) (W2 : World), Fr F (((W.alloc (.cells a 154)).alloc (.cells b 154)).alloc c').drew W2 → W2.heap[W.heap.size]? = some (.cells a 154 (0, 0)) ∧ W2.heap[W.heap.size + 1]? = some (.cells b 154 (0, 0))) := hS
  clear hS HC H hn0 hn1
  have hss : (s != s) = false := by simp
  go_enter Tryz.func107, Tryz.ntmps107
  go_wp2_with fail
  go_region_held3 (fun w' => w'.cell? ⟨W.heap.size, 0, none⟩ = some (.bool s) ∧ w'.cell? ⟨W.heap.size, 1, none⟩ = some (.int .i64 ax) ∧ w'.cell? ⟨W.heap.size + 1, 1, none⟩ = some (.int .i64 ay)) (first | go_keep | (have := HS.out _ _ _ _ HF.out; simp [World.cell?, this.1, this.2]))
    (first | (go_at_call 136; refine (ho _ _).mono ?_; rintro e w' ⟨rfl, rfl⟩) | (go_at_call 64; refine (HC2 _ _ _).mono ?_; rintro e w' ⟨rfl, HX, HY, HF⟩))
  go_wp2_with fail
  refine bodyPost_ret (results_tmp rfl _ _ _) rfl ?_
  exact ⟨rfl, HX, HY⟩

set_option maxHeartbeats 1000000 in
set_option maxRecDepth 100000 in
theorem differ_one {W : World} (p : Value) (sx sy hx hy : Bool) (ax ay : Int) (c : Int)
    (h : (hx = false ∧ c = -(sg sy)) ∨ (hx = true ∧ (hy = false ∨ sx ≠ sy) ∧ c = sg sx)) :
    Calls Tryz.prog 107 #[p, .agg #[.bool sx, .int .i64 ax], .agg #[.bool sy, .int .i64 ay], .bool hx, .bool hy] W fun e W' => e = .returned (.int .i64 c) ∧ ∃ a b d, W' = ((W.alloc a).alloc b).alloc d := by
  have ho : ∀ s a w, Calls Tryz.prog 136 #[.agg #[.bool s, .int .i64 a]] w fun e w' => e = .returned (.int .i64 (sg s)) ∧ w' = w.alloc (.cells #[.bool s, .int .i64 a] 154) := fun s a w => one_calls s a w
  have hw : IntKind.i64.wrap (-(sg sy)) = -(sg sy) := wrapc _ (by cases sy <;> simp [sg_true, sg_false])
  rcases h with ⟨rfl, rfl⟩ | ⟨rfl, h | h, rfl⟩
  · go_enter Tryz.func107, Tryz.ntmps107
    go_wp2_with fail
    refine (ho _ _ _).mono ?_
    rintro e w' ⟨rfl, rfl⟩
    go_wp2_with fail
    refine bodyPost_ret (results_tmp rfl _ _ _) rfl ?_
    exact ⟨rfl, _, _, _, rfl⟩
  · subst h
    go_enter Tryz.func107, Tryz.ntmps107
    go_wp2_with fail
    refine (ho _ _ _).mono ?_
    rintro e w' ⟨rfl, rfl⟩
    go_wp2_with fail
    refine bodyPost_ret (results_tmp rfl _ _ _) rfl ?_
    exact ⟨rfl, _, _, _, rfl⟩
  · have hs2 : (!sx == sy) = true := by cases sx <;> cases sy <;> simp_all
    cases hy
    all_goals
      go_enter Tryz.func107, Tryz.ntmps107
      go_wp2_with fail
      refine (ho _ _ _).mono ?_
      rintro e w' ⟨rfl, rfl⟩
      go_wp2_with fail
      refine bodyPost_ret (results_tmp rfl _ _ _) rfl ?_
      exact ⟨rfl, _, _, _, rfl⟩

theorem differ_calls {C : List Nat} {W : World} {p : Nat} {F : List Nat} {D : WD} {vs : List Int} {gk : List Nat} {m : Nat} (H : Hid (WO C W p F D vs gk m)) (sx sy hx hy : Bool) (ax ay c : Int) (hcb : -1 ≤ c ∧ c ≤ 1)
    (HC : hx = true → hy = true → sx = sy → ∀ W1, Hid (WO C W1 p F D vs gk m) → Calls Tryz.prog 64 #[.pointer (some ⟨p, 0, none⟩), .int .i64 ax, .int .i64 ay] W1 fun e W2 => e = .returned (.int .i64 c) ∧ Hid (WO C W2 p F D vs gk m) ∧ Hid (Fr F W1 W2)) :
    Calls Tryz.prog 107 #[.pointer (some ⟨p, 0, none⟩), .agg #[.bool sx, .int .i64 ax], .agg #[.bool sy, .int .i64 ay], .bool hx, .bool hy] W fun e W' => e = .returned (.int .i64 (dif sx sy hx hy c)) ∧ Hid (WO C W' p F D vs gk m) ∧ Hid (Fr F W W') := by
  by_cases hb : hx = true ∧ hy = true ∧ sx = sy
  · obtain ⟨rfl, rfl, rfl⟩ := hb
    have : dif sx sx true true c = sg sx * c := by simp [dif]
    rw [this]
    exact differ_both H sx ax ay c hcb (HC rfl rfl rfl)
  · refine (differ_one _ sx sy hx hy ax ay (dif sx sy hx hy c) ?_).mono ?_
    · unfold dif
      by_cases h1 : hx = false
      · rw [if_pos h1]; exact .inl ⟨h1, rfl⟩
      · have h1' : hx = true := by simpa using h1
        have h2 : hy = false ∨ sx ≠ sy := by
          by_cases h3 : hy = true
          · exact .inr fun h => hb ⟨h1', h3, h⟩
          · exact .inl (by simpa using h3)
        rw [if_neg h1, if_pos h2]
        exact .inr ⟨h1', h2, rfl⟩
    · rintro e w' ⟨rfl, a, b, d, rfl⟩
      exact ⟨rfl, ((H.out.alloc a).alloc b).alloc d, (((Fr.refl F W).alloc a).alloc b).alloc d⟩
end Sr
/- The walk of compared. -/
namespace Sr
open Go Go.Proofs Go.RowKit Go.Maps Go.WideMaps

theorem tcells_get : ∀ {l : List PT} {k : Nat} {t : PT}, l[k]? = some t → (tcells l)[k * 2]? = some (.bool t.1) ∧ (tcells l)[k * 2 + 1]? = some (.int .i64 (t.2 : Nat))
  | [], _, _, h => by simp at h
  | s :: l, 0, t, h => by simp at h; subst h; exact ⟨rfl, rfl⟩
  | s :: l, k + 1, t, h => by
    have h' : l[k]? = some t := by simpa using h
    obtain ⟨h1, h2⟩ := tcells_get h'
    have e : tcells (s :: l) = [.bool s.1, .int .i64 (s.2 : Nat)] ++ tcells l := rfl
    rw [e]
    constructor
    · rw [List.getElem?_append_right (by simp; omega)]; rw [show (k + 1) * 2 - [Value.bool s.1, .int .i64 (s.2 : Nat)].length = k * 2 by simp; omega]; exact h1
    · rw [List.getElem?_append_right (by simp; omega)]; rw [show (k + 1) * 2 + 1 - [Value.bool s.1, .int .i64 (s.2 : Nat)].length = k * 2 + 1 by simp; omega]; exact h2

theorem TRow.shape {W : World} {v : Value} {l : List PT} (h : TRow W v l) : ∃ a cap, v = .slice a l.length cap ∧ l.length ≤ maxLen ∧ ∀ (k : Nat) (t : PT), l[k]? = some t → ∃ g, a = some ⟨g, 0, none⟩ ∧ W.cell? ⟨g, k * 2, none⟩ = some (.bool t.1) ∧ W.cell? ⟨g, k * 2 + 1, none⟩ = some (.int .i64 (t.2 : Nat)) := by
  obtain ⟨h1, ⟨rfl, h2⟩ | ⟨g, cap, cur, rfl, h3, h4, h5, h6, h7, h8⟩⟩ := h
  · have : l = [] := List.length_eq_zero_iff.1 h2
    subst this
    exact ⟨none, 0, rfl, by decide, fun k t hk => by simp at hk⟩
  · refine ⟨_, cap, rfl, Nat.le_trans h5 h6, fun k t hk => ⟨g, rfl, ?_⟩⟩
    obtain ⟨e1, e2⟩ := tcells_get hk
    have hk2 : k < l.length := (List.getElem?_eq_some_iff.1 hk).1
    rw [← h8] at e1 e2
    rw [cell_of h4, cell_of h4, ← Array.getElem?_toList, ← Array.getElem?_toList]
    exact ⟨by rw [← e1, List.getElem?_take_of_lt (by omega)], by rw [← e2, List.getElem?_take_of_lt (by omega)]⟩

theorem maxLen_lt : maxLen ≤ 9223372036854775807 := by decide
theorem ownsRow_lt {W : World} {base e size n : Nat} {v : Value} {xs : List Value} (h : W.ownsRow base e size v n xs) {b : Nat} (hb : v.ownBlock = some b) : b < W.heap.size := by
  obtain ⟨_, ⟨rfl, _⟩ | ⟨g, cap, cur, rfl, _, h4, _⟩⟩ := h
  · cases hb
  · cases hb; exact (Array.getElem?_eq_some_iff.1 h4).1
theorem ownsRow_below {W W' : World} {base e size n : Nat} {v : Value} {xs : List Value} (h : W.ownsRow base e size v n xs) (hb : Below W.heap.size W W') : W'.ownsRow base e size v n xs :=
  ownsRow_kept h fun _ e => hb.block _ (ownsRow_lt h e)

theorem cell_lt {W : World} {b o : Nat} {v : Value} (h : W.cell? ⟨b, o, none⟩ = some v) : b < W.heap.size := by
  unfold World.cell? at h
  split at h
  · rename_i h1; exact (Array.getElem?_eq_some_iff.1 h1).1
  · cases h

/-- the comparison of two lists, c comparing places -/
def cmpT (c : Nat → Nat → Int) : List PT → List PT → Int
  | [], [] => 0
  | [], y :: _ => -(sg y.1)
  | x :: _, [] => sg x.1
  | x :: a, y :: b => if x = y then cmpT c a b else if x.1 ≠ y.1 then sg x.1 else sg x.1 * c x.2 y.2
theorem cmpT_drop {c : Nat → Nat → Int} : ∀ (k : Nat) {a b : List PT}, (∀ i < k, ∃ t, a[i]? = some t ∧ b[i]? = some t) → cmpT c a b = cmpT c (a.drop k) (b.drop k)
  | 0, _, _, _ => rfl
  | k + 1, [], b, h => by obtain ⟨t, h1, _⟩ := h 0 (by omega); simp at h1
  | k + 1, x :: a, [], h => by obtain ⟨t, _, h1⟩ := h 0 (by omega); simp at h1
  | k + 1, x :: a, y :: b, h => by
    obtain ⟨t, h1, h2⟩ := h 0 (by omega)
    have e : x = y := by simp at h1 h2; rw [h1, h2]
    rw [cmpT, if_pos e]
    exact cmpT_drop k fun i hi => by simpa using h (i + 1) (by omega)
theorem cmpT_end {c : Nat → Nat → Int} {k : Nat} {a b : List PT} (h : ∀ i < k, ∃ t, a[i]? = some t ∧ b[i]? = some t) (h1 : a.length ≤ k) (h2 : b.length ≤ k) : cmpT c a b = 0 := by
  rw [cmpT_drop k h, List.drop_eq_nil_of_le h1, List.drop_eq_nil_of_le h2]; rfl
theorem drop_of {l : List PT} {k : Nat} {t : PT} (h : l[k]? = some t) : l.drop k = t :: l.drop (k + 1) := by
  obtain ⟨h1, h2⟩ := List.getElem?_eq_some_iff.1 h
  rw [List.drop_eq_getElem_cons h1, h2]

theorem cmpT_left {c : Nat → Nat → Int} {k : Nat} {a b : List PT} {x : PT} (h : ∀ i < k, ∃ t, a[i]? = some t ∧ b[i]? = some t) (hx : a[k]? = some x) (h2 : b.length ≤ k) : cmpT c a b = sg x.1 := by
  rw [cmpT_drop k h, drop_of hx, List.drop_eq_nil_of_le h2]; rfl
theorem cmpT_right {c : Nat → Nat → Int} {k : Nat} {a b : List PT} {y : PT} (h : ∀ i < k, ∃ t, a[i]? = some t ∧ b[i]? = some t) (hy : b[k]? = some y) (h1 : a.length ≤ k) : cmpT c a b = -(sg y.1) := by
  rw [cmpT_drop k h, drop_of hy, List.drop_eq_nil_of_le h1]; rfl
theorem cmpT_both {c : Nat → Nat → Int} {k : Nat} {a b : List PT} {x y : PT} (h : ∀ i < k, ∃ t, a[i]? = some t ∧ b[i]? = some t) (hx : a[k]? = some x) (hy : b[k]? = some y) (hne : x ≠ y) : cmpT c a b = dif x.1 y.1 true true (c x.2 y.2) := by
  rw [cmpT_drop k h, drop_of hx, drop_of hy, cmpT, if_neg hne, dif]
  by_cases he : x.1 = y.1 <;> simp [he]

set_option maxHeartbeats 4000000 in
set_option maxRecDepth 100000 in
theorem compared_calls {C : List Nat} {W : World} {p : Nat} {F : List Nat} {D : WD} {vs : List Int} {gks : List Nat} {m : Nat} (H : Hid (WO C W p F D vs gks m)) (va vb : Value) (la lb : List PT) (c : Nat → Nat → Int)
    (ha : TRow W va la) (hb : TRow W vb lb) (hcb : ∀ i j, -1 ≤ c i j ∧ c i j ≤ 1)
    (HC : ∀ (k : Nat) (x y : PT), la[k]? = some x → lb[k]? = some y → ∀ W1, Hid (WO C W1 p F D vs gks m) → Calls Tryz.prog 64 #[.pointer (some ⟨p, 0, none⟩), .int .i64 (x.2 : Nat), .int .i64 (y.2 : Nat)] W1 fun e W2 => e = .returned (.int .i64 (c x.2 y.2)) ∧ Hid (WO C W2 p F D vs gks m) ∧ Hid (Fr F W1 W2)) :
    Calls Tryz.prog 106 #[va, vb, .func (.func 107) #[.pointer (some ⟨p, 0, none⟩)] #[]] W fun e W' => e = .returned (.int .i64 (cmpT c la lb)) ∧ Hid (WO C W' p F D vs gks m) ∧ Hid (Fr F W W') := by
  have Ha : Hid (TRow W va la) := ha
  have Hb : Hid (TRow W vb lb) := hb
  obtain ⟨aa, ca, rfl, hla, _⟩ := ha.shape
  obtain ⟨ab, cb, rfl, hlb, _⟩ := hb.shape
  have HD := fun (W1 : World) (h : Hid (WO C W1 p F D vs gks m)) sx sy hx hy (ax ay : Nat) (k : Nat) (h1 : hx = true → la[k]? = some (sx, ax)) (h2 : hy = true → lb[k]? = some (sy, ay)) => differ_calls h sx sy hx hy ax ay (c ax ay) (hcb _ _) fun e1 e2 _ => HC k _ _ (h1 e1) (h2 e2)
  have HDl := fun (W1 : World) (h : Hid (WO C W1 p F D vs gks m)) (sx : Bool) (ax : Nat) => differ_calls h sx false true false ax 0 0 (by omega) (fun _ e => by cases e)
  have HDr := fun (W1 : World) (h : Hid (WO C W1 p F D vs gks m)) (sy : Bool) (ay : Nat) => differ_calls h false sy false true 0 ay 0 (by omega) (fun e => by cases e)
  clear HC ha hb hcb
  have B0 : Hid (Below W.heap.size W W) := Below.refl _ _
  by_cases hm : la.length < lb.length
  ·
    go_enter Tryz.func106, Tryz.ntmps106
    go_wp2_with fail
    go_loopg [15] lb.length (fun g1 vi wr => ∃ (k : Nat), vi = .int .i64 k ∧ k ≤ lb.length ∧ lb.length - k ≤ g1 ∧ Hid (Below W.heap.size W wr) ∧ Hid (∀ i < k, ∃ t, la[i]? = some t ∧ lb[i]? = some t))
    case atStart => exact ⟨0, rfl, by omega, by omega, B0, fun i hi => by omega⟩
    case round =>
      clear B0
      obtain ⟨k, rfl, hkM, hg, HB, HE⟩ := hrel
      by_cases hk : k < lb.length
      · have hkz : (k : Int) < (lb.length : Int) := by omega
        have hk0 : (0 : Int) ≤ (k : Int) := Int.natCast_nonneg k
        have hkw : IntKind.i64.wrap ((k : Int) + 1) = (k : Int) + 1 := IntWalk.i64_in _ (by have := maxLen_lt; omega)
        by_cases hka : k < la.length
        · have hkaz : (k : Int) < (la.length : Int) := by omega
          obtain ⟨_, _, ea, _, sa⟩ := TRow.shape (ownsRow_below Ha.out HB.out)
          cases ea
          obtain ⟨⟨sx, ax⟩, hx⟩ : ∃ x, la[k]? = some x := ⟨_, List.getElem?_eq_getElem hka⟩
          obtain ⟨ga, rfl, cx0, cx1⟩ := sa k _ hx
          have Hx : Hid _ := hx
          dsimp only at cx0 cx1
          have la0 : ga < wr.heap.size := cell_lt cx0
          have la1 : ga ≠ wr.heap.size := by omega
          have la2 : ga ≠ wr.heap.size + 1 := by omega
          clear sa hx
          by_cases hkb : k < lb.length
          · have hkbz : (k : Int) < (lb.length : Int) := by omega
            obtain ⟨_, _, eb, _, sb⟩ := TRow.shape (ownsRow_below Hb.out HB.out)
            cases eb
            obtain ⟨⟨sy, ay⟩, hy⟩ : ∃ x, lb[k]? = some x := ⟨_, List.getElem?_eq_getElem hkb⟩
            obtain ⟨gb, rfl, cy0, cy1⟩ := sb k _ hy
            have Hy : Hid _ := hy
            dsimp only at cy0 cy1
            have lb0 : gb < wr.heap.size := cell_lt cy0
            have lb1 : gb ≠ wr.heap.size := by omega
            have lb2 : gb ≠ wr.heap.size + 1 := by omega
            clear sb hy
            by_cases he : sx = sy ∧ ax = ay
            · obtain ⟨rfl, rfl⟩ := he
              have HE2 : Hid (∀ i < k + 1, ∃ t, la[i]? = some t ∧ lb[i]? = some t) := fun i hi => if h : i = k then ⟨(sx, ax), h ▸ Hx.out, h ▸ Hy.out⟩ else HE.out i (by omega)
              have HB2 : Hid (∀ a b, Below W.heap.size W ((wr.alloc a).alloc b)) := fun a b => (HB.out.alloc HB.out.size _).alloc (Nat.le_trans HB.out.size (by simp)) _
              clear HB HE
              go_wp2_with fail
              go_roundg (lb.length - (k + 1))
              case measure => omega
              case rel => exact ⟨k + 1, by go_num, by omega, by omega, HB2.out _ _, HE2⟩
            · have HR : Hid (cmpT c la lb = dif sx sy true true (c ax ay)) := cmpT_both HE.out Hx.out Hy.out (fun e1 => he ⟨congrArg Prod.fst e1, congrArg Prod.snd e1⟩)
              have HF : Hid (∀ a b, Fr F W ((wr.alloc a).alloc b)) := fun a b => ((Fr.of_below HB.out).alloc a).alloc b
              have HW : Hid (∀ a b, WO C ((wr.alloc a).alloc b) p F D vs gks m) := fun a b => ((H.out.below HB.out).alloc a).alloc b
              clear HB HE
              have hz : sx = sy → ¬ ((ax : Int) = (ay : Int)) := fun e1 e2 => he ⟨e1, by omega⟩
              clear he
              by_cases hs : sx = sy
              · subst hs
                have hz2 := hz rfl
                clear hz
                go_wp2_with fail
                refine (HD _ ?_ sx sx true true ax ay k (fun _ => Hx.out) (fun _ => Hy.out)).mono ?_
                · exact HW.out _ _
                rintro e w' ⟨rfl, H3, H4⟩
                go_wp2_with fail
                refine bodyPost_ret (results_tmp rfl _ _ _) rfl ?_
                exact ⟨congrArg (fun x => Ending.returned (.int .i64 x)) HR.out.symm, H3, Fr.pre (HF.out _ _) H4.out⟩
              · clear hz
                go_wp2_with fail
                refine (HD _ ?_ sx sy true true ax ay k (fun _ => Hx.out) (fun _ => Hy.out)).mono ?_
                · exact HW.out _ _
                rintro e w' ⟨rfl, H3, H4⟩
                go_wp2_with fail
                refine bodyPost_ret (results_tmp rfl _ _ _) rfl ?_
                exact ⟨congrArg (fun x => Ending.returned (.int .i64 x)) HR.out.symm, H3, Fr.pre (HF.out _ _) H4.out⟩
          ·
            exfalso; omega
        ·
          have hkaz : ¬ ((k : Int) < (la.length : Int)) := by omega
          obtain ⟨_, _, eb, _, sb⟩ := TRow.shape (ownsRow_below Hb.out HB.out)
          cases eb
          obtain ⟨⟨sy, ay⟩, hy⟩ : ∃ x, lb[k]? = some x := ⟨_, List.getElem?_eq_getElem (by omega)⟩
          obtain ⟨gb, rfl, cy0, cy1⟩ := sb k _ hy
          have Hy : Hid _ := hy
          dsimp only at cy0 cy1
          have lb0 : gb < wr.heap.size := cell_lt cy0
          have lb1 : gb ≠ wr.heap.size := by omega
          have lb2 : gb ≠ wr.heap.size + 1 := by omega
          clear sb hy
          have hkbz : (k : Int) < (lb.length : Int) := by omega
          have HR : Hid (cmpT c la lb = dif false sy false true 0) := (cmpT_right HE.out Hy.out (by omega)).trans (by simp [dif])
          have HF : Hid (∀ a b, Fr F W ((wr.alloc a).alloc b)) := fun a b => ((Fr.of_below HB.out).alloc a).alloc b
          have HW : Hid (∀ a b, WO C ((wr.alloc a).alloc b) p F D vs gks m) := fun a b => ((H.out.below HB.out).alloc a).alloc b
          clear HB HE
          go_wp2_with fail
          refine (HDr _ ?_ sy ay).mono ?_
          · exact HW.out _ _
          rintro e w' ⟨rfl, H3, H4⟩
          go_wp2_with fail
          refine bodyPost_ret (results_tmp rfl _ _ _) rfl ?_
          exact ⟨congrArg (fun x => Ending.returned (.int .i64 x)) HR.out.symm, H3, Fr.pre (HF.out _ _) H4.out⟩
      · have hkz : ¬ ((k : Int) < (lb.length : Int)) := by omega
        go_wp2_with fail
        refine bodyPost_ret (results_tmp rfl _ _ _) rfl ?_
        exact ⟨congrArg (fun x => Ending.returned (.int .i64 x)) (cmpT_end HE.out (by omega) (by omega)).symm, H.out.below HB.out, Fr.of_below HB.out⟩
  ·
    go_enter Tryz.func106, Tryz.ntmps106
    go_wp2_with fail
    go_loopg [15] la.length (fun g1 vi wr => ∃ (k : Nat), vi = .int .i64 k ∧ k ≤ la.length ∧ la.length - k ≤ g1 ∧ Hid (Below W.heap.size W wr) ∧ Hid (∀ i < k, ∃ t, la[i]? = some t ∧ lb[i]? = some t))
    case atStart => exact ⟨0, rfl, by omega, by omega, B0, fun i hi => by omega⟩
    case round =>
      clear B0
      obtain ⟨k, rfl, hkM, hg, HB, HE⟩ := hrel
      by_cases hk : k < la.length
      · have hkz : (k : Int) < (la.length : Int) := by omega
        have hk0 : (0 : Int) ≤ (k : Int) := Int.natCast_nonneg k
        have hkw : IntKind.i64.wrap ((k : Int) + 1) = (k : Int) + 1 := IntWalk.i64_in _ (by have := maxLen_lt; omega)
        by_cases hka : k < la.length
        · have hkaz : (k : Int) < (la.length : Int) := by omega
          obtain ⟨_, _, ea, _, sa⟩ := TRow.shape (ownsRow_below Ha.out HB.out)
          cases ea
          obtain ⟨⟨sx, ax⟩, hx⟩ : ∃ x, la[k]? = some x := ⟨_, List.getElem?_eq_getElem hka⟩
          obtain ⟨ga, rfl, cx0, cx1⟩ := sa k _ hx
          have Hx : Hid _ := hx
          dsimp only at cx0 cx1
          have la0 : ga < wr.heap.size := cell_lt cx0
          have la1 : ga ≠ wr.heap.size := by omega
          have la2 : ga ≠ wr.heap.size + 1 := by omega
          clear sa hx
          by_cases hkb : k < lb.length
          · have hkbz : (k : Int) < (lb.length : Int) := by omega
            obtain ⟨_, _, eb, _, sb⟩ := TRow.shape (ownsRow_below Hb.out HB.out)
            cases eb
            obtain ⟨⟨sy, ay⟩, hy⟩ : ∃ x, lb[k]? = some x := ⟨_, List.getElem?_eq_getElem hkb⟩
            obtain ⟨gb, rfl, cy0, cy1⟩ := sb k _ hy
            have Hy : Hid _ := hy
            dsimp only at cy0 cy1
            have lb0 : gb < wr.heap.size := cell_lt cy0
            have lb1 : gb ≠ wr.heap.size := by omega
            have lb2 : gb ≠ wr.heap.size + 1 := by omega
            clear sb hy
            by_cases he : sx = sy ∧ ax = ay
            · obtain ⟨rfl, rfl⟩ := he
              have HE2 : Hid (∀ i < k + 1, ∃ t, la[i]? = some t ∧ lb[i]? = some t) := fun i hi => if h : i = k then ⟨(sx, ax), h ▸ Hx.out, h ▸ Hy.out⟩ else HE.out i (by omega)
              have HB2 : Hid (∀ a b, Below W.heap.size W ((wr.alloc a).alloc b)) := fun a b => (HB.out.alloc HB.out.size _).alloc (Nat.le_trans HB.out.size (by simp)) _
              clear HB HE
              go_wp2_with fail
              go_roundg (la.length - (k + 1))
              case measure => omega
              case rel => exact ⟨k + 1, by go_num, by omega, by omega, HB2.out _ _, HE2⟩
            · have HR : Hid (cmpT c la lb = dif sx sy true true (c ax ay)) := cmpT_both HE.out Hx.out Hy.out (fun e1 => he ⟨congrArg Prod.fst e1, congrArg Prod.snd e1⟩)
              have HF : Hid (∀ a b, Fr F W ((wr.alloc a).alloc b)) := fun a b => ((Fr.of_below HB.out).alloc a).alloc b
              have HW : Hid (∀ a b, WO C ((wr.alloc a).alloc b) p F D vs gks m) := fun a b => ((H.out.below HB.out).alloc a).alloc b
              clear HB HE
              have hz : sx = sy → ¬ ((ax : Int) = (ay : Int)) := fun e1 e2 => he ⟨e1, by omega⟩
              clear he
              by_cases hs : sx = sy
              · subst hs
                have hz2 := hz rfl
                clear hz
                go_wp2_with fail
                refine (HD _ ?_ sx sx true true ax ay k (fun _ => Hx.out) (fun _ => Hy.out)).mono ?_
                · exact HW.out _ _
                rintro e w' ⟨rfl, H3, H4⟩
                go_wp2_with fail
                refine bodyPost_ret (results_tmp rfl _ _ _) rfl ?_
                exact ⟨congrArg (fun x => Ending.returned (.int .i64 x)) HR.out.symm, H3, Fr.pre (HF.out _ _) H4.out⟩
              · clear hz
                go_wp2_with fail
                refine (HD _ ?_ sx sy true true ax ay k (fun _ => Hx.out) (fun _ => Hy.out)).mono ?_
                · exact HW.out _ _
                rintro e w' ⟨rfl, H3, H4⟩
                go_wp2_with fail
                refine bodyPost_ret (results_tmp rfl _ _ _) rfl ?_
                exact ⟨congrArg (fun x => Ending.returned (.int .i64 x)) HR.out.symm, H3, Fr.pre (HF.out _ _) H4.out⟩
          ·
            have hkbz : ¬ ((k : Int) < (lb.length : Int)) := by omega
            have HR : Hid (cmpT c la lb = dif sx false true false 0) := (cmpT_left HE.out Hx.out (by omega)).trans (by simp [dif])
            have HF : Hid (∀ a b, Fr F W ((wr.alloc a).alloc b)) := fun a b => ((Fr.of_below HB.out).alloc a).alloc b
            have HW : Hid (∀ a b, WO C ((wr.alloc a).alloc b) p F D vs gks m) := fun a b => ((H.out.below HB.out).alloc a).alloc b
            clear HB HE
            go_wp2_with fail
            refine (HDl _ ?_ sx ax).mono ?_
            · exact HW.out _ _
            rintro e w' ⟨rfl, H3, H4⟩
            go_wp2_with fail
            refine bodyPost_ret (results_tmp rfl _ _ _) rfl ?_
            exact ⟨congrArg (fun x => Ending.returned (.int .i64 x)) HR.out.symm, H3, Fr.pre (HF.out _ _) H4.out⟩
        ·
          exfalso; omega
      · have hkz : ¬ ((k : Int) < (la.length : Int)) := by omega
        go_wp2_with fail
        refine bodyPost_ret (results_tmp rfl _ _ _) rfl ?_
        exact ⟨congrArg (fun x => Ending.returned (.int .i64 x)) (cmpT_end HE.out (by omega) (by omega)).symm, H.out.below HB.out, Fr.of_below HB.out⟩
end Sr
/- world.cmp in memory: the order of two numbers of the world, remembered. -/
namespace Sr
open Go Go.Proofs Go.RowKit Go.Maps Go.WideMaps

theorem lcmp_map {vs : List Int} {a b : List (Bool × Nat)} (ha : ∀ t ∈ a, ((t.2 : Nat) : Int) ∈ vs) (hb : ∀ t ∈ b, ((t.2 : Nat) : Int) ∈ vs) :
    cmpT (fun i j => isg (at_ vs i - at_ vs j)) (a.map fun t => (t.1, vs.idxOf (t.2 : Int))) (b.map fun t => (t.1, vs.idxOf (t.2 : Int))) = lcmp a b := by
  induction a generalizing b with
  | nil => cases b <;> rfl
  | cons s a ih =>
    cases b with
    | nil => rfl
    | cons t b =>
      have hs := ha s (by simp)
      have ht := hb t (by simp)
      have hi : vs.idxOf (s.2 : Int) = vs.idxOf (t.2 : Int) ↔ s.2 = t.2 := by
        constructor
        · intro e
          have h1 := get_idx hs; have h2 := get_idx ht
          rw [e, h2] at h1; have := Option.some.inj h1; omega
        · intro e; rw [e]
      have he : (s.1, vs.idxOf (s.2 : Int)) = (t.1, vs.idxOf (t.2 : Int)) ↔ s = t := by
        rw [Prod.ext_iff, Prod.ext_iff]; simp only [hi]
      simp only [List.map_cons, cmpT, lcmp, he]
      rw [ih (fun t h => ha t (by simp [h])) (fun t h => hb t (by simp [h])), at_of (get_idx hs), at_of (get_idx ht)]

theorem cmpT_pf {vs : List Int} (h : WV vs) {x y : Int} (hx : x ∈ vs) (hy : y ∈ vs) : cmpT (fun i j => isg (at_ vs i - at_ vs j)) (pf vs x) (pf vs y) = isg (x - y) := by
  unfold pf
  rw [lcmp_map, form_cmp]
  · intro t ht; exact h.mem_exps hx (List.mem_map.2 ⟨t, ht, rfl⟩)
  · intro t ht; exact h.mem_exps hy (List.mem_map.2 ⟨t, ht, rfl⟩)

theorem isg_bd (x : Int) : -1 ≤ isg x ∧ isg x ≤ 1 := by 
  unfold isg
  by_cases h : x < 0
  · rw [if_pos h]; omega
  · rw [if_neg h]; by_cases h2 : x = 0
    · rw [if_pos h2]; omega
    · rw [if_neg h2]; omega
theorem isg_flip (x y : Int) : isg (x - y) = -isg (y - x) := by
  unfold isg
  by_cases h1 : x - y < 0
  · rw [if_pos h1, if_neg (by omega), if_neg (by omega)]
  · by_cases h2 : x - y = 0
    · rw [if_neg h1, if_pos h2, if_neg (by omega), if_pos (by omega)]; rfl
    · rw [if_neg h1, if_neg h2, if_pos (by omega)]; rfl

section
variable {C : List Nat} {W W' : World} {p : Nat} {F : List Nat} {D : WD} {vs : List Int} {gk : List Nat} {m : Nat}

theorem ownsRow_cells {W : World} {base e size n : Nat} {v : Value} {xs : List Value} (h : W.ownsRow base e size v n xs) {b : Nat} (hb : v.ownBlock = some b) : ∃ c e z, W.heap[b]? = some (.cells c e z) := by
  obtain ⟨_, ⟨rfl, _⟩ | ⟨g, cap, cur, rfl, _, h4, _⟩⟩ := h
  · cases hb
  · cases hb; exact ⟨_, _, _, h4⟩
theorem cells_ne {b mm : Nat} {P : Program} {k : TypeId} {f : Value → Option Value} (h : ∃ c e z, W.heap[b]? = some (.cells c e z)) (hm : MapF P k W mm f) : b ≠ mm := by
  rintro rfl
  obtain ⟨c, e, z, h⟩ := h
  obtain ⟨es, cl, h2, _⟩ := hm
  rw [h] at h2; cases h2

/-- the cells stay, the maps may turn -/
theorem WO.maps (h : WO C W p F D vs gk m) (hb : ∀ b ∈ F, (∃ c e z, W.heap[b]? = some (.cells c e z)) → W'.heap[b]? = W.heap[b]?) (hsz : W.heap.size ≤ W'.heap.size) {gk' : List Nat}
    (hplc : ∃ f, MapF Tryz.prog 9 W' D.mp f ∧ ∀ k v, f k = some v ↔ ∃ (i : Nat) (x : Int), vs[i]? = some x ∧ k = .string ⟨(kb (pf vs x)).toArray⟩ ∧ v = .int .i64 (i : Nat))
    (hgrt : ∃ f, MapF Tryz.prog 3 W' D.mg f ∧ (∀ k v, f k = some v → ∃ (i j e : Nat), vs[i]? = some (e : Int) ∧ vs[j]? = some ((e : Int) + 1) ∧ k = .int .i64 (i : Nat) ∧ v = .int .i64 (j : Nat) ∧ e ∈ gk') ∧
      ∀ e ∈ gk', ∃ (i : Nat), vs[i]? = some (e : Int) ∧ f (.int .i64 (i : Nat)) ≠ none)
    (hord : ∃ f, MapF Tryz.prog 162 W' D.mo f ∧ ∀ k v, f k = some v → ∃ (a b : Nat) (x y : Int), vs[a]? = some x ∧ vs[b]? = some y ∧ k = .agg #[.int .i64 (a : Nat), .int .i64 (b : Nat)] ∧ v = .int .i64 (isg (x - y)))
    (hgnd : gk'.Nodup) (hcov : ∀ e ∈ gk', e ∈ C) (hlen : vs.length ≤ m + gk'.length) : WO C W' p F D vs gk' m where
  wv := h.wv
  obj := (hb p h.inF.1 ⟨_, _, _, h.obj⟩).trans h.obj
  inF := h.inF
  ne := h.ne
  forms := ownsRow_kept h.forms (fun b e => hb b (h.fblk b e) (ownsRow_cells h.forms e))
  fblk := h.fblk
  rows := fun i x hi => by
    obtain ⟨v, h1, h2, h3⟩ := h.rows i x hi
    exact ⟨v, h1, ownsRow_kept h2 (fun b e => hb b (h3 b e) (ownsRow_cells h2 e)), h3⟩
  plc := hplc
  grt := hgrt
  ord := hord
  gnd := hgnd
  cov := hcov
  len := hlen
  bnd := h.bnd
  blt := fun b hbF => Nat.lt_of_lt_of_le (h.blt b hbF) hsz

theorem Fr.of_grown {b : Nat} (h : W.grownBy W' (some b)) (hs : W.heap.size ≤ W'.heap.size) (hb : b ∈ F) : Fr F W W' :=
  ⟨h.os, h.tape, h.output, hs, fun k hk hn => h.block k hk (by intro e; cases e; exact hn hb)⟩

theorem WO.setOrd (h : WO C W p F D vs gk m) {a b : Nat} {x y : Int} (ha : vs[a]? = some x) (hb : vs[b]? = some y) :
    ∃ W3, (Instr.mapUpdate 123 (.map (some D.mo)) (.agg #[.int .i64 (a : Nat), .int .i64 (b : Nat)]) (.int .i64 (isg (x - y)))).run Tryz.prog W = .ok () W3 ∧ WO C W3 p F D vs gk m ∧ Fr F W W3 := by
  have hv := h.vlen
  have la : a < vs.length := (List.getElem?_eq_some_iff.1 ha).1
  have lb : b < vs.length := (List.getElem?_eq_some_iff.1 hb).1
  obtain ⟨l, hl⟩ := key162 (wfNat (a := a) (by omega)) (wfNat (a := b) (by omega))
  obtain ⟨f, h1, h2⟩ := h.ord
  obtain ⟨W3, hrun, hm, hs, hg⟩ := h1.store law162 Tryz.underlying123 (v := .int .i64 (isg (x - y))) hl
  have hk : ∀ b, b < W.heap.size → b ≠ D.mo → W3.heap[b]? = W.heap[b]? := fun b hb hn => hg.block b hb (by intro e; cases e; exact hn rfl)
  refine ⟨W3, hrun, h.maps (fun b hbF hc => hk b (h.blt b hbF) (cells_ne hc h1)) (by omega) ?_ ?_ ?_ h.gnd h.cov h.len, Fr.of_grown hg (by omega) h.inF.2.2.2⟩
  · obtain ⟨f, k1, k2⟩ := h.plc; exact ⟨f, k1.kept (hk _ k1.lt h.ne.2.1), k2⟩
  · obtain ⟨f, k1, k2⟩ := h.grt; exact ⟨f, k1.kept (hk _ k1.lt h.ne.2.2), k2⟩
  · refine ⟨_, hm, fun k v hkv => ?_⟩
    unfold updF at hkv
    split at hkv
    · rename_i e; cases hkv; exact ⟨a, b, x, y, ha, hb, e, rfl⟩
    · exact h2 k v hkv

/-- what the order map tells of two places -/
theorem WO.lookOrd (h : WO C W p F D vs gk m) {a b : Nat} {x y : Int} (ha : vs[a]? = some x) (hb : vs[b]? = some y) :
    (∀ W', W'.heap[D.mo]? = W.heap[D.mo]? → (Instr.lookup 123 (.map (some D.mo)) (.agg #[.int .i64 (a : Nat), .int .i64 (b : Nat)]) true).run Tryz.prog W' = .ok (.tuple #[.int .i64 0, .bool false]) W') ∨
    (∀ W', W'.heap[D.mo]? = W.heap[D.mo]? → (Instr.lookup 123 (.map (some D.mo)) (.agg #[.int .i64 (a : Nat), .int .i64 (b : Nat)]) true).run Tryz.prog W' = .ok (.tuple #[.int .i64 (isg (x - y)), .bool true]) W') := by
  have hv := h.vlen
  have la : a < vs.length := (List.getElem?_eq_some_iff.1 ha).1
  have lb : b < vs.length := (List.getElem?_eq_some_iff.1 hb).1
  obtain ⟨l, hl⟩ := key162 (wfNat (a := a) (by omega)) (wfNat (a := b) (by omega))
  obtain ⟨f, h1, h2⟩ := h.ord
  cases hf : f (.agg #[.int .i64 (a : Nat), .int .i64 (b : Nat)]) with
  | none => left; intro W' hW; have := (h1.kept hW).look true law162 Tryz.underlying123 (zero3 W') hl; simpa [hf] using this
  | some v =>
    right; intro W' hW
    have := (h1.kept hW).look true law162 Tryz.underlying123 (zero3 W') hl
    obtain ⟨a', b', x', y', k1, k2, k3, rfl⟩ := h2 _ _ hf
    have e1 : (a : Int) = a' ∧ (b : Int) = b' := by simpa using k3
    have e2 : a = a' := by omega
    have e3 : b = b' := by omega
    subst e2 e3
    rw [ha] at k1; rw [hb] at k2; cases k1; cases k2
    simpa [hf] using this

/-- the row of the forms: what lies at a place -/
theorem WO.formAt (h : WO C W p F D vs gk m) : ∃ g cap, D.fv = .slice (some ⟨g, 0, none⟩) vs.length cap ∧ g ∈ F ∧ ∀ (i : Nat) (x : Int), vs[i]? = some x → ∃ v, D.fl[i]? = some v ∧ W.cell? ⟨g, i, none⟩ = some v ∧ TRow W v (pf vs x) ∧ ∀ b, v.ownBlock = some b → b ∈ F := by
  have h0 := h.wv.zero
  have hl : 0 < vs.length := (List.getElem?_eq_some_iff.1 h0).1
  obtain ⟨h1, ⟨_, h2⟩ | ⟨g, cap, cur, h2, _, h4, h5, h6, h7, h8⟩⟩ := h.forms
  · omega
  · refine ⟨g, cap, h2, h.fblk g (by rw [h2]; rfl), fun i x hi => ?_⟩
    obtain ⟨v, k1, k2, k3⟩ := h.rows i x hi
    refine ⟨v, k1, ?_, k2, k3⟩
    have hi2 : i < vs.length := (List.getElem?_eq_some_iff.1 hi).1
    rw [cell_of h4, ← Array.getElem?_toList, ← k1, ← h8, List.getElem?_take_of_lt (by omega)]
end
end Sr
/- The walk of world.cmp. -/
namespace Sr
open Go Go.Proofs Go.RowKit Go.Maps Go.WideMaps

/-- the contract of cmp at two places -/
def CmpC (C : List Nat) (p : Nat) (F : List Nat) (D : WD) (vs : List Int) (gk : List Nat) (m a b : Nat) (x y : Int) : Prop :=
  ∀ W, Hid (WO C W p F D vs gk m) → Calls Tryz.prog 64 #[.pointer (some ⟨p, 0, none⟩), .int .i64 (a : Nat), .int .i64 (b : Nat)] W fun e W' => e = .returned (.int .i64 (isg (x - y))) ∧ Hid (WO C W' p F D vs gk m) ∧ Hid (Fr F W W')

theorem cmp_self (C : List Nat) (p : Nat) (F : List Nat) (D : WD) (vs : List Int) (gk : List Nat) (m a : Nat) (x : Int) : CmpC C p F D vs gk m a a x x := by
  intro W H
  have h0 : isg (x - x) = 0 := by simp [isg]
  rw [h0]
  go_enter Tryz.func64, Tryz.ntmps64
  go_wp2_with fail
  refine bodyPost_ret (results_tmp rfl _ _ _) rfl ?_
  exact ⟨rfl, H, Fr.refl _ _⟩

theorem cmp_swap {C : List Nat} {p : Nat} {F : List Nat} {D : WD} {vs : List Int} {gk : List Nat} {m a b : Nat} {x y : Int} (hab : b < a) (h : CmpC C p F D vs gk m b a y x) : CmpC C p F D vs gk m a b x y := by
  intro W H
  have HC : ∀ W, Hid (WO C W p F D vs gk m) → Calls Tryz.prog 64 #[.pointer (some ⟨p, 0, none⟩), .int .i64 (b : Nat), .int .i64 (a : Nat)] W fun e W' => e = .returned (.int .i64 (isg (y - x))) ∧ Hid (WO C W' p F D vs gk m) ∧ Hid (Fr F W W') := h
  have hz : (b : Int) < (a : Int) := by omega
  have hne : ¬ ((a : Int) = (b : Int)) := by omega
  have hw : IntKind.i64.wrap (-(isg (y - x))) = -(isg (y - x)) := wrapc _ (by have := isg_bd (y - x); omega)
  have hfl : Hid (isg (x - y) = -isg (y - x)) := isg_flip x y
  clear h hab
  go_enter Tryz.func64, Tryz.ntmps64
  go_wp2_with fail
  refine (HC _ H).mono ?_
  rintro e w' ⟨rfl, H2, H3⟩
  go_wp2_with fail
  refine bodyPost_ret (results_tmp rfl _ _ _) rfl ?_
  exact ⟨congrArg (fun x => Ending.returned (.int .i64 x)) hfl.out.symm, H2, H3⟩

set_option maxHeartbeats 4000000 in
set_option maxRecDepth 100000 in
theorem cmp_less {C : List Nat} {p : Nat} {F : List Nat} {D : WD} {vs : List Int} {gk : List Nat} {m a b : Nat} {x y : Int} (hab : a < b) (ha : vs[a]? = some x) (hb : vs[b]? = some y)
    (ih : ∀ (i j : Nat) (e f : Int), i < a → j < b → vs[i]? = some e → vs[j]? = some f → CmpC C p F D vs gk m i j e f) : CmpC C p F D vs gk m a b x y := by
  intro W H
  have hz : (a : Int) < (b : Int) := by omega
  have hne : ¬ ((a : Int) = (b : Int)) := by omega
  have hng : ¬ ((b : Int) < (a : Int)) := by omega
  have la : a < vs.length := (List.getElem?_eq_some_iff.1 ha).1
  have lb : b < vs.length := (List.getElem?_eq_some_iff.1 hb).1
  have a0 : (0 : Int) ≤ (a : Int) := by omega
  have b0 : (0 : Int) ≤ (b : Int) := by omega
  have az : (a : Int) < (vs.length : Int) := by omega
  have bz : (b : Int) < (vs.length : Int) := by omega
  obtain ⟨g, cap, hfv, hgF, hrow⟩ := H.out.formAt
  obtain ⟨va, ea, cva, _, _⟩ := hrow a x ha
  obtain ⟨vb, eb, cvb, _, _⟩ := hrow b y hb
  -- compared, wherever the world stands
  have HC : ∀ W1, Hid (WO C W1 p F D vs gk m) → Calls Tryz.prog 106 #[va, vb, .func (.func 107) #[.pointer (some ⟨p, 0, none⟩)] #[]] W1 fun e W' => e = .returned (.int .i64 (isg (x - y))) ∧ Hid (WO C W' p F D vs gk m) ∧ Hid (Fr F W1 W') := fun W1 H1 => by
    obtain ⟨va', ea', ra, _⟩ := H1.out.rows a x ha
    obtain ⟨vb', eb', rb, _⟩ := H1.out.rows b y hb
    rw [ea] at ea'; rw [eb] at eb'; cases ea'; cases eb'
    have hwv := H1.out.wv
    have := compared_calls H1 va vb (pf vs x) (pf vs y) (fun i j => isg (at_ vs i - at_ vs j)) ra rb (fun i j => isg_bd _) (fun k s t hs ht W2 H2 => by
      obtain ⟨s0, hs0, rfl⟩ : ∃ s0, (form x)[k]? = some s0 ∧ s = (s0.1, vs.idxOf (s0.2 : Int)) := by
        unfold pf at hs; rw [List.getElem?_map] at hs; obtain ⟨s0, h1, h2⟩ := Option.map_eq_some_iff.1 hs; exact ⟨s0, h1, h2.symm⟩
      obtain ⟨t0, ht0, rfl⟩ : ∃ t0, (form y)[k]? = some t0 ∧ t = (t0.1, vs.idxOf (t0.2 : Int)) := by
        unfold pf at ht; rw [List.getElem?_map] at ht; obtain ⟨s0, h1, h2⟩ := Option.map_eq_some_iff.1 ht; exact ⟨s0, h1, h2.symm⟩
      obtain ⟨i, hi, e1⟩ := hwv.closed a x ha s0.2 (List.mem_map.2 ⟨s0, List.mem_of_getElem? hs0, rfl⟩)
      obtain ⟨j, hj, e2⟩ := hwv.closed b y hb t0.2 (List.mem_map.2 ⟨t0, List.mem_of_getElem? ht0, rfl⟩)
      have i1 := hwv.idx_get e1
      have j1 := hwv.idx_get e2
      dsimp only
      rw [i1, j1, at_of e1, at_of e2]
      exact ih i j _ _ hi hj e1 e2 W2 H2)
    rw [cmpT_pf hwv (List.mem_of_getElem? ha) (List.mem_of_getElem? hb)] at this
    exact this
  clear ih
  have HC2 : ∀ W1, Hid (WO C W1 p F D vs gk m) → Calls Tryz.prog 106 #[va, vb, .func (.func 107) #[.pointer (some ⟨p, 0, none⟩)] #[]] W1 fun e W' => e = .returned (.int .i64 (isg (x - y))) ∧ Hid (WO C W' p F D vs gk m) ∧ Hid (Fr F W1 W') ∧ W'.cell? ⟨p, 0, none⟩ = some (.slice (some ⟨g, 0, none⟩) vs.length cap) ∧ W'.cell? ⟨g, a, none⟩ = some va ∧ W'.cell? ⟨g, b, none⟩ = some vb := fun W1 H1 => by
    refine (HC W1 H1).mono fun e W' ⟨h1, h2, h3⟩ => ⟨h1, h2, h3, by rw [← hfv]; exact h2.out.c0, ?_⟩
    obtain ⟨g', cap', hfv', _, hrow'⟩ := h2.out.formAt
    rw [hfv] at hfv'; cases hfv'
    obtain ⟨v1, e1, c1, _⟩ := hrow' a x ha
    obtain ⟨v2, e2, c2, _⟩ := hrow' b y hb
    rw [ea] at e1; rw [eb] at e2; cases e1; cases e2
    exact ⟨c1, c2⟩
  clear HC
  have hn : W.heap.size ∉ F := fun h => by have := H.out.blt _ h; omega
  have HL := H.out.lookOrd ha hb
  have HS : Hid (∀ W1, WO C W1 p F D vs gk m → ∃ W3, (Instr.mapUpdate 123 (.map (some D.mo)) (.agg #[.int .i64 (a : Nat), .int .i64 (b : Nat)]) (.int .i64 (isg (x - y)))).run Tryz.prog W1 = .ok () W3 ∧ WO C W3 p F D vs gk m ∧ Fr F W1 W3) := fun W1 h => h.setOrd ha hb
  have hp0 : W.cell? ⟨p, 0, none⟩ = some (.slice (some ⟨g, 0, none⟩) vs.length cap) := by rw [← hfv]; exact H.out.c0
  have hp3 := H.out.c3
  have H0 : Hid (∀ o, WO C (W.alloc o).drew p F D vs gk m ∧ Fr F W (W.alloc o).drew) := fun o => ⟨(H.out.alloc o).drew, ((Fr.refl F W).alloc o).drew⟩
  have hmo : ∀ o, (W.alloc o).drew.heap[D.mo]? = W.heap[D.mo]? := fun o => heap_old W o (H.out.blt _ H.out.inF.2.2.2)
  have lp := World.new_ne W _ hp0
  have lg := World.new_ne W _ cva
  clear hrow
  rcases HL with HL | HL
  · have HL1 := HL _ (hmo (.cells #[.int .i64 a, .int .i64 b] 162))
    clear HL hmo
    go_enter Tryz.func64, Tryz.ntmps64
    go_wp2_with fail
    go_region_held3 (fun w' => w'.cell? ⟨p, 3, none⟩ = some (.map (some D.mo)) ∧ w'.cell? ⟨W.heap.size, 0, none⟩ = some (.int .i64 a) ∧ w'.cell? ⟨W.heap.size, 1, none⟩ = some (.int .i64 b) ∧ (Instr.lookup 123 (.map (some D.mo)) (.agg #[.int .i64 (a : Nat), .int .i64 (b : Nat)]) true).run Tryz.prog w' = .ok (.tuple #[.int .i64 0, .bool false]) w')
      (first | (refine ⟨by go_keep, by go_keep, by go_keep, ?_⟩; first | assumption | exact HL1)) (fail)
    clear HL1
    go_wp2_with fail
    go_region_held3 (fun w' => w'.cell? ⟨p, 0, none⟩ = some (.slice (some ⟨g, 0, none⟩) vs.length cap) ∧ w'.cell? ⟨g, a, none⟩ = some va ∧ w'.cell? ⟨g, b, none⟩ = some vb) (first | exact ⟨hc0, hca, hcb⟩ | go_keep)
      (first | (go_at_call 106; refine (HC2 _ ?_).mono ?_; exact (H0.out _).1.drew; rintro e W2 ⟨rfl, H2, H3, hc0, hca, hcb⟩))
    clear hc0 hca hcb hp0 hp3 cva cvb
    have hp3 := H2.out.c3
    have hbx : W2.heap[W.heap.size]? = some (.cells #[.int .i64 a, .int .i64 b] 162 (0, 0)) := by
      rw [H3.out.block _ (by simp) hn]; exact heap_last W _
    have hk0 : W2.cell? ⟨W.heap.size, 0, none⟩ = some (.int .i64 a) := by rw [cell_of hbx]; rfl
    have hk1 : W2.cell? ⟨W.heap.size, 1, none⟩ = some (.int .i64 b) := by rw [cell_of hbx]; rfl
    obtain ⟨W3, hrun, H4, H5⟩ := HS.out W2.drew H2.out.drew
    have HE : Hid (WO C W3 p F D vs gk m ∧ Fr F W W3) := ⟨H4, Fr.pre (Fr.pre (H0.out _).2.drew H3.out).drew H5⟩
    clear H4 H5 hbx HS
    go_wp2_with fail
    go_region
    go_wp2_with fail
    refine bodyPost_ret (results_tmp rfl _ _ _) rfl ?_
    exact ⟨rfl, HE.out.1, HE.out.2⟩
  · have HL1 := HL _ (hmo (.cells #[.int .i64 a, .int .i64 b] 162))
    clear HL hmo
    go_enter Tryz.func64, Tryz.ntmps64
    go_wp2_with fail
    go_region_held3 (fun w' => w'.cell? ⟨p, 3, none⟩ = some (.map (some D.mo)) ∧ w'.cell? ⟨W.heap.size, 0, none⟩ = some (.int .i64 a) ∧ w'.cell? ⟨W.heap.size, 1, none⟩ = some (.int .i64 b) ∧ (Instr.lookup 123 (.map (some D.mo)) (.agg #[.int .i64 (a : Nat), .int .i64 (b : Nat)]) true).run Tryz.prog w' = .ok (.tuple #[.int .i64 (isg (x - y)), .bool true]) w')
      (first | (refine ⟨by go_keep, by go_keep, by go_keep, ?_⟩; first | assumption | exact HL1)) (fail)
    go_wp2_with fail
    refine bodyPost_ret (results_tmp rfl _ _ _) rfl ?_
    exact ⟨rfl, (H0.out _).1, (H0.out _).2⟩

theorem cmp_calls {C : List Nat} {p : Nat} {F : List Nat} {D : WD} {vs : List Int} {gk : List Nat} {m : Nat} : ∀ (N a b : Nat) (x y : Int), a + b ≤ N → vs[a]? = some x → vs[b]? = some y → CmpC C p F D vs gk m a b x y := by
  intro N
  induction N using Nat.strongRecOn with
  | _ N ih =>
  intro a b x y hN ha hb
  rcases Nat.lt_trichotomy a b with h | rfl | h
  · exact cmp_less h ha hb fun i j e f hi hj he hf => ih (i + j) (by omega) i j e f (Nat.le_refl _) he hf
  · rw [ha] at hb; cases hb; exact cmp_self _ _ _ _ _ _ _ _ _
  · exact cmp_swap h (cmp_less h hb ha fun i j e f hi hj he hf => ih (i + j) (by omega) i j e f (Nat.le_refl _) he hf)

theorem world_cmp {C : List Nat} {p : Nat} {F : List Nat} {D : WD} {vs : List Int} {gk : List Nat} {m a b : Nat} {x y : Int} (ha : vs[a]? = some x) (hb : vs[b]? = some y) : CmpC C p F D vs gk m a b x y :=
  cmp_calls _ a b x y (Nat.le_refl _) ha hb
end Sr
