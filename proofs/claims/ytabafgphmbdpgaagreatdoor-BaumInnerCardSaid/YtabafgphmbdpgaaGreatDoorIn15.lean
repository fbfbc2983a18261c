/- Texts of this claim, joined: Sane, Inner. -/
import Derived.Test.YtabafgphmbdpgaaGreatDoorIn14
/- sane. -/
namespace Sr
open Go Go.Proofs Go.RowKit Go.Maps Go.WideMaps

theorem prodE_rel : prodE [2, 0, 3, 1, 1] = Zero := by
  have e : prodE [2, 0, 3, 1, 1] = timesE (timesE (timesE (timesE (timesE Zero ⟨0, 0, 1⟩) ⟨1, 0, 0⟩) ⟨0, 0, -1⟩) ⟨-1, 0, 0⟩) ⟨-1, 0, 0⟩ := rfl
  rw [e]
  refine plain_ext (timesE_plain _ _) (.inl ⟨rfl, rfl⟩) ?_ ?_
  · simp [timesE_m]
  · simp only [timesE_tq, timesE_m]
    simp only [tq, tp_zero, tp_one, Int.zero_add, Int.add_zero]
    simp [tp_zero]
    grind
theorem mul_ex : timesE ⟨1, 0, 0⟩ ⟨0, 0, 1⟩ = ⟨1, 0, 1⟩ := by
  refine plain_ext (timesE_plain _ _) (.inr rfl) ?_ ?_
  · simp [timesE_m]
  · rw [timesE_tq]; simp [tq, tp_zero]
    grind
theorem mul_ok : TimesOK ⟨1, 0, 0⟩ ⟨0, 0, 1⟩ := (lat_times (lat_a 1 (.inl rfl)) (lat_t 1 (.inl rfl)) (by omega)).1
theorem ab_trace : ∃ G, traceE [97, 98] = some ([], [98], G) := by
  have h : (readE [97, 98]).1 = [98] := rfl
  exact ⟨_, by unfold traceE; rw [redE_end (by rw [h]; simp), h]⟩
theorem rel_bytes : (⟨#[98, 97, 66, 97, 98, 65, 66, 65, 65]⟩ : ByteArray).data.toList = wordL [2, 0, 3, 1, 1] := by decide

set_option maxHeartbeats 8000000 in
set_option maxRecDepth 100000 in
theorem sane_calls (W : World) : Calls Tryz.prog 13 #[] W fun e W' => e = .returned (.bool true) ∧ Hid (Below W.heap.size W W') := by
  obtain ⟨st, hin, hst⟩ := inner_law [2, 0, 3, 1, 1] (by decide)
  rw [prodE_rel] at hin
  have HIn : Hid (traceE (⟨#[98, 97, 66, 97, 98, 65, 66, 65, 65]⟩ : ByteArray).data.toList = some (st, [], [Zero])) := by show _ = _; rw [rel_bytes]; exact hin
  have HSt : Hid (st.length = 2) := by show _ = _; rw [hst]; decide
  have HWr : Hid (isWordL (⟨#[98, 97, 66, 97, 98, 65, 66, 65, 65]⟩ : ByteArray).data.toList = true) := by show _ = _; decide
  have HWa : Hid (isWordL (⟨#[97, 98]⟩ : ByteArray).data.toList = true) := by show _ = _; decide
  have HWc : Hid (isWordL (⟨#[97, 98, 99]⟩ : ByteArray).data.toList = false) := by show _ = _; decide
  have hTr := Trace_any (W := W) (s := ⟨#[98, 97, 66, 97, 98, 65, 66, 65, 65]⟩) (by decide)
  clear hin hst
  go_enter Tryz.func13, Tryz.ntmps13
  go_wp2_with fail
  refine hTr.mono ?_
  rintro e w1 ⟨hb1, hcase⟩
  have HB1 := Lib.hid hb1.out
  obtain ⟨sa, sc, qu, qv, qm, he, hie⟩ : ∃ sa sc qu qv qm, e = .returned (.tuple #[.slice sa 2 sc, .int .i64 0, .agg #[.pointer qu, .pointer qv, .pointer qm], .int .i64 0]) ∧ IsE w1 (.agg #[.pointer qu, .pointer qv, .pointer qm]) Zero := by
    rcases hcase with ⟨h, -⟩ | ⟨-, h, -⟩ | ⟨-, st', o, G, h, sa, sn, sc, qu, qv, qm, he, hs, hi⟩
    · rw [HWr.out] at h; cases h
    · rw [HIn.out] at h; cases h
    · rw [HIn.out] at h; cases h
      obtain ⟨vs, k1, k2, k3⟩ := hs.out.row
      obtain ⟨a, c, hsh⟩ := rown_shape k2
      cases hsh
      rw [HSt.out] at he
      exact ⟨_, _, qu, qv, qm, he, hi.out⟩
  subst he
  have HIE := Lib.hid hie
  clear hTr hb1 hcase hie
  have hUn := Unit_any (W := w1.alloc (.cells #[.pointer qu, .pointer qv, .pointer qm] 28)) (s := ⟨#[98, 97, 66, 97, 98, 65, 66, 65, 65]⟩) (by decide)
  have HB2 : Hid (Below W.heap.size W (w1.alloc (.cells #[.pointer qu, .pointer qv, .pointer qm] 28))) := HB1.out.alloc HB1.out.size _
  have HH2 := Lib.hid ((Has.nil w1).add #[.pointer qu, .pointer qv, .pointer qm] 28)
  have HIE2 := Lib.hid (HIE.out.below ((Below.refl _ _).alloc (Nat.le_refl _) (.cells #[.pointer qu, .pointer qv, .pointer qm] 28)))
  go_wp2_with fail
  refine hUn.mono ?_
  rintro e w3 ⟨hb3, hcase⟩
  have he : e = .returned (.tuple #[.bool true, .int .i64 0]) := by
    rcases hcase with ⟨h, -⟩ | ⟨-, ⟨st', o, G, h, he⟩ | ⟨h, -⟩⟩
    · rw [HWr.out] at h; cases h
    · rw [HIn.out] at h; cases h
      exact he
    · rw [HIn.out] at h; cases h
  subst he
  have HB3 := Lib.hid (Below.trans' HB2.out hb3.out)
  have HH3 := Lib.hid (HH2.out.below hb3.out)
  have HIE3 := Lib.hid (HIE2.out.below hb3.out)
  clear hUn hb3 hcase
  have hUa := Unit_any (W := w3) (s := ⟨#[97, 98]⟩) (by decide)
  go_wp2_with fail
  refine hUa.mono ?_
  rintro e w4 ⟨hb4, hcase⟩
  have he : e = .returned (.tuple #[.bool false, .int .i64 0]) := by
    obtain ⟨G', hab⟩ := ab_trace
    rcases hcase with ⟨h, -⟩ | ⟨-, ⟨st', o, G, h, he⟩ | ⟨h, -⟩⟩
    · rw [HWa.out] at h; cases h
    · have h' := h.symm.trans hab
      cases h'
      exact he
    · have h' := h.symm.trans hab
      cases h'
  subst he
  have HB4 := Lib.hid (Below.trans' HB3.out hb4.out)
  have HH4 := Lib.hid (HH3.out.below hb4.out)
  have HIE4 := Lib.hid (HIE3.out.below hb4.out)
  clear hUa hb4 hcase
  have hO1 := Of_calls 1 (by decide) (by decide) w4
  go_wp2_with fail
  refine hO1.mono ?_
  rintro e w5 ⟨q5, rfl, hi5, hb5⟩
  have HB5 := Lib.hid (Below.trans' HB4.out hb5.out)
  have HH5 := Lib.hid (HH4.out.below hb5.out)
  have HIE5 := Lib.hid (HIE4.out.below hb5.out)
  have HI5 := Lib.hid hi5.out
  clear hO1 hb5 hi5
  have hO2 := Of_calls 1 (by decide) (by decide) w5
  go_wp2_with fail
  refine hO2.mono ?_
  rintro e w6 ⟨q6, rfl, hi6, hb6⟩
  have HB6 := Lib.hid (Below.trans' HB5.out hb6.out)
  have HH6 := Lib.hid (HH5.out.below hb6.out)
  have HIE6 := Lib.hid (HIE5.out.below hb6.out)
  have HI56 := Lib.hid (HI5.out.below hb6.out)
  have HI6 := Lib.hid hi6.out
  clear hO2 hb6 hi6
  have hMu := Mul_calls (W := w6) (V1 := .agg #[.pointer q5, .pointer none, .pointer none]) (V2 := .agg #[.pointer none, .pointer none, .pointer q6]) (x := ⟨1, 0, 0⟩) (y := ⟨0, 0, 1⟩) ⟨q5, none, none, rfl, HI56.out, isN_zero _, isN_zero _⟩ ⟨none, none, q6, rfl, isN_zero _, isN_zero _, HI6.out⟩ mul_ok
  go_wp2_with fail
  refine hMu.mono ?_
  rintro e w7 ⟨pu, pv, pm, rfl, hi7, hb7⟩
  have HB7 := Lib.hid (Below.trans' HB6.out hb7.out)
  have HH7 := Lib.hid (HH6.out.below hb7.out)
  have HIE7 := Lib.hid (HIE6.out.below hb7.out)
  have HX7 : Hid (IsE w7 (.agg #[.pointer pu, .pointer pv, .pointer pm]) ⟨1, 0, 1⟩) := by
    show IsE _ _ _
    rw [← mul_ex]; exact hi7.out
  clear hMu hb7 hi7
  have HD8 : Hid (Below w7.heap.size w7 (w7.alloc (.cells #[.pointer pu, .pointer pv, .pointer pm] 28))) := (Below.refl _ _).alloc (Nat.le_refl _) _
  have HB8 := Lib.hid (Below.trans' HB7.out HD8.out)
  have HH8 := Lib.hid (HH7.out.add #[.pointer pu, .pointer pv, .pointer pm] 28)
  have HIE8 := Lib.hid (HIE7.out.below HD8.out)
  have HX8 := Lib.hid (HX7.out.below HD8.out)
  have hUc := Unit_any (W := w7.alloc (.cells #[.pointer pu, .pointer pv, .pointer pm] 28)) (s := ⟨#[97, 98, 99]⟩) (by decide)
  go_wp2_with fail
  refine hUc.mono ?_
  rintro e w9 ⟨hb9, hcase⟩
  have he : e = .returned (.tuple #[.bool false, .int .i64 2]) := by
    rcases hcase with ⟨-, he⟩ | ⟨h, -⟩
    · exact he
    · rw [HWc.out] at h; cases h
  subst he
  have HB9 := Lib.hid (Below.trans' HB8.out hb9.out)
  have HH9 := Lib.hid (HH8.out.below hb9.out)
  have HIE9 := Lib.hid (HIE8.out.below hb9.out)
  have HX9 := Lib.hid (HX8.out.below hb9.out)
  clear hUc hb9 hcase
  go_wp2_with fail
  have HK : Hid (∀ w' : World, Below w9.heap.size w9 w' → w'.cell? ⟨w1.heap.size, 2, none⟩ = some (.pointer qm) ∧ w'.cell? ⟨w7.heap.size, 2, none⟩ = some (.pointer pm) ∧ w'.cell? ⟨w7.heap.size, 0, none⟩ = some (.pointer pu) ∧ w'.cell? ⟨w7.heap.size, 1, none⟩ = some (.pointer pv)) := fun w' hb => by
    have h := HH9.out.below hb
    exact ⟨h.cell (b := w1.heap.size) (c := #[.pointer qu, .pointer qv, .pointer qm]) (T := 28) (by simp) 2, h.cell (b := w7.heap.size) (c := #[.pointer pu, .pointer pv, .pointer pm]) (T := 28) (by simp) 2, h.cell (b := w7.heap.size) (c := #[.pointer pu, .pointer pv, .pointer pm]) (T := 28) (by simp) 0, h.cell (b := w7.heap.size) (c := #[.pointer pu, .pointer pv, .pointer pm]) (T := 28) (by simp) 1⟩
  obtain ⟨iu, iv, im⟩ := IsE.parts (t := ⟨qu, qv, qm⟩) HIE9.out
  obtain ⟨ju, jv, jm⟩ := IsE.parts (t := ⟨pu, pv, pm⟩) HX9.out
  have h0 : isg (0 : Int) = 0 := by simp [isg]
  have hSA : ∀ w', Below w9.heap.size w9 w' → Calls Tryz.prog 30 #[.agg #[.pointer qm]] w' fun e w'' => e = .returned (.int .i64 0) ∧ Hid (Below w9.heap.size w9 w'') := fun w' hb =>
    (Sign_calls (im.below hb)).mono fun e w'' ⟨h1, h2⟩ => ⟨by rw [h1, h0], Below.trans' hb h2.out⟩
  have hSB : ∀ w', Below w9.heap.size w9 w' → Calls Tryz.prog 30 #[.agg #[.pointer pv]] w' fun e w'' => e = .returned (.int .i64 0) ∧ Hid (Below w9.heap.size w9 w'') := fun w' hb =>
    (Sign_calls (jv.below hb)).mono fun e w'' ⟨h1, h2⟩ => ⟨by rw [h1, h0], Below.trans' hb h2.out⟩
  have hOf : ∀ w', Below w9.heap.size w9 w' → Calls Tryz.prog 20 #[.int .i64 1] w' fun e w'' => ∃ q, e = .returned (.agg #[.pointer q]) ∧ Hid (IsN w'' (.agg #[.pointer q]) 1) ∧ Hid (Below w9.heap.size w9 w'') := fun w' hb =>
    (Of_calls 1 (by decide) (by decide) w').mono fun e w'' ⟨q, h1, h2, h3⟩ => ⟨q, h1, h2, Below.trans' hb h3.out⟩
  have hCA : ∀ w' q, Below w9.heap.size w9 w' → IsN w' (.agg #[.pointer q]) 1 → Calls Tryz.prog 31 #[.agg #[.pointer pm], .agg #[.pointer q]] w' fun e w'' => e = .returned (.int .i64 0) ∧ Hid (Below w9.heap.size w9 w'') := fun w' q hb hq =>
    (Cmp_calls (jm.below hb) hq).mono fun e w'' ⟨h1, h2⟩ => ⟨by rw [h1]; rw [show isg ((⟨1, 0, 1⟩ : E3).m - 1) = 0 from by simp [isg]], Below.trans' hb h2.out⟩
  have hCB : ∀ w' q, Below w9.heap.size w9 w' → IsN w' (.agg #[.pointer q]) 1 → Calls Tryz.prog 31 #[.agg #[.pointer pu], .agg #[.pointer q]] w' fun e w'' => e = .returned (.int .i64 0) ∧ Hid (Below w9.heap.size w9 w'') := fun w' q hb hq =>
    (Cmp_calls (ju.below hb) hq).mono fun e w'' ⟨h1, h2⟩ => ⟨by rw [h1]; rw [show isg ((⟨1, 0, 1⟩ : E3).u - 1) = 0 from by simp [isg]], Below.trans' hb h2.out⟩
  have HSA := Lib.hid hSA
  have HSB := Lib.hid hSB
  have HOf := Lib.hid hOf
  have HCA := Lib.hid hCA
  have HCB := Lib.hid hCB
  have HBd : Hid (Below w9.heap.size w9 w9.drew) := (Below.refl _ _).drew
  clear hSA hSB hOf hCA hCB iu iv im ju jv jm h0
  go_region_held2 (fun w' => w'.cell? ⟨w1.heap.size, 2, none⟩ = some (.pointer qm) ∧ w'.cell? ⟨w7.heap.size, 2, none⟩ = some (.pointer pm) ∧ w'.cell? ⟨w7.heap.size, 0, none⟩ = some (.pointer pu) ∧ w'.cell? ⟨w7.heap.size, 1, none⟩ = some (.pointer pv))
    (first | exact HK.out _ HB26.out | exact HK.out _ HB25.out | exact HK.out _ HB24.out | exact HK.out _ HB23.out | exact HK.out _ HB22.out | exact HK.out _ HB21.out | exact HK.out _ HBd.out)
    (first
      | (go_at_call 30; (with_reducible refine (HSB.out _ HB25.out).mono ?_); rintro e w26 ⟨rfl, HB26⟩)
      | (go_at_call 31; (with_reducible refine (HCB.out _ _ HB24.out HI24.out).mono ?_); rintro e w25 ⟨rfl, HB25⟩)
      | (go_at_call 20; (with_reducible refine (HOf.out _ HB23.out).mono ?_); rintro e w24 ⟨q24, rfl, HI24, HB24⟩)
      | (go_at_call 31; (with_reducible refine (HCA.out _ _ HB22.out HI22.out).mono ?_); rintro e w23 ⟨rfl, HB23⟩)
      | (go_at_call 20; (with_reducible refine (HOf.out _ HB21.out).mono ?_); rintro e w22 ⟨q22, rfl, HI22, HB22⟩)
      | (go_at_call 30; (with_reducible refine (HSA.out _ HBd.out).mono ?_); rintro e w21 ⟨rfl, HB21⟩))
  all_goals
    go_wp2_with fail
    refine bodyPost_ret (results_tmp rfl _ _ _) rfl ?_
    exact ⟨rfl, Below.trans' HB9.out HB26.out⟩
end Sr
/- BaumInner: the walk. -/
namespace Sr
open Go Go.Proofs Go.RowKit Go.Maps Go.WideMaps

/-- a slice of bytes that came in -/
def BIn (W : World) (v : Value) (L : List UInt8) : Prop := ∃ a c, v = .slice a L.length c ∧ L.length ≤ maxLen ∧ ∀ (j : Nat) (b : UInt8), L[j]? = some b → ∃ g off, a = some ⟨g, off, none⟩ ∧ W.cell? ⟨g, off + j, none⟩ = some (.int .u8 (b.toNat : Nat))

theorem wordL_snoc {L : List UInt8} {k : Nat} {c : UInt8} (h : L[k]? = some c) : wordL (L.take (k + 1)) = wordL (L.take k) ++ wdL c := by
  rw [List.take_add_one, h]; simp [wordL, List.flatMap_append]
theorem prodE_take {L : List UInt8} {k : Nat} {c : UInt8} (h : L[k]? = some c) : prodE (L.take (k + 1)) = timesE (prodE (L.take k)) (elL c) := by
  rw [List.take_add_one, h]; simp [prodE]

theorem cat_size (s t : ByteArray) : (s ++ t).size = s.size + t.size := ByteArray.size_append
theorem cat_list (s t : ByteArray) : (s ++ t).data.toList = s.data.toList ++ t.data.toList := by simp [ByteArray.data_append]
set_option maxHeartbeats 8000000 in
set_option maxRecDepth 100000 in
theorem inner_calls {W : World} {v : Value} {L : List UInt8} (h : BIn W v L) : Calls Tryz.prog 4 #[v] W fun e W' => e = .returned (.bool true) ∧ Hid (Below W.heap.size W W') := by
  obtain ⟨a, cp, rfl, hm, hc⟩ := h
  have HCl : Hid (∀ (j : Nat) (b : UInt8), L[j]? = some b → ∃ g off, a = some ⟨g, off, none⟩ ∧ W.cell? ⟨g, off + j, none⟩ = some (.int .u8 (b.toNat : Nat))) := hc
  clear hc
  unfold maxLen at hm
  by_cases hl : 100 < L.length
  · have hlz : (100 : Int) < (L.length : Int) := by omega
    have hS := sane_calls W
    go_enter Tryz.func4, Tryz.ntmps4
    go_wp2_with fail
    refine hS.mono ?_
    rintro e w1 ⟨rfl, hb1⟩
    clear hS
    go_wp2_with fail
    refine bodyPost_ret (results_tmp rfl _ _ _) rfl ?_
    exact ⟨rfl, hb1⟩
  · have hlz : ¬ ((100 : Int) < (L.length : Int)) := by omega
    have hl1 : L.length ≤ 100 := by omega
    clear hm hl
    go_enter Tryz.func4, Tryz.ntmps4
    go_wp2_with fail
    go_loopg [3, 5] L.length (fun g1 sv kv wr => ∃ (k : Nat) (s : ByteArray) (xu xv xm : Option Addr), sv = .string s ∧ kv = .int .i64 k ∧ k ≤ L.length ∧ L.length - k ≤ g1 ∧ (s.size ≤ 3 * k ∧ Hid (s.data.toList = wordL (L.take k))) ∧ Hid (wr.heap[W.heap.size]? = some (.cells #[.pointer xu, .pointer xv, .pointer xm] 28 (0, 0))) ∧ Hid (IsE wr (.agg #[.pointer xu, .pointer xv, .pointer xm]) (prodE (L.take k))) ∧ Hid (Below W.heap.size W wr))
    case atStart => exact ⟨0, _, none, none, none, rfl, rfl, by omega, by omega, ⟨by simp [ByteArray.size], rfl⟩, heap_last W _, ⟨none, none, none, rfl, isN_zero _, isN_zero _, isN_zero _⟩, (Below.refl _ _).alloc (Nat.le_refl _) _⟩
    case round =>
      obtain ⟨k, s, xu, xv, xm, rfl, rfl, hkl, hg, ⟨hss, HS⟩, HX, HE, HB⟩ := hrel
      have n4l : W.heap.size < wr.heap.size := (Array.getElem?_eq_some_iff.1 HX.out).1
      have n4 : W.heap.size ≠ wr.heap.size := by omega
      by_cases hk : k < L.length
      · have hkz : (k : Int) < (L.length : Int) := by omega
        have hk0 : (0 : Int) ≤ (k : Int) := Int.natCast_nonneg k
        have hkw : IntKind.i64.wrap ((k : Int) + 1) = (k : Int) + 1 := IntWalk.i64_in _ (by omega)
        obtain ⟨c, hc⟩ : ∃ c, L[k]? = some c := ⟨_, List.getElem?_eq_getElem hk⟩
        obtain ⟨cg, co, rfl, bc⟩ := HCl.out k c hc
        have lc := cell_lt bc
        have bcr := below_cell HB.out bc
        have lcr : cg < wr.heap.size := by omega
        have nc : cg ≠ wr.heap.size := by omega
        have HC0 := Lib.hid hc
        clear hc bc
        by_cases c0 : c.toNat % 4 = 0
        · have hr : (c.toNat : Int) % 4 = 0 := by omega
          have HC : Hid (elL c = ⟨1, 0, 0⟩) := by show _ = _; unfold elL; rw [if_pos c0]
          have HWd : Hid (wdL c = [97]) := by show _ = _; unfold wdL; rw [if_pos c0]
          clear c0
          have hOf := Of_calls 1 (by decide) (by decide) (wr.alloc (.cells #[.pointer none, .pointer none, .pointer none] 28))
          go_wp2_with fail
          refine hOf.mono ?_
          rintro e w5 ⟨q, rfl, hi5, hb5⟩
          have HD5 : Hid (Below wr.heap.size wr w5) := Below.trans' ((Below.refl _ _).alloc (Nat.le_refl _) (.cells #[.pointer none, .pointer none, .pointer none] 28)) hb5.out
          have HY5 : Hid (w5.heap[wr.heap.size]? = some (.cells #[.pointer none, .pointer none, .pointer none] 28 (0, 0))) := Below.here hb5.out (heap_last wr _)
          have HX5 := Lib.hid (Below.here HD5.out HX.out)
          have y0 := cell_of HY5.out 0
          have y1 := cell_of HY5.out 1
          have y2 := cell_of HY5.out 2
          have fy := free_of HY5.out 0
          have c40 := cell_of HX5.out 0
          have c41 := cell_of HX5.out 1
          have c42 := cell_of HX5.out 2
          have HY6 : Hid ((w5.setCell ⟨wr.heap.size, 0, none⟩ (.pointer q)).heap[wr.heap.size]? = some (.cells #[.pointer q, .pointer none, .pointer none] 28 (0, 0))) := heap_setCell_same w5 wr.heap.size 0 _ 28 _ HY5.out
          have HX6 : Hid ((w5.setCell ⟨wr.heap.size, 0, none⟩ (.pointer q)).heap[W.heap.size]? = some (.cells #[.pointer xu, .pointer xv, .pointer xm] 28 (0, 0))) := (RowKit.Below.heap_setCell _ _ _ _ n4).trans HX5.out
          have HI6 : Hid (IsN (w5.setCell ⟨wr.heap.size, 0, none⟩ (.pointer q)) (.agg #[.pointer q]) 1) := hi5.out.setCell (o := 0) HY5.out (by decide) _
          have HE6 : Hid (IsE (w5.setCell ⟨wr.heap.size, 0, none⟩ (.pointer q)) (.agg #[.pointer xu, .pointer xv, .pointer xm]) (prodE (L.take k))) := (HE.out.below HD5.out).set (k := 0) HY5.out _
          have HB6 : Hid (Below W.heap.size W (w5.setCell ⟨wr.heap.size, 0, none⟩ (.pointer q))) := (Below.trans' HB.out HD5.out).setCell (by show W.heap.size ≤ wr.heap.size; omega) _
          have hMu := Mul_calls (W := w5.setCell ⟨wr.heap.size, 0, none⟩ (.pointer q)) (V1 := .agg #[.pointer xu, .pointer xv, .pointer xm]) (V2 := .agg #[.pointer q, .pointer none, .pointer none]) (x := prodE (L.take k)) (y := ⟨1, 0, 0⟩) HE6.out ⟨q, none, none, rfl, HI6.out, isN_zero _, isN_zero _⟩ (by rw [← HC.out]; exact (lat_times (prodE_lat k (L.take k) (by simp; omega) (by omega)) (elL_lat c) (by omega)).1)
          clear hOf hi5 hb5
          go_wp2_with fail
          refine hMu.mono ?_
          rintro e w7 ⟨pu, pv, pm, rfl, hi7, hb7⟩
          have HB7 := Lib.hid (Below.trans' HB6.out hb7.out)
          have HX7 := Lib.hid (Below.here hb7.out HX6.out)
          have HX8 : Hid ((set3 w7 W.heap.size (.pointer pu) (.pointer pv) (.pointer pm)).heap[W.heap.size]? = some (.cells #[.pointer pu, .pointer pv, .pointer pm] 28 (0, 0))) := set3_same HX7.out
          have HE8 : Hid (IsE (set3 w7 W.heap.size (.pointer pu) (.pointer pv) (.pointer pm)) (.agg #[.pointer pu, .pointer pv, .pointer pm]) (prodE (L.take (k + 1)))) := by
            show IsE _ _ _
            rw [prodE_take HC0.out, HC.out]
            exact IsE.store3 hi7.out HX7.out
          have HB8 : Hid (Below W.heap.size W (set3 w7 W.heap.size (.pointer pu) (.pointer pv) (.pointer pm))) := Below.set3 HB7.out (Nat.le_refl _)
          have HD9 : Hid (Below (set3 w7 W.heap.size (.pointer pu) (.pointer pv) (.pointer pm)).heap.size (set3 w7 W.heap.size (.pointer pu) (.pointer pv) (.pointer pm)) ((set3 w7 W.heap.size (.pointer pu) (.pointer pv) (.pointer pm)).alloc (.cells #[.pointer pu, .pointer pv, .pointer pm] 28))) := (Below.refl _ _).alloc (Nat.le_refl _) _
          have HX9 := Lib.hid (Below.here HD9.out HX8.out)
          have HE9 := Lib.hid (HE8.out.below HD9.out)
          have HB9 := Lib.hid (Below.trans' HB8.out HD9.out)
          have e40 := cell_of HX7.out 0
          have e41 := cell_of HX7.out 1
          have e42 := cell_of HX7.out 2
          have g40 := free_of HX7.out 0
          have g41 := free_of HX7.out 1
          have g42 := free_of HX7.out 2
          have n7 : W.heap.size < w7.heap.size := (Array.getElem?_eq_some_iff.1 HX7.out).1
          have n7' : W.heap.size ≠ w7.heap.size := by omega
          clear hMu hi7 hb7 y0 y1 y2 fy c40 c41 c42
          go_wp2_with fail
          clear e40 e41 e42 g40 g41 g42
          go_roundg (L.length - (k + 1))
          case measure => omega
          case rel => exact ⟨k + 1, _, pu, pv, pm, rfl, by go_num, by omega, by omega, ⟨by rw [cat_size]; show s.size + 1 ≤ _; omega, by show _ = _; rw [cat_list, HS.out, wordL_snoc HC0.out, HWd.out]⟩, HX9, HE9, HB9⟩
        · have hn0 : decide ((c.toNat : Int) % 4 = 0) = false := by simp only [decide_eq_false_iff_not]; omega
          have hm0 : ((c.toNat : Int) % 4 == 0) = false := by simpa using hn0
          by_cases c1 : c.toNat % 4 = 1
          · have hr : (c.toNat : Int) % 4 = 1 := by omega
            have HC : Hid (elL c = ⟨-1, 0, 0⟩) := by show _ = _; unfold elL; rw [if_neg c0, if_pos c1]
            have HWd : Hid (wdL c = [65]) := by show _ = _; unfold wdL; rw [if_neg c0, if_pos c1]
            clear c0 c1 hn0 hm0
            have hOf := Of_calls (-1) (by decide) (by decide) (wr.alloc (.cells #[.pointer none, .pointer none, .pointer none] 28))
            go_wp2_with fail
            refine hOf.mono ?_
            rintro e w5 ⟨q, rfl, hi5, hb5⟩
            have HD5 : Hid (Below wr.heap.size wr w5) := Below.trans' ((Below.refl _ _).alloc (Nat.le_refl _) (.cells #[.pointer none, .pointer none, .pointer none] 28)) hb5.out
            have HY5 : Hid (w5.heap[wr.heap.size]? = some (.cells #[.pointer none, .pointer none, .pointer none] 28 (0, 0))) := Below.here hb5.out (heap_last wr _)
            have HX5 := Lib.hid (Below.here HD5.out HX.out)
            have y0 := cell_of HY5.out 0
            have y1 := cell_of HY5.out 1
            have y2 := cell_of HY5.out 2
            have fy := free_of HY5.out 0
            have c40 := cell_of HX5.out 0
            have c41 := cell_of HX5.out 1
            have c42 := cell_of HX5.out 2
            have HY6 : Hid ((w5.setCell ⟨wr.heap.size, 0, none⟩ (.pointer q)).heap[wr.heap.size]? = some (.cells #[.pointer q, .pointer none, .pointer none] 28 (0, 0))) := heap_setCell_same w5 wr.heap.size 0 _ 28 _ HY5.out
            have HX6 : Hid ((w5.setCell ⟨wr.heap.size, 0, none⟩ (.pointer q)).heap[W.heap.size]? = some (.cells #[.pointer xu, .pointer xv, .pointer xm] 28 (0, 0))) := (RowKit.Below.heap_setCell _ _ _ _ n4).trans HX5.out
            have HI6 : Hid (IsN (w5.setCell ⟨wr.heap.size, 0, none⟩ (.pointer q)) (.agg #[.pointer q]) (-1)) := hi5.out.setCell (o := 0) HY5.out (by decide) _
            have HE6 : Hid (IsE (w5.setCell ⟨wr.heap.size, 0, none⟩ (.pointer q)) (.agg #[.pointer xu, .pointer xv, .pointer xm]) (prodE (L.take k))) := (HE.out.below HD5.out).set (k := 0) HY5.out _
            have HB6 : Hid (Below W.heap.size W (w5.setCell ⟨wr.heap.size, 0, none⟩ (.pointer q))) := (Below.trans' HB.out HD5.out).setCell (by show W.heap.size ≤ wr.heap.size; omega) _
            have hMu := Mul_calls (W := w5.setCell ⟨wr.heap.size, 0, none⟩ (.pointer q)) (V1 := .agg #[.pointer xu, .pointer xv, .pointer xm]) (V2 := .agg #[.pointer q, .pointer none, .pointer none]) (x := prodE (L.take k)) (y := ⟨-1, 0, 0⟩) HE6.out ⟨q, none, none, rfl, HI6.out, isN_zero _, isN_zero _⟩ (by rw [← HC.out]; exact (lat_times (prodE_lat k (L.take k) (by simp; omega) (by omega)) (elL_lat c) (by omega)).1)
            clear hOf hi5 hb5
            go_wp2_with fail
            refine hMu.mono ?_
            rintro e w7 ⟨pu, pv, pm, rfl, hi7, hb7⟩
            have HB7 := Lib.hid (Below.trans' HB6.out hb7.out)
            have HX7 := Lib.hid (Below.here hb7.out HX6.out)
            have HX8 : Hid ((set3 w7 W.heap.size (.pointer pu) (.pointer pv) (.pointer pm)).heap[W.heap.size]? = some (.cells #[.pointer pu, .pointer pv, .pointer pm] 28 (0, 0))) := set3_same HX7.out
            have HE8 : Hid (IsE (set3 w7 W.heap.size (.pointer pu) (.pointer pv) (.pointer pm)) (.agg #[.pointer pu, .pointer pv, .pointer pm]) (prodE (L.take (k + 1)))) := by
              show IsE _ _ _
              rw [prodE_take HC0.out, HC.out]
              exact IsE.store3 hi7.out HX7.out
            have HB8 : Hid (Below W.heap.size W (set3 w7 W.heap.size (.pointer pu) (.pointer pv) (.pointer pm))) := Below.set3 HB7.out (Nat.le_refl _)
            have HD9 : Hid (Below (set3 w7 W.heap.size (.pointer pu) (.pointer pv) (.pointer pm)).heap.size (set3 w7 W.heap.size (.pointer pu) (.pointer pv) (.pointer pm)) ((set3 w7 W.heap.size (.pointer pu) (.pointer pv) (.pointer pm)).alloc (.cells #[.pointer pu, .pointer pv, .pointer pm] 28))) := (Below.refl _ _).alloc (Nat.le_refl _) _
            have HX9 := Lib.hid (Below.here HD9.out HX8.out)
            have HE9 := Lib.hid (HE8.out.below HD9.out)
            have HB9 := Lib.hid (Below.trans' HB8.out HD9.out)
            have e40 := cell_of HX7.out 0
            have e41 := cell_of HX7.out 1
            have e42 := cell_of HX7.out 2
            have g40 := free_of HX7.out 0
            have g41 := free_of HX7.out 1
            have g42 := free_of HX7.out 2
            have n7 : W.heap.size < w7.heap.size := (Array.getElem?_eq_some_iff.1 HX7.out).1
            have n7' : W.heap.size ≠ w7.heap.size := by omega
            clear hMu hi7 hb7 y0 y1 y2 fy c40 c41 c42
            go_wp2_with fail
            clear e40 e41 e42 g40 g41 g42
            go_roundg (L.length - (k + 1))
            case measure => omega
            case rel => exact ⟨k + 1, _, pu, pv, pm, rfl, by go_num, by omega, by omega, ⟨by rw [cat_size]; show s.size + 1 ≤ _; omega, by show _ = _; rw [cat_list, HS.out, wordL_snoc HC0.out, HWd.out]⟩, HX9, HE9, HB9⟩
          · have hn1 : decide ((c.toNat : Int) % 4 = 1) = false := by simp only [decide_eq_false_iff_not]; omega
            have hm1 : ((c.toNat : Int) % 4 == 1) = false := by simpa using hn1
            by_cases c2 : c.toNat % 4 = 2
            · have hr : (c.toNat : Int) % 4 = 2 := by omega
              have HC : Hid (elL c = ⟨0, 0, 1⟩) := by show _ = _; unfold elL; rw [if_neg c0, if_neg c1, if_pos c2]
              have HWd : Hid (wdL c = [98, 97, 66]) := by show _ = _; unfold wdL; rw [if_neg c0, if_neg c1, if_pos c2]
              clear c0 c1 c2 hn0 hm0 hn1 hm1
              have hOf := Of_calls 1 (by decide) (by decide) (wr.alloc (.cells #[.pointer none, .pointer none, .pointer none] 28))
              go_wp2_with fail
              refine hOf.mono ?_
              rintro e w5 ⟨q, rfl, hi5, hb5⟩
              have HD5 : Hid (Below wr.heap.size wr w5) := Below.trans' ((Below.refl _ _).alloc (Nat.le_refl _) (.cells #[.pointer none, .pointer none, .pointer none] 28)) hb5.out
              have HY5 : Hid (w5.heap[wr.heap.size]? = some (.cells #[.pointer none, .pointer none, .pointer none] 28 (0, 0))) := Below.here hb5.out (heap_last wr _)
              have HX5 := Lib.hid (Below.here HD5.out HX.out)
              have y0 := cell_of HY5.out 0
              have y1 := cell_of HY5.out 1
              have y2 := cell_of HY5.out 2
              have fy := free_of HY5.out 2
              have c40 := cell_of HX5.out 0
              have c41 := cell_of HX5.out 1
              have c42 := cell_of HX5.out 2
              have HY6 : Hid ((w5.setCell ⟨wr.heap.size, 2, none⟩ (.pointer q)).heap[wr.heap.size]? = some (.cells #[.pointer none, .pointer none, .pointer q] 28 (0, 0))) := heap_setCell_same w5 wr.heap.size 2 _ 28 _ HY5.out
              have HX6 : Hid ((w5.setCell ⟨wr.heap.size, 2, none⟩ (.pointer q)).heap[W.heap.size]? = some (.cells #[.pointer xu, .pointer xv, .pointer xm] 28 (0, 0))) := (RowKit.Below.heap_setCell _ _ _ _ n4).trans HX5.out
              have HI6 : Hid (IsN (w5.setCell ⟨wr.heap.size, 2, none⟩ (.pointer q)) (.agg #[.pointer q]) 1) := hi5.out.setCell (o := 2) HY5.out (by decide) _
              have HE6 : Hid (IsE (w5.setCell ⟨wr.heap.size, 2, none⟩ (.pointer q)) (.agg #[.pointer xu, .pointer xv, .pointer xm]) (prodE (L.take k))) := (HE.out.below HD5.out).set (k := 2) HY5.out _
              have HB6 : Hid (Below W.heap.size W (w5.setCell ⟨wr.heap.size, 2, none⟩ (.pointer q))) := (Below.trans' HB.out HD5.out).setCell (by show W.heap.size ≤ wr.heap.size; omega) _
              have hMu := Mul_calls (W := w5.setCell ⟨wr.heap.size, 2, none⟩ (.pointer q)) (V1 := .agg #[.pointer xu, .pointer xv, .pointer xm]) (V2 := .agg #[.pointer none, .pointer none, .pointer q]) (x := prodE (L.take k)) (y := ⟨0, 0, 1⟩) HE6.out ⟨none, none, q, rfl, isN_zero _, isN_zero _, HI6.out⟩ (by rw [← HC.out]; exact (lat_times (prodE_lat k (L.take k) (by simp; omega) (by omega)) (elL_lat c) (by omega)).1)
              clear hOf hi5 hb5
              go_wp2_with fail
              refine hMu.mono ?_
              rintro e w7 ⟨pu, pv, pm, rfl, hi7, hb7⟩
              have HB7 := Lib.hid (Below.trans' HB6.out hb7.out)
              have HX7 := Lib.hid (Below.here hb7.out HX6.out)
              have HX8 : Hid ((set3 w7 W.heap.size (.pointer pu) (.pointer pv) (.pointer pm)).heap[W.heap.size]? = some (.cells #[.pointer pu, .pointer pv, .pointer pm] 28 (0, 0))) := set3_same HX7.out
              have HE8 : Hid (IsE (set3 w7 W.heap.size (.pointer pu) (.pointer pv) (.pointer pm)) (.agg #[.pointer pu, .pointer pv, .pointer pm]) (prodE (L.take (k + 1)))) := by
                show IsE _ _ _
                rw [prodE_take HC0.out, HC.out]
                exact IsE.store3 hi7.out HX7.out
              have HB8 : Hid (Below W.heap.size W (set3 w7 W.heap.size (.pointer pu) (.pointer pv) (.pointer pm))) := Below.set3 HB7.out (Nat.le_refl _)
              have HD9 : Hid (Below (set3 w7 W.heap.size (.pointer pu) (.pointer pv) (.pointer pm)).heap.size (set3 w7 W.heap.size (.pointer pu) (.pointer pv) (.pointer pm)) ((set3 w7 W.heap.size (.pointer pu) (.pointer pv) (.pointer pm)).alloc (.cells #[.pointer pu, .pointer pv, .pointer pm] 28))) := (Below.refl _ _).alloc (Nat.le_refl _) _
              have HX9 := Lib.hid (Below.here HD9.out HX8.out)
              have HE9 := Lib.hid (HE8.out.below HD9.out)
              have HB9 := Lib.hid (Below.trans' HB8.out HD9.out)
              have e40 := cell_of HX7.out 0
              have e41 := cell_of HX7.out 1
              have e42 := cell_of HX7.out 2
              have g40 := free_of HX7.out 0
              have g41 := free_of HX7.out 1
              have g42 := free_of HX7.out 2
              have n7 : W.heap.size < w7.heap.size := (Array.getElem?_eq_some_iff.1 HX7.out).1
              have n7' : W.heap.size ≠ w7.heap.size := by omega
              clear hMu hi7 hb7 y0 y1 y2 fy c40 c41 c42
              go_wp2_with fail
              clear e40 e41 e42 g40 g41 g42
              go_roundg (L.length - (k + 1))
              case measure => omega
              case rel => exact ⟨k + 1, _, pu, pv, pm, rfl, by go_num, by omega, by omega, ⟨by rw [cat_size]; show s.size + 3 ≤ _; omega, by show _ = _; rw [cat_list, HS.out, wordL_snoc HC0.out, HWd.out]⟩, HX9, HE9, HB9⟩
            · have hn2 : decide ((c.toNat : Int) % 4 = 2) = false := by simp only [decide_eq_false_iff_not]; omega
              have hm2 : ((c.toNat : Int) % 4 == 2) = false := by simpa using hn2
              have HC : Hid (elL c = ⟨0, 0, -1⟩) := by show _ = _; unfold elL; rw [if_neg c0, if_neg c1, if_neg c2]
              have HWd : Hid (wdL c = [98, 65, 66]) := by show _ = _; unfold wdL; rw [if_neg c0, if_neg c1, if_neg c2]
              clear c0 c1 c2
              have hOf := Of_calls (-1) (by decide) (by decide) (wr.alloc (.cells #[.pointer none, .pointer none, .pointer none] 28))
              go_wp2_with fail
              refine hOf.mono ?_
              rintro e w5 ⟨q, rfl, hi5, hb5⟩
              have HD5 : Hid (Below wr.heap.size wr w5) := Below.trans' ((Below.refl _ _).alloc (Nat.le_refl _) (.cells #[.pointer none, .pointer none, .pointer none] 28)) hb5.out
              have HY5 : Hid (w5.heap[wr.heap.size]? = some (.cells #[.pointer none, .pointer none, .pointer none] 28 (0, 0))) := Below.here hb5.out (heap_last wr _)
              have HX5 := Lib.hid (Below.here HD5.out HX.out)
              have y0 := cell_of HY5.out 0
              have y1 := cell_of HY5.out 1
              have y2 := cell_of HY5.out 2
              have fy := free_of HY5.out 2
              have c40 := cell_of HX5.out 0
              have c41 := cell_of HX5.out 1
              have c42 := cell_of HX5.out 2
              have HY6 : Hid ((w5.setCell ⟨wr.heap.size, 2, none⟩ (.pointer q)).heap[wr.heap.size]? = some (.cells #[.pointer none, .pointer none, .pointer q] 28 (0, 0))) := heap_setCell_same w5 wr.heap.size 2 _ 28 _ HY5.out
              have HX6 : Hid ((w5.setCell ⟨wr.heap.size, 2, none⟩ (.pointer q)).heap[W.heap.size]? = some (.cells #[.pointer xu, .pointer xv, .pointer xm] 28 (0, 0))) := (RowKit.Below.heap_setCell _ _ _ _ n4).trans HX5.out
              have HI6 : Hid (IsN (w5.setCell ⟨wr.heap.size, 2, none⟩ (.pointer q)) (.agg #[.pointer q]) (-1)) := hi5.out.setCell (o := 2) HY5.out (by decide) _
              have HE6 : Hid (IsE (w5.setCell ⟨wr.heap.size, 2, none⟩ (.pointer q)) (.agg #[.pointer xu, .pointer xv, .pointer xm]) (prodE (L.take k))) := (HE.out.below HD5.out).set (k := 2) HY5.out _
              have HB6 : Hid (Below W.heap.size W (w5.setCell ⟨wr.heap.size, 2, none⟩ (.pointer q))) := (Below.trans' HB.out HD5.out).setCell (by show W.heap.size ≤ wr.heap.size; omega) _
              have hMu := Mul_calls (W := w5.setCell ⟨wr.heap.size, 2, none⟩ (.pointer q)) (V1 := .agg #[.pointer xu, .pointer xv, .pointer xm]) (V2 := .agg #[.pointer none, .pointer none, .pointer q]) (x := prodE (L.take k)) (y := ⟨0, 0, -1⟩) HE6.out ⟨none, none, q, rfl, isN_zero _, isN_zero _, HI6.out⟩ (by rw [← HC.out]; exact (lat_times (prodE_lat k (L.take k) (by simp; omega) (by omega)) (elL_lat c) (by omega)).1)
              clear hOf hi5 hb5
              go_wp2_with fail
              refine hMu.mono ?_
              rintro e w7 ⟨pu, pv, pm, rfl, hi7, hb7⟩
              have HB7 := Lib.hid (Below.trans' HB6.out hb7.out)
              have HX7 := Lib.hid (Below.here hb7.out HX6.out)
              have HX8 : Hid ((set3 w7 W.heap.size (.pointer pu) (.pointer pv) (.pointer pm)).heap[W.heap.size]? = some (.cells #[.pointer pu, .pointer pv, .pointer pm] 28 (0, 0))) := set3_same HX7.out
              have HE8 : Hid (IsE (set3 w7 W.heap.size (.pointer pu) (.pointer pv) (.pointer pm)) (.agg #[.pointer pu, .pointer pv, .pointer pm]) (prodE (L.take (k + 1)))) := by
                show IsE _ _ _
                rw [prodE_take HC0.out, HC.out]
                exact IsE.store3 hi7.out HX7.out
              have HB8 : Hid (Below W.heap.size W (set3 w7 W.heap.size (.pointer pu) (.pointer pv) (.pointer pm))) := Below.set3 HB7.out (Nat.le_refl _)
              have HD9 : Hid (Below (set3 w7 W.heap.size (.pointer pu) (.pointer pv) (.pointer pm)).heap.size (set3 w7 W.heap.size (.pointer pu) (.pointer pv) (.pointer pm)) ((set3 w7 W.heap.size (.pointer pu) (.pointer pv) (.pointer pm)).alloc (.cells #[.pointer pu, .pointer pv, .pointer pm] 28))) := (Below.refl _ _).alloc (Nat.le_refl _) _
              have HX9 := Lib.hid (Below.here HD9.out HX8.out)
              have HE9 := Lib.hid (HE8.out.below HD9.out)
              have HB9 := Lib.hid (Below.trans' HB8.out HD9.out)
              have e40 := cell_of HX7.out 0
              have e41 := cell_of HX7.out 1
              have e42 := cell_of HX7.out 2
              have g40 := free_of HX7.out 0
              have g41 := free_of HX7.out 1
              have g42 := free_of HX7.out 2
              have n7 : W.heap.size < w7.heap.size := (Array.getElem?_eq_some_iff.1 HX7.out).1
              have n7' : W.heap.size ≠ w7.heap.size := by omega
              clear hMu hi7 hb7 y0 y1 y2 fy c40 c41 c42
              go_wp2_with fail
              clear e40 e41 e42 g40 g41 g42
              go_roundg (L.length - (k + 1))
              case measure => omega
              case rel => exact ⟨k + 1, _, pu, pv, pm, rfl, by go_num, by omega, by omega, ⟨by rw [cat_size]; show s.size + 3 ≤ _; omega, by show _ = _; rw [cat_list, HS.out, wordL_snoc HC0.out, HWd.out]⟩, HX9, HE9, HB9⟩
      · have hkz : ¬ ((k : Int) < (L.length : Int)) := by omega
        have hkL : k = L.length := by omega
        subst hkL
        rw [List.take_length] at HS HE
        obtain ⟨st, hin, hst⟩ := inner_law L hl1
        have HIn : Hid (traceE s.data.toList = some (st, [], [prodE L])) := by show _ = _; rw [HS.out]; exact hin
        have hTr := Trace_any (W := wr) (s := s) (by omega)
        have hWd : Hid (isWordL s.data.toList = true) := by
          show _ = _
          unfold isWordL
          rw [Bool.and_eq_true]
          refine ⟨by simp; show s.size ≤ 400; omega, ?_⟩
          rw [HS.out]
          unfold wordL
          simp only [List.all_flatMap, List.all_eq_true]
          intro c _ d hd
          unfold wdL at hd
          split at hd
          · simp at hd; subst hd; decide
          · split at hd
            · simp at hd; subst hd; decide
            · split at hd <;> (simp at hd; rcases hd with rfl | rfl | rfl <;> decide)
        clear hin hst
        go_wp2_with fail
        refine hTr.mono ?_
        rintro e w1 ⟨hb1, hcase⟩
        have HB1 := Lib.hid (Below.trans' HB.out hb1.out)
        obtain ⟨sa, sn, sc, qu, qv, qm, he, hie⟩ : ∃ sa sn sc qu qv qm, e = .returned (.tuple #[.slice sa sn sc, .int .i64 0, .agg #[.pointer qu, .pointer qv, .pointer qm], .int .i64 0]) ∧ IsE w1 (.agg #[.pointer qu, .pointer qv, .pointer qm]) (prodE L) := by
          rcases hcase with ⟨h, -⟩ | ⟨-, h, -⟩ | ⟨-, st', o, G, h, sa, sn, sc, qu, qv, qm, he, hs, hi⟩
          · rw [hWd.out] at h; cases h
          · rw [HIn.out] at h; cases h
          · rw [HIn.out] at h; cases h
            exact ⟨_, _, _, qu, qv, qm, he, hi.out⟩
        subst he
        have HX1 := Lib.hid (Below.here hb1.out HX.out)
        have HE1 := Lib.hid (HE.out.below hb1.out)
        have HD2 : Hid (Below w1.heap.size w1 (w1.alloc (.cells #[.pointer qu, .pointer qv, .pointer qm] 28))) := (Below.refl _ _).alloc (Nat.le_refl _) _
        have HX2 := Lib.hid (Below.here HD2.out HX1.out)
        have HE2 := Lib.hid (HE1.out.below HD2.out)
        have HI2 := Lib.hid (hie.below HD2.out)
        have HB2 := Lib.hid (Below.trans' HB1.out HD2.out)
        have hS := sane_calls (w1.alloc (.cells #[.pointer qu, .pointer qv, .pointer qm] 28))
        clear hTr hb1 hcase hie
        go_wp2_with fail
        refine hS.mono ?_
        rintro e w3 ⟨rfl, hb3⟩
        have HX3 := Lib.hid (Below.here hb3.out HX2.out)
        have HY3 := Lib.hid (Below.here hb3.out (heap_last w1 (.cells #[.pointer qu, .pointer qv, .pointer qm] 28)))
        have hEq := equal_calls (HE2.out.below hb3.out) (HI2.out.below hb3.out)
        have HB3 := Lib.hid (Below.trans' HB2.out hb3.out)
        have x0 := cell_of HX3.out 0
        have x1 := cell_of HX3.out 1
        have x2 := cell_of HX3.out 2
        have z0 := cell_of HY3.out 0
        have z1 := cell_of HY3.out 1
        have z2 := cell_of HY3.out 2
        clear hS hb3
        go_wp2_with fail
        refine hEq.mono ?_
        rintro e w4 ⟨rfl, hb4⟩
        have HB4 := Lib.hid (Below.trans' HB3.out hb4.out)
        clear hEq hb4
        go_wp2_with fail
        refine bodyPost_ret (results_tmp rfl _ _ _) rfl ?_
        refine ⟨?_, HB4⟩
        simp
end Sr
