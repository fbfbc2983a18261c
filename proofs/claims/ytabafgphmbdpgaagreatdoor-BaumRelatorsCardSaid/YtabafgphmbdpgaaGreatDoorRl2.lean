/- Texts of this claim, joined: Prod, RelW. -/
import Derived.Test.YtabafgphmbdpgaaGreatDoorRl1
import Derived.BigQuiet
/- product: the walk. -/
namespace Sr
open Go Go.Proofs Go.RowKit Go.Maps Go.WideMaps

/-- conjugates as they come in: a word, and whether it is the inverse -/
abbrev Cj := ByteArray × Bool
def CRd (w : World) (v : Value) (S : List Cj) : Prop := ∃ a c, v = .slice a S.length c ∧ ∀ (j : Nat) (s : Cj), S[j]? = some s → ∃ g off, a = some ⟨g, off, none⟩ ∧ w.cell? ⟨g, off + j * 2, none⟩ = some (.string s.1) ∧ w.cell? ⟨g, off + j * 2 + 1, none⟩ = some (.bool s.2)
theorem CRd.below {w w' : World} {v : Value} {S : List Cj} (h : CRd w v S) (hb : Below w.heap.size w w') : CRd w' v S := by
  obtain ⟨a, c, h0, h1⟩ := h
  refine ⟨a, c, h0, fun j s hs => ?_⟩
  obtain ⟨g, off, k1, k2, k3⟩ := h1 j s hs
  exact ⟨g, off, k1, below_cell hb k2, below_cell hb k3⟩

/-- the word that a conjugate adds -/
def cjL (s : Cj) : List UInt8 := s.1.data.toList ++ (if s.2 then invL relL else relL) ++ invL s.1.data.toList
/-- the word of a product, from what is there on -/
def prodL : List UInt8 → List Cj → List UInt8
  | out, [] => out
  | out, s :: S => if (out ++ cjL s).length > 400 then out else prodL (out ++ cjL s) S

theorem prodL_lt : ∀ {S : List Cj} {out : List UInt8}, Lt out → out.length ≤ 400 → (∀ s ∈ S, Lt s.1.data.toList) → Lt (prodL out S) ∧ (prodL out S).length ≤ 400
  | [], out, h1, h2, _ => ⟨h1, h2⟩
  | s :: S, out, h1, h2, h3 => by
    unfold prodL
    split
    · exact ⟨h1, h2⟩
    · rename_i hn
      refine prodL_lt (fun c hc => ?_) (by omega) (fun t ht => h3 t (by simp [ht]))
      have hs := h3 s (by simp)
      unfold cjL at hc
      simp only [List.mem_append] at hc
      rcases hc with h | (h | h) | h
      · exact h1 c h
      · exact hs c h
      · split at h
        · exact invL_lt relL_lt c h
        · exact relL_lt c h
      · exact invL_lt hs c h
theorem actW_cj {s : Cj} (h : Lt s.1.data.toList) {S : Nf} (hS : Ok S.2) : actW (cjL s) S = S := by
  unfold cjL
  rw [actW_append, actW_append]
  have e : ∀ T : Nf, Ok T.2 → actW (if s.2 then invL relL else relL) T = T := fun T hT => by
    split
    · have := actW_inv relL_lt hT
      rwa [actW_rel hT] at this
    · exact actW_rel hT
  rw [e _ (actW_ok hS)]
  exact actW_inv' h hS
/-- a product of conjugates of the relator is the unit -/
theorem actW_prod : ∀ {L : List Cj} {out : List UInt8}, (∀ s ∈ L, Lt s.1.data.toList) → (∀ S : Nf, Ok S.2 → actW out S = S) → ∀ S : Nf, Ok S.2 → actW (prodL out L) S = S
  | [], _, _, h, S, hS => h S hS
  | s :: L, out, hl, h, S, hS => by
    unfold prodL
    split
    · exact h S hS
    · refine actW_prod (fun t ht => hl t (by simp [ht])) (fun T hT => ?_) S hS
      rw [actW_append, actW_cj (hl s (by simp)) hT]
      exact h T hT

theorem sum2 {out b R : ByteArray} (h1 : out.size ≤ 400) (h2 : b.size ≤ 60) (h3 : R.size = 9) : ¬ (9223372036854775807 < out.size + b.size) ∧ ¬ (9223372036854775807 < out.size + b.size + R.size) := by omega
theorem sum3 {out b R Z : ByteArray} (h1 : out.size ≤ 400) (h2 : b.size ≤ 60) (h3 : R.size = 9) (h4 : Z = ⟨(invL b.data.toList).toArray⟩) : ¬ (9223372036854775807 < out.size + b.size + R.size + Z.size) := by
  have : Z.size = b.size := by rw [h4]; show (invL b.data.toList).toArray.size = _; unfold invL; simp
  omega
set_option maxHeartbeats 8000000 in
set_option maxRecDepth 100000 in
theorem product_calls {W : World} {v : Value} {S : List Cj} (hv : CRd W v S) (hS : S.length ≤ 30) (hw : ∀ s ∈ S, Lt s.1.data.toList ∧ s.1.size ≤ 60) : Calls Tryz.prog 27 #[v] W fun e W' => e = .returned (.string ⟨(prodL [] S).toArray⟩) ∧ Hid (Below W.heap.size W W') := by
  have HV := Lib.hid hv
  have HW := Lib.hid hw
  obtain ⟨sa, sc, rfl, -⟩ := hv
  obtain ⟨n, hn⟩ : ∃ n, n = S.length := ⟨_, rfl⟩
  have HN := Lib.hid hn
  rw [← hn] at hS HV
  rw [← hn]
  clear hn hw
  go_enter Tryz.func27, Tryz.ntmps27
  go_wp2_with fail
  go_loopg [3, 4] n (fun g1 ov kv wr => ∃ (k : Nat) (out : ByteArray), ov = .string out ∧ kv = .int .i64 k ∧ k ≤ n ∧ n - k ≤ g1 ∧ out.size ≤ 400 ∧ Hid (prodL out.data.toList (S.drop k) = prodL [] S) ∧ Hid (Below W.heap.size W wr))
  case atStart => exact ⟨0, _, rfl, rfl, by omega, by omega, by decide, rfl, Below.refl _ _⟩
  case round =>
    obtain ⟨k, out, rfl, rfl, hk, hg1, hos, HP, HB⟩ := hrel
    by_cases hlt : k < n
    · have hkz : (k : Int) < (n : Int) := by omega
      have hk0 : (0 : Int) ≤ (k : Int) := Int.natCast_nonneg k
      have hkw : IntKind.i64.wrap ((k : Int) + 1) = (k : Int) + 1 := IntWalk.i64_in _ (by omega)
      obtain ⟨s, hs⟩ : ∃ s, S[k]? = some s := ⟨_, List.getElem?_eq_getElem (by rw [← HN.out]; exact hlt)⟩
      obtain ⟨a', c', he, hcell⟩ := (HV.out.below HB.out)
      obtain ⟨rfl, -, rfl⟩ := Value.slice.inj he
      obtain ⟨g, off, rfl, c0, c1⟩ := hcell k s hs
      have HD : Hid (prodL out.data.toList (S.drop k) = if (out.data.toList ++ cjL s).length > 400 then out.data.toList else prodL (out.data.toList ++ cjL s) (S.drop (k + 1))) := by
        show _ = _
        rw [List.drop_eq_getElem_cons (by rw [← HN.out]; exact hlt), (List.getElem?_eq_some_iff.1 hs).2]; rfl
      have HSw := Lib.hid (HW.out s (List.mem_of_getElem? hs))
      obtain ⟨by', iv⟩ := s
      clear he hcell hs
      dsimp only at c0 c1
      have hby0 : Hid (by'.size ≤ 60) := HSw.out.2
      have hos0 : Hid (out.size ≤ 400) := hos
      cases iv
      · have HCc : Hid (∀ w' : World, Below wr.heap.size wr w' → w'.cell? ⟨g, off + k * 2, none⟩ = some (.string by')) := fun w' hb => below_cell hb c0
        obtain ⟨R, hR⟩ : ∃ R : ByteArray, R = ⟨#[98, 97, 66, 97, 98, 65, 66, 65, 65]⟩ := ⟨_, rfl⟩
        have HRl : Hid (R.data.toList = if false then invL relL else relL) := by show _ = _; rw [hR]; rfl
        have hRs : Hid (R.size = 9) := by show _ = _; rw [hR]; rfl
        have HB1 := Lib.hid HB.out
        have HX : Hid (Below wr.heap.size wr wr) := Below.refl _ _
        rw [← hR]
        clear hR
        go_wp2_with fail
        obtain ⟨n1, n2⟩ := sum2 hos0.out hby0.out hRs.out
        go_region_held2 (fun w' => w'.cell? ⟨g, off + k * 2, none⟩ = some (.string by'))
          (first | exact HCc.out _ ((Below.refl _ _).drew) | exact HCc.out _ HB2.out)
          (first
            | (go_at_call 26
               refine (inv5_calls (W := World.drew wr) (s := by') (Nat.le_trans hby0.out (by decide)) HSw.out.1).mono ?_
               rintro e w2 ⟨he, hb2⟩
               obtain ⟨Z, hZ⟩ : ∃ Z : ByteArray, Z = ⟨(invL by'.data.toList).toArray⟩ := ⟨_, rfl⟩
               rw [← hZ] at he
               subst he
               have n3 := sum3 hos0.out hby0.out hRs.out hZ
               have HZ := Lib.hid hZ
               clear hZ
               have HB2 : Hid (Below (World.heap wr).size wr w2) := Below.trans' ((Below.refl _ _).drew) hb2.out
               clear hb2))
        obtain ⟨T, hT⟩ : ∃ T, T = out ++ by' ++ R ++ Z := ⟨_, rfl⟩
        have HTl : Hid (T.data.toList = out.data.toList ++ cjL (by', false)) := by
          show _ = _
          rw [hT, join_list, join_list, join_list, HRl.out, HZ.out]
          unfold cjL
          simp only [List.append_assoc]
        rw [← hT]
        have hTs : T.data.toList.length = T.size := by simp
        have HTs := Lib.hid hTs
        have HB3 := Lib.hid (Below.trans' HB1.out HB2.out)
        clear hT hTs n1 n2 n3
        by_cases hbig : 400 < T.size
        · have q1 : decide ((400 : Int) < (T.size : Int)) = true := by simp; omega
          have HE : Hid (out.data.toList = prodL [] S) := by
            show _ = _
            rw [← HP.out, HD.out, if_pos (by rw [← HTl.out, HTs.out]; exact hbig)]
          go_wp2_with fail
          refine bodyPost_ret (results_tmp rfl _ _ _) rfl ?_
          refine ⟨?_, HB3⟩
          rw [← HE.out]; rfl
        · have q1 : decide ((400 : Int) < (T.size : Int)) = false := by simp; omega
          have HE : Hid (prodL T.data.toList (S.drop (k + 1)) = prodL [] S) := by
            show _ = _
            rw [← HP.out, HD.out, if_neg (by rw [← HTl.out, HTs.out]; exact hbig), HTl.out]
          go_wp2_with fail
          go_roundg (n - (k + 1))
          case measure => omega
          case rel => exact ⟨k + 1, T, rfl, by go_num, by omega, by omega, by omega, HE, HB3⟩
      · have hI0 := inv5_calls (W := wr) (s := ⟨#[98, 97, 66, 97, 98, 65, 66, 65, 65]⟩) (by decide) relL_lt
        go_wp2_with fail
        refine hI0.mono ?_
        rintro e w1 ⟨rfl, hb1⟩
        have HCc : Hid (∀ w' : World, Below w1.heap.size w1 w' → w'.cell? ⟨g, off + k * 2, none⟩ = some (.string by')) := fun w' hb => below_cell hb (below_cell hb1.out c0)
        obtain ⟨R, hR⟩ : ∃ R : ByteArray, R = ⟨(invL (⟨#[98, 97, 66, 97, 98, 65, 66, 65, 65]⟩ : ByteArray).data.toList).toArray⟩ := ⟨_, rfl⟩
        have HRl : Hid (R.data.toList = if true then invL relL else relL) := by show _ = _; rw [hR]; rfl
        have hRs : Hid (R.size = 9) := by show _ = _; rw [hR]; rfl
        have HB1 := Lib.hid (Below.trans' HB.out hb1.out)
        rw [← hR]
        clear hR hI0 hb1
        go_wp2_with fail
        obtain ⟨n1, n2⟩ := sum2 hos0.out hby0.out hRs.out
        go_region_held2 (fun w' => w'.cell? ⟨g, off + k * 2, none⟩ = some (.string by'))
          (first | exact HCc.out _ ((Below.refl _ _).drew) | exact HCc.out _ HB2.out)
          (first
            | (go_at_call 26
               refine (inv5_calls (W := World.drew w1) (s := by') (Nat.le_trans hby0.out (by decide)) HSw.out.1).mono ?_
               rintro e w2 ⟨he, hb2⟩
               obtain ⟨Z, hZ⟩ : ∃ Z : ByteArray, Z = ⟨(invL by'.data.toList).toArray⟩ := ⟨_, rfl⟩
               rw [← hZ] at he
               subst he
               have n3 := sum3 hos0.out hby0.out hRs.out hZ
               have HZ := Lib.hid hZ
               clear hZ
               have HB2 : Hid (Below (World.heap w1).size w1 w2) := Below.trans' ((Below.refl _ _).drew) hb2.out
               clear hb2))
        obtain ⟨T, hT⟩ : ∃ T, T = out ++ by' ++ R ++ Z := ⟨_, rfl⟩
        have HTl : Hid (T.data.toList = out.data.toList ++ cjL (by', true)) := by
          show _ = _
          rw [hT, join_list, join_list, join_list, HRl.out, HZ.out]
          unfold cjL
          simp only [List.append_assoc]
        rw [← hT]
        have hTs : T.data.toList.length = T.size := by simp
        have HTs := Lib.hid hTs
        have HB3 := Lib.hid (Below.trans' HB1.out HB2.out)
        clear hT hTs n1 n2 n3
        by_cases hbig : 400 < T.size
        · have q1 : decide ((400 : Int) < (T.size : Int)) = true := by simp; omega
          have HE : Hid (out.data.toList = prodL [] S) := by
            show _ = _
            rw [← HP.out, HD.out, if_pos (by rw [← HTl.out, HTs.out]; exact hbig)]
          go_wp2_with fail
          refine bodyPost_ret (results_tmp rfl _ _ _) rfl ?_
          refine ⟨?_, HB3⟩
          rw [← HE.out]; rfl
        · have q1 : decide ((400 : Int) < (T.size : Int)) = false := by simp; omega
          have HE : Hid (prodL T.data.toList (S.drop (k + 1)) = prodL [] S) := by
            show _ = _
            rw [← HP.out, HD.out, if_neg (by rw [← HTl.out, HTs.out]; exact hbig), HTl.out]
          go_wp2_with fail
          go_roundg (n - (k + 1))
          case measure => omega
          case rel => exact ⟨k + 1, T, rfl, by go_num, by omega, by omega, by omega, HE, HB3⟩
    · have hkz : ¬ ((k : Int) < (n : Int)) := by omega
      have HE : Hid (out.data.toList = prodL [] S) := by
        show _ = _
        rw [← HP.out, List.drop_of_length_le (by rw [← HN.out]; omega)]; rfl
      go_wp2_with fail
      refine bodyPost_ret (results_tmp rfl _ _ _) rfl ?_
      refine ⟨?_, HB⟩
      rw [← HE.out]; rfl
end Sr
/- BaumRelators: the walk. -/
namespace Sr
open Go Go.Proofs Go.RowKit Go.Maps Go.WideMaps

theorem base_ok : Ok base.2 := trivial
noncomputable def erT (l : List UInt8) : Int := if (traceE l).isSome then 0 else 5
theorem erT_or (l : List UInt8) : erT l = 0 ∨ erT l = 5 := by unfold erT; split <;> simp
theorem unit_res {l : List UInt8} {W W' : World} {e : Ending} (h : UnitQ l W e W') (hw : isWordL l = true) : ∃ b, e = .returned (.tuple #[.bool b, .int .i64 (erT l)]) ∧ (erT l = 0 → (b = true ↔ actW l base = base)) := by
  obtain ⟨-, ⟨h, -⟩ | ⟨-, ⟨st, o, G, hr, he⟩ | ⟨hr, he⟩⟩⟩ := h
  · rw [hw] at h; cases h
  · exact ⟨_, by unfold erT; rw [hr]; exact he, fun _ => (trace_act (isLt_lt.1 (isWordL_lt.1 hw).1) hr).2.2.1⟩
  · exact ⟨_, by unfold erT; rw [hr]; exact he, fun h => by unfold erT at h; rw [hr] at h; simp at h⟩
theorem same_res {u v : List UInt8} {W W' : World} {e : Ending} (h : SameQ u v W e W') (hu : isWordL u = true) (hv : isWordL v = true) : ∃ b er, e = .returned (.tuple #[.bool b, .int .i64 er]) ∧ ((er = 0 ∧ (b = true ↔ actW (u ++ invL v) base = base)) ∨ er = 5) := by
  have hl : Lt (u ++ invL v) := fun c hc => by
    rcases List.mem_append.1 hc with h | h
    · exact isLt_lt.1 (isWordL_lt.1 hu).1 c h
    · exact invL_lt (isLt_lt.1 (isWordL_lt.1 hv).1) c h
  obtain ⟨-, ⟨h | h, -⟩ | ⟨-, -, ⟨st, o, G, hr, he⟩ | ⟨hr, he⟩⟩⟩ := h
  · rw [hu] at h; cases h
  · rw [hv] at h; cases h
  · exact ⟨_, _, he, .inl ⟨rfl, (trace_act hl hr).2.2.1⟩⟩
  · exact ⟨_, _, he, .inr rfl⟩
theorem trace_res {l : List UInt8} {W W' : World} {e : Ending} (h : TrQ l W e W') (hw : isWordL l = true) : ∃ sa sn sc n qu qv qm, e = .returned (.tuple #[.slice sa sn sc, .int .i64 n, .agg #[.pointer qu, .pointer qv, .pointer qm], .int .i64 (erT l)]) ∧ (erT l = 0 → n = ((actW l base).2.length : Int)) := by
  obtain ⟨-, ⟨h, -⟩ | ⟨-, hr, he⟩ | ⟨-, st, o, G, hr, sa, sn, sc, qu, qv, qm, he, -, -⟩⟩ := h
  · rw [hw] at h; cases h
  · exact ⟨_, _, _, _, _, _, _, by unfold erT; rw [hr]; exact he, fun h => by unfold erT at h; rw [hr] at h; simp at h⟩
  · exact ⟨_, _, _, _, _, _, _, by unfold erT; rw [hr]; exact he, fun _ => by rw [(trace_act (isLt_lt.1 (isWordL_lt.1 hw).1) hr).1]⟩
theorem ext_list (s : ByteArray) (i : Nat) : (s.extract 0 i).data.toList = s.data.toList.take i ∧ (s.extract i s.size).data.toList = s.data.toList.drop i := by
  constructor
  · simp [ByteArray.data_extract]
  · simp only [ByteArray.data_extract, Array.toList_extract, List.extract]
    rw [List.take_of_length_le (by simp)]

set_option maxHeartbeats 8000000 in
set_option maxRecDepth 100000 in
theorem rel_calls {W : World} {s : ByteArray} (hs : s.size ≤ 9223372036854775807) {m : Nat} (hm : m ≤ 65535) {v : Value} {L : List Cj} (hv : CRd W v L) (hL : L.length ≤ 9223372036854775807) :
    Calls Tryz.prog 6 #[.string s, .int .u16 m, v] W fun e W' => e = .returned (.bool true) ∧ Hid (Below W.heap.size W W') := by
  have HV := Lib.hid hv
  obtain ⟨sa, sc, rfl, -⟩ := hv
  obtain ⟨n, hn⟩ : ∃ n, n = L.length := ⟨_, rfl⟩
  have HN := Lib.hid hn
  rw [← hn] at HV hL
  rw [← hn]
  clear hn
  by_cases h1 : 400 < s.size
  · have q1 : decide ((400 : Int) < (s.size : Int)) = true := by simp; omega
    have hS := sane_calls W
    go_enter Tryz.func6, Tryz.ntmps6
    go_wp2_with fail
    refine hS.mono ?_
    rintro e w3 ⟨rfl, hb3⟩
    clear hS
    go_wp2_with fail
    refine bodyPost_ret (results_tmp rfl _ _ _) rfl ?_
    exact ⟨rfl, hb3⟩
  · have q1 : decide ((400 : Int) < (s.size : Int)) = false := by simp; omega
    by_cases h2 : 30 < n
    · have q2 : decide ((30 : Int) < (n : Int)) = true := by simp; omega
      have hS := sane_calls W
      go_enter Tryz.func6, Tryz.ntmps6
      go_wp2_with fail
      refine hS.mono ?_
      rintro e w3 ⟨rfl, hb3⟩
      clear hS
      go_wp2_with fail
      refine bodyPost_ret (results_tmp rfl _ _ _) rfl ?_
      exact ⟨rfl, hb3⟩
    · have q2 : decide ((30 : Int) < (n : Int)) = false := by simp; omega
      have hI := isW5_calls (W := W) (s := s) hs (n := 400) (by omega)
      cases hlt : isLt s.data.toList with
      | false =>
        rw [hlt, Bool.false_and] at hI
        clear hlt
        go_enter Tryz.func6, Tryz.ntmps6
        go_wp2_with fail
        refine hI.mono ?_
        rintro e w2 ⟨rfl, hb2⟩
        have hS := sane_calls w2
        have HB2 := Lib.hid hb2.out
        clear hI hb2
        go_wp2_with fail
        refine hS.mono ?_
        rintro e w3 ⟨rfl, hb3⟩
        have HB3 := Lib.hid (Below.trans' HB2.out hb3.out)
        clear hS
        go_wp2_with fail
        refine bodyPost_ret (results_tmp rfl _ _ _) rfl ?_
        exact ⟨rfl, HB3⟩
      | true =>
        rw [hlt, show decide (s.size ≤ 400) = true by simp; omega] at hI
        have HWd : Hid (isWordL s.data.toList = true) := isWordL_lt.2 ⟨hlt, by simp; omega⟩
        clear hlt
        go_enter Tryz.func6, Tryz.ntmps6
        go_wp2_with fail
        refine hI.mono ?_
        rintro e w2 ⟨rfl, hb2⟩
        have HB2 := Lib.hid hb2.out
        clear hI hb2
        go_wp2_with fail
        go_loopg [7] n (fun g1 kv wr => ∃ k : Nat, kv = .int .i64 k ∧ k ≤ n ∧ n - k ≤ g1 ∧ Hid (∀ t ∈ L.take k, Lt t.1.data.toList ∧ t.1.size ≤ 60) ∧ Hid (Below W.heap.size W wr))
        case atStart => exact ⟨0, rfl, by omega, by omega, fun t ht => by simp at ht, HB2⟩
        case round =>
          obtain ⟨k, rfl, hk, hg1, HA, HB⟩ := hrel
          by_cases hlt : k < n
          · have hkz : (k : Int) < (n : Int) := by omega
            have hk0 : (0 : Int) ≤ (k : Int) := Int.natCast_nonneg k
            have hkw : IntKind.i64.wrap ((k : Int) + 1) = (k : Int) + 1 := IntWalk.i64_in _ (by omega)
            obtain ⟨t, ht⟩ : ∃ t, L[k]? = some t := ⟨_, List.getElem?_eq_getElem (by rw [← HN.out]; exact hlt)⟩
            obtain ⟨a', c', he, hcell⟩ := (HV.out.below HB.out)
            obtain ⟨rfl, -, rfl⟩ := Value.slice.inj he
            obtain ⟨g, off, rfl, c0, -⟩ := hcell k t ht
            have HTk : Hid (L.take (k + 1) = L.take k ++ [t]) := by show _ = _; rw [List.take_add_one, ht]; rfl
            obtain ⟨b, iv⟩ := t
            dsimp only at c0
            clear he hcell ht
            by_cases h60 : 60 < b.size
            · have q3 : decide ((60 : Int) < (b.size : Int)) = true := by simp; omega
              have hS := sane_calls wr
              go_wp2_with fail
              refine hS.mono ?_
              rintro e w3 ⟨rfl, hb3⟩
              have HB3 := Lib.hid (Below.trans' HB.out hb3.out)
              clear hS
              go_wp2_with fail
              refine bodyPost_ret (results_tmp rfl _ _ _) rfl ?_
              exact ⟨rfl, HB3⟩
            · have q3 : decide ((60 : Int) < (b.size : Int)) = false := by simp; omega
              have hI := isW5_calls (W := wr) (s := b) (by omega) (n := 60) (by omega)
              cases hbl : isLt b.data.toList with
              | false =>
                rw [hbl, Bool.false_and] at hI
                clear hbl
                go_wp2_with fail
                refine hI.mono ?_
                rintro e w2 ⟨rfl, hb2⟩
                have hS := sane_calls w2
                have HB4 := Lib.hid (Below.trans' HB.out hb2.out)
                clear hI hb2
                go_wp2_with fail
                refine hS.mono ?_
                rintro e w3 ⟨rfl, hb3⟩
                have HB3 := Lib.hid (Below.trans' HB4.out hb3.out)
                clear hS
                go_wp2_with fail
                refine bodyPost_ret (results_tmp rfl _ _ _) rfl ?_
                exact ⟨rfl, HB3⟩
              | true =>
                rw [hbl, show decide (b.size ≤ 60) = true by simp; omega] at hI
                have HA2 : Hid (∀ t ∈ L.take (k + 1), Lt t.1.data.toList ∧ t.1.size ≤ 60) := fun t ht => by
                  rw [HTk.out] at ht
                  rcases List.mem_append.1 ht with h | h
                  · exact HA.out t h
                  · rw [List.mem_singleton] at h; subst h; exact ⟨isLt_lt.1 hbl, by show b.size ≤ 60; omega⟩
                clear hbl
                go_wp2_with fail
                refine hI.mono ?_
                rintro e w2 ⟨rfl, hb2⟩
                have HB4 := Lib.hid (Below.trans' HB.out hb2.out)
                clear hI hb2
                go_wp2_with fail
                go_roundg (n - (k + 1))
                case measure => omega
                case rel => exact ⟨k + 1, by go_num, by omega, by omega, HA2, HB4⟩
          · have hkz : ¬ ((k : Int) < (n : Int)) := by omega
            have HA2 : Hid (∀ t ∈ L, Lt t.1.data.toList ∧ t.1.size ≤ 60) := fun t ht => HA.out t (by rw [List.take_of_length_le (by rw [← HN.out]; omega)]; exact ht)
            have hPr := product_calls (HV.out.below HB.out) (by rw [← HN.out]; omega) HA2.out
            go_wp2_with fail
            refine hPr.mono ?_
            rintro e w3 ⟨he, hb3⟩
            obtain ⟨P, hP⟩ : ∃ P : ByteArray, P = ⟨(prodL [] L).toArray⟩ := ⟨_, rfl⟩
            rw [← hP] at he
            subst he
            have HPl : Hid (P.data.toList = prodL [] L) := by show _ = _; rw [hP]
            have hPL := prodL_lt (S := L) (out := []) (fun c hc => by cases hc) (by simp) (fun t ht => (HA2.out t ht).1)
            have HPw : Hid (isWordL P.data.toList = true) := by show _ = _; rw [HPl.out]; exact isWordL_lt.2 ⟨isLt_lt.2 hPL.1, hPL.2⟩
            have HPa : Hid (∀ S : Nf, Ok S.2 → actW P.data.toList S = S) := fun S hS => by rw [HPl.out]; exact actW_prod (fun t ht => (HA2.out t ht).1) (fun _ _ => rfl) S hS
            have hPs := isWordL_size HPw.out
            have hUn := Unit_any (W := w3) (s := P) (by omega)
            have HB3 := Lib.hid (Below.trans' HB.out hb3.out)
            clear hPr hb3 hP hPL
            go_wp2_with fail
            refine hUn.mono ?_
            intro e w4 hu
            have HB4 := Lib.hid (Below.trans' HB3.out hu.1.out)
            obtain ⟨b, rfl, hc⟩ := unit_res hu HPw.out
            obtain ⟨er, her⟩ : ∃ er, er = erT P.data.toList := ⟨_, rfl⟩
            rw [← her] at hc
            have hcb : (er = 0 ∧ b = true) ∨ er = 5 := by
              rcases erT_or P.data.toList with h | h
              · exact .inl ⟨her.trans h, (hc (her.trans h)).2 (HPa.out base base_ok)⟩
              · exact .inr (her.trans h)
            rw [← her]
            clear her
            clear hUn hu hc
            obtain ⟨i, hi⟩ : ∃ i, i = m % (s.size + 1) := ⟨_, rfl⟩
            have hile : i ≤ s.size := by have := Nat.mod_lt m (show 0 < s.size + 1 by omega); omega
            have q4 : IntKind.i64.wrap (m : Int) = (m : Int) := by rw [IntKind.wrap_i64]; omega
            have q5 : IntKind.i64.wrap ((s.size : Int) + 1) = (s.size : Int) + 1 := by rw [IntKind.wrap_i64]; omega
            have q6 : Int.tmod (m : Int) ((s.size : Int) + 1) = (i : Int) := by rw [hi, show ((s.size : Int) + 1) = ((s.size + 1 : Nat) : Int) by omega, Int.ofNat_tmod]
            have q7 : IntKind.i64.wrap (i : Int) = (i : Int) := by rw [IntKind.wrap_i64]; omega
            have q8 : ¬ ((s.size : Int) + 1 = 0) := by omega
            have i0 : (0 : Int) ≤ (i : Int) := Int.natCast_nonneg i
            have i1 : (i : Int) ≤ (s.size : Int) := by omega
            clear hi
            rcases hcb with ⟨rfl, rfl⟩ | rfl
            all_goals
              go_wp2_with fail
              go_quiet (fail)
              obtain ⟨w5, hw5⟩ : ∃ w, w = w4.drewN nq := ⟨_, rfl⟩
              have HB5 : Hid (Below W.heap.size W w5) := by show Below _ _ _; rw [hw5]; exact Below.trans' HB4.out (below_drewN w4 nq).out
              obtain ⟨O, hO⟩ : ∃ O, O = s.extract 0 i ++ P ++ s.extract i s.size := ⟨_, rfl⟩
              have HOl : Hid (O.data.toList = s.data.toList.take i ++ P.data.toList ++ s.data.toList.drop i) := by
                show _ = _
                rw [hO, join_list, join_list, (ext_list s i).1, (ext_list s i).2]
              rw [← hO, ← hw5]
              clear hO hw5
              have HOlt : Hid (isLt O.data.toList = true) := by
                show _ = _
                rw [HOl.out]
                refine isLt_lt.2 fun c hc => ?_
                have hsl := isLt_lt.1 (isWordL_lt.1 HWd.out).1
                rcases List.mem_append.1 hc with h | h
                · rcases List.mem_append.1 h with h | h
                  · exact hsl c (List.mem_of_mem_take h)
                  · exact isLt_lt.1 (isWordL_lt.1 HPw.out).1 c h
                · exact hsl c (List.mem_of_mem_drop h)
              have HOa : Hid (∀ S : Nf, Ok S.2 → actW O.data.toList S = actW s.data.toList S) := fun S hS => by
                rw [HOl.out, actW_append, actW_append, HPa.out _ (actW_ok hS), ← actW_append, List.take_append_drop]
              clear q4 q5 q6 q7 q8 i0 i1 hile
              by_cases hbig : 400 < O.size
              · have q9 : decide ((400 : Int) < (O.size : Int)) = true := by simp; omega
                have hS := sane_calls w5
                go_wp2_with fail
                refine hS.mono ?_
                rintro e w6 ⟨rfl, hb6⟩
                have HB6 := Lib.hid (Below.trans' HB5.out hb6.out)
                clear hS
                go_wp2_with fail
                refine bodyPost_ret (results_tmp rfl _ _ _) rfl ?_
                exact ⟨rfl, HB6⟩
              · have q9 : decide ((400 : Int) < (O.size : Int)) = false := by simp; omega
                have HOw : Hid (isWordL O.data.toList = true) := isWordL_lt.2 ⟨HOlt.out, by simp; omega⟩
                have hSm := Same_any (W := w5) (s := s) (t := O) (by omega) (by omega)
                obtain ⟨x, hx⟩ : ∃ x, x = erT s.data.toList := ⟨_, rfl⟩
                obtain ⟨y, hy⟩ : ∃ y, y = erT O.data.toList := ⟨_, rfl⟩
                have HX := Lib.hid hx
                have HY := Lib.hid hy
                clear hx hy
                go_wp2_with fail
                refine hSm.mono ?_
                intro e w6 hq
                have HB6 := Lib.hid (Below.trans' HB5.out hq.1.out)
                obtain ⟨b1, e1, rfl, hc⟩ := same_res hq HWd.out HOw.out
                have HC1 : Hid ((e1 = 0 ∧ b1 = true) ∨ e1 = 5) := hc.imp (fun h => ⟨h.1, h.2.2 (by
                  rw [actW_append, ← HOa.out _ (actW_ok base_ok)]
                  exact actW_inv' (isLt_lt.1 HOlt.out) base_ok)⟩) id
                have hUw := Unit_any (W := w6) (s := s) (by omega)
                clear hSm hq hc
                go_wp2_with fail
                refine hUw.mono ?_
                intro e w7 hq
                have HB7 := Lib.hid (Below.trans' HB6.out hq.1.out)
                obtain ⟨b2, rfl, hc2⟩ := unit_res hq HWd.out
                have hUo := Unit_any (W := w7) (s := O) (by omega)
                rw [← HX.out] at hc2 ⊢
                have HC2 := Lib.hid hc2
                clear hUw hq hc2
                go_wp2_with fail
                refine hUo.mono ?_
                intro e w8 hq
                have HB8 := Lib.hid (Below.trans' HB7.out hq.1.out)
                obtain ⟨b3, rfl, hc3⟩ := unit_res hq HOw.out
                have hTw := Trace_any (W := w8) (s := s) (by omega)
                rw [← HY.out] at hc3 ⊢
                have HC3 : Hid (x = 0 → y = 0 → b2 = b3) := fun hx hy => by
                  have h2 := HC2.out hx
                  have h3 := hc3 hy
                  rw [HOa.out base base_ok] at h3
                  rw [Bool.eq_iff_iff, h2, h3]
                clear hUo hq hc3
                go_wp2_with fail
                refine hTw.mono ?_
                intro e w9 hq
                have HB9 := Lib.hid (Below.trans' HB8.out hq.1.out)
                obtain ⟨ta, tn, tc, n4, tu, tv, tm, rfl, hc4⟩ := trace_res hq HWd.out
                have hTo := Trace_any (W := w9.alloc (.cells #[.pointer tu, .pointer tv, .pointer tm] 28)) (s := O) (by omega)
                have HB10 : Hid (Below W.heap.size W (w9.alloc (.cells #[.pointer tu, .pointer tv, .pointer tm] 28))) := HB9.out.alloc HB9.out.size _
                rw [← HX.out] at hc4 ⊢
                have HC4 := Lib.hid hc4
                clear hTw hq hc4
                go_wp2_with fail
                refine hTo.mono ?_
                intro e w11 hq
                have HB11 := Lib.hid (Below.trans' HB10.out hq.1.out)
                obtain ⟨ra, rn, rc, n5, ru, rv, rm, rfl, hc5⟩ := trace_res hq HOw.out
                have hS := sane_calls (w11.alloc (.cells #[.pointer ru, .pointer rv, .pointer rm] 28))
                have HB12 : Hid (Below W.heap.size W (w11.alloc (.cells #[.pointer ru, .pointer rv, .pointer rm] 28))) := HB11.out.alloc HB11.out.size _
                rw [← HY.out] at hc5 ⊢
                have HC5 : Hid (x = 0 → y = 0 → n4 = n5) := fun hx hy => by
                  rw [HC4.out hx, hc5 hy, HOa.out base base_ok]
                clear hTo hq hc5
                have HXo : Hid (x = 0 ∨ x = 5) := by show _ ∨ _; rw [HX.out]; exact erT_or _
                have HYo : Hid (y = 0 ∨ y = 5) := by show _ ∨ _; rw [HY.out]; exact erT_or _
                clear HX HY HC2 HC4
                go_wp2_with fail
                refine hS.mono ?_
                rintro e w13 ⟨rfl, hb13⟩
                have HB13 := Lib.hid (Below.trans' HB12.out hb13.out)
                clear hS hb13
                rcases HC1.out with ⟨rfl, rfl⟩ | rfl <;> rcases HXo.out with rfl | rfl <;> rcases HYo.out with rfl | rfl
                all_goals
                  try obtain rfl := HC3.out rfl rfl
                  try obtain rfl := HC5.out rfl rfl
                  go_wp2_with fail
                  refine bodyPost_ret (results_tmp rfl _ _ _) rfl ?_
                  exact ⟨by simp, HB13⟩
end Sr
