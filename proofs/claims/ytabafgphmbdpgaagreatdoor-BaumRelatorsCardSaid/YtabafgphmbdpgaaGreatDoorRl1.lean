/- Texts of this claim, joined: Chk, Ck, RevB, Brit, Brit2, RepP, Sane, RepS, Same, IsW5, Inv5. -/
import Derived.Test.YtabafgphmbdpgaaGreatDoorIn14
import Derived.Deep.AppendLies
/- Check: pinched anywhere; the closure. -/
namespace Sr
open Go Go.Proofs Go.RowKit Go.Maps Go.WideMaps

/-- is there a pinch at a place, whatever place -/
def pinI (o : List UInt8) (G : List E3) (i : Int) : Bool := decide (0 ≤ i) && decide (i + 1 < (o.length : Int)) && pinAt o G i.toNat

set_option maxHeartbeats 4000000 in
set_option maxRecDepth 100000 in
theorem pinched_out {B : Nat} {W : World} {p : Nat} {ov gv : Value} {l : List Q3} {o : List UInt8} {G : List E3} (h : Rd B W p ov gv l o G) {i : Int} (hi : i < 0 ∨ (o.length : Int) ≤ i + 1) (hl : o.length ≤ 1000000) (h1 : -9223372036854775808 ≤ i) (h2 : i ≤ 9223372036854775807) :
    Calls Tryz.prog 66 #[.pointer (some ⟨p, 0, none⟩), .int .i64 i] W fun e W' => e = .returned (.bool false) ∧ Hid (Below W.heap.size W W') := by
  obtain ⟨oa, oc, rfl⟩ := rown_shape h.out
  have a0 := h.c0
  have w2 : IntKind.i64.wrap ((o.length : Int) - 1) = (o.length : Int) - 1 := by rw [IntKind.wrap_i64]; omega
  clear h
  go_enter Tryz.func66, Tryz.ntmps66
  go_wp2_with fail
  by_cases hn : i < 0
  · have q1 : decide (i < 0) = true := by simpa using hn
    go_quiet (fail)
    go_wp2_with fail
    refine bodyPost_ret (results_tmp rfl _ _ _) rfl ?_
    exact ⟨rfl, below_drewN _ _⟩
  · have q1 : decide (i < 0) = false := by simpa using hn
    have q2 : decide ((o.length : Int) - 1 ≤ i) = true := by simp; omega
    go_quiet (fail)
    go_wp2_with fail
    refine bodyPost_ret (results_tmp rfl _ _ _) rfl ?_
    exact ⟨rfl, below_drewN _ _⟩
theorem pinched_any {B : Nat} {W : World} {p : Nat} {ov gv : Value} {l : List Q3} {o : List UInt8} {G : List E3} (h : Rd B W p ov gv l o G) (hgl : G.length = o.length + 1) (hl : o.length ≤ 1000000) {i : Int} (h1 : -9223372036854775808 ≤ i) (h2 : i ≤ 9223372036854775807) :
    Calls Tryz.prog 66 #[.pointer (some ⟨p, 0, none⟩), .int .i64 i] W fun e W' => e = .returned (.bool (pinI o G i)) ∧ Hid (Below W.heap.size W W') := by
  by_cases hr : 0 ≤ i ∧ i + 1 < (o.length : Int)
  · obtain ⟨j, rfl⟩ : ∃ j : Nat, i = (j : Int) := ⟨i.toNat, by omega⟩
    have hj : j + 1 < o.length := by omega
    have hc := List.getElem?_eq_getElem (show j < o.length by omega)
    have hd := List.getElem?_eq_getElem hj
    have hx := List.getElem?_eq_getElem (show j + 1 < G.length by omega)
    have e : pinI o G (j : Int) = (decide (o[j] ≠ o[j + 1]) && pinB o[j] G[j + 1]) := by
      unfold pinI pinAt
      rw [show ((j : Int)).toNat = j by omega, getD_of hc, getD_of hd, getD_of hx]
      simp [hr.2]
    rw [e]
    exact pinched_calls h hc hd hx hl hgl
  · have e : pinI o G i = false := by
      unfold pinI
      rcases Int.lt_or_le i 0 with h0 | h0
      · simp [show ¬ 0 ≤ i by omega]
      · simp [show ¬ (i + 1 < (o.length : Int)) by omega]
    rw [e]
    exact pinched_out h (by omega) hl h1 h2

/-- steps as they come to Check: places, and bytes -/
abbrev Stp := Int × List UInt8
def SRd (w : World) (v : Value) (S : List Stp) : Prop := ∃ a c, v = .slice a S.length c ∧ ∀ (j : Nat) (s : Stp), S[j]? = some s → (-9223372036854775808 ≤ s.1 ∧ s.1 ≤ 9223372036854775807) ∧ ∃ g u, a = some ⟨g, 0, none⟩ ∧ w.cell? ⟨g, j * 2, none⟩ = some (.int .i64 s.1) ∧ w.cell? ⟨g, j * 2 + 1, none⟩ = some u ∧ BRow w u s.2
theorem SRd.below {w w' : World} {v : Value} {S : List Stp} (h : SRd w v S) (hb : Below w.heap.size w w') : SRd w' v S := by
  obtain ⟨a, c, h0, h1⟩ := h
  refine ⟨a, c, h0, fun j s hs => ?_⟩
  obtain ⟨k0, g, u, k1, k2, k3, k4⟩ := h1 j s hs
  exact ⟨k0, g, u, k1, below_cell hb k2, below_cell hb k3, ownsRow_below k4 hb⟩
/-- the same world but for some blocks that are not older than a bound -/
theorem SRd.fr {B : Nat} {W w w' : World} {v : Value} {S : List Stp} (h : SRd W v S) (hB : Below B W w') (hs : W.heap.size ≤ B) : SRd w' v S := by
  have := w
  exact h.below ⟨hB.os, hB.tape, hB.output, hB.size, fun k hk => hB.block k (by omega)⟩

/-- the word of a step, and what Check makes of steps -/
def chkA (s : Stp) (o : List UInt8) (G : List E3) : Prop := pinI o G s.1 = true
open Classical in
noncomputable def chkE : List Stp → List UInt8 → List E3 → Except Int (List UInt8 × List E3)
  | [], o, G => .ok (o, G)
  | s :: S, o, G =>
    if pinI o G s.1 = true then
      if allowed (pinK o G s.1.toNat) then
        if nbytes (pinK o G s.1.toNat) = s.2 then
          if pinOK (o.getD s.1.toNat 0) (pinK o G s.1.toNat) (G.getD s.1.toNat Zero) (G.getD (s.1.toNat + 2) Zero) then chkE S (pinO o s.1.toNat) (pinG o G s.1.toNat) else .error 5
        else .error 1
      else .error 5
    else .error 1
theorem chkE_nil (o : List UInt8) (G : List E3) : chkE [] o G = .ok (o, G) := rfl
theorem chkE_no {s : Stp} {S : List Stp} {o : List UInt8} {G : List E3} (h : pinI o G s.1 = false) : chkE (s :: S) o G = .error 1 := by
  rw [chkE, if_neg (by simp [h])]
theorem chkE_full {s : Stp} {S : List Stp} {o : List UInt8} {G : List E3} (h : pinI o G s.1 = true) (ha : ¬ allowed (pinK o G s.1.toNat)) : chkE (s :: S) o G = .error 5 := by
  rw [chkE, if_pos h, if_neg ha]
theorem chkE_bytes {s : Stp} {S : List Stp} {o : List UInt8} {G : List E3} (h : pinI o G s.1 = true) (ha : allowed (pinK o G s.1.toNat)) (hb : nbytes (pinK o G s.1.toNat) ≠ s.2) : chkE (s :: S) o G = .error 1 := by
  rw [chkE, if_pos h, if_pos ha, if_neg hb]
theorem chkE_made {s : Stp} {S : List Stp} {o : List UInt8} {G : List E3} (h : pinI o G s.1 = true) (ha : allowed (pinK o G s.1.toNat)) (hb : nbytes (pinK o G s.1.toNat) = s.2) (hp : ¬ pinOK (o.getD s.1.toNat 0) (pinK o G s.1.toNat) (G.getD s.1.toNat Zero) (G.getD (s.1.toNat + 2) Zero)) : chkE (s :: S) o G = .error 5 := by
  rw [chkE, if_pos h, if_pos ha, if_pos hb, if_neg hp]
theorem chkE_yes {s : Stp} {S : List Stp} {o : List UInt8} {G : List E3} (h : pinI o G s.1 = true) (ha : allowed (pinK o G s.1.toNat)) (hb : nbytes (pinK o G s.1.toNat) = s.2) (hp : pinOK (o.getD s.1.toNat 0) (pinK o G s.1.toNat) (G.getD s.1.toNat Zero) (G.getD (s.1.toNat + 2) Zero)) : chkE (s :: S) o G = chkE S (pinO o s.1.toNat) (pinG o G s.1.toNat) := by
  rw [chkE, if_pos h, if_pos ha, if_pos hb, if_pos hp]

theorem equal_calls' {W : World} {v1 v2 : Value} {l1 l2 : List UInt8} (h1 : BRow W v1 l1) (h2 : BRow W v2 l2) : Calls Tryz.prog 68 #[v1, v2] W fun e W' => e = .returned (.bool (decide (l1 = l2))) ∧ W' = W := by
  have e1 := conv_B h1 (W' := W) (fun _ _ => rfl)
  have e2 := conv_B h2 (W' := W) (fun _ _ => rfl)
  refine (Tryz.bytes_Equal_strs v1 v2 _ _ W e1 e2).mono fun e w h => ⟨?_, h.2⟩
  rw [h.1, Lib.toList_data, Lib.toList_data]
  refine congrArg (fun b : Bool => Ending.returned (.bool b)) ?_
  rw [Bool.eq_iff_iff]
  simp
/-- how Check's closure ends -/
structure CkV (b2 b3 : Nat) (o : List UInt8) (G : List E3) (qu qv qm : Option Addr) (w : World) : Prop where
  el : IsE w (.agg #[.pointer qu, .pointer qv, .pointer qm]) (endE o G)
  v2 : w.heap[b2]? = some (.cells #[.int .i64 o.length] 3 (0, 0))
  v3 : w.heap[b3]? = some (.cells #[.pointer qu, .pointer qv, .pointer qm] 28 (0, 0))
def Ck1Q (b2 b3 : Nat) (r : Except Int (List UInt8 × List E3)) (W : World) (e : Ending) (W' : World) : Prop :=
  (∃ o G, r = .ok (o, G) ∧ e = .returned (.tuple #[]) ∧ ∃ qu qv qm, Hid (CkV b2 b3 o G qu qv qm W') ∧ Hid (Fr [b2, b3] W W')) ∨ (∃ n, r = .error n ∧ e = pan n ∧ Hid (Below W.heap.size W W'))
/-- what Check makes of a word and steps -/
noncomputable def checkE (l : List UInt8) (S : List Stp) : Except Int (List UInt8 × List E3) := chkE S (readE l).1 (readE l).2

set_option maxHeartbeats 8000000 in
set_option maxRecDepth 100000 in
theorem check1_any {W : World} {s : ByteArray} (hs : s.size ≤ 1000) {v : Value} {S : List Stp} (hv : SRd W v S) (hSl : S.length ≤ 1000000000) {b0 b1 b2 b3 : Nat} {z0 : Int} {o0 o1 o2 : Option Addr}
    (H : Hid (Has W [(b0, #[.string s], 9), (b1, #[v], 23), (b2, #[.int .i64 z0], 3), (b3, #[.pointer o0, .pointer o1, .pointer o2], 28)])) :
    Calls Tryz.prog 65 #[.pointer (some ⟨b0, 0, none⟩), .pointer (some ⟨b1, 0, none⟩), .pointer (some ⟨b2, 0, none⟩), .pointer (some ⟨b3, 0, none⟩)] W (Ck1Q b2 b3 (checkE s.data.toList S) W) := by
  have HV := Lib.hid hv
  obtain ⟨sa, sc, rfl, -⟩ := hv
  have c0 := H.out.cell (b := b0) (c := #[.string s]) (T := 9) (by simp) 0
  have hRd := read_calls (W := W) s hs
  obtain ⟨n, hn⟩ : ∃ n, n = S.length := ⟨_, rfl⟩
  have HN := Lib.hid hn
  rw [← hn] at H hSl HV
  clear hn
  go_enter Tryz.func65, Tryz.ntmps65
  go_wp2_with fail
  refine hRd.mono ?_
  rintro e w1 ⟨p, ov, gv, l, rfl, hr1, hb1⟩
  have HB1 := Lib.hid hb1.out
  have HLow : Hid (∀ b ∈ rdF p ov gv, W.heap.size ≤ b ∧ b < w1.heap.size) := hr1.out.lows
  have HR0 := Lib.hid hr1.out
  have HH1 := Lib.hid (H.out.below HB1.out)
  have d1 := HH1.out.cell (b := b1) (c := #[.slice sa n sc]) (T := 23) (by simp) 0
  clear hRd hr1 hb1 c0
  go_wp2_with fail
  go_loopg [12] n (fun g1 kv wr => ∃ (k : Nat) (o' : List UInt8) (G' : List E3) (ov' gv' : Value) (l' : List Q3), kv = .int .i64 k ∧ k ≤ n ∧ n - k ≤ g1 ∧ o'.length ≤ 1000 ∧ Hid (G'.length = o'.length + 1) ∧ Hid (Rd W.heap.size wr p ov' gv' l' o' G') ∧ Hid (ov'.ownBlock = ov.ownBlock ∧ gv'.ownBlock = gv.ownBlock) ∧ Hid (Fr (rdF p ov gv) w1 wr) ∧ Hid (checkE s.data.toList S = chkE (S.drop k) o' G'))
  case atStart => exact ⟨0, _, _, ov, gv, l, rfl, by omega, by omega, by have := readE_out s.data.toList; simp at this; omega, readE_len _, HR0, ⟨rfl, rfl⟩, Fr.refl _ _, rfl⟩
  case round =>
    clear HR0 d1
    obtain ⟨k, o', G', ov', gv', l', rfl, hkn, hg, hol, HGl, HR, HOw, HF, HE⟩ := hrel
    have HBr : Hid (Below W.heap.size W wr) := below_fr HB1.out (Nat.le_refl _) (fun b hb => (HLow.out b hb).1) HF.out
    have hWr : W.heap.size ≤ wr.heap.size := HBr.out.size
    by_cases hk : k < n
    · have hkz : (k : Int) < (n : Int) := by omega
      have hk0 : (0 : Int) ≤ (k : Int) := Int.natCast_nonneg k
      have hkw : IntKind.i64.wrap ((k : Int) + 1) = (k : Int) + 1 := IntWalk.i64_in _ (by omega)
      obtain ⟨st, hst⟩ : ∃ st, S[k]? = some st := ⟨_, List.getElem?_eq_getElem (by rw [← HN.out]; exact hk)⟩
      obtain ⟨a', c', he, hcell⟩ := HV.out
      have he' := Value.slice.inj he
      obtain ⟨rfl, -, rfl⟩ := he'
      clear he
      obtain ⟨⟨at1, at2⟩, sg, u, rfl, k2, k3, k4⟩ := hcell k st hst
      obtain ⟨at', pw⟩ := st
      dsimp only at at1 at2 k2 k3 k4
      have ca := below_cell HBr.out k2
      have cu := below_cell HBr.out k3
      obtain ⟨ua, uc, hu⟩ := rown_shape k4
      obtain ⟨ul, hul⟩ : ∃ ul, ul = pw.length := ⟨_, rfl⟩
      rw [← hul] at hu
      subst hu
      have HU := Lib.hid (ownsRow_below k4 HBr.out)
      have HDr : Hid (S.drop k = (at', pw) :: S.drop (k + 1)) := by show _ = _; rw [List.drop_eq_getElem_cons (by rw [← HN.out]; exact hk)]; congr 1; exact (List.getElem?_eq_some_iff.1 hst).2
      have HD2 : Hid (Below wr.heap.size wr (wr.alloc (.cells #[.int .i64 at', .slice ua ul uc] 42))) := (Below.refl _ _).alloc (Nat.le_refl _) _
      have HR2 := Lib.hid (HR.out.below HD2.out)
      have X2 : Hid ((wr.alloc (.cells #[.int .i64 at', .slice ua ul uc] 42)).heap[wr.heap.size]? = some (.cells #[.int .i64 at', .slice ua ul uc] 42 (0, 0))) := heap_last wr _
      have hPi := pinched_any HR2.out HGl.out (by omega) at1 at2
      clear hcell k2 k3 k4 hul hst
      by_cases hpin : pinI o' G' at' = true
      · obtain ⟨i, rfl⟩ : ∃ i : Nat, at' = (i : Int) := by
          unfold pinI at hpin
          simp only [Bool.and_eq_true, decide_eq_true_eq] at hpin
          exact ⟨at'.toNat, by omega⟩
        have hlt : i + 1 < o'.length := by
          unfold pinI at hpin
          simp only [Bool.and_eq_true, decide_eq_true_eq] at hpin
          omega
        rw [hpin] at hPi
        have HPin := Lib.hid hpin
        have HPat : Hid (pinAt o' G' i = true) := by
          show _ = _
          unfold pinI at hpin
          simp only [Bool.and_eq_true, decide_eq_true_eq] at hpin
          have := hpin.2
          rwa [show ((i : Int)).toNat = i by omega] at this
        obtain ⟨c, hc⟩ : ∃ c, o'[i]? = some c := ⟨_, List.getElem?_eq_getElem (by omega)⟩
        obtain ⟨x0, hx0⟩ : ∃ x, G'[i]? = some x := ⟨_, List.getElem?_eq_getElem (by rw [HGl.out]; omega)⟩
        obtain ⟨x1, hx1⟩ : ∃ x, G'[i + 1]? = some x := ⟨_, List.getElem?_eq_getElem (by rw [HGl.out]; omega)⟩
        obtain ⟨x2, hx2⟩ : ∃ x, G'[i + 2]? = some x := ⟨_, List.getElem?_eq_getElem (by rw [HGl.out]; omega)⟩
        have HC := Lib.hid hc
        have HX0 := Lib.hid hx0
        have HX1 := Lib.hid hx1
        have HX2 := Lib.hid hx2
        have HHB : Hid (c = 98 → (x1.u = 0 ∨ 0 ≤ x1.v)) := fun hcb => by
          have h := HPat.out
          unfold pinAt at h
          rw [getD_of hc, getD_of hx1] at h
          simp only [pinB, hcb, Bool.and_eq_true, if_pos, decide_eq_true_eq] at h
          exact h.2.2
        have HKe : Hid (pinK o' G' i = powE c x1) := by show _ = _; unfold pinK; rw [getD_of hc, getD_of hx1]
        have hti : ((i : Int)).toNat = i := by omega
        have HTi := Lib.hid hti
        clear hpin hc hx0 hx1 hx2 at1 at2 hti
        go_wp2_with fail
        refine hPi.mono ?_
        rintro e w3 ⟨rfl, hb3⟩
        have HB3 := Lib.hid (Below.trans' HD2.out hb3.out)
        have HR3 := Lib.hid (HR.out.below HB3.out)
        have X3 := Lib.hid (Below.here hb3.out X2.out)
        have e0 := cell_of X3.out 0
        have hPw := power_any HR3.out HC.out HX1.out (by omega) HGl.out HHB.out
        clear hPi hb3 ca cu
        go_wp2_with fail
        refine hPw.mono ?_
        rintro e w4 (⟨hok4, q4, rfl, hi4, hb4⟩ | ⟨hno, rfl, hb4⟩)
        rotate_left
        · refine And.intro rfl ?_
          refine Or.inr ⟨5, ?_, rfl, ?_⟩
          · rw [HE.out, HDr.out, chkE_full HPin.out (by dsimp only; rw [HTi.out, HKe.out]; exact hno)]
          · exact below_fr HBr.out (Nat.le_refl _) (F := []) (by simp) (Fr.of_below (Below.trans' HB3.out hb4.out))
        have HA4 := Lib.hid hok4
        have HB5 : Hid (Below wr.heap.size wr (w4.alloc (.cells #[.pointer q4] 26))) := (Below.trans' HB3.out hb4.out).alloc (Below.trans' HB3.out hb4.out).size _
        have HD5 : Hid (Below w4.heap.size w4 (w4.alloc (.cells #[.pointer q4] 26))) := (Below.refl _ _).alloc (Nat.le_refl _) _
        have HI5 : Hid (IsN (w4.alloc (.cells #[.pointer q4] 26)) (.agg #[.pointer q4]) (powE c x1)) := hi4.out.below HD5.out
        have X5 := Lib.hid (Below.here HD5.out (Below.here hb4.out X3.out))
        have Y5 : Hid ((w4.alloc (.cells #[.pointer q4] 26)).heap[w4.heap.size]? = some (.cells #[.pointer q4] 26 (0, 0))) := heap_last w4 _
        have HU5 := Lib.hid (ownsRow_below HU.out HB5.out)
        clear hPw hok4 hi4 hb4 e0
        go_wp2_with fail
        have hBt := Bytes_calls (W := (w4.alloc (.cells #[.pointer q4] 26)).drew) (HI5.out.below ((Below.refl _ _).drew))
        have HK : Hid (∀ w' : World, Below (w4.alloc (.cells #[.pointer q4] 26)).heap.size (w4.alloc (.cells #[.pointer q4] 26)) w' → w'.cell? ⟨w4.heap.size, 0, none⟩ = some (.pointer q4) ∧ w'.cell? ⟨wr.heap.size, 1, none⟩ = some (.slice ua ul uc)) := fun w' hb => ⟨by rw [cell_of (Below.here hb Y5.out)]; rfl, by rw [cell_of (Below.here hb X5.out)]; rfl⟩
        have HKb : Hid (allowed (pinK o' G' i)) := by show allowed _; rw [HKe.out]; exact HA4.out
        obtain ⟨tb, htb⟩ : ∃ tb, decide (nbytes (powE c x1) = pw) = tb := ⟨_, rfl⟩
        have HTb := Lib.hid htb
        clear htb
        go_region_held2 (fun w' => w'.cell? ⟨w4.heap.size, 0, none⟩ = some (.pointer q4) ∧ w'.cell? ⟨wr.heap.size, 1, none⟩ = some (.slice ua ul uc))
          (first | exact HK.out _ ((Below.refl _ _).drew) | exact HK.out _ HB6.out)
          (first
            | (go_at_call 69
               refine hBt.mono ?_
               rintro e w6 ⟨bv, rfl, hbr, hb6, hbo⟩
               have HB6 : Hid (Below (w4.alloc (.cells #[.pointer q4] 26)).heap.size (w4.alloc (.cells #[.pointer q4] 26)) w6) := Below.trans' ((Below.refl _ _).drew) hb6.out
               have hEq := equal_calls' hbr.out (ownsRow_below HU5.out HB6.out)
               rw [HTb.out] at hEq
               clear hbr hb6 hbo hBt)
            | (go_at_call 68
               refine hEq.mono ?_
               rintro e w7 ⟨rfl, hw7⟩
               have hw7' : w7 = w6 := hw7
               subst hw7'
               clear hEq hw7))
        all_goals
          have HB7 := Lib.hid (Below.trans' HB5.out HB6.out)
          have HR7 := Lib.hid (HR.out.below HB7.out)
          have HI7 := Lib.hid (HI5.out.below HB6.out)
          have X7 := Lib.hid (Below.here HB6.out X5.out)
          have Y7 := Lib.hid (Below.here HB6.out Y5.out)
          have e0 := cell_of X7.out 0
          have e4 := cell_of Y7.out 0
          clear HK
          cases tb
          rotate_left
          · have hbe : nbytes (powE c x1) = pw := by simpa using HTb.out
            have HBE : Hid (nbytes (pinK o' G' i) = pw) := by show _ = _; rw [HKe.out]; exact hbe
            clear hbe
            have hPc := pinch_any HR7.out HC.out hlt HX0.out HX2.out (by omega) HGl.out HI7.out
            have HPo : Hid (pinOK c (powE c x1) x0 x2 = pinOK (o'.getD i 0) (pinK o' G' i) (G'.getD i Zero) (G'.getD (i + 2) Zero)) := by show _ = _; rw [getD_of HC.out, HKe.out, getD_of HX0.out, getD_of HX2.out]
            have HPg : Hid (G'.take i ++ [pinX c (powE c x1) x0 x2] ++ G'.drop (i + 3) = pinG o' G' i) := by show _ = _; unfold pinG; rw [getD_of HC.out, HKe.out, getD_of HX0.out, getD_of HX2.out]
            have HF7 : Hid (Fr (rdF p ov gv) w1 w7) := HF.out.pre (Fr.of_below HB7.out)
            go_wp2_with fail
            refine hPc.mono ?_
            rintro e w9 (⟨hok9, ob, gb, hob, hgb, rfl, ov9, gv9, l9, hr9, ho9, hf9⟩ | ⟨hno, rfl, hb9⟩)
            rotate_left
            · refine And.intro rfl ?_
              refine Or.inr ⟨5, ?_, rfl, ?_⟩
              · rw [HE.out, HDr.out, chkE_made HPin.out (by dsimp only; rw [HTi.out]; exact HKb.out) (by dsimp only; rw [HTi.out]; exact HBE.out) (by dsimp only; rw [HTi.out, ← HPo.out]; exact hno)]
              · exact below_fr HBr.out (Nat.le_refl _) (F := []) (by simp) (Fr.of_below (Below.trans' HB7.out hb9.out))
            have HOK9 : Hid (pinOK (o'.getD i 0) (pinK o' G' i) (G'.getD i Zero) (G'.getD (i + 2) Zero)) := by show pinOK _ _ _ _; rw [← HPo.out]; exact hok9
            have hmem : ∀ b ∈ [p, ob, gb], b ∈ rdF p ov gv := fun b hb => by
              have h1 := HOw.out.1; have h2 := HOw.out.2
              rw [hob] at h1; rw [hgb] at h2
              unfold rdF; rw [← h1, ← h2]
              simpa using hb
            have HF9 : Hid (Fr (rdF p ov gv) w1 w9) := HF7.out.pre (hf9.out.more hmem)
            have HR9 : Hid (Rd W.heap.size w9 p ov9 gv9 l9 (pinO o' i) (pinG o' G' i)) := by
              show Rd _ _ _ _ _ _ _ _
              rw [← HPg.out]; exact hr9.out
            have HO9 : Hid (ov9.ownBlock = ov.ownBlock ∧ gv9.ownBlock = gv.ownBlock) := ⟨ho9.out.1.trans (hob.symm.trans HOw.out.1), ho9.out.2.trans (hgb.symm.trans HOw.out.2)⟩
            have hpl := pinO_len hlt
            clear hPc hob hgb hr9 ho9 hf9 hok9 hmem e0 e4
            go_wp2_with fail
            go_roundg (n - (k + 1))
            case measure => omega
            case rel => exact ⟨k + 1, pinO o' i, pinG o' G' i, ov9, gv9, l9, by go_num, by omega, by omega, by omega, pinG_len hlt HGl.out, HR9, HO9, HF9, by show _ = _; rw [HE.out, HDr.out, chkE_yes HPin.out (by dsimp only; rw [HTi.out]; exact HKb.out) (by dsimp only; rw [HTi.out]; exact HBE.out) (by dsimp only; rw [HTi.out]; exact HOK9.out)]; dsimp only; rw [HTi.out]⟩
          · have hbe : ¬ (nbytes (powE c x1) = pw) := by simpa using HTb.out
            have HBE : Hid (nbytes (pinK o' G' i) ≠ pw) := by show _ ≠ _; rw [HKe.out]; exact hbe
            clear hbe
            go_wp2_with fail
            refine And.intro rfl ?_
            refine Or.inr ⟨1, ?_, rfl, ?_⟩
            · rw [HE.out, HDr.out, chkE_bytes HPin.out (by dsimp only; rw [HTi.out]; exact HKb.out) (by dsimp only; rw [HTi.out]; exact HBE.out)]
            · exact below_fr HBr.out (Nat.le_refl _) (F := []) (by simp) (Fr.of_below HB7.out)
      · have hpf : pinI o' G' at' = false := by simpa using hpin
        rw [hpf] at hPi
        have HPin := Lib.hid hpf
        clear hpin hpf at1 at2
        go_wp2_with fail
        refine hPi.mono ?_
        rintro e w3 ⟨rfl, hb3⟩
        have HB3 := Lib.hid (Below.trans' HD2.out hb3.out)
        clear hPi hb3 ca cu
        go_wp2_with fail
        refine And.intro rfl ?_
        refine Or.inr ⟨1, ?_, rfl, ?_⟩
        · rw [HE.out, HDr.out, chkE_no HPin.out]
        · exact below_fr HBr.out (Nat.le_refl _) (F := []) (by simp) (Fr.of_below HB3.out)
    · have hkz : ¬ ((k : Int) < (n : Int)) := by omega
      have HFin : Hid (checkE s.data.toList S = .ok (o', G')) := by
        show _ = _
        rw [HE.out, List.drop_of_length_le (by rw [← HN.out]; omega), chkE_nil]
      have hEn := end_calls HR.out HGl.out (by omega)
      have HHr := Lib.hid (H.out.below HBr.out)
      go_wp2_with fail
      refine hEn.mono ?_
      rintro e w4 ⟨qu, qv, qm, rfl, hie, hb4⟩
      have HB4 := Lib.hid (Below.trans' HBr.out hb4.out)
      have HH4 := Lib.hid (HHr.out.below hb4.out)
      have y2 := HH4.out (b2, #[.int .i64 z0], 3) (by simp)
      have y3 := HH4.out (b3, #[.pointer o0, .pointer o1, .pointer o2], 28) (by simp)
      dsimp only at y2 y3
      have Z2 := Lib.hid y2
      have Z3 := Lib.hid y3
      have HIE := Lib.hid hie.out
      have d2 := cell_of Z2.out 0
      have f2 := free_of Z2.out 0
      have n23 : b2 ≠ b3 := type_ne Z2.out Z3.out (by decide)
      have d3 := cell_of Z3.out 0
      have d31 := cell_of Z3.out 1
      have d32 := cell_of Z3.out 2
      have f3 := free_of Z3.out 0
      have f31 := free_of Z3.out 1
      have f32 := free_of Z3.out 2
      clear hEn hie hb4 y2 y3
      go_wp2_with fail
      go_end0
      have k2 : (w4.setCell ⟨b2, 0, none⟩ (.int .i64 o'.length)).heap[b2]? = some (.cells #[.int .i64 o'.length] 3 (0, 0)) := heap_setCell_same w4 b2 0 _ 3 _ Z2.out
      have k3 : (w4.setCell ⟨b2, 0, none⟩ (.int .i64 o'.length)).heap[b3]? = some (.cells #[.pointer o0, .pointer o1, .pointer o2] 28 (0, 0)) := (RowKit.Below.heap_setCell _ _ _ _ (type_ne Z3.out Z2.out (by decide))).trans Z3.out
      refine Or.inl ⟨o', G', HFin.out, rfl, qu, qv, qm, ⟨?_, ?_, ?_⟩, ?_⟩
      · exact IsE.store3 (HIE.out.set Z2.out _) k3
      · exact (set3_block _ (type_ne k2 k3 (by decide)) _ _ _).trans k2
      · exact set3_same k3
      · exact ((((Fr.of_below HB4.out).pre (fr_setCell _ _ (by simp))).pre (fr_setCell _ _ (by simp))).pre (fr_setCell _ _ (by simp))).pre (fr_setCell _ _ (by simp))
end Sr
/- Check. -/
namespace Sr
open Go Go.Proofs Go.RowKit Go.Maps Go.WideMaps

set_option maxRecDepth 100000 in
theorem eg65 (args : Array Value) (w : World) : (callFunc 65 args).run Tryz.prog w = .ok (.enter 65 args) w := by kernel_rfl

theorem chkE_err {S : List Stp} : ∀ {o : List UInt8} {G : List E3} {n : Int}, chkE S o G = .error n → n = 1 ∨ n = 5 := by
  induction S with
  | nil => intro o G n h; rw [chkE_nil] at h; cases h
  | cons s S ih =>
    intro o G n h
    rw [chkE] at h
    split at h
    · split at h
      · split at h
        · split at h
          · exact ih h
          · cases h; exact .inr rfl
        · cases h; exact .inl rfl
      · cases h; exact .inr rfl
    · cases h; exact .inl rfl

theorem CkV.set {b2 b3 : Nat} {o : List UInt8} {G : List E3} {qu qv qm : Option Addr} {w : World} (h : CkV b2 b3 o G qu qv qm w) {b k : Nat} {c : Array Value} {z : Nat × Nat} (hb : w.heap[b]? = some (.cells c 29 z)) (v : Value) :
    CkV b2 b3 o G qu qv qm (w.setCell ⟨b, k, none⟩ v) := {
  el := h.el.set hb v
  v2 := (RowKit.Below.heap_setCell _ _ _ _ (type_ne h.v2 hb (by decide))).trans h.v2
  v3 := (RowKit.Below.heap_setCell _ _ _ _ (type_ne h.v3 hb (by decide))).trans h.v3 }

/-- how Check ends -/
def CkQ (l : List UInt8) (S : List Stp) (W : World) (e : Ending) (W' : World) : Prop :=
  Hid (Below W.heap.size W W') ∧ ((isWordL l = false ∧ e = .returned (.tuple #[.int .i64 0, .agg #[.pointer none, .pointer none, .pointer none], .int .i64 2])) ∨
    (∃ n, isWordL l = true ∧ checkE l S = .error n ∧ e = .returned (.tuple #[.int .i64 0, .agg #[.pointer none, .pointer none, .pointer none], .int .i64 n])) ∨
    (isWordL l = true ∧ ∃ o G, checkE l S = .ok (o, G) ∧ ∃ qu qv qm, e = .returned (.tuple #[.int .i64 o.length, .agg #[.pointer qu, .pointer qv, .pointer qm], .int .i64 0]) ∧ Hid (IsE W' (.agg #[.pointer qu, .pointer qv, .pointer qm]) (endE o G))))

set_option maxHeartbeats 8000000 in
set_option maxRecDepth 100000 in
theorem Check_any {W : World} {s : ByteArray} (hs : s.size ≤ 9223372036854775807) {v : Value} {S : List Stp} (hv : SRd W v S) (hSl : S.length ≤ 1000000000) : Calls Tryz.prog 33 #[.string s, v] W (CkQ s.data.toList S W) := by
  have HV := Lib.hid hv
  obtain ⟨sa, sc, rfl, -⟩ := hv
  obtain ⟨n, hn⟩ : ∃ n, n = S.length := ⟨_, rfl⟩
  rw [← hn] at hSl HV
  have HN := Lib.hid hn
  rw [show (Value.slice sa S.length sc) = .slice sa n sc by rw [hn]]
  clear hn
  obtain ⟨W4, hW4⟩ : ∃ W4, W4 = (((W.alloc (.cells #[.string s] 9)).alloc (.cells #[.slice sa n sc] 23)).alloc (.cells #[.int .i64 0] 3)).alloc (.cells #[.pointer none, .pointer none, .pointer none] 28) := ⟨_, rfl⟩
  have HW4 := Lib.hid hW4
  have HB4 : Hid (Below W.heap.size W W4) := by show Below _ _ _; rw [hW4]; exact ((((Below.refl _ _).alloc (Nat.le_refl _) _).alloc (by simp) _).alloc (by simp; omega) _).alloc (by simp; omega) _
  have HH : Hid (Has W4 [(W.heap.size, #[.string s], 9), (W.heap.size + 1, #[.slice sa n sc], 23), (W.heap.size + 1 + 1, #[.int .i64 0], 3), (W.heap.size + 1 + 1 + 1, #[.pointer none, .pointer none, .pointer none], 28)]) := by
    show Has _ _
    have h := ((((Has.nil W).add #[.string s] 9).add #[.slice sa n sc] 23).add #[.int .i64 0] 3).add #[.pointer none, .pointer none, .pointer none] 28
    rw [size_alloc, size_alloc, size_alloc] at h
    rw [hW4]; exact fun p hp => h p (by simp at hp ⊢; rcases hp with rfl | rfl | rfl | rfl <;> simp)
  have hz4 : Hid (W4.heap.size = W.heap.size + 4) := by show _ = _; rw [hW4]; simp
  clear hW4
  have hIw := isWord_calls s W4 hs
  by_cases hw : isWordL s.data.toList = true
  · rw [hw] at hIw
    have HWd := Lib.hid hw
    have hsz := isWordL_size hw
    clear hw
    go_enter Tryz.func33, Tryz.ntmps33
    go_wp2_with fail
    rw [show (((W.alloc (.cells #[.string s] 9)).alloc (.cells #[.slice sa n sc] 23)).alloc (.cells #[.int .i64 0] 3)).alloc (.cells #[.pointer none, .pointer none, .pointer none] 28) = W4 from HW4.out.symm]
    refine hIw.mono ?_
    rintro e w1 ⟨rfl, hb1⟩
    have HB1 := Lib.hid (Below.trans' HB4.out hb1.out)
    have HH1 := Lib.hid (HH.out.below hb1.out)
    have hz1 : W.heap.size + 4 ≤ w1.heap.size := by have := hb1.out.size; have := hz4.out; omega
    clear hIw hb1
    have HB3 : Hid (Below w1.heap.size w1 (w1.alloc (.cells #[.int .i64 0] 29))) := (Below.refl _ _).alloc (Nat.le_refl _) _
    have HH3 := Lib.hid (HH1.out.below HB3.out)
    have hC := check1_any (W := w1.alloc (.cells #[.int .i64 0] 29)) (s := s) (by omega) (HV.out.below (Below.trans' HB1.out HB3.out)) (by rw [← HN.out]; exact hSl) HH3
    have hG := guarded_any (W := w1) (R := fun k W1 => Below W.heap.size W W1 ∧ ((k = 0 ∧ ∃ o G qu qv qm, checkE s.data.toList S = .ok (o, G) ∧ CkV (W.heap.size + 1 + 1) (W.heap.size + 1 + 1 + 1) o G qu qv qm W1) ∨ (checkE s.data.toList S = .error k ∧ Has W1 [(W.heap.size + 1 + 1, #[.int .i64 0], 3), (W.heap.size + 1 + 1 + 1, #[.pointer none, .pointer none, .pointer none], 28)]))) eg65 (hC.mono fun e w h => by
      rcases h with ⟨o, G, hr, rfl, qu, qv, qm, hv, hf⟩ | ⟨k, hr, rfl, hb⟩
      · refine ⟨.inl ⟨rfl, ?_, .inl ⟨rfl, o, G, qu, qv, qm, hr, hv.out⟩⟩, ?_⟩
        · exact below_fr (below_fr HB1.out (Nat.le_refl _) (F := []) (by simp) (Fr.of_below HB3.out)) (Nat.le_refl _) (by intro b hb; simp at hb; omega) hf.out
        · exact (hf.out.block _ (by simp) (by simp; omega)).trans (heap_last w1 _)
      · refine ⟨.inr ⟨k, rfl, ?_, .inr ⟨hr, ?_⟩⟩, ?_⟩
        · exact Below.trans' HB1.out (Below.trans' HB3.out hb.out)
        · exact fun p hp => (HH3.out.below hb.out) p (by simp at hp ⊢; rcases hp with rfl | rfl <;> simp)
        · exact Below.here hb.out (heap_last w1 _))
    clear hC
    go_wp2_with fail
    refine hG.mono ?_
    rintro e w ⟨k, W1, rfl, hR, h29, he⟩
    obtain ⟨hbl, hcase⟩ := hR.out
    have HBw : Hid (Below W.heap.size W w) := by show Below _ _ _; rw [he]; exact hbl.setCell (by show W.heap.size ≤ w1.heap.size; omega) _
    rcases hcase with ⟨rfl, o, G, qu, qv, qm, hr, hv⟩ | ⟨hr, hv⟩
    · have HV' : Hid (CkV (W.heap.size + 1 + 1) (W.heap.size + 1 + 1 + 1) o G qu qv qm w) := by show CkV _ _ _ _ _ _ _ _; rw [he]; exact hv.set h29.out _
      have HRr : Hid (checkE s.data.toList S = .ok (o, G)) := hr
      have v2 := cell_of HV'.out.v2 0
      have v30 := cell_of HV'.out.v3 0
      have v31 := cell_of HV'.out.v3 1
      have v32 := cell_of HV'.out.v3 2
      have f2 := free_of HV'.out.v2 0
      have f30 := free_of HV'.out.v3 0
      have f31 := free_of HV'.out.v3 1
      have f32 := free_of HV'.out.v3 2
      have e2 : w.setCell ⟨W.heap.size + 1 + 1, 0, none⟩ (.int .i64 o.length) = w := setCell_self v2
      have e30 : w.setCell ⟨W.heap.size + 1 + 1 + 1, 0, none⟩ (.pointer qu) = w := setCell_self v30
      have e31 : w.setCell ⟨W.heap.size + 1 + 1 + 1, 1, none⟩ (.pointer qv) = w := setCell_self v31
      have e32 : w.setCell ⟨W.heap.size + 1 + 1 + 1, 2, none⟩ (.pointer qm) = w := setCell_self v32
      clear hr hv he hR h29 hG hbl
      go_wp2_with fail
      go_region_law (fail)
      all_goals
        try simp only [e2, e30, e31, e32]
        go_wp2_with fail
        refine bodyPost_ret (v := .tuple #[.int .i64 o.length, .agg #[.pointer qu, .pointer qv, .pointer qm], .int .i64 0]) (by simp [results, Tryz.results33, go_sem, v2, v30, v31, v32]) rfl ?_
        exact ⟨HBw.out.drew, .inr (.inr ⟨HWd.out, o, G, HRr.out, qu, qv, qm, rfl, HV'.out.el.below (Below.refl _ _).drew⟩)⟩
    · have HRr : Hid (checkE s.data.toList S = .error k) := hr
      have hk : decide (k = 0) = false := by rcases chkE_err hr with rfl | rfl <;> rfl
      have hk1 : k ≠ 0 := by simpa using hk
      have HHw : Hid (Has w [(W.heap.size + 1 + 1, #[.int .i64 0], 3), (W.heap.size + 1 + 1 + 1, #[.pointer none, .pointer none, .pointer none], 28)]) := by
        show Has _ _; rw [he]
        intro p hp
        refine (RowKit.Below.heap_setCell _ _ _ _ ?_).trans (hv p hp)
        simp at hp
        rcases hp with rfl | rfl
        · exact type_ne (hv (W.heap.size + 1 + 1, #[.int .i64 0], 3) (by simp)) h29.out (by dsimp only; decide)
        · exact type_ne (hv (W.heap.size + 1 + 1 + 1, #[.pointer none, .pointer none, .pointer none], 28) (by simp)) h29.out (by dsimp only; decide)
      have y2 := HHw.out (W.heap.size + 1 + 1, #[.int .i64 0], 3) (by simp)
      have y3 := HHw.out (W.heap.size + 1 + 1 + 1, #[.pointer none, .pointer none, .pointer none], 28) (by simp)
      dsimp only at y2 y3
      have v2 := cell_of y2 0
      have v30 := cell_of y3 0
      have v31 := cell_of y3 1
      have v32 := cell_of y3 2
      have f2 := free_of y2 0
      have f30 := free_of y3 0
      have f31 := free_of y3 1
      have f32 := free_of y3 2
      clear hr hv he hR h29 hG hbl y2 y3
      go_wp2_with fail
      refine bodyPost_ret (v := .tuple #[.int .i64 0, .agg #[.pointer none, .pointer none, .pointer none], .int .i64 k]) (by simp [results, Tryz.results33, go_sem, v2, v30, v31, v32]) rfl ?_
      refine ⟨?_, .inr (.inl ⟨k, HWd.out, HRr.out, rfl⟩)⟩
      exact (((HBw.out.setCell (by show W.heap.size ≤ W.heap.size + 1 + 1; omega) _).setCell (by show W.heap.size ≤ W.heap.size + 1 + 1 + 1; omega) _).setCell (by show W.heap.size ≤ W.heap.size + 1 + 1 + 1; omega) _).setCell (by show W.heap.size ≤ W.heap.size + 1 + 1 + 1; omega) _
  · have hwf : isWordL s.data.toList = false := by simpa using hw
    rw [hwf] at hIw
    have HWd := Lib.hid hwf
    clear hw hwf
    go_enter Tryz.func33, Tryz.ntmps33
    go_wp2_with fail
    rw [show (((W.alloc (.cells #[.string s] 9)).alloc (.cells #[.slice sa n sc] 23)).alloc (.cells #[.int .i64 0] 3)).alloc (.cells #[.pointer none, .pointer none, .pointer none] 28) = W4 from HW4.out.symm]
    refine hIw.mono ?_
    rintro e w ⟨rfl, hb1⟩
    have HBw := Lib.hid (Below.trans' HB4.out hb1.out)
    have HHw := Lib.hid (HH.out.below hb1.out)
    have y2 := HHw.out (W.heap.size + 1 + 1, #[.int .i64 0], 3) (by simp)
    have y3 := HHw.out (W.heap.size + 1 + 1 + 1, #[.pointer none, .pointer none, .pointer none], 28) (by simp)
    dsimp only at y2 y3
    have v2 := cell_of y2 0
    have v30 := cell_of y3 0
    have v31 := cell_of y3 1
    have v32 := cell_of y3 2
    have f2 := free_of y2 0
    have f30 := free_of y3 0
    have f31 := free_of y3 1
    have f32 := free_of y3 2
    clear hIw hb1 y2 y3
    go_wp2_with fail
    refine bodyPost_ret (v := .tuple #[.int .i64 0, .agg #[.pointer none, .pointer none, .pointer none], .int .i64 2]) (by simp [results, Tryz.results33, go_sem, v2, v30, v31, v32]) rfl ?_
    refine ⟨?_, .inl ⟨HWd.out, rfl⟩⟩
    exact (((HBw.out.setCell (by show W.heap.size ≤ W.heap.size + 1 + 1; omega) _).setCell (by show W.heap.size ≤ W.heap.size + 1 + 1 + 1; omega) _).setCell (by show W.heap.size ≤ W.heap.size + 1 + 1 + 1; omega) _).setCell (by show W.heap.size ≤ W.heap.size + 1 + 1 + 1; omega) _
end Sr
/- slices.Reverse of bytes. -/
namespace Sr
open Go Go.Proofs Go.RowKit Go.Maps Go.WideMaps

abbrev bcl (l : List UInt8) : List Value := l.map fun b => Value.int .u8 (b.toNat : Nat)
theorem bcl_get {l : List UInt8} {i : Nat} {b : UInt8} (h : l[i]? = some b) : (bcl l)[i]? = some (.int .u8 (b.toNat : Nat)) := by
  rw [List.getElem?_map, h]; rfl
/-- bytes in a block of which only what lies behind them is frozen -/
def BFr (w : World) (g n nf : Nat) (l : List UInt8) : Prop := l.length = n ∧ n ≤ nf ∧ ∃ cur, w.heap[g]? = some (.cells cur 5 (nf, nf + 1)) ∧ n ≤ cur.size ∧ cur.toList.take n = bcl l
theorem BFr.cell {w : World} {g n nf : Nat} {l : List UInt8} (h : BFr w g n nf l) {i : Nat} {b : UInt8} (hb : l[i]? = some b) : w.cell? ⟨g, i, none⟩ = some (.int .u8 (b.toNat : Nat)) ∧ w.frozen? ⟨g, i, none⟩ = false := by
  obtain ⟨h1, h2, cur, h3, h4, h5⟩ := h
  have hi : i < l.length := (List.getElem?_eq_some_iff.1 hb).1
  have e := bcl_get hb
  rw [← h5, List.getElem?_take_of_lt (by omega), Array.getElem?_toList] at e
  refine ⟨by simp [World.cell?, h3, e], ?_⟩
  simp [World.frozen?, h3]
  omega
theorem BFr.set {w : World} {g n nf i : Nat} {l : List UInt8} (t : UInt8) (h : BFr w g n nf l) : BFr (w.setCell ⟨g, i, none⟩ (.int .u8 (t.toNat : Nat))) g n nf (l.set i t) := by
  obtain ⟨h1, h2, cur, h3, h4, h5⟩ := h
  have k1 : (w.setCell ⟨g, i, none⟩ (.int .u8 (t.toNat : Nat))).heap[g]? = some (.cells (cur.setIfInBounds i (.int .u8 (t.toNat : Nat))) 5 (nf, nf + 1)) := by
    obtain ⟨hlt, he⟩ := Array.getElem?_eq_some_iff.1 h3
    unfold World.setCell
    simp only [Option.isSome_none, Bool.false_eq_true, if_false]
    show (w.heap.modify g _)[g]? = _
    rw [Array.getElem?_eq_getElem (by simpa using hlt), Array.getElem_modify, if_pos rfl, he]
  refine ⟨by simpa using h1, h2, _, k1, by simpa using h4, ?_⟩
  rw [Array.toList_setIfInBounds, List.take_set, h5]
  show _ = List.map _ (l.set i t)
  rw [List.map_set]
theorem BFr.drew {w : World} {g n nf : Nat} {l : List UInt8} (h : BFr w g n nf l) : BFr w.drew g n nf l := h

set_option maxHeartbeats 4000000 in
set_option maxRecDepth 100000 in
theorem reverseB_calls {W : World} {g ca nf : Nat} {l : List UInt8} (hl : BFr W g l.length nf l) (hlen : l.length ≤ 1000000000000) :
    Calls Tryz.prog 57 #[.slice (some ⟨g, 0, none⟩) l.length ca] W fun e W' => e = .returned (.tuple #[]) ∧ Hid (BFr W' g l.length nf l.reverse) ∧ Hid (W.grownBy W' (some g)) := by
  have Hl : Hid (BFr W g l.length nf l) := hl
  clear hl
  have hw1 : IntKind.i64.wrap ((l.length : Int) - 1) = (l.length : Int) - 1 := IntWalk.i64_in _ (by omega)
  go_enter Tryz.func57, Tryz.ntmps57
  go_wp2_with fail
  go_loopg [2, 3] (l.length) (fun g1 vi vj wr => ∃ (k : Nat) (z : Int) (lk : List UInt8), vi = .int .i64 k ∧ vj = .int .i64 z ∧ z + k + 1 ≤ l.length ∧ l.length ≤ z + k + 1 ∧ (k : Int) ≤ z + 1 ∧ l.length - k ≤ g1 ∧ Hid (BFr wr g l.length nf lk) ∧ Hid (lk.length = l.length) ∧ Hid (W.grownBy wr (some g)) ∧
    Hid (∀ i, i < l.length → lk[i]? = if i < k ∨ l.length ≤ i + k then l[l.length - 1 - i]? else l[i]?))
  case atStart => exact ⟨0, (l.length : Int) - 1, l, rfl, rfl, by omega, by omega, by omega, by omega, Hl, rfl, World.grownBy.refl _ _, fun i hi => by show _ = _; rw [if_neg (by omega)]⟩
  case round =>
    obtain ⟨k, z, lk, rfl, rfl, hz1, hz2, hkz, hg, HT, HLn, HG, HE⟩ := hrel
    by_cases hk : (k : Int) < z
    · obtain ⟨j, rfl⟩ : ∃ j : Nat, z = j := ⟨z.toNat, by omega⟩
      have hj1 : (j : Int) < (l.length : Int) := by omega
      have hk1 : (k : Int) < (l.length : Int) := by omega
      have hj0 : (0 : Int) ≤ (j : Int) := by omega
      have hk0 : (0 : Int) ≤ (k : Int) := by omega
      · have hT := HT.out
        obtain ⟨tk, htk⟩ : ∃ t, lk[k]? = some t := ⟨_, List.getElem?_eq_getElem (by have := HLn.out; omega)⟩
        obtain ⟨tj, htj⟩ : ∃ t, lk[j]? = some t := ⟨_, List.getElem?_eq_getElem (by have := HLn.out; omega)⟩
        have hLn := HLn.out
        obtain ⟨e0, f0⟩ := HT.out.cell htk
        obtain ⟨d0, f2⟩ := HT.out.cell htj
        have n1 : k ≠ j := by omega
        have n5 : j ≠ k := by omega
        clear hT
        go_wp2_with fail
        go_region
        go_wp2_with fail
        go_roundg (l.length - (k + 1))
        case measure => omega
        case rel =>
          refine ⟨k + 1, (j : Int) - 1, (lk.set k tj).set j tk, by go_num, rfl, by omega, by omega, by omega, Nat.le_refl _, BFr.drew ((HT.out.set tj).set tk), ?_, ?_, ?_⟩
          · show _ = _; simpa using hLn
          · exact grown_drew (grown_set (g := g) _ (grown_set (g := g) _ HG.out rfl) rfl)
          · intro i hi
            have hk' := HE.out k (by omega)
            have hj' := HE.out j (by omega)
            rw [htk, if_neg (by omega)] at hk'
            rw [htj, if_neg (by omega)] at hj'
            by_cases ij : i = j
            · subst ij
              rw [List.getElem?_set_self (by simp; omega), if_pos (by omega), hk']
              congr 1; omega
            · rw [List.getElem?_set_ne (Ne.symm ij)]
              by_cases ik : i = k
              · subst ik
                rw [List.getElem?_set_self (by omega), if_pos (by omega), hj']
                congr 1; omega
              · rw [List.getElem?_set_ne (Ne.symm ik), HE.out i hi]
                by_cases hc : i < k ∨ l.length ≤ i + k
                · rw [if_pos hc, if_pos (by omega)]
                · rw [if_neg hc, if_neg (by omega)]
    · go_wp2_with fail
      go_end0
      refine ⟨rfl, ?_, HG⟩
      have e : lk = l.reverse := by
        refine List.ext_getElem? fun i => ?_
        by_cases hi : i < l.length
        · rw [HE.out i hi, List.getElem?_reverse hi]
          split
          · rfl
          · congr 1; omega
        · rw [List.getElem?_eq_none (by have := HLn.out; omega), List.getElem?_eq_none (by simp; omega)]
      have := HT.out
      rw [e] at this
      exact this
end Sr
/- Baumslag's group acts on normal forms: what is left of a word hangs on its element alone (Britton's lemma). Plain part. -/
namespace Sr

abbrev El := Rat × Int
def one : El := (0, 0)
def emul (a b : El) : El := (a.1 + tp a.2 * b.1, a.2 + b.2)
theorem emul_assoc (a b c : El) : emul (emul a b) c = emul a (emul b c) := by
  unfold emul; refine Prod.ext ?_ (by dsimp only; omega)
  dsimp only; rw [tp_add]; grind
theorem one_emul (a : El) : emul one a = a := by
  unfold emul one; refine Prod.ext ?_ (by dsimp only; omega)
  dsimp only; rw [tp_zero]; grind

abbrev Nf := El × List (Bool × El)
def mulS (g : El) (S : Nf) : Nf := (emul g S.1, S.2)
theorem mulS_mulS (a b : El) (S : Nf) : mulS a (mulS b S) = mulS (emul a b) S := by unfold mulS; rw [emul_assoc]
theorem one_mulS (S : Nf) : mulS one S = S := by unfold mulS; rw [one_emul]

/-- what a letter b (true) or B makes of the part that it can carry over, and the rest -/
def car : Bool → El → El
  | true, g => (0, g.1.floor)
  | false, g => ((g.2 : Rat), 0)
def rst : Bool → El → El
  | true, g => (g.1 - (g.1.floor : Rat), g.2)
  | false, g => (g.1 * tp (-g.2), 0)
open Classical in
noncomputable def act (up : Bool) (S : Nf) : Nf :=
  match S.2 with
  | [] => (car up S.1, [(up, rst up S.1)])
  | (e, r1) :: L => if rst up S.1 = one ∧ e ≠ up then (emul (car up S.1) r1, L) else (car up S.1, (up, rst up S.1) :: (e, r1) :: L)

def rep : Bool → El → Prop
  | true, r => r.1.floor = 0
  | false, r => r.2 = 0
def Ok : List (Bool × El) → Prop
  | [] => True
  | (e, r) :: L => rep e r ∧ Ok L ∧ ∀ e' r' L', L = (e', r') :: L' → r = one → e' = e

theorem floor_shift (x : Rat) (k : Int) : ((k : Rat) + x).floor = k + x.floor := by
  rw [Rat.add_comm, Rat.floor_add_intCast]; omega
theorem rep_rst (up : Bool) (g : El) : rep up (rst up g) := by
  cases up
  · rfl
  · show (g.1 - (g.1.floor : Rat)).floor = 0
    have e : g.1 - (g.1.floor : Rat) = ((-g.1.floor : Int) : Rat) + g.1 := by rw [Rat.intCast_neg]; grind
    rw [e, floor_shift]; omega

theorem act_ok {up : Bool} {S : Nf} (h : Ok S.2) : Ok (act up S).2 := by
  obtain ⟨g, L⟩ := S
  unfold act
  cases L with
  | nil => exact ⟨rep_rst _ _, trivial, fun _ _ _ h => by cases h⟩
  | cons t L =>
    obtain ⟨e, r1⟩ := t
    dsimp only at h ⊢
    split
    · exact h.2.1
    · rename_i hn
      refine ⟨rep_rst _ _, h, fun e' r' L' hl h1 => ?_⟩
      cases hl
      exact Classical.byContradiction fun hne => hn ⟨h1, hne⟩

/-- what was carried over goes back -/
theorem car_back (up : Bool) (g : El) : emul (car up (car (!up) g)) (rst (!up) g) = g ∧ rst up (car (!up) g) = one := by
  cases up
  · simp only [car, rst, Bool.not_false, emul, one]
    refine ⟨Prod.ext ?_ (by dsimp only; omega), Prod.ext ?_ rfl⟩
    · dsimp only; rw [tp_zero]; grind
    · dsimp only; grind
  · simp only [car, rst, Bool.not_true, emul, one, Rat.floor_intCast]
    refine ⟨Prod.ext ?_ (by dsimp only; omega), Prod.ext ?_ rfl⟩
    · dsimp only
      have := tp_inv g.2
      grind
    · dsimp only; grind
/-- a rest behind what was carried over is found again -/
theorem car_rep (up : Bool) (g r : El) (hr : rep up r) (hg : rst (!up) g = one) : car up (emul (car (!up) g) r) = g ∧ rst up (emul (car (!up) g) r) = r := by
  obtain ⟨a, m⟩ := g
  obtain ⟨x, n⟩ := r
  cases up
  · simp only [car, rst, Bool.not_false, emul, one, Prod.mk.injEq] at hg ⊢
    have hn : n = 0 := hr
    subst hn
    obtain ⟨h1, rfl⟩ := hg
    refine ⟨⟨?_, rfl⟩, ?_, rfl⟩
    · rw [Int.add_zero]; grind
    · rw [Int.add_zero]
      have := tp_inv a.floor
      grind
  · simp only [car, rst, Bool.not_true, emul, one, Prod.mk.injEq] at hg ⊢
    have hx : x.floor = 0 := hr
    have ha : a = 0 := by
      rcases Rat.mul_eq_zero.1 hg.1 with h | h
      · exact h
      · exact absurd h (tp_ne _)
    subst ha
    rw [tp_zero, Rat.one_mul, floor_shift, hx]
    refine ⟨⟨rfl, by omega⟩, ?_, by omega⟩
    rw [Int.add_zero]; grind
theorem act_inv (up : Bool) {S : Nf} (h : Ok S.2) : act up (act (!up) S) = S := by
  obtain ⟨g, L⟩ := S
  obtain ⟨h1, h2⟩ := car_back up g
  have key : ∀ L, act up (car (!up) g, (!up, rst (!up) g) :: L) = (g, L) := fun L => by
    unfold act
    dsimp only
    rw [if_pos ⟨h2, by cases up <;> simp⟩, h1]
  cases L with
  | nil => exact key []
  | cons t L =>
    obtain ⟨e, r1⟩ := t
    by_cases hc : rst (!up) g = one ∧ e ≠ !up
    · have e1 : act (!up) (g, (e, r1) :: L) = (emul (car (!up) g) r1, L) := by
        unfold act; dsimp only; rw [if_pos hc]
      have he : e = up := by have := hc.2; cases e <;> cases up <;> simp_all
      subst he
      obtain ⟨k1, k2⟩ := car_rep e g r1 h.1 hc.1
      rw [e1]
      unfold act
      cases L with
      | nil => dsimp only; rw [k1, k2]
      | cons t L =>
        obtain ⟨e', r'⟩ := t
        dsimp only
        rw [k1, k2, if_neg]
        exact fun ⟨hr, hne⟩ => hne (h.2.2 e' r' L rfl hr)
    · have e1 : act (!up) (g, (e, r1) :: L) = (car (!up) g, (!up, rst (!up) g) :: (e, r1) :: L) := by
        unfold act; dsimp only; rw [if_neg hc]
      rw [e1, key]

/-- the part that goes over: numbers of a for b, of t for B -/
def low : Bool → Int → El
  | true, k => ((k : Rat), 0)
  | false, k => (0, k)
theorem car_low (up : Bool) (k : Int) (g : El) : car up (emul (low up k) g) = emul (low (!up) k) (car up g) ∧ rst up (emul (low up k) g) = rst up g := by
  obtain ⟨a, m⟩ := g
  cases up
  · simp only [car, rst, low, emul, Bool.not_false, Prod.mk.injEq]
    refine ⟨⟨?_, by omega⟩, ?_, trivial⟩
    · rw [tp_zero, Rat.intCast_add]; grind
    · rw [show -(k + m) = -k + -m by omega, tp_add]
      have := tp_inv k
      grind
  · simp only [car, rst, low, emul, Bool.not_true, Prod.mk.injEq]
    rw [tp_zero, Rat.one_mul, floor_shift]
    refine ⟨⟨by grind, rfl⟩, ?_, by omega⟩
    rw [Rat.intCast_add]; grind
theorem act_low (up : Bool) (k : Int) (S : Nf) : act up (mulS (low up k) S) = mulS (low (!up) k) (act up S) := by
  obtain ⟨g, L⟩ := S
  obtain ⟨h1, h2⟩ := car_low up k g
  unfold act mulS
  cases L with
  | nil => dsimp only; rw [h1, h2]
  | cons t L =>
    dsimp only
    rw [h1, h2]
    split
    · rw [emul_assoc]
    · rfl

/-! ### Words -/
def el (x : E3) : El := (tq x, x.m)
theorem el_times (x y : E3) : el (timesE x y) = emul (el x) (el y) := by
  unfold el emul; rw [timesE_tq, timesE_m]
theorem el_zero : el Zero = one := by
  unfold el one tq; simp
theorem el_inj {x y : E3} (hx : Plain x) (hy : Plain y) (h : el x = el y) : x = y :=
  plain_ext hx hy (congrArg Prod.snd h) (congrArg Prod.fst h)

def upc (c : UInt8) : Bool := decide (c = 98)
/-- a reading acts -/
noncomputable def ev : List UInt8 → List E3 → Nf → Nf
  | c :: o, g :: G, S => mulS (el g) (act (upc c) (ev o G S))
  | [], g :: _, S => mulS (el g) S
  | _, [], S => S
theorem ev_ok : ∀ {o : List UInt8} {G : List E3} {S : Nf}, Ok S.2 → Ok (ev o G S).2
  | _ :: _, _ :: _, _, h => act_ok (ev_ok h)
  | [], _ :: _, _, h => h
  | [], [], _, h => h
  | _ :: _, [], _, h => h

/-- letters act -/
noncomputable def actL (c : UInt8) (S : Nf) : Nf := if c = 97 then mulS (1, 0) S else if c = 65 then mulS (-1, 0) S else act (upc c) S
noncomputable def actW (l : List UInt8) (S : Nf) : Nf := l.foldr actL S
theorem actL_ok {c : UInt8} {S : Nf} (h : Ok S.2) : Ok (actL c S).2 := by
  unfold actL; split
  · exact h
  · split
    · exact h
    · exact act_ok h
theorem actW_ok {l : List UInt8} {S : Nf} (h : Ok S.2) : Ok (actW l S).2 := by
  induction l with
  | nil => exact h
  | cons c l ih => exact actL_ok ih
theorem actW_append (l m : List UInt8) (S : Nf) : actW (l ++ m) S = actW l (actW m S) := by unfold actW; rw [List.foldr_append]

theorem ev_last : ∀ {o : List UInt8} {G : List E3} (_ : G.length = o.length + 1) (x : E3) (S : Nf), ev o (G.set (G.length - 1) (timesE (G.getD (G.length - 1) Zero) x)) S = ev o G (mulS (el x) S)
  | [], [g], _, x, S => by
    show mulS (el (timesE g x)) S = mulS (el g) (mulS (el x) S)
    rw [el_times, mulS_mulS]
  | [], [], h, _, _ => by simp at h
  | [], _ :: _ :: _, h, _, _ => by simp at h
  | _ :: _, [], h, _, _ => by simp at h
  | c :: o, [g], h, _, _ => by simp at h
  | c :: o, g :: g' :: G, h, x, S => by
    have ih := ev_last (o := o) (G := g' :: G) (by simpa using h) x S
    simp only [List.length_cons, Nat.add_sub_cancel] at ih ⊢
    show mulS (el g) (act (upc c) (ev o _ S)) = mulS (el g) (act (upc c) (ev o _ _))
    rw [← ih]
    rfl
theorem ev_snoc : ∀ {o : List UInt8} {G : List E3} (_ : G.length = o.length + 1) (c : UInt8) (S : Nf), ev (o ++ [c]) (G ++ [Zero]) S = ev o G (act (upc c) S)
  | [], [g], _, c, S => by
    show mulS (el g) (act (upc c) (mulS (el Zero) S)) = _
    rw [el_zero, one_mulS]; rfl
  | [], [], h, _, _ => by simp at h
  | [], _ :: _ :: _, h, _, _ => by simp at h
  | _ :: _, [], h, _, _ => by simp at h
  | c :: o, g :: G, h, d, S => by
    have ih := ev_snoc (o := o) (G := G) (by simpa using h) d S
    show mulS (el g) (act (upc c) (ev (o ++ [d]) (G ++ [Zero]) S)) = _
    rw [ih]; rfl
theorem el_a : el ⟨1, 0, 0⟩ = (1, 0) ∧ el ⟨-1, 0, 0⟩ = (-1, 0) := by
  unfold el tq; constructor <;> simp [tp_zero]
theorem ev_step {s : List UInt8 × List E3} (h : s.2.length = s.1.length + 1) (c : UInt8) (S : Nf) : ev (rdStep s c).1 (rdStep s c).2 S = ev s.1 s.2 (actL c S) := by
  unfold rdStep actL
  split
  · dsimp only; rw [ev_last h, el_a.1]
  · split
    · dsimp only; rw [ev_last h, el_a.2]
    · exact ev_snoc h c S
/-- what is read acts as the word -/
theorem ev_read (l : List UInt8) (S : Nf) : ev (readE l).1 (readE l).2 S = actW l S := by
  have key : ∀ (l : List UInt8) (s : List UInt8 × List E3), s.2.length = s.1.length + 1 → ev (l.foldl rdStep s).1 (l.foldl rdStep s).2 S = ev s.1 s.2 (actW l S) := by
    intro l
    induction l with
    | nil => intro s _; rfl
    | cons c l ih =>
      intro s h
      rw [List.foldl_cons, ih _ (rdStep_len h), ev_step h]
      rfl
  have h := key l ([], [Zero]) rfl
  unfold readE
  rw [h]
  show mulS (el Zero) _ = _
  rw [el_zero, one_mulS]

/-- outer letters are b and B -/
def Bs (o : List UInt8) : Prop := ∀ c ∈ o, c = 98 ∨ c = 66
theorem pin_low {c : UInt8} {x : E3} (hx : Plain x) (hc : c = 98 ∨ c = 66) (hp : pinB c x = true) : el x = low (upc c) (powE c x) ∧ ∀ d : UInt8, (d = 98 ∨ d = 66) → d ≠ c → el (pinE c (powE c x)) = low (upc d) (powE c x) := by
  rcases hc with rfl | rfl
  · have h : x.m = 0 ∧ (x.u = 0 ∨ 0 ≤ x.v) := by simpa [pinB] using hp
    have hv : 0 ≤ x.v := by
      rcases h.2 with h0 | h0
      · rcases hx with ⟨_, h2⟩ | h2
        · omega
        · omega
      · exact h0
    refine ⟨?_, fun d hd hne => ?_⟩
    · unfold el low powE upc
      rw [if_pos rfl, show decide ((98 : UInt8) = 98) = true from rfl]
      dsimp only
      rw [shx_tp (shOK_nn hv), h.1]
      rfl
    · obtain rfl : d = 66 := hd.resolve_left hne
      unfold pinE el low upc
      rw [if_neg (by decide), show decide ((66 : UInt8) = 98) = false from rfl]
      simp [tq]
  · have h : x.u = 0 := by simpa [pinB] using hp
    refine ⟨?_, fun d hd hne => ?_⟩
    · unfold el low powE upc tq
      rw [if_neg (by decide), show decide ((66 : UInt8) = 98) = false from rfl, h]
      simp
    · obtain rfl : d = 98 := hd.resolve_right hne
      unfold pinE el low upc
      rw [if_pos rfl, show decide ((98 : UInt8) = 98) = true from rfl, plainE_tq, plainE_m, tp_zero]
      simp

theorem plain_zero : Plain Zero := .inl ⟨rfl, rfl⟩
theorem getD_cons_succ {α : Type} (a : α) (l : List α) (i : Nat) (d : α) : (a :: l).getD (i + 1) d = l.getD i d := by simp [List.getD]
/-- a pinch changes nothing -/
theorem ev_pin : ∀ {i : Nat} {o : List UInt8} {G : List E3} {S : Nf}, G.length = o.length + 1 → Bs o → (∀ x ∈ G, Plain x) → Ok S.2 → i + 1 < o.length → pinAt o G i = true → ev (pinO o i) (pinG o G i) S = ev o G S
  | 0, c :: d :: o, x0 :: x1 :: x2 :: G, S, hl, hb, hg, hS, hi, hp => by
    have hp' : c ≠ d ∧ pinB c x1 = true := by simpa [pinAt, List.getD] using hp
    have hc := hb c (by simp)
    have hd := hb d (by simp)
    obtain ⟨h1, h2⟩ := pin_low (x := x1) (hg x1 (by simp)) hc hp'.2
    have h3 := h2 d hd (Ne.symm hp'.1)
    have hud : upc c = !(upc d) := by
      rcases hc with rfl | rfl <;> rcases hd with rfl | rfl <;> first | rfl | exact absurd rfl hp'.1
    have hT : ∀ (T : Nf), Ok T.2 → act (upc c) (mulS (el x1) (act (upc d) T)) = mulS (el (pinE c (powE c x1))) T := fun T hT => by
      have h4 : low (!(upc c)) (powE c x1) = low (upc d) (powE c x1) := by rw [hud]; cases upc d <;> rfl
      rw [h1, act_low, h4, h3]
      congr 1
      rw [hud]
      have := act_inv (!(upc d)) (S := T) hT
      rwa [Bool.not_not] at this
    have eG : pinG (c :: d :: o) (x0 :: x1 :: x2 :: G) 0 = timesE (timesE x0 (pinE c (powE c x1))) x2 :: G := by
      simp [pinG, pinK, pinX, List.getD]
    have eO : pinO (c :: d :: o) 0 = o := by simp [pinO]
    rw [eG, eO]
    have fin : ∀ (T : Nf), Ok T.2 → mulS (el (timesE (timesE x0 (pinE c (powE c x1))) x2)) T = mulS (el x0) (act (upc c) (mulS (el x1) (act (upc d) (mulS (el x2) T)))) := fun T hT' => by
      rw [hT (mulS (el x2) T) hT', mulS_mulS, mulS_mulS, el_times, el_times, emul_assoc]
    cases o with
    | nil =>
      cases G with
      | nil => exact fin S hS
      | cons y G => simp at hl
    | cons a o =>
      cases G with
      | nil => simp at hl
      | cons y G => exact fin (act (upc a) (ev o (y :: G) S)) (act_ok (ev_ok hS))
  | 0, _ :: _ :: _, [], _, hl, _, _, _, _, _ => by simp at hl
  | 0, _ :: _ :: _, [_], _, hl, _, _, _, _, _ => by simp at hl
  | 0, _ :: _ :: _, [_, _], _, hl, _, _, _, _, _ => by simp at hl
  | 0, [], _, _, _, _, _, _, hi, _ => by simp at hi
  | 0, [_], _, _, _, _, _, _, hi, _ => by simp at hi
  | i + 1, [], _, _, _, _, _, _, hi, _ => by simp at hi
  | i + 1, _ :: _, [], _, hl, _, _, _, _, _ => by simp at hl
  | i + 1, c :: o, x :: G, S, hl, hb, hg, hS, hi, hp => by
    have hl' : G.length = o.length + 1 := by simpa using hl
    have hi' : i + 1 < o.length := by simpa using hi
    have hp' : pinAt o G i = true := hp
    have ih := ev_pin (S := S) hl' (fun a ha => hb a (by simp [ha])) (fun a ha => hg a (by simp [ha])) hS hi' hp'
    have eO : pinO (c :: o) (i + 1) = c :: pinO o i := by simp [pinO]
    have eK : pinK (c :: o) (x :: G) (i + 1) = pinK o G i := by simp [pinK, List.getD]
    have eG : pinG (c :: o) (x :: G) (i + 1) = x :: pinG o G i := by
      unfold pinG; rw [eK]
      simp [List.getD]
    rw [eO, eG]
    show mulS (el x) (act (upc c) (ev (pinO o i) (pinG o G i) S)) = mulS (el x) (act (upc c) (ev o G S))
    rw [ih]

/-! ### What is reduced -/
abbrev base : Nf := (one, [])
theorem car_is (up : Bool) (g : El) : ∃ k, car up g = low (!up) k := by cases up <;> exact ⟨_, rfl⟩
theorem odd_int {u v n : Int} (hu : u % 2 = 1) (h : (u : Rat) * tp v = (n : Rat)) : 0 ≤ v := by
  rcases Int.lt_or_le v 0 with hv | hv
  · obtain ⟨k, rfl⟩ : ∃ k : Nat, v = -((k + 1 : Nat) : Int) := ⟨(-v).toNat - 1, by omega⟩
    have h1 := congrArg (· * tp ((k + 1 : Nat) : Int)) h
    have h2 : tp (-((k + 1 : Nat) : Int)) * tp ((k + 1 : Nat) : Int) = 1 := by rw [← tp_add, Int.add_left_neg, tp_zero]
    simp only [Rat.mul_assoc, h2, Rat.mul_one] at h1
    rw [tp_nat, ← Rat.intCast_mul] at h1
    have h3 := Rat.intCast_inj.1 h1
    rw [Int.pow_succ, ← Int.mul_assoc] at h3
    omega
  · exact hv
theorem rst_pin {c : UInt8} {x : E3} (hx : Plain x) (hc : c = 98 ∨ c = 66) {k : Int} (h : rst (upc c) (emul (el x) (low (upc c) k)) = one) : pinB c x = true := by
  rcases hc with rfl | rfl
  · have hu : upc 98 = true := rfl
    rw [hu] at h
    simp only [rst, emul, el, low, one, Prod.mk.injEq] at h
    have hm : x.m = 0 := by omega
    rw [hm, tp_zero] at h
    have h1 : tq x = ((((tq x + 1 * (k : Rat)).floor - k : Int)) : Rat) := by rw [Rat.intCast_sub]; grind
    unfold pinB
    rw [if_pos rfl]
    simp only [decide_eq_true_eq]
    refine ⟨hm, ?_⟩
    rcases hx with ⟨h0, _⟩ | h0
    · exact .inl h0
    · exact .inr (odd_int h0 h1)
  · have hu : upc 66 = false := rfl
    rw [hu] at h
    simp only [rst, emul, el, low, one, Prod.mk.injEq] at h
    have h1 : tq x = 0 := by
      rcases Rat.mul_eq_zero.1 h.1 with h | h
      · grind
      · exact absurd h (tp_ne _)
    have h2 : x.u = 0 := by
      unfold tq at h1
      rcases Rat.mul_eq_zero.1 h1 with h | h
      · exact Rat.intCast_eq_zero_iff.1 h
      · exact absurd h (tp_ne _)
    unfold pinB
    rw [if_neg (by decide)]
    simpa using h2
theorem ev_red : ∀ {o : List UInt8} {G : List E3}, G.length = o.length + 1 → Bs o → (∀ x ∈ G, Plain x) → (∀ i, i + 1 < o.length → pinAt o G i = false) →
    (ev o G base).2.length = o.length ∧ ∀ c o', o = c :: o' → ∃ k r L, ev o G base = (emul (el (G.getD 0 Zero)) (low (!(upc c)) k), (upc c, r) :: L)
  | [], [g], _, _, _, _ => ⟨rfl, fun _ _ h => by cases h⟩
  | [], [], hl, _, _, _ => by simp at hl
  | [], _ :: _ :: _, hl, _, _, _ => by simp at hl
  | _ :: _, [], hl, _, _, _ => by simp at hl
  | c :: o, x :: G, hl, hb, hg, hn => by
    have hl' : G.length = o.length + 1 := by simpa using hl
    obtain ⟨h1, h2⟩ := ev_red (o := o) (G := G) hl' (fun a ha => hb a (by simp [ha])) (fun a ha => hg a (by simp [ha])) (fun i hi => by
      exact hn (i + 1) (by simp; omega))
    have e : ev (c :: o) (x :: G) base = mulS (el x) (act (upc c) (ev o G base)) := rfl
    have key : ∃ k r, act (upc c) (ev o G base) = (low (!(upc c)) k, (upc c, r) :: (ev o G base).2) := by
      obtain ⟨k, hk⟩ := car_is (upc c) (ev o G base).1
      refine ⟨k, rst (upc c) (ev o G base).1, ?_⟩
      rw [← hk]
      unfold act
      cases o with
      | nil =>
        have : (ev [] G base).2 = [] := List.length_eq_zero_iff.1 h1
        rw [this]
      | cons d o =>
        obtain ⟨k', r, L, hT⟩ := h2 d o rfl
        rw [hT]
        dsimp only
        rw [if_neg]
        rintro ⟨hr, hne⟩
        have hud : upc c = !(upc d) := by cases h : upc c <;> cases h' : upc d <;> simp_all
        rw [← hud] at hr
        obtain ⟨y, G', rfl⟩ : ∃ y G', G = y :: G' := by
          cases G with
          | nil => simp at hl'
          | cons y G' => exact ⟨y, G', rfl⟩
        have hp := rst_pin (x := y) (hg y (by simp)) (hb c (by simp)) hr
        have hq := hn 0 (by simp)
        have hcd : c ≠ d := fun h => hne (by rw [h])
        simp [pinAt, List.getD, hcd, hp] at hq
    obtain ⟨k, r, hk⟩ := key
    rw [e, hk]
    refine ⟨by show (_ :: (ev o G base).2).length = _; simp [h1], fun c' o' h => ?_⟩
    cases h
    exact ⟨k, r, _, rfl⟩
end Sr
/- What a reduction leaves hangs on the element alone. -/
namespace Sr

theorem getD_take_app {α : Type} {l : List α} {i j : Nat} {m : List α} {d : α} (h : j < i) (hi : i ≤ l.length) : (l.take i ++ m).getD j d = l.getD j d := by
  simp only [List.getD_eq_getElem?_getD]
  rw [List.getElem?_append_left (by simp; omega), List.getElem?_take, if_pos h]
theorem pin_left {o : List UInt8} {G : List E3} {i j : Nat} (hl : G.length = o.length + 1) (hi : i + 1 < o.length) (hj : j + 1 < i) : pinAt (pinO o i) (pinG o G i) j = pinAt o G j := by
  unfold pinAt pinO pinG
  rw [getD_take_app (by omega) (by omega), getD_take_app (by omega) (by omega), List.append_assoc, getD_take_app (by omega) (by omega)]

theorem red_all : ∀ (m : Nat) {o : List UInt8} {G : List E3} {i : Nat} {st : List (Nat × Int)} {o' : List UInt8} {G' : List E3}, 2 * o.length - i ≤ m → G.length = o.length + 1 → Bs o → (∀ x ∈ G, Plain x) →
    (∀ j, j < i → j + 1 < o.length → pinAt o G j = false) → redE o G i = some (st, o', G') →
    G'.length = o'.length + 1 ∧ Bs o' ∧ (∀ x ∈ G', Plain x) ∧ (∀ j, j + 1 < o'.length → pinAt o' G' j = false) ∧ ev o' G' base = ev o G base := by
  intro m
  induction m with
  | zero =>
    intro o G i st o' G' hm hl hb hg hn h
    rw [redE_end (by omega)] at h
    cases h
    exact ⟨hl, hb, hg, fun j hj => hn j (by omega) hj, rfl⟩
  | succ m ih =>
    intro o G i st o' G' hm hl hb hg hn h
    by_cases hi : i + 1 < o.length
    · by_cases hp : pinAt o G i = true
      · by_cases ha : pinA o G i
        · rw [redE_yes hi hp ha] at h
          cases hr : redE (pinO o i) (pinG o G i) (i - 1) with
          | none => rw [hr] at h; cases h
          | some r =>
            obtain ⟨st1, o1, G1⟩ := r
            rw [hr] at h
            cases h
            have := pinO_len hi
            obtain ⟨k1, k2, k3, k4, k5⟩ := ih (o := pinO o i) (G := pinG o G i) (i := i - 1) (by omega) (pinG_len hi hl)
              (fun c hc => hb c (by
                unfold pinO at hc
                rcases List.mem_append.1 hc with h | h
                · exact List.mem_of_mem_take h
                · exact List.mem_of_mem_drop h))
              (fun x hx => by
                unfold pinG at hx
                rcases List.mem_append.1 hx with h | h
                · rcases List.mem_append.1 h with h | h
                  · exact hg x (List.mem_of_mem_take h)
                  · rw [List.mem_singleton] at h; subst h; exact timesE_plain _ _
                · exact hg x (List.mem_of_mem_drop h))
              (fun j hj hjl => by
                rw [pin_left hl hi (by omega)]
                exact hn j (by omega) (by omega)) hr
            exact ⟨k1, k2, k3, k4, k5.trans (ev_pin hl hb hg trivial hi hp)⟩
        · rw [redE_full hi hp ha] at h; cases h
      · have hpf : pinAt o G i = false := by simpa using hp
        rw [redE_no hi hpf] at h
        exact ih (by omega) hl hb hg (fun j hj hjl => by
          rcases Nat.lt_or_ge j i with h | h
          · exact hn j h hjl
          · obtain rfl : j = i := by omega
            exact hpf) h
    · rw [redE_end hi] at h
      cases h
      exact ⟨hl, hb, hg, fun j hj => hn j (by omega) hj, rfl⟩

/-- letters -/
def Lt (l : List UInt8) : Prop := ∀ c ∈ l, c = 97 ∨ c = 65 ∨ c = 98 ∨ c = 66
theorem read_bs {l : List UInt8} (h : Lt l) : Bs (readE l).1 ∧ (∀ x ∈ (readE l).2, Plain x) ∧ (readE l).2.length = (readE l).1.length + 1 := by
  have key : ∀ (l : List UInt8) (s : List UInt8 × List E3), Lt l → Bs s.1 → (∀ x ∈ s.2, Plain x) → s.2.length = s.1.length + 1 → Bs (l.foldl rdStep s).1 ∧ (∀ x ∈ (l.foldl rdStep s).2, Plain x) ∧ (l.foldl rdStep s).2.length = (l.foldl rdStep s).1.length + 1 := by
    intro l
    induction l with
    | nil => intro s _ h1 h2 h3; exact ⟨h1, h2, h3⟩
    | cons c l ih =>
      intro s hl h1 h2 h3
      rw [List.foldl_cons]
      refine ih _ (fun d hd => hl d (by simp [hd])) ?_ ?_ (rdStep_len h3)
      · have hc := hl c (by simp)
        unfold rdStep
        split
        · exact h1
        · split
          · exact h1
          · intro d hd
            rcases List.mem_append.1 hd with h | h
            · exact h1 d h
            · rw [List.mem_singleton] at h; subst h
              rename_i a b
              rcases hc with h | h | h | h
              · exact absurd h a
              · exact absurd h b
              · exact .inl h
              · exact .inr h
      · unfold rdStep
        split
        · intro x hx
          rcases List.mem_or_eq_of_mem_set hx with h | h
          · exact h2 x h
          · subst h; exact timesE_plain _ _
        · split
          · intro x hx
            rcases List.mem_or_eq_of_mem_set hx with h | h
            · exact h2 x h
            · subst h; exact timesE_plain _ _
          · intro x hx
            rcases List.mem_append.1 hx with h | h
            · exact h2 x h
            · rw [List.mem_singleton] at h; subst h; exact plain_zero
  exact key l ([], [Zero]) h (fun c hc => by cases hc) (fun x hx => by rw [List.mem_singleton] at hx; subst hx; exact plain_zero) rfl
/-- what Trace leaves of a word: its element's own -/
theorem trace_act {l : List UInt8} (hl : Lt l) {st : List (Nat × Int)} {o : List UInt8} {G : List E3} (h : traceE l = some (st, o, G)) :
    o.length = (actW l base).2.length ∧ (o = [] → actW l base = (el (G.getD 0 Zero), [])) ∧ (unitE o G = true ↔ actW l base = base) ∧ (∀ x ∈ G, Plain x) ∧ G.length = o.length + 1 := by
  obtain ⟨b1, b2, b3⟩ := read_bs hl
  obtain ⟨k1, k2, k3, k4, k5⟩ := red_all _ (Nat.le_refl _) b3 b1 b2 (fun j hj => absurd hj (Nat.not_lt_zero _)) h
  rw [ev_read] at k5
  obtain ⟨e1, e2⟩ := ev_red k1 k2 k3 k4
  rw [k5] at e1 e2
  have hem : ∀ g : E3, emul (el g) one = el g := fun g => by
    unfold emul one el; refine Prod.ext ?_ (by dsimp only; omega)
    dsimp only; grind
  have h3 : o = [] → actW l base = (el (G.getD 0 Zero), []) := fun ho => by
    subst ho
    obtain ⟨g, rfl⟩ : ∃ g, G = [g] := by
      cases G with
      | nil => simp at k1
      | cons g G => cases G with
        | nil => exact ⟨g, rfl⟩
        | cons _ _ => simp at k1
    rw [← k5]
    show (emul (el g) one, ([] : List (Bool × El))) = _
    rw [hem]; rfl
  refine ⟨e1.symm, h3, ?_, k3, k1⟩
  unfold unitE endE
  by_cases ho : o = []
  · rw [h3 ho]
    have hp : Plain (G.getD 0 Zero) := by
      cases G with
      | nil => exact plain_zero
      | cons g G => exact k3 g (by simp)
    simp only [ho, if_true, decide_true, Bool.true_and, decide_eq_true_eq]
    constructor
    · intro h; rw [h, el_zero]
    · intro h
      exact el_inj hp plain_zero ((congrArg Prod.fst h).trans el_zero.symm)
  · simp only [ho, decide_false, Bool.false_and]
    constructor
    · intro h; cases h
    · intro h
      rw [h] at e1
      exact absurd (List.length_eq_zero_iff.1 e1.symm) ho

/-! ### Inverses, and the relator -/
def flip (c : UInt8) : UInt8 := c ^^^ 32
def invL (l : List UInt8) : List UInt8 := l.reverse.map flip
theorem act_a (S : Nf) : mulS (-1, 0) (mulS (1, 0) S) = S ∧ mulS (1, 0) (mulS (-1, 0) S) = S := by
  rw [mulS_mulS, mulS_mulS]
  have e1 : emul (-1, 0) (1, 0) = one := by unfold emul one; refine Prod.ext ?_ rfl; dsimp only; rw [tp_zero]; grind
  have e2 : emul (1, 0) (-1, 0) = one := by unfold emul one; refine Prod.ext ?_ rfl; dsimp only; rw [tp_zero]; grind
  rw [e1, e2, one_mulS]; exact ⟨rfl, rfl⟩
theorem actL_flip {c : UInt8} (hc : c = 97 ∨ c = 65 ∨ c = 98 ∨ c = 66) {S : Nf} (h : Ok S.2) : actL (flip c) (actL c S) = S := by
  rcases hc with rfl | rfl | rfl | rfl
  · exact (act_a S).1
  · exact (act_a S).2
  · exact act_inv false h
  · exact act_inv true h
theorem flip_lt {c : UInt8} (hc : c = 97 ∨ c = 65 ∨ c = 98 ∨ c = 66) : flip c = 97 ∨ flip c = 65 ∨ flip c = 98 ∨ flip c = 66 := by
  rcases hc with rfl | rfl | rfl | rfl <;> decide
theorem flip_flip {c : UInt8} (hc : c = 97 ∨ c = 65 ∨ c = 98 ∨ c = 66) : flip (flip c) = c := by
  rcases hc with rfl | rfl | rfl | rfl <;> decide
theorem invL_lt {l : List UInt8} (h : Lt l) : Lt (invL l) := fun c hc => by
  unfold invL at hc
  obtain ⟨d, hd, rfl⟩ := List.mem_map.1 hc
  exact flip_lt (h d (List.mem_reverse.1 hd))
theorem invL_cons (c : UInt8) (l : List UInt8) : invL (c :: l) = invL l ++ [flip c] := by unfold invL; simp
theorem invL_invL {l : List UInt8} (h : Lt l) : invL (invL l) = l := by
  unfold invL
  rw [← List.map_reverse, List.reverse_reverse, List.map_map]
  conv => rhs; rw [← List.map_id l]
  exact List.map_congr_left fun c hc => flip_flip (h c hc)
theorem actW_inv : ∀ {l : List UInt8}, Lt l → ∀ {S : Nf}, Ok S.2 → actW (invL l) (actW l S) = S
  | [], _, _, _ => rfl
  | c :: l, h, S, hS => by
    rw [invL_cons, actW_append]
    show actW (invL l) (actL (flip c) (actL c (actW l S))) = S
    rw [actL_flip (h c (by simp)) (actW_ok hS)]
    exact actW_inv (fun d hd => h d (by simp [hd])) hS
theorem actW_inv' {l : List UInt8} (h : Lt l) {S : Nf} (hS : Ok S.2) : actW l (actW (invL l) S) = S := by
  have := actW_inv (invL_lt h) hS
  rwa [invL_invL h] at this

def relL : List UInt8 := [98, 97, 66, 97, 98, 65, 66, 65, 65]
theorem relL_lt : Lt relL := by unfold Lt relL; decide
theorem actW_rel {S : Nf} (hS : Ok S.2) : actW relL S = S := by
  have h1 : ∀ T : Nf, Ok T.2 → actL 98 (actL 97 (actL 66 T)) = mulS (0, 1) T := fun T hT => by
    show act true (mulS (1, 0) (act false T)) = _
    have e : ((1, 0) : El) = low true 1 := by unfold low; refine Prod.ext ?_ rfl; simp
    rw [e, act_low, show act true (act false T) = T from act_inv true hT]; rfl
  have h2 : ∀ T : Nf, Ok T.2 → actL 98 (actL 65 (actL 66 T)) = mulS (0, -1) T := fun T hT => by
    show act true (mulS (-1, 0) (act false T)) = _
    have e : ((-1, 0) : El) = low true (-1) := by unfold low; refine Prod.ext ?_ rfl; simp
    rw [e, act_low, show act true (act false T) = T from act_inv true hT]; rfl
  show actL 98 (actL 97 (actL 66 (actL 97 (actL 98 (actL 65 (actL 66 (actL 65 (actL 65 S)))))))) = S
  have e65 : ∀ T, actL 65 T = mulS (-1, 0) T := fun T => rfl
  have e97 : ∀ T, actL 97 T = mulS (1, 0) T := fun T => rfl
  rw [h2 (actL 65 (actL 65 S)) hS, h1 (actL 97 (mulS (0, -1) (actL 65 (actL 65 S)))) hS, e97, e65, e65, mulS_mulS, mulS_mulS, mulS_mulS, mulS_mulS]
  have e : emul (emul (emul (emul (0, 1) (1, 0)) (0, -1)) (-1, 0)) (-1, 0) = one := by
    unfold emul one
    simp only [tp_one, tp_zero, Int.add_zero, show (1 : Int) + -1 = 0 by decide]
    refine Prod.ext ?_ rfl
    dsimp only; grind
  rw [e, one_mulS]
end Sr
/- The plain law of BaumReplays. -/
namespace Sr

noncomputable def stB (t : Nat × Int) : Stp := ((t.1 : Int), nbytes t.2)

theorem pinI_of {o : List UInt8} {G : List E3} {i : Nat} (h : i + 1 < o.length) (hp : pinAt o G i = true) : pinI o G (i : Int) = true := by
  unfold pinI
  rw [show ((i : Int)).toNat = i by omega, hp]
  simp; omega

/-- the steps of the reduction are accepted -/
theorem chk_red : ∀ (m : Nat) {o : List UInt8} {G : List E3} {i : Nat} {st : List (Nat × Int)} {o' : List UInt8} {G' : List E3}, 2 * o.length - i ≤ m → redE o G i = some (st, o', G') → chkE (st.map stB) o G = .ok (o', G') := by
  intro m
  induction m with
  | zero =>
    intro o G i st o' G' hm h
    rw [redE_end (by omega)] at h
    cases h
    rfl
  | succ m ih =>
    intro o G i st o' G' hm h
    by_cases hi : i + 1 < o.length
    · by_cases hp : pinAt o G i = true
      · by_cases ha : pinA o G i
        · rw [redE_yes hi hp ha] at h
          cases hr : redE (pinO o i) (pinG o G i) (i - 1) with
          | none => rw [hr] at h; cases h
          | some r =>
            obtain ⟨st1, o1, G1⟩ := r
            rw [hr] at h
            cases h
            have := pinO_len hi
            rw [List.map_cons, chkE_yes (s := stB (i, pinK o G i)) (pinI_of hi hp) ha.1 rfl ha.2]
            exact ih (by show 2 * (pinO o i).length - (i - 1) ≤ m; omega) hr
        · rw [redE_full hi hp ha] at h; cases h
      · rw [redE_no hi (by simpa using hp)] at h
        exact ih (by omega) h
    · rw [redE_end hi] at h
      cases h
      rfl

theorem chk_append : ∀ {A : List Stp} {B : List Stp} {o : List UInt8} {G : List E3} {o' : List UInt8} {G' : List E3}, chkE (A ++ B) o G = .ok (o', G') → ∃ o1 G1, chkE A o G = .ok (o1, G1) ∧ (∀ C, chkE (A ++ C) o G = chkE C o1 G1) ∧ chkE B o1 G1 = .ok (o', G') := by
  intro A
  induction A with
  | nil => intro B o G o' G' h; exact ⟨o, G, rfl, fun C => rfl, h⟩
  | cons s A ih =>
    intro B o G o' G' h
    rw [List.cons_append] at h
    by_cases h1 : pinI o G s.1 = true
    · by_cases h2 : allowed (pinK o G s.1.toNat)
      · by_cases h3 : nbytes (pinK o G s.1.toNat) = s.2
        · by_cases h4 : pinOK (o.getD s.1.toNat 0) (pinK o G s.1.toNat) (G.getD s.1.toNat Zero) (G.getD (s.1.toNat + 2) Zero)
          · rw [chkE_yes h1 h2 h3 h4] at h
            obtain ⟨o1, G1, k1, k2, k3⟩ := ih h
            exact ⟨o1, G1, by rw [chkE_yes h1 h2 h3 h4]; exact k1, fun C => by rw [List.cons_append, chkE_yes h1 h2 h3 h4]; exact k2 C, k3⟩
          · rw [chkE_made h1 h2 h3 h4] at h; cases h
        · rw [chkE_bytes h1 h2 h3] at h; cases h
      · rw [chkE_full h1 h2] at h; cases h
    · rw [chkE_no (by simpa using h1)] at h; cases h

/-- the three other calls -/
theorem chk_other {S : List Stp} {o : List UInt8} {G : List E3} {o' : List UInt8} {G' : List E3} (h : chkE S o G = .ok (o', G')) {k : Nat} {s : Stp} (hs : S[k]? = some s) :
    (∃ o1 G1, chkE (S.take k) o G = .ok (o1, G1)) ∧ (∀ i, chkE (S.take k ++ [(i, s.2 ++ [0])]) o G = .error 1 ∨ i ≠ s.1) ∧ chkE (S.take k ++ [((-1 : Int), s.2)]) o G = .error 1 := by
  have hk : k < S.length := (List.getElem?_eq_some_iff.1 hs).1
  have e : S = S.take k ++ (s :: S.drop (k + 1)) := by
    conv => lhs; rw [← List.take_append_drop k S]
    rw [List.drop_eq_getElem_cons hk, (List.getElem?_eq_some_iff.1 hs).2]
  rw [e] at h
  obtain ⟨o1, G1, k1, k2, k3⟩ := chk_append h
  refine ⟨⟨o1, G1, k1⟩, fun i => ?_, ?_⟩
  · by_cases hi : i = s.1
    · subst hi
      left
      rw [k2]
      by_cases h1 : pinI o1 G1 s.1 = true
      · by_cases h2 : allowed (pinK o1 G1 s.1.toNat)
        · by_cases h3 : nbytes (pinK o1 G1 s.1.toNat) = s.2
          · refine chkE_bytes h1 h2 ?_
            dsimp only
            rw [h3]
            intro hc
            have := congrArg List.length hc
            simp at this
          · rw [chkE_bytes h1 h2 h3] at k3; cases k3
        · rw [chkE_full h1 h2] at k3; cases k3
      · rw [chkE_no (by simpa using h1)] at k3; cases k3
    · exact .inr hi
  · rw [k2]
    refine chkE_no ?_
    unfold pinI
    simp
end Sr
/- sane. -/
namespace Sr
open Go Go.Proofs Go.RowKit Go.Maps Go.WideMaps

theorem prodE_rel : prodE [2, 0, 3, 1, 1] = Zero := by
  have e : prodE [2, 0, 3, 1, 1] = timesE (timesE (timesE (timesE (timesE Zero ⟨0, 0, 1⟩) ⟨1, 0, 0⟩) ⟨0, 0, -1⟩) ⟨-1, 0, 0⟩) ⟨-1, 0, 0⟩ := rfl
  rw [e]
  refine plain_ext (timesE_plain _ _) (.inl ⟨rfl, rfl⟩) ?_ ?_
  · simp [timesE_m]
  · simp only [timesE_tq, timesE_m]
    simp only [tq, tp_zero, tp_one, Int.zero_add, Int.add_zero]
    simp [tp_zero]
    grind
theorem mul_ex : timesE ⟨1, 0, 0⟩ ⟨0, 0, 1⟩ = ⟨1, 0, 1⟩ := by
  refine plain_ext (timesE_plain _ _) (.inr rfl) ?_ ?_
  · simp [timesE_m]
  · rw [timesE_tq]; simp [tq, tp_zero]
    grind
theorem mul_ok : TimesOK ⟨1, 0, 0⟩ ⟨0, 0, 1⟩ := (lat_times (lat_a 1 (.inl rfl)) (lat_t 1 (.inl rfl)) (by omega)).1
theorem ab_trace : ∃ G, traceE [97, 98] = some ([], [98], G) := by
  have h : (readE [97, 98]).1 = [98] := rfl
  exact ⟨_, by unfold traceE; rw [redE_end (by rw [h]; simp), h]⟩
theorem rel_bytes : (⟨#[98, 97, 66, 97, 98, 65, 66, 65, 65]⟩ : ByteArray).data.toList = wordL [2, 0, 3, 1, 1] := by decide

set_option maxHeartbeats 8000000 in
set_option maxRecDepth 100000 in
theorem sane_calls (W : World) : Calls Tryz.prog 13 #[] W fun e W' => e = .returned (.bool true) ∧ Hid (Below W.heap.size W W') := by
  obtain ⟨st, hin, hst⟩ := inner_law [2, 0, 3, 1, 1] (by decide)
  rw [prodE_rel] at hin
  have HIn : Hid (traceE (⟨#[98, 97, 66, 97, 98, 65, 66, 65, 65]⟩ : ByteArray).data.toList = some (st, [], [Zero])) := by show _ = _; rw [rel_bytes]; exact hin
  have HSt : Hid (st.length = 2) := by show _ = _; rw [hst]; decide
  have HWr : Hid (isWordL (⟨#[98, 97, 66, 97, 98, 65, 66, 65, 65]⟩ : ByteArray).data.toList = true) := by show _ = _; decide
  have HWa : Hid (isWordL (⟨#[97, 98]⟩ : ByteArray).data.toList = true) := by show _ = _; decide
  have HWc : Hid (isWordL (⟨#[97, 98, 99]⟩ : ByteArray).data.toList = false) := by show _ = _; decide
  have hTr := Trace_any (W := W) (s := ⟨#[98, 97, 66, 97, 98, 65, 66, 65, 65]⟩) (by decide)
  clear hin hst
  go_enter Tryz.func13, Tryz.ntmps13
  go_wp2_with fail
  refine hTr.mono ?_
  rintro e w1 ⟨hb1, hcase⟩
  have HB1 := Lib.hid hb1.out
  obtain ⟨sa, sc, qu, qv, qm, he, hie⟩ : ∃ sa sc qu qv qm, e = .returned (.tuple #[.slice sa 2 sc, .int .i64 0, .agg #[.pointer qu, .pointer qv, .pointer qm], .int .i64 0]) ∧ IsE w1 (.agg #[.pointer qu, .pointer qv, .pointer qm]) Zero := by
    rcases hcase with ⟨h, -⟩ | ⟨-, h, -⟩ | ⟨-, st', o, G, h, sa, sn, sc, qu, qv, qm, he, hs, hi⟩
    · rw [HWr.out] at h; cases h
    · rw [HIn.out] at h; cases h
    · rw [HIn.out] at h; cases h
      obtain ⟨vs, k1, k2, k3⟩ := hs.out.row
      obtain ⟨a, c, hsh⟩ := rown_shape k2
      cases hsh
      rw [HSt.out] at he
      exact ⟨_, _, qu, qv, qm, he, hi.out⟩
  subst he
  have HIE := Lib.hid hie
  clear hTr hb1 hcase hie
  have hUn := Unit_any (W := w1.alloc (.cells #[.pointer qu, .pointer qv, .pointer qm] 28)) (s := ⟨#[98, 97, 66, 97, 98, 65, 66, 65, 65]⟩) (by decide)
  have HB2 : Hid (Below W.heap.size W (w1.alloc (.cells #[.pointer qu, .pointer qv, .pointer qm] 28))) := HB1.out.alloc HB1.out.size _
  have HH2 := Lib.hid ((Has.nil w1).add #[.pointer qu, .pointer qv, .pointer qm] 28)
  have HIE2 := Lib.hid (HIE.out.below ((Below.refl _ _).alloc (Nat.le_refl _) (.cells #[.pointer qu, .pointer qv, .pointer qm] 28)))
  go_wp2_with fail
  refine hUn.mono ?_
  rintro e w3 ⟨hb3, hcase⟩
  have he : e = .returned (.tuple #[.bool true, .int .i64 0]) := by
    rcases hcase with ⟨h, -⟩ | ⟨-, ⟨st', o, G, h, he⟩ | ⟨h, -⟩⟩
    · rw [HWr.out] at h; cases h
    · rw [HIn.out] at h; cases h
      exact he
    · rw [HIn.out] at h; cases h
  subst he
  have HB3 := Lib.hid (Below.trans' HB2.out hb3.out)
  have HH3 := Lib.hid (HH2.out.below hb3.out)
  have HIE3 := Lib.hid (HIE2.out.below hb3.out)
  clear hUn hb3 hcase
  have hUa := Unit_any (W := w3) (s := ⟨#[97, 98]⟩) (by decide)
  go_wp2_with fail
  refine hUa.mono ?_
  rintro e w4 ⟨hb4, hcase⟩
  have he : e = .returned (.tuple #[.bool false, .int .i64 0]) := by
    obtain ⟨G', hab⟩ := ab_trace
    rcases hcase with ⟨h, -⟩ | ⟨-, ⟨st', o, G, h, he⟩ | ⟨h, -⟩⟩
    · rw [HWa.out] at h; cases h
    · have h' := h.symm.trans hab
      cases h'
      exact he
    · have h' := h.symm.trans hab
      cases h'
  subst he
  have HB4 := Lib.hid (Below.trans' HB3.out hb4.out)
  have HH4 := Lib.hid (HH3.out.below hb4.out)
  have HIE4 := Lib.hid (HIE3.out.below hb4.out)
  clear hUa hb4 hcase
  have hO1 := Of_calls 1 (by decide) (by decide) w4
  go_wp2_with fail
  refine hO1.mono ?_
  rintro e w5 ⟨q5, rfl, hi5, hb5⟩
  have HB5 := Lib.hid (Below.trans' HB4.out hb5.out)
  have HH5 := Lib.hid (HH4.out.below hb5.out)
  have HIE5 := Lib.hid (HIE4.out.below hb5.out)
  have HI5 := Lib.hid hi5.out
  clear hO1 hb5 hi5
  have hO2 := Of_calls 1 (by decide) (by decide) w5
  go_wp2_with fail
  refine hO2.mono ?_
  rintro e w6 ⟨q6, rfl, hi6, hb6⟩
  have HB6 := Lib.hid (Below.trans' HB5.out hb6.out)
  have HH6 := Lib.hid (HH5.out.below hb6.out)
  have HIE6 := Lib.hid (HIE5.out.below hb6.out)
  have HI56 := Lib.hid (HI5.out.below hb6.out)
  have HI6 := Lib.hid hi6.out
  clear hO2 hb6 hi6
  have hMu := Mul_calls (W := w6) (V1 := .agg #[.pointer q5, .pointer none, .pointer none]) (V2 := .agg #[.pointer none, .pointer none, .pointer q6]) (x := ⟨1, 0, 0⟩) (y := ⟨0, 0, 1⟩) ⟨q5, none, none, rfl, HI56.out, isN_zero _, isN_zero _⟩ ⟨none, none, q6, rfl, isN_zero _, isN_zero _, HI6.out⟩ mul_ok
  go_wp2_with fail
  refine hMu.mono ?_
  rintro e w7 ⟨pu, pv, pm, rfl, hi7, hb7⟩
  have HB7 := Lib.hid (Below.trans' HB6.out hb7.out)
  have HH7 := Lib.hid (HH6.out.below hb7.out)
  have HIE7 := Lib.hid (HIE6.out.below hb7.out)
  have HX7 : Hid (IsE w7 (.agg #[.pointer pu, .pointer pv, .pointer pm]) ⟨1, 0, 1⟩) := by
    show IsE _ _ _
    rw [← mul_ex]; exact hi7.out
  clear hMu hb7 hi7
  have HD8 : Hid (Below w7.heap.size w7 (w7.alloc (.cells #[.pointer pu, .pointer pv, .pointer pm] 28))) := (Below.refl _ _).alloc (Nat.le_refl _) _
  have HB8 := Lib.hid (Below.trans' HB7.out HD8.out)
  have HH8 := Lib.hid (HH7.out.add #[.pointer pu, .pointer pv, .pointer pm] 28)
  have HIE8 := Lib.hid (HIE7.out.below HD8.out)
  have HX8 := Lib.hid (HX7.out.below HD8.out)
  have hUc := Unit_any (W := w7.alloc (.cells #[.pointer pu, .pointer pv, .pointer pm] 28)) (s := ⟨#[97, 98, 99]⟩) (by decide)
  go_wp2_with fail
  refine hUc.mono ?_
  rintro e w9 ⟨hb9, hcase⟩
  have he : e = .returned (.tuple #[.bool false, .int .i64 2]) := by
    rcases hcase with ⟨-, he⟩ | ⟨h, -⟩
    · exact he
    · rw [HWc.out] at h; cases h
  subst he
  have HB9 := Lib.hid (Below.trans' HB8.out hb9.out)
  have HH9 := Lib.hid (HH8.out.below hb9.out)
  have HIE9 := Lib.hid (HIE8.out.below hb9.out)
  have HX9 := Lib.hid (HX8.out.below hb9.out)
  clear hUc hb9 hcase
  go_wp2_with fail
  have HK : Hid (∀ w' : World, Below w9.heap.size w9 w' → w'.cell? ⟨w1.heap.size, 2, none⟩ = some (.pointer qm) ∧ w'.cell? ⟨w7.heap.size, 2, none⟩ = some (.pointer pm) ∧ w'.cell? ⟨w7.heap.size, 0, none⟩ = some (.pointer pu) ∧ w'.cell? ⟨w7.heap.size, 1, none⟩ = some (.pointer pv)) := fun w' hb => by
    have h := HH9.out.below hb
    exact ⟨h.cell (b := w1.heap.size) (c := #[.pointer qu, .pointer qv, .pointer qm]) (T := 28) (by simp) 2, h.cell (b := w7.heap.size) (c := #[.pointer pu, .pointer pv, .pointer pm]) (T := 28) (by simp) 2, h.cell (b := w7.heap.size) (c := #[.pointer pu, .pointer pv, .pointer pm]) (T := 28) (by simp) 0, h.cell (b := w7.heap.size) (c := #[.pointer pu, .pointer pv, .pointer pm]) (T := 28) (by simp) 1⟩
  obtain ⟨iu, iv, im⟩ := IsE.parts (t := ⟨qu, qv, qm⟩) HIE9.out
  obtain ⟨ju, jv, jm⟩ := IsE.parts (t := ⟨pu, pv, pm⟩) HX9.out
  have h0 : isg (0 : Int) = 0 := by simp [isg]
  have hSA : ∀ w', Below w9.heap.size w9 w' → Calls Tryz.prog 30 #[.agg #[.pointer qm]] w' fun e w'' => e = .returned (.int .i64 0) ∧ Hid (Below w9.heap.size w9 w'') := fun w' hb =>
    (Sign_calls (im.below hb)).mono fun e w'' ⟨h1, h2⟩ => ⟨by rw [h1, h0], Below.trans' hb h2.out⟩
  have hSB : ∀ w', Below w9.heap.size w9 w' → Calls Tryz.prog 30 #[.agg #[.pointer pv]] w' fun e w'' => e = .returned (.int .i64 0) ∧ Hid (Below w9.heap.size w9 w'') := fun w' hb =>
    (Sign_calls (jv.below hb)).mono fun e w'' ⟨h1, h2⟩ => ⟨by rw [h1, h0], Below.trans' hb h2.out⟩
  have hOf : ∀ w', Below w9.heap.size w9 w' → Calls Tryz.prog 20 #[.int .i64 1] w' fun e w'' => ∃ q, e = .returned (.agg #[.pointer q]) ∧ Hid (IsN w'' (.agg #[.pointer q]) 1) ∧ Hid (Below w9.heap.size w9 w'') := fun w' hb =>
    (Of_calls 1 (by decide) (by decide) w').mono fun e w'' ⟨q, h1, h2, h3⟩ => ⟨q, h1, h2, Below.trans' hb h3.out⟩
  have hCA : ∀ w' q, Below w9.heap.size w9 w' → IsN w' (.agg #[.pointer q]) 1 → Calls Tryz.prog 31 #[.agg #[.pointer pm], .agg #[.pointer q]] w' fun e w'' => e = .returned (.int .i64 0) ∧ Hid (Below w9.heap.size w9 w'') := fun w' q hb hq =>
    (Cmp_calls (jm.below hb) hq).mono fun e w'' ⟨h1, h2⟩ => ⟨by rw [h1]; rw [show isg ((⟨1, 0, 1⟩ : E3).m - 1) = 0 from by simp [isg]], Below.trans' hb h2.out⟩
  have hCB : ∀ w' q, Below w9.heap.size w9 w' → IsN w' (.agg #[.pointer q]) 1 → Calls Tryz.prog 31 #[.agg #[.pointer pu], .agg #[.pointer q]] w' fun e w'' => e = .returned (.int .i64 0) ∧ Hid (Below w9.heap.size w9 w'') := fun w' q hb hq =>
    (Cmp_calls (ju.below hb) hq).mono fun e w'' ⟨h1, h2⟩ => ⟨by rw [h1]; rw [show isg ((⟨1, 0, 1⟩ : E3).u - 1) = 0 from by simp [isg]], Below.trans' hb h2.out⟩
  have HSA := Lib.hid hSA
  have HSB := Lib.hid hSB
  have HOf := Lib.hid hOf
  have HCA := Lib.hid hCA
  have HCB := Lib.hid hCB
  have HBd : Hid (Below w9.heap.size w9 w9.drew) := (Below.refl _ _).drew
  clear hSA hSB hOf hCA hCB iu iv im ju jv jm h0
  go_region_held2 (fun w' => w'.cell? ⟨w1.heap.size, 2, none⟩ = some (.pointer qm) ∧ w'.cell? ⟨w7.heap.size, 2, none⟩ = some (.pointer pm) ∧ w'.cell? ⟨w7.heap.size, 0, none⟩ = some (.pointer pu) ∧ w'.cell? ⟨w7.heap.size, 1, none⟩ = some (.pointer pv))
    (first | exact HK.out _ HB26.out | exact HK.out _ HB25.out | exact HK.out _ HB24.out | exact HK.out _ HB23.out | exact HK.out _ HB22.out | exact HK.out _ HB21.out | exact HK.out _ HBd.out)
    (first
      | (go_at_call 30; (with_reducible refine (HSB.out _ HB25.out).mono ?_); rintro e w26 ⟨rfl, HB26⟩)
      | (go_at_call 31; (with_reducible refine (HCB.out _ _ HB24.out HI24.out).mono ?_); rintro e w25 ⟨rfl, HB25⟩)
      | (go_at_call 20; (with_reducible refine (HOf.out _ HB23.out).mono ?_); rintro e w24 ⟨q24, rfl, HI24, HB24⟩)
      | (go_at_call 31; (with_reducible refine (HCA.out _ _ HB22.out HI22.out).mono ?_); rintro e w23 ⟨rfl, HB23⟩)
      | (go_at_call 20; (with_reducible refine (HOf.out _ HB21.out).mono ?_); rintro e w22 ⟨q22, rfl, HI22, HB22⟩)
      | (go_at_call 30; (with_reducible refine (HSA.out _ HBd.out).mono ?_); rintro e w21 ⟨rfl, HB21⟩))
  all_goals
    go_wp2_with fail
    refine bodyPost_ret (results_tmp rfl _ _ _) rfl ?_
    exact ⟨rfl, Below.trans' HB9.out HB26.out⟩
end Sr
/- Rows of steps, as Check takes them. -/
namespace Sr
open Go Go.Proofs Go.RowKit Go.Maps Go.WideMaps

theorem stc_at : ∀ {st : List (Nat × Int)} {vs : List Value} {j : Nat} {s : Nat × Int} {u : Value}, st[j]? = some s → vs[j]? = some u → (stc st vs)[j * 2]? = some (.int .i64 (s.1 : Nat)) ∧ (stc st vs)[j * 2 + 1]? = some u
  | [], _, _, _, _, h, _ => by simp at h
  | _ :: _, [], _, _, _, _, h => by simp at h
  | s :: st, u :: vs, 0, _, _, h1, h2 => by simp at h1 h2; subst h1 h2; simp [stc]
  | s :: st, u :: vs, j + 1, _, _, h1, h2 => by
    have := stc_at (st := st) (vs := vs) (j := j) (by simpa using h1) (by simpa using h2)
    rw [show (j + 1) * 2 = (j * 2) + 1 + 1 by omega]
    simpa [stc] using this
theorem stc_take : ∀ {st : List (Nat × Int)} {vs : List Value} {k : Nat}, vs.length = st.length → (stc st vs).take (k * 2) = stc (st.take k) (vs.take k)
  | [], [], k, _ => by cases k <;> simp [stc]
  | s :: st, u :: vs, 0, h => by simp [stc]
  | s :: st, u :: vs, k + 1, h => by
    rw [show (k + 1) * 2 = (k * 2) + 1 + 1 by omega]
    simp [stc, stc_take (st := st) (vs := vs) (k := k) (by simpa using h)]
  | [], _ :: _, _, h => by simp at h
  | _ :: _, [], _, h => by simp at h

/-- an owned row of steps is one that Check takes -/
theorem srd_of {w : World} {v : Value} {st : List (Nat × Int)} {vs : List Value} (hl : vs.length = st.length) (h : w.ownsRow 0 42 2 v st.length (stc st vs))
    (hb : ∀ (i : Nat) (u : Value) (s : Nat × Int), vs[i]? = some u → st[i]? = some s → BRow w u (nbytes s.2)) (hz : ∀ s ∈ st, s.1 ≤ 1000000) : SRd w v (st.map stB) := by
  obtain ⟨-, ⟨rfl, h0⟩ | ⟨g, cap, cur, rfl, h1, h2, h3, h4, h5, h6⟩⟩ := h
  · obtain rfl : st = [] := List.length_eq_zero_iff.1 h0
    exact ⟨none, 0, rfl, fun j s hs => by simp at hs⟩
  · refine ⟨some ⟨g, 0, none⟩, cap, by simp, fun j s hs => ?_⟩
    rw [List.getElem?_map] at hs
    cases hj : st[j]? with
    | none => rw [hj] at hs; cases hs
    | some t =>
      rw [hj] at hs
      simp at hs
      subst hs
      have hlt : j < st.length := (List.getElem?_eq_some_iff.1 hj).1
      obtain ⟨u, hu⟩ : ∃ u, vs[j]? = some u := ⟨_, List.getElem?_eq_getElem (by omega)⟩
      obtain ⟨k1, k2⟩ := stc_at hj hu
      have ht := hz t (List.mem_of_getElem? hj)
      refine ⟨⟨by show -9223372036854775808 ≤ (t.1 : Int); omega, by show (t.1 : Int) ≤ 9223372036854775807; omega⟩, g, u, rfl, ?_, ?_, hb j u t hu hj⟩
      · rw [cell_of h2, ← Array.getElem?_toList]
        rw [← h6, List.getElem?_take, if_pos (by omega)] at k1
        exact k1
      · rw [cell_of h2, ← Array.getElem?_toList]
        rw [← h6, List.getElem?_take, if_pos (by omega)] at k2
        exact k2
theorem SRd.take {w : World} {a : Option Addr} {n c k : Nat} {S : List Stp} (h : SRd w (.slice a n c) S) (hk : k ≤ n) : SRd w (.slice a k c) (S.take k) := by
  obtain ⟨a', c', he, h1⟩ := h
  obtain ⟨rfl, hn, rfl⟩ := Value.slice.inj he
  refine ⟨a, c, by simp; omega, fun j s hs => ?_⟩
  rw [List.getElem?_take] at hs
  split at hs
  · exact h1 j s hs
  · cases hs
/-- two cells of a step are stored -/
theorem SRd.put {W : World} {g n c k : Nat} {S : List Stp} {cur : Array Value} (h : SRd W (.slice (some ⟨g, 0, none⟩) n c) S) (hg : W.heap[g]? = some (.cells cur 42 (0, 0))) (hk : k < S.length) (hcs : S.length * 2 ≤ cur.size) {i : Int} (hi : -9223372036854775808 ≤ i ∧ i ≤ 9223372036854775807) {u : Value} {pw : List UInt8} (hu : BRow W u pw) :
    SRd ((W.setCell ⟨g, k * 2, none⟩ (.int .i64 i)).setCell ⟨g, k * 2 + 1, none⟩ u) (.slice (some ⟨g, 0, none⟩) n c) (S.set k (i, pw)) := by
  obtain ⟨a', c', he, h1⟩ := h
  obtain ⟨rfl, hn, rfl⟩ := Value.slice.inj he
  have g1 : (W.setCell ⟨g, k * 2, none⟩ (.int .i64 i)).heap[g]? = some (.cells (cur.setIfInBounds (k * 2) (.int .i64 i)) 42 (0, 0)) := heap_setCell_same W g _ _ 42 _ hg
  have g2 : ((W.setCell ⟨g, k * 2, none⟩ (.int .i64 i)).setCell ⟨g, k * 2 + 1, none⟩ u).heap[g]? = some (.cells ((cur.setIfInBounds (k * 2) (.int .i64 i)).setIfInBounds (k * 2 + 1) u) 42 (0, 0)) := heap_setCell_same _ g _ _ 42 _ g1
  have keep : ∀ {x : Value} {l : List UInt8}, BRow W x l → BRow ((W.setCell ⟨g, k * 2, none⟩ (.int .i64 i)).setCell ⟨g, k * 2 + 1, none⟩ u) x l := fun {x l} hx => ownsRow_kept hx fun b e => by
    obtain ⟨c', hc'⟩ := row_type hx e
    have hne : b ≠ g := type_ne hc' hg (by decide)
    exact (RowKit.Below.heap_setCell _ _ _ _ hne).trans (RowKit.Below.heap_setCell _ _ _ _ hne)
  refine ⟨some ⟨g, 0, none⟩, c, by simp [hn], fun j s hs => ?_⟩
  rw [List.getElem?_set] at hs
  split at hs
  · rename_i hkj
    subst hkj
    simp at hs; subst hs
    refine ⟨hi, g, u, rfl, ?_, ?_, keep hu⟩
    · rw [cell_of g2, Array.getElem?_setIfInBounds_ne (by omega), Array.getElem?_setIfInBounds_self_of_lt (by omega)]
    · rw [cell_of g2, Array.getElem?_setIfInBounds_self_of_lt (by simp; omega)]
  · rename_i hkj
    obtain ⟨k0, g', u', k1, k2, k3, k4⟩ := h1 j s hs
    cases k1
    refine ⟨k0, g, u', rfl, ?_, ?_, keep k4⟩
    · rw [cell_of g2, Array.getElem?_setIfInBounds_ne (by omega), Array.getElem?_setIfInBounds_ne (by omega), ← cell_of hg]; exact k2
    · rw [cell_of g2, Array.getElem?_setIfInBounds_ne (by omega), Array.getElem?_setIfInBounds_ne (by omega), ← cell_of hg]; exact k3

theorem stc_one : ∀ {st : List (Nat × Int)} {vs : List Value}, (∀ u ∈ vs, u.oneCell' = true) → ∀ u ∈ stc st vs, u.oneCell' = true
  | [], _, _, u, hu => by simp [stc] at hu
  | _ :: _, [], _, u, hu => by simp [stc] at hu
  | s :: st, x :: vs, h, u, hu => by
    simp only [stc, List.mem_cons] at hu
    rcases hu with rfl | rfl | hu
    · rfl
    · exact h _ (by simp)
    · exact stc_one (st := st) (vs := vs) (fun y hy => h y (by simp [hy])) u hu

section
variable {ops : Array Oper} {rest : List Oper} {o : Oper} {a : Act} {Q : Exit → Act → World → Prop} {W : World}
theorem own_none {W : World} {B : Nat} {e : TypeId} {z : Nat} (h : W.heap[B]? = some (.cells #[] e (0, 0))) : W.ownsRow 0 e z (.slice (some ⟨B, 0, none⟩) 0 0) 0 [] :=
  ⟨by simp, .inr ⟨B, 0, #[], rfl, Nat.zero_le _, h, Nat.le_refl _, Nat.zero_le _, by simp, by simp⟩⟩
theorem app_Sn (hgd : o.guard = none) (s x : Operand) (ho : o.op = .call { callee := .builtin .append, args := #[s, x], argTypes := #[23, 23] })
    (B0 : Nat) (hs : a.eval s = .slice (some ⟨B0, 0, none⟩) 0 0) (hB0 : W.heap[B0]? = some (.cells #[] 42 (0, 0))) (B m c : Nat) (hx : a.eval x = .slice (some ⟨B, 0, none⟩) m c)
    (news : List Value) (hl : news.length = m * 2) (hnews : ∀ j u, news[j]? = some u → W.cell? ⟨B, j, none⟩ = some u) (h1 : ∀ u ∈ news, u.oneCell' = true) (hm : 0 < m) (hb : m ≤ 1099511627776)
    (h : ∀ g cap w', w'.ownsRow 0 42 2 (.slice (some ⟨g, 0, none⟩) m cap) m news → W.grownBy w' (some B0) → (g = B0 ∨ g = W.heap.size) → g < w'.heap.size → wpList Tryz.prog ops Q rest (a.put o.dst (.slice (some ⟨g, 0, none⟩) m cap)) w') :
    wpList Tryz.prog ops Q (o :: rest) a W := by
  obtain ⟨ii, hi, hz0, hz1, hz2⟩ := info_parts info42
  refine wpList_append_lies _ hgd s x 23 ho 0 42 ii _ 2 32 un23 hi hz0 hz1 hz2 rfl (by decide) _ 0 [] hs (own_none hB0) ⟨B, 0, none⟩ m c news hx hl (fun j u hu => by rw [show ((⟨B, 0, none⟩ : Addr).add j) = ⟨B, j, none⟩ by unfold Addr.add; split <;> simp_all]; exact hnews j u hu) h1 hm (by simp only [maxLen]; omega) (by omega) (Nat.zero_le _) _ rfl ?_
  intro g cap w' k1 k2 k3 k4
  rw [Nat.zero_add, List.nil_append] at k1
  have := h g cap w' k1 k2 (k3.imp (fun e => by cases e; rfl) id) k4
  rwa [Nat.zero_add]
end
section
variable {ops : Array Oper} {o : Oper} {a : Act} {K : Act → World → Prop} {Q : Exit → Act → World → Prop} {E : Prop} {W : World}
theorem brow_cells {W : World} {B n c : Nat} {l : List UInt8} (h : BRow W (.slice (some ⟨B, 0, none⟩) n c) l) : n = l.length ∧ ∀ (j : Nat) (u : Value), (l.map fun b => Value.int .u8 (b.toNat : Nat))[j]? = some u → W.cell? ⟨B, j, none⟩ = some u := by
  have h' := h
  obtain ⟨-, ⟨hh, -⟩ | ⟨g, cap, cur, hh, -⟩⟩ := h
  · cases hh
  · obtain ⟨e1, rfl, e3⟩ := Value.slice.inj hh
    refine ⟨rfl, fun j u hu => ?_⟩
    rw [World.ownsRow.cellAt h' j (by have := (List.getElem?_eq_some_iff.1 hu).1; simpa using this)]
    exact hu
/-- bytes are put behind none, and a nought behind bytes, in a region that draws -/
theorem stepP_B0 (hgd : o.guard = none) (s x : Operand) (ho : o.op = .call { callee := .builtin .append, args := #[s, x], argTypes := #[40, 40] })
    (B0 : Nat) (hs : a.eval s = .slice (some ⟨B0, 0, none⟩) 0 0) (hB0 : W.heap[B0]? = some (.cells #[] 5 (0, 0))) (B m c : Nat) (hx : a.eval x = .slice (some ⟨B, 0, none⟩) m c) (l : List UInt8)
    (hr : BRow W (.slice (some ⟨B, 0, none⟩) m c) l) (hm : 0 < m) (hb : m ≤ 1099511627776)
    (h : ∀ g cap w', BRow w' (.slice (some ⟨g, 0, none⟩) m cap) l → W.grownBy w' (some B0) → (g = B0 ∨ g = W.heap.size) → g < w'.heap.size → K (a.put o.dst (.slice (some ⟨g, 0, none⟩) m cap)) w') :
    if Region.wanted o (yielded ops a.tmps) = true then Oper.wp Tryz.prog o a W K Q else E := by
  obtain ⟨ii, hi, hz0, hz1, hz2⟩ := info_parts info5
  obtain ⟨rfl, hc⟩ := brow_cells hr
  refine step_append_lies _ hgd s x 40 ho 0 5 ii _ 1 1 un40 hi hz0 hz1 hz2 rfl (by decide) _ 0 [] hs (own_none hB0) ⟨B, 0, none⟩ l.length c (l.map fun b => Value.int .u8 (b.toNat : Nat)) hx (by simp) (fun j u hu => by rw [show ((⟨B, 0, none⟩ : Addr).add j) = ⟨B, j, none⟩ by unfold Addr.add; split <;> simp_all]; exact hc j u hu) (by intro u hu; obtain ⟨b, _, rfl⟩ := List.mem_map.1 hu; rfl) hm (by simp only [maxLen]; omega) (by omega) (Nat.zero_le _) _ rfl ?_
  intro g cap w' k1 k2 k3 k4
  rw [Nat.zero_add, List.nil_append] at k1
  have := h g cap w' k1 k2 (k3.imp (fun e => by cases e; rfl) id) k4
  rwa [Nat.zero_add]
theorem stepP_B1 (hgd : o.guard = none) (s x : Operand) (ho : o.op = .call { callee := .builtin .append, args := #[s, x], argTypes := #[40, 40] })
    (B0 m c : Nat) (hs : a.eval s = .slice (some ⟨B0, 0, none⟩) m c) (l : List UInt8) (hr : BRow W (.slice (some ⟨B0, 0, none⟩) m c) l) (B : Nat) (hx : a.eval x = .slice (some ⟨B, 0, none⟩) 1 1)
    (hB : W.heap[B]? = some (.cells #[.int .u8 0] 5 (0, 0))) (hb : m + 1 ≤ 1099511627776)
    (h : ∀ g cap w', BRow w' (.slice (some ⟨g, 0, none⟩) (m + 1) cap) (l ++ [0]) → W.grownBy w' (some B0) → (g = B0 ∨ g = W.heap.size) → g < w'.heap.size → K (a.put o.dst (.slice (some ⟨g, 0, none⟩) (m + 1) cap)) w') :
    if Region.wanted o (yielded ops a.tmps) = true then Oper.wp Tryz.prog o a W K Q else E := by
  obtain ⟨ii, hi, hz0, hz1, hz2⟩ := info_parts info5
  obtain ⟨rfl, hc⟩ := brow_cells hr
  refine step_append_lies _ hgd s x 40 ho 0 5 ii _ 1 1 un40 hi hz0 hz1 hz2 rfl (by decide) _ l.length _ hs hr ⟨B, 0, none⟩ 1 1 [.int .u8 0] hx (by simp) (fun j u hu => World.news_of_block hB j u hu) (by simp; rfl) (by decide) (by simp only [maxLen]; omega) (by omega) (Nat.zero_le _) _ rfl ?_
  intro g cap w' k1 k2 k3 k4
  refine h g cap w' ?_ k2 (k3.imp (fun e => by cases e; rfl) id) k4
  unfold BRow
  rw [List.length_append, List.map_append]; exact k1
end
theorem below_grown {W0 W w : World} {B0 : Nat} (h : Below W0.heap.size W0 W) (hB : W0.heap.size ≤ B0) (G : W.grownBy w (some B0)) : Below W0.heap.size W0 w :=
  ⟨G.os.trans h.os, G.tape.trans h.tape, G.output.trans h.output, Nat.le_trans h.size G.size, fun b hb => (G.block b (Nat.lt_of_lt_of_le hb h.size) (fun e => by cases e; omega)).trans (h.block b hb)⟩
theorem nbytes_len {x : Int} (h : allowed x) : (nbytes x).length ≤ 2000000 ∧ 0 < (nbytes x).length := by
  have h1 := flat_bd h.2.1 (Sr.parts x).length
  have h2 : (atPl (Sr.parts x) x).length ≤ 300 := by simpa [atPl] using h.1
  have h3 := h.2.2.1
  rw [List.take_length] at h1
  unfold nbytes
  simp only [List.length_append, tw_len, wl_len]
  omega
theorem take_set {α : Type} {l : List α} {k : Nat} (h : k < l.length) (x : α) : (l.take (k + 1)).set k x = l.take k ++ [x] := by
  rw [List.take_add_one, List.getElem?_eq_getElem h]
  have e : (l.take k).length = k := by simp; omega
  simp only [Option.toList_some]
  rw [List.set_append, if_neg (by omega), e, Nat.sub_self]
  rfl
/-- the first of the steps, laid anew -/
theorem srd_first {w7 : World} {v : Value} {st : List (Nat × Int)} {vs : List Value} {K1 : Nat} (hK : K1 ≤ st.length) (hl : vs.length = st.length) (h : w7.ownsRow 0 42 2 v K1 ((stc st vs).take (K1 * 2)))
    (hb : ∀ (i : Nat) (u : Value) (s : Nat × Int), vs[i]? = some u → st[i]? = some s → BRow w7 u (nbytes s.2)) (hz : ∀ s ∈ st, s.1 ≤ 1000000) : SRd w7 v ((st.map stB).take K1) := by
  rw [← List.map_take]
  have e : (st.take K1).length = K1 := by simp; omega
  refine srd_of (vs := vs.take K1) (by simp; omega) ?_ (fun i u t h1 h2 => ?_) (fun t ht => hz t (List.mem_of_mem_take ht))
  · rw [e, ← stc_take hl]; exact h
  · rw [List.getElem?_take] at h1 h2
    split at h1
    · rename_i hi
      rw [if_pos hi] at h2
      exact hb i u t h1 h2
    · cases h1
end Sr
/- Same: the walk. -/
namespace Sr
open Go Go.Proofs Go.RowKit Go.Maps Go.WideMaps

theorem conv_F {w : World} {g cap nf : Nat} {l : List UInt8} (h : BFr w g l.length nf l) : (Go.convert 40 9 (.slice (some ⟨g, 0, none⟩) l.length cap)).run Tryz.prog w = .ok (.string ⟨l.toArray⟩) w := by
  have u5 : Tryz.prog.underlying 5 = some (.int .u8) := by kernel_rfl
  have u9 : Tryz.prog.underlying 9 = some .string := by kernel_rfl
  refine run_convert_bytes_back w 40 9 5 ⟨g, 0, none⟩ cap l un40 u5 u9 fun j hj => ?_
  have hadd : (⟨g, 0, none⟩ : Addr).add j = ⟨g, j, none⟩ := by unfold Addr.add; split <;> simp_all
  rw [hadd]
  exact (h.cell (List.getElem?_eq_getElem hj)).1
theorem bfr_conv (w : World) (t : ByteArray) (cap : Nat) {nf : Nat} (hnf : (bytesRow t cap).size = nf) : BFr (w.alloc (.cells (bytesRow t cap) 5 (nf, nf + 1))).drew w.heap.size t.size nf t.data.toList := by
  have hz : t.size ≤ (bytesRow t cap).size := by unfold bytesRow; simp
  refine ⟨by simp, by omega, _, heap_last w _, hz, ?_⟩
  unfold bytesRow
  rw [Array.toList_append, List.take_append_of_le_length (by simp), List.take_of_length_le (by simp), Array.toList_map]
theorem xor_flip (b : UInt8) : bits BinOp.xor IntKind.u8 (b.toNat : Int) 32 = ((flip b).toNat : Nat) := by
  have key : ∀ n : Fin 256, bits BinOp.xor IntKind.u8 ((n.val : Nat) : Int) 32 = (((UInt8.ofNat n.val) ^^^ 32).toNat : Nat) := by decide +kernel
  have h := key ⟨b.toNat, b.toNat_lt⟩
  simpa [flip] using h
theorem join_size (s t : ByteArray) : (s ++ t).size = s.size + t.size := ByteArray.size_append
theorem join_list (s t : ByteArray) : (s ++ t).data.toList = s.data.toList ++ t.data.toList := by simp [ByteArray.data_append]
/-- how Same ends -/
def SameQ (u v : List UInt8) (W : World) (e : Ending) (W' : World) : Prop :=
  Hid (Below W.heap.size W W') ∧ (((isWordL u = false ∨ isWordL v = false) ∧ e = .returned (.tuple #[.bool false, .int .i64 2])) ∨
    (isWordL u = true ∧ isWordL v = true ∧ ((∃ st o G, traceE (u ++ invL v) = some (st, o, G) ∧ e = .returned (.tuple #[.bool (unitE o G), .int .i64 0])) ∨ (traceE (u ++ invL v) = none ∧ e = .returned (.tuple #[.bool false, .int .i64 5])))))

/-- the letters turned, as far as the loop has come -/
def trn (l : List UInt8) (k : Nat) : List UInt8 := (l.take k).map flip ++ l.drop k
theorem trn_len (l : List UInt8) (k : Nat) : (trn l k).length = l.length := by unfold trn; simp; omega
theorem trn_get {l : List UInt8} {k : Nat} {b : UInt8} (h : l[k]? = some b) : (trn l k)[k]? = some b ∧ (trn l k).set k (flip b) = trn l (k + 1) := by
  have hk : k < l.length := (List.getElem?_eq_some_iff.1 h).1
  have e : ((l.take k).map flip).length = k := by simp; omega
  unfold trn
  constructor
  · rw [List.getElem?_append_right (by omega), e, List.getElem?_drop, Nat.sub_self]
    simpa using h
  · rw [List.set_append, if_neg (by omega), e, Nat.sub_self, List.drop_eq_getElem_cons hk, List.set_cons_zero, List.take_add_one, h]
    simp [List.append_assoc]

set_option maxHeartbeats 8000000 in
set_option maxRecDepth 100000 in
theorem Same_any {W : World} {s t : ByteArray} (hs : s.size ≤ 9223372036854775807) (ht : t.size ≤ 9223372036854775807) : Calls Tryz.prog 23 #[.string s, .string t] W (SameQ s.data.toList t.data.toList W) := by
  have u5 : Tryz.prog.underlying 5 = some (.int .u8) := by kernel_rfl
  have u9 : Tryz.prog.underlying 9 = some .string := by kernel_rfl
  have hI1 := isWord_calls s W hs
  by_cases hw1 : isWordL s.data.toList = true
  · rw [hw1] at hI1
    have HW1 := Lib.hid hw1
    have hz1 := isWordL_size hw1
    clear hw1
    by_cases hw2 : isWordL t.data.toList = true
    · have HW2 := Lib.hid hw2
      have hz2 := isWordL_size hw2
      have hcv := fun (w : World) => run_bytes_of_string (P := Tryz.prog) w 9 40 5 t u9 un40 u5
      go_enter Tryz.func23, Tryz.ntmps23
      go_wp2_with fail
      refine hI1.mono ?_
      rintro e w1 ⟨rfl, hb1⟩
      have hI2 := isWord_calls t w1 ht
      rw [hw2] at hI2
      have HB1 := Lib.hid hb1.out
      clear hI1 hb1 hw2
      go_wp2_with fail
      refine hI2.mono ?_
      rintro e w2 ⟨rfl, hb2⟩
      have HB2 := Lib.hid (Below.trans' HB1.out hb2.out)
      clear hI2 hb2
      go_wp2_with fail
      generalize grownCap _ _ _ _ = cap
      obtain ⟨nf, hnf⟩ : ∃ nf, nf = (bytesRow t cap).size := ⟨_, rfl⟩
      rw [← hnf]
      obtain ⟨w3, hw3⟩ : ∃ w3, w3 = (w2.alloc (.cells (bytesRow t cap) 5 (nf, nf + 1))).drew := ⟨_, rfl⟩
      obtain ⟨g, hg⟩ : ∃ g, g = w2.heap.size := ⟨_, rfl⟩
      have HF3 : Hid (BFr w3 g t.size nf t.data.toList) := by show BFr _ _ _ _ _; rw [hw3, hg]; exact bfr_conv w2 t cap hnf.symm
      have HB3 : Hid (Below W.heap.size W w3) := by show Below _ _ _; rw [hw3]; exact (HB2.out.alloc HB2.out.size _).drew
      have HG : Hid (W.heap.size ≤ g) := by show _ ≤ _; rw [hg]; exact HB2.out.size
      rw [← hw3, ← hg]
      have hRv := reverseB_calls (W := w3) (g := g) (ca := cap) (nf := nf) (l := t.data.toList) (by simp; exact HF3.out) (by simp; omega)
      rw [show t.data.toList.length = t.size by simp] at hRv
      clear hnf hw3 hg hcv
      refine hRv.mono ?_
      rintro e w4 ⟨rfl, hf4, hg4⟩
      have HF4 := Lib.hid hf4.out
      have HB4 : Hid (Below W.heap.size W w4) := below_grown HB3.out HG.out hg4.out
      have HL : Hid (t.data.toList.reverse.length = t.size) := by show _ = _; simp
      clear hRv hf4 hg4
      go_wp2_with fail
      go_loopg [22] t.size (fun g1 kv wr => ∃ k : Nat, kv = .int .i64 k ∧ k ≤ t.size ∧ t.size - k ≤ g1 ∧ Hid (BFr wr g t.size nf (trn t.data.toList.reverse k)) ∧ Hid (Below W.heap.size W wr))
      case atStart => exact ⟨0, rfl, by omega, by omega, HF4, HB4⟩
      case round =>
        obtain ⟨k, rfl, hk, hg1, HF, HB⟩ := hrel
        by_cases hlt : k < t.size
        · have hkz : (k : Int) < (t.size : Int) := by omega
          have hk0 : (0 : Int) ≤ (k : Int) := Int.natCast_nonneg k
          have hkw : IntKind.i64.wrap ((k : Int) + 1) = (k : Int) + 1 := IntWalk.i64_in _ (by omega)
          obtain ⟨b, hb⟩ : ∃ b, t.data.toList.reverse[k]? = some b := ⟨_, List.getElem?_eq_getElem (by rw [HL.out]; exact hlt)⟩
          obtain ⟨e1, e2⟩ := trn_get hb
          have HE2 := Lib.hid e2
          obtain ⟨c0, f0⟩ := HF.out.cell e1
          have HF' := Lib.hid (HF.out.set (i := k) (flip b))
          have hx := xor_flip b
          have HBs : Hid (Below W.heap.size W (wr.setCell ⟨g, k, none⟩ (.int .u8 ((flip b).toNat : Nat)))) := HB.out.setCell HG.out _
          clear hb e1 e2
          go_wp2_with fail
          go_roundg (t.size - (k + 1))
          case measure => omega
          case rel => exact ⟨k + 1, by go_num, by omega, by omega, by show BFr _ _ _ _ _; rw [← HE2.out]; exact HF'.out, HBs⟩
        · have hkz : ¬ ((k : Int) < (t.size : Int)) := by omega
          obtain ⟨z, hz⟩ : ∃ z, z = invL t.data.toList := ⟨_, rfl⟩
          have hzl : z.length = t.size := by rw [hz]; unfold invL; simp
          have hcb := conv_F (w := wr) (g := g) (cap := cap) (nf := nf) (l := z) (by
            have h := HF.out
            have e : trn t.data.toList.reverse k = z := by
              unfold trn
              rw [List.take_of_length_le (by rw [HL.out]; omega), List.drop_of_length_le (by rw [HL.out]; omega), List.append_nil, hz]; rfl
            rw [e] at h
            rw [hzl]; exact h)
          rw [hzl] at hcb
          have hIs := is_any (W := wr) (s := s ++ ⟨z.toArray⟩) (by rw [join_size]; show s.size + z.toArray.size ≤ 1000; rw [List.size_toArray]; omega)
          rw [join_list] at hIs
          have HZ := Lib.hid hz
          clear hz
          go_wp2_with fail
          refine hIs.mono ?_
          rintro e w5 ⟨hb5, ⟨st, o, G, hr, rfl⟩ | ⟨hr, rfl⟩⟩
          · have HB5 := Lib.hid (Below.trans' HB.out hb5.out)
            have HR := Lib.hid hr
            clear hIs hb5 hr
            go_wp2_with fail
            refine bodyPost_ret (v := (.tuple #[.bool (unitE o G), .int .i64 0])) (by simp [results, Tryz.results23, go_sem]) rfl ?_
            exact ⟨HB5, .inr ⟨HW1.out, HW2.out, .inl ⟨st, o, G, by rw [← HZ.out]; exact HR.out, rfl⟩⟩⟩
          · have HB5 := Lib.hid (Below.trans' HB.out hb5.out)
            have HR := Lib.hid hr
            clear hIs hb5 hr
            go_wp2_with fail
            refine bodyPost_ret (v := (.tuple #[.bool false, .int .i64 5])) (by simp [results, Tryz.results23, go_sem]) rfl ?_
            exact ⟨HB5, .inr ⟨HW1.out, HW2.out, .inr ⟨by rw [← HZ.out]; exact HR.out, rfl⟩⟩⟩
    · have hwf : isWordL t.data.toList = false := by simpa using hw2
      have HW2 := Lib.hid hwf
      go_enter Tryz.func23, Tryz.ntmps23
      go_wp2_with fail
      refine hI1.mono ?_
      rintro e w1 ⟨rfl, hb1⟩
      have hI2 := isWord_calls t w1 ht
      rw [hwf] at hI2
      have HB1 := Lib.hid hb1.out
      clear hI1 hb1 hw2 hwf
      go_wp2_with fail
      refine hI2.mono ?_
      rintro e w2 ⟨rfl, hb2⟩
      have HB2 := Lib.hid (Below.trans' HB1.out hb2.out)
      clear hI2 hb2
      go_wp2_with fail
      refine bodyPost_ret (v := (.tuple #[.bool false, .int .i64 2])) (by simp [results, Tryz.results23, go_sem]) rfl ?_
      exact ⟨HB2, .inl ⟨.inr HW2.out, rfl⟩⟩
  · have hwf : isWordL s.data.toList = false := by simpa using hw1
    rw [hwf] at hI1
    have HW1 := Lib.hid hwf
    clear hw1 hwf
    go_enter Tryz.func23, Tryz.ntmps23
    go_wp2_with fail
    refine hI1.mono ?_
    rintro e w1 ⟨rfl, hb1⟩
    have HB1 := Lib.hid hb1.out
    clear hI1 hb1
    go_wp2_with fail
    refine bodyPost_ret (v := (.tuple #[.bool false, .int .i64 2])) (by simp [results, Tryz.results23, go_sem]) rfl ?_
    exact ⟨HB1, .inl ⟨.inl HW1.out, rfl⟩⟩
end Sr
/- The reference's IsWord: the walk. -/
namespace Sr
open Go Go.Proofs Go.RowKit Go.Maps Go.WideMaps

def isLt (l : List UInt8) : Bool := l.all fun c => c == 97 || c == 65 || c == 98 || c == 66
theorem isLt_lt {l : List UInt8} : isLt l = true ↔ Lt l := by
  unfold isLt Lt
  rw [List.all_eq_true]
  constructor
  · intro h c hc
    have := h c hc
    simpa [or_assoc] using this
  · intro h c hc
    have := h c hc
    simpa [or_assoc] using this
theorem isWordL_lt {l : List UInt8} : isWordL l = true ↔ (isLt l = true ∧ l.length ≤ 400) := by
  unfold isWordL isLt
  simp only [Bool.and_eq_true, decide_eq_true_eq, List.all_eq_true]
  constructor
  · rintro ⟨h1, h2⟩
    refine ⟨fun c hc => ?_, h1⟩
    have := h2 c hc
    simpa [letters, or_assoc] using this
  · rintro ⟨h1, h2⟩
    refine ⟨h2, fun c hc => ?_⟩
    have := h1 c hc
    simpa [letters, or_assoc] using this

set_option maxHeartbeats 8000000 in
set_option maxRecDepth 100000 in
theorem isW5_calls {W : World} {s : ByteArray} (hs : s.size ≤ 9223372036854775807) {n : Nat} (hn : n ≤ 1000) : Calls Tryz.prog 24 #[.string s, .int .i64 n] W fun e W' => e = .returned (.bool (isLt s.data.toList && decide (s.size ≤ n))) ∧ Hid (Below W.heap.size W W') := by
  go_enter Tryz.func24, Tryz.ntmps24
  go_wp2_with fail
  go_loopg [5] s.size (fun g1 kv wr => ∃ k : Nat, kv = .int .i64 k ∧ k ≤ s.size ∧ s.size - k ≤ g1 ∧ Hid (isLt (s.data.toList.take k) = true) ∧ Hid (Below W.heap.size W wr))
  case atStart => exact ⟨0, rfl, by omega, by omega, rfl, Below.refl _ _⟩
  case round =>
    obtain ⟨k, rfl, hk, hg1, HT, HB⟩ := hrel
    by_cases hlt : k < s.size
    · have hkz : (k : Int) < (s.size : Int) := by omega
      have hk0 : (0 : Int) ≤ (k : Int) := Int.natCast_nonneg k
      have hkw : IntKind.i64.wrap ((k : Int) + 1) = (k : Int) + 1 := IntWalk.i64_in _ (by omega)
      obtain ⟨c, hc⟩ : ∃ c, s.data.toList[k]? = some c := ⟨_, List.getElem?_eq_getElem (by simpa using hlt)⟩
      have hsk : s[k] = c := by
        have h := (List.getElem?_eq_some_iff.1 hc).2
        rw [← h]; rfl
      have HTk : Hid (s.data.toList.take (k + 1) = s.data.toList.take k ++ [c]) := by show _ = _; rw [List.take_add_one, hc]; rfl
      have HC := Lib.hid hc
      clear hc
      by_cases hl : c = 97 ∨ c = 65 ∨ c = 98 ∨ c = 66
      · have HN : Hid (isLt (s.data.toList.take (k + 1)) = true) := by
          show _ = _
          have h := HT.out
          rw [HTk.out]
          unfold isLt at h ⊢
          rw [List.all_append, h]
          simpa [or_assoc] using hl
        rcases hl with rfl | rfl | rfl | rfl
        all_goals
          go_wp2_with fail
          go_roundg (s.size - (k + 1))
          case measure => omega
          case rel => exact ⟨k + 1, by go_num, by omega, by omega, HN, HB⟩
      · have HF : Hid (isLt s.data.toList = false) := by
          show _ = _
          cases h : isLt s.data.toList with
          | false => rfl
          | true => exact absurd (isLt_lt.1 h c (List.mem_of_getElem? HC.out)) hl
        have m1 : ((c.toNat : Int) != 97) = true := by simp only [bne_iff_ne, ne_eq]; intro h; exact hl (.inl (UInt8.toNat_inj.1 (by show _ = 97; omega)))
        have m2 : ((c.toNat : Int) != 65) = true := by simp only [bne_iff_ne, ne_eq]; intro h; exact hl (.inr (.inl (UInt8.toNat_inj.1 (by show _ = 65; omega))))
        have m3 : ((c.toNat : Int) != 98) = true := by simp only [bne_iff_ne, ne_eq]; intro h; exact hl (.inr (.inr (.inl (UInt8.toNat_inj.1 (by show _ = 98; omega)))))
        have m4 : ((c.toNat : Int) != 66) = true := by simp only [bne_iff_ne, ne_eq]; intro h; exact hl (.inr (.inr (.inr (UInt8.toNat_inj.1 (by show _ = 66; omega)))))
        clear hl
        go_wp2_with fail
        refine bodyPost_ret (results_tmp rfl _ _ _) rfl ?_
        exact ⟨by rw [HF.out]; rfl, HB⟩
    · have hkz : ¬ ((k : Int) < (s.size : Int)) := by omega
      have HL : Hid (isLt s.data.toList = true) := by
        have h := HT.out
        rw [List.take_of_length_le (by simp; omega)] at h
        exact h
      go_wp2_with fail
      refine bodyPost_ret (results_tmp rfl _ _ _) rfl ?_
      refine ⟨?_, HB⟩
      rw [HL.out]
      simp
end Sr
/- The reference's Inverse: the walk, at words. -/
namespace Sr
open Go Go.Proofs Go.RowKit Go.Maps Go.WideMaps

theorem brow_grown {W0 W w : World} {v : Value} {l : List UInt8} (h : BRow W v l) (hb : Below W0.heap.size W0 W) (ho : ∀ b, v.ownBlock = some b → W0.heap.size ≤ b) {v' : Value} (G : W.grownBy w v.ownBlock) (A : v'.ownBlock = v.ownBlock ∨ v'.ownBlock = some W.heap.size) : Below W0.heap.size W0 w ∧ ∀ b, v'.ownBlock = some b → W0.heap.size ≤ b := by
  refine ⟨⟨G.os.trans hb.os, G.tape.trans hb.tape, G.output.trans hb.output, Nat.le_trans hb.size G.size, fun b hlt => (G.block b (Nat.lt_of_lt_of_le hlt hb.size) (fun e => by have := ho b e.symm; omega)).trans (hb.block b hlt)⟩, fun b e => ?_⟩
  rcases A with A | A
  · exact ho b (A ▸ e)
  · rw [A] at e; cases e; exact hb.size

set_option maxHeartbeats 8000000 in
set_option maxRecDepth 100000 in
theorem inv5_calls {W : World} {s : ByteArray} (hs : s.size ≤ 1000) (hl : Lt s.data.toList) : Calls Tryz.prog 26 #[.string s] W fun e W' => e = .returned (.string ⟨(invL s.data.toList).toArray⟩) ∧ Hid (Below W.heap.size W W') := by
  have HL := Lib.hid hl
  have hw1 : IntKind.i64.wrap ((s.size : Int) - 1) = (s.size : Int) - 1 := IntWalk.i64_in _ (by omega)
  clear hl
  go_enter Tryz.func26, Tryz.ntmps26
  go_wp2_with fail
  go_loopg [3, 4] (s.size + 1) (fun g1 ov kv wr => ∃ (k : Nat) (z : Int), kv = .int .i64 z ∧ z + k + 1 = s.size ∧ k ≤ s.size ∧ s.size - k ≤ g1 ∧ Hid (BRow wr ov ((s.data.toList.reverse.take k).map flip)) ∧ Hid (Below W.heap.size W wr) ∧ Hid (∀ b, ov.ownBlock = some b → W.heap.size ≤ b))
  case atStart => exact ⟨0, _, rfl, by omega, by omega, by omega, ⟨rfl, .inl ⟨rfl, rfl⟩⟩, Below.refl _ _, fun b e => by cases e⟩
  case round =>
    obtain ⟨k, z, rfl, hz, hk, hg1, HR, HB, HO⟩ := hrel
    by_cases hlt : k < s.size
    · obtain ⟨j, rfl⟩ : ∃ j : Nat, z = (j : Int) := ⟨z.toNat, by omega⟩
      have hjz : (j : Int) < (s.size : Int) := by omega
      have hj0 : (0 : Int) ≤ (j : Int) := Int.natCast_nonneg j
      have hjn : j < s.size := by omega
      have hkw : IntKind.i64.wrap ((j : Int) - 1) = (j : Int) - 1 := IntWalk.i64_in _ (by omega)
      obtain ⟨c, hc⟩ : ∃ c, s.data.toList[j]? = some c := ⟨_, List.getElem?_eq_getElem (by simpa using hjn)⟩
      have hsk : s[j] = c := by
        have h := (List.getElem?_eq_some_iff.1 hc).2
        rw [← h]; rfl
      have HTk : Hid ((s.data.toList.reverse.take (k + 1)).map flip = (s.data.toList.reverse.take k).map flip ++ [flip c]) := by
        show _ = _
        have e : s.data.toList.reverse[k]? = some c := by
          rw [List.getElem?_reverse (by simpa using hlt)]
          rw [show s.data.toList.length - 1 - k = j by simp; omega]
          exact hc
        rw [List.take_add_one, e]; simp
      have hlc := HL.out c (List.mem_of_getElem? hc)
      obtain ⟨oa, oc, rfl⟩ := rown_shape HR.out
      obtain ⟨l0, hl0⟩ : ∃ l0, l0 = (s.data.toList.reverse.take k).map flip := ⟨_, rfl⟩
      rw [← hl0] at HR HO HTk
      have hll : l0.length = k := by rw [hl0]; simp; omega
      obtain ⟨N, hN⟩ : ∃ N, N = l0.length := ⟨_, rfl⟩
      rw [← hN] at HR HO
      have hbnd : l0.length + 1 ≤ 1099511627776 := by omega
      rw [← hl0, ← hN]
      have HLL := Lib.hid hll
      have hbnd0 := hbnd
      clear hc hN hl0 hll
      rcases hlc with rfl | rfl | rfl | rfl
      · clear hbnd0
        go_wp2_with (at_builtin
                     go_loud (
                       (refine app_B rfl _ _ rfl (.slice oa N oc) l0 rfl (World.ownsRow.alloc HR.out _) _ 1 [65] rfl rfl _ rfl (heap_last _ _) hbnd ?_; intro v' w5 K5 G5 A5
                        have HBG := Lib.hid (brow_grown (W0 := W) (World.ownsRow.alloc HR.out _) (HB.out.alloc HB.out.size _) HO.out G5 A5)
                        have HK5 := Lib.hid K5
                        clear K5 G5 A5)))
        go_roundg (s.size - (k + 1))
        case measure => omega
        case rel => exact ⟨k + 1, (j : Int) - 1, by go_num, by omega, by omega, by omega, by show BRow _ _ _; rw [HTk.out]; exact HK5.out, HBG.out.1, HBG.out.2⟩
      · clear hbnd0
        go_wp2_with (at_builtin
                     go_loud (
                       (refine app_B rfl _ _ rfl (.slice oa N oc) l0 rfl (World.ownsRow.alloc HR.out _) _ 1 [97] rfl rfl _ rfl (heap_last _ _) hbnd ?_; intro v' w5 K5 G5 A5
                        have HBG := Lib.hid (brow_grown (W0 := W) (World.ownsRow.alloc HR.out _) (HB.out.alloc HB.out.size _) HO.out G5 A5)
                        have HK5 := Lib.hid K5
                        clear K5 G5 A5)))
        go_roundg (s.size - (k + 1))
        case measure => omega
        case rel => exact ⟨k + 1, (j : Int) - 1, by go_num, by omega, by omega, by omega, by show BRow _ _ _; rw [HTk.out]; exact HK5.out, HBG.out.1, HBG.out.2⟩
      · clear hbnd0
        go_wp2_with (at_builtin
                     go_loud (
                       (refine app_B rfl _ _ rfl (.slice oa N oc) l0 rfl (World.ownsRow.alloc HR.out _) _ 1 [66] rfl rfl _ rfl (heap_last _ _) hbnd ?_; intro v' w5 K5 G5 A5
                        have HBG := Lib.hid (brow_grown (W0 := W) (World.ownsRow.alloc HR.out _) (HB.out.alloc HB.out.size _) HO.out G5 A5)
                        have HK5 := Lib.hid K5
                        clear K5 G5 A5)))
        go_roundg (s.size - (k + 1))
        case measure => omega
        case rel => exact ⟨k + 1, (j : Int) - 1, by go_num, by omega, by omega, by omega, by show BRow _ _ _; rw [HTk.out]; exact HK5.out, HBG.out.1, HBG.out.2⟩
      · clear hbnd0
        go_wp2_with (at_builtin
                     go_loud (
                       (refine app_B rfl _ _ rfl (.slice oa N oc) l0 rfl (World.ownsRow.alloc HR.out _) _ 1 [98] rfl rfl _ rfl (heap_last _ _) hbnd ?_; intro v' w5 K5 G5 A5
                        have HBG := Lib.hid (brow_grown (W0 := W) (World.ownsRow.alloc HR.out _) (HB.out.alloc HB.out.size _) HO.out G5 A5)
                        have HK5 := Lib.hid K5
                        clear K5 G5 A5)))
        go_roundg (s.size - (k + 1))
        case measure => omega
        case rel => exact ⟨k + 1, (j : Int) - 1, by go_num, by omega, by omega, by omega, by show BRow _ _ _; rw [HTk.out]; exact HK5.out, HBG.out.1, HBG.out.2⟩
    · have hz0 : z = -1 := by omega
      subst hz0
      obtain ⟨oa, oc, rfl⟩ := rown_shape HR.out
      obtain ⟨l0, hl0⟩ : ∃ l0, l0 = (s.data.toList.reverse.take k).map flip := ⟨_, rfl⟩
      rw [← hl0] at HR HO
      have HE : Hid (l0 = invL s.data.toList) := by
        show _ = _
        rw [hl0, List.take_of_length_le (by simp; omega)]; rfl
      have hcb := conv_B HR.out (W' := wr) (fun _ _ => rfl)
      obtain ⟨N, hN⟩ : ∃ N, N = l0.length := ⟨_, rfl⟩
      rw [← hN] at hcb
      rw [← hl0, ← hN]
      clear hl0 hN
      go_wp2_with fail
      refine bodyPost_ret (results_tmp rfl _ _ _) rfl ?_
      exact ⟨by rw [← HE.out]; rfl, HB⟩
end Sr
