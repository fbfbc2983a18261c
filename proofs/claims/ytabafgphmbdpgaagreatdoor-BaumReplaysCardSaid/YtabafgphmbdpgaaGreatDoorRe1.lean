/- Texts of this claim, joined: Chk, Ck, RepP, Sane, RepS, Rep. -/
import Derived.Test.YtabafgphmbdpgaaGreatDoorIn14
import Derived.Deep.AppendLies
import Derived.Deep.RegionHeldLaw
/- Check: pinched anywhere; the closure. -/
namespace Sr
open Go Go.Proofs Go.RowKit Go.Maps Go.WideMaps

/-- is there a pinch at a place, whatever place -/
def pinI (o : List UInt8) (G : List E3) (i : Int) : Bool := decide (0 ≤ i) && decide (i + 1 < (o.length : Int)) && pinAt o G i.toNat

set_option maxHeartbeats 4000000 in
set_option maxRecDepth 100000 in
theorem pinched_out {B : Nat} {W : World} {p : Nat} {ov gv : Value} {l : List Q3} {o : List UInt8} {G : List E3} (h : Rd B W p ov gv l o G) {i : Int} (hi : i < 0 ∨ (o.length : Int) ≤ i + 1) (hl : o.length ≤ 1000000) (h1 : -9223372036854775808 ≤ i) (h2 : i ≤ 9223372036854775807) :
    Calls Tryz.prog 66 #[.pointer (some ⟨p, 0, none⟩), .int .i64 i] W fun e W' => e = .returned (.bool false) ∧ Hid (Below W.heap.size W W') := by
  obtain ⟨oa, oc, rfl⟩ := rown_shape h.out
  have a0 := h.c0
  have w2 : IntKind.i64.wrap ((o.length : Int) - 1) = (o.length : Int) - 1 := by rw [IntKind.wrap_i64]; omega
  clear h
  go_enter Tryz.func66, Tryz.ntmps66
  go_wp2_with fail
  by_cases hn : i < 0
  · have q1 : decide (i < 0) = true := by simpa using hn
    go_quiet (fail)
    go_wp2_with fail
    refine bodyPost_ret (results_tmp rfl _ _ _) rfl ?_
    exact ⟨rfl, below_drewN _ _⟩
  · have q1 : decide (i < 0) = false := by simpa using hn
    have q2 : decide ((o.length : Int) - 1 ≤ i) = true := by simp; omega
    go_quiet (fail)
    go_wp2_with fail
    refine bodyPost_ret (results_tmp rfl _ _ _) rfl ?_
    exact ⟨rfl, below_drewN _ _⟩
theorem pinched_any {B : Nat} {W : World} {p : Nat} {ov gv : Value} {l : List Q3} {o : List UInt8} {G : List E3} (h : Rd B W p ov gv l o G) (hgl : G.length = o.length + 1) (hl : o.length ≤ 1000000) {i : Int} (h1 : -9223372036854775808 ≤ i) (h2 : i ≤ 9223372036854775807) :
    Calls Tryz.prog 66 #[.pointer (some ⟨p, 0, none⟩), .int .i64 i] W fun e W' => e = .returned (.bool (pinI o G i)) ∧ Hid (Below W.heap.size W W') := by
  by_cases hr : 0 ≤ i ∧ i + 1 < (o.length : Int)
  · obtain ⟨j, rfl⟩ : ∃ j : Nat, i = (j : Int) := ⟨i.toNat, by omega⟩
    have hj : j + 1 < o.length := by omega
    have hc := List.getElem?_eq_getElem (show j < o.length by omega)
    have hd := List.getElem?_eq_getElem hj
    have hx := List.getElem?_eq_getElem (show j + 1 < G.length by omega)
    have e : pinI o G (j : Int) = (decide (o[j] ≠ o[j + 1]) && pinB o[j] G[j + 1]) := by
      unfold pinI pinAt
      rw [show ((j : Int)).toNat = j by omega, getD_of hc, getD_of hd, getD_of hx]
      simp [hr.2]
    rw [e]
    exact pinched_calls h hc hd hx hl hgl
  · have e : pinI o G i = false := by
      unfold pinI
      rcases Int.lt_or_le i 0 with h0 | h0
      · simp [show ¬ 0 ≤ i by omega]
      · simp [show ¬ (i + 1 < (o.length : Int)) by omega]
    rw [e]
    exact pinched_out h (by omega) hl h1 h2

/-- steps as they come to Check: places, and bytes -/
abbrev Stp := Int × List UInt8
def SRd (w : World) (v : Value) (S : List Stp) : Prop := ∃ a c, v = .slice a S.length c ∧ ∀ (j : Nat) (s : Stp), S[j]? = some s → (-9223372036854775808 ≤ s.1 ∧ s.1 ≤ 9223372036854775807) ∧ ∃ g u, a = some ⟨g, 0, none⟩ ∧ w.cell? ⟨g, j * 2, none⟩ = some (.int .i64 s.1) ∧ w.cell? ⟨g, j * 2 + 1, none⟩ = some u ∧ BRow w u s.2
theorem SRd.below {w w' : World} {v : Value} {S : List Stp} (h : SRd w v S) (hb : Below w.heap.size w w') : SRd w' v S := by
  obtain ⟨a, c, h0, h1⟩ := h
  refine ⟨a, c, h0, fun j s hs => ?_⟩
  obtain ⟨k0, g, u, k1, k2, k3, k4⟩ := h1 j s hs
  exact ⟨k0, g, u, k1, below_cell hb k2, below_cell hb k3, ownsRow_below k4 hb⟩
/-- the same world but for some blocks that are not older than a bound -/
theorem SRd.fr {B : Nat} {W w w' : World} {v : Value} {S : List Stp} (h : SRd W v S) (hB : Below B W w') (hs : W.heap.size ≤ B) : SRd w' v S := by
  have := w
  exact h.below ⟨hB.os, hB.tape, hB.output, hB.size, fun k hk => hB.block k (by omega)⟩

/-- the word of a step, and what Check makes of steps -/
def chkA (s : Stp) (o : List UInt8) (G : List E3) : Prop := pinI o G s.1 = true
open Classical in
noncomputable def chkE : List Stp → List UInt8 → List E3 → Except Int (List UInt8 × List E3)
  | [], o, G => .ok (o, G)
  | s :: S, o, G =>
    if pinI o G s.1 = true then
      if allowed (pinK o G s.1.toNat) then
        if nbytes (pinK o G s.1.toNat) = s.2 then
          if pinOK (o.getD s.1.toNat 0) (pinK o G s.1.toNat) (G.getD s.1.toNat Zero) (G.getD (s.1.toNat + 2) Zero) then chkE S (pinO o s.1.toNat) (pinG o G s.1.toNat) else .error 5
        else .error 1
      else .error 5
    else .error 1
theorem chkE_nil (o : List UInt8) (G : List E3) : chkE [] o G = .ok (o, G) := rfl
theorem chkE_no {s : Stp} {S : List Stp} {o : List UInt8} {G : List E3} (h : pinI o G s.1 = false) : chkE (s :: S) o G = .error 1 := by
  rw [chkE, if_neg (by simp [h])]
theorem chkE_full {s : Stp} {S : List Stp} {o : List UInt8} {G : List E3} (h : pinI o G s.1 = true) (ha : ¬ allowed (pinK o G s.1.toNat)) : chkE (s :: S) o G = .error 5 := by
  rw [chkE, if_pos h, if_neg ha]
theorem chkE_bytes {s : Stp} {S : List Stp} {o : List UInt8} {G : List E3} (h : pinI o G s.1 = true) (ha : allowed (pinK o G s.1.toNat)) (hb : nbytes (pinK o G s.1.toNat) ≠ s.2) : chkE (s :: S) o G = .error 1 := by
  rw [chkE, if_pos h, if_pos ha, if_neg hb]
theorem chkE_made {s : Stp} {S : List Stp} {o : List UInt8} {G : List E3} (h : pinI o G s.1 = true) (ha : allowed (pinK o G s.1.toNat)) (hb : nbytes (pinK o G s.1.toNat) = s.2) (hp : ¬ pinOK (o.getD s.1.toNat 0) (pinK o G s.1.toNat) (G.getD s.1.toNat Zero) (G.getD (s.1.toNat + 2) Zero)) : chkE (s :: S) o G = .error 5 := by
  rw [chkE, if_pos h, if_pos ha, if_pos hb, if_neg hp]
theorem chkE_yes {s : Stp} {S : List Stp} {o : List UInt8} {G : List E3} (h : pinI o G s.1 = true) (ha : allowed (pinK o G s.1.toNat)) (hb : nbytes (pinK o G s.1.toNat) = s.2) (hp : pinOK (o.getD s.1.toNat 0) (pinK o G s.1.toNat) (G.getD s.1.toNat Zero) (G.getD (s.1.toNat + 2) Zero)) : chkE (s :: S) o G = chkE S (pinO o s.1.toNat) (pinG o G s.1.toNat) := by
  rw [chkE, if_pos h, if_pos ha, if_pos hb, if_pos hp]

theorem equal_calls' {W : World} {v1 v2 : Value} {l1 l2 : List UInt8} (h1 : BRow W v1 l1) (h2 : BRow W v2 l2) : Calls Tryz.prog 68 #[v1, v2] W fun e W' => e = .returned (.bool (decide (l1 = l2))) ∧ W' = W := by
  have e1 := conv_B h1 (W' := W) (fun _ _ => rfl)
  have e2 := conv_B h2 (W' := W) (fun _ _ => rfl)
  refine (Tryz.bytes_Equal_strs v1 v2 _ _ W e1 e2).mono fun e w h => ⟨?_, h.2⟩
  rw [h.1, Lib.toList_data, Lib.toList_data]
  refine congrArg (fun b : Bool => Ending.returned (.bool b)) ?_
  rw [Bool.eq_iff_iff]
  simp
/-- how Check's closure ends -/
structure CkV (b2 b3 : Nat) (o : List UInt8) (G : List E3) (qu qv qm : Option Addr) (w : World) : Prop where
  el : IsE w (.agg #[.pointer qu, .pointer qv, .pointer qm]) (endE o G)
  v2 : w.heap[b2]? = some (.cells #[.int .i64 o.length] 3 (0, 0))
  v3 : w.heap[b3]? = some (.cells #[.pointer qu, .pointer qv, .pointer qm] 28 (0, 0))
def Ck1Q (b2 b3 : Nat) (r : Except Int (List UInt8 × List E3)) (W : World) (e : Ending) (W' : World) : Prop :=
  (∃ o G, r = .ok (o, G) ∧ e = .returned (.tuple #[]) ∧ ∃ qu qv qm, Hid (CkV b2 b3 o G qu qv qm W') ∧ Hid (Fr [b2, b3] W W')) ∨ (∃ n, r = .error n ∧ e = pan n ∧ Hid (Below W.heap.size W W'))
/-- what Check makes of a word and steps -/
noncomputable def checkE (l : List UInt8) (S : List Stp) : Except Int (List UInt8 × List E3) := chkE S (readE l).1 (readE l).2

set_option maxHeartbeats 8000000 in
set_option maxRecDepth 100000 in
theorem check1_any {W : World} {s : ByteArray} (hs : s.size ≤ 1000) {v : Value} {S : List Stp} (hv : SRd W v S) (hSl : S.length ≤ 1000000000) {b0 b1 b2 b3 : Nat} {z0 : Int} {o0 o1 o2 : Option Addr}
    (H : Hid (Has W [(b0, #[.string s], 9), (b1, #[v], 23), (b2, #[.int .i64 z0], 3), (b3, #[.pointer o0, .pointer o1, .pointer o2], 28)])) :
    Calls Tryz.prog 65 #[.pointer (some ⟨b0, 0, none⟩), .pointer (some ⟨b1, 0, none⟩), .pointer (some ⟨b2, 0, none⟩), .pointer (some ⟨b3, 0, none⟩)] W (Ck1Q b2 b3 (checkE s.data.toList S) W) := by
  have HV := Lib.hid hv
  obtain ⟨sa, sc, rfl, -⟩ := hv
  have c0 := H.out.cell (b := b0) (c := #[.string s]) (T := 9) (by simp) 0
  have hRd := read_calls (W := W) s hs
  obtain ⟨n, hn⟩ : ∃ n, n = S.length := ⟨_, rfl⟩
  have HN := Lib.hid hn
  rw [← hn] at H hSl HV
  clear hn
  go_enter Tryz.func65, Tryz.ntmps65
  go_wp2_with fail
  refine hRd.mono ?_
  rintro e w1 ⟨p, ov, gv, l, rfl, hr1, hb1⟩
  have HB1 := Lib.hid hb1.out
  have HLow : Hid (∀ b ∈ rdF p ov gv, W.heap.size ≤ b ∧ b < w1.heap.size) := hr1.out.lows
  have HR0 := Lib.hid hr1.out
  have HH1 := Lib.hid (H.out.below HB1.out)
  have d1 := HH1.out.cell (b := b1) (c := #[.slice sa n sc]) (T := 23) (by simp) 0
  clear hRd hr1 hb1 c0
  go_wp2_with fail
  go_loopg [12] n (fun g1 kv wr => ∃ (k : Nat) (o' : List UInt8) (G' : List E3) (ov' gv' : Value) (l' : List Q3), kv = .int .i64 k ∧ k ≤ n ∧ n - k ≤ g1 ∧ o'.length ≤ 1000 ∧ Hid (G'.length = o'.length + 1) ∧ Hid (Rd W.heap.size wr p ov' gv' l' o' G') ∧ Hid (ov'.ownBlock = ov.ownBlock ∧ gv'.ownBlock = gv.ownBlock) ∧ Hid (Fr (rdF p ov gv) w1 wr) ∧ Hid (checkE s.data.toList S = chkE (S.drop k) o' G'))
  case atStart => exact ⟨0, _, _, ov, gv, l, rfl, by omega, by omega, by have := readE_out s.data.toList; simp at this; omega, readE_len _, HR0, ⟨rfl, rfl⟩, Fr.refl _ _, rfl⟩
  case round =>
    clear HR0 d1
    obtain ⟨k, o', G', ov', gv', l', rfl, hkn, hg, hol, HGl, HR, HOw, HF, HE⟩ := hrel
    have HBr : Hid (Below W.heap.size W wr) := below_fr HB1.out (Nat.le_refl _) (fun b hb => (HLow.out b hb).1) HF.out
    have hWr : W.heap.size ≤ wr.heap.size := HBr.out.size
    by_cases hk : k < n
    · have hkz : (k : Int) < (n : Int) := by omega
      have hk0 : (0 : Int) ≤ (k : Int) := Int.natCast_nonneg k
      have hkw : IntKind.i64.wrap ((k : Int) + 1) = (k : Int) + 1 := IntWalk.i64_in _ (by omega)
      obtain ⟨st, hst⟩ : ∃ st, S[k]? = some st := ⟨_, List.getElem?_eq_getElem (by rw [← HN.out]; exact hk)⟩
      obtain ⟨a', c', he, hcell⟩ := HV.out
      have he' := Value.slice.inj he
      obtain ⟨rfl, -, rfl⟩ := he'
      clear he
      obtain ⟨⟨at1, at2⟩, sg, u, rfl, k2, k3, k4⟩ := hcell k st hst
      obtain ⟨at', pw⟩ := st
      dsimp only at at1 at2 k2 k3 k4
      have ca := below_cell HBr.out k2
      have cu := below_cell HBr.out k3
      obtain ⟨ua, uc, hu⟩ := rown_shape k4
      obtain ⟨ul, hul⟩ : ∃ ul, ul = pw.length := ⟨_, rfl⟩
      rw [← hul] at hu
      subst hu
      have HU := Lib.hid (ownsRow_below k4 HBr.out)
      have HDr : Hid (S.drop k = (at', pw) :: S.drop (k + 1)) := by show _ = _; rw [List.drop_eq_getElem_cons (by rw [← HN.out]; exact hk)]; congr 1; exact (List.getElem?_eq_some_iff.1 hst).2
      have HD2 : Hid (Below wr.heap.size wr (wr.alloc (.cells #[.int .i64 at', .slice ua ul uc] 42))) := (Below.refl _ _).alloc (Nat.le_refl _) _
      have HR2 := Lib.hid (HR.out.below HD2.out)
      have X2 : Hid ((wr.alloc (.cells #[.int .i64 at', .slice ua ul uc] 42)).heap[wr.heap.size]? = some (.cells #[.int .i64 at', .slice ua ul uc] 42 (0, 0))) := heap_last wr _
      have hPi := pinched_any HR2.out HGl.out (by omega) at1 at2
      clear hcell k2 k3 k4 hul hst
      by_cases hpin : pinI o' G' at' = true
      · obtain ⟨i, rfl⟩ : ∃ i : Nat, at' = (i : Int) := by
          unfold pinI at hpin
          simp only [Bool.and_eq_true, decide_eq_true_eq] at hpin
          exact ⟨at'.toNat, by omega⟩
        have hlt : i + 1 < o'.length := by
          unfold pinI at hpin
          simp only [Bool.and_eq_true, decide_eq_true_eq] at hpin
          omega
        rw [hpin] at hPi
        have HPin := Lib.hid hpin
        have HPat : Hid (pinAt o' G' i = true) := by
          show _ = _
          unfold pinI at hpin
          simp only [Bool.and_eq_true, decide_eq_true_eq] at hpin
          have := hpin.2
          rwa [show ((i : Int)).toNat = i by omega] at this
        obtain ⟨c, hc⟩ : ∃ c, o'[i]? = some c := ⟨_, List.getElem?_eq_getElem (by omega)⟩
        obtain ⟨x0, hx0⟩ : ∃ x, G'[i]? = some x := ⟨_, List.getElem?_eq_getElem (by rw [HGl.out]; omega)⟩
        obtain ⟨x1, hx1⟩ : ∃ x, G'[i + 1]? = some x := ⟨_, List.getElem?_eq_getElem (by rw [HGl.out]; omega)⟩
        obtain ⟨x2, hx2⟩ : ∃ x, G'[i + 2]? = some x := ⟨_, List.getElem?_eq_getElem (by rw [HGl.out]; omega)⟩
        have HC := Lib.hid hc
        have HX0 := Lib.hid hx0
        have HX1 := Lib.hid hx1
        have HX2 := Lib.hid hx2
        have HHB : Hid (c = 98 → (x1.u = 0 ∨ 0 ≤ x1.v)) := fun hcb => by
          have h := HPat.out
          unfold pinAt at h
          rw [getD_of hc, getD_of hx1] at h
          simp only [pinB, hcb, Bool.and_eq_true, if_pos, decide_eq_true_eq] at h
          exact h.2.2
        have HKe : Hid (pinK o' G' i = powE c x1) := by show _ = _; unfold pinK; rw [getD_of hc, getD_of hx1]
        have hti : ((i : Int)).toNat = i := by omega
        have HTi := Lib.hid hti
        clear hpin hc hx0 hx1 hx2 at1 at2 hti
        go_wp2_with fail
        refine hPi.mono ?_
        rintro e w3 ⟨rfl, hb3⟩
        have HB3 := Lib.hid (Below.trans' HD2.out hb3.out)
        have HR3 := Lib.hid (HR.out.below HB3.out)
        have X3 := Lib.hid (Below.here hb3.out X2.out)
        have e0 := cell_of X3.out 0
        have hPw := power_any HR3.out HC.out HX1.out (by omega) HGl.out HHB.out
        clear hPi hb3 ca cu
        go_wp2_with fail
        refine hPw.mono ?_
        rintro e w4 (⟨hok4, q4, rfl, hi4, hb4⟩ | ⟨hno, rfl, hb4⟩)
        rotate_left
        · refine And.intro rfl ?_
          refine Or.inr ⟨5, ?_, rfl, ?_⟩
          · rw [HE.out, HDr.out, chkE_full HPin.out (by dsimp only; rw [HTi.out, HKe.out]; exact hno)]
          · exact below_fr HBr.out (Nat.le_refl _) (F := []) (by simp) (Fr.of_below (Below.trans' HB3.out hb4.out))
        have HA4 := Lib.hid hok4
        have HB5 : Hid (Below wr.heap.size wr (w4.alloc (.cells #[.pointer q4] 26))) := (Below.trans' HB3.out hb4.out).alloc (Below.trans' HB3.out hb4.out).size _
        have HD5 : Hid (Below w4.heap.size w4 (w4.alloc (.cells #[.pointer q4] 26))) := (Below.refl _ _).alloc (Nat.le_refl _) _
        have HI5 : Hid (IsN (w4.alloc (.cells #[.pointer q4] 26)) (.agg #[.pointer q4]) (powE c x1)) := hi4.out.below HD5.out
        have X5 := Lib.hid (Below.here HD5.out (Below.here hb4.out X3.out))
        have Y5 : Hid ((w4.alloc (.cells #[.pointer q4] 26)).heap[w4.heap.size]? = some (.cells #[.pointer q4] 26 (0, 0))) := heap_last w4 _
        have HU5 := Lib.hid (ownsRow_below HU.out HB5.out)
        clear hPw hok4 hi4 hb4 e0
        go_wp2_with fail
        have hBt := Bytes_calls (W := (w4.alloc (.cells #[.pointer q4] 26)).drew) (HI5.out.below ((Below.refl _ _).drew))
        have HK : Hid (∀ w' : World, Below (w4.alloc (.cells #[.pointer q4] 26)).heap.size (w4.alloc (.cells #[.pointer q4] 26)) w' → w'.cell? ⟨w4.heap.size, 0, none⟩ = some (.pointer q4) ∧ w'.cell? ⟨wr.heap.size, 1, none⟩ = some (.slice ua ul uc)) := fun w' hb => ⟨by rw [cell_of (Below.here hb Y5.out)]; rfl, by rw [cell_of (Below.here hb X5.out)]; rfl⟩
        have HKb : Hid (allowed (pinK o' G' i)) := by show allowed _; rw [HKe.out]; exact HA4.out
        obtain ⟨tb, htb⟩ : ∃ tb, decide (nbytes (powE c x1) = pw) = tb := ⟨_, rfl⟩
        have HTb := Lib.hid htb
        clear htb
        go_region_held2 (fun w' => w'.cell? ⟨w4.heap.size, 0, none⟩ = some (.pointer q4) ∧ w'.cell? ⟨wr.heap.size, 1, none⟩ = some (.slice ua ul uc))
          (first | exact HK.out _ ((Below.refl _ _).drew) | exact HK.out _ HB6.out)
          (first
            | (go_at_call 69
               refine hBt.mono ?_
               rintro e w6 ⟨bv, rfl, hbr, hb6, hbo⟩
               have HB6 : Hid (Below (w4.alloc (.cells #[.pointer q4] 26)).heap.size (w4.alloc (.cells #[.pointer q4] 26)) w6) := Below.trans' ((Below.refl _ _).drew) hb6.out
               have hEq := equal_calls' hbr.out (ownsRow_below HU5.out HB6.out)
               rw [HTb.out] at hEq
               clear hbr hb6 hbo hBt)
            | (go_at_call 68
               refine hEq.mono ?_
               rintro e w7 ⟨rfl, hw7⟩
               have hw7' : w7 = w6 := hw7
               subst hw7'
               clear hEq hw7))
        all_goals
          have HB7 := Lib.hid (Below.trans' HB5.out HB6.out)
          have HR7 := Lib.hid (HR.out.below HB7.out)
          have HI7 := Lib.hid (HI5.out.below HB6.out)
          have X7 := Lib.hid (Below.here HB6.out X5.out)
          have Y7 := Lib.hid (Below.here HB6.out Y5.out)
          have e0 := cell_of X7.out 0
          have e4 := cell_of Y7.out 0
          clear HK
          cases tb
          rotate_left
          · have hbe : nbytes (powE c x1) = pw := by simpa using HTb.out
            have HBE : Hid (nbytes (pinK o' G' i) = pw) := by show _ = _; rw [HKe.out]; exact hbe
            clear hbe
            have hPc := pinch_any HR7.out HC.out hlt HX0.out HX2.out (by omega) HGl.out HI7.out
            have HPo : Hid (pinOK c (powE c x1) x0 x2 = pinOK (o'.getD i 0) (pinK o' G' i) (G'.getD i Zero) (G'.getD (i + 2) Zero)) := by show _ = _; rw [getD_of HC.out, HKe.out, getD_of HX0.out, getD_of HX2.out]
            have HPg : Hid (G'.take i ++ [pinX c (powE c x1) x0 x2] ++ G'.drop (i + 3) = pinG o' G' i) := by show _ = _; unfold pinG; rw [getD_of HC.out, HKe.out, getD_of HX0.out, getD_of HX2.out]
            have HF7 : Hid (Fr (rdF p ov gv) w1 w7) := HF.out.pre (Fr.of_below HB7.out)
            go_wp2_with fail
            refine hPc.mono ?_
            rintro e w9 (⟨hok9, ob, gb, hob, hgb, rfl, ov9, gv9, l9, hr9, ho9, hf9⟩ | ⟨hno, rfl, hb9⟩)
            rotate_left
            · refine And.intro rfl ?_
              refine Or.inr ⟨5, ?_, rfl, ?_⟩
              · rw [HE.out, HDr.out, chkE_made HPin.out (by dsimp only; rw [HTi.out]; exact HKb.out) (by dsimp only; rw [HTi.out]; exact HBE.out) (by dsimp only; rw [HTi.out, ← HPo.out]; exact hno)]
              · exact below_fr HBr.out (Nat.le_refl _) (F := []) (by simp) (Fr.of_below (Below.trans' HB7.out hb9.out))
            have HOK9 : Hid (pinOK (o'.getD i 0) (pinK o' G' i) (G'.getD i Zero) (G'.getD (i + 2) Zero)) := by show pinOK _ _ _ _; rw [← HPo.out]; exact hok9
            have hmem : ∀ b ∈ [p, ob, gb], b ∈ rdF p ov gv := fun b hb => by
              have h1 := HOw.out.1; have h2 := HOw.out.2
              rw [hob] at h1; rw [hgb] at h2
              unfold rdF; rw [← h1, ← h2]
              simpa using hb
            have HF9 : Hid (Fr (rdF p ov gv) w1 w9) := HF7.out.pre (hf9.out.more hmem)
            have HR9 : Hid (Rd W.heap.size w9 p ov9 gv9 l9 (pinO o' i) (pinG o' G' i)) := by
              show Rd _ _ _ _ _ _ _ _
              rw [← HPg.out]; exact hr9.out
            have HO9 : Hid (ov9.ownBlock = ov.ownBlock ∧ gv9.ownBlock = gv.ownBlock) := ⟨ho9.out.1.trans (hob.symm.trans HOw.out.1), ho9.out.2.trans (hgb.symm.trans HOw.out.2)⟩
            have hpl := pinO_len hlt
            clear hPc hob hgb hr9 ho9 hf9 hok9 hmem e0 e4
            go_wp2_with fail
            go_roundg (n - (k + 1))
            case measure => omega
            case rel => exact ⟨k + 1, pinO o' i, pinG o' G' i, ov9, gv9, l9, by go_num, by omega, by omega, by omega, pinG_len hlt HGl.out, HR9, HO9, HF9, by show _ = _; rw [HE.out, HDr.out, chkE_yes HPin.out (by dsimp only; rw [HTi.out]; exact HKb.out) (by dsimp only; rw [HTi.out]; exact HBE.out) (by dsimp only; rw [HTi.out]; exact HOK9.out)]; dsimp only; rw [HTi.out]⟩
          · have hbe : ¬ (nbytes (powE c x1) = pw) := by simpa using HTb.out
            have HBE : Hid (nbytes (pinK o' G' i) ≠ pw) := by show _ ≠ _; rw [HKe.out]; exact hbe
            clear hbe
            go_wp2_with fail
            refine And.intro rfl ?_
            refine Or.inr ⟨1, ?_, rfl, ?_⟩
            · rw [HE.out, HDr.out, chkE_bytes HPin.out (by dsimp only; rw [HTi.out]; exact HKb.out) (by dsimp only; rw [HTi.out]; exact HBE.out)]
            · exact below_fr HBr.out (Nat.le_refl _) (F := []) (by simp) (Fr.of_below HB7.out)
      · have hpf : pinI o' G' at' = false := by simpa using hpin
        rw [hpf] at hPi
        have HPin := Lib.hid hpf
        clear hpin hpf at1 at2
        go_wp2_with fail
        refine hPi.mono ?_
        rintro e w3 ⟨rfl, hb3⟩
        have HB3 := Lib.hid (Below.trans' HD2.out hb3.out)
        clear hPi hb3 ca cu
        go_wp2_with fail
        refine And.intro rfl ?_
        refine Or.inr ⟨1, ?_, rfl, ?_⟩
        · rw [HE.out, HDr.out, chkE_no HPin.out]
        · exact below_fr HBr.out (Nat.le_refl _) (F := []) (by simp) (Fr.of_below HB3.out)
    · have hkz : ¬ ((k : Int) < (n : Int)) := by omega
      have HFin : Hid (checkE s.data.toList S = .ok (o', G')) := by
        show _ = _
        rw [HE.out, List.drop_of_length_le (by rw [← HN.out]; omega), chkE_nil]
      have hEn := end_calls HR.out HGl.out (by omega)
      have HHr := Lib.hid (H.out.below HBr.out)
      go_wp2_with fail
      refine hEn.mono ?_
      rintro e w4 ⟨qu, qv, qm, rfl, hie, hb4⟩
      have HB4 := Lib.hid (Below.trans' HBr.out hb4.out)
      have HH4 := Lib.hid (HHr.out.below hb4.out)
      have y2 := HH4.out (b2, #[.int .i64 z0], 3) (by simp)
      have y3 := HH4.out (b3, #[.pointer o0, .pointer o1, .pointer o2], 28) (by simp)
      dsimp only at y2 y3
      have Z2 := Lib.hid y2
      have Z3 := Lib.hid y3
      have HIE := Lib.hid hie.out
      have d2 := cell_of Z2.out 0
      have f2 := free_of Z2.out 0
      have n23 : b2 ≠ b3 := type_ne Z2.out Z3.out (by decide)
      have d3 := cell_of Z3.out 0
      have d31 := cell_of Z3.out 1
      have d32 := cell_of Z3.out 2
      have f3 := free_of Z3.out 0
      have f31 := free_of Z3.out 1
      have f32 := free_of Z3.out 2
      clear hEn hie hb4 y2 y3
      go_wp2_with fail
      go_end0
      have k2 : (w4.setCell ⟨b2, 0, none⟩ (.int .i64 o'.length)).heap[b2]? = some (.cells #[.int .i64 o'.length] 3 (0, 0)) := heap_setCell_same w4 b2 0 _ 3 _ Z2.out
      have k3 : (w4.setCell ⟨b2, 0, none⟩ (.int .i64 o'.length)).heap[b3]? = some (.cells #[.pointer o0, .pointer o1, .pointer o2] 28 (0, 0)) := (RowKit.Below.heap_setCell _ _ _ _ (type_ne Z3.out Z2.out (by decide))).trans Z3.out
      refine Or.inl ⟨o', G', HFin.out, rfl, qu, qv, qm, ⟨?_, ?_, ?_⟩, ?_⟩
      · exact IsE.store3 (HIE.out.set Z2.out _) k3
      · exact (set3_block _ (type_ne k2 k3 (by decide)) _ _ _).trans k2
      · exact set3_same k3
      · exact ((((Fr.of_below HB4.out).pre (fr_setCell _ _ (by simp))).pre (fr_setCell _ _ (by simp))).pre (fr_setCell _ _ (by simp))).pre (fr_setCell _ _ (by simp))
end Sr
/- Check. -/
namespace Sr
open Go Go.Proofs Go.RowKit Go.Maps Go.WideMaps

set_option maxRecDepth 100000 in
theorem eg65 (args : Array Value) (w : World) : (callFunc 65 args).run Tryz.prog w = .ok (.enter 65 args) w := by kernel_rfl

theorem chkE_err {S : List Stp} : ∀ {o : List UInt8} {G : List E3} {n : Int}, chkE S o G = .error n → n = 1 ∨ n = 5 := by
  induction S with
  | nil => intro o G n h; rw [chkE_nil] at h; cases h
  | cons s S ih =>
    intro o G n h
    rw [chkE] at h
    split at h
    · split at h
      · split at h
        · split at h
          · exact ih h
          · cases h; exact .inr rfl
        · cases h; exact .inl rfl
      · cases h; exact .inr rfl
    · cases h; exact .inl rfl

theorem CkV.set {b2 b3 : Nat} {o : List UInt8} {G : List E3} {qu qv qm : Option Addr} {w : World} (h : CkV b2 b3 o G qu qv qm w) {b k : Nat} {c : Array Value} {z : Nat × Nat} (hb : w.heap[b]? = some (.cells c 29 z)) (v : Value) :
    CkV b2 b3 o G qu qv qm (w.setCell ⟨b, k, none⟩ v) := {
  el := h.el.set hb v
  v2 := (RowKit.Below.heap_setCell _ _ _ _ (type_ne h.v2 hb (by decide))).trans h.v2
  v3 := (RowKit.Below.heap_setCell _ _ _ _ (type_ne h.v3 hb (by decide))).trans h.v3 }

/-- how Check ends -/
def CkQ (l : List UInt8) (S : List Stp) (W : World) (e : Ending) (W' : World) : Prop :=
  Hid (Below W.heap.size W W') ∧ ((isWordL l = false ∧ e = .returned (.tuple #[.int .i64 0, .agg #[.pointer none, .pointer none, .pointer none], .int .i64 2])) ∨
    (∃ n, isWordL l = true ∧ checkE l S = .error n ∧ e = .returned (.tuple #[.int .i64 0, .agg #[.pointer none, .pointer none, .pointer none], .int .i64 n])) ∨
    (isWordL l = true ∧ ∃ o G, checkE l S = .ok (o, G) ∧ ∃ qu qv qm, e = .returned (.tuple #[.int .i64 o.length, .agg #[.pointer qu, .pointer qv, .pointer qm], .int .i64 0]) ∧ Hid (IsE W' (.agg #[.pointer qu, .pointer qv, .pointer qm]) (endE o G))))

set_option maxHeartbeats 8000000 in
set_option maxRecDepth 100000 in
theorem Check_any {W : World} {s : ByteArray} (hs : s.size ≤ 9223372036854775807) {v : Value} {S : List Stp} (hv : SRd W v S) (hSl : S.length ≤ 1000000000) : Calls Tryz.prog 33 #[.string s, v] W (CkQ s.data.toList S W) := by
  have HV := Lib.hid hv
  obtain ⟨sa, sc, rfl, -⟩ := hv
  obtain ⟨n, hn⟩ : ∃ n, n = S.length := ⟨_, rfl⟩
  rw [← hn] at hSl HV
  have HN := Lib.hid hn
  rw [show (Value.slice sa S.length sc) = .slice sa n sc by rw [hn]]
  clear hn
  obtain ⟨W4, hW4⟩ : ∃ W4, W4 = (((W.alloc (.cells #[.string s] 9)).alloc (.cells #[.slice sa n sc] 23)).alloc (.cells #[.int .i64 0] 3)).alloc (.cells #[.pointer none, .pointer none, .pointer none] 28) := ⟨_, rfl⟩
  have HW4 := Lib.hid hW4
  have HB4 : Hid (Below W.heap.size W W4) := by show Below _ _ _; rw [hW4]; exact ((((Below.refl _ _).alloc (Nat.le_refl _) _).alloc (by simp) _).alloc (by simp; omega) _).alloc (by simp; omega) _
  have HH : Hid (Has W4 [(W.heap.size, #[.string s], 9), (W.heap.size + 1, #[.slice sa n sc], 23), (W.heap.size + 1 + 1, #[.int .i64 0], 3), (W.heap.size + 1 + 1 + 1, #[.pointer none, .pointer none, .pointer none], 28)]) := by
    show Has _ _
    have h := ((((Has.nil W).add #[.string s] 9).add #[.slice sa n sc] 23).add #[.int .i64 0] 3).add #[.pointer none, .pointer none, .pointer none] 28
    rw [size_alloc, size_alloc, size_alloc] at h
    rw [hW4]; exact fun p hp => h p (by simp at hp ⊢; rcases hp with rfl | rfl | rfl | rfl <;> simp)
  have hz4 : Hid (W4.heap.size = W.heap.size + 4) := by show _ = _; rw [hW4]; simp
  clear hW4
  have hIw := isWord_calls s W4 hs
  by_cases hw : isWordL s.data.toList = true
  · rw [hw] at hIw
    have HWd := Lib.hid hw
    have hsz := isWordL_size hw
    clear hw
    go_enter Tryz.func33, Tryz.ntmps33
    go_wp2_with fail
    rw [show (((W.alloc (.cells #[.string s] 9)).alloc (.cells #[.slice sa n sc] 23)).alloc (.cells #[.int .i64 0] 3)).alloc (.cells #[.pointer none, .pointer none, .pointer none] 28) = W4 from HW4.out.symm]
    refine hIw.mono ?_
    rintro e w1 ⟨rfl, hb1⟩
    have HB1 := Lib.hid (Below.trans' HB4.out hb1.out)
    have HH1 := Lib.hid (HH.out.below hb1.out)
    have hz1 : W.heap.size + 4 ≤ w1.heap.size := by have := hb1.out.size; have := hz4.out; omega
    clear hIw hb1
    have HB3 : Hid (Below w1.heap.size w1 (w1.alloc (.cells #[.int .i64 0] 29))) := (Below.refl _ _).alloc (Nat.le_refl _) _
    have HH3 := Lib.hid (HH1.out.below HB3.out)
    have hC := check1_any (W := w1.alloc (.cells #[.int .i64 0] 29)) (s := s) (by omega) (HV.out.below (Below.trans' HB1.out HB3.out)) (by rw [← HN.out]; exact hSl) HH3
    have hG := guarded_any (W := w1) (R := fun k W1 => Below W.heap.size W W1 ∧ ((k = 0 ∧ ∃ o G qu qv qm, checkE s.data.toList S = .ok (o, G) ∧ CkV (W.heap.size + 1 + 1) (W.heap.size + 1 + 1 + 1) o G qu qv qm W1) ∨ (checkE s.data.toList S = .error k ∧ Has W1 [(W.heap.size + 1 + 1, #[.int .i64 0], 3), (W.heap.size + 1 + 1 + 1, #[.pointer none, .pointer none, .pointer none], 28)]))) eg65 (hC.mono fun e w h => by
      rcases h with ⟨o, G, hr, rfl, qu, qv, qm, hv, hf⟩ | ⟨k, hr, rfl, hb⟩
      · refine ⟨.inl ⟨rfl, ?_, .inl ⟨rfl, o, G, qu, qv, qm, hr, hv.out⟩⟩, ?_⟩
        · exact below_fr (below_fr HB1.out (Nat.le_refl _) (F := []) (by simp) (Fr.of_below HB3.out)) (Nat.le_refl _) (by intro b hb; simp at hb; omega) hf.out
        · exact (hf.out.block _ (by simp) (by simp; omega)).trans (heap_last w1 _)
      · refine ⟨.inr ⟨k, rfl, ?_, .inr ⟨hr, ?_⟩⟩, ?_⟩
        · exact Below.trans' HB1.out (Below.trans' HB3.out hb.out)
        · exact fun p hp => (HH3.out.below hb.out) p (by simp at hp ⊢; rcases hp with rfl | rfl <;> simp)
        · exact Below.here hb.out (heap_last w1 _))
    clear hC
    go_wp2_with fail
    refine hG.mono ?_
    rintro e w ⟨k, W1, rfl, hR, h29, he⟩
    obtain ⟨hbl, hcase⟩ := hR.out
    have HBw : Hid (Below W.heap.size W w) := by show Below _ _ _; rw [he]; exact hbl.setCell (by show W.heap.size ≤ w1.heap.size; omega) _
    rcases hcase with ⟨rfl, o, G, qu, qv, qm, hr, hv⟩ | ⟨hr, hv⟩
    · have HV' : Hid (CkV (W.heap.size + 1 + 1) (W.heap.size + 1 + 1 + 1) o G qu qv qm w) := by show CkV _ _ _ _ _ _ _ _; rw [he]; exact hv.set h29.out _
      have HRr : Hid (checkE s.data.toList S = .ok (o, G)) := hr
      have v2 := cell_of HV'.out.v2 0
      have v30 := cell_of HV'.out.v3 0
      have v31 := cell_of HV'.out.v3 1
      have v32 := cell_of HV'.out.v3 2
      have f2 := free_of HV'.out.v2 0
      have f30 := free_of HV'.out.v3 0
      have f31 := free_of HV'.out.v3 1
      have f32 := free_of HV'.out.v3 2
      have e2 : w.setCell ⟨W.heap.size + 1 + 1, 0, none⟩ (.int .i64 o.length) = w := setCell_self v2
      have e30 : w.setCell ⟨W.heap.size + 1 + 1 + 1, 0, none⟩ (.pointer qu) = w := setCell_self v30
      have e31 : w.setCell ⟨W.heap.size + 1 + 1 + 1, 1, none⟩ (.pointer qv) = w := setCell_self v31
      have e32 : w.setCell ⟨W.heap.size + 1 + 1 + 1, 2, none⟩ (.pointer qm) = w := setCell_self v32
      clear hr hv he hR h29 hG hbl
      go_wp2_with fail
      go_region_law (fail)
      all_goals
        try simp only [e2, e30, e31, e32]
        go_wp2_with fail
        refine bodyPost_ret (v := .tuple #[.int .i64 o.length, .agg #[.pointer qu, .pointer qv, .pointer qm], .int .i64 0]) (by simp [results, Tryz.results33, go_sem, v2, v30, v31, v32]) rfl ?_
        exact ⟨HBw.out.drew, .inr (.inr ⟨HWd.out, o, G, HRr.out, qu, qv, qm, rfl, HV'.out.el.below (Below.refl _ _).drew⟩)⟩
    · have HRr : Hid (checkE s.data.toList S = .error k) := hr
      have hk : decide (k = 0) = false := by rcases chkE_err hr with rfl | rfl <;> rfl
      have hk1 : k ≠ 0 := by simpa using hk
      have HHw : Hid (Has w [(W.heap.size + 1 + 1, #[.int .i64 0], 3), (W.heap.size + 1 + 1 + 1, #[.pointer none, .pointer none, .pointer none], 28)]) := by
        show Has _ _; rw [he]
        intro p hp
        refine (RowKit.Below.heap_setCell _ _ _ _ ?_).trans (hv p hp)
        simp at hp
        rcases hp with rfl | rfl
        · exact type_ne (hv (W.heap.size + 1 + 1, #[.int .i64 0], 3) (by simp)) h29.out (by dsimp only; decide)
        · exact type_ne (hv (W.heap.size + 1 + 1 + 1, #[.pointer none, .pointer none, .pointer none], 28) (by simp)) h29.out (by dsimp only; decide)
      have y2 := HHw.out (W.heap.size + 1 + 1, #[.int .i64 0], 3) (by simp)
      have y3 := HHw.out (W.heap.size + 1 + 1 + 1, #[.pointer none, .pointer none, .pointer none], 28) (by simp)
      dsimp only at y2 y3
      have v2 := cell_of y2 0
      have v30 := cell_of y3 0
      have v31 := cell_of y3 1
      have v32 := cell_of y3 2
      have f2 := free_of y2 0
      have f30 := free_of y3 0
      have f31 := free_of y3 1
      have f32 := free_of y3 2
      clear hr hv he hR h29 hG hbl y2 y3
      go_wp2_with fail
      refine bodyPost_ret (v := .tuple #[.int .i64 0, .agg #[.pointer none, .pointer none, .pointer none], .int .i64 k]) (by simp [results, Tryz.results33, go_sem, v2, v30, v31, v32]) rfl ?_
      refine ⟨?_, .inr (.inl ⟨k, HWd.out, HRr.out, rfl⟩)⟩
      exact (((HBw.out.setCell (by show W.heap.size ≤ W.heap.size + 1 + 1; omega) _).setCell (by show W.heap.size ≤ W.heap.size + 1 + 1 + 1; omega) _).setCell (by show W.heap.size ≤ W.heap.size + 1 + 1 + 1; omega) _).setCell (by show W.heap.size ≤ W.heap.size + 1 + 1 + 1; omega) _
  · have hwf : isWordL s.data.toList = false := by simpa using hw
    rw [hwf] at hIw
    have HWd := Lib.hid hwf
    clear hw hwf
    go_enter Tryz.func33, Tryz.ntmps33
    go_wp2_with fail
    rw [show (((W.alloc (.cells #[.string s] 9)).alloc (.cells #[.slice sa n sc] 23)).alloc (.cells #[.int .i64 0] 3)).alloc (.cells #[.pointer none, .pointer none, .pointer none] 28) = W4 from HW4.out.symm]
    refine hIw.mono ?_
    rintro e w ⟨rfl, hb1⟩
    have HBw := Lib.hid (Below.trans' HB4.out hb1.out)
    have HHw := Lib.hid (HH.out.below hb1.out)
    have y2 := HHw.out (W.heap.size + 1 + 1, #[.int .i64 0], 3) (by simp)
    have y3 := HHw.out (W.heap.size + 1 + 1 + 1, #[.pointer none, .pointer none, .pointer none], 28) (by simp)
    dsimp only at y2 y3
    have v2 := cell_of y2 0
    have v30 := cell_of y3 0
    have v31 := cell_of y3 1
    have v32 := cell_of y3 2
    have f2 := free_of y2 0
    have f30 := free_of y3 0
    have f31 := free_of y3 1
    have f32 := free_of y3 2
    clear hIw hb1 y2 y3
    go_wp2_with fail
    refine bodyPost_ret (v := .tuple #[.int .i64 0, .agg #[.pointer none, .pointer none, .pointer none], .int .i64 2]) (by simp [results, Tryz.results33, go_sem, v2, v30, v31, v32]) rfl ?_
    refine ⟨?_, .inl ⟨HWd.out, rfl⟩⟩
    exact (((HBw.out.setCell (by show W.heap.size ≤ W.heap.size + 1 + 1; omega) _).setCell (by show W.heap.size ≤ W.heap.size + 1 + 1 + 1; omega) _).setCell (by show W.heap.size ≤ W.heap.size + 1 + 1 + 1; omega) _).setCell (by show W.heap.size ≤ W.heap.size + 1 + 1 + 1; omega) _
end Sr
/- The plain law of BaumReplays. -/
namespace Sr

noncomputable def stB (t : Nat × Int) : Stp := ((t.1 : Int), nbytes t.2)

theorem pinI_of {o : List UInt8} {G : List E3} {i : Nat} (h : i + 1 < o.length) (hp : pinAt o G i = true) : pinI o G (i : Int) = true := by
  unfold pinI
  rw [show ((i : Int)).toNat = i by omega, hp]
  simp; omega

/-- the steps of the reduction are accepted -/
theorem chk_red : ∀ (m : Nat) {o : List UInt8} {G : List E3} {i : Nat} {st : List (Nat × Int)} {o' : List UInt8} {G' : List E3}, 2 * o.length - i ≤ m → redE o G i = some (st, o', G') → chkE (st.map stB) o G = .ok (o', G') := by
  intro m
  induction m with
  | zero =>
    intro o G i st o' G' hm h
    rw [redE_end (by omega)] at h
    cases h
    rfl
  | succ m ih =>
    intro o G i st o' G' hm h
    by_cases hi : i + 1 < o.length
    · by_cases hp : pinAt o G i = true
      · by_cases ha : pinA o G i
        · rw [redE_yes hi hp ha] at h
          cases hr : redE (pinO o i) (pinG o G i) (i - 1) with
          | none => rw [hr] at h; cases h
          | some r =>
            obtain ⟨st1, o1, G1⟩ := r
            rw [hr] at h
            cases h
            have := pinO_len hi
            rw [List.map_cons, chkE_yes (s := stB (i, pinK o G i)) (pinI_of hi hp) ha.1 rfl ha.2]
            exact ih (by show 2 * (pinO o i).length - (i - 1) ≤ m; omega) hr
        · rw [redE_full hi hp ha] at h; cases h
      · rw [redE_no hi (by simpa using hp)] at h
        exact ih (by omega) h
    · rw [redE_end hi] at h
      cases h
      rfl

theorem chk_append : ∀ {A : List Stp} {B : List Stp} {o : List UInt8} {G : List E3} {o' : List UInt8} {G' : List E3}, chkE (A ++ B) o G = .ok (o', G') → ∃ o1 G1, chkE A o G = .ok (o1, G1) ∧ (∀ C, chkE (A ++ C) o G = chkE C o1 G1) ∧ chkE B o1 G1 = .ok (o', G') := by
  intro A
  induction A with
  | nil => intro B o G o' G' h; exact ⟨o, G, rfl, fun C => rfl, h⟩
  | cons s A ih =>
    intro B o G o' G' h
    rw [List.cons_append] at h
    by_cases h1 : pinI o G s.1 = true
    · by_cases h2 : allowed (pinK o G s.1.toNat)
      · by_cases h3 : nbytes (pinK o G s.1.toNat) = s.2
        · by_cases h4 : pinOK (o.getD s.1.toNat 0) (pinK o G s.1.toNat) (G.getD s.1.toNat Zero) (G.getD (s.1.toNat + 2) Zero)
          · rw [chkE_yes h1 h2 h3 h4] at h
            obtain ⟨o1, G1, k1, k2, k3⟩ := ih h
            exact ⟨o1, G1, by rw [chkE_yes h1 h2 h3 h4]; exact k1, fun C => by rw [List.cons_append, chkE_yes h1 h2 h3 h4]; exact k2 C, k3⟩
          · rw [chkE_made h1 h2 h3 h4] at h; cases h
        · rw [chkE_bytes h1 h2 h3] at h; cases h
      · rw [chkE_full h1 h2] at h; cases h
    · rw [chkE_no (by simpa using h1)] at h; cases h

/-- the three other calls -/
theorem chk_other {S : List Stp} {o : List UInt8} {G : List E3} {o' : List UInt8} {G' : List E3} (h : chkE S o G = .ok (o', G')) {k : Nat} {s : Stp} (hs : S[k]? = some s) :
    (∃ o1 G1, chkE (S.take k) o G = .ok (o1, G1)) ∧ (∀ i, chkE (S.take k ++ [(i, s.2 ++ [0])]) o G = .error 1 ∨ i ≠ s.1) ∧ chkE (S.take k ++ [((-1 : Int), s.2)]) o G = .error 1 := by
  have hk : k < S.length := (List.getElem?_eq_some_iff.1 hs).1
  have e : S = S.take k ++ (s :: S.drop (k + 1)) := by
    conv => lhs; rw [← List.take_append_drop k S]
    rw [List.drop_eq_getElem_cons hk, (List.getElem?_eq_some_iff.1 hs).2]
  rw [e] at h
  obtain ⟨o1, G1, k1, k2, k3⟩ := chk_append h
  refine ⟨⟨o1, G1, k1⟩, fun i => ?_, ?_⟩
  · by_cases hi : i = s.1
    · subst hi
      left
      rw [k2]
      by_cases h1 : pinI o1 G1 s.1 = true
      · by_cases h2 : allowed (pinK o1 G1 s.1.toNat)
        · by_cases h3 : nbytes (pinK o1 G1 s.1.toNat) = s.2
          · refine chkE_bytes h1 h2 ?_
            dsimp only
            rw [h3]
            intro hc
            have := congrArg List.length hc
            simp at this
          · rw [chkE_bytes h1 h2 h3] at k3; cases k3
        · rw [chkE_full h1 h2] at k3; cases k3
      · rw [chkE_no (by simpa using h1)] at k3; cases k3
    · exact .inr hi
  · rw [k2]
    refine chkE_no ?_
    unfold pinI
    simp
end Sr
/- sane. -/
namespace Sr
open Go Go.Proofs Go.RowKit Go.Maps Go.WideMaps

theorem prodE_rel : prodE [2, 0, 3, 1, 1] = Zero := by
  have e : prodE [2, 0, 3, 1, 1] = timesE (timesE (timesE (timesE (timesE Zero ⟨0, 0, 1⟩) ⟨1, 0, 0⟩) ⟨0, 0, -1⟩) ⟨-1, 0, 0⟩) ⟨-1, 0, 0⟩ := rfl
  rw [e]
  refine plain_ext (timesE_plain _ _) (.inl ⟨rfl, rfl⟩) ?_ ?_
  · simp [timesE_m]
  · simp only [timesE_tq, timesE_m]
    simp only [tq, tp_zero, tp_one, Int.zero_add, Int.add_zero]
    simp [tp_zero]
    grind
theorem mul_ex : timesE ⟨1, 0, 0⟩ ⟨0, 0, 1⟩ = ⟨1, 0, 1⟩ := by
  refine plain_ext (timesE_plain _ _) (.inr rfl) ?_ ?_
  · simp [timesE_m]
  · rw [timesE_tq]; simp [tq, tp_zero]
    grind
theorem mul_ok : TimesOK ⟨1, 0, 0⟩ ⟨0, 0, 1⟩ := (lat_times (lat_a 1 (.inl rfl)) (lat_t 1 (.inl rfl)) (by omega)).1
theorem ab_trace : ∃ G, traceE [97, 98] = some ([], [98], G) := by
  have h : (readE [97, 98]).1 = [98] := rfl
  exact ⟨_, by unfold traceE; rw [redE_end (by rw [h]; simp), h]⟩
theorem rel_bytes : (⟨#[98, 97, 66, 97, 98, 65, 66, 65, 65]⟩ : ByteArray).data.toList = wordL [2, 0, 3, 1, 1] := by decide

set_option maxHeartbeats 8000000 in
set_option maxRecDepth 100000 in
theorem sane_calls (W : World) : Calls Tryz.prog 13 #[] W fun e W' => e = .returned (.bool true) ∧ Hid (Below W.heap.size W W') := by
  obtain ⟨st, hin, hst⟩ := inner_law [2, 0, 3, 1, 1] (by decide)
  rw [prodE_rel] at hin
  have HIn : Hid (traceE (⟨#[98, 97, 66, 97, 98, 65, 66, 65, 65]⟩ : ByteArray).data.toList = some (st, [], [Zero])) := by show _ = _; rw [rel_bytes]; exact hin
  have HSt : Hid (st.length = 2) := by show _ = _; rw [hst]; decide
  have HWr : Hid (isWordL (⟨#[98, 97, 66, 97, 98, 65, 66, 65, 65]⟩ : ByteArray).data.toList = true) := by show _ = _; decide
  have HWa : Hid (isWordL (⟨#[97, 98]⟩ : ByteArray).data.toList = true) := by show _ = _; decide
  have HWc : Hid (isWordL (⟨#[97, 98, 99]⟩ : ByteArray).data.toList = false) := by show _ = _; decide
  have hTr := Trace_any (W := W) (s := ⟨#[98, 97, 66, 97, 98, 65, 66, 65, 65]⟩) (by decide)
  clear hin hst
  go_enter Tryz.func13, Tryz.ntmps13
  go_wp2_with fail
  refine hTr.mono ?_
  rintro e w1 ⟨hb1, hcase⟩
  have HB1 := Lib.hid hb1.out
  obtain ⟨sa, sc, qu, qv, qm, he, hie⟩ : ∃ sa sc qu qv qm, e = .returned (.tuple #[.slice sa 2 sc, .int .i64 0, .agg #[.pointer qu, .pointer qv, .pointer qm], .int .i64 0]) ∧ IsE w1 (.agg #[.pointer qu, .pointer qv, .pointer qm]) Zero := by
    rcases hcase with ⟨h, -⟩ | ⟨-, h, -⟩ | ⟨-, st', o, G, h, sa, sn, sc, qu, qv, qm, he, hs, hi⟩
    · rw [HWr.out] at h; cases h
    · rw [HIn.out] at h; cases h
    · rw [HIn.out] at h; cases h
      obtain ⟨vs, k1, k2, k3⟩ := hs.out.row
      obtain ⟨a, c, hsh⟩ := rown_shape k2
      cases hsh
      rw [HSt.out] at he
      exact ⟨_, _, qu, qv, qm, he, hi.out⟩
  subst he
  have HIE := Lib.hid hie
  clear hTr hb1 hcase hie
  have hUn := Unit_any (W := w1.alloc (.cells #[.pointer qu, .pointer qv, .pointer qm] 28)) (s := ⟨#[98, 97, 66, 97, 98, 65, 66, 65, 65]⟩) (by decide)
  have HB2 : Hid (Below W.heap.size W (w1.alloc (.cells #[.pointer qu, .pointer qv, .pointer qm] 28))) := HB1.out.alloc HB1.out.size _
  have HH2 := Lib.hid ((Has.nil w1).add #[.pointer qu, .pointer qv, .pointer qm] 28)
  have HIE2 := Lib.hid (HIE.out.below ((Below.refl _ _).alloc (Nat.le_refl _) (.cells #[.pointer qu, .pointer qv, .pointer qm] 28)))
  go_wp2_with fail
  refine hUn.mono ?_
  rintro e w3 ⟨hb3, hcase⟩
  have he : e = .returned (.tuple #[.bool true, .int .i64 0]) := by
    rcases hcase with ⟨h, -⟩ | ⟨-, ⟨st', o, G, h, he⟩ | ⟨h, -⟩⟩
    · rw [HWr.out] at h; cases h
    · rw [HIn.out] at h; cases h
      exact he
    · rw [HIn.out] at h; cases h
  subst he
  have HB3 := Lib.hid (Below.trans' HB2.out hb3.out)
  have HH3 := Lib.hid (HH2.out.below hb3.out)
  have HIE3 := Lib.hid (HIE2.out.below hb3.out)
  clear hUn hb3 hcase
  have hUa := Unit_any (W := w3) (s := ⟨#[97, 98]⟩) (by decide)
  go_wp2_with fail
  refine hUa.mono ?_
  rintro e w4 ⟨hb4, hcase⟩
  have he : e = .returned (.tuple #[.bool false, .int .i64 0]) := by
    obtain ⟨G', hab⟩ := ab_trace
    rcases hcase with ⟨h, -⟩ | ⟨-, ⟨st', o, G, h, he⟩ | ⟨h, -⟩⟩
    · rw [HWa.out] at h; cases h
    · have h' := h.symm.trans hab
      cases h'
      exact he
    · have h' := h.symm.trans hab
      cases h'
  subst he
  have HB4 := Lib.hid (Below.trans' HB3.out hb4.out)
  have HH4 := Lib.hid (HH3.out.below hb4.out)
  have HIE4 := Lib.hid (HIE3.out.below hb4.out)
  clear hUa hb4 hcase
  have hO1 := Of_calls 1 (by decide) (by decide) w4
  go_wp2_with fail
  refine hO1.mono ?_
  rintro e w5 ⟨q5, rfl, hi5, hb5⟩
  have HB5 := Lib.hid (Below.trans' HB4.out hb5.out)
  have HH5 := Lib.hid (HH4.out.below hb5.out)
  have HIE5 := Lib.hid (HIE4.out.below hb5.out)
  have HI5 := Lib.hid hi5.out
  clear hO1 hb5 hi5
  have hO2 := Of_calls 1 (by decide) (by decide) w5
  go_wp2_with fail
  refine hO2.mono ?_
  rintro e w6 ⟨q6, rfl, hi6, hb6⟩
  have HB6 := Lib.hid (Below.trans' HB5.out hb6.out)
  have HH6 := Lib.hid (HH5.out.below hb6.out)
  have HIE6 := Lib.hid (HIE5.out.below hb6.out)
  have HI56 := Lib.hid (HI5.out.below hb6.out)
  have HI6 := Lib.hid hi6.out
  clear hO2 hb6 hi6
  have hMu := Mul_calls (W := w6) (V1 := .agg #[.pointer q5, .pointer none, .pointer none]) (V2 := .agg #[.pointer none, .pointer none, .pointer q6]) (x := ⟨1, 0, 0⟩) (y := ⟨0, 0, 1⟩) ⟨q5, none, none, rfl, HI56.out, isN_zero _, isN_zero _⟩ ⟨none, none, q6, rfl, isN_zero _, isN_zero _, HI6.out⟩ mul_ok
  go_wp2_with fail
  refine hMu.mono ?_
  rintro e w7 ⟨pu, pv, pm, rfl, hi7, hb7⟩
  have HB7 := Lib.hid (Below.trans' HB6.out hb7.out)
  have HH7 := Lib.hid (HH6.out.below hb7.out)
  have HIE7 := Lib.hid (HIE6.out.below hb7.out)
  have HX7 : Hid (IsE w7 (.agg #[.pointer pu, .pointer pv, .pointer pm]) ⟨1, 0, 1⟩) := by
    show IsE _ _ _
    rw [← mul_ex]; exact hi7.out
  clear hMu hb7 hi7
  have HD8 : Hid (Below w7.heap.size w7 (w7.alloc (.cells #[.pointer pu, .pointer pv, .pointer pm] 28))) := (Below.refl _ _).alloc (Nat.le_refl _) _
  have HB8 := Lib.hid (Below.trans' HB7.out HD8.out)
  have HH8 := Lib.hid (HH7.out.add #[.pointer pu, .pointer pv, .pointer pm] 28)
  have HIE8 := Lib.hid (HIE7.out.below HD8.out)
  have HX8 := Lib.hid (HX7.out.below HD8.out)
  have hUc := Unit_any (W := w7.alloc (.cells #[.pointer pu, .pointer pv, .pointer pm] 28)) (s := ⟨#[97, 98, 99]⟩) (by decide)
  go_wp2_with fail
  refine hUc.mono ?_
  rintro e w9 ⟨hb9, hcase⟩
  have he : e = .returned (.tuple #[.bool false, .int .i64 2]) := by
    rcases hcase with ⟨-, he⟩ | ⟨h, -⟩
    · exact he
    · rw [HWc.out] at h; cases h
  subst he
  have HB9 := Lib.hid (Below.trans' HB8.out hb9.out)
  have HH9 := Lib.hid (HH8.out.below hb9.out)
  have HIE9 := Lib.hid (HIE8.out.below hb9.out)
  have HX9 := Lib.hid (HX8.out.below hb9.out)
  clear hUc hb9 hcase
  go_wp2_with fail
  have HK : Hid (∀ w' : World, Below w9.heap.size w9 w' → w'.cell? ⟨w1.heap.size, 2, none⟩ = some (.pointer qm) ∧ w'.cell? ⟨w7.heap.size, 2, none⟩ = some (.pointer pm) ∧ w'.cell? ⟨w7.heap.size, 0, none⟩ = some (.pointer pu) ∧ w'.cell? ⟨w7.heap.size, 1, none⟩ = some (.pointer pv)) := fun w' hb => by
    have h := HH9.out.below hb
    exact ⟨h.cell (b := w1.heap.size) (c := #[.pointer qu, .pointer qv, .pointer qm]) (T := 28) (by simp) 2, h.cell (b := w7.heap.size) (c := #[.pointer pu, .pointer pv, .pointer pm]) (T := 28) (by simp) 2, h.cell (b := w7.heap.size) (c := #[.pointer pu, .pointer pv, .pointer pm]) (T := 28) (by simp) 0, h.cell (b := w7.heap.size) (c := #[.pointer pu, .pointer pv, .pointer pm]) (T := 28) (by simp) 1⟩
  obtain ⟨iu, iv, im⟩ := IsE.parts (t := ⟨qu, qv, qm⟩) HIE9.out
  obtain ⟨ju, jv, jm⟩ := IsE.parts (t := ⟨pu, pv, pm⟩) HX9.out
  have h0 : isg (0 : Int) = 0 := by simp [isg]
  have hSA : ∀ w', Below w9.heap.size w9 w' → Calls Tryz.prog 30 #[.agg #[.pointer qm]] w' fun e w'' => e = .returned (.int .i64 0) ∧ Hid (Below w9.heap.size w9 w'') := fun w' hb =>
    (Sign_calls (im.below hb)).mono fun e w'' ⟨h1, h2⟩ => ⟨by rw [h1, h0], Below.trans' hb h2.out⟩
  have hSB : ∀ w', Below w9.heap.size w9 w' → Calls Tryz.prog 30 #[.agg #[.pointer pv]] w' fun e w'' => e = .returned (.int .i64 0) ∧ Hid (Below w9.heap.size w9 w'') := fun w' hb =>
    (Sign_calls (jv.below hb)).mono fun e w'' ⟨h1, h2⟩ => ⟨by rw [h1, h0], Below.trans' hb h2.out⟩
  have hOf : ∀ w', Below w9.heap.size w9 w' → Calls Tryz.prog 20 #[.int .i64 1] w' fun e w'' => ∃ q, e = .returned (.agg #[.pointer q]) ∧ Hid (IsN w'' (.agg #[.pointer q]) 1) ∧ Hid (Below w9.heap.size w9 w'') := fun w' hb =>
    (Of_calls 1 (by decide) (by decide) w').mono fun e w'' ⟨q, h1, h2, h3⟩ => ⟨q, h1, h2, Below.trans' hb h3.out⟩
  have hCA : ∀ w' q, Below w9.heap.size w9 w' → IsN w' (.agg #[.pointer q]) 1 → Calls Tryz.prog 31 #[.agg #[.pointer pm], .agg #[.pointer q]] w' fun e w'' => e = .returned (.int .i64 0) ∧ Hid (Below w9.heap.size w9 w'') := fun w' q hb hq =>
    (Cmp_calls (jm.below hb) hq).mono fun e w'' ⟨h1, h2⟩ => ⟨by rw [h1]; rw [show isg ((⟨1, 0, 1⟩ : E3).m - 1) = 0 from by simp [isg]], Below.trans' hb h2.out⟩
  have hCB : ∀ w' q, Below w9.heap.size w9 w' → IsN w' (.agg #[.pointer q]) 1 → Calls Tryz.prog 31 #[.agg #[.pointer pu], .agg #[.pointer q]] w' fun e w'' => e = .returned (.int .i64 0) ∧ Hid (Below w9.heap.size w9 w'') := fun w' q hb hq =>
    (Cmp_calls (ju.below hb) hq).mono fun e w'' ⟨h1, h2⟩ => ⟨by rw [h1]; rw [show isg ((⟨1, 0, 1⟩ : E3).u - 1) = 0 from by simp [isg]], Below.trans' hb h2.out⟩
  have HSA := Lib.hid hSA
  have HSB := Lib.hid hSB
  have HOf := Lib.hid hOf
  have HCA := Lib.hid hCA
  have HCB := Lib.hid hCB
  have HBd : Hid (Below w9.heap.size w9 w9.drew) := (Below.refl _ _).drew
  clear hSA hSB hOf hCA hCB iu iv im ju jv jm h0
  go_region_held2 (fun w' => w'.cell? ⟨w1.heap.size, 2, none⟩ = some (.pointer qm) ∧ w'.cell? ⟨w7.heap.size, 2, none⟩ = some (.pointer pm) ∧ w'.cell? ⟨w7.heap.size, 0, none⟩ = some (.pointer pu) ∧ w'.cell? ⟨w7.heap.size, 1, none⟩ = some (.pointer pv))
    (first | exact HK.out _ HB26.out | exact HK.out _ HB25.out | exact HK.out _ HB24.out | exact HK.out _ HB23.out | exact HK.out _ HB22.out | exact HK.out _ HB21.out | exact HK.out _ HBd.out)
    (first
      | (go_at_call 30; (with_reducible refine (HSB.out _ HB25.out).mono ?_); rintro e w26 ⟨rfl, HB26⟩)
      | (go_at_call 31; (with_reducible refine (HCB.out _ _ HB24.out HI24.out).mono ?_); rintro e w25 ⟨rfl, HB25⟩)
      | (go_at_call 20; (with_reducible refine (HOf.out _ HB23.out).mono ?_); rintro e w24 ⟨q24, rfl, HI24, HB24⟩)
      | (go_at_call 31; (with_reducible refine (HCA.out _ _ HB22.out HI22.out).mono ?_); rintro e w23 ⟨rfl, HB23⟩)
      | (go_at_call 20; (with_reducible refine (HOf.out _ HB21.out).mono ?_); rintro e w22 ⟨q22, rfl, HI22, HB22⟩)
      | (go_at_call 30; (with_reducible refine (HSA.out _ HBd.out).mono ?_); rintro e w21 ⟨rfl, HB21⟩))
  all_goals
    go_wp2_with fail
    refine bodyPost_ret (results_tmp rfl _ _ _) rfl ?_
    exact ⟨rfl, Below.trans' HB9.out HB26.out⟩
end Sr
/- Rows of steps, as Check takes them. -/
namespace Sr
open Go Go.Proofs Go.RowKit Go.Maps Go.WideMaps

theorem stc_at : ∀ {st : List (Nat × Int)} {vs : List Value} {j : Nat} {s : Nat × Int} {u : Value}, st[j]? = some s → vs[j]? = some u → (stc st vs)[j * 2]? = some (.int .i64 (s.1 : Nat)) ∧ (stc st vs)[j * 2 + 1]? = some u
  | [], _, _, _, _, h, _ => by simp at h
  | _ :: _, [], _, _, _, _, h => by simp at h
  | s :: st, u :: vs, 0, _, _, h1, h2 => by simp at h1 h2; subst h1 h2; simp [stc]
  | s :: st, u :: vs, j + 1, _, _, h1, h2 => by
    have := stc_at (st := st) (vs := vs) (j := j) (by simpa using h1) (by simpa using h2)
    rw [show (j + 1) * 2 = (j * 2) + 1 + 1 by omega]
    simpa [stc] using this
theorem stc_take : ∀ {st : List (Nat × Int)} {vs : List Value} {k : Nat}, vs.length = st.length → (stc st vs).take (k * 2) = stc (st.take k) (vs.take k)
  | [], [], k, _ => by cases k <;> simp [stc]
  | s :: st, u :: vs, 0, h => by simp [stc]
  | s :: st, u :: vs, k + 1, h => by
    rw [show (k + 1) * 2 = (k * 2) + 1 + 1 by omega]
    simp [stc, stc_take (st := st) (vs := vs) (k := k) (by simpa using h)]
  | [], _ :: _, _, h => by simp at h
  | _ :: _, [], _, h => by simp at h

/-- an owned row of steps is one that Check takes -/
theorem srd_of {w : World} {v : Value} {st : List (Nat × Int)} {vs : List Value} (hl : vs.length = st.length) (h : w.ownsRow 0 42 2 v st.length (stc st vs))
    (hb : ∀ (i : Nat) (u : Value) (s : Nat × Int), vs[i]? = some u → st[i]? = some s → BRow w u (nbytes s.2)) (hz : ∀ s ∈ st, s.1 ≤ 1000000) : SRd w v (st.map stB) := by
  obtain ⟨-, ⟨rfl, h0⟩ | ⟨g, cap, cur, rfl, h1, h2, h3, h4, h5, h6⟩⟩ := h
  · obtain rfl : st = [] := List.length_eq_zero_iff.1 h0
    exact ⟨none, 0, rfl, fun j s hs => by simp at hs⟩
  · refine ⟨some ⟨g, 0, none⟩, cap, by simp, fun j s hs => ?_⟩
    rw [List.getElem?_map] at hs
    cases hj : st[j]? with
    | none => rw [hj] at hs; cases hs
    | some t =>
      rw [hj] at hs
      simp at hs
      subst hs
      have hlt : j < st.length := (List.getElem?_eq_some_iff.1 hj).1
      obtain ⟨u, hu⟩ : ∃ u, vs[j]? = some u := ⟨_, List.getElem?_eq_getElem (by omega)⟩
      obtain ⟨k1, k2⟩ := stc_at hj hu
      have ht := hz t (List.mem_of_getElem? hj)
      refine ⟨⟨by show -9223372036854775808 ≤ (t.1 : Int); omega, by show (t.1 : Int) ≤ 9223372036854775807; omega⟩, g, u, rfl, ?_, ?_, hb j u t hu hj⟩
      · rw [cell_of h2, ← Array.getElem?_toList]
        rw [← h6, List.getElem?_take, if_pos (by omega)] at k1
        exact k1
      · rw [cell_of h2, ← Array.getElem?_toList]
        rw [← h6, List.getElem?_take, if_pos (by omega)] at k2
        exact k2
theorem SRd.take {w : World} {a : Option Addr} {n c k : Nat} {S : List Stp} (h : SRd w (.slice a n c) S) (hk : k ≤ n) : SRd w (.slice a k c) (S.take k) := by
  obtain ⟨a', c', he, h1⟩ := h
  obtain ⟨rfl, hn, rfl⟩ := Value.slice.inj he
  refine ⟨a, c, by simp; omega, fun j s hs => ?_⟩
  rw [List.getElem?_take] at hs
  split at hs
  · exact h1 j s hs
  · cases hs
/-- two cells of a step are stored -/
theorem SRd.put {W : World} {g n c k : Nat} {S : List Stp} {cur : Array Value} (h : SRd W (.slice (some ⟨g, 0, none⟩) n c) S) (hg : W.heap[g]? = some (.cells cur 42 (0, 0))) (hk : k < S.length) (hcs : S.length * 2 ≤ cur.size) {i : Int} (hi : -9223372036854775808 ≤ i ∧ i ≤ 9223372036854775807) {u : Value} {pw : List UInt8} (hu : BRow W u pw) :
    SRd ((W.setCell ⟨g, k * 2, none⟩ (.int .i64 i)).setCell ⟨g, k * 2 + 1, none⟩ u) (.slice (some ⟨g, 0, none⟩) n c) (S.set k (i, pw)) := by
  obtain ⟨a', c', he, h1⟩ := h
  obtain ⟨rfl, hn, rfl⟩ := Value.slice.inj he
  have g1 : (W.setCell ⟨g, k * 2, none⟩ (.int .i64 i)).heap[g]? = some (.cells (cur.setIfInBounds (k * 2) (.int .i64 i)) 42 (0, 0)) := heap_setCell_same W g _ _ 42 _ hg
  have g2 : ((W.setCell ⟨g, k * 2, none⟩ (.int .i64 i)).setCell ⟨g, k * 2 + 1, none⟩ u).heap[g]? = some (.cells ((cur.setIfInBounds (k * 2) (.int .i64 i)).setIfInBounds (k * 2 + 1) u) 42 (0, 0)) := heap_setCell_same _ g _ _ 42 _ g1
  have keep : ∀ {x : Value} {l : List UInt8}, BRow W x l → BRow ((W.setCell ⟨g, k * 2, none⟩ (.int .i64 i)).setCell ⟨g, k * 2 + 1, none⟩ u) x l := fun {x l} hx => ownsRow_kept hx fun b e => by
    obtain ⟨c', hc'⟩ := row_type hx e
    have hne : b ≠ g := type_ne hc' hg (by decide)
    exact (RowKit.Below.heap_setCell _ _ _ _ hne).trans (RowKit.Below.heap_setCell _ _ _ _ hne)
  refine ⟨some ⟨g, 0, none⟩, c, by simp [hn], fun j s hs => ?_⟩
  rw [List.getElem?_set] at hs
  split at hs
  · rename_i hkj
    subst hkj
    simp at hs; subst hs
    refine ⟨hi, g, u, rfl, ?_, ?_, keep hu⟩
    · rw [cell_of g2, Array.getElem?_setIfInBounds_ne (by omega), Array.getElem?_setIfInBounds_self_of_lt (by omega)]
    · rw [cell_of g2, Array.getElem?_setIfInBounds_self_of_lt (by simp; omega)]
  · rename_i hkj
    obtain ⟨k0, g', u', k1, k2, k3, k4⟩ := h1 j s hs
    cases k1
    refine ⟨k0, g, u', rfl, ?_, ?_, keep k4⟩
    · rw [cell_of g2, Array.getElem?_setIfInBounds_ne (by omega), Array.getElem?_setIfInBounds_ne (by omega), ← cell_of hg]; exact k2
    · rw [cell_of g2, Array.getElem?_setIfInBounds_ne (by omega), Array.getElem?_setIfInBounds_ne (by omega), ← cell_of hg]; exact k3

theorem stc_one : ∀ {st : List (Nat × Int)} {vs : List Value}, (∀ u ∈ vs, u.oneCell' = true) → ∀ u ∈ stc st vs, u.oneCell' = true
  | [], _, _, u, hu => by simp [stc] at hu
  | _ :: _, [], _, u, hu => by simp [stc] at hu
  | s :: st, x :: vs, h, u, hu => by
    simp only [stc, List.mem_cons] at hu
    rcases hu with rfl | rfl | hu
    · rfl
    · exact h _ (by simp)
    · exact stc_one (st := st) (vs := vs) (fun y hy => h y (by simp [hy])) u hu

section
variable {ops : Array Oper} {rest : List Oper} {o : Oper} {a : Act} {Q : Exit → Act → World → Prop} {W : World}
theorem own_none {W : World} {B : Nat} {e : TypeId} {z : Nat} (h : W.heap[B]? = some (.cells #[] e (0, 0))) : W.ownsRow 0 e z (.slice (some ⟨B, 0, none⟩) 0 0) 0 [] :=
  ⟨by simp, .inr ⟨B, 0, #[], rfl, Nat.zero_le _, h, Nat.le_refl _, Nat.zero_le _, by simp, by simp⟩⟩
theorem app_Sn (hgd : o.guard = none) (s x : Operand) (ho : o.op = .call { callee := .builtin .append, args := #[s, x], argTypes := #[23, 23] })
    (B0 : Nat) (hs : a.eval s = .slice (some ⟨B0, 0, none⟩) 0 0) (hB0 : W.heap[B0]? = some (.cells #[] 42 (0, 0))) (B m c : Nat) (hx : a.eval x = .slice (some ⟨B, 0, none⟩) m c)
    (news : List Value) (hl : news.length = m * 2) (hnews : ∀ j u, news[j]? = some u → W.cell? ⟨B, j, none⟩ = some u) (h1 : ∀ u ∈ news, u.oneCell' = true) (hm : 0 < m) (hb : m ≤ 1099511627776)
    (h : ∀ g cap w', w'.ownsRow 0 42 2 (.slice (some ⟨g, 0, none⟩) m cap) m news → W.grownBy w' (some B0) → (g = B0 ∨ g = W.heap.size) → g < w'.heap.size → wpList Tryz.prog ops Q rest (a.put o.dst (.slice (some ⟨g, 0, none⟩) m cap)) w') :
    wpList Tryz.prog ops Q (o :: rest) a W := by
  obtain ⟨ii, hi, hz0, hz1, hz2⟩ := info_parts info42
  refine wpList_append_lies _ hgd s x 23 ho 0 42 ii _ 2 32 un23 hi hz0 hz1 hz2 rfl (by decide) _ 0 [] hs (own_none hB0) ⟨B, 0, none⟩ m c news hx hl (fun j u hu => by rw [show ((⟨B, 0, none⟩ : Addr).add j) = ⟨B, j, none⟩ by unfold Addr.add; split <;> simp_all]; exact hnews j u hu) h1 hm (by simp only [maxLen]; omega) (by omega) (Nat.zero_le _) _ rfl ?_
  intro g cap w' k1 k2 k3 k4
  rw [Nat.zero_add, List.nil_append] at k1
  have := h g cap w' k1 k2 (k3.imp (fun e => by cases e; rfl) id) k4
  rwa [Nat.zero_add]
end
section
variable {ops : Array Oper} {o : Oper} {a : Act} {K : Act → World → Prop} {Q : Exit → Act → World → Prop} {E : Prop} {W : World}
theorem brow_cells {W : World} {B n c : Nat} {l : List UInt8} (h : BRow W (.slice (some ⟨B, 0, none⟩) n c) l) : n = l.length ∧ ∀ (j : Nat) (u : Value), (l.map fun b => Value.int .u8 (b.toNat : Nat))[j]? = some u → W.cell? ⟨B, j, none⟩ = some u := by
  have h' := h
  obtain ⟨-, ⟨hh, -⟩ | ⟨g, cap, cur, hh, -⟩⟩ := h
  · cases hh
  · obtain ⟨e1, rfl, e3⟩ := Value.slice.inj hh
    refine ⟨rfl, fun j u hu => ?_⟩
    rw [World.ownsRow.cellAt h' j (by have := (List.getElem?_eq_some_iff.1 hu).1; simpa using this)]
    exact hu
/-- bytes are put behind none, and a nought behind bytes, in a region that draws -/
theorem stepP_B0 (hgd : o.guard = none) (s x : Operand) (ho : o.op = .call { callee := .builtin .append, args := #[s, x], argTypes := #[40, 40] })
    (B0 : Nat) (hs : a.eval s = .slice (some ⟨B0, 0, none⟩) 0 0) (hB0 : W.heap[B0]? = some (.cells #[] 5 (0, 0))) (B m c : Nat) (hx : a.eval x = .slice (some ⟨B, 0, none⟩) m c) (l : List UInt8)
    (hr : BRow W (.slice (some ⟨B, 0, none⟩) m c) l) (hm : 0 < m) (hb : m ≤ 1099511627776)
    (h : ∀ g cap w', BRow w' (.slice (some ⟨g, 0, none⟩) m cap) l → W.grownBy w' (some B0) → (g = B0 ∨ g = W.heap.size) → g < w'.heap.size → K (a.put o.dst (.slice (some ⟨g, 0, none⟩) m cap)) w') :
    if Region.wanted o (yielded ops a.tmps) = true then Oper.wp Tryz.prog o a W K Q else E := by
  obtain ⟨ii, hi, hz0, hz1, hz2⟩ := info_parts info5
  obtain ⟨rfl, hc⟩ := brow_cells hr
  refine step_append_lies _ hgd s x 40 ho 0 5 ii _ 1 1 un40 hi hz0 hz1 hz2 rfl (by decide) _ 0 [] hs (own_none hB0) ⟨B, 0, none⟩ l.length c (l.map fun b => Value.int .u8 (b.toNat : Nat)) hx (by simp) (fun j u hu => by rw [show ((⟨B, 0, none⟩ : Addr).add j) = ⟨B, j, none⟩ by unfold Addr.add; split <;> simp_all]; exact hc j u hu) (by intro u hu; obtain ⟨b, _, rfl⟩ := List.mem_map.1 hu; rfl) hm (by simp only [maxLen]; omega) (by omega) (Nat.zero_le _) _ rfl ?_
  intro g cap w' k1 k2 k3 k4
  rw [Nat.zero_add, List.nil_append] at k1
  have := h g cap w' k1 k2 (k3.imp (fun e => by cases e; rfl) id) k4
  rwa [Nat.zero_add]
theorem stepP_B1 (hgd : o.guard = none) (s x : Operand) (ho : o.op = .call { callee := .builtin .append, args := #[s, x], argTypes := #[40, 40] })
    (B0 m c : Nat) (hs : a.eval s = .slice (some ⟨B0, 0, none⟩) m c) (l : List UInt8) (hr : BRow W (.slice (some ⟨B0, 0, none⟩) m c) l) (B : Nat) (hx : a.eval x = .slice (some ⟨B, 0, none⟩) 1 1)
    (hB : W.heap[B]? = some (.cells #[.int .u8 0] 5 (0, 0))) (hb : m + 1 ≤ 1099511627776)
    (h : ∀ g cap w', BRow w' (.slice (some ⟨g, 0, none⟩) (m + 1) cap) (l ++ [0]) → W.grownBy w' (some B0) → (g = B0 ∨ g = W.heap.size) → g < w'.heap.size → K (a.put o.dst (.slice (some ⟨g, 0, none⟩) (m + 1) cap)) w') :
    if Region.wanted o (yielded ops a.tmps) = true then Oper.wp Tryz.prog o a W K Q else E := by
  obtain ⟨ii, hi, hz0, hz1, hz2⟩ := info_parts info5
  obtain ⟨rfl, hc⟩ := brow_cells hr
  refine step_append_lies _ hgd s x 40 ho 0 5 ii _ 1 1 un40 hi hz0 hz1 hz2 rfl (by decide) _ l.length _ hs hr ⟨B, 0, none⟩ 1 1 [.int .u8 0] hx (by simp) (fun j u hu => World.news_of_block hB j u hu) (by simp; rfl) (by decide) (by simp only [maxLen]; omega) (by omega) (Nat.zero_le _) _ rfl ?_
  intro g cap w' k1 k2 k3 k4
  refine h g cap w' ?_ k2 (k3.imp (fun e => by cases e; rfl) id) k4
  unfold BRow
  rw [List.length_append, List.map_append]; exact k1
end
theorem below_grown {W0 W w : World} {B0 : Nat} (h : Below W0.heap.size W0 W) (hB : W0.heap.size ≤ B0) (G : W.grownBy w (some B0)) : Below W0.heap.size W0 w :=
  ⟨G.os.trans h.os, G.tape.trans h.tape, G.output.trans h.output, Nat.le_trans h.size G.size, fun b hb => (G.block b (Nat.lt_of_lt_of_le hb h.size) (fun e => by cases e; omega)).trans (h.block b hb)⟩
theorem nbytes_len {x : Int} (h : allowed x) : (nbytes x).length ≤ 2000000 ∧ 0 < (nbytes x).length := by
  have h1 := flat_bd h.2.1 (Sr.parts x).length
  have h2 : (atPl (Sr.parts x) x).length ≤ 300 := by simpa [atPl] using h.1
  have h3 := h.2.2.1
  rw [List.take_length] at h1
  unfold nbytes
  simp only [List.length_append, tw_len, wl_len]
  omega
theorem take_set {α : Type} {l : List α} {k : Nat} (h : k < l.length) (x : α) : (l.take (k + 1)).set k x = l.take k ++ [x] := by
  rw [List.take_add_one, List.getElem?_eq_getElem h]
  have e : (l.take k).length = k := by simp; omega
  simp only [Option.toList_some]
  rw [List.set_append, if_neg (by omega), e, Nat.sub_self]
  rfl
/-- the first of the steps, laid anew -/
theorem srd_first {w7 : World} {v : Value} {st : List (Nat × Int)} {vs : List Value} {K1 : Nat} (hK : K1 ≤ st.length) (hl : vs.length = st.length) (h : w7.ownsRow 0 42 2 v K1 ((stc st vs).take (K1 * 2)))
    (hb : ∀ (i : Nat) (u : Value) (s : Nat × Int), vs[i]? = some u → st[i]? = some s → BRow w7 u (nbytes s.2)) (hz : ∀ s ∈ st, s.1 ≤ 1000000) : SRd w7 v ((st.map stB).take K1) := by
  rw [← List.map_take]
  have e : (st.take K1).length = K1 := by simp; omega
  refine srd_of (vs := vs.take K1) (by simp; omega) ?_ (fun i u t h1 h2 => ?_) (fun t ht => hz t (List.mem_of_mem_take ht))
  · rw [e, ← stc_take hl]; exact h
  · rw [List.getElem?_take] at h1 h2
    split at h1
    · rename_i hi
      rw [if_pos hi] at h2
      exact hb i u t h1 h2
    · cases h1
end Sr
/- BaumReplays: the walk. -/
namespace Sr
open Go Go.Proofs Go.RowKit Go.Maps Go.WideMaps

theorem redE_st : ∀ (m : Nat) {o : List UInt8} {G : List E3} {i : Nat} {st : List (Nat × Int)} {o' : List UInt8} {G' : List E3}, 2 * o.length - i ≤ m → redE o G i = some (st, o', G') → st.length ≤ o.length ∧ ∀ t ∈ st, t.1 < o.length ∧ allowed t.2 := by
  intro m
  induction m with
  | zero =>
    intro o G i st o' G' hm h
    rw [redE_end (by omega)] at h
    cases h
    simp
  | succ m ih =>
    intro o G i st o' G' hm h
    by_cases hi : i + 1 < o.length
    · by_cases hp : pinAt o G i = true
      · by_cases ha : pinA o G i
        · rw [redE_yes hi hp ha] at h
          cases hr : redE (pinO o i) (pinG o G i) (i - 1) with
          | none => rw [hr] at h; cases h
          | some r =>
            obtain ⟨st1, o1, G1⟩ := r
            rw [hr] at h
            cases h
            have := pinO_len hi
            obtain ⟨k1, k2⟩ := ih (by show 2 * (pinO o i).length - (i - 1) ≤ m; omega) hr
            refine ⟨by simp; omega, fun t ht => ?_⟩
            rcases List.mem_cons.1 ht with rfl | ht
            · exact ⟨by show i < _; omega, ha.1⟩
            · have := k2 t ht; exact ⟨by omega, this.2⟩
        · rw [redE_full hi hp ha] at h; cases h
      · rw [redE_no hi (by simpa using hp)] at h
        exact ih (by omega) h
    · rw [redE_end hi] at h
      cases h
      simp

set_option maxHeartbeats 8000000 in
set_option maxRecDepth 100000 in
theorem rep_calls {W : World} {s : ByteArray} (hs : s.size ≤ 9223372036854775807) {m : Nat} (hm : m ≤ 255) : Calls Tryz.prog 9 #[.string s, .int .u8 m] W fun e W' => e = .returned (.bool true) ∧ Hid (Below W.heap.size W W') := by
  by_cases h400 : 400 < s.size
  · have q1 : decide ((400 : Int) < (s.size : Int)) = true := by simp; omega
    have hS := sane_calls W
    go_enter Tryz.func9, Tryz.ntmps9
    go_wp2_with fail
    refine hS.mono ?_
    rintro e w3 ⟨rfl, hb3⟩
    clear hS
    go_wp2_with fail
    refine bodyPost_ret (results_tmp rfl _ _ _) rfl ?_
    exact ⟨rfl, hb3⟩
  · have q1 : decide ((400 : Int) < (s.size : Int)) = false := by simp; omega
    have hTr := Trace_any (W := W) (s := s) (by omega)
    go_enter Tryz.func9, Tryz.ntmps9
    go_wp2_with fail
    refine hTr.mono ?_
    rintro e w1 ⟨hb1, ⟨-, rfl⟩ | ⟨-, -, rfl⟩ | ⟨hwd, st, o, G, hr, sa, sn, sc, qu, qv, qm, rfl, hst, hie⟩⟩
    · have hS := sane_calls (w1.alloc (.cells #[.pointer none, .pointer none, .pointer none] 28))
      have HB1 : Hid (Below W.heap.size W (w1.alloc (.cells #[.pointer none, .pointer none, .pointer none] 28))) := hb1.out.alloc hb1.out.size _
      clear hTr
      go_wp2_with fail
      refine hS.mono ?_
      rintro e w3 ⟨rfl, hb3⟩
      have HB3 := Lib.hid (Below.trans' HB1.out hb3.out)
      clear hS
      go_wp2_with fail
      refine bodyPost_ret (results_tmp rfl _ _ _) rfl ?_
      exact ⟨rfl, HB3⟩
    · have hS := sane_calls (w1.alloc (.cells #[.pointer none, .pointer none, .pointer none] 28))
      have HB1 : Hid (Below W.heap.size W (w1.alloc (.cells #[.pointer none, .pointer none, .pointer none] 28))) := hb1.out.alloc hb1.out.size _
      clear hTr
      go_wp2_with fail
      refine hS.mono ?_
      rintro e w3 ⟨rfl, hb3⟩
      have HB3 := Lib.hid (Below.trans' HB1.out hb3.out)
      clear hS
      go_wp2_with fail
      refine bodyPost_ret (results_tmp rfl _ _ _) rfl ?_
      exact ⟨rfl, HB3⟩
    · obtain ⟨vs, hvl, hrow, hvs⟩ := hst.out.row
      obtain ⟨a', c', he⟩ := rown_shape hrow
      obtain ⟨rfl, hn, rfl⟩ := Value.slice.inj he
      have HStr := Lib.hid (redE_st _ (Nat.le_refl _) hr)
      have HOl : Hid ((readE s.data.toList).1.length ≤ 400) := by
        show _ ≤ _
        have := readE_out s.data.toList; simp at this
        have : s.data.size = s.size := rfl
        omega
      have hsn : sn ≤ 400 := by have := HStr.out.1; have := HOl.out; omega
      have HN := Lib.hid hn
      have HSrd : Hid (SRd w1 (.slice sa sn sc) (st.map stB)) := srd_of hvl (by rw [hn] at hrow ⊢; exact hrow) (fun i u t h1 h2 => (hvs i u t h1 h2).1) (fun t ht => by have := (HStr.out.2 t ht).1; have := HOl.out; omega)
      have HChk : Hid (chkE (st.map stB) (readE s.data.toList).1 (readE s.data.toList).2 = .ok (o, G)) := chk_red _ (Nat.le_refl _) hr
      have HRow := Lib.hid hst.out
      have HWd := Lib.hid hwd
      clear he hn hTr hr hst hvs hrow hvl vs hwd
      have HB1 := Lib.hid hb1.out
      have HD2 : Hid (Below w1.heap.size w1 (w1.alloc (.cells #[.pointer qu, .pointer qv, .pointer qm] 28))) := (Below.refl _ _).alloc (Nat.le_refl _) _
      have HSrd2 := Lib.hid (HSrd.out.below HD2.out)
      have hCk := Check_any (W := w1.alloc (.cells #[.pointer qu, .pointer qv, .pointer qm] 28)) (s := s) (by omega) HSrd2.out (by rw [List.length_map, ← HN.out]; omega)
      clear hb1
      go_wp2_with fail
      refine hCk.mono ?_
      rintro e w3 ⟨hb3, hcase⟩
      obtain ⟨ru, rv, rm, he, hie3⟩ : ∃ ru rv rm, e = .returned (.tuple #[.int .i64 o.length, .agg #[.pointer ru, .pointer rv, .pointer rm], .int .i64 0]) ∧ IsE w3 (.agg #[.pointer ru, .pointer rv, .pointer rm]) (endE o G) := by
        rcases hcase with ⟨h, -⟩ | ⟨n, -, h, -⟩ | ⟨-, o1, G1, h, ru, rv, rm, he, hi⟩
        · rw [HWd.out] at h; cases h
        · rw [show checkE s.data.toList (st.map stB) = _ from HChk.out] at h; cases h
        · rw [show checkE s.data.toList (st.map stB) = _ from HChk.out] at h; cases h
          exact ⟨ru, rv, rm, he, hi.out⟩
      subst he
      have HB3 := Lib.hid (Below.trans' HD2.out hb3.out)
      have HIE := Lib.hid hie.out
      have X3 := Lib.hid (Below.here hb3.out (heap_last w1 (.cells #[.pointer qu, .pointer qv, .pointer qm] 28)))
      have HD4 : Hid (Below w3.heap.size w3 (w3.alloc (.cells #[.pointer ru, .pointer rv, .pointer rm] 28))) := (Below.refl _ _).alloc (Nat.le_refl _) _
      have HB4 := Lib.hid (Below.trans' HB3.out HD4.out)
      have X4 := Lib.hid (Below.here HD4.out X3.out)
      have c0 := cell_of X4.out 0
      have c1 := cell_of X4.out 1
      have c2 := cell_of X4.out 2
      have hEq := equal_calls (hie3.below HD4.out) (HIE.out.below HB4.out)
      clear hCk hb3 hcase hie hie3
      go_wp2_with fail
      refine hEq.mono ?_
      rintro e w5 ⟨rfl, hb5⟩
      have HB5 := Lib.hid (Below.trans' HB4.out hb5.out)
      have HBW5 := Lib.hid (Below.trans' HB1.out HB5.out)
      clear hEq hb5 c0 c1 c2
      have qd : decide (endE o G = endE o G) = true := by simp
      by_cases h0 : sn = 0
      · subst h0
        have hS := sane_calls w5
        go_wp2_with fail
        refine hS.mono ?_
        rintro e w6 ⟨rfl, hb6⟩
        have HB6 := Lib.hid (Below.trans' HBW5.out hb6.out)
        clear hS
        go_wp2_with fail
        refine bodyPost_ret (results_tmp rfl _ _ _) rfl ?_
        exact ⟨rfl, HB6⟩
      · obtain ⟨k, hk⟩ : ∃ k, k = m % sn := ⟨_, rfl⟩
        have hkl : k < sn := by rw [hk]; exact Nat.mod_lt _ (by omega)
        have q2 : Int.tmod (m : Int) (sn : Int) = (k : Int) := by rw [hk, Int.ofNat_tmod]
        have q3 : decide ((sn : Int) = 0) = false := by simp; omega
        have q4 : IntKind.i64.wrap (m : Int) = (m : Int) := by rw [IntKind.wrap_i64]; omega
        have q5 : IntKind.i64.wrap (k : Int) = (k : Int) := by rw [IntKind.wrap_i64]; omega
        obtain ⟨g, rfl, hsc⟩ : ∃ g, sa = some ⟨g, 0, none⟩ ∧ sn ≤ sc := by
          obtain ⟨vs, _, ⟨-, ⟨hh, -⟩ | ⟨g, cap, cur, hh, _, _, h3, _⟩⟩, _⟩ := HRow.out.row
          · have := (Value.slice.inj hh).2.1; omega
          · obtain ⟨rfl, h1, rfl⟩ := Value.slice.inj hh
            exact ⟨g, rfl, by omega⟩
        have q6 : sc ≠ 0 := by omega
        have q7 : k ≤ sc := by omega
        have q8 : k + 1 ≤ sc := by omega
        have q9 : IntKind.i64.wrap ((k : Int) + 1) = (k : Int) + 1 := by rw [IntKind.wrap_i64]; omega
        have HSrd5 := Lib.hid (HSrd.out.below HB5.out)
        have hCk := Check_any (W := w5) (s := s) (by omega) (HSrd5.out.take (k := k) (by omega)) (by rw [List.length_take, List.length_map, ← HN.out]; omega)
        obtain ⟨sk, hsk⟩ : ∃ sk, (st.map stB)[k]? = some sk := ⟨_, List.getElem?_eq_getElem (by rw [List.length_map, ← HN.out]; exact hkl)⟩
        have HO := Lib.hid (chk_other HChk.out hsk)
        have HSk := Lib.hid hsk
        clear hk hsk
        go_wp2_with fail
        refine hCk.mono ?_
        rintro e w6 ⟨hb6, hcase⟩
        obtain ⟨l6, V6, he⟩ : ∃ (l6 : Int) (V6 : Option Addr × Option Addr × Option Addr), e = .returned (.tuple #[.int .i64 l6, .agg #[.pointer V6.1, .pointer V6.2.1, .pointer V6.2.2], .int .i64 0]) := by
          obtain ⟨⟨o1, G1, ho1⟩, -⟩ := HO.out
          rcases hcase with ⟨h, -⟩ | ⟨n, -, h, -⟩ | ⟨-, o1, G1, h, ru, rv, rm, he, hi⟩
          · rw [HWd.out] at h; cases h
          · rw [show checkE s.data.toList ((st.map stB).take k) = _ from ho1] at h; cases h
          · exact ⟨_, (ru, rv, rm), he⟩
        obtain ⟨a6, b6, c6⟩ := V6
        subst he
        have HB6 := Lib.hid (Below.trans' HB5.out hb6.out)
        have HBW6 := Lib.hid (Below.trans' HB1.out HB6.out)
        clear hCk hcase hb6
        have HRow6 := Lib.hid (HRow.out.below HB6.out)
        obtain ⟨vs, hvl, hrow, hvs⟩ := HRow6.out.row
        have HVL := Lib.hid hvl
        have HRw := Lib.hid hrow
        have HVS : Hid (∀ (i : Nat) (u : Value) (t : Nat × Int), vs[i]? = some u → st[i]? = some t → BRow w6 u (nbytes t.2)) := fun i u t h1 h2 => (hvs i u t h1 h2).1
        obtain ⟨tk, htk⟩ : ∃ tk, st[k]? = some tk := ⟨_, List.getElem?_eq_getElem (by rw [← HN.out]; exact hkl)⟩
        obtain ⟨uk, huk⟩ : ∃ uk, vs[k]? = some uk := ⟨_, List.getElem?_eq_getElem (by rw [hvl, ← HN.out]; exact hkl)⟩
        have HTk := Lib.hid htk
        have HUk : Hid (BRow w6 uk (nbytes tk.2)) := HVS.out k uk tk huk htk
        have HSk2 : Hid (sk = stB tk) := by
          have h := HSk.out
          rw [List.getElem?_map, htk] at h
          exact (Option.some.inj h).symm
        obtain ⟨ug, uc, hu⟩ := HUk.out.form (by unfold nbytes; simp [tw_len]; omega)
        obtain ⟨nb, hnb⟩ : ∃ nb, nb = (nbytes tk.2).length := ⟨_, rfl⟩
        rw [← hnb] at hu
        subst hu
        have hnb0 : 0 < nb := by rw [hnb]; unfold nbytes; simp [tw_len]; omega
        have HNb := Lib.hid hnb
        have hA := stc_at htk huk
        have HC6 : Hid (w6.cell? ⟨g, k * 2, none⟩ = some (.int .i64 (tk.1 : Nat)) ∧ w6.cell? ⟨g, k * 2 + 1, none⟩ = some (.slice (some ⟨ug, 0, none⟩) nb uc)) := by
          have h := HRw.out
          rw [← HN.out] at h
          exact ⟨(World.ownsRow.cellAt h _ (by omega)).trans hA.1, (World.ownsRow.cellAt h _ (by omega)).trans hA.2⟩
        have hnewl : ((stc st vs).take ((k + 1) * 2)).length = (k + 1) * 2 := by rw [List.length_take, stc_len hvl, ← HN.out]; omega
        have hnews : ∀ (j : Nat) (u : Value), ((stc st vs).take ((k + 1) * 2))[j]? = some u → w6.cell? ⟨g, j, none⟩ = some u := fun j u hu => by
          rw [List.getElem?_take] at hu
          split at hu
          · have h := HRw.out
            rw [← HN.out] at h
            exact (World.ownsRow.cellAt h _ (by omega)).trans hu
          · cases hu
        have hD6 : Below w6.heap.size w6 ((w6.alloc (.cells #[.pointer a6, .pointer b6, .pointer c6] 28)).alloc (.cells #[] 42)) := ((Below.refl _ _).alloc (Nat.le_refl _) _).alloc (by simp) _
        have hnews2 : ∀ (j : Nat) (u : Value), ((stc st vs).take ((k + 1) * 2))[j]? = some u → ((w6.alloc (.cells #[.pointer a6, .pointer b6, .pointer c6] 28)).alloc (.cells #[] 42)).cell? ⟨g, j, none⟩ = some u := fun j u hu => below_cell hD6 (hnews j u hu)
        have hone : ∀ u ∈ (stc st vs).take ((k + 1) * 2), u.oneCell' = true := fun u hu => stc_one (fun x hx => by
          obtain ⟨j, hj⟩ := List.mem_iff_getElem?.1 hx
          obtain ⟨t, ht⟩ : ∃ t, st[j]? = some t := ⟨_, List.getElem?_eq_getElem (by have := (List.getElem?_eq_some_iff.1 hj).1; omega)⟩
          obtain ⟨xa, xc, rfl⟩ := rown_shape (HVS.out j x t hj ht)
          rfl) u (List.mem_of_mem_take hu)
        obtain ⟨K1, hK1⟩ : ∃ K1, K1 = k + 1 := ⟨_, rfl⟩
        have HK1 := Lib.hid hK1
        have hk9 : (k : Int) + 1 = (K1 : Int) := by omega
        have hkw : IntKind.i64.wrap (K1 : Int) = (K1 : Int) := by rw [IntKind.wrap_i64]; omega
        have hkp : 0 < K1 := by omega
        have hkb : K1 ≤ 1099511627776 := by omega
        have hkc : K1 ≤ sc := by omega
        rw [← hK1] at hnewl hnews2 hone
        clear hA hvl hrow hvs htk huk hnb hK1 hnews
        go_wp2_with (at_builtin
                     go_loud (
                       (refine app_Sn rfl _ _ rfl (w6.heap.size + 1) rfl (heap_at (by simp)) g K1 sc rfl _ hnewl hnews2 hone hkp hkb ?_; intro g7 p7 w7 K7 G7 A7 L7
                        have HB7 : Hid (Below w6.heap.size w6 w7) := below_grown hD6 (Nat.le_succ _) G7
                        have HK7 := Lib.hid K7
                        have HL7 : Hid (w6.heap.size ≤ g7) := A7.elim (fun e => e ▸ Nat.le_succ _) (fun e => by show _ ≤ _; rw [e, size_alloc, size_alloc]; omega)
                        clear K7 G7 A7 L7)))
        obtain ⟨cur7, hg7, hp7, hp7m, hcs7, htake7, -⟩ := rown_block HK7.out
        have X7 := Lib.hid hg7
        obtain ⟨y1, hy1⟩ : ∃ y, cur7[k * 2]? = some y := ⟨_, Array.getElem?_eq_getElem (by have := HK1.out; omega)⟩
        obtain ⟨y2, hy2⟩ : ∃ y, cur7[k * 2 + 1]? = some y := ⟨_, Array.getElem?_eq_getElem (by have := HK1.out; omega)⟩
        have HY1 := Lib.hid hy1
        have HY2 := Lib.hid hy2
        have HCS := Lib.hid hcs7
        have HP7 := Lib.hid hp7
        have HTK := Lib.hid htake7
        have HU7 := Lib.hid (ownsRow_below HUk.out HB7.out)
        have HSr7 : Hid (SRd w7 (.slice (some ⟨g7, 0, none⟩) K1 p7) ((st.map stB).take K1)) := srd_first (by rw [← HN.out]; have := HK1.out; omega) HVL.out HK7.out (fun i u t h1 h2 => ownsRow_below (HVS.out i u t h1 h2) HB7.out) (fun t ht => by have := (HStr.out.2 t ht).1; have := HOl.out; omega)
        have HTs : Hid (∀ x : Stp, ((st.map stB).take K1).set k x = (st.map stB).take k ++ [x]) := fun x => by rw [HK1.out]; exact take_set (by rw [List.length_map, ← HN.out]; omega) x
        have HLs : Hid (((st.map stB).take K1).length = K1) := by show _ = _; rw [List.length_take, List.length_map, ← HN.out]; omega
        have HE1 : Hid (chkE ((st.map stB).take k ++ [((tk.1 : Int), nbytes tk.2 ++ [0])]) (readE s.data.toList).1 (readE s.data.toList).2 = .error 1) := by
          show _ = _
          have h := HO.out.2.1 ((tk.1 : Nat) : Int)
          rw [HSk2.out] at h
          exact h.resolve_right (fun h => h rfl)
        have HE2 : Hid (chkE ((st.map stB).take k ++ [((-1 : Int), nbytes tk.2)]) (readE s.data.toList).1 (readE s.data.toList).2 = .error 1) := by
          show _ = _
          have h := HO.out.2.2
          rw [HSk2.out] at h
          exact h
        have HBW7 := Lib.hid (Below.trans' HBW6.out HB7.out)
        have HC7 : Hid (∀ w' : World, Below w7.heap.size w7 w' → w'.cell? ⟨g, k * 2, none⟩ = some (.int .i64 (tk.1 : Nat)) ∧ w'.cell? ⟨g, k * 2 + 1, none⟩ = some (.slice (some ⟨ug, 0, none⟩) nb uc)) := fun w' hb => ⟨below_cell hb (below_cell HB7.out HC6.out.1), below_cell hb (below_cell HB7.out HC6.out.2)⟩
        have hgl : g < w6.heap.size := cell_lt HC6.out.1
        have HNe : Hid (g ≠ g7) := by have := HL7.out; show g ≠ g7; omega
        have HCs : Hid (∀ (w' : World) (a b : Value), Below w7.heap.size w7 w' → ((w'.setCell ⟨g7, k * 2, none⟩ a).setCell ⟨g7, k * 2 + 1, none⟩ b).cell? ⟨g, k * 2, none⟩ = some (.int .i64 (tk.1 : Nat)) ∧ ((w'.setCell ⟨g7, k * 2, none⟩ a).setCell ⟨g7, k * 2 + 1, none⟩ b).cell? ⟨g, k * 2 + 1, none⟩ = some (.slice (some ⟨ug, 0, none⟩) nb uc)) := fun w' a b hb => by
          have e : ((w'.setCell ⟨g7, k * 2, none⟩ a).setCell ⟨g7, k * 2 + 1, none⟩ b).heap[g]? = w'.heap[g]? := (RowKit.Below.heap_setCell _ _ _ _ HNe.out).trans (RowKit.Below.heap_setCell _ _ _ _ HNe.out)
          rw [World.cell?_of_block (w := w') (a := ⟨g, k * 2, none⟩) e, World.cell?_of_block (w := w') (a := ⟨g, k * 2 + 1, none⟩) e]
          exact HC7.out w' hb
        have i0 : (0 : Int) ≤ (k : Int) := Int.natCast_nonneg k
        have i1 : (k : Int) < (sn : Int) := by omega
        have i2 : (k : Int) < (K1 : Int) := by have := HK1.out; omega
        have hnl := (nbytes_len (HStr.out.2 tk (List.mem_of_getElem? HTk.out)).2).1
        have hnbb : nb ≤ 1099511627776 := by have := HNb.out; omega
        have hnbc : nb + 1 ≤ 1099511627776 := by have := HNb.out; omega
        clear hg7 hp7 hp7m hcs7 htake7 hy1 hy2 hnewl hnews2 hone hD6 HNb hnl
        go_wp2_with fail
        have HD7 : Hid (Below w7.heap.size w7 w7.drew) := (Below.refl _ _).drew
        have HAZ : Hid (((w7.drew.alloc (.cells #[] 5)).alloc (.cells #[.int .u8 0] 5)).heap[w7.heap.size]? = some (.cells #[] 5 (0, 0)) ∧ ((w7.drew.alloc (.cells #[] 5)).alloc (.cells #[.int .u8 0] 5)).heap[w7.heap.size + 1]? = some (.cells #[.int .u8 0] 5 (0, 0)) ∧ Below w7.heap.size w7 ((w7.drew.alloc (.cells #[] 5)).alloc (.cells #[.int .u8 0] 5)) ∧ (w7.heap.size + 1 < ((w7.drew.alloc (.cells #[] 5)).alloc (.cells #[.int .u8 0] 5)).heap.size ∧ some (w7.heap.size + 1) ≠ some w7.heap.size)) := ⟨(heap_old _ _ (by rw [size_alloc]; exact Nat.lt_succ_self _)).trans (heap_last w7.drew _), heap_at (by rw [size_alloc]; rfl), (HD7.out.alloc (Nat.le_refl _) _).alloc (by rw [size_alloc]; exact Nat.le_succ _) _, by rw [size_alloc, size_alloc]; show _ < w7.heap.size + 1 + 1; omega, fun h => by have := Option.some.inj h; omega⟩
        have HZA : Hid (((w7.drew.alloc (.cells #[.int .u8 0] 5)).alloc (.cells #[] 5)).heap[w7.heap.size + 1]? = some (.cells #[] 5 (0, 0)) ∧ ((w7.drew.alloc (.cells #[.int .u8 0] 5)).alloc (.cells #[] 5)).heap[w7.heap.size]? = some (.cells #[.int .u8 0] 5 (0, 0)) ∧ Below w7.heap.size w7 ((w7.drew.alloc (.cells #[.int .u8 0] 5)).alloc (.cells #[] 5)) ∧ (w7.heap.size < ((w7.drew.alloc (.cells #[.int .u8 0] 5)).alloc (.cells #[] 5)).heap.size ∧ some w7.heap.size ≠ some (w7.heap.size + 1))) := ⟨heap_at (by rw [size_alloc]; rfl), (heap_old _ _ (by rw [size_alloc]; exact Nat.lt_succ_self _)).trans (heap_last w7.drew _), (HD7.out.alloc (Nat.le_refl _) _).alloc (by rw [size_alloc]; exact Nat.le_succ _) _, by rw [size_alloc, size_alloc]; show _ < w7.heap.size + 1 + 1; omega, fun h => by have := Option.some.inj h; omega⟩
        go_region_held_law (fun w' => w'.cell? ⟨g, k * 2, none⟩ = some (.int .i64 (tk.1 : Nat)) ∧ w'.cell? ⟨g, k * 2 + 1, none⟩ = some (.slice (some ⟨ug, 0, none⟩) nb uc))
          (first | exact HC7.out _ HD7.out | exact HC7.out _ HB9.out | exact HCs.out _ _ _ HB9.out | exact HC7.out _ HB8.out | exact HC7.out _ (HB8.out.alloc HB8.out.size _) | exact HC7.out _ (HD7.out.alloc (Nat.le_refl _) _) | exact HC7.out _ HAZ.out.2.2.1 | exact HC7.out _ HZA.out.2.2.1)
          (first
            | (refine stepP_B0 (by rfl) (.tmp 88) (.tmp 93) (by rfl) w7.heap.size (by rfl) (heap_last w7.drew _) ug nb uc (by rfl) _ (ownsRow_below HU7.out (HD7.out.alloc (Nat.le_refl _) _)) hnb0 hnbb ?_; intro b8 p8 w8 K8 G8 A8 L8
               have HB8 : Hid (Below w7.heap.size w7 w8) := below_grown (HD7.out.alloc (Nat.le_refl _) _) (by first | exact Nat.le_refl _ | exact Nat.le_succ _) G8
               have HK8 := Lib.hid K8
               have HG8 : Hid (w7.heap.size ≤ b8) := A8.elim (fun e => by show _ ≤ _; rw [e]; first | exact Nat.le_refl _ | exact Nat.le_succ _) (fun e => by show _ ≤ _; rw [e]; exact (HD7.out.alloc (Nat.le_refl _) _).size)
               have HZ8 : Hid True := trivial
               clear K8 G8 A8 L8)
            | (refine stepP_B0 (by rfl) (.tmp 88) (.tmp 93) (by rfl) w7.heap.size (by rfl) (HAZ.out.1) ug nb uc (by rfl) _ (ownsRow_below HU7.out HAZ.out.2.2.1) hnb0 hnbb ?_; intro b8 p8 w8 K8 G8 A8 L8
               have HB8 : Hid (Below w7.heap.size w7 w8) := below_grown HAZ.out.2.2.1 (by first | exact Nat.le_refl _ | exact Nat.le_succ _) G8
               have HK8 := Lib.hid K8
               have HG8 : Hid (w7.heap.size ≤ b8) := A8.elim (fun e => by show _ ≤ _; rw [e]; first | exact Nat.le_refl _ | exact Nat.le_succ _) (fun e => by show _ ≤ _; rw [e]; exact HAZ.out.2.2.1.size)
               have HZ8 : Hid (w8.heap[w7.heap.size + 1]? = some (.cells #[.int .u8 0] 5 (0, 0))) := (G8.block (w7.heap.size + 1) HAZ.out.2.2.2.1 HAZ.out.2.2.2.2).trans HAZ.out.2.1
               clear K8 G8 A8 L8)
            | (refine stepP_B0 (by rfl) (.tmp 88) (.tmp 93) (by rfl) (w7.heap.size + 1) (by rfl) (HZA.out.1) ug nb uc (by rfl) _ (ownsRow_below HU7.out HZA.out.2.2.1) hnb0 hnbb ?_; intro b8 p8 w8 K8 G8 A8 L8
               have HB8 : Hid (Below w7.heap.size w7 w8) := below_grown HZA.out.2.2.1 (by first | exact Nat.le_refl _ | exact Nat.le_succ _) G8
               have HK8 := Lib.hid K8
               have HG8 : Hid (w7.heap.size ≤ b8) := A8.elim (fun e => by show _ ≤ _; rw [e]; first | exact Nat.le_refl _ | exact Nat.le_succ _) (fun e => by show _ ≤ _; rw [e]; exact HZA.out.2.2.1.size)
               have HZ8 : Hid (w8.heap[w7.heap.size]? = some (.cells #[.int .u8 0] 5 (0, 0))) := (G8.block w7.heap.size HZA.out.2.2.2.1 HZA.out.2.2.2.2).trans HZA.out.2.1
               clear K8 G8 A8 L8)
            | (refine stepP_B1 (by rfl) (.tmp 94) (.tmp 95) (by rfl) b8 nb p8 (by rfl) _ (World.ownsRow.alloc HK8.out _) w8.heap.size (by rfl) (heap_last w8 _) hnbc ?_; intro b9 p9 w9 K9 G9 A9 L9
               have HB9 : Hid (Below w7.heap.size w7 w9) := below_grown (HB8.out.alloc HB8.out.size _) HG8.out G9
               have HK9 := Lib.hid K9
               have HX9 := Lib.hid (Below.here HB9.out X7.out)
               have c91 : w9.cell? ⟨g7, k * 2, none⟩ = some y1 := (cell_of HX9.out _).trans HY1.out
               have c92 : w9.cell? ⟨g7, k * 2 + 1, none⟩ = some y2 := (cell_of HX9.out _).trans HY2.out
               have f91 := free_of HX9.out (k * 2)
               have f92 := free_of HX9.out (k * 2 + 1)
               clear K9 G9 A9 L9)
            | (refine stepP_B1 (by rfl) (.tmp 94) (.tmp 95) (by rfl) b8 nb p8 (by rfl) _ HK8.out (w7.heap.size + 1) (by rfl) HZ8.out hnbc ?_; intro b9 p9 w9 K9 G9 A9 L9
               have HB9 : Hid (Below w7.heap.size w7 w9) := below_grown HB8.out HG8.out G9
               have HK9 := Lib.hid K9
               have HX9 := Lib.hid (Below.here HB9.out X7.out)
               have c91 : w9.cell? ⟨g7, k * 2, none⟩ = some y1 := (cell_of HX9.out _).trans HY1.out
               have c92 : w9.cell? ⟨g7, k * 2 + 1, none⟩ = some y2 := (cell_of HX9.out _).trans HY2.out
               have f91 := free_of HX9.out (k * 2)
               have f92 := free_of HX9.out (k * 2 + 1)
               clear K9 G9 A9 L9)
            | (refine stepP_B1 (by rfl) (.tmp 94) (.tmp 95) (by rfl) b8 nb p8 (by rfl) _ HK8.out w7.heap.size (by rfl) HZ8.out hnbc ?_; intro b9 p9 w9 K9 G9 A9 L9
               have HB9 : Hid (Below w7.heap.size w7 w9) := below_grown HB8.out HG8.out G9
               have HK9 := Lib.hid K9
               have HX9 := Lib.hid (Below.here HB9.out X7.out)
               have c91 : w9.cell? ⟨g7, k * 2, none⟩ = some y1 := (cell_of HX9.out _).trans HY1.out
               have c92 : w9.cell? ⟨g7, k * 2 + 1, none⟩ = some y2 := (cell_of HX9.out _).trans HY2.out
               have f91 := free_of HX9.out (k * 2)
               have f92 := free_of HX9.out (k * 2 + 1)
               clear K9 G9 A9 L9))
        all_goals
          have HSr9 := Lib.hid (HSr7.out.below HB9.out)
          have HSr10 : Hid (SRd ((w9.setCell ⟨g7, k * 2, none⟩ (.int .i64 (tk.1 : Nat))).setCell ⟨g7, k * 2 + 1, none⟩ (.slice (some ⟨b9, 0, none⟩) (nb + 1) p9)) (.slice (some ⟨g7, 0, none⟩) K1 p7) ((st.map stB).take k ++ [((tk.1 : Int), nbytes tk.2 ++ [0])])) := by
            show SRd _ _ _
            rw [← HTs.out]
            exact SRd.put HSr9.out HX9.out (by rw [HLs.out]; have := HK1.out; omega) (by rw [HLs.out, HCS.out]; have := HP7.out; omega) ⟨by omega, by have := (HStr.out.2 tk (List.mem_of_getElem? HTk.out)).1; have := HOl.out; omega⟩ HK9.out
          have hCk := Check_any (W := ((w9.setCell ⟨g7, k * 2, none⟩ (.int .i64 (tk.1 : Nat))).setCell ⟨g7, k * 2 + 1, none⟩ (.slice (some ⟨b9, 0, none⟩) (nb + 1) p9))) (s := s) (by omega) HSr10.out (by simp; omega)
          have HX10 : Hid (((w9.setCell ⟨g7, k * 2, none⟩ (.int .i64 (tk.1 : Nat))).setCell ⟨g7, k * 2 + 1, none⟩ (.slice (some ⟨b9, 0, none⟩) (nb + 1) p9)).heap[g7]? = some (.cells ((cur7.setIfInBounds (k * 2) (.int .i64 (tk.1 : Nat))).setIfInBounds (k * 2 + 1) (.slice (some ⟨b9, 0, none⟩) (nb + 1) p9)) 42 (0, 0))) := heap_setCell_same _ g7 _ _ 42 _ (heap_setCell_same w9 g7 _ _ 42 _ HX9.out)
          have HB10 : Hid (Below W.heap.size W ((w9.setCell ⟨g7, k * 2, none⟩ (.int .i64 (tk.1 : Nat))).setCell ⟨g7, k * 2 + 1, none⟩ (.slice (some ⟨b9, 0, none⟩) (nb + 1) p9))) := ((Below.trans' HBW7.out HB9.out).setCell (by show W.heap.size ≤ g7; have := HL7.out; have := HBW6.out.size; omega) _).setCell (by show W.heap.size ≤ g7; have := HL7.out; have := HBW6.out.size; omega) _
          have HC10 := Lib.hid (HCs.out w9 (.int .i64 (tk.1 : Nat)) (.slice (some ⟨b9, 0, none⟩) (nb + 1) p9) HB9.out)
          have HU10 : Hid (BRow ((w9.setCell ⟨g7, k * 2, none⟩ (.int .i64 (tk.1 : Nat))).setCell ⟨g7, k * 2 + 1, none⟩ (.slice (some ⟨b9, 0, none⟩) (nb + 1) p9)) (.slice (some ⟨ug, 0, none⟩) nb uc) (nbytes tk.2)) := ownsRow_kept (ownsRow_below HU7.out HB9.out) fun b e => by
            obtain ⟨c', hc'⟩ := row_type (ownsRow_below HU7.out HB9.out) e
            have hne : b ≠ g7 := type_ne hc' HX9.out (by decide)
            exact (RowKit.Below.heap_setCell _ _ _ _ hne).trans (RowKit.Below.heap_setCell _ _ _ _ hne)
          clear c91 c92 f91 f92
          obtain ⟨W10, hW10⟩ : ∃ w, w = ((w9.setCell ⟨g7, k * 2, none⟩ (.int .i64 (tk.1 : Nat))).setCell ⟨g7, k * 2 + 1, none⟩ (.slice (some ⟨b9, 0, none⟩) (nb + 1) p9)) := ⟨_, rfl⟩
          rw [← hW10] at HX10 HB10 HSr10 HC10 hCk HU10
          have HW10 := Lib.hid hW10
          clear hW10
          go_wp2_with fail
          rw [show ((w9.setCell ⟨g7, k * 2, none⟩ (.int .i64 (tk.1 : Nat))).setCell ⟨g7, k * 2 + 1, none⟩ (.slice (some ⟨b9, 0, none⟩) (nb + 1) p9)) = W10 from HW10.out.symm]
          refine hCk.mono ?_
          rintro e w11 ⟨hb11, hcase⟩
          have he : e = .returned (.tuple #[.int .i64 0, .agg #[.pointer none, .pointer none, .pointer none], .int .i64 1]) := by
            rcases hcase with ⟨h, -⟩ | ⟨n, -, h, he⟩ | ⟨-, o1, G1, h, ru, rv, rm, he, hi⟩
            · rw [HWd.out] at h; cases h
            · rw [show checkE s.data.toList _ = _ from HE1.out] at h; cases h; exact he
            · rw [show checkE s.data.toList _ = _ from HE1.out] at h; cases h
          subst he
          have HX11 := Lib.hid (Below.here hb11.out HX10.out)
          have HB11 := Lib.hid (Below.trans' HB10.out hb11.out)
          have HS11 := Lib.hid (HSr10.out.below hb11.out)
          have HU11 := Lib.hid (ownsRow_below HU10.out hb11.out)
          have c12 := below_cell hb11.out HC10.out.2
          have hcs12 : K1 * 2 ≤ ((cur7.setIfInBounds (k * 2) (.int .i64 (tk.1 : Nat))).setIfInBounds (k * 2 + 1) (.slice (some ⟨b9, 0, none⟩) (nb + 1) p9)).size := by rw [Array.size_setIfInBounds, Array.size_setIfInBounds, HCS.out]; have := HP7.out; omega
          have HCS12 := Lib.hid hcs12
          obtain ⟨cur12, hcur12⟩ : ∃ c, c = ((cur7.setIfInBounds (k * 2) (.int .i64 (tk.1 : Nat))).setIfInBounds (k * 2 + 1) (.slice (some ⟨b9, 0, none⟩) (nb + 1) p9)) := ⟨_, rfl⟩
          rw [← hcur12] at HX11 HCS12
          clear hcur12 hcs12 hCk hcase hb11
          obtain ⟨z1, hz1⟩ : ∃ y, cur12[k * 2]? = some y := ⟨_, Array.getElem?_eq_getElem (by have := HK1.out; have := HCS12.out; omega)⟩
          obtain ⟨z2, hz2⟩ : ∃ y, cur12[k * 2 + 1]? = some y := ⟨_, Array.getElem?_eq_getElem (by have := HK1.out; have := HCS12.out; omega)⟩
          have d1 : w11.cell? ⟨g7, k * 2, none⟩ = some z1 := (cell_of HX11.out _).trans hz1
          have d2 : w11.cell? ⟨g7, k * 2 + 1, none⟩ = some z2 := (cell_of HX11.out _).trans hz2
          have f1 := free_of HX11.out (k * 2)
          have f2 := free_of HX11.out (k * 2 + 1)
          have hlt7 : g7 < w11.heap.size := (Array.getElem?_eq_some_iff.1 HX11.out).1
          have hne7 : g7 ≠ w11.heap.size := by omega
          have hglt : g < w11.heap.size := cell_lt c12
          have hneg : g ≠ w11.heap.size := by omega
          have hnegg : g ≠ g7 := HNe.out
          have HS13 : Hid (SRd (((w11.setCell ⟨g7, k * 2, none⟩ (.int .i64 (-1))).setCell ⟨g7, k * 2 + 1, none⟩ (.slice (some ⟨ug, 0, none⟩) nb uc)).alloc (.cells #[.pointer none, .pointer none, .pointer none] 28)) (.slice (some ⟨g7, 0, none⟩) K1 p7) ((st.map stB).take k ++ [((-1 : Int), nbytes tk.2)])) := by
            show SRd _ _ _
            have h := SRd.put HS11.out HX11.out (k := k) (by simp; have := HN.out; omega) (by have := HCS12.out; have := HK1.out; simp; omega) (i := -1) ⟨by omega, by omega⟩ HU11.out
            rw [List.set_append, if_neg (by simp; omega)] at h
            have e : k - ((st.map stB).take k).length = 0 := by simp; have := HN.out; omega
            rw [e] at h
            exact SRd.below h ((Below.refl _ _).alloc (Nat.le_refl _) _)
          have HB13 : Hid (Below W.heap.size W (((w11.setCell ⟨g7, k * 2, none⟩ (.int .i64 (-1))).setCell ⟨g7, k * 2 + 1, none⟩ (.slice (some ⟨ug, 0, none⟩) nb uc)).alloc (.cells #[.pointer none, .pointer none, .pointer none] 28))) := by
            have h := (HB11.out.setCell (p := ⟨g7, k * 2, none⟩) (by show W.heap.size ≤ g7; have := HL7.out; have := HBW6.out.size; omega) (.int .i64 (-1))).setCell (p := ⟨g7, k * 2 + 1, none⟩) (by show W.heap.size ≤ g7; have := HL7.out; have := HBW6.out.size; omega) (.slice (some ⟨ug, 0, none⟩) nb uc)
            exact h.alloc h.size _
          have hCk := Check_any (W := (((w11.setCell ⟨g7, k * 2, none⟩ (.int .i64 (-1))).setCell ⟨g7, k * 2 + 1, none⟩ (.slice (some ⟨ug, 0, none⟩) nb uc)).alloc (.cells #[.pointer none, .pointer none, .pointer none] 28))) (s := s) (by omega) HS13.out (by simp; omega)
          clear hz1 hz2
          go_wp2_with fail
          refine hCk.mono ?_
          rintro e w14 ⟨hb14, hcase⟩
          have he : e = .returned (.tuple #[.int .i64 0, .agg #[.pointer none, .pointer none, .pointer none], .int .i64 1]) := by
            rcases hcase with ⟨h, -⟩ | ⟨n, -, h, he⟩ | ⟨-, o1, G1, h, ru, rv, rm, he, hi⟩
            · rw [HWd.out] at h; cases h
            · rw [show checkE s.data.toList _ = _ from HE2.out] at h; cases h; exact he
            · rw [show checkE s.data.toList _ = _ from HE2.out] at h; cases h
          subst he
          have HB14 := Lib.hid (Below.trans' HB13.out hb14.out)
          have HD15 : Hid (Below w14.heap.size w14 (w14.alloc (.cells #[.pointer none, .pointer none, .pointer none] 28))) := (Below.refl _ _).alloc (Nat.le_refl _) _
          have HB15 := Lib.hid (Below.trans' HB14.out HD15.out)
          have hS := sane_calls (w14.alloc (.cells #[.pointer none, .pointer none, .pointer none] 28))
          clear hCk hcase hb14
          go_wp2_with fail
          refine hS.mono ?_
          rintro e w16 ⟨rfl, hb16⟩
          have HB16 := Lib.hid (Below.trans' HB15.out hb16.out)
          clear hS hb16
          go_wp2_with fail
          refine bodyPost_ret (results_tmp rfl _ _ _) rfl ?_
          exact ⟨rfl, HB16⟩
end Sr
