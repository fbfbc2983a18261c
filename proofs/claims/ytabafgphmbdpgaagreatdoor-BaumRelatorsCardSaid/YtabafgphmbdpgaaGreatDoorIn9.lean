/- Texts of this claim, joined: Conc, Sign, Num, GiveC, Placed, GiveX, Give, Ops1, Ops2. -/
import Derived.Test.YtabafgphmbdpgaaGreatDoorIn8
import Derived.Lib.AppendZeros
import Derived.Deep.Upon
import Derived.Lib.Hide
import Derived.Laws.EntriesVeiled
/- slices.Grow of nil, slices.Concat of two rows of terms. -/
namespace Sr
open Go Go.Proofs Go.RowKit Go.Maps Go.WideMaps

theorem zeros_run (n : Nat) (h0 : 0 < n) (hn : n ≤ 1000000000) (W : World) : ∃ (cap : Nat) (cells : Array Value), n ≤ cap ∧ cap ≤ maxLen ∧ cells.size = cap * 2 ∧
    (Builtin.append_ #[111, 3] 111 #[.slice none 0 0, .int .i64 (n : Nat)]).run Tryz.prog W = .ok (.slice (some ⟨W.heap.size, 0, none⟩) n cap) (W.drew.alloc (.cells cells 154)) := by
  obtain ⟨i, hi, hz0, hz1, hz2⟩ := info_parts info154
  refine ⟨_, _, grownCap_ge W n 0 154, grownCap_le_maxLen W n 0 154 (by simp only [maxLen]; omega), ?_, Lib.run_append_nil_zeros W 111 3 111 154 i _ .i64 .i64 un111 Tryz.underlying3 hi hz0 n h0 (by omega) (by omega) (by rw [hz2]; omega)⟩
  have := grownCap_ge W n 0 154
  rw [Array.size_append, size_zeroCells, size_zeroCells]
  show n * 2 + (grownCap W n 0 154 - n) * 2 = grownCap W n 0 154 * 2
  omega

set_option maxHeartbeats 1000000 in
set_option maxRecDepth 100000 in
theorem grow_calls (n : Nat) (hn : n ≤ 1000000000) (W : World) : Calls Tryz.prog 135 #[.slice none 0 0, .int .i64 (n : Nat)] W fun x W' => ∃ v', x = .returned v' ∧ Hid (TRow W' v' []) ∧ Hid (Below W.heap.size W W') ∧ Hid (∀ b, v'.ownBlock = some b → W.heap.size ≤ b) := by
  have hw : IntKind.i64.wrap (n : Int) = (n : Int) := IntWalk.i64_in _ (by omega)
  have h0 : ¬ ((n : Int) < 0) := by omega
  by_cases hz : n = 0
  · subst hz
    go_enter Tryz.func135, Tryz.ntmps135
    go_wp2_with fail
    refine bodyPost_ret (results_tmp rfl _ _ _) rfl ?_
    exact ⟨_, rfl, ⟨rfl, .inl ⟨rfl, rfl⟩⟩, Below.refl _ _, fun b hb => by cases hb⟩
  · have hp : (0 : Int) < (n : Int) := by omega
    obtain ⟨cap, cells, hc1, hc2, hc3, hrz⟩ := zeros_run n (by omega) hn W
    have HC : Hid (n ≤ cap ∧ cap ≤ maxLen ∧ cells.size = cap * 2) := ⟨hc1, hc2, hc3⟩
    clear hc1 hc2 hc3
    go_enter Tryz.func135, Tryz.ntmps135
    go_wp2_with (at_builtin; go_loud (refine Lib.wpList_append_run _ rfl _ _ _ _ rfl _ _ rfl rfl _ _ hrz ?_))
    refine bodyPost_ret (results_tmp rfl _ _ _) rfl ?_
    obtain ⟨k1, k2, k3⟩ := HC.out
    refine ⟨_, rfl, ?_, ((Below.refl W.heap.size W).alloc (Nat.le_refl _) (.cells cells 154)).drew, fun b hb => by cases hb; exact Nat.le_refl _⟩
    exact ⟨rfl, .inr ⟨W.heap.size, cap, cells, rfl, Nat.zero_le _, heap_last W _, Nat.zero_le _, k2, k3, by simp; rfl⟩⟩

theorem app_none_run {W : World} {v : Value} {l : List PT} (h : TRow W v l) : (Builtin.append_ #[111, 111] 111 #[v, .slice none 0 0]).run Tryz.prog W = .ok v W := by
  obtain ⟨i, hi, hz0, hz1, hz2⟩ := info_parts info154
  obtain ⟨_, ⟨rfl, h2⟩ | ⟨g, cap, cur, rfl, _, _, h5, _⟩⟩ := h
  · exact run_append_nothing W 111 111 111 154 i un111 hi none 0 0 (Nat.le_refl _) _ (Src.ofNil W un111 0)
  · exact run_append_nothing W 111 111 111 154 i un111 hi _ _ _ h5 _ (Src.ofNil W un111 0)
/-- the length of all rows -/
def lens (ls : List (Value × List PT)) : Nat := (ls.flatMap (·.2)).length
theorem lens_snoc (ls : List (Value × List PT)) (x : Value × List PT) : lens (ls ++ [x]) = lens ls + x.2.length := by simp [lens]
theorem lens_take (ls : List (Value × List PT)) (k : Nat) : lens (ls.take k) ≤ lens ls := by
  unfold lens
  have : ls.flatMap (·.2) = (ls.take k).flatMap (·.2) ++ (ls.drop k).flatMap (·.2) := by rw [← List.flatMap_append, List.take_append_drop]
  rw [this, List.length_append]; omega

set_option maxHeartbeats 4000000 in
set_option maxRecDepth 100000 in
theorem concat_calls {W : World} {v : Value} {ls : List (Value × List PT)} (hv : W.ownsRow 0 111 1 v ls.length (ls.map Prod.fst)) (hr : ∀ x ∈ ls, TRow W x.1 x.2) (hn : lens ls ≤ 1000000) (hk : ls.length ≤ 1000) :
    Calls Tryz.prog 105 #[v] W fun x W' => ∃ v', x = .returned v' ∧ Hid (TRow W' v' (ls.flatMap (·.2))) ∧ Hid (Below W.heap.size W W') ∧ Hid (∀ b, v'.ownBlock = some b → W.heap.size ≤ b) := by
  have HV : Hid _ := hv
  have HR : Hid (∀ x ∈ ls, TRow W x.1 x.2) := hr
  obtain ⟨vb, vc, rfl⟩ : ∃ vb vc, v = .slice vb ls.length vc := by
    obtain ⟨_, ⟨rfl, h2⟩ | ⟨g, cap, cur, rfl, _⟩⟩ := hv
    · exact ⟨none, 0, by rw [h2]⟩
    · exact ⟨_, cap, rfl⟩
  clear hv hr
  go_enter Tryz.func105, Tryz.ntmps105
  go_wp2_with fail
  go_loopg [3, 11] ls.length (fun g1 vs vi wr => ∃ (k : Nat), vs = .int .i64 (lens (ls.take k) : Nat) ∧ vi = .int .i64 k ∧ k ≤ ls.length ∧ ls.length - k ≤ g1 ∧ W = wr)
  case atStart => exact ⟨0, rfl, rfl, by omega, by omega, rfl⟩
  case round =>
    obtain ⟨k, rfl, rfl, hkl, hg, rfl⟩ := hrel
    by_cases hkk : k < ls.length
    · have hkz : (k : Int) < (ls.length : Int) := by omega
      have hk0 : (0 : Int) ≤ (k : Int) := Int.natCast_nonneg k
      have hkw : IntKind.i64.wrap ((k : Int) + 1) = (k : Int) + 1 := IntWalk.i64_in _ (by omega)
      obtain ⟨⟨u, l⟩, hx⟩ : ∃ x, ls[k]? = some x := ⟨_, List.getElem?_eq_getElem hkk⟩
      obtain ⟨g, cap, e1, hc⟩ := row1_cell HV.out (k := k) (x := u) (by rw [List.getElem?_map, hx]; rfl)
      cases e1
      obtain ⟨ua, uc, e2, _, _⟩ := (HR.out _ (List.mem_of_getElem? hx)).shape
      dsimp only at e2
      subst e2
      have hl2 := lens_take ls (k + 1)
      have hls : lens (ls.take (k + 1)) = lens (ls.take k) + l.length := by rw [take_succ hx, lens_snoc]
      obtain ⟨s, hs⟩ : ∃ s, s = lens (ls.take k) := ⟨_, rfl⟩
      rw [← hs] at hls
      simp only [← hs]
      have hsw : IntKind.i64.wrap ((s : Int) + (l.length : Int)) = (s : Int) + (l.length : Int) := IntWalk.i64_in _ (by omega)
      have hs0 : ¬ ((s : Int) + (l.length : Int) < 0) := by omega
      have HL : Hid (lens (ls.take (k + 1)) = s + l.length) := hls
      clear hs hls hl2 hx
      go_wp2_with fail
      go_roundg (ls.length - (k + 1))
      case measure => omega
      case rel => exact ⟨k + 1, by rw [HL.out]; push_cast; rfl, by go_num, by omega, by omega, rfl⟩
    · have hkz : ¬ ((k : Int) < (ls.length : Int)) := by omega
      have hkl2 : lens (ls.take k) = lens ls := by rw [List.take_of_length_le (by omega)]
      rw [hkl2]
      have HG := grow_calls (lens ls) (by omega) W
      go_wp2_with fail
      refine HG.mono ?_
      rintro x w1 ⟨v1, rfl, hr1, hb1, ho1⟩
      have hb0 : Hid (∀ b, v1.ownBlock = some b → W.heap.size ≤ b) := ho1
      go_wp2_with fail
      go_loopg [6, 27] ls.length (fun g1 vx vi w2 => ∃ (k : Nat) (ux : Value), vx = ux ∧ vi = .int .i64 k ∧ k ≤ ls.length ∧ ls.length - k ≤ g1 ∧ Hid (TRow w2 ux ((ls.take k).flatMap (·.2))) ∧ Hid (Below W.heap.size W w2) ∧ Hid (∀ b, ux.ownBlock = some b → W.heap.size ≤ b))
      case atStart => exact ⟨0, _, rfl, rfl, by omega, by omega, hr1, hb1, hb0⟩
      case round =>
        clear hr1 hb1 hb0 ho1
        obtain ⟨k, ux, rfl, rfl, hkl, hg, HT, HB, HO⟩ := hrel
        by_cases hkk : k < ls.length
        · have hkz : (k : Int) < (ls.length : Int) := by omega
          have hk0 : (0 : Int) ≤ (k : Int) := Int.natCast_nonneg k
          have hkw : IntKind.i64.wrap ((k : Int) + 1) = (k : Int) + 1 := IntWalk.i64_in _ (by omega)
          obtain ⟨⟨u, l⟩, hx⟩ : ∃ x, ls[k]? = some x := ⟨_, List.getElem?_eq_getElem hkk⟩
          obtain ⟨g, cap, e1, hc⟩ := row1_cell (ownsRow_below HV.out HB.out) (k := k) (x := u) (by rw [List.getElem?_map, hx]; rfl)
          cases e1
          have hu := HR.out _ (List.mem_of_getElem? hx)
          dsimp only at hu
          have hfm : Hid ((ls.take (k + 1)).flatMap (·.2) = (ls.take k).flatMap (·.2) ++ l) := by
            show _ = _
            rw [take_succ hx, List.flatMap_append]; simp
          have hll : ((ls.take k).flatMap (·.2)).length + l.length ≤ 1099511627776 := by
            have h1 := lens_take ls (k + 1)
            unfold lens at h1
            rw [hfm.out, List.length_append] at h1
            have h2 := hn
            unfold lens at h2
            omega
          clear hx
          obtain ⟨h1, ⟨rfl, h2⟩ | ⟨g2, cap2, cur, rfl, h3, h4, h5, h6, h7, h8⟩⟩ := hu
          · have hl0 : l = [] := List.length_eq_zero_iff.1 h2
            have hrun := app_none_run HT.out
            have HT2 : Hid (TRow wr u6 ((ls.take (k + 1)).flatMap (·.2))) := by
              show TRow _ _ _
              rw [hfm.out, hl0, List.append_nil]; exact HT.out
            clear h1 h2 hl0 hll
            go_wp2_with (at_builtin; go_loud (refine Lib.wpList_append_run _ rfl _ _ _ _ rfl _ _ rfl rfl _ _ hrun ?_))
            go_roundg (ls.length - (k + 1))
            case measure => omega
            case rel => exact ⟨k + 1, u6, rfl, by go_num, by omega, by omega, HT2, HB, HO⟩
          · have HU : Hid (TRow W (.slice (some ⟨g2, 0, none⟩) l.length cap2) l) := ⟨h1, .inr ⟨g2, cap2, cur, rfl, h3, h4, h5, h6, h7, h8⟩⟩
            have HN : Hid (∀ j x, (tcells l)[j]? = some x → wr.cell? ((⟨g2, 0, none⟩ : Addr).add j) = some x) := fun j x hx => (ownsRow_below HU.out HB.out).cells (g := g2) rfl j x hx
            clear h1 h3 h4 h5 h6 h7 h8
            go_wp2_with (at_builtin; go_loud (refine app_T rfl _ _ rfl u6 ((ls.take k).flatMap (·.2)) rfl HT.out ⟨g2, 0, none⟩ cap2 l.length l rfl rfl HN.out hll ?_); intro v' w3 K3 G3 N3 A3)
            go_roundg (ls.length - (k + 1))
            case measure => omega
            case rel =>
              refine ⟨k + 1, v', rfl, by go_num, by omega, by omega, ?_, HB.out.grown G3 HB.out.size (fun b hb => HO.out b hb), ?_⟩
              · show TRow _ _ _
                rw [hfm.out]; exact K3
              · intro b hb
                rcases A3 with A3 | A3
                · exact HO.out b (A3 ▸ hb)
                · rw [A3] at hb; cases hb; exact HB.out.size
        · have hkz : ¬ ((k : Int) < (ls.length : Int)) := by omega
          have HT2 : Hid (TRow wr u6 (ls.flatMap (·.2))) := by
            have := HT.out
            rw [List.take_of_length_le (by omega)] at this
            exact this
          go_wp2_with fail
          refine bodyPost_ret (results_tmp rfl _ _ _) rfl ?_
          exact ⟨_, rfl, HT2, HB, HO⟩
end Sr
/- num.sign: the sign of a row of terms. -/
namespace Sr
open Go Go.Proofs Go.RowKit Go.Maps Go.WideMaps

/-- the sign of a list of terms: that of its first one -/
def signT : List PT → Int
  | [] => 0
  | t :: _ => sg t.1
set_option maxHeartbeats 1000000 in
set_option maxRecDepth 100000 in
theorem sign_calls {W : World} {v : Value} {l : List PT} (hl : TRow W v l) : Calls Tryz.prog 62 #[v] W fun e W' => e = .returned (.int .i64 (signT l)) ∧ W' = W := by
  obtain ⟨a, c, rfl, _, hs⟩ := hl.shape
  cases l with
  | nil =>
    clear hl hs
    go_enter Tryz.func62, Tryz.ntmps62
    go_wp2_with fail
    refine bodyPost_ret (results_tmp rfl _ _ _) rfl ?_
    exact ⟨rfl, rfl⟩
  | cons t l =>
    obtain ⟨g, rfl, c0, c1⟩ := hs 0 t rfl
    rw [Nat.zero_mul] at c0
    obtain ⟨n, hn⟩ : ∃ n, n = (t :: l).length := ⟨_, rfl⟩
    have hn2 : ¬ ((n : Int) = 0) := by rw [hn, List.length_cons]; omega
    have hn3 : ((n : Int) == 0) = false := by simpa using hn2
    have hn4 : (0 : Int) < (n : Int) := by rw [hn, List.length_cons]; omega
    rw [← hn]
    clear hl hs c1 hn
    obtain ⟨s, k⟩ := t
    cases s
    all_goals
      go_enter Tryz.func62, Tryz.ntmps62
      go_wp2_with fail
      refine bodyPost_ret (results_tmp rfl _ _ _) rfl ?_
      exact ⟨rfl, rfl⟩
theorem signT_pf (vs : List Int) (x : Int) : signT (pf vs x) = isg x := by
  have hv := form_val x
  have hn := form_naf x
  unfold pf
  cases hf : form x with
  | nil => rw [hf] at hv; simp only [lv] at hv; rw [← hv]; rfl
  | cons t l =>
    rw [hf] at hv hn
    obtain ⟨s, e⟩ := t
    have hp := two_pow_pos e
    cases s
    · have := naf_pos hn
      rw [hv] at this
      rw [isg_pos (by omega)]; rfl
    · have := naf_neg hn
      rw [hv] at this
      rw [isg_neg (by omega)]; rfl
end Sr
/- all of the numbers in memory, and what stands ahead of it. -/
/- world.give: the walk of its inner function walk. -/
namespace Sr
open Go Go.Proofs Go.RowKit Go.Maps Go.WideMaps

/-- how walk ends -/
def WalkQ (w1 : World) (vs : List Int) (b8 b7 mh : Nat) (x : Int) (ps : List Nat) (ok : Bool) (plv : Value) (wr : World) (e : Ending) (w' : World) : Prop :=
  ∃ (ps' : List Nat) (hh' : Nat → Nat) (ok' : Bool) (plv' : Value) (r : Nat), e = .returned (.int .i64 (r : Nat)) ∧ Hid (GS w1 vs b8 b7 mh ps' hh' ok' plv' w') ∧ Hid (Wk (exps x) ps ok ps' ok' r) ∧ Hid (FE (GO b7 b8 mh plv) wr (GO b7 b8 mh plv') w')
theorem int_max (r h : Nat) : Value.int .i64 (max (r : Int) ((h : Int) + 1)) = .int .i64 ((max r (h + 1) : Nat) : Int) := by congr 1; omega
theorem int_max1 (r : Nat) : Value.int .i64 (max (r : Int) 1) = .int .i64 ((max r 1 : Nat) : Int) := by congr 1; omega
theorem FE.alloc {F F' : List Nat} {w w' : World} (h : FE F w F' w') (o : Obj) : FE F w F' (w'.alloc o) :=
  ⟨⟨h.fr.os, h.fr.tape, h.fr.output, by have := h.fr.size; simp; omega, fun b hb hn => (heap_old _ _ (Nat.lt_of_lt_of_le hb h.fr.size)).trans (h.fr.block b hb hn)⟩, h.sub⟩
/-- a smaller one's place -/
theorem hh_bd {vs : List Int} {ps : List Nat} {hh : Nat → Nat} {ok : Bool} (hv : WV vs) (hl : vs.length ≤ 2147483648) (h : HInv vs ps hh ok) {e : Nat} (he : e ∈ ps) : hh e < 2147483648 := by
  have := h.le e he; have := height_lt hv (h.mem e he); omega
/-- the contract of walk at a row -/
def WalkC (C : List Nat) (w1 : World) (p : Nat) (F : List Nat) (D : WD) (vs : List Int) (gk : List Nat) (m b6 b8 b2 b7 b9 mh : Nat) (x : Int) : Prop :=
  ∀ (v : Value) (wr : World) (ps : List Nat) (hh : Nat → Nat) (ok : Bool) (plv : Value), TRow w1 v (pf vs x) → Hid (GS w1 vs b8 b7 mh ps hh ok plv wr) →
    Calls Tryz.prog 95 #[v, .pointer (some ⟨b6, 0, none⟩), .pointer (some ⟨b8, 0, none⟩), .pointer (some ⟨b2, 0, none⟩), .pointer (some ⟨b7, 0, none⟩), .pointer (some ⟨b9, 0, none⟩)] wr (WalkQ w1 vs b8 b7 mh x ps ok plv wr)

theorem GS.drew {w1 wr : World} {vs : List Int} {b8 b7 mh : Nat} {ps : List Nat} {hh : Nat → Nat} {ok : Bool} {plv : Value} (S : GS w1 vs b8 b7 mh ps hh ok plv wr) : GS w1 vs b8 b7 mh ps hh ok plv wr.drew := S.below ((Below.refl _ _).drew)
theorem FE.setOk {w : World} {b8 b7 mh : Nat} {plv : Value} (v : Value) : FE (GO b7 b8 mh plv) w (GO b7 b8 mh plv) (w.setCell ⟨b8, 0, none⟩ v).drew :=
  ⟨⟨rfl, rfl, rfl, by simp, fun b _ hn => RowKit.Below.heap_setCell _ _ _ _ (by show b ≠ b8; rintro rfl; exact hn (mem_GO.2 (.inr (.inl rfl))))⟩, fun _ h => .inl h⟩

set_option maxHeartbeats 4000000 in
set_option maxRecDepth 100000 in
theorem walk_step {C : List Nat} {w1 : World} {p : Nat} {F : List Nat} {D : WD} {vs : List Int} {gk : List Nat} {m b6 b8 b2 b7 b9 mh : Nat} (B : Hid (GB C w1 p F D vs gk m b6 b8 b2 b7 b9 mh)) (x : Int) (hx : ∀ e ∈ exps x, (e : Int) ∈ vs)
    (ih : ∀ e ∈ exps x, WalkC C w1 p F D vs gk m b6 b8 b2 b7 b9 mh (e : Int)) : WalkC C w1 p F D vs gk m b6 b8 b2 b7 b9 mh x := by
  intro v wr0 ps hh ok plv hv0 S0
  have HV : Hid (TRow w1 v (pf vs x)) := hv0
  have HX : Hid (∀ e ∈ exps x, (e : Int) ∈ vs) := hx
  have IH : Hid (∀ e ∈ exps x, WalkC C w1 p F D vs gk m b6 b8 b2 b7 b9 mh (e : Int)) := ih
  have HVL : vs.length ≤ 2147483648 := B.out.wo.vlen
  obtain ⟨va, ca, rfl, _, _⟩ := hv0.shape
  obtain ⟨N, hN⟩ : ∃ N, N = (pf vs x).length := ⟨_, rfl⟩
  have hNb : N ≤ 2147483648 := by rw [hN]; exact pf_len HVL hx
  rw [← hN] at HV
  have HNe : Hid (N = (pf vs x).length) := hN
  rw [← hN]
  clear hv0 hx ih hN
  go_enter Tryz.func95, Tryz.ntmps95
  go_wp2_with fail
  go_loopg [8, 16] N (fun g1 vh vi wr => ∃ (k r : Nat) (ps1 : List Nat) (hh1 : Nat → Nat) (ok1 : Bool) (plv1 : Value), vh = .int .i64 (r : Nat) ∧ vi = .int .i64 k ∧ k ≤ N ∧ N - k ≤ g1 ∧ r ≤ 2147483648 ∧ Hid (GS w1 vs b8 b7 mh ps1 hh1 ok1 plv1 wr) ∧ Hid (Wk ((exps x).take k) ps ok ps1 ok1 r) ∧ Hid (FE (GO b7 b8 mh plv) wr0 (GO b7 b8 mh plv1) wr))
  case atStart => exact ⟨0, 0, ps, hh, ok, plv, rfl, rfl, by omega, by omega, by omega, S0, Wk.start _ _, FE.refl _ _⟩
  case round =>
    clear S0
    obtain ⟨k, r, ps1, hh1, ok1, plv1, rfl, rfl, hkl, hg, hr, HS, HW, HFE⟩ := hrel
    by_cases hk : k < N
    · have hkz : (k : Int) < (N : Int) := by omega
      have hk0 : (0 : Int) ≤ (k : Int) := Int.natCast_nonneg k
      have hkw : IntKind.i64.wrap ((k : Int) + 1) = (k : Int) + 1 := IntWalk.i64_in _ (by omega)
      have hNx : N = (exps x).length := by rw [HNe.out]; simp [pf, exps]
      obtain ⟨e, he⟩ : ∃ e, (exps x)[k]? = some e := ⟨_, List.getElem?_eq_getElem (by omega)⟩
      obtain ⟨t, ht, rfl⟩ : ∃ t, (form x)[k]? = some t ∧ t.2 = e := by
        unfold exps at he; rw [List.getElem?_map] at he; exact Option.map_eq_some_iff.1 he
      obtain ⟨sx, e⟩ := t
      have hem := HX.out e (List.mem_of_getElem? he)
      have hpk : (pf vs x)[k]? = some (sx, vs.idxOf (e : Int)) := by unfold pf; rw [List.getElem?_map, ht]; rfl
      obtain ⟨_, _, ea, _, sa⟩ := TRow.shape (B.out.trow HS.out.fr HV.out)
      obtain ⟨ga, hga, cx0, cx1⟩ := sa k _ hpk
      rw [← HNe.out] at ea
      obtain ⟨q1, q2, q3⟩ := Value.slice.inj ea
      subst hga
      subst q1
      clear q2 q3 ea sa
      dsimp only at cx0 cx1
      have hz : Hid (wr.heap.size + 1 = (wr.alloc (.cells #[.bool sx, .int .i64 (vs.idxOf (e : Int) : Nat)] 154)).heap.size) := by show _ = _; simp
      have hT : Hid ((exps x).take (k + 1) = (exps x).take k ++ [e]) := take_succ he
      have HE : Hid (e ∈ exps x) := List.mem_of_getElem? he
      have HM : Hid ((e : Int) ∈ vs) := hem
      have HAl : Hid (vs.idxOf (e : Int) < vs.length) := idx_lt hem
      have hwv := Lib.hid B.out.wo.wv
      obtain ⟨a, ha⟩ : ∃ a, a = vs.idxOf (e : Int) := ⟨_, rfl⟩
      rw [← ha] at cx1 hz HAl
      have HA : Hid (a = vs.idxOf (e : Int)) := ha
      have c6 : wr.cell? ⟨b6, 0, none⟩ = some (.map (some mh)) := by rw [cell_of (B.out.keep HS.out.fr B.out.bh (by decide) (by decide))]; rfl
      have c8 : wr.cell? ⟨b8, 0, none⟩ = some (.bool ok1) := by rw [cell_of HS.out.bo]; rfl
      have l6 : ∀ o, (wr.alloc o).cell? ⟨b6, 0, none⟩ = some (.map (some mh)) := fun o => by have hk := B.out.keep HS.out.fr B.out.bh (by decide) (by decide); rw [cell_of ((heap_old _ _ (Array.getElem?_eq_some_iff.1 hk).1).trans hk)]; rfl
      have l8 : ∀ o, (wr.alloc o).cell? ⟨b8, 0, none⟩ = some (.bool ok1) := fun o => by have hk := HS.out.bo; rw [cell_of ((heap_old _ _ (Array.getElem?_eq_some_iff.1 hk).1).trans hk)]; rfl
      clear c6 c8
      have la : ga ≠ wr.heap.size := by have := cell_lt cx0; omega
      have HS1 : Hid (GS w1 vs b8 b7 mh ps1 hh1 ok1 plv1 (wr.alloc (.cells #[.bool sx, .int .i64 (a : Nat)] 154))) := HS.out.below ((Below.refl _ _).alloc (Nat.le_refl _) _)
      have hlook := HS1.out.look HVL hem
      rw [← ha] at hlook
      clear ht he hem hpk ha hNx
      rcases hlook with ⟨hin, hlk⟩ | ⟨hin, hlk⟩
      · have hlk1 := hlk _ rfl
        have hhb := hh_bd hwv.out HVL HS1.out.inv hin
        obtain ⟨hv1, hhv⟩ : ∃ hv1, hv1 = hh1 e := ⟨_, rfl⟩
        rw [← hhv] at hlk1 hhb
        have HHV : Hid (hv1 = hh1 e) := hhv
        have Hin : Hid (e ∈ ps1) := hin
        have hw1 : IntKind.i64.wrap ((hv1 : Int) + 1) = (hv1 : Int) + 1 := IntWalk.i64_in _ (by omega)
        clear hlk hhv hin l8
        have HFE1 : Hid (FE (GO b7 b8 mh plv) wr0 (GO b7 b8 mh plv1) (wr.alloc (.cells #[.bool sx, .int .i64 (a : Nat)] 154))) := HFE.out.alloc _
        clear HS HFE
        go_wp2_with fail
        go_roundg (N - (k + 1))
        case measure => omega
        case rel =>
          refine ⟨k + 1, max r (hv1 + 1), ps1, hh1, ok1, plv1, int_max r hv1, by go_num, by omega, by omega, by omega, HS1, ?_, HFE1⟩
          show Wk _ _ _ _ _ _
          rw [hT.out, HHV.out]; exact HW.out.known HS1.out.inv Hin.out
      · have hlk1 := hlk _ rfl
        have Hnin : Hid (e ∉ ps1) := hin
        have HFE1 : Hid (FE (GO b7 b8 mh plv) wr0 (GO b7 b8 mh plv1) (wr.alloc (.cells #[.bool sx, .int .i64 (a : Nat)] 154))) := HFE.out.alloc _
        clear hlk hin
        cases ok1
        · clear HS HFE
          go_wp2_with fail
          go_roundg (N - (k + 1))
          case measure => omega
          case rel =>
            refine ⟨k + 1, max r 1, ps1, hh1, false, plv1, int_max1 r, by go_num, by omega, by omega, by omega, HS1, ?_, HFE1⟩
            show Wk _ _ _ _ _ _
            rw [hT.out]; exact HW.out.lost
        · have HWO := B.out.wo' HS1.out.fr
          obtain ⟨gf, cf, hfv, hgF, hrow⟩ := HWO.formAt
          obtain ⟨fv, efv, cfv, rfv, _⟩ := hrow a e (by rw [HA.out]; exact get_idx HM.out)
          have HRV : Hid (TRow w1 fv (pf vs (e : Int))) := by
            obtain ⟨fv', q1, q2, _⟩ := B.out.wo.rows a e (by rw [HA.out]; exact get_idx HM.out)
            rw [efv] at q1; cases q1; exact q2
          have cp0 := HWO.c0
          rw [hfv] at cp0
          have cb2 : (wr.alloc (.cells #[.bool sx, .int .i64 (a : Nat)] 154)).cell? ⟨b2, 0, none⟩ = some (.pointer (some ⟨p, 0, none⟩)) := by rw [cell_of (B.out.keep HS1.out.fr B.out.bw (by decide) (by decide))]; rfl
          have hb9 := B.out.keep HS1.out.fr B.out.bk (by decide) (by decide)
          have a0 : (0 : Int) ≤ (a : Int) := by omega
          have az : (a : Int) < (vs.length : Int) := by have := HAl.out; omega
          obtain ⟨fa, fc, rfl, _, _⟩ := rfv.shape
          obtain ⟨NE, hNE⟩ : ∃ NE, NE = (pf vs (e : Int)).length := ⟨_, rfl⟩
          have HNE : Hid (NE = (pf vs (e : Int)).length) := hNE
          rw [← hNE] at cfv HRV
          have cb7 : (wr.alloc (.cells #[.bool sx, .int .i64 (a : Nat)] 154)).cell? ⟨b7, 0, none⟩ = some plv1 := by rw [cell_of HS1.out.bp]; rfl
          obtain ⟨pa, pc, hplv⟩ : ∃ pa pc, plv1 = .slice pa ps1.length pc := by
            obtain ⟨_, ⟨q1, q2⟩ | ⟨g, cap, cur, q1, _⟩⟩ := HS1.out.row
            · rw [List.length_map] at q2; exact ⟨none, 0, by rw [q1, q2]⟩
            · rw [List.length_map] at q1; exact ⟨_, cap, q1⟩
          have f8 : (wr.alloc (.cells #[.bool sx, .int .i64 (a : Nat)] 154)).frozen? ⟨b8, 0, none⟩ = false := free_of HS1.out.bo 0
          have htb : (wr.alloc (.cells #[.bool sx, .int .i64 (a : Nat)] 154)).heap[wr.heap.size]? = some (.cells #[.bool sx, .int .i64 (a : Nat)] 154 (0, 0)) := heap_last _ _
          have HTB : Hid (∀ w' F', FE (GO b7 b8 mh plv1) (wr.alloc (.cells #[.bool sx, .int .i64 (a : Nat)] 154)) F' w' → w'.heap[wr.heap.size]? = some (.cells #[.bool sx, .int .i64 (a : Nat)] 154 (0, 0))) := fun w' F' hfe => by
            rw [hfe.fr.block _ (by simp) ?_]; exact htb
            rw [mem_GO]
            rintro (q | q | q | q)
            · have := (Array.getElem?_eq_some_iff.1 HS.out.bp).1; omega
            · have := (Array.getElem?_eq_some_iff.1 HS.out.bo).1; omega
            · obtain ⟨f, q1, _⟩ := HS.out.map; have := q1.lt; omega
            · have := ownsRow_lt HS.out.row q; omega
          have HPB : ps1.length ≤ 2147483648 := by
            have := nodup_length_le (ps1.map fun (e : Nat) => (e : Int).toNat) (vs.map Int.toNat) (by simpa using HS1.out.inv.nodup) (fun y hy => by
              obtain ⟨e', q1, rfl⟩ := List.mem_map.1 hy
              exact List.mem_map.2 ⟨_, HS1.out.inv.mem e' q1, rfl⟩)
            simp at this; omega
          have c9 : (wr.alloc (.cells #[.bool sx, .int .i64 (a : Nat)] 154)).cell? ⟨b9, 0, none⟩ = some (.func (.func 95) #[] #[.pointer (some ⟨b6, 0, none⟩), .pointer (some ⟨b8, 0, none⟩), .pointer (some ⟨b2, 0, none⟩), .pointer (some ⟨b7, 0, none⟩), .pointer (some ⟨b9, 0, none⟩)]) := by rw [cell_of hb9]; rfl
          have n98 : b9 ≠ b8 := type_ne hb9 HS1.out.bo (by decide)
          subst hplv
          clear HWO hrow efv rfv hb9 hNE htb HS HFE hgF hfv
          have HNF : Hid (NE = (form (e : Int)).length) := by show _ = _; rw [HNE.out]; simp [pf]
          by_cases h3 : NE ≤ 300
          · have h3z : (NE : Int) ≤ 300 := by omega
            have HOK : Hid (decide ((ps1.length : Int) < 2000) = (decide ((form (e : Int)).length ≤ 300) && decide (ps1.length < 2000))) := by
              show _ = _
              rw [← HNF.out, decide_eq_true h3, Bool.true_and]
              exact decide_eq_decide.2 (by omega)
            go_wp2_with fail
            go_region
            go_wp2_with fail
            have HS5 : Hid (GS w1 vs b8 b7 mh ps1 hh1 (decide ((ps1.length : Int) < 2000)) (.slice pa ps1.length pc) ((wr.alloc (.cells #[.bool sx, .int .i64 (a : Nat)] 154)).setCell ⟨b8, 0, none⟩ (.bool (decide ((ps1.length : Int) < 2000)))).drew) := (HS1.out.setOk B.out (decide ((ps1.length : Int) < 2000)) (fun _ => rfl)).drew
            refine (IH.out e HE.out _ _ ps1 hh1 (decide ((ps1.length : Int) < 2000)) _ HRV.out HS5).mono ?_
            rintro y w2 ⟨ps2, hh2, ok3, plv2, q, rfl, HS2, HW2, HF2⟩
            have HW2' : Hid (Wk (exps (e : Int)) ps1 (decide ((form (e : Int)).length ≤ 300) && decide (ps1.length < 2000)) ps2 ok3 q) := by
              show Wk _ _ _ _ _ _
              rw [← HOK.out]; exact HW2.out
            have HFE5 : Hid (FE (GO b7 b8 mh (.slice pa ps1.length pc)) (wr.alloc (.cells #[.bool sx, .int .i64 (a : Nat)] 154)) (GO b7 b8 mh plv2) w2) := (FE.setOk _).trans HF2.out
            obtain ⟨hn2, hinv⟩ := HInv.walked Hnin.out HM.out HW2'.out HS2.out.inv
            obtain ⟨W4, hrun, hs4, hck, hrow4, hfin⟩ := HS2.out.pushed B.out HVL HM.out hinv hn2
            rw [← HA.out] at hrun hfin
            have htb2 := HTB.out w2 _ HFE5.out
            have c6w : w2.cell? ⟨b6, 0, none⟩ = some (.map (some mh)) := by rw [cell_of (B.out.keep HS2.out.fr B.out.bh (by decide) (by decide))]; rfl
            have ctb2 : w2.cell? ⟨wr.heap.size, 1, none⟩ = some (.int .i64 (a : Nat)) := by rw [cell_of htb2]; rfl
            have ctb4 : W4.cell? ⟨wr.heap.size, 1, none⟩ = some (.int .i64 (a : Nat)) := by rw [cell_of (hck _ _ _ _ htb2)]; rfl
            have c7w : W4.cell? ⟨b7, 0, none⟩ = some plv2 := by rw [cell_of (hck _ _ _ _ HS2.out.bp)]; rfl
            have hqb : q < 2147483648 := by
              have h1 := HW2'.out.le
              rw [← height_hts] at h1
              have := height_lt hwv.out HM.out
              omega
            have hps2 : (ps2.map fun (e : Nat) => vs.idxOf (e : Int)).length + 1 ≤ 1099511627776 := by
              have := nodup_length_le (ps2.map fun (e : Nat) => (e : Int).toNat) (vs.map Int.toNat) (by simpa using HS2.out.inv.nodup) (fun y hy => by
                obtain ⟨e', q1, rfl⟩ := List.mem_map.1 hy
                exact List.mem_map.2 ⟨_, HS2.out.inv.mem e' q1, rfl⟩)
              simp at this ⊢; omega
            have hwq : IntKind.i64.wrap ((q : Int) + 1) = (q : Int) + 1 := IntWalk.i64_in _ (by omega)
            obtain ⟨ds2, hds2⟩ : ∃ ds2, ds2 = ps2.map fun (e : Nat) => vs.idxOf (e : Int) := ⟨_, rfl⟩
            rw [← hds2] at hrow4 hfin hps2
            have HFin := Lib.hid hfin
            have HRow4 := Lib.hid hrow4
            clear htb2 hck hrow4 hfin hs4 hinv hn2 hds2 hlk1 HTB HS1 HS5 HF2
            go_wp2_with (at_builtin; go_loud (refine app_I1L rfl _ _ rfl plv2 ds2 rfl (World.ownsRow.alloc HRow4.out _) _ a rfl (heap_last _ _) hps2 _ rfl ?_); intro g cap w3 I3 G3 A3 L3
                         obtain ⟨hgs, hfe, c73, f73⟩ := HFin.out w3 g _ cap _ I3 G3 (by simpa using A3)
                         have HGS := Lib.hid hgs
                         have HFE3 := Lib.hid hfe
                         clear I3 G3 A3 hgs hfe)
            go_roundg (N - (k + 1))
            case measure => omega
            case rel =>
              refine ⟨k + 1, max r (q + 1), ps2 ++ [e], upH hh2 e q, ok3, _, int_max r q, by go_num, by omega, by omega, by omega, HGS, ?_, (HFE1.out.trans HFE5.out).trans HFE3.out⟩
              show Wk _ _ _ _ _ _
              rw [hT.out]; exact HW.out.walked HW2'.out
          · have h3z : ¬ ((NE : Int) ≤ 300) := by omega
            have HOK : Hid (false = (decide ((form (e : Int)).length ≤ 300) && decide (ps1.length < 2000))) := by
              show _ = _
              rw [← HNF.out, decide_eq_false h3, Bool.false_and]
            go_wp2_with fail
            go_region
            go_wp2_with fail
            have HS5 : Hid (GS w1 vs b8 b7 mh ps1 hh1 false (.slice pa ps1.length pc) ((wr.alloc (.cells #[.bool sx, .int .i64 (a : Nat)] 154)).setCell ⟨b8, 0, none⟩ (.bool false)).drew) := (HS1.out.setOk B.out false (fun _ => rfl)).drew
            refine (IH.out e HE.out _ _ ps1 hh1 false _ HRV.out HS5).mono ?_
            rintro y w2 ⟨ps2, hh2, ok3, plv2, q, rfl, HS2, HW2, HF2⟩
            have HW2' : Hid (Wk (exps (e : Int)) ps1 (decide ((form (e : Int)).length ≤ 300) && decide (ps1.length < 2000)) ps2 ok3 q) := by
              show Wk _ _ _ _ _ _
              rw [← HOK.out]; exact HW2.out
            have HFE5 : Hid (FE (GO b7 b8 mh (.slice pa ps1.length pc)) (wr.alloc (.cells #[.bool sx, .int .i64 (a : Nat)] 154)) (GO b7 b8 mh plv2) w2) := (FE.setOk _).trans HF2.out
            obtain ⟨hn2, hinv⟩ := HInv.walked Hnin.out HM.out HW2'.out HS2.out.inv
            obtain ⟨W4, hrun, hs4, hck, hrow4, hfin⟩ := HS2.out.pushed B.out HVL HM.out hinv hn2
            rw [← HA.out] at hrun hfin
            have htb2 := HTB.out w2 _ HFE5.out
            have c6w : w2.cell? ⟨b6, 0, none⟩ = some (.map (some mh)) := by rw [cell_of (B.out.keep HS2.out.fr B.out.bh (by decide) (by decide))]; rfl
            have ctb2 : w2.cell? ⟨wr.heap.size, 1, none⟩ = some (.int .i64 (a : Nat)) := by rw [cell_of htb2]; rfl
            have ctb4 : W4.cell? ⟨wr.heap.size, 1, none⟩ = some (.int .i64 (a : Nat)) := by rw [cell_of (hck _ _ _ _ htb2)]; rfl
            have c7w : W4.cell? ⟨b7, 0, none⟩ = some plv2 := by rw [cell_of (hck _ _ _ _ HS2.out.bp)]; rfl
            have hqb : q < 2147483648 := by
              have h1 := HW2'.out.le
              rw [← height_hts] at h1
              have := height_lt hwv.out HM.out
              omega
            have hps2 : (ps2.map fun (e : Nat) => vs.idxOf (e : Int)).length + 1 ≤ 1099511627776 := by
              have := nodup_length_le (ps2.map fun (e : Nat) => (e : Int).toNat) (vs.map Int.toNat) (by simpa using HS2.out.inv.nodup) (fun y hy => by
                obtain ⟨e', q1, rfl⟩ := List.mem_map.1 hy
                exact List.mem_map.2 ⟨_, HS2.out.inv.mem e' q1, rfl⟩)
              simp at this ⊢; omega
            have hwq : IntKind.i64.wrap ((q : Int) + 1) = (q : Int) + 1 := IntWalk.i64_in _ (by omega)
            obtain ⟨ds2, hds2⟩ : ∃ ds2, ds2 = ps2.map fun (e : Nat) => vs.idxOf (e : Int) := ⟨_, rfl⟩
            rw [← hds2] at hrow4 hfin hps2
            have HFin := Lib.hid hfin
            have HRow4 := Lib.hid hrow4
            clear htb2 hck hrow4 hfin hs4 hinv hn2 hds2 hlk1 HTB HS1 HS5 HF2
            go_wp2_with (at_builtin; go_loud (refine app_I1L rfl _ _ rfl plv2 ds2 rfl (World.ownsRow.alloc HRow4.out _) _ a rfl (heap_last _ _) hps2 _ rfl ?_); intro g cap w3 I3 G3 A3 L3
                         obtain ⟨hgs, hfe, c73, f73⟩ := HFin.out w3 g _ cap _ I3 G3 (by simpa using A3)
                         have HGS := Lib.hid hgs
                         have HFE3 := Lib.hid hfe
                         clear I3 G3 A3 hgs hfe)
            go_roundg (N - (k + 1))
            case measure => omega
            case rel =>
              refine ⟨k + 1, max r (q + 1), ps2 ++ [e], upH hh2 e q, ok3, _, int_max r q, by go_num, by omega, by omega, by omega, HGS, ?_, (HFE1.out.trans HFE5.out).trans HFE3.out⟩
              show Wk _ _ _ _ _ _
              rw [hT.out]; exact HW.out.walked HW2'.out
    · have hkz : ¬ ((k : Int) < (N : Int)) := by omega
      go_wp2_with fail
      refine bodyPost_ret (results_tmp rfl _ _ _) rfl ?_
      have hNx : N = (exps x).length := by rw [HNe.out]; simp [pf, exps]
      have hT : (exps x).take k = exps x := List.take_of_length_le (by omega)
      have HW2 := HW.out
      rw [hT] at HW2
      exact ⟨ps1, hh1, ok1, plv1, r, rfl, HS, HW2, HFE⟩

theorem walk_calls {C : List Nat} {w1 : World} {p : Nat} {F : List Nat} {D : WD} {vs : List Int} {gk : List Nat} {m b6 b8 b2 b7 b9 mh : Nat} (B : Hid (GB C w1 p F D vs gk m b6 b8 b2 b7 b9 mh)) :
    ∀ (n : Nat) (x : Int), x.natAbs ≤ n → (∀ e ∈ exps x, (e : Int) ∈ vs) → WalkC C w1 p F D vs gk m b6 b8 b2 b7 b9 mh x := by
  intro n
  induction n with
  | zero => exact fun x h hx => walk_step B x hx fun e he => by have := exps_lt he; omega
  | succ n ih => exact fun x h hx => walk_step B x hx fun e he => ih (e : Int) (by have := exps_lt he; omega) fun a ha => B.out.wo.wv.mem_exps (hx e he) ha
end Sr
/- the functions placed of give (97: places in a map) and of part (166: places in a row): a row with other places. -/
namespace Sr
open Go Go.Proofs Go.RowKit Go.Maps Go.WideMaps

/-- terms with other places -/
def repl (G : Nat → Nat) (l : List PT) : List PT := l.map fun t => (t.1, G t.2)
theorem repl_len (G : Nat → Nat) (l : List PT) : (repl G l).length = l.length := by simp [repl]
theorem repl_get {G : Nat → Nat} {l : List PT} {k : Nat} {t : PT} (ht : l[k]? = some t) : (repl G (l.take k) ++ l.drop k)[k]? = some t ∧ repl G (l.take (k + 1)) ++ l.drop (k + 1) = (repl G (l.take k) ++ l.drop k).set k (t.1, G t.2) := by
  have hk := (List.getElem?_eq_some_iff.1 ht).1
  have e2 : (repl G (l.take k)).length = k := by rw [repl_len, List.length_take]; omega
  constructor
  · rw [List.getElem?_append_right (by omega), e2, Nat.sub_self, List.getElem?_drop, Nat.add_zero, ht]
  · have e1 : l.drop k = t :: l.drop (k + 1) := drop_of ht
    have e3 : repl G (l.take (k + 1)) = repl G (l.take k) ++ [(t.1, G t.2)] := by rw [take_succ ht]; simp [repl]
    rw [e3, e1, List.append_assoc, List.set_append_right _ _ (by omega), e2, Nat.sub_self]
    simp

set_option maxHeartbeats 4000000 in
set_option maxRecDepth 100000 in
theorem placedS_calls {W : World} {bp : Nat} {pv v : Value} {ds : List Nat} {l : List PT} {G : Nat → Nat} (h1 : W.heap[bp]? = some (.cells #[pv] 80 (0, 0))) (hp : IRow W pv ds) (hl : TRow W v l)
    (hd : ∀ t ∈ l, ds[t.2]? = some (G t.2)) (hlen : l.length ≤ 1000000) :
    Calls Tryz.prog 166 #[v, .pointer (some ⟨bp, 0, none⟩)] W fun e W' => ∃ v', e = .returned v' ∧ Hid (TRow W' v' (repl G l)) ∧ Hid (Below W.heap.size W W') ∧ Hid (∀ b, v'.ownBlock = some b → W.heap.size ≤ b) := by
  have HP := Lib.hid hp
  have HD : Hid (∀ t ∈ l, ds[t.2]? = some (G t.2)) := hd
  clear hp hd
  have HCl := clone_calls hl (by omega)
  have H1 := Lib.hid h1
  clear h1
  go_enter Tryz.func166, Tryz.ntmps166
  go_wp2_with fail
  refine HCl.mono ?_
  rintro y w1 ⟨v1, rfl, hr1, hb1, ho1⟩
  clear HCl
  obtain ⟨a1, c1, rfl, _, _⟩ := hr1.out.shape
  have K0 : Hid (w1.ownsRow 0 154 2 (.slice a1 l.length c1) l.length (tcells (repl G (l.take 0) ++ l.drop 0))) := hr1.out
  have HO : Hid (∀ b, (Value.slice a1 l.length c1).ownBlock = some b → W.heap.size ≤ b) := ho1
  clear hr1 ho1
  go_wp2_with fail
  go_loopg [9] l.length (fun g1 vi wr => ∃ k : Nat, vi = .int .i64 k ∧ k ≤ l.length ∧ l.length - k ≤ g1 ∧ Hid (wr.ownsRow 0 154 2 (.slice a1 l.length c1) l.length (tcells (repl G (l.take k) ++ l.drop k))) ∧ Hid (Below W.heap.size W wr))
  case atStart => exact ⟨0, rfl, by omega, by omega, K0, hb1⟩
  case round =>
    clear K0 hb1
    obtain ⟨k, rfl, hkl, hg, HK, HB⟩ := hrel
    by_cases hk : k < l.length
    · have hkz : (k : Int) < (l.length : Int) := by omega
      have hk0 : (0 : Int) ≤ (k : Int) := Int.natCast_nonneg k
      have hkw : IntKind.i64.wrap ((k : Int) + 1) = (k : Int) + 1 := IntWalk.i64_in _ (by omega)
      obtain ⟨t, ht⟩ : ∃ t, l[k]? = some t := ⟨_, List.getElem?_eq_getElem hk⟩
      obtain ⟨hlk, hnx0⟩ := repl_get (G := G) ht
      have hnx : Hid (repl G (l.take (k + 1)) ++ l.drop (k + 1) = (repl G (l.take k) ++ l.drop k).set k (t.1, G t.2)) := hnx0
      clear hnx0
      have hbl := Lib.hid ((HB.out.block bp (Array.getElem?_eq_some_iff.1 H1.out).1).trans H1.out)
      have htd := HD.out t (List.mem_of_getElem? ht)
      have htl := (List.getElem?_eq_some_iff.1 htd).1
      obtain ⟨gp, cp, rfl, cq⟩ := row1_cell (k := t.2) (x := .int .i64 (G t.2 : Nat)) (ownsRow_below HP.out HB.out) (by rw [List.getElem?_map, htd]; rfl)
      have cb : wr.cell? ⟨bp, 0, none⟩ = some (.slice (some ⟨gp, 0, none⟩) ds.length cp) := by rw [cell_of hbl.out]; rfl
      have t1 : (t.2 : Int) < (ds.length : Int) := by omega
      clear htd htl
      obtain ⟨hh1, ⟨hh2, hh3⟩ | ⟨g, cap, cur, hv, _, h4, h5, h6, h7, h8⟩⟩ := HK.out
      · omega
      · cases hv
        obtain ⟨_, d1⟩ := tcells_get hlk
        rw [← h8, List.getElem?_take_of_lt (by omega), Array.getElem?_toList, ← cell_of h4] at d1
        have f1 := free_of h4 (k * 2 + 1)
        have t0 : (0 : Int) ≤ (t.2 : Int) := Int.natCast_nonneg _
        have HS : Hid _ := setP (G t.2) hlk HK.out
        have HB2 : Hid (Below W.heap.size W (wr.setCell ⟨g, k * 2 + 1, none⟩ (.int .i64 (G t.2 : Nat))).drew) := ⟨HB.out.os, HB.out.tape, HB.out.output, by have := HB.out.size; simpa using this, fun b hb => (RowKit.Below.heap_setCell _ _ _ _ (show b ≠ g by have := HO.out g rfl; omega)).trans (HB.out.block b hb)⟩
        obtain ⟨q, hq⟩ : ∃ q, q = G t.2 := ⟨_, rfl⟩
        rw [← hq] at HS HB2 hnx
        clear hh1 h4 h5 h6 h7 h8 ht hlk
        rw [← hq] at cq
        clear hq
        go_wp2_with fail
        go_region
        go_wp2_with fail
        go_roundg (l.length - (k + 1))
        case measure => omega
        case rel => exact ⟨k + 1, by go_num, by omega, by omega, by show World.ownsRow _ _ _ _ _ _ _; rw [hnx.out]; exact HS.out, HB2⟩
    · have hkz : ¬ ((k : Int) < (l.length : Int)) := by omega
      have HR : Hid (TRow wr (.slice a1 l.length c1) (repl G l)) := by
        have h := HK.out
        rw [List.take_of_length_le (by omega), List.drop_eq_nil_of_le (by omega), List.append_nil] at h
        show TRow _ _ _
        unfold TRow; rw [repl_len]; exact h
      go_wp2_with fail
      refine bodyPost_ret (results_tmp rfl _ _ _) rfl ?_
      exact ⟨_, rfl, HR, HB, HO⟩
set_option maxHeartbeats 4000000 in
set_option maxRecDepth 100000 in
theorem placedM_calls {W : World} {bp mb : Nat} {v : Value} {l : List PT} {G : Nat → Nat} {f : Value → Option Value} (h1 : W.heap[bp]? = some (.cells #[.map (some mb)] 122 (0, 0))) (hf : MapF Tryz.prog 3 W mb f) (hl : TRow W v l)
    (hd : ∀ t ∈ l, t.2 < 2147483648 ∧ f (.int .i64 (t.2 : Nat)) = some (.int .i64 (G t.2 : Nat))) (hlen : l.length ≤ 1000000) :
    Calls Tryz.prog 97 #[v, .pointer (some ⟨bp, 0, none⟩)] W fun e W' => ∃ v', e = .returned v' ∧ Hid (TRow W' v' (repl G l)) ∧ Hid (Below W.heap.size W W') ∧ Hid (∀ b, v'.ownBlock = some b → W.heap.size ≤ b) := by
  have HF := Lib.hid hf
  have HD : Hid (∀ t ∈ l, t.2 < 2147483648 ∧ f (.int .i64 (t.2 : Nat)) = some (.int .i64 (G t.2 : Nat))) := hd
  clear hf hd
  have HCl := clone_calls hl (by omega)
  have H1 := Lib.hid h1
  clear h1
  go_enter Tryz.func97, Tryz.ntmps97
  go_wp2_with fail
  refine HCl.mono ?_
  rintro y w1 ⟨v1, rfl, hr1, hb1, ho1⟩
  clear HCl
  obtain ⟨a1, c1, rfl, _, _⟩ := hr1.out.shape
  have K0 : Hid (w1.ownsRow 0 154 2 (.slice a1 l.length c1) l.length (tcells (repl G (l.take 0) ++ l.drop 0))) := hr1.out
  have HO : Hid (∀ b, (Value.slice a1 l.length c1).ownBlock = some b → W.heap.size ≤ b) := ho1
  clear hr1 ho1
  go_wp2_with fail
  go_loopg [9] l.length (fun g1 vi wr => ∃ k : Nat, vi = .int .i64 k ∧ k ≤ l.length ∧ l.length - k ≤ g1 ∧ Hid (wr.ownsRow 0 154 2 (.slice a1 l.length c1) l.length (tcells (repl G (l.take k) ++ l.drop k))) ∧ Hid (Below W.heap.size W wr))
  case atStart => exact ⟨0, rfl, by omega, by omega, K0, hb1⟩
  case round =>
    clear K0 hb1
    obtain ⟨k, rfl, hkl, hg, HK, HB⟩ := hrel
    by_cases hk : k < l.length
    · have hkz : (k : Int) < (l.length : Int) := by omega
      have hk0 : (0 : Int) ≤ (k : Int) := Int.natCast_nonneg k
      have hkw : IntKind.i64.wrap ((k : Int) + 1) = (k : Int) + 1 := IntWalk.i64_in _ (by omega)
      obtain ⟨t, ht⟩ : ∃ t, l[k]? = some t := ⟨_, List.getElem?_eq_getElem hk⟩
      obtain ⟨hlk, hnx0⟩ := repl_get (G := G) ht
      have hnx : Hid (repl G (l.take (k + 1)) ++ l.drop (k + 1) = (repl G (l.take k) ++ l.drop k).set k (t.1, G t.2)) := hnx0
      clear hnx0
      have hbl := Lib.hid ((HB.out.block bp (Array.getElem?_eq_some_iff.1 H1.out).1).trans H1.out)
      obtain ⟨hkb, hkf⟩ := HD.out t (List.mem_of_getElem? ht)
      have hl2 : keyOf Tryz.prog 3 (.int .i64 (t.2 : Nat)) = some (.int .i64 (t.2 : Nat)) := keyInt (wfNat (by omega))
      have hlook : (Instr.lookup 122 (.map (some mb)) (.int .i64 (t.2 : Nat)) false).run Tryz.prog wr.drew = .ok (.int .i64 (G t.2 : Nat)) wr.drew := by
        have := ((HF.out.kept (HB.out.block _ HF.out.lt)).kept (w' := wr.drew) rfl).look false law3 Tryz.underlying122 (zero3 wr.drew) hl2
        simpa [hkf] using this
      have cb : wr.cell? ⟨bp, 0, none⟩ = some (.map (some mb)) := by rw [cell_of hbl.out]; rfl
      clear hl2 hkb hkf
      obtain ⟨hh1, ⟨hh2, hh3⟩ | ⟨g, cap, cur, hv, _, h4, h5, h6, h7, h8⟩⟩ := HK.out
      · omega
      · cases hv
        obtain ⟨_, d1⟩ := tcells_get hlk
        rw [← h8, List.getElem?_take_of_lt (by omega), Array.getElem?_toList, ← cell_of h4] at d1
        have f1 := free_of h4 (k * 2 + 1)
        have t0 : (0 : Int) ≤ (t.2 : Int) := Int.natCast_nonneg _
        have HS : Hid _ := setP (G t.2) hlk HK.out
        have HB2 : Hid (Below W.heap.size W (wr.setCell ⟨g, k * 2 + 1, none⟩ (.int .i64 (G t.2 : Nat))).drew) := ⟨HB.out.os, HB.out.tape, HB.out.output, by have := HB.out.size; simpa using this, fun b hb => (RowKit.Below.heap_setCell _ _ _ _ (show b ≠ g by have := HO.out g rfl; omega)).trans (HB.out.block b hb)⟩
        obtain ⟨q, hq⟩ : ∃ q, q = G t.2 := ⟨_, rfl⟩
        rw [← hq] at HS HB2 hnx
        clear hh1 h4 h5 h6 h7 h8 ht hlk
        rw [← hq] at hlook
        clear hq
        go_wp2_with fail
        go_region
        go_wp2_with fail
        go_roundg (l.length - (k + 1))
        case measure => omega
        case rel => exact ⟨k + 1, by go_num, by omega, by omega, by show World.ownsRow _ _ _ _ _ _ _; rw [hnx.out]; exact HS.out, HB2⟩
    · have hkz : ¬ ((k : Int) < (l.length : Int)) := by omega
      have HR : Hid (TRow wr (.slice a1 l.length c1) (repl G l)) := by
        have h := HK.out
        rw [List.take_of_length_le (by omega), List.drop_eq_nil_of_le (by omega), List.append_nil] at h
        show TRow _ _ _
        unfold TRow; rw [repl_len]; exact h
      go_wp2_with fail
      refine bodyPost_ret (results_tmp rfl _ _ _) rfl ?_
      exact ⟨_, rfl, HR, HB, HO⟩
end Sr
/- world.give: its plain parts: the beginning, the sorted places, the loop that gathers the rows. -/
namespace Sr
open Go Go.Proofs Go.RowKit Go.Maps Go.WideMaps

def giveW (W : World) (p : Nat) : World :=
  (((((((W.alloc (.cells #[.pointer (some ⟨p, 0, none⟩)] 107)).alloc (.cells #[.pointer none] 26)).alloc (.map #[] 0)).alloc (.cells #[.map (some (W.heap.size + 1 + 1))] 122)).alloc (.cells #[.slice none 0 0] 80)).alloc (.cells #[.bool true] 4)).alloc
    (.cells #[.func (.func 95) #[] #[.pointer (some ⟨W.heap.size + 1 + 1 + 1, 0, none⟩), .pointer (some ⟨W.heap.size + 1 + 1 + 1 + 1 + 1, 0, none⟩), .pointer (some ⟨W.heap.size, 0, none⟩), .pointer (some ⟨W.heap.size + 1 + 1 + 1 + 1, 0, none⟩), .pointer (some ⟨W.heap.size + 1 + 1 + 1 + 1 + 1 + 1, 0, none⟩)]] 126))
theorem giveW_size (W : World) (p : Nat) : (giveW W p).heap.size = W.heap.size + 7 := by unfold giveW; simp
theorem giveW_below (W : World) (p : Nat) : Below W.heap.size W (giveW W p) := by
  unfold giveW
  exact (((((((Below.refl _ _).alloc (Nat.le_refl _) _).alloc (by simp) _).alloc (by simp; omega) _).alloc (by simp; omega) _).alloc (by simp; omega) _).alloc (by simp; omega) _).alloc (by simp; omega) _
theorem heap_at {w : World} {o : Obj} {n : Nat} (h : w.heap.size = n) : (w.alloc o).heap[n]? = some o := by rw [← h]; exact heap_last w o
theorem giveW_base {C : List Nat} {W : World} {p : Nat} {F : List Nat} {D : WD} {vs : List Int} {gk : List Nat} {m : Nat} (H : WO C W p F D vs gk m) :
    GB C (giveW W p) p F D vs gk m (W.heap.size + 1 + 1 + 1) (W.heap.size + 1 + 1 + 1 + 1 + 1) W.heap.size (W.heap.size + 1 + 1 + 1 + 1) (W.heap.size + 1 + 1 + 1 + 1 + 1 + 1) (W.heap.size + 1 + 1) ∧
    GS (giveW W p) vs (W.heap.size + 1 + 1 + 1 + 1 + 1) (W.heap.size + 1 + 1 + 1 + 1) (W.heap.size + 1 + 1) [] (fun _ => 0) true (.slice none 0 0) (giveW W p) ∧
    (giveW W p).heap[W.heap.size + 1]? = some (.cells #[.pointer none] 26 (0, 0)) := by
  have hsz := giveW_size W p
  have hb := H.blt
  have hwo := H.below (giveW_below W p)
  have e0 : (giveW W p).heap[W.heap.size]? = some (.cells #[.pointer (some ⟨p, 0, none⟩)] 107 (0, 0)) := by
    unfold giveW; rw [heap_old _ _ (by simp <;> omega), heap_old _ _ (by simp <;> omega), heap_old _ _ (by simp <;> omega), heap_old _ _ (by simp <;> omega), heap_old _ _ (by simp <;> omega), heap_old _ _ (by simp)]; exact heap_at rfl
  have e1 : (giveW W p).heap[W.heap.size + 1]? = some (.cells #[.pointer none] 26 (0, 0)) := by
    unfold giveW; rw [heap_old _ _ (by simp <;> omega), heap_old _ _ (by simp <;> omega), heap_old _ _ (by simp <;> omega), heap_old _ _ (by simp <;> omega), heap_old _ _ (by simp)]; exact heap_at (by simp)
  have e2 : (giveW W p).heap[W.heap.size + 1 + 1]? = some (.map #[] 0) := by
    unfold giveW; rw [heap_old _ _ (by simp <;> omega), heap_old _ _ (by simp <;> omega), heap_old _ _ (by simp <;> omega), heap_old _ _ (by simp)]; exact heap_at (by simp)
  have e3 : (giveW W p).heap[W.heap.size + 1 + 1 + 1]? = some (.cells #[.map (some (W.heap.size + 1 + 1))] 122 (0, 0)) := by
    unfold giveW; rw [heap_old _ _ (by simp <;> omega), heap_old _ _ (by simp <;> omega), heap_old _ _ (by simp)]; exact heap_at (by simp)
  have e4 : (giveW W p).heap[W.heap.size + 1 + 1 + 1 + 1]? = some (.cells #[.slice none 0 0] 80 (0, 0)) := by
    unfold giveW; rw [heap_old _ _ (by simp <;> omega), heap_old _ _ (by simp)]; exact heap_at (by simp)
  have e5 : (giveW W p).heap[W.heap.size + 1 + 1 + 1 + 1 + 1]? = some (.cells #[.bool true] 4 (0, 0)) := by
    unfold giveW; rw [heap_old _ _ (by simp)]; exact heap_at (by simp)
  have e6 : (giveW W p).heap[W.heap.size + 1 + 1 + 1 + 1 + 1 + 1]? = some (.cells #[.func (.func 95) #[] #[.pointer (some ⟨W.heap.size + 1 + 1 + 1, 0, none⟩), .pointer (some ⟨W.heap.size + 1 + 1 + 1 + 1 + 1, 0, none⟩), .pointer (some ⟨W.heap.size, 0, none⟩), .pointer (some ⟨W.heap.size + 1 + 1 + 1 + 1, 0, none⟩), .pointer (some ⟨W.heap.size + 1 + 1 + 1 + 1 + 1 + 1, 0, none⟩)]] 126 (0, 0)) := by
    unfold giveW; exact heap_at (by simp)
  refine ⟨⟨hwo, e3, e0, e6, fun h => ?_, fun h => ?_, fun h => ?_, by omega, by omega, by omega, ⟨_, e4⟩, ⟨_, e5⟩, ⟨_, _, e2⟩⟩, ⟨HInv.start _ _, Fr.refl _ _, e5, e4, ⟨rfl, .inl ⟨rfl, rfl⟩⟩, fun b h => (by cases h), ⟨fun _ => none, ⟨#[], 0, e2, by simp, by simp, by simp⟩, fun k v => (by simp)⟩⟩, e1⟩
  · have := hb _ h; omega
  · have := hb _ h; omega
  · have := hb _ h; omega

/-- sorted places are the parts -/
theorem sorted_places {vs : List Int} (_hv : WV vs) {x : Int} {ps ds' : List Nat} (hnd : ps.Nodup) (hm : ∀ e ∈ ps, (e : Int) ∈ vs) (hp : ∀ e, e ∈ ps ↔ e ∈ Sr.parts x) (hperm : ds'.Perm (ps.map fun (e : Nat) => vs.idxOf (e : Int))) (hs : ds'.Pairwise fun i j => at_ vs i ≤ at_ vs j) :
    ds' = (Sr.parts x).map fun (e : Nat) => vs.idxOf (e : Int) := by
  have hmem : ∀ i ∈ ds', ∃ e ∈ ps, i = vs.idxOf (e : Int) := fun i hi => by
    obtain ⟨e, h1, h2⟩ := List.mem_map.1 (hperm.mem_iff.1 hi); exact ⟨e, h1, h2.symm⟩
  have hat : ∀ i ∈ ds', vs.idxOf (((at_ vs i).toNat : Nat) : Int) = i ∧ (at_ vs i).toNat ∈ ps := fun i hi => by
    obtain ⟨e, h1, rfl⟩ := hmem i hi
    rw [WV.at_idx (hm e h1)]; simp [h1]
  have e1 : ds' = (ds'.map fun i => (at_ vs i).toNat).map fun (e : Nat) => vs.idxOf (e : Int) := by
    rw [List.map_map]
    conv => lhs; rw [← List.map_id ds']
    exact List.map_congr_left fun i hi => (hat i hi).1.symm
  have hnd' : ds'.Nodup := hperm.nodup_iff.2 (by
    unfold List.Nodup; rw [List.pairwise_map]
    refine hnd.imp_of_mem fun {a b} ha hb hne he => hne ?_
    have h1 := get_idx (hm a ha)
    rw [he, get_idx (hm b hb)] at h1
    have : (b : Int) = a := Option.some.inj h1
    omega)
  have e2 : (ds'.map fun i => (at_ vs i).toNat) = Sr.parts x := by
    refine sorted_ext ?_ (parts_sorted x) fun e => ?_
    · rw [List.pairwise_map]
      refine (hs.and hnd').imp_of_mem fun {a b} ha hb hab => ?_
      obtain ⟨e, he, rfl⟩ := hmem a ha
      obtain ⟨e', he', rfl⟩ := hmem b hb
      rw [WV.at_idx (hm e he), WV.at_idx (hm e' he')] at hab ⊢
      rcases Nat.lt_or_ge e e' with h | h
      · simpa using h
      · exfalso
        have : e = e' := by have := hab.1; omega
        subst this; exact hab.2 rfl
    · rw [← hp]
      constructor
      · intro h
        obtain ⟨i, hi, rfl⟩ := List.mem_map.1 h
        exact (hat i hi).2
      · intro h
        refine List.mem_map.2 ⟨vs.idxOf (e : Int), hperm.mem_iff.2 (List.mem_map.2 ⟨e, h, rfl⟩), ?_⟩
        rw [WV.at_idx (hm e h)]; simp
  rw [e1, e2]

/-- of a place in the world the place among the parts -/
noncomputable def gi (vs : List Int) (x : Int) (i : Nat) : Nat := (Sr.parts x).idxOf (at_ vs i).toNat
theorem repl_gi {vs : List Int} {x y : Int} (hy : ∀ e ∈ exps y, (e : Int) ∈ vs) : repl (gi vs x) (pf vs y) = atPl (Sr.parts x) y := by
  unfold repl pf atPl
  rw [List.map_map]
  refine List.map_congr_left fun t ht => ?_
  simp only [Function.comp, gi]
  rw [WV.at_idx (hy t.2 (mem_exps ht))]; simp

/-- the state of give's loop: mp the map of places, b13 the number -/
structure GL (w4 : World) (vs : List Int) (x : Int) (mp b13 k : Nat) (ov : Value) (fl : List Value) (wr : World) : Prop where
  fr : Fr [mp, b13] w4 wr
  obj : wr.heap[b13]? = some (.cells #[ov, .slice none 0 0] 158 (0, 0))
  orow : wr.ownsRow 0 111 1 ov k fl
  own : ∀ b, ov.ownBlock = some b → w4.heap.size ≤ b
  rows : ∀ (i q : Nat), i < k → (Sr.parts x)[i]? = some q → ∃ u, fl[i]? = some u ∧ TRow wr u (atPl (Sr.parts x) (q : Int))
  map : ∃ f, MapF Tryz.prog 3 wr mp f ∧ ∀ (i q : Nat), i < k → (Sr.parts x)[i]? = some q → f (.int .i64 (vs.idxOf (q : Int) : Nat)) = some (.int .i64 (i : Nat))

section
variable {w4 wr : World} {vs : List Int} {x : Int} {mp b13 k : Nat} {ov : Value} {fl : List Value}

theorem GL.keep (S : GL w4 vs x mp b13 k ov fl wr) {b : Nat} (hb : b < w4.heap.size) (h1 : b ≠ mp) (h2 : b ≠ b13) : wr.heap[b]? = w4.heap[b]? := S.fr.block b hb (by simp [h1, h2])

/-- what the map says of the places of a form whose exponents are there -/
theorem GL.places {w' : World} {f : Value → Option Value} (hv : WV vs) (hl : vs.length ≤ 2147483648) {n : Nat} {y : Int} (hm : ∀ e ∈ Sr.parts x, ((e : Nat) : Int) ∈ vs) (hf : ∀ (i q : Nat), i < n → (Sr.parts x)[i]? = some q → f (.int .i64 (vs.idxOf (q : Int) : Nat)) = some (.int .i64 (i : Nat)))
    (hy : ∀ e ∈ exps y, e ∈ (Sr.parts x).take n) : ∀ t ∈ pf vs y, t.2 < 2147483648 ∧ f (.int .i64 (t.2 : Nat)) = some (.int .i64 (gi vs x t.2 : Nat)) := by
  have _ := hv
  have _ := w'
  intro t ht
  obtain ⟨u, hu, rfl⟩ := List.mem_map.1 ht
  have h1 := hy u.2 (mem_exps hu)
  have h2 : u.2 ∈ Sr.parts x := List.mem_of_mem_take h1
  have h3 := hm u.2 h2
  refine ⟨by have := idx_lt h3; show vs.idxOf _ < _; omega, ?_⟩
  obtain ⟨i, hi⟩ := List.mem_iff_getElem?.1 h1
  have hin : i < n := by have := (List.getElem?_eq_some_iff.1 hi).1; rw [List.length_take] at this; omega
  rw [List.getElem?_take_of_lt hin] at hi
  have := hf i u.2 hin hi
  show f (.int .i64 (vs.idxOf (u.2 : Int) : Nat)) = _
  rw [this]
  unfold gi
  dsimp only
  rw [WV.at_idx h3]
  have h5 : (Sr.parts x).idxOf u.2 = i := by
    obtain ⟨hlt, he⟩ := List.getElem?_eq_some_iff.1 hi
    rw [← he]; exact List.Nodup.idxOf_getElem (parts_nodup x) i hlt
  simp [h5]

/-- a round: the place is put in (W5), a row is made (w6), appended (w7) and stored -/
theorem GL.step (S : GL w4 vs x mp b13 k ov fl wr) (hl : vs.length ≤ 2147483648) {q : Nat} (hq : (Sr.parts x)[k]? = some q) (hm : ∀ e ∈ Sr.parts x, ((e : Nat) : Int) ∈ vs) (lm : mp < w4.heap.size) (l13 : b13 < w4.heap.size) :
    ∃ W5, (Instr.mapUpdate 122 (.map (some mp)) (.int .i64 (vs.idxOf (q : Int) : Nat)) (.int .i64 (k : Nat))).run Tryz.prog wr = .ok () W5 ∧ W5.heap.size = wr.heap.size ∧ (∀ b, b ≠ mp → W5.heap[b]? = wr.heap[b]?) ∧
      (∃ f, MapF Tryz.prog 3 W5 mp f ∧ ∀ (i q : Nat), i < k + 1 → (Sr.parts x)[i]? = some q → f (.int .i64 (vs.idxOf (q : Int) : Nat)) = some (.int .i64 (i : Nat))) ∧
      ∀ (w6 w7 : World) (u : Value) (o : Obj) (g cap : Nat), Below W5.heap.size W5 w6 → TRow w6 u (atPl (Sr.parts x) (q : Int)) → w7.ownsRow 0 111 1 (.slice (some ⟨g, 0, none⟩) (k + 1) cap) (k + 1) (fl ++ [u]) → (w6.alloc o).grownBy w7 ov.ownBlock → (ov.ownBlock = some g ∨ g = w6.heap.size + 1) →
        w7.cell? ⟨b13, 0, none⟩ = some ov ∧ w7.frozen? ⟨b13, 0, none⟩ = false ∧ GL w4 vs x mp b13 (k + 1) (.slice (some ⟨g, 0, none⟩) (k + 1) cap) (fl ++ [u]) (w7.setCell ⟨b13, 0, none⟩ (.slice (some ⟨g, 0, none⟩) (k + 1) cap)) := by
  obtain ⟨f, f1, f2⟩ := S.map
  have hqv := hm q (List.mem_of_getElem? hq)
  have hkey : keyOf Tryz.prog 3 (.int .i64 (vs.idxOf (q : Int) : Nat)) = some (.int .i64 (vs.idxOf (q : Int) : Nat)) := keyInt (wfNat (by have := idx_lt hqv; omega))
  obtain ⟨W5, hrun, M5, s5, G5⟩ := f1.store law3 Tryz.underlying122 (v := .int .i64 (k : Nat)) hkey
  have hmap5 : ∀ (i r : Nat), i < k + 1 → (Sr.parts x)[i]? = some r → updF f (.int .i64 (vs.idxOf (q : Int) : Nat)) (.int .i64 (k : Nat)) (.int .i64 (vs.idxOf (r : Int) : Nat)) = some (.int .i64 (i : Nat)) := by
    intro i r hi hr
    unfold updF
    by_cases hik : i = k
    · subst hik
      rw [hq] at hr; cases hr
      rw [if_pos rfl]
    · rw [if_neg]
      · exact f2 i r (by omega) hr
      · intro he
        have h5 : vs.idxOf (r : Int) = vs.idxOf (q : Int) := by have := Value.int.inj he; omega
        have h6 := get_idx (hm r (List.mem_of_getElem? hr))
        rw [h5, get_idx hqv] at h6
        have h7 : (q : Int) = r := Option.some.inj h6
        have h8 : q = r := by omega
        subst h8
        obtain ⟨a1, a2⟩ := List.getElem?_eq_some_iff.1 hr
        obtain ⟨b1, b2⟩ := List.getElem?_eq_some_iff.1 hq
        have e1 := List.Nodup.idxOf_getElem (parts_nodup x) i a1
        have e2 := List.Nodup.idxOf_getElem (parts_nodup x) k b1
        rw [a2] at e1
        rw [b2] at e2
        exact hik (e1.symm.trans e2)
  have k5 : ∀ b, b ≠ mp → W5.heap[b]? = wr.heap[b]? := fun b hb => by
    rcases Nat.lt_or_ge b wr.heap.size with h | h
    · exact G5.block b h (by intro e; cases e; exact hb rfl)
    · rw [Array.getElem?_eq_none (by omega), Array.getElem?_eq_none h]
  refine ⟨W5, hrun, s5, k5, ⟨_, M5, hmap5⟩, fun w6 w7 u o g cap hb hu hown hg hat => ?_⟩
  have hsz := S.fr.size
  have n13m : b13 ≠ mp := cells_ne ⟨_, _, _, S.obj⟩ f1
  have o5 : W5.heap[b13]? = some (.cells #[ov, .slice none 0 0] 158 (0, 0)) := (k5 _ n13m).trans S.obj
  have hs6 := hb.size
  have nov13 : ov.ownBlock ≠ some b13 := fun e => by
    obtain ⟨c, hc⟩ := row_type S.orow e
    exact type_ne hc S.obj (by decide) rfl
  have novm : ov.ownBlock ≠ some mp := fun e => by
    obtain ⟨c, hc⟩ := row_type S.orow e
    exact cells_ne ⟨_, _, _, hc⟩ f1 rfl
  have keep7 : ∀ b, b < W5.heap.size → ov.ownBlock ≠ some b → w7.heap[b]? = W5.heap[b]? := fun b h1 h2 =>
    (hg.block b (by simp; omega) (fun e => h2 e.symm)).trans ((heap_old _ _ (by omega)).trans (hb.block b h1))
  have h7 : w7.heap[b13]? = some (.cells #[ov, .slice none 0 0] 158 (0, 0)) := (keep7 _ (by omega) nov13).trans o5
  have keep : ∀ b, b < W5.heap.size → ov.ownBlock ≠ some b → b ≠ b13 → (w7.setCell ⟨b13, 0, none⟩ (.slice (some ⟨g, 0, none⟩) (k + 1) cap)).heap[b]? = W5.heap[b]? := fun b h1 h2 h3 =>
    (RowKit.Below.heap_setCell _ _ _ _ h3).trans (keep7 b h1 h2)
  have hs7 : w6.heap.size + 1 ≤ w7.heap.size := by have := hg.size; simpa using this
  have rowk : ∀ {u : Value} {l : List PT}, TRow W5 u l → TRow (w7.setCell ⟨b13, 0, none⟩ (.slice (some ⟨g, 0, none⟩) (k + 1) cap)) u l := fun {u l} h =>
    ownsRow_kept h fun b e => by
      obtain ⟨c, hc⟩ := row_type h e
      refine keep b (ownsRow_lt h e) ?_ (type_ne hc o5 (by decide))
      intro e2
      obtain ⟨c2, hc2⟩ := row_type S.orow e2
      rw [← k5 b (by rintro rfl; exact novm e2)] at hc2
      exact type_ne hc hc2 (by decide) rfl
  have hfl : fl.length = k := by have := S.orow.1; omega
  refine ⟨by rw [cell_of h7]; rfl, free_of h7 0, ⟨?_, ?_, ?_, ?_, ?_, ?_⟩⟩
  · refine ⟨(show w7.os = w6.os from hg.os).trans (hb.os.trans (G5.os.trans S.fr.os)), (show w7.tape = w6.tape from hg.tape).trans (hb.tape.trans (G5.tape.trans S.fr.tape)), (show w7.output = w6.output from hg.output).trans (hb.output.trans (G5.output.trans S.fr.output)), by simp; omega, fun b h1 h2 => ?_⟩
    have h3 : b ≠ mp ∧ b ≠ b13 := by simpa using h2
    rw [keep b (by omega) (fun e => by have := S.own b e; omega) h3.2, k5 b h3.1]
    exact S.fr.block b h1 h2
  · exact heap_setCell_same w7 b13 0 _ 158 _ h7
  · exact ownsRow_kept hown fun b e => RowKit.Below.heap_setCell _ _ _ _ (by
      show b ≠ b13
      intro e5
      obtain ⟨c, hc⟩ := row_type hown e
      exact type_ne hc h7 (by decide) e5)
  · intro b e
    have e' : b = g := by simpa [Value.ownBlock] using e.symm
    subst e'
    rcases hat with h | h
    · exact S.own b h
    · omega
  · intro i r hi hr
    by_cases hik : i < k
    · obtain ⟨u', h1, h2⟩ := S.rows i r hik hr
      refine ⟨u', by rw [List.getElem?_append_left (by omega)]; exact h1, rowk (ownsRow_kept h2 fun b e => k5 b ?_)⟩
      obtain ⟨c, hc⟩ := row_type h2 e
      exact cells_ne ⟨_, _, _, hc⟩ f1
    · have hik2 : i = k := by omega
      subst hik2
      rw [hq] at hr; cases hr
      refine ⟨u, by rw [List.getElem?_append_right (by omega)]; simp [hfl], ?_⟩
      refine ownsRow_kept hu fun b e => ?_
      obtain ⟨c, hc⟩ := row_type hu e
      have hlt := ownsRow_lt hu e
      refine (RowKit.Below.heap_setCell _ _ _ _ ?_).trans ((hg.block b (by simp; omega) ?_).trans (heap_old _ _ hlt))
      · show b ≠ b13
        have : w6.heap[b13]? = some (.cells #[ov, .slice none 0 0] 158 (0, 0)) := (hb.block _ (by omega)).trans o5
        exact type_ne hc this (by decide)
      · intro e2
        obtain ⟨c2, hc2⟩ := row_type S.orow e2.symm
        have h3 : W5.heap[b]? = some (.cells c2 111 (0, 0)) := (k5 b (by rintro rfl; exact novm e2.symm)).trans hc2
        have h4 := (hb.block b (by have := ownsRow_lt S.orow e2.symm; omega)).trans h3
        exact type_ne hc h4 (by decide) rfl
  · exact ⟨_, M5.kept (keep mp (by omega) novm n13m.symm), hmap5⟩
end
end Sr
/- world.give: the number of a form. -/
namespace Sr
open Go Go.Proofs Go.RowKit Go.Maps Go.WideMaps

/-- a number, or ErrFull -/
def NR (w : World) (x : Int) (nv : Value) (er : Int) : Prop := (allowed x ∧ er = 0 ∧ IsN w nv x) ∨ (¬ allowed x ∧ er = 5 ∧ nv = .agg #[.pointer none])
/-- how give ends -/
def GiveQ (F : List Nat) (W : World) (x : Int) (e : Ending) (W' : World) : Prop :=
  ∃ (q : Option Addr) (er : Int), e = .returned (.tuple #[.agg #[.pointer q], .int .i64 er]) ∧ Hid (Fr F W W') ∧ Hid (NR W' x (.agg #[.pointer q]) er)

theorem form_nil {x : Int} (h : form x = []) : x = 0 := by have := form_val x; rw [h] at this; exact this.symm

theorem Fr.setNew {F : List Nat} {W w : World} (h : Fr F W w) {a : Addr} (ha : W.heap.size ≤ a.block) (v : Value) : Fr F W (w.setCell a v) :=
  ⟨h.os, h.tape, h.output, by have := h.size; simpa using this, fun b hb hn => (RowKit.Below.heap_setCell _ _ _ _ (by intro e; omega)).trans (h.block b hb hn)⟩

def giveX (w3 : World) : World := ((w3.alloc (.map #[] 0)).alloc (.cells #[.map (some w3.heap.size)] 122)).alloc (.cells #[.slice none 0 0, .slice none 0 0] 158)
theorem giveX_size (w3 : World) : (giveX w3).heap.size = w3.heap.size + 3 := by simp [giveX]
theorem giveX_below (w3 : World) : Below w3.heap.size w3 (giveX w3) := (((Below.refl _ _).alloc (Nat.le_refl _) _).alloc (by simp) _).alloc (by simp; omega) _
theorem giveX_old (w3 : World) {b : Nat} (h : b < w3.heap.size) : (giveX w3).heap[b]? = w3.heap[b]? := (giveX_below w3).block b h
theorem giveX_box (w3 : World) : (giveX w3).heap[w3.heap.size + 1]? = some (.cells #[.map (some w3.heap.size)] 122 (0, 0)) := by
  unfold giveX; rw [heap_old _ _ (by simp)]; exact heap_at (by simp)
theorem giveX_start (w3 : World) (vs : List Int) (x : Int) : GL (giveX w3) vs x w3.heap.size (w3.heap.size + 1 + 1) 0 (.slice none 0 0) [] (giveX w3) := by
  refine ⟨Fr.refl _ _, ?_, ⟨rfl, .inl ⟨rfl, rfl⟩⟩, fun b h => (by cases h), fun i q h => (by omega), ⟨fun _ => none, ⟨#[], 0, ?_, by simp, by simp, fun k v => (by simp)⟩, fun i q h => (by omega)⟩⟩
  · unfold giveX; exact heap_at (by simp)
  · unfold giveX; rw [heap_old _ _ (by simp; omega), heap_old _ _ (by simp)]; exact heap_at rfl

theorem give_end {w : World} {b b4 : Nat} {ov sv : Value} {fl : List Value} {x : Int} {u : Value} (h1 : w.heap[b]? = some (.cells #[ov, .slice none 0 0] 158 (0, 0))) (h4 : w.heap[b4]? = some (.cells #[.pointer none] 26 (0, 0))) (hs : TRow w sv (atPl (Sr.parts x) x)) (ho : w.ownsRow 0 111 1 ov (Sr.parts x).length fl)
    (hr : ∀ (i q : Nat), (Sr.parts x)[i]? = some q → ∃ u, fl[i]? = some u ∧ TRow w u (atPl (Sr.parts x) (q : Int))) : NB ((w.setCell ⟨b, 1, none⟩ sv).setCell ⟨b4, 0, none⟩ u) b ov sv fl x := by
  have ne : b ≠ b4 := type_ne h1 h4 (by decide)
  have keep : ∀ {g : Nat} {c : Array Value} {T : TypeId}, w.heap[g]? = some (.cells c T (0, 0)) → T ≠ 158 → T ≠ 26 → ((w.setCell ⟨b, 1, none⟩ sv).setCell ⟨b4, 0, none⟩ u).heap[g]? = w.heap[g]? := fun {g c T} hg n1 n2 =>
    (RowKit.Below.heap_setCell _ _ _ _ (by show g ≠ b4; exact type_ne hg h4 n2)).trans (RowKit.Below.heap_setCell _ _ _ _ (by show g ≠ b; exact type_ne hg h1 n1))
  have trow : ∀ {v : Value} {l : List PT}, TRow w v l → TRow ((w.setCell ⟨b, 1, none⟩ sv).setCell ⟨b4, 0, none⟩ u) v l := fun {v l} h => ownsRow_kept h fun g e => by
    obtain ⟨c, hc⟩ := row_type h e
    exact keep hc (by decide) (by decide)
  refine ⟨?_, ?_, fun i q hq => ?_, trow hs⟩
  · rw [RowKit.Below.heap_setCell _ _ _ _ (by show b ≠ b4; exact ne)]
    exact heap_setCell_same w b 1 _ 158 sv h1
  · exact ownsRow_kept ho fun g e => by
      obtain ⟨c, hc⟩ := row_type ho e
      exact keep hc (by decide) (by decide)
  · obtain ⟨u', k1, k2⟩ := hr i q hq
    exact ⟨u', k1, trow k2⟩

set_option maxHeartbeats 4000000 in
set_option maxRecDepth 100000 in
theorem give_calls {C : List Nat} {W : World} {p : Nat} {F : List Nat} {D : WD} {vs : List Int} {gk : List Nat} {m : Nat} (H : Hid (WO C W p F D vs gk m)) {v : Value} {x : Int} (hst : ∀ W', WO C W' p F D vs gk m → Fr F W W' → TRow W' v (pf vs x)) (hx : ∀ e ∈ exps x, (e : Int) ∈ vs) :
    Calls Tryz.prog 53 #[.pointer (some ⟨p, 0, none⟩), v] W (GiveQ F W x) := by
  have hl := hst W H.out (Fr.refl _ _)
  have HST : Hid (∀ W', WO C W' p F D vs gk m → Fr F W W' → TRow W' v (pf vs x)) := hst
  clear hst
  have HL := Lib.hid hl
  have HX : Hid (∀ e ∈ exps x, (e : Int) ∈ vs) := hx
  obtain ⟨la, lc, rfl, hlm, _⟩ := hl.shape
  obtain ⟨N, hN⟩ : ∃ N, N = (pf vs x).length := ⟨_, rfl⟩
  have HN : Hid (N = (form x).length) := by show _ = _; rw [hN]; simp [pf]
  rw [← hN] at HL HST hlm ⊢
  clear hl hx hN
  by_cases h0 : N = 0
  · have h0z : ((N : Int) == 0) = true := by simp [h0]
    have hx0 : x = 0 := form_nil (List.length_eq_zero_iff.1 (by rw [← HN.out]; exact h0))
    have HX0 := Lib.hid hx0
    clear hx0
    go_enter Tryz.func53, Tryz.ntmps53
    go_wp2_with fail
    refine bodyPost_ret (v := .tuple #[.agg #[.pointer none], .int .i64 0]) (by simp [results, Tryz.results53, go_sem]) rfl ?_
    refine ⟨none, 0, rfl, Fr.of_below (((Below.refl _ _).alloc (Nat.le_refl _) _).alloc (by simp) _), .inl ⟨?_, rfl, ?_⟩⟩
    · rw [HX0.out]; exact allowed_zero
    · rw [HX0.out]; exact ⟨allowed_zero, .inl ⟨rfl, rfl⟩⟩
  · have h0z : ((N : Int) == 0) = false := by simpa using h0
    by_cases h3 : N ≤ 300
    · have h3z : ¬ ((300 : Int) < (N : Int)) := by omega
      have hmm := @run_makeMap Tryz.prog
      go_enter Tryz.func53, Tryz.ntmps53
      obtain ⟨GBB, GSS, e4⟩ := giveW_base H.out
      have B := Lib.hid GBB
      have S0 := Lib.hid GSS
      have E4 := Lib.hid e4
      have HL1 : Hid (TRow (giveW W p) (.slice la N lc) (pf vs x)) := ownsRow_below HL.out (giveW_below W p)
      clear GBB GSS e4
      go_wp2_with fail
      clear hmm
      refine (walk_calls B x.natAbs x (Nat.le_refl _) HX.out _ _ _ _ _ _ HL1.out S0).mono ?_
      rintro y w2 ⟨ps, hh, ok, plv, r, rfl, HS, HW, HFE⟩
      clear S0
      have c8 : w2.cell? ⟨W.heap.size + 1 + 1 + 1 + 1 + 1, 0, none⟩ = some (.bool ok) := by rw [cell_of HS.out.bo]; rfl
      have c7 : w2.cell? ⟨W.heap.size + 1 + 1 + 1 + 1, 0, none⟩ = some plv := by rw [cell_of HS.out.bp]; rfl
      have HC2 := Lib.hid (B.out.keep HS.out.fr B.out.bw (by decide) (by decide))
      have HC4 := Lib.hid (B.out.keep HS.out.fr E4.out (by decide) (by decide))
      have c4 : w2.cell? ⟨W.heap.size + 1, 0, none⟩ = some (.pointer none) := by rw [cell_of HC4.out]; rfl
      have f4 : w2.frozen? ⟨W.heap.size + 1, 0, none⟩ = false := free_of HC4.out 0
      have c2 : w2.cell? ⟨W.heap.size, 0, none⟩ = some (.pointer (some ⟨p, 0, none⟩)) := by rw [cell_of HC2.out]; rfl
      obtain ⟨pa, pc, hplv⟩ : ∃ pa pc, plv = .slice pa ps.length pc := by
        obtain ⟨_, ⟨q1, q2⟩ | ⟨g, cap, cur, q1, _⟩⟩ := HS.out.row
        · rw [List.length_map] at q2; exact ⟨none, 0, by rw [q1, q2]⟩
        · rw [List.length_map] at q1; exact ⟨_, cap, q1⟩
      subst hplv
      have HVL : vs.length ≤ 2147483648 := H.out.vlen
      have HPB : ps.length ≤ 2147483648 := by
        have := nodup_length_le (ps.map fun (e : Nat) => (e : Int).toNat) (vs.map Int.toNat) (by simpa using HS.out.inv.nodup) (fun y hy => by
          obtain ⟨e', q1, rfl⟩ := List.mem_map.1 hy
          exact List.mem_map.2 ⟨_, HS.out.inv.mem e' q1, rfl⟩)
        simp at this; omega
      have hpw : IntKind.i64.wrap ((ps.length : Int) + 1) = (ps.length : Int) + 1 := IntWalk.i64_in _ (by omega)
      have HFr : Hid (Fr F W w2) := by
        have h1 := giveW_below W p
        have h2 := HS.out.fr
        refine ⟨h2.os.trans h1.os, h2.tape.trans h1.tape, h2.output.trans h1.output, Nat.le_trans h1.size h2.size, fun b hb _ => ?_⟩
        rw [h2.block b (by rw [giveW_size]; omega) (by simp; omega)]
        exact h1.block b hb
      have HAl : Hid (allowed x ↔ ok = true ∧ ps.length + 1 ≤ 2000 ∧ r ≤ 100) := HW.out.allowed (by rw [← HN.out]; exact h3) HS.out.inv
      have HWk := Lib.hid HW.out
      clear HFE HW
      cases ok
      · have hna : ¬ allowed x := fun h => by have := (HAl.out.1 h).1; cases this
        have Hna := Lib.hid hna
        clear hna
        go_wp2_with fail
        refine bodyPost_ret (v := .tuple #[.agg #[.pointer none], .int .i64 5]) (by simp [results, Tryz.results53, go_sem, c4]) rfl ?_
        exact ⟨none, 5, rfl, HFr.out.setNew (by simp) _, .inr ⟨Hna.out, rfl, rfl⟩⟩
      · by_cases h5 : ps.length + 1 ≤ 2000
        · have h5z : ¬ ((2000 : Int) < (ps.length : Int) + 1) := by omega
          by_cases h6 : r ≤ 100
          · have h6z : ¬ ((100 : Int) < (r : Int)) := by omega
            have HYes := Lib.hid (HAl.out.2 ⟨rfl, h5, h6⟩)
            have HPs : Hid (∀ e, e ∈ ps ↔ e ∈ Sr.parts x) := HWk.out.parts HS.out.inv rfl
            have HOwn : Hid (∀ b, (Value.slice pa ps.length pc).ownBlock = some b → W.heap.size + 7 ≤ b) := fun b e => by have := HS.out.own b e; rw [giveW_size] at this; exact this
            have HNF : Hid (∀ b, W.heap.size ≤ b → b ∉ F) := fun b hb h => by have := H.out.blt b h; omega
            have HSz : Hid (W.heap.size + 7 ≤ w2.heap.size) := by have := HS.out.fr.size; rw [giveW_size] at this; exact this
            have HSort := sortAny (B.out.wo' HS.out.fr) HS.out.row (fun b e => HNF.out b (by have := HOwn.out b e; omega)) (fun i hi => by
              obtain ⟨e, he, rfl⟩ := List.mem_map.1 hi
              exact ⟨_, get_idx (HS.out.inv.mem e he)⟩) (by rw [List.length_map]; omega)
            have HC7 := Lib.hid HS.out.bp
            go_wp2_with fail
            refine HSort.mono ?_
            rintro y w3 ⟨rfl, ds', hperm, hsrt, HWO3, HR3, HFr3⟩
            clear HSort c8 c7 c4 f4 c2
            have hds := sorted_places HWO3.out.wv HS.out.inv.nodup HS.out.inv.mem HPs.out hperm.out hsrt.out
            have hmem : ∀ e ∈ Sr.parts x, ((e : Nat) : Int) ∈ vs := fun e he => HS.out.inv.mem e ((HPs.out e).2 he)
            have HMem : Hid (∀ e ∈ Sr.parts x, ((e : Nat) : Int) ∈ vs) := hmem
            have hlen : ps.length = (Sr.parts x).length := nodup_perm_len HS.out.inv.nodup (parts_nodup x) HPs.out
            have HLen : Hid (ps.length = (Sr.parts x).length) := hlen
            rw [hds] at HR3
            -- what is not of the world and not the list is as it was
            have HK3 : Hid (∀ b, W.heap.size ≤ b → b < W.heap.size + 7 → w3.heap[b]? = w2.heap[b]?) := fun b h1 h2 => HFr3.out.block b (by have := HSz.out; omega) (by
              intro hm
              rcases List.mem_append.1 hm with hm | hm
              · have := HOwn.out b (by simpa using hm); omega
              · exact HNF.out b h1 hm)
            have HFW3 : Hid (Fr F W w3) := ⟨HFr3.out.os.trans HFr.out.os, HFr3.out.tape.trans HFr.out.tape, HFr3.out.output.trans HFr.out.output, Nat.le_trans HFr.out.size HFr3.out.size, fun b hb hn => by
              rw [HFr3.out.block b (by have := HFr.out.size; omega) (by
                intro hm
                rcases List.mem_append.1 hm with hm | hm
                · have := HOwn.out b (by simpa using hm); omega
                · exact hn hm)]
              exact HFr.out.block b hb hn⟩
            have HV3 := Lib.hid (HST.out w3 HWO3.out HFW3.out)
            have X2 := Lib.hid ((HK3.out W.heap.size (by omega) (by omega)).trans HC2.out)
            have X4 := Lib.hid ((HK3.out (W.heap.size + 1) (by omega) (by omega)).trans HC4.out)
            have X7 := Lib.hid ((HK3.out (W.heap.size + 1 + 1 + 1 + 1) (by omega) (by omega)).trans HC7.out)
            have HSz3 : Hid (W.heap.size + 7 ≤ w3.heap.size) := by have := HSz.out; have := HFr3.out.size; show _ ≤ _; omega
            have c7 : (((w3.alloc (.map #[] 0)).alloc (.cells #[.map (some w3.heap.size)] 122)).alloc (.cells #[.slice none 0 0, .slice none 0 0] 158)).cell? ⟨W.heap.size + 1 + 1 + 1 + 1, 0, none⟩ = some (.slice pa ps.length pc) := by
              have := HSz3.out
              show (giveX w3).cell? _ = _
              rw [cell_of ((giveX_old w3 (by omega)).trans X7.out)]; rfl
            clear hperm hsrt hds hmem hlen HFr3 HK3 HC7 HC2 HC4 HFr HS
            have hmm := @run_makeMap Tryz.prog
            go_wp2_with fail
            clear hmm
            have S0 := Lib.hid (giveX_start w3 vs x)
            obtain ⟨w4, hw4⟩ : ∃ w4, w4 = giveX w3 := ⟨_, rfl⟩
            have HW4 : Hid (w4 = giveX w3) := hw4
            rw [show (((w3.alloc (.map #[] 0)).alloc (.cells #[.map (some w3.heap.size)] 122)).alloc (.cells #[.slice none 0 0, .slice none 0 0] 158)) = w4 from hw4.symm]
            rw [← hw4] at S0
            have hz4 : w3.heap.size + 3 = w4.heap.size := by rw [hw4, giveX_size]
            have HB4 : Hid (Below w3.heap.size w3 w4) := by show Below _ _ _; rw [hw4]; exact giveX_below w3
            have X11 : Hid (w4.heap[w3.heap.size + 1]? = some (.cells #[.map (some w3.heap.size)] 122 (0, 0))) := by show _ = _; rw [hw4]; exact giveX_box w3
            clear c7 hw4
            obtain ⟨n, hn⟩ : ∃ n, n = ps.length := ⟨_, rfl⟩
            have HNp : Hid (n = (Sr.parts x).length) := hn.trans HLen.out
            have hnb : n ≤ 1999 := by omega
            have HR3' : Hid (IRow w3 (.slice pa n pc) ((Sr.parts x).map fun (e : Nat) => vs.idxOf (e : Int))) := by rw [hn]; exact HR3.out
            rw [← hn]
            clear hn HR3 h5 h5z hpw HPB HAl
            go_loopg [52] n (fun g1 vi wr => ∃ (k : Nat) (ov : Value) (fl : List Value), vi = .int .i64 k ∧ k ≤ n ∧ n - k ≤ g1 ∧ Hid (GL w4 vs x w3.heap.size (w3.heap.size + 1 + 1) k ov fl wr))
            case atStart => exact ⟨0, _, [], rfl, by omega, by omega, S0⟩
            case round =>
              clear S0
              obtain ⟨k, ov, fl, rfl, hkl, hg, HS⟩ := hrel
              by_cases hk : k < n
              · have hkz : (k : Int) < (n : Int) := by omega
                have hk0 : (0 : Int) ≤ (k : Int) := Int.natCast_nonneg k
                have hkw : IntKind.i64.wrap ((k : Int) + 1) = (k : Int) + 1 := IntWalk.i64_in _ (by omega)
                have hsz4 := HS.out.fr.size
                have h73 := HSz3.out
                obtain ⟨q, hq⟩ : ∃ q, (Sr.parts x)[k]? = some q := ⟨_, List.getElem?_eq_getElem (by rw [← HNp.out]; exact hk)⟩
                have hqm := List.mem_of_getElem? hq
                have hqv := HMem.out q hqm
                obtain ⟨W5, hrun, s5, k5, hmap5, hfin⟩ := HS.out.step HVL hq HMem.out (by omega) (by omega)
                have keep5 : ∀ b, b < w3.heap.size → W5.heap[b]? = w3.heap[b]? := fun b hb => (k5 b (by omega)).trans ((HS.out.keep (by omega) (by omega) (by omega)).trans (HB4.out.block b hb))
                have hir : IRow wr (.slice pa n pc) ((Sr.parts x).map fun (e : Nat) => vs.idxOf (e : Int)) := ownsRow_kept HR3'.out fun b e => by
                  have := ownsRow_lt HR3'.out e
                  exact (HS.out.keep (by omega) (by omega) (by omega)).trans (HB4.out.block b this)
                obtain ⟨gp, cp, heq, cq⟩ := row1_cell (k := k) (x := .int .i64 (vs.idxOf (q : Int) : Nat)) hir (by rw [List.map_map, List.getElem?_map, hq]; rfl)
                obtain ⟨e1, e2, e3⟩ := Value.slice.inj heq
                subst e1
                clear e2 e3 heq hir
                have WO5 := HWO3.out.kept (W' := W5) (fun b hb => keep5 b (HWO3.out.blt b hb))
                have box11 : W5.drew.heap[w3.heap.size + 1]? = some (.cells #[.map (some w3.heap.size)] 122 (0, 0)) := (k5 _ (by omega)).trans ((HS.out.keep (by omega) (by omega) (by omega)).trans X11.out)
                have c11 : wr.cell? ⟨w3.heap.size + 1, 0, none⟩ = some (.map (some w3.heap.size)) := by rw [cell_of ((HS.out.keep (by omega) (by omega) (by omega)).trans X11.out)]; rfl
                have o13 : W5.heap[w3.heap.size + 1 + 1]? = some (.cells #[ov, .slice none 0 0] 158 (0, 0)) := (k5 _ (by omega)).trans HS.out.obj
                have HO13 := Lib.hid o13
                have c13 : W5.cell? ⟨w3.heap.size + 1 + 1, 0, none⟩ = some ov := by rw [cell_of o13]; rfl
                have c2 : W5.cell? ⟨W.heap.size, 0, none⟩ = some (.pointer (some ⟨p, 0, none⟩)) := by rw [cell_of ((keep5 _ (by omega)).trans X2.out)]; rfl
                obtain ⟨gf, cf, hfv, hgF, hrow⟩ := WO5.formAt
                have hga := get_idx hqv
                have hal := idx_lt hqv
                obtain ⟨a, ha⟩ : ∃ a, a = vs.idxOf (q : Int) := ⟨_, rfl⟩
                rw [← ha] at hga hal cq hrun
                have HA : Hid (a = vs.idxOf (q : Int)) := ha
                obtain ⟨rv, _, crv, rrv, _⟩ := hrow a q hga
                have cp0 := WO5.c0
                rw [hfv] at cp0
                have a0 : (0 : Int) ≤ (a : Int) := by omega
                have az : (a : Int) < (vs.length : Int) := by omega
                obtain ⟨f5, M5, hf5⟩ := hmap5
                have HP := placedM_calls (W := W5.drew) (bp := w3.heap.size + 1) (mb := w3.heap.size) (v := rv) (l := pf vs (q : Int)) (G := gi vs x) box11 (M5.kept rfl) rrv (GL.places (w' := W5) HWO3.out.wv HVL HMem.out hf5 (fun e he => by
                  have := parts_before hq e he
                  rw [take_succ hq]; exact List.mem_append.2 (.inl this))) (by have := HYes.out.2.1 q hqm; simp [pf]; omega)
                rw [repl_gi (fun e he => HMem.out e (mem_parts.2 (.step (mem_parts.1 hqm) he)))] at HP
                have HFin := Lib.hid hfin
                have HOv : Hid (W5.ownsRow 0 111 1 ov k fl) := ownsRow_kept HS.out.orow fun b e => k5 b (by
                  obtain ⟨f0, m0, _⟩ := HS.out.map
                  obtain ⟨c, hc⟩ := row_type HS.out.orow e
                  exact cells_ne ⟨_, _, _, hc⟩ m0)
                have l13 : w3.heap.size + 1 + 1 < W5.heap.size := by omega
                have hkb : k + 1 ≤ 1099511627776 := by omega
                clear hq hqm hqv keep5 k5 hfin WO5 box11 o13 hrow hga hal ha rrv M5 hf5 hfv hgF
                go_wp2_with fail
                go_region_law (first
                  | (refine step_F1 rfl (.tmp 64) (.tmp 74) rfl ov k fl rfl (World.ownsRow.alloc HOv6.out _) _ (.slice ua nq uc) rfl rfl (heap_last _ _) hkb _ rfl ?_; intro g cap w7 I7 G7 A7 L7
                     obtain ⟨c7, f7, hgl⟩ := HFin.out w6 w7 _ _ g cap HB6.out HU6.out I7 G7 (by simpa using A7)
                     have HGL := Lib.hid hgl
                     clear I7 G7 A7 L7 hgl)
                  | (go_simp; go_at_call 97; refine HP.mono ?_; rintro y w6 ⟨u0, rfl, hu6, hb6, ho6⟩
                     obtain ⟨ua, uc, rfl, _, _⟩ := hu6.out.shape
                     have HU6 := Lib.hid hu6.out
                     obtain ⟨nq, hnq⟩ : ∃ nq, nq = (atPl (Sr.parts x) (q : Int)).length := ⟨_, rfl⟩
                     rw [← hnq] at HU6
                     rw [← hnq]
                     have HB6 : Hid (Below W5.heap.size W5 w6) := ⟨hb6.out.os, hb6.out.tape, hb6.out.output, hb6.out.size, hb6.out.block⟩
                     have HOv6 : Hid (w6.ownsRow 0 111 1 ov k fl) := ownsRow_below HOv.out HB6.out
                     have c13w : w6.cell? ⟨w3.heap.size + 1 + 1, 0, none⟩ = some ov := by rw [cell_of ((HB6.out.block _ l13).trans HO13.out)]; rfl
                     have c13a : ∀ o, (w6.alloc o).cell? ⟨w3.heap.size + 1 + 1, 0, none⟩ = some ov := fun o => by rw [cell_of ((heap_old _ _ (by have := HB6.out.size; omega)).trans ((HB6.out.block _ l13).trans HO13.out))]; rfl
                     clear hu6 hb6 ho6 hnq))
                all_goals
                  clear HU6 HB6 HOv6 c13w c13a HFin HOv HO13 HP c13 c2 c11 cp0 crv c7 f7
                  go_wp2_with fail
                  go_roundg (n - (k + 1))
                  case measure => omega
                  case rel => exact ⟨k + 1, _, _, by go_num, by omega, by omega, HGL⟩
              · have hkz : ¬ ((k : Int) < (n : Int)) := by omega
                have hsz4 := HS.out.fr.size
                have h73 := HSz3.out
                have hkn : k = (Sr.parts x).length := by have := HNp.out; omega
                have keepr : ∀ b, b < w3.heap.size → wr.heap[b]? = w3.heap[b]? := fun b hb => (HS.out.keep (by omega) (by omega) (by omega)).trans (HB4.out.block b hb)
                obtain ⟨fr, Mr, hfr⟩ := HS.out.map
                have box11 : wr.heap[w3.heap.size + 1]? = some (.cells #[.map (some w3.heap.size)] 122 (0, 0)) := (HS.out.keep (by omega) (by omega) (by omega)).trans X11.out
                have hv : TRow wr (.slice la N lc) (pf vs x) := ownsRow_kept HV3.out fun b e => keepr b (ownsRow_lt HV3.out e)
                have HP := placedM_calls (W := wr) (bp := w3.heap.size + 1) (mb := w3.heap.size) (v := .slice la N lc) (l := pf vs x) (G := gi vs x) box11 Mr hv (GL.places (w' := wr) HWO3.out.wv HVL HMem.out hfr (fun e he => by
                  rw [hkn, List.take_length]; exact mem_parts.2 (.here he))) (by have := HYes.out.1; simp [pf]; omega)
                rw [repl_gi (fun e he => HMem.out e (mem_parts.2 (.here he)))] at HP
                have X4r := Lib.hid ((keepr (W.heap.size + 1) (by omega)).trans X4.out)
                have l13 : w3.heap.size + 1 + 1 < wr.heap.size := by omega
                have hkn' := Lib.hid hkn
                clear keepr Mr hfr box11 hv hkn
                go_wp2_with fail
                refine HP.mono ?_
                rintro y w8 ⟨u0, rfl, hu8, hb8, ho8⟩
                obtain ⟨ua, uc, rfl, _, _⟩ := hu8.out.shape
                have HO8 := Lib.hid ((hb8.out.block _ l13).trans HS.out.obj)
                have HX8 := Lib.hid ((hb8.out.block _ (by omega)).trans X4r.out)
                have c13 : w8.cell? ⟨w3.heap.size + 1 + 1, 1, none⟩ = some (.slice none 0 0) := by rw [cell_of HO8.out]; rfl
                have f13 : w8.frozen? ⟨w3.heap.size + 1 + 1, 1, none⟩ = false := free_of HO8.out 1
                have c4 : w8.cell? ⟨W.heap.size + 1, 0, none⟩ = some (.pointer none) := by rw [cell_of HX8.out]; rfl
                have f4 : w8.frozen? ⟨W.heap.size + 1, 0, none⟩ = false := free_of HX8.out 0
                have n413 : W.heap.size + 1 ≠ w3.heap.size + 1 + 1 := by omega
                clear HP
                go_wp2_with fail
                refine bodyPost_ret (v := .tuple #[.agg #[.pointer (some ⟨w3.heap.size + 1 + 1, 0, none⟩)], .int .i64 0]) (by simp [results, Tryz.results53, go_sem, c4]) rfl ?_
                have hb8' := hb8.out
                have hs8 := hb8'.size
                refine ⟨some ⟨w3.heap.size + 1 + 1, 0, none⟩, 0, rfl, ?_, .inl ⟨HYes.out, rfl, HYes.out, .inr ⟨fun h => ?_, w3.heap.size + 1 + 1, ov, .slice ua (atPl (Sr.parts x) x).length uc, fl, rfl, ?_⟩⟩⟩
                · have h1 : Fr F W w8 := by
                    have f0 := HFW3.out
                    have f1 := HB4.out
                    have f2 := HS.out.fr
                    have s0 := f0.size
                    refine ⟨hb8'.os.trans (f2.os.trans (f1.os.trans f0.os)), hb8'.tape.trans (f2.tape.trans (f1.tape.trans f0.tape)), hb8'.output.trans (f2.output.trans (f1.output.trans f0.output)), by omega, fun b hb hn => ?_⟩
                    rw [hb8'.block b (by omega), f2.block b (by omega) (by simp; omega), f1.block b (by omega)]
                    exact f0.block b hb hn
                  exact (h1.setNew (by show W.heap.size ≤ w3.heap.size + 1 + 1; omega) _).setNew (by show W.heap.size ≤ W.heap.size + 1; omega) _
                · have := HN.out
                  rw [h, form_zero] at this
                  exact h0 this
                · refine give_end HO8.out HX8.out hu8.out (by rw [← hkn'.out]; exact ownsRow_below HS.out.orow hb8') (fun i q hq => ?_)
                  obtain ⟨u, h1, h2⟩ := HS.out.rows i q (by rw [hkn'.out]; exact (List.getElem?_eq_some_iff.1 hq).1) hq
                  exact ⟨u, h1, ownsRow_below h2 hb8'⟩
          · have h6z : (100 : Int) < (r : Int) := by omega
            have hna : ¬ allowed x := fun h => h6 (HAl.out.1 h).2.2
            have Hna := Lib.hid hna
            clear hna
            go_wp2_with fail
            refine bodyPost_ret (v := .tuple #[.agg #[.pointer none], .int .i64 5]) (by simp [results, Tryz.results53, go_sem, c4]) rfl ?_
            exact ⟨none, 5, rfl, HFr.out.setNew (by simp) _, .inr ⟨Hna.out, rfl, rfl⟩⟩
        · have h5z : (2000 : Int) < (ps.length : Int) + 1 := by omega
          have hna : ¬ allowed x := fun h => h5 (HAl.out.1 h).2.1
          have Hna := Lib.hid hna
          clear hna
          go_wp2_with fail
          refine bodyPost_ret (v := .tuple #[.agg #[.pointer none], .int .i64 5]) (by simp [results, Tryz.results53, go_sem, c4]) rfl ?_
          exact ⟨none, 5, rfl, HFr.out.setNew (by simp) _, .inr ⟨Hna.out, rfl, rfl⟩⟩
    · have h3z : (300 : Int) < (N : Int) := by omega
      go_enter Tryz.func53, Tryz.ntmps53
      go_wp2_with fail
      refine bodyPost_ret (v := .tuple #[.agg #[.pointer none], .int .i64 5]) (by simp [results, Tryz.results53, go_sem]) rfl ?_
      refine ⟨none, 5, rfl, Fr.of_below (((Below.refl _ _).alloc (Nat.le_refl _) _).alloc (by simp) _), .inr ⟨fun ha => ?_, rfl, rfl⟩⟩
      have := ha.1; have := HN.out; omega
end Sr
/- Sign, Cmp, Neg, Add, Sub of numbers. -/
namespace Sr
open Go Go.Proofs Go.RowKit Go.Maps Go.WideMaps

/-- what may be asked for in a world of some numbers -/
noncomputable def covC (xs : List Int) : List Nat := (baseOf xs).flatMap fun q => (List.range 4097).map (q + ·)
theorem covC_len {xs : List Int} (h : ∀ x ∈ xs, allowed x) : (covC xs).length ≤ (615 + 2000 * xs.length) * 4097 := by
  have h1 := baseOf_len h
  have key : ∀ l : List Nat, (l.flatMap fun q => (List.range 4097).map (q + ·)).length = l.length * 4097 := by
    intro l
    induction l with
    | nil => rfl
    | cons a l ih => rw [List.flatMap_cons, List.length_append, ih]; simp; omega
  unfold covC
  rw [key]
  exact Nat.mul_le_mul_right _ h1
theorem covC_cov (xs : List Int) : ∀ q ∈ baseOf xs, ∀ j, j ≤ 4096 → q + j ∈ covC xs := fun q hq j hj =>
  List.mem_flatMap.2 ⟨q, hq, List.mem_map.2 ⟨j, List.mem_range.2 (by omega), rfl⟩⟩
/-- room enough -/
structure Room (C : List Nat) : Prop where
  le : C.length ≤ 20000000
theorem cov_two {x y : Int} (hx : allowed x) (hy : allowed y) : Cov (baseOf [x, y]) (covC [x, y]) 6000 ∧ Room (covC [x, y]) := by
  have h : ∀ z ∈ [x, y], allowed z := by simp [hx, hy]
  have hl : (covC [x, y]).length ≤ 20000000 := Nat.le_trans (covC_len h) (by simp)
  exact ⟨⟨base_parts h, covC_cov _, by omega⟩, ⟨hl⟩⟩

theorem Cov.weak {P C : List Nat} {m m' : Nat} (h : Cov P C m) (hm : m' ≤ m := by omega) : Cov P C m' := ⟨h.base, h.cov, by have := h.room; omega⟩
/-- how Add and its like end -/
def NQ (z : Int) (W : World) (e : Ending) (W' : World) : Prop :=
  ∃ (q : Option Addr) (er : Int), e = .returned (.tuple #[.agg #[.pointer q], .int .i64 er]) ∧ Hid (Below W.heap.size W W') ∧ Hid (NR W' z (.agg #[.pointer q]) er)
theorem own2 {w : World} {B : Nat} {a b : Value} (h : w.heap[B]? = some (.cells #[a, b] 111 (0, 0))) : w.ownsRow 0 111 1 (.slice (some ⟨B, 0, none⟩) 2 2) 2 [a, b] :=
  ⟨rfl, .inr ⟨B, 2, _, rfl, Nat.zero_le _, h, Nat.le_refl _, by decide, rfl, rfl⟩⟩
theorem pf_base {xs : List Int} {vs : List Int} {x : Int} (hx : x ∈ xs) (hm : ∀ e ∈ exps x, (e : Int) ∈ vs) : ∀ t ∈ pf vs x, ∃ e : Nat, vs[t.2]? = some (e : Int) ∧ e ∈ baseOf xs := fun t ht => by
  obtain ⟨u, hu, rfl⟩ := List.mem_map.1 ht
  exact ⟨u.2, get_idx (hm u.2 (mem_exps hu)), baseOf_exps hx u.2 (mem_exps hu)⟩

theorem NB.kept {w w' : World} {b : Nat} {pv sv : Value} {fl : List Value} {x : Int} (h : NB w b pv sv fl x) (hk : ∀ (b : Nat) (c : Array Value) (T : TypeId), w.heap[b]? = some (.cells c T (0, 0)) → (T = 158 ∨ T = 111 ∨ T = 154) → w'.heap[b]? = w.heap[b]?) : NB w' b pv sv fl x where
  obj := (hk _ _ _ h.obj (.inl rfl)).trans h.obj
  parts := ownsRow_kept h.parts fun g e => by obtain ⟨c, hc⟩ := row_type h.parts e; exact hk _ _ _ hc (.inr (.inl rfl))
  rows := fun i p hi => by
    obtain ⟨u, h1, h2⟩ := h.rows i p hi
    exact ⟨u, h1, ownsRow_kept h2 fun g e => by obtain ⟨c, hc⟩ := row_type h2 e; exact hk _ _ _ hc (.inr (.inr rfl))⟩
  self := ownsRow_kept h.self fun g e => by obtain ⟨c, hc⟩ := row_type h.self e; exact hk _ _ _ hc (.inr (.inr rfl))
/-- a number is kept where nothing of its kind is written -/
theorem IsN.kept {w w' : World} {v : Value} {x : Int} (h : IsN w v x) (hk : ∀ (b : Nat) (c : Array Value) (T : TypeId), w.heap[b]? = some (.cells c T (0, 0)) → (T = 158 ∨ T = 111 ∨ T = 154) → w'.heap[b]? = w.heap[b]?) : IsN w' v x := by
  obtain ⟨h0, h1 | ⟨h1, b, pv, sv, fl, h2, h3⟩⟩ := h
  · exact ⟨h0, .inl h1⟩
  · exact ⟨h0, .inr ⟨h1, b, pv, sv, fl, h2, h3.kept hk⟩⟩
theorem IsN.setCell {w : World} {v : Value} {x : Int} (h : IsN w v x) {b o : Nat} {c : Array Value} {T : TypeId} {z : Nat × Nat} (hb : w.heap[b]? = some (.cells c T z)) (hT : T ≠ 158 ∧ T ≠ 111 ∧ T ≠ 154) (u : Value) : IsN (w.setCell ⟨b, o, none⟩ u) v x :=
  h.kept fun g c' T' hg ht => RowKit.Below.heap_setCell _ _ _ _ (by
    show g ≠ b
    refine type_ne hg hb ?_
    rintro rfl
    rcases ht with ht | ht | ht
    · exact hT.1 ht
    · exact hT.2.1 ht
    · exact hT.2.2 ht)
theorem NR.setCell {w : World} {v : Value} {x er : Int} (h : NR w x v er) {b o : Nat} {c : Array Value} {T : TypeId} {z : Nat × Nat} (hb : w.heap[b]? = some (.cells c T z)) (hT : T ≠ 158 ∧ T ≠ 111 ∧ T ≠ 154) (u : Value) : NR (w.setCell ⟨b, o, none⟩ u) x v er := by
  rcases h with ⟨h1, h2, h3⟩ | h
  · exact .inl ⟨h1, h2, h3.setCell hb hT u⟩
  · exact .inr h
theorem NR.drew {w : World} {v : Value} {x er : Int} (h : NR w x v er) : NR w.drew x v er := by
  rcases h with ⟨h1, h2, h3⟩ | h
  · exact .inl ⟨h1, h2, h3.kept fun _ _ _ _ _ => rfl⟩
  · exact .inr h
theorem Below.trans' {W w w' : World} (h : Below W.heap.size W w) (k : Below w.heap.size w w') : Below W.heap.size W w' := fr_below (F := []) h (by simp) (Fr.of_below k)

theorem wt_new {C : List Nat} {W w : World} {p : Nat} {F : List Nat} {D : WD} {vs : List Int} {gk : List Nat} {m : Nat} (h : WO C w p F D vs gk m) (k : FE [] W F w) : Wt C W w p F D vs gk m :=
  ⟨h, ⟨k.fr.os, k.fr.tape, k.fr.output, k.fr.size, fun b hb => k.fr.block b hb (by simp)⟩, fun b hb => by
    rcases k.sub b hb with h | h
    · simp at h
    · exact h⟩

theorem IsN.ptr {w : World} {v : Value} {x : Int} (h : IsN w v x) : ∃ q, v = .agg #[.pointer q] := by
  obtain ⟨_, ⟨_, rfl⟩ | ⟨_, b, _, _, _, rfl, _⟩⟩ := h
  · exact ⟨_, rfl⟩
  · exact ⟨_, rfl⟩

set_option maxHeartbeats 4000000 in
set_option maxRecDepth 100000 in
theorem add_calls {W : World} {v u : Value} {x y : Int} (hx : IsN W v x) (hy : IsN W u y) : Calls Tryz.prog 101 #[v, u] W (NQ (x + y) W) := by
  obtain ⟨qx, rfl⟩ := hx.ptr
  obtain ⟨qy, rfl⟩ := hy.ptr
  obtain ⟨hcov, hcl⟩ := cov_two hx.1 hy.1
  have HX := Lib.hid hx
  have HY := Lib.hid hy
  have HCov := Lib.hid hcov
  have HCl := Lib.hid hcl
  clear hx hy hcov hcl
  go_enter Tryz.func101, Tryz.ntmps101
  go_wp2_with fail
  obtain ⟨W0, hW0⟩ : ∃ W0, W0 = ((W.alloc (.cells #[.pointer qx] 26)).alloc (.cells #[.pointer qy] 26)).alloc (.cells #[.pointer none] 26) := ⟨_, rfl⟩
  rw [← hW0]
  have HB0 : Hid (Below W.heap.size W W0) := by show Below _ _ _; rw [hW0]; exact (((Below.refl _ _).alloc (Nat.le_refl _) _).alloc (by simp) _).alloc (by simp; omega) _
  have hz0 : W.heap.size + 3 = W0.heap.size := by rw [hW0]; simp
  have X0 : Hid (W0.heap[W.heap.size]? = some (.cells #[.pointer qx] 26 (0, 0))) := by show _ = _; rw [hW0, heap_old _ _ (by simp; omega), heap_old _ _ (by simp)]; exact heap_at rfl
  have X1 : Hid (W0.heap[W.heap.size + 1]? = some (.cells #[.pointer qy] 26 (0, 0))) := by show _ = _; rw [hW0, heap_old _ _ (by simp)]; exact heap_at (by simp)
  have X2 : Hid (W0.heap[W.heap.size + 1 + 1]? = some (.cells #[.pointer none] 26 (0, 0))) := by show _ = _; rw [hW0]; exact heap_at (by simp)
  clear hW0
  have HN := newWorld_calls (covC [x, y]) (by have := HCl.out.le; omega) W0
  refine HN.mono ?_
  rintro e w1 ⟨p, F, D, rfl, HWO, HFE⟩
  clear HN
  have HT1 := Lib.hid (wt_new HWO.out HFE.out)
  have c0 : w1.cell? ⟨W.heap.size, 0, none⟩ = some (.pointer qx) := by rw [cell_of ((HT1.out.low.block _ (by omega)).trans X0.out)]; rfl
  clear HWO HFE
  go_wp2_with fail
  refine (take_calls HT1 (HX.out.below HB0.out) (by have := HCl.out.le; omega)).mono ?_
  rintro e w2 ⟨F2, D2, vs2, rfl, hxm, hpre2, HT2, _⟩
  have c1 : w2.cell? ⟨W.heap.size + 1, 0, none⟩ = some (.pointer qy) := by rw [cell_of ((HT2.out.low.block _ (by omega)).trans X1.out)]; rfl
  clear c0 HT1 hpre2
  go_wp2_with fail
  refine (take_calls HT2 (HY.out.below HB0.out) (by have := HCl.out.le; omega)).mono ?_
  rintro e w3 ⟨F3, D3, vs3, rfl, hym, hpre3, HT3, _⟩
  have hxi := idx_ext hpre3.out hxm.out
  have HXm : Hid (x ∈ vs3) := mem_ext hpre3.out hxm.out
  rw [← hxi]
  clear c1 HT2 hpre3 hxm hxi
  obtain ⟨a, ha⟩ : ∃ a, a = vs3.idxOf x := ⟨_, rfl⟩
  obtain ⟨b, hb⟩ : ∃ b, b = vs3.idxOf y := ⟨_, rfl⟩
  rw [← ha, ← hb]
  obtain ⟨gf, cf, hfv, hgF, hrow⟩ := HT3.out.wo.formAt
  obtain ⟨ra, _, cra, rra, _⟩ := hrow a x (by rw [ha]; exact get_idx HXm.out)
  obtain ⟨rb, _, crb, rrb, _⟩ := hrow b y (by rw [hb]; exact get_idx hym.out)
  have cp0 := HT3.out.wo.c0
  rw [hfv] at cp0
  have hal : (a : Int) < (vs3.length : Int) := by have := idx_lt HXm.out; omega
  have hbl : (b : Int) < (vs3.length : Int) := by have := idx_lt hym.out; omega
  have a0 : (0 : Int) ≤ (a : Int) := by omega
  have b0 : (0 : Int) ≤ (b : Int) := by omega
  have Hlen : Hid ((pf vs3 x).length ≤ 300 ∧ (pf vs3 y).length ≤ 300) := ⟨by have := HX.out.1.1; simpa [pf] using this, by have := HY.out.1.1; simpa [pf] using this⟩
  obtain ⟨pa, ca, rfl, _, _⟩ := rra.shape
  obtain ⟨pb, cb, rfl, _, _⟩ := rrb.shape
  obtain ⟨na, hna⟩ : ∃ na, na = (pf vs3 x).length := ⟨_, rfl⟩
  obtain ⟨nb, hnb⟩ : ∃ nb, nb = (pf vs3 y).length := ⟨_, rfl⟩
  rw [← hna] at cra rra
  rw [← hnb] at crb rrb
  have Hra := Lib.hid rra
  have Hrb := Lib.hid rrb
  clear hrow rra rrb hgF hfv ha hb hna hnb
  go_wp2_with fail
  have HC1 := concat_calls (W := (w3.alloc (.cells #[.slice pa na ca, .slice pb nb cb] 111)).drew) (v := .slice (some ⟨w3.heap.size, 0, none⟩) 2 2) (ls := [(.slice pa na ca, pf vs3 x), (.slice pb nb cb, pf vs3 y)]) (own2 (heap_last w3 _))
    (by intro z hz; simp at hz; rcases hz with rfl | rfl; exact World.ownsRow.alloc Hra.out _; exact World.ownsRow.alloc Hrb.out _) (by have := Hlen.out; simp [lens]; omega) (by simp)
  have HXe : Hid (∀ e ∈ exps x, (e : Int) ∈ vs3) := fun e he => HT3.out.wo.wv.mem_exps HXm.out he
  have HYe : Hid (∀ e ∈ exps y, (e : Int) ∈ vs3) := fun e he => HT3.out.wo.wv.mem_exps hym.out he
  have Hptv : Hid (ptv vs3 (pf vs3 x ++ pf vs3 y) = x + y) := by show _ = _; rw [ptv_append, ptv_pf HT3.out.wo.wv HXe.out, ptv_pf HT3.out.wo.wv HYe.out]
  go_region_with (first
    | (go_at_call 105
       refine HC1.mono ?_
       rintro e w5 ⟨v5, rfl, hr5, hb5, ho5⟩
       have HR5 : Hid (TRow w5 v5 (pf vs3 x ++ pf vs3 y)) := by have := hr5.out; show TRow _ _ _; simpa using this
       have HWO5 := (HT3.out.wo.alloc (.cells #[.slice pa na ca, .slice pb nb cb] 111)).drew.below hb5.out
       have HL5 := Lib.hid (Below.trans' (HT3.out.low.alloc HT3.out.low.size (.cells #[.slice pa na ca, .slice pb nb cb] 111)).drew hb5.out)
       have HS := wsum_calls HCov.out.weak HWO5 HR5.out (by have := Hlen.out; rw [List.length_append]; omega) (fun t ht => by
         rcases List.mem_append.1 ht with ht | ht
         · exact pf_base (by simp) HXe.out t ht
         · exact pf_base (by simp) HYe.out t ht)
       rw [Hptv.out] at HS
       clear hr5 hb5 ho5 HWO5 HR5)
    | (go_at_call 104
       refine HS.mono ?_
       rintro e w6 ⟨F6, D6, vs6, gk6, v6, rfl, hr6, he6, ho6, hg6⟩
       have HL6 := Lib.hid (fr_below HL5.out HT3.out.hi hg6.out.fe.fr)
       have Hi6 : Hid (∀ b ∈ F6, W0.heap.size ≤ b) := fun b hb => by
         rcases hg6.out.fe.sub b hb with h | h
         · exact HT3.out.hi b h
         · have := HL5.out.size; omega
       have HG := give_calls (Lib.hid hg6.out.wo) (v := v6) (x := x + y) (fun W' _ hf => ownsRow_kept hr6.out fun b e => hf.block b (ownsRow_lt hr6.out e) (ho6.out b e).2) he6.out
       clear hr6 he6 ho6 hg6 HS)
    | (go_at_call 53
       refine HG.mono ?_
       rintro e w7 ⟨q, er, rfl, hf7, hn7⟩
       have HL7 := Lib.hid (fr_below HL6.out Hi6.out hf7.out)
       have HX7 := Lib.hid ((HL7.out.block _ (by omega)).trans X2.out)
       have c4 : w7.cell? ⟨W.heap.size + 1 + 1, 0, none⟩ = some (.pointer none) := by rw [cell_of HX7.out]; rfl
       have f4 : w7.frozen? ⟨W.heap.size + 1 + 1, 0, none⟩ = false := free_of HX7.out 0
       clear HG hf7))
  all_goals
    clear HC1
    go_wp2_with fail
    refine bodyPost_ret (v := .tuple #[.agg #[.pointer q], .int .i64 er]) (by simp [results, Tryz.results101, go_sem, c4]) rfl ?_
    refine ⟨q, er, rfl, (Below.trans' HB0.out HL7.out).setCell (by show W.heap.size ≤ W.heap.size + 1 + 1; omega) _, hn7.out.setCell HX7.out (by decide) _⟩
end Sr
/- Sign, Cmp, Neg, Sub of numbers. -/
namespace Sr
open Go Go.Proofs Go.RowKit Go.Maps Go.WideMaps

theorem signT_places (f : Nat → Nat) (x : Int) : signT ((form x).map fun t => (t.1, f t.2)) = isg x := by
  rw [← signT_pf [] x]
  unfold pf
  cases form x with
  | nil => rfl
  | cons t l => rfl

set_option maxHeartbeats 1000000 in
set_option maxRecDepth 100000 in
theorem Sign_calls {W : World} {v : Value} {x : Int} (hx : IsN W v x) : Calls Tryz.prog 30 #[v] W fun e W' => e = .returned (.int .i64 (isg x)) ∧ Hid (Below W.heap.size W W') := by
  obtain ⟨q, rfl⟩ := hx.ptr
  obtain ⟨pv, sv, fl, HR0⟩ := hx.get'
  have HR : Hid (∀ w', Below W.heap.size W w' → Rows w' (.agg #[.pointer q]) x pv sv fl) := HR0
  have hs := fun w' hb => (HR.out w' hb).self
  have HB : Hid (Below W.heap.size W (W.alloc (.cells #[.pointer q] 26))) := (Below.refl _ _).alloc (Nat.le_refl _) _
  clear HR0 hx
  go_enter Tryz.func30, Tryz.ntmps30
  go_wp2_with fail
  refine (hs _ HB.out).mono ?_
  rintro e w1 ⟨rfl, o, rfl⟩
  have HB2 := Lib.hid (HB.out.alloc (by simp) o)
  have hS := sign_calls (HR.out _ HB2.out).srow
  have hsg : Hid (signT (atPl (Sr.parts x) x) = isg x) := by show _ = _; exact signT_places (fun e => (Sr.parts x).idxOf e) x
  clear hs HB
  go_wp2_with fail
  refine hS.mono ?_
  rintro e w2 ⟨rfl, rfl⟩
  clear hS
  go_wp2_with fail
  refine bodyPost_ret (results_tmp rfl _ _ _) rfl ?_
  exact ⟨congrArg (fun z => Ending.returned (.int .i64 z)) hsg.out, HB2⟩

set_option maxHeartbeats 4000000 in
set_option maxRecDepth 100000 in
theorem Cmp_calls {W : World} {v u : Value} {x y : Int} (hx : IsN W v x) (hy : IsN W u y) : Calls Tryz.prog 31 #[v, u] W fun e W' => e = .returned (.int .i64 (isg (x - y))) ∧ Hid (Below W.heap.size W W') := by
  obtain ⟨qx, rfl⟩ := hx.ptr
  obtain ⟨qy, rfl⟩ := hy.ptr
  obtain ⟨hcov, hcl⟩ := cov_two hx.1 hy.1
  have HX := Lib.hid hx
  have HY := Lib.hid hy
  have HCl := Lib.hid hcl
  clear hx hy hcov hcl
  go_enter Tryz.func31, Tryz.ntmps31
  go_wp2_with fail
  obtain ⟨W0, hW0⟩ : ∃ W0, W0 = (W.alloc (.cells #[.pointer qx] 26)).alloc (.cells #[.pointer qy] 26) := ⟨_, rfl⟩
  rw [← hW0]
  have HB0 : Hid (Below W.heap.size W W0) := by show Below _ _ _; rw [hW0]; exact ((Below.refl _ _).alloc (Nat.le_refl _) _).alloc (by simp) _
  have hz0 : W.heap.size + 2 = W0.heap.size := by rw [hW0]; simp
  have X0 : Hid (W0.heap[W.heap.size]? = some (.cells #[.pointer qx] 26 (0, 0))) := by show _ = _; rw [hW0, heap_old _ _ (by simp)]; exact heap_at rfl
  have X1 : Hid (W0.heap[W.heap.size + 1]? = some (.cells #[.pointer qy] 26 (0, 0))) := by show _ = _; rw [hW0]; exact heap_at (by simp)
  clear hW0
  have HN := newWorld_calls (covC [x, y]) (by have := HCl.out.le; omega) W0
  refine HN.mono ?_
  rintro e w1 ⟨p, F, D, rfl, HWO, HFE⟩
  clear HN
  have HT1 := Lib.hid (wt_new HWO.out HFE.out)
  have c0 : w1.cell? ⟨W.heap.size, 0, none⟩ = some (.pointer qx) := by rw [cell_of ((HT1.out.low.block _ (by omega)).trans X0.out)]; rfl
  clear HWO HFE
  go_wp2_with fail
  refine (take_calls HT1 (HX.out.below HB0.out) (by have := HCl.out.le; omega)).mono ?_
  rintro e w2 ⟨F2, D2, vs2, rfl, hxm, hpre2, HT2, _⟩
  have c1 : w2.cell? ⟨W.heap.size + 1, 0, none⟩ = some (.pointer qy) := by rw [cell_of ((HT2.out.low.block _ (by omega)).trans X1.out)]; rfl
  clear c0 HT1 hpre2
  go_wp2_with fail
  refine (take_calls HT2 (HY.out.below HB0.out) (by have := HCl.out.le; omega)).mono ?_
  rintro e w3 ⟨F3, D3, vs3, rfl, hym, hpre3, HT3, _⟩
  have hxi := idx_ext hpre3.out hxm.out
  have HXm : Hid (x ∈ vs3) := mem_ext hpre3.out hxm.out
  rw [← hxi]
  have HC := world_cmp (C := covC [x, y]) (p := p) (F := F3) (D := D3) (gk := []) (m := 1 + 2000 + 2000) (get_idx HXm.out) (get_idx hym.out) w3 (Lib.hid HT3.out.wo)
  clear c1 HT2 hpre3 hxm hxi
  go_wp2_with fail
  refine HC.mono ?_
  rintro e w4 ⟨rfl, _, hf4⟩
  clear HC
  go_wp2_with fail
  refine bodyPost_ret (results_tmp rfl _ _ _) rfl ?_
  exact ⟨rfl, Below.trans' HB0.out (fr_below HT3.out.low HT3.out.hi hf4.out)⟩

/-- one cell of a row of terms is stored: another sign -/
theorem setS {W : World} {g n cap i : Nat} {l : List PT} {t : PT} (b : Bool) (hi : l[i]? = some t) (h : W.ownsRow 0 154 2 (.slice (some ⟨g, 0, none⟩) n cap) n (tcells l)) :
    (W.setCell ⟨g, i * 2, none⟩ (.bool b)).ownsRow 0 154 2 (.slice (some ⟨g, 0, none⟩) n cap) n (tcells (l.set i (b, t.2))) := by
  obtain ⟨h1, ⟨h2, _⟩ | ⟨g', cap', cur, hv, _, h4, h5, h6, h7, h8⟩⟩ := h
  · cases h2
  · cases hv
    have k2 := heap_setCell_same W g (i * 2) _ 154 (.bool b) h4
    obtain ⟨_, e0⟩ := tcells_get hi
    have hs : ((tcells l).set (i * 2) (.bool b)).set (i * 2 + 1) (.int .i64 (t.2 : Nat)) = (tcells l).set (i * 2) (.bool b) := by
      refine List.ext_getElem? fun j => ?_
      by_cases hj : j = i * 2 + 1
      · subst hj
        have hlt := (List.getElem?_eq_some_iff.1 e0).1
        rw [List.getElem?_set_self (by simpa using hlt), List.getElem?_set_ne (by omega), e0]
      · rw [List.getElem?_set_ne (Ne.symm hj)]
    refine ⟨?_, .inr ⟨g, cap, _, rfl, Nat.zero_le _, k2, h5, h6, by simp [h7], ?_⟩⟩
    · rw [tcells_set]; simp [h1]
    · rw [tcells_set, hs, Array.toList_setIfInBounds, List.take_set, h8]

def negl (l : List PT) : List PT := l.map fun t => (!t.1, t.2)
theorem negl_len (l : List PT) : (negl l).length = l.length := by simp [negl]
theorem negl_get {l : List PT} {k : Nat} {t : PT} (ht : l[k]? = some t) : (negl (l.take k) ++ l.drop k)[k]? = some t ∧ negl (l.take (k + 1)) ++ l.drop (k + 1) = (negl (l.take k) ++ l.drop k).set k (!t.1, t.2) := by
  have hk := (List.getElem?_eq_some_iff.1 ht).1
  have e2 : (negl (l.take k)).length = k := by rw [negl_len, List.length_take]; omega
  constructor
  · rw [List.getElem?_append_right (by omega), e2, Nat.sub_self, List.getElem?_drop, Nat.add_zero, ht]
  · have e1 : l.drop k = t :: l.drop (k + 1) := drop_of ht
    have e3 : negl (l.take (k + 1)) = negl (l.take k) ++ [(!t.1, t.2)] := by rw [take_succ ht]; simp [negl]
    rw [e3, e1, List.append_assoc, List.set_append_right _ _ (by omega), e2, Nat.sub_self]
    simp
set_option maxHeartbeats 4000000 in
set_option maxRecDepth 100000 in
theorem negated_calls {W : World} {v : Value} {l : List PT} (hl : TRow W v l) (hlen : l.length ≤ 1000000) :
    Calls Tryz.prog 123 #[v] W fun e W' => ∃ v', e = .returned v' ∧ Hid (TRow W' v' (negl l)) ∧ Hid (Below W.heap.size W W') ∧ Hid (∀ b, v'.ownBlock = some b → W.heap.size ≤ b) := by
  have HCl := clone_calls hl (by omega)
  go_enter Tryz.func123, Tryz.ntmps123
  go_wp2_with fail
  refine HCl.mono ?_
  rintro y w1 ⟨v1, rfl, hr1, hb1, ho1⟩
  clear HCl
  obtain ⟨a1, c1, rfl, _, _⟩ := hr1.out.shape
  have K0 : Hid (w1.ownsRow 0 154 2 (.slice a1 l.length c1) l.length (tcells (negl (l.take 0) ++ l.drop 0))) := hr1.out
  have HO : Hid (∀ b, (Value.slice a1 l.length c1).ownBlock = some b → W.heap.size ≤ b) := ho1
  clear hr1 ho1
  go_wp2_with fail
  go_loopg [8] l.length (fun g1 vi wr => ∃ k : Nat, vi = .int .i64 k ∧ k ≤ l.length ∧ l.length - k ≤ g1 ∧ Hid (wr.ownsRow 0 154 2 (.slice a1 l.length c1) l.length (tcells (negl (l.take k) ++ l.drop k))) ∧ Hid (Below W.heap.size W wr))
  case atStart => exact ⟨0, rfl, by omega, by omega, K0, hb1⟩
  case round =>
    clear K0 hb1
    obtain ⟨k, rfl, hkl, hg, HK, HB⟩ := hrel
    by_cases hk : k < l.length
    · have hkz : (k : Int) < (l.length : Int) := by omega
      have hk0 : (0 : Int) ≤ (k : Int) := Int.natCast_nonneg k
      have hkw : IntKind.i64.wrap ((k : Int) + 1) = (k : Int) + 1 := IntWalk.i64_in _ (by omega)
      obtain ⟨t, ht⟩ : ∃ t, l[k]? = some t := ⟨_, List.getElem?_eq_getElem hk⟩
      obtain ⟨hlk, hnx0⟩ := negl_get ht
      have hnx : Hid (negl (l.take (k + 1)) ++ l.drop (k + 1) = (negl (l.take k) ++ l.drop k).set k (!t.1, t.2)) := hnx0
      clear hnx0
      obtain ⟨hh1, ⟨hh2, hh3⟩ | ⟨g, cap, cur, hv, _, h4, h5, h6, h7, h8⟩⟩ := HK.out
      · omega
      · cases hv
        obtain ⟨d1, _⟩ := tcells_get hlk
        rw [← h8, List.getElem?_take_of_lt (by omega), Array.getElem?_toList, ← cell_of h4] at d1
        have f1 := free_of h4 (k * 2)
        have HS : Hid _ := setS (!t.1) hlk HK.out
        have HB2 : Hid (Below W.heap.size W (wr.setCell ⟨g, k * 2, none⟩ (.bool (!t.1)))) := ⟨HB.out.os, HB.out.tape, HB.out.output, by have := HB.out.size; simpa using this, fun b hb => (RowKit.Below.heap_setCell _ _ _ _ (show b ≠ g by have := HO.out g rfl; omega)).trans (HB.out.block b hb)⟩
        obtain ⟨s, a⟩ := t
        have hnot : ∀ (x : Bool) (w : World), (Op.unary .not (.bool x)).run Tryz.prog w = .ok (.bool (!x)) w := fun _ _ => rfl
        clear hh1 h4 h5 h6 h7 h8 ht hlk
        go_wp2_with fail
        go_roundg (l.length - (k + 1))
        case measure => omega
        case rel => exact ⟨k + 1, by go_num, by omega, by omega, by show World.ownsRow _ _ _ _ _ _ _; rw [hnx.out]; exact HS.out, HB2⟩
    · have hkz : ¬ ((k : Int) < (l.length : Int)) := by omega
      have HR : Hid (TRow wr (.slice a1 l.length c1) (negl l)) := by
        have h := HK.out
        rw [List.take_of_length_le (by omega), List.drop_eq_nil_of_le (by omega), List.append_nil] at h
        show TRow _ _ _
        unfold TRow; rw [negl_len]; exact h
      go_wp2_with fail
      refine bodyPost_ret (results_tmp rfl _ _ _) rfl ?_
      exact ⟨_, rfl, HR, HB, HO⟩

theorem atPl_neg (l : List Nat) (x : Int) : atPl l (-x) = negl (atPl l x) := by
  unfold atPl negl; rw [form_neg, List.map_map, List.map_map]; rfl
theorem Below.here {W w : World} (h : Below W.heap.size W w) {b : Nat} {c : Array Value} {T : TypeId} {z : Nat × Nat} (hb : W.heap[b]? = some (.cells c T z)) : w.heap[b]? = some (.cells c T z) := (h.block b (Array.getElem?_eq_some_iff.1 hb).1).trans hb

set_option maxHeartbeats 4000000 in
set_option maxRecDepth 100000 in
theorem Neg_calls {W : World} {v : Value} {x : Int} (hx : IsN W v x) : Calls Tryz.prog 87 #[v] W fun e W' => ∃ q, e = .returned (.agg #[.pointer q]) ∧ Hid (IsN W' (.agg #[.pointer q]) (-x)) ∧ Hid (Below W.heap.size W W') := by
  have hx0 := hx
  obtain ⟨h0, ⟨rfl, rfl⟩ | ⟨h1, b, pv, sv, fl, rfl, h2⟩⟩ := hx
  · go_enter Tryz.func87, Tryz.ntmps87
    go_wp2_with fail
    refine bodyPost_ret (v := .agg #[.pointer none]) (by simp [results, Tryz.results87, go_sem]) rfl ?_
    exact ⟨none, rfl, ⟨by simpa using h0, .inl ⟨by simp, rfl⟩⟩, ((Below.refl _ _).alloc (Nat.le_refl _) _).alloc (by simp) _⟩
  · have HN := Lib.hid h2
    have H0 := Lib.hid h0
    have H1 : Hid (x ≠ 0) := h1
    have hlen : (atPl (Sr.parts x) x).length ≤ 300 := by have := h0.1; simpa [atPl] using this
    obtain ⟨a, c, rfl, _, _⟩ := h2.self.shape
    obtain ⟨n, hn⟩ : ∃ n, n = (atPl (Sr.parts x) x).length := ⟨_, rfl⟩
    have hbl : b < W.heap.size := (Array.getElem?_eq_some_iff.1 h2.obj).1
    have hb0 : b ≠ W.heap.size := by omega
    have hb1 : b ≠ W.heap.size + 1 := by omega
    have hb1s : W.heap.size + 1 ≠ b := by omega
    have hself := h2.self
    rw [← hn] at HN hself
    have HNg := fun w hr => negated_calls (W := w) (v := .slice a n c) (l := atPl (Sr.parts x) x) hr (by omega)
    obtain ⟨pa, pc, hpv⟩ : ∃ pa pc, pv = .slice pa (Sr.parts x).length pc := by
      obtain ⟨_, ⟨q1, q2⟩ | ⟨g, cap, cur, q1, _⟩⟩ := h2.parts
      · exact ⟨none, 0, by rw [q1, q2]⟩
      · exact ⟨_, cap, q1⟩
    obtain ⟨np, hnp⟩ : ∃ np, np = (Sr.parts x).length := ⟨_, rfl⟩
    rw [← hnp] at hpv
    subst hpv
    have HW0 : Hid (Below W.heap.size W ((W.alloc (.cells #[.pointer (some ⟨b, 0, none⟩)] 26)).alloc (.cells #[.pointer none] 26)).drew) := (((Below.refl _ _).alloc (Nat.le_refl _) _).alloc (by simp) _).drew
    have e0 : Hid (((W.alloc (.cells #[.pointer (some ⟨b, 0, none⟩)] 26)).alloc (.cells #[.pointer none] 26)).drew.heap[W.heap.size]? = some (.cells #[.pointer (some ⟨b, 0, none⟩)] 26 (0, 0))) := (heap_old _ _ (by simp)).trans (heap_at rfl)
    have e1 : Hid (((W.alloc (.cells #[.pointer (some ⟨b, 0, none⟩)] 26)).alloc (.cells #[.pointer none] 26)).drew.heap[W.heap.size + 1]? = some (.cells #[.pointer none] 26 (0, 0))) := heap_at (by simp)
    have HSf := Lib.hid (ownsRow_below hself HW0.out)
    have hob := Below.here HW0.out HN.out.obj
    have hS0 : ((W.alloc (.cells #[.pointer (some ⟨b, 0, none⟩)] 26)).alloc (.cells #[.pointer none] 26)).drew.cell? ⟨W.heap.size, 0, none⟩ = some (.pointer (some ⟨b, 0, none⟩)) ∧ ((W.alloc (.cells #[.pointer (some ⟨b, 0, none⟩)] 26)).alloc (.cells #[.pointer none] 26)).drew.cell? ⟨b, 0, none⟩ = some (.slice pa np pc) ∧ ((W.alloc (.cells #[.pointer (some ⟨b, 0, none⟩)] 26)).alloc (.cells #[.pointer none] 26)).drew.cell? ⟨b, 1, none⟩ = some (.slice a n c) := by
      refine ⟨by rw [cell_of e0.out]; rfl, ?_, ?_⟩
      · rw [cell_of hob]; rfl
      · rw [cell_of hob]; rfl
    have HS0 := Lib.hid hS0
    have cw : W.cell? ⟨b, 0, none⟩ = some (.slice pa np pc) := by rw [cell_of HN.out.obj]; rfl
    clear h0 h1 h2 hx0 hn hself hnp hob hS0
    go_enter Tryz.func87, Tryz.ntmps87
    go_wp2_with fail
    go_region_held3 (fun w' => w'.cell? ⟨W.heap.size, 0, none⟩ = some (.pointer (some ⟨b, 0, none⟩)) ∧ w'.cell? ⟨b, 0, none⟩ = some (.slice pa np pc) ∧ w'.cell? ⟨b, 1, none⟩ = some (.slice a n c))
      (first | exact HS0.out | exact HS1.out | go_keep)
      (first | (go_at_call 123
                refine (HNg _ HSf.out).mono ?_
                rintro e w5 ⟨v5, rfl, hr5, hb5, ho5⟩
                obtain ⟨a5, c5, rfl, _, _⟩ := hr5.out.shape
                obtain ⟨n5, hn5⟩ : ∃ n5, n5 = (negl (atPl (Sr.parts x) x)).length := ⟨_, rfl⟩
                rw [← hn5] at hr5
                rw [← hn5]
                have HE1 := Lib.hid (Below.here hb5.out e1.out)
                have s1 : ∀ o, (w5.alloc o).cell? ⟨W.heap.size + 1, 0, none⟩ = some (.pointer none) := fun o => by rw [cell_of ((heap_old _ _ (Array.getElem?_eq_some_iff.1 HE1.out).1).trans HE1.out)]; rfl
                have s2 : ∀ o, (w5.alloc o).frozen? ⟨W.heap.size + 1, 0, none⟩ = false := fun o => free_of ((heap_old _ _ (Array.getElem?_eq_some_iff.1 HE1.out).1).trans HE1.out) 0
                clear hn5 ho5
                have HS1 : Hid (w5.cell? ⟨W.heap.size, 0, none⟩ = some (.pointer (some ⟨b, 0, none⟩)) ∧ w5.cell? ⟨b, 0, none⟩ = some (.slice pa np pc) ∧ w5.cell? ⟨b, 1, none⟩ = some (.slice a n c)) :=
                  ⟨by rw [hb5.out.cell (by simp; omega)]; exact HS0.out.1, by rw [hb5.out.cell (by simp; omega)]; exact HS0.out.2.1, by rw [hb5.out.cell (by simp; omega)]; exact HS0.out.2.2⟩))
    clear HNg s1 s2 hb0 hb1 hb1s cw
    go_wp2_with fail
    refine bodyPost_ret (v := .agg #[.pointer (some ⟨w5.heap.size, 0, none⟩)]) (by simp [results, Tryz.results87, go_sem, World.cell?_setCell_same, (cell_of ((heap_old w5 (.cells #[.slice pa np pc, .slice a5 n5 c5] 158) (Array.getElem?_eq_some_iff.1 HE1.out).1).trans HE1.out) 0)]) rfl ?_
    have hb5' := Below.trans' HW0.out hb5.out
    have hE : (w5.alloc (.cells #[.slice pa np pc, .slice a5 n5 c5] 158)).heap[W.heap.size + 1]? = some (.cells #[.pointer none] 26 (0, 0)) := (heap_old _ _ (Array.getElem?_eq_some_iff.1 HE1.out).1).trans HE1.out
    refine ⟨_, rfl, ?_, (hb5'.alloc hb5'.size _).setCell (by show W.heap.size ≤ W.heap.size + 1; omega) _⟩
    refine IsN.setCell ?_ hE (by decide) _
    have hnb := HN.out.below hb5'
    refine ⟨allowed_neg.2 H0.out, .inr ⟨by have := H1.out; show -x ≠ 0; omega, w5.heap.size, .slice pa np pc, .slice a5 n5 c5, fl, rfl, heap_last _ _, ?_, fun i p hi => ?_, ?_⟩⟩
    · rw [parts_neg]; exact World.ownsRow.alloc hnb.parts _
    · rw [parts_neg] at hi ⊢
      obtain ⟨u, k1, k2⟩ := hnb.rows i p hi
      exact ⟨u, k1, World.ownsRow.alloc k2 _⟩
    · rw [parts_neg, atPl_neg]; exact World.ownsRow.alloc hr5.out _

set_option maxHeartbeats 4000000 in
set_option maxRecDepth 100000 in
theorem Sub_calls {W : World} {v u : Value} {x y : Int} (hx : IsN W v x) (hy : IsN W u y) : Calls Tryz.prog 90 #[v, u] W (NQ (x - y) W) := by
  obtain ⟨qx, rfl⟩ := hx.ptr
  obtain ⟨qy, rfl⟩ := hy.ptr
  have HX := Lib.hid hx
  have HY := Lib.hid hy
  clear hx hy
  obtain ⟨W0, hW0⟩ : ∃ W0, W0 = ((W.alloc (.cells #[.pointer qx] 26)).alloc (.cells #[.pointer qy] 26)).alloc (.cells #[.pointer none] 26) := ⟨_, rfl⟩
  have HB0 : Hid (Below W.heap.size W W0) := by show Below _ _ _; rw [hW0]; exact (((Below.refl _ _).alloc (Nat.le_refl _) _).alloc (by simp) _).alloc (by simp; omega) _
  have hz0 : W.heap.size + 3 = W0.heap.size := by rw [hW0]; simp
  have X0 : Hid (W0.heap[W.heap.size]? = some (.cells #[.pointer qx] 26 (0, 0))) := by show _ = _; rw [hW0, heap_old _ _ (by simp; omega), heap_old _ _ (by simp)]; exact heap_at rfl
  have X1 : Hid (W0.heap[W.heap.size + 1]? = some (.cells #[.pointer qy] 26 (0, 0))) := by show _ = _; rw [hW0, heap_old _ _ (by simp)]; exact heap_at (by simp)
  have X2 : Hid (W0.heap[W.heap.size + 1 + 1]? = some (.cells #[.pointer none] 26 (0, 0))) := by show _ = _; rw [hW0]; exact heap_at (by simp)
  have HWe := Lib.hid hW0
  have HK : Hid (∀ w', Below W0.heap.size W0 w' → w'.cell? ⟨W.heap.size, 0, none⟩ = some (.pointer qx) ∧ w'.cell? ⟨W.heap.size + 1, 0, none⟩ = some (.pointer qy)) := fun w' hb =>
    ⟨by rw [cell_of (Below.here hb X0.out)]; rfl, by rw [cell_of (Below.here hb X1.out)]; rfl⟩
  have n1 : W.heap.size + 1 ≠ W.heap.size + 1 + 1 := by omega
  have n0 : W.heap.size ≠ W.heap.size + 1 + 1 := by omega
  have n1s : W.heap.size + 1 + 1 ≠ W.heap.size + 1 := by omega
  have n0s : W.heap.size + 1 + 1 ≠ W.heap.size := by omega
  have HNeg := Neg_calls (W := W0.drew) ((HY.out.below HB0.out).below ((Below.refl _ _).drew))
  clear hW0
  go_enter Tryz.func90, Tryz.ntmps90
  go_wp2_with fail
  rw [show ((W.alloc (.cells #[.pointer qx] 26)).alloc (.cells #[.pointer qy] 26)).alloc (.cells #[.pointer none] 26) = W0 from HWe.out.symm]
  have hS0 : W0.drew.cell? ⟨W.heap.size, 0, none⟩ = some (.pointer qx) ∧ W0.drew.cell? ⟨W.heap.size + 1, 0, none⟩ = some (.pointer qy) := HK.out W0.drew ((Below.refl _ _).drew)
  go_region_held3 (fun w' => w'.cell? ⟨W.heap.size, 0, none⟩ = some (.pointer qx) ∧ w'.cell? ⟨W.heap.size + 1, 0, none⟩ = some (.pointer qy))
    (first | exact hS0 | exact HS1.out | exact HS2.out | go_keep)
    (first
      | (go_at_call 87
         refine HNeg.mono ?_
         rintro e w5 ⟨q5, rfl, hi5, hb5⟩
         have HB5 := Lib.hid (Below.trans' (W := W0) ((Below.refl _ _).drew) hb5.out)
         have HS1 := Lib.hid (HK.out w5 HB5.out)
         have HAdd := add_calls (((HX.out.below HB0.out).below HB5.out)) hi5.out
         clear hi5 hb5)
      | (go_at_call 101
         refine HAdd.mono ?_
         rintro e w6 ⟨q6, er, rfl, hb6, hn6⟩
         have HB6 := Lib.hid (Below.trans' HB5.out hb6.out)
         have HS2 := Lib.hid (HK.out w6 HB6.out)
         have HE2 := Lib.hid (Below.here HB6.out X2.out)
         have s1 : w6.cell? ⟨W.heap.size + 1 + 1, 0, none⟩ = some (.pointer none) := by rw [cell_of HE2.out]; rfl
         have s2 : w6.frozen? ⟨W.heap.size + 1 + 1, 0, none⟩ = false := free_of HE2.out 0
         clear HAdd hb6))
  clear HNeg n1 n0 n1s n0s
  go_wp2_with fail
  refine bodyPost_ret (v := .tuple #[.agg #[.pointer q6], .int .i64 er]) (by simp [results, Tryz.results90, go_sem, s1]) rfl ?_
  refine ⟨q6, er, rfl, (Below.trans' HB0.out HB6.out).setCell (by show W.heap.size ≤ W.heap.size + 1 + 1; omega) _, ?_⟩
  show NR _ _ _ _
  rw [Int.sub_eq_add_neg]
  exact hn6.out.setCell HE2.out (by decide) _
end Sr
