/- Texts of this claim, joined: App, Push, Id, Clone, Rev, NumD, Take, Step, Take2, GiveP, GiveW, SortRow. -/
import Derived.Test.YtabafgphmbdpgaaGreatDoorIn1
import Derived.OwnWalk
import Derived.Maps.AppendAt
import Derived.Deep.AppendLies
import Derived.Laws.IdiomStrings
import Derived.Lib.BufferMore
import Derived.Deep.RegionLaw
import Derived.Deep.RegionHeld3
import Derived.Lib.Hide
import Derived.WalkKit
import Derived.Sort.AssemblyPlain
import Derived.RowKit3
/- append, as the world uses it. -/
namespace Sr
open Go Go.Proofs Go.RowKit Go.Maps Go.WideMaps

theorem info154 : (Tryz.prog.info? 154).map (fun i => (i.zero, i.size, i.bytes)) = some (some (.agg #[.bool false, .int .i64 0]), 2, 16) := by kernel_rfl
theorem info3 : (Tryz.prog.info? 3).map (fun i => (i.zero, i.size, i.bytes)) = some (some (.int .i64 0), 1, 8) := by kernel_rfl
theorem info5 : (Tryz.prog.info? 5).map (fun i => (i.zero, i.size, i.bytes)) = some (some (.int .u8 0), 1, 1) := by kernel_rfl
theorem info111 : (Tryz.prog.info? 111).map (fun i => (i.zero, i.size, i.bytes)) = some (some (.slice none 0 0), 1, 24) := by kernel_rfl
theorem un111 : Tryz.prog.underlying 111 = some (.slice 154) := by kernel_rfl
theorem un80 : Tryz.prog.underlying 80 = some (.slice 3) := by kernel_rfl
theorem un40 : Tryz.prog.underlying 40 = some (.slice 5) := by kernel_rfl
theorem un120 : Tryz.prog.underlying 120 = some (.slice 111) := by kernel_rfl

/-- a row of places -/
def IRow (W : World) (v : Value) (l : List Nat) : Prop := W.ownsRow 0 3 1 v l.length (l.map fun (i : Nat) => .int .i64 (i : Nat))
/-- a row of bytes -/
def BRow (W : World) (v : Value) (l : List UInt8) : Prop := W.ownsRow 0 5 1 v l.length (l.map fun b => .int .u8 (b.toNat : Nat))

section
variable {ops : Array Oper} {rest : List Oper} {o : Oper} {a : Act} {Q : Exit → Act → World → Prop} {W : World}

theorem oneT (l : List PT) : ∀ u ∈ tcells l, u.oneCell' = true := by
  intro u hu
  obtain ⟨t, _, hu⟩ := List.mem_flatMap.1 hu
  simp at hu
  rcases hu with rfl | rfl <;> rfl

/-- .. of terms -/
theorem app_T (hgd : o.guard = none) (s x : Operand) (ho : o.op = .call { callee := .builtin .append, args := #[s, x], argTypes := #[111, 111] })
    (v : Value) (l : List PT) (hs : a.eval s = v) (hown : TRow W v l) (ad : Addr) (c m : Nat) (l2 : List PT) (hx : a.eval x = .slice (some ad) m c) (hm : l2.length = m)
    (hnews : ∀ j u, (tcells l2)[j]? = some u → W.cell? (ad.add j) = some u) (hb : l.length + m ≤ 1099511627776)
    (h : ∀ v' w', TRow w' v' (l ++ l2) → W.grownBy w' v.ownBlock → (v' = .slice none 0 0 ↔ v = .slice none 0 0 ∧ m = 0) → (v'.ownBlock = v.ownBlock ∨ v'.ownBlock = some W.heap.size) → wpList Tryz.prog ops Q rest (a.put o.dst v') w') :
    wpList Tryz.prog ops Q (o :: rest) a W := by
  obtain ⟨i, hi, hz0, hz1, hz2⟩ := info_parts info154
  subst hm
  refine wpList_append_own_at _ hgd s x 111 ho 0 154 i _ 2 16 un111 hi hz0 hz1 hz2 rfl (by decide) v l.length (tcells l) hs hown ad l2.length c (tcells l2) hx (tcells_len _) hnews (oneT _) (by simp only [maxLen]; omega) (by omega) (Nat.zero_le _) ?_
  intro v' w' k1 k2 k3 k4
  refine h v' w' ?_ k2 k3 k4
  unfold TRow
  rw [List.length_append, tcells_append]; exact k1

theorem app_T1 (hgd : o.guard = none) (s x : Operand) (ho : o.op = .call { callee := .builtin .append, args := #[s, x], argTypes := #[111, 111] })
    (v : Value) (l : List PT) (hs : a.eval s = v) (hown : TRow W v l) (B : Nat) (t : PT) (hx : a.eval x = .slice (some ⟨B, 0, none⟩) 1 1)
    (hB : W.heap[B]? = some (.cells #[.bool t.1, .int .i64 (t.2 : Nat)] 154 (0, 0))) (hb : l.length + 1 ≤ 1099511627776)
    (h : ∀ v' w', TRow w' v' (l ++ [t]) → W.grownBy w' v.ownBlock → v' ≠ .slice none 0 0 → (v'.ownBlock = v.ownBlock ∨ v'.ownBlock = some W.heap.size) → wpList Tryz.prog ops Q rest (a.put o.dst v') w') :
    wpList Tryz.prog ops Q (o :: rest) a W :=
  app_T hgd s x ho v l hs hown ⟨B, 0, none⟩ 1 1 [t] hx rfl (fun j u hu => World.news_of_block hB j u hu) hb fun v' w' k1 k2 k3 k4 => h v' w' k1 k2 (fun e => by have := (k3.1 e).2; omega) k4

theorem app_I1 (hgd : o.guard = none) (s x : Operand) (ho : o.op = .call { callee := .builtin .append, args := #[s, x], argTypes := #[80, 80] })
    (v : Value) (l : List Nat) (hs : a.eval s = v) (hown : IRow W v l) (B : Nat) (t : Nat) (hx : a.eval x = .slice (some ⟨B, 0, none⟩) 1 1)
    (hB : W.heap[B]? = some (.cells #[.int .i64 (t : Nat)] 3 (0, 0))) (hb : l.length + 1 ≤ 1099511627776)
    (h : ∀ v' w', IRow w' v' (l ++ [t]) → W.grownBy w' v.ownBlock → v' ≠ .slice none 0 0 → (v'.ownBlock = v.ownBlock ∨ v'.ownBlock = some W.heap.size) → wpList Tryz.prog ops Q rest (a.put o.dst v') w') :
    wpList Tryz.prog ops Q (o :: rest) a W := by
  obtain ⟨i, hi, hz0, hz1, hz2⟩ := info_parts info3
  refine wpList_append_own_at _ hgd s x 80 ho 0 3 i _ 1 8 un80 hi hz0 hz1 hz2 rfl (by decide) v l.length _ hs hown ⟨B, 0, none⟩ 1 1 [.int .i64 (t : Nat)] hx rfl (fun j u hu => World.news_of_block hB j u hu) (by simp; rfl) (by simp only [maxLen]; omega) (by omega) (Nat.zero_le _) ?_
  intro v' w' k1 k2 k3 k4
  refine h v' w' ?_ k2 (fun e => by have := (k3.1 e).2; omega) k4
  unfold IRow
  rw [List.length_append, List.map_append]; exact k1

theorem app_B (hgd : o.guard = none) (s x : Operand) (ho : o.op = .call { callee := .builtin .append, args := #[s, x], argTypes := #[40, 40] })
    (v : Value) (l : List UInt8) (hs : a.eval s = v) (hown : BRow W v l) (B m : Nat) (l2 : List UInt8) (hx : a.eval x = .slice (some ⟨B, 0, none⟩) m m) (hm : l2.length = m) (cs : Array Value) (hcs : cs.toList = l2.map fun b => .int .u8 (b.toNat : Nat))
    (hB : W.heap[B]? = some (.cells cs 5 (0, 0))) (hb : l.length + m ≤ 1099511627776)
    (h : ∀ v' w', BRow w' v' (l ++ l2) → W.grownBy w' v.ownBlock → (v'.ownBlock = v.ownBlock ∨ v'.ownBlock = some W.heap.size) → wpList Tryz.prog ops Q rest (a.put o.dst v') w') :
    wpList Tryz.prog ops Q (o :: rest) a W := by
  obtain ⟨i, hi, hz0, hz1, hz2⟩ := info_parts info5
  subst hm
  refine wpList_append_own_at _ hgd s x 40 ho 0 5 i _ 1 1 un40 hi hz0 hz1 hz2 rfl (by decide) v l.length _ hs hown ⟨B, 0, none⟩ l2.length l2.length (l2.map fun b => .int .u8 (b.toNat : Nat)) hx (by simp) (fun j u hu => World.news_of_block hB j u (by rw [hcs]; exact hu)) (by intro u hu; obtain ⟨b, _, rfl⟩ := List.mem_map.1 hu; rfl) (by simp only [maxLen]; omega) (by omega) (Nat.zero_le _) ?_
  intro v' w' k1 k2 k3 k4
  refine h v' w' ?_ k2 k4
  unfold BRow
  rw [List.length_append, List.map_append]; exact k1

theorem make_B (hgd : o.guard = none) (l c : Operand) (hop : o.op = Op.makeSlice 40 l c) (n : Nat) (hl : a.eval l = .int .i64 0) (C : Int) (hc : a.eval c = .int .i64 C) (hC : C = (n : Int)) (hn : n ≤ 1099511627776)
    (h : ∀ w', BRow w' (.slice (some ⟨W.heap.size, 0, none⟩) 0 n) [] → W.grownBy w' none → wpList Tryz.prog ops Q rest (a.put o.dst (.slice (some ⟨W.heap.size, 0, none⟩) 0 n)) w') :
    wpList Tryz.prog ops Q (o :: rest) a W := by
  obtain ⟨i, hi, hz0, hz1, hz2⟩ := info_parts info5
  exact wpList_make_own W hgd l c 40 hop 0 5 i _ 1 un40 hi hz0 hz1 .i64 .i64 C n hl hc hC (by rw [hz2]; omega) (by simp only [maxLen]; omega) (Nat.zero_le _) h

theorem app_F1 (hgd : o.guard = none) (s x : Operand) (ho : o.op = .call { callee := .builtin .append, args := #[s, x], argTypes := #[120, 120] })
    (v : Value) (n : Nat) (l : List Value) (hs : a.eval s = v) (hown : W.ownsRow 0 111 1 v n l) (B : Nat) (t : Value) (h1 : t.oneCell' = true) (hx : a.eval x = .slice (some ⟨B, 0, none⟩) 1 1)
    (hB : W.heap[B]? = some (.cells #[t] 111 (0, 0))) (hb : n + 1 ≤ 1099511627776)
    (h : ∀ v' w', w'.ownsRow 0 111 1 v' (n + 1) (l ++ [t]) → W.grownBy w' v.ownBlock → v' ≠ .slice none 0 0 → (v'.ownBlock = v.ownBlock ∨ v'.ownBlock = some W.heap.size) → wpList Tryz.prog ops Q rest (a.put o.dst v') w') :
    wpList Tryz.prog ops Q (o :: rest) a W := by
  obtain ⟨i, hi, hz0, hz1, hz2⟩ := info_parts info111
  refine wpList_append_own_at _ hgd s x 120 ho 0 111 i _ 1 24 un120 hi hz0 hz1 hz2 rfl (by decide) v n _ hs hown ⟨B, 0, none⟩ 1 1 [t] hx rfl (fun j u hu => World.news_of_block hB j u hu) (by simpa using h1) (by simp only [maxLen]; omega) (by omega) (Nat.zero_le _) ?_
  intro v' w' k1 k2 k3 k4
  exact h v' w' k1 k2 (fun e => by have := (k3.1 e).2; omega) k4
end
end Sr
/- A number is put into the world: the plain part. -/
namespace Sr
open Go Go.Proofs Go.RowKit Go.Maps Go.WideMaps

section
variable {C : List Nat} {W W' : World} {p : Nat} {F : List Nat} {D : WD} {vs : List Int} {gk : List Nat} {m : Nat}

theorem pf_places (hv : vs.length ≤ 2147483648) {x : Int} (hx : ∀ e ∈ exps x, (e : Int) ∈ vs) : ∀ t ∈ pf vs x, t.2 < 4294967296 := by
  intro t ht
  obtain ⟨u, hu, rfl⟩ := List.mem_map.1 ht
  have := idx_lt (hx _ (Sr.mem_exps hu))
  show vs.idxOf _ < _
  omega
theorem pf_len (hv : vs.length ≤ 2147483648) {x : Int} (hx : ∀ e ∈ exps x, (e : Int) ∈ vs) : (pf vs x).length ≤ 2147483648 := by
  have h1 : (pf vs x).length = (exps x).length := by simp [pf, exps]
  rw [h1]
  have := nodup_length_le (exps x) (vs.map Int.toNat) (exps_nodup x) (fun e he => List.mem_map.2 ⟨(e : Int), hx e he, by simp⟩)
  rw [List.length_map] at this
  omega

/-- what the places map tells of a form -/
theorem WO.lookPlc (h : WO C W p F D vs gk m) {x : Int} (hx : ∀ e ∈ exps x, (e : Int) ∈ vs) :
    (x ∉ vs ∧ ∀ W', W'.heap[D.mp]? = W.heap[D.mp]? → (Instr.lookup 121 (.map (some D.mp)) (.string ⟨(kb (pf vs x)).toArray⟩) true).run Tryz.prog W' = .ok (.tuple #[.int .i64 0, .bool false]) W') ∨
    (x ∈ vs ∧ ∀ W', W'.heap[D.mp]? = W.heap[D.mp]? → (Instr.lookup 121 (.map (some D.mp)) (.string ⟨(kb (pf vs x)).toArray⟩) true).run Tryz.prog W' = .ok (.tuple #[.int .i64 (vs.idxOf x : Nat), .bool true]) W') := by
  have hv := h.vlen
  have hl : keyOf Tryz.prog 9 (.string ⟨(kb (pf vs x)).toArray⟩) = some (.string (kb (pf vs x))) := keyStr (by
    have := pf_len hv hx
    show (kb (pf vs x)).toArray.size ≤ maxLen
    rw [List.size_toArray, kb_len]; simp only [maxLen]; omega)
  obtain ⟨f, h1, h2⟩ := h.plc
  by_cases hm : x ∈ vs
  · right
    refine ⟨hm, fun W' hW => ?_⟩
    have hf : f (.string ⟨(kb (pf vs x)).toArray⟩) = some (.int .i64 (vs.idxOf x : Nat)) := (h2 _ _).2 ⟨_, x, get_idx hm, rfl, rfl⟩
    have := (h1.kept hW).look true law9 Tryz.underlying121 (zero3 W') hl
    simpa [hf] using this
  · left
    refine ⟨hm, fun W' hW => ?_⟩
    have hf : f (.string ⟨(kb (pf vs x)).toArray⟩) = none := by
      cases hfx : f (.string ⟨(kb (pf vs x)).toArray⟩) with
      | none => rfl
      | some v =>
        obtain ⟨i, y, k1, k2, _⟩ := (h2 _ _).1 hfx
        have hy : ∀ e ∈ exps y, (e : Int) ∈ vs := fun e he => h.wv.mem_exps (List.mem_of_getElem? k1) he
        have e1 : kb (pf vs x) = kb (pf vs y) := by simpa using k2
        have e2 := kb_inj (pf_places hv hx) (pf_places hv hy) e1
        have e3 := pf_inj h.wv hx hy e2
        subst e3
        exact absurd (List.mem_of_getElem? k1) hm
    have := (h1.kept hW).look true law9 Tryz.underlying121 (zero3 W') hl
    simpa [hf] using this

/-- a key of bytes as a string -/
theorem conv_B {v : Value} {l : List UInt8} (h : BRow W v l) (hb : ∀ b, v.ownBlock = some b → W'.heap[b]? = W.heap[b]?) : (Go.convert 40 9 v).run Tryz.prog W' = .ok (.string ⟨l.toArray⟩) W' := by
  have u5 : Tryz.prog.underlying 5 = some (.int .u8) := by kernel_rfl
  have u9 : Tryz.prog.underlying 9 = some .string := by kernel_rfl
  have h' : BRow W' v l := ownsRow_kept h hb
  obtain ⟨h1, ⟨rfl, h2⟩ | ⟨g, cap, cur, rfl, h3, h4, h5, h6, h7, h8⟩⟩ := h'
  · have : l = [] := List.length_eq_zero_iff.1 h2
    subst this
    rw [run_convert_bytes_string W' 40 9 5 none 0 0 un40 u5 u9]
    simp [Conv.bytesToString]; rfl
  · refine run_convert_bytes_back W' 40 9 5 ⟨g, 0, none⟩ cap l un40 u5 u9 fun j hj => ?_
    have hadd : (⟨g, 0, none⟩ : Addr).add j = ⟨g, j, none⟩ := by unfold Addr.add; split <;> simp_all
    rw [hadd, cell_of h4, ← Array.getElem?_toList]
    have e : (l.map fun b => Value.int .u8 (b.toNat : Nat))[j]? = some (.int .u8 (l[j].toNat : Nat)) := by simp [hj]
    rw [← e, ← h8, List.getElem?_take_of_lt (by omega)]

theorem type_ne {b c : Nat} {x y : Array Value} {e f : TypeId} {z u : Nat × Nat} (h : W.heap[b]? = some (.cells x e z)) (k : W.heap[c]? = some (.cells y f u)) (hn : e ≠ f) : b ≠ c := by
  rintro rfl
  rw [h] at k; cases k; exact hn rfl
theorem row_type {base e size n : Nat} {v : Value} {xs : List Value} (h : W.ownsRow base e size v n xs) {b : Nat} (hb : v.ownBlock = some b) : ∃ c, W.heap[b]? = some (.cells c e (0, 0)) := by
  obtain ⟨_, ⟨rfl, _⟩ | ⟨g, cap, cur, rfl, _, h4, _⟩⟩ := h
  · cases hb
  · cases hb; exact ⟨_, h4⟩

/-- W1: the world; W2: the row of the forms has grown by v; then it is stored, and the place is put in -/
theorem WO.pushed (h : WO C W p F D vs gk m) {x : Int} (hn : x ∉ vs) (hx : ∀ e ∈ exps x, (e : Int) ∈ vs) (hm : m + 1 + C.length ≤ 2147483648) {v fv' : Value} (hv : TRow W v (pf vs x)) {W2 : World}
    (hown : W2.ownsRow 0 111 1 fv' (vs.length + 1) (D.fl ++ [v])) (hg : W.grownBy W2 D.fv.ownBlock) :
    ∃ W4, (Instr.mapUpdate 121 (.map (some D.mp)) (.string ⟨(kb (pf vs x)).toArray⟩) (.int .i64 (vs.length : Nat))).run Tryz.prog (W2.setCell ⟨p, 0, none⟩ fv').drew = .ok () W4 ∧
      WO C W4 p (fv'.ownBlock.toList ++ v.ownBlock.toList ++ F) ⟨fv', D.mp, D.mg, D.mo, D.fl ++ [v]⟩ (vs ++ [x]) gk (m + 1) ∧ Fr F W W4 := by
  have hvl := h.vlen
  have hl : keyOf Tryz.prog 9 (.string ⟨(kb (pf vs x)).toArray⟩) = some (.string (kb (pf vs x))) := keyStr (by
    have := pf_len hvl hx
    show (kb (pf vs x)).toArray.size ≤ maxLen
    rw [List.size_toArray, kb_len]; simp only [maxLen]; omega)
  obtain ⟨fp, p1, p2⟩ := h.plc
  obtain ⟨fg, g1, g2, g3⟩ := h.grt
  obtain ⟨fo, o1, o2⟩ := h.ord
  have hpl : p < W.heap.size := h.blt p h.inF.1
  have hsz := hg.size
  -- what the append and the store leave
  have k2 : ∀ b, b < W.heap.size → b ≠ p → some b ≠ D.fv.ownBlock → (W2.setCell ⟨p, 0, none⟩ fv').drew.heap[b]? = W.heap[b]? := fun b hb hp hf =>
    (RowKit.Below.heap_setCell _ _ _ _ hp).trans (hg.block b hb hf)
  have pfv : some p ≠ D.fv.ownBlock := by
    intro e
    obtain ⟨c, hc⟩ := row_type h.forms e.symm
    exact type_ne h.obj hc (by decide) rfl
  have hp2 : W2.heap[p]? = some (.cells #[D.fv, .map (some D.mp), .map (some D.mg), .map (some D.mo)] 125 (0, 0)) := (hg.block p hpl pfv).trans h.obj
  have hp3 : (W2.setCell ⟨p, 0, none⟩ fv').drew.heap[p]? = some (.cells #[fv', .map (some D.mp), .map (some D.mg), .map (some D.mo)] 125 (0, 0)) := by
    have := heap_setCell_same W2 p 0 _ 125 fv' hp2
    exact this
  have mapk : ∀ {k : TypeId} {mm : Nat} {f : Value → Option Value}, MapF Tryz.prog k W mm f → (W2.setCell ⟨p, 0, none⟩ fv').drew.heap[mm]? = W.heap[mm]? := fun {k mm f} hm' => by
    refine k2 mm hm'.lt ?_ ?_
    · exact (cells_ne ⟨_, _, _, h.obj⟩ hm').symm
    · intro e; exact cells_ne (ownsRow_cells h.forms e.symm) hm' rfl
  have rowk : ∀ {u : Value} {l : List PT}, TRow W u l → TRow (W2.setCell ⟨p, 0, none⟩ fv').drew u l := fun {u l} hu =>
    ownsRow_kept hu fun b e => by
      obtain ⟨c, hc⟩ := row_type hu e
      refine k2 b (ownsRow_lt hu e) (type_ne hc h.obj (by decide)) ?_
      intro e2
      obtain ⟨c2, hc2⟩ := row_type h.forms e2.symm
      exact type_ne hc hc2 (by decide) rfl
  have hfv2 : (W2.setCell ⟨p, 0, none⟩ fv').drew.ownsRow 0 111 1 fv' (vs.length + 1) (D.fl ++ [v]) := ownsRow_kept hown fun b e => by
    obtain ⟨c, hc⟩ := row_type hown e
    exact RowKit.Below.heap_setCell _ _ _ _ (type_ne hc hp2 (by decide))
  have hs3 : (W2.setCell ⟨p, 0, none⟩ fv').drew.heap.size = W2.heap.size := by simp
  have e1 : (W2.setCell ⟨p, 0, none⟩ fv').drew.os = W.os := hg.os
  have e2 : (W2.setCell ⟨p, 0, none⟩ fv').drew.tape = W.tape := hg.tape
  have e3 : (W2.setCell ⟨p, 0, none⟩ fv').drew.output = W.output := hg.output
  generalize (W2.setCell ⟨p, 0, none⟩ fv').drew = W3 at *
  obtain ⟨W4, hrun, M4, s4, G4⟩ := (p1.kept (mapk p1)).store law9 Tryz.underlying121 (v := .int .i64 (vs.length : Nat)) hl
  have k4 : ∀ b, b < W3.heap.size → b ≠ D.mp → W4.heap[b]? = W3.heap[b]? := fun b hb hne => G4.block b hb (by intro e; cases e; exact hne rfl)
  have hxs : ∀ y ∈ vs, ∀ e ∈ exps y, (e : Int) ∈ vs := fun y hy e he => h.wv.mem_exps hy he
  have hpre : vs <+: vs ++ [x] := List.prefix_append _ _
  have hpf : ∀ y ∈ vs, pf (vs ++ [x]) y = pf vs y := fun y hy => pf_ext hpre h.wv (hxs y hy)
  have hpfx : pf (vs ++ [x]) x = pf vs x := pf_ext hpre h.wv hx
  have cellk : ∀ b, (∃ c e z, W3.heap[b]? = some (Obj.cells c e z)) → W4.heap[b]? = W3.heap[b]? := fun b hb => by
    refine k4 b ?_ (cells_ne hb (p1.kept (mapk p1)))
    obtain ⟨c, e, z, hb⟩ := hb
    exact (Array.getElem?_eq_some_iff.1 hb).1
  have hget : ∀ {i : Nat} {y : Int}, (vs ++ [x])[i]? = some y → (vs[i]? = some y ∧ i < vs.length) ∨ (i = vs.length ∧ y = x) := fun {i y} hi => by
    rcases Nat.lt_or_ge i vs.length with hlt | hge
    · rw [List.getElem?_append_left hlt] at hi; exact .inl ⟨hi, hlt⟩
    · rw [List.getElem?_append_right hge] at hi
      obtain ⟨h0, h1⟩ := List.getElem?_eq_some_iff.1 hi
      have hi0 : i = vs.length := by simp at h0; omega
      simp [hi0] at h1
      exact .inr ⟨hi0, h1.symm⟩
  have hgo : ∀ {i : Nat} {y : Int}, vs[i]? = some y → (vs ++ [x])[i]? = some y := fun {i y} hi => get_ext hpre hi
  have hlast : (vs ++ [x])[vs.length]? = some x := by simp
  have hfll : D.fl.length = vs.length := by have := h.forms.1; omega
  have wsz : W.heap.size ≤ W4.heap.size := by omega
  refine ⟨W4, hrun, ?_, ?_⟩
  · exact {
      wv := h.wv.push hn hx
      obj := (cellk p ⟨_, _, _, hp3⟩).trans hp3
      inF := by have := h.inF; simp only [List.mem_append]; exact ⟨.inr this.1, .inr this.2.1, .inr this.2.2.1, .inr this.2.2.2⟩
      ne := h.ne
      forms := by
        rw [List.length_append]
        exact ownsRow_kept hfv2 fun b e => cellk b (ownsRow_cells hfv2 e)
      fblk := fun b e => by have e' : fv'.ownBlock = some b := e; rw [e']; simp
      rows := fun i y hi => by
        rcases hget hi with ⟨hi, hlt⟩ | ⟨rfl, rfl⟩
        · obtain ⟨u, r1, r2, r3⟩ := h.rows i y hi
          refine ⟨u, ?_, ?_, fun b e => by simp only [List.mem_append]; exact .inr (r3 b e)⟩
          · show (D.fl ++ [v])[i]? = _
            rw [List.getElem?_append_left (by omega)]; exact r1
          · rw [hpf y (List.mem_of_getElem? hi)]
            exact ownsRow_kept (rowk r2) fun b e => cellk b (ownsRow_cells (rowk r2) e)
        · refine ⟨v, ?_, ?_, fun b e => by rw [e]; simp⟩
          · show (D.fl ++ [v])[vs.length]? = _
            rw [List.getElem?_append_right (by omega)]; simp [hfll]
          · rw [hpfx]
            exact ownsRow_kept (rowk hv) fun b e => cellk b (ownsRow_cells (rowk hv) e)
      plc := by
        refine ⟨_, M4, fun k u => ?_⟩
        unfold updF
        by_cases hk : k = .string ⟨(kb (pf vs x)).toArray⟩
        · rw [if_pos hk]
          constructor
          · intro e; cases e
            exact ⟨vs.length, x, hlast, by rw [hpfx]; exact hk, rfl⟩
          · rintro ⟨i, y, hi, e1, rfl⟩
            rcases hget hi with ⟨hi, hlt⟩ | ⟨rfl, rfl⟩
            · exfalso
              rw [hpf y (List.mem_of_getElem? hi)] at e1
              rw [hk] at e1
              have e2 : kb (pf vs x) = kb (pf vs y) := by simpa using e1
              have e3 := kb_inj (pf_places hvl hx) (pf_places hvl (hxs y (List.mem_of_getElem? hi))) e2
              have e4 := pf_inj h.wv hx (hxs y (List.mem_of_getElem? hi)) e3
              subst e4
              exact hn (List.mem_of_getElem? hi)
            · rfl
        · rw [if_neg hk, p2]
          constructor
          · rintro ⟨i, y, hi, rfl, rfl⟩
            exact ⟨i, y, hgo hi, by rw [hpf y (List.mem_of_getElem? hi)], rfl⟩
          · rintro ⟨i, y, hi, e1, rfl⟩
            rcases hget hi with ⟨hi, hlt⟩ | ⟨rfl, rfl⟩
            · exact ⟨i, y, hi, by rw [← hpf y (List.mem_of_getElem? hi)]; exact e1, rfl⟩
            · exact absurd (by rw [← hpfx]; exact e1) hk
      grt := by
        refine ⟨fg, (g1.kept (mapk g1)).kept (k4 _ (g1.kept (mapk g1)).lt (by exact h.ne.1.symm)), fun k u hk => ?_, fun e he => ?_⟩
        · obtain ⟨i, j, e, a1, a2, a3⟩ := g2 k u hk
          exact ⟨i, j, e, hgo a1, hgo a2, a3⟩
        · obtain ⟨i, a1, a2⟩ := g3 e he
          exact ⟨i, hgo a1, a2⟩
      ord := by
        refine ⟨fo, (o1.kept (mapk o1)).kept (k4 _ (o1.kept (mapk o1)).lt (by exact h.ne.2.1.symm)), fun k u hk => ?_⟩
        obtain ⟨a, b, y, z, a1, a2, a3⟩ := o2 k u hk
        exact ⟨a, b, y, z, hgo a1, hgo a2, a3⟩
      gnd := h.gnd
      cov := h.cov
      len := by have := h.len; simp; omega
      bnd := hm
      blt := fun b hb => by
        simp only [List.mem_append, Option.mem_toList] at hb
        rcases hb with (hb | hb) | hb
        · have := ownsRow_lt hfv2 hb; omega
        · have := ownsRow_lt hv hb; omega
        · have := h.blt b hb; omega }
  · refine ⟨G4.os.trans e1, G4.tape.trans e2, G4.output.trans e3, wsz, fun b hb hnF => ?_⟩
    rw [k4 b (by omega) (fun e => hnF (e ▸ h.inF.2.1))]
    exact k2 b hb (fun e => hnF (e ▸ h.inF.1)) (fun e => hnF (h.fblk b e.symm))
end
end Sr
/- The walk of world.id. -/
namespace Sr
open Go Go.Proofs Go.RowKit Go.Maps Go.WideMaps

theorem heap_last2 (w : World) (a b : Obj) : ((w.alloc a).alloc b).heap[w.heap.size + 1]? = some b := by have := heap_last (w.alloc a) b; rwa [size_alloc] at this
theorem u8z (n : Nat) : (((UInt8.ofNat n).toNat : Nat) : Int) = (n : Int) % 256 := by simp
theorem kb1_cells (s : Bool) (n : Nat) (c : Int) (hc : c = if s then 1 else 0) : (#[Value.int .u8 c, .int .u8 ((n : Int) / 16777216 % 256), .int .u8 ((n : Int) / 65536 % 256), .int .u8 ((n : Int) / 256 % 256), .int .u8 ((n : Int) % 256)]).toList = (kb1 (s, n)).map fun b => .int .u8 (b.toNat : Nat) := by
  simp only [kb1, List.map_cons, List.map_nil, u8z]
  subst hc
  cases s <;> simp
theorem take_succ {α : Type} {l : List α} {k : Nat} {x : α} (h : l[k]? = some x) : l.take (k + 1) = l.take k ++ [x] := by
  rw [List.take_add_one, h]; rfl
theorem kb_append (a b : List PT) : kb (a ++ b) = kb a ++ kb b := by simp [kb]

theorem WO.weaken {C : List Nat} {W : World} {p : Nat} {F : List Nat} {D : WD} {vs : List Int} {gk : List Nat} {m m' : Nat} (h : WO C W p F D vs gk m) (hm : vs.length ≤ m' + gk.length) (hb : m' + C.length ≤ 2147483648) : WO C W p F D vs gk m' :=
  { h with len := hm, bnd := hb }

/-- what a call leaves that puts numbers into the world -/
structure Put (C : List Nat) (W W' : World) (p : Nat) (F F' : List Nat) (D' : WD) (vs' : List Int) (gk' : List Nat) (m' : Nat) (may : Nat → Prop) : Prop where
  wo : WO C W' p F' D' vs' gk' m'
  fr : Fr F W W'
  sub : ∀ b ∈ F', b ∈ F ∨ W.heap.size ≤ b ∨ may b

set_option maxHeartbeats 4000000 in
set_option maxRecDepth 100000 in
theorem id_calls {C : List Nat} {W : World} {p : Nat} {F : List Nat} {D : WD} {vs : List Int} {gks : List Nat} {m : Nat} (H : Hid (WO C W p F D vs gks m)) (v : Value) (x : Int) (hx : ∀ e ∈ exps x, (e : Int) ∈ vs) (hl0 : TRow W v (pf vs x)) (hm : m + 1 + C.length ≤ 2147483648) :
    Calls Tryz.prog 99 #[.pointer (some ⟨p, 0, none⟩), v] W fun e W' => ∃ (F' : List Nat) (D' : WD), e = .returned (.int .i64 ((putIn vs x).idxOf x : Nat)) ∧ Hid (Put C W W' p F F' D' (putIn vs x) gks (m + 1) (fun b => v.ownBlock = some b)) := by
  have hvl := H.out.vlen
  have hlen : (pf vs x).length ≤ 4294967296 := by have := pf_len hvl hx; omega
  have HP : Hid (∀ e ∈ exps x, (e : Int) ∈ vs) := hx
  have HM : Hid (m + 1 + C.length ≤ 2147483648) := hm
  clear hx hm hvl
  obtain ⟨l, hlE⟩ : ∃ l, l = pf vs x := ⟨_, rfl⟩
  rw [← hlE] at hl0 hlen
  have HE : Hid (l = pf vs x) := hlE
  clear hlE
  have Hl : Hid (TRow W v l) := hl0
  have hl := hl0
  clear hl0
  obtain ⟨va, ca, rfl, _, _⟩ := hl.shape
  obtain ⟨N, hN⟩ : ∃ N, N = 5 * l.length := ⟨_, rfl⟩
  have hC1 : 5 * (l.length : Int) = (N : Int) := by omega
  have hw5 : IntKind.i64.wrap (N : Int) = (N : Int) := IntWalk.i64_in _ (by omega)
  have hb4 : N ≤ 1099511627776 := by omega
  have HN : Hid (N = 5 * l.length) := hN
  clear hN
  clear hl
  go_enter Tryz.func99, Tryz.ntmps99
  go_wp2_with (at_make; go_loud (refine make_B rfl _ _ rfl N rfl _ rfl rfl hb4 ?_); intro w1 hown1 hg1)
  have B0 : Hid (Below W.heap.size W w1) := (Below.refl W.heap.size W).grown hg1 (Nat.le_refl _) (fun k hk => by cases hk)
  have K0 : Hid (BRow w1 (.slice (some ⟨W.heap.size, 0, none⟩) 0 N) []) := hown1
  clear hown1 hg1
  go_loopg [5, 17] l.length (fun g1 vx vi wr => ∃ (k : Nat) (vb : Value), vx = vb ∧ vi = .int .i64 k ∧ k ≤ l.length ∧ l.length - k ≤ g1 ∧ Hid (BRow wr vb (kb (l.take k))) ∧ Hid (Below W.heap.size W wr) ∧ Hid (∀ b, vb.ownBlock = some b → W.heap.size ≤ b))
  case atStart => exact ⟨0, _, rfl, rfl, by omega, by omega, K0, B0, fun b hb => by cases hb; exact Nat.le_refl _⟩
  case round =>
    clear B0 K0
    obtain ⟨k, vb, rfl, rfl, hkl, hg, HK, HB, HO⟩ := hrel
    by_cases hk : k < l.length
    · have hkz : (k : Int) < (l.length : Int) := by omega
      have hk0 : (0 : Int) ≤ (k : Int) := Int.natCast_nonneg k
      have hkw : IntKind.i64.wrap ((k : Int) + 1) = (k : Int) + 1 := IntWalk.i64_in _ (by omega)
      obtain ⟨_, _, ea, _, sa⟩ := TRow.shape (ownsRow_below Hl.out HB.out)
      cases ea
      obtain ⟨⟨sx, ax⟩, hx⟩ : ∃ x, l[k]? = some x := ⟨_, List.getElem?_eq_getElem hk⟩
      obtain ⟨ga, rfl, cx0, cx1⟩ := sa k _ hx
      have Hx : Hid _ := hx
      dsimp only at cx0 cx1
      have la0 : ga < wr.heap.size := cell_lt cx0
      have la1 : ga ≠ wr.heap.size := by omega
      have la2 : ga ≠ wr.heap.size + 1 := by omega
      clear sa hx
      have hbl : (kb (l.take k)).length + 5 ≤ 1099511627776 := by rw [kb_len, List.length_take]; omega
      have hsz := HB.out.size
      cases sx
      ·
        have HK1 : Hid (∀ a b, BRow ((wr.alloc a).alloc b) u5 (kb (l.take k))) := fun a b => World.ownsRow.alloc (World.ownsRow.alloc HK.out a) b
        have HB1 : Hid (∀ a b, Below W.heap.size W ((wr.alloc a).alloc b)) := fun a b => (HB.out.alloc hsz a).alloc (by simp; omega) b
        clear HK HB
        go_wp2_with (at_builtin; go_loud (refine app_B rfl _ _ rfl u5 (kb (l.take k)) rfl (HK1.out _ _) _ 5 (kb1 (false, ax)) rfl rfl _ (kb1_cells false ax _ rfl) (heap_last2 _ _ _) hbl ?_); intro v' w3 K3 G3 A3)
        go_roundg (l.length - (k + 1))
        case measure => omega
        case rel =>
          refine ⟨k + 1, v', rfl, by go_num, by omega, by omega, ?_, ?_, ?_⟩
          · show BRow _ _ _
            rw [take_succ Hx.out, kb_append]; exact K3
          · exact (HB1.out _ _).grown G3 (by simp; omega) (fun b hb => HO.out b hb)
          · show ∀ b, _
            intro b hb
            rcases A3 with A3 | A3
            · exact HO.out b (A3 ▸ hb)
            · rw [A3] at hb; cases hb; simp; omega
      ·
        have HK1 : Hid (∀ a b, BRow ((wr.alloc a).alloc b) u5 (kb (l.take k))) := fun a b => World.ownsRow.alloc (World.ownsRow.alloc HK.out a) b
        have HB1 : Hid (∀ a b, Below W.heap.size W ((wr.alloc a).alloc b)) := fun a b => (HB.out.alloc hsz a).alloc (by simp; omega) b
        clear HK HB
        go_wp2_with (at_builtin; go_loud (refine app_B rfl _ _ rfl u5 (kb (l.take k)) rfl (HK1.out _ _) _ 5 (kb1 (true, ax)) rfl rfl _ (kb1_cells true ax _ rfl) (heap_last2 _ _ _) hbl ?_); intro v' w3 K3 G3 A3)
        go_roundg (l.length - (k + 1))
        case measure => omega
        case rel =>
          refine ⟨k + 1, v', rfl, by go_num, by omega, by omega, ?_, ?_, ?_⟩
          · show BRow _ _ _
            rw [take_succ Hx.out, kb_append]; exact K3
          · exact (HB1.out _ _).grown G3 (by simp; omega) (fun b hb => HO.out b hb)
          · show ∀ b, _
            intro b hb
            rcases A3 with A3 | A3
            · exact HO.out b (A3 ▸ hb)
            · rw [A3] at hb; cases hb; simp; omega
    · have hkz : ¬ ((k : Int) < (l.length : Int)) := by omega
      have HX : Hid (WO C wr p F D vs gks m) := H.out.below HB.out
      have HR : Hid (TRow wr (.slice va l.length ca) l) := ownsRow_below Hl.out HB.out
      have HF : Hid (Fr F W wr) := Fr.of_below HB.out
      have HK2 : Hid (BRow wr u5 (kb (pf vs x))) := by
        have := HK.out
        rw [List.take_of_length_le (by omega), HE.out] at this
        exact this
      have hc1 := HX.out.c1
      have hcv : (Go.convert 40 9 u5).run Tryz.prog wr.drew = .ok (.string ⟨(kb (pf vs x)).toArray⟩) wr.drew := conv_B HK2.out fun _ _ => rfl
      clear HK HB hkl hg
      rcases HX.out.lookPlc HP.out with ⟨hn, HL⟩ | ⟨hn, HL⟩
      · have hlk := HL wr.drew rfl
        clear HL
        go_wp2_with fail
        go_region_held3 (fun w' => w'.cell? ⟨p, 1, none⟩ = some (.map (some D.mp)) ∧ (Go.convert 40 9 u5).run Tryz.prog w' = .ok (.string ⟨(kb (pf vs x)).toArray⟩) w' ∧ (Instr.lookup 121 (.map (some D.mp)) (.string ⟨(kb (pf vs x)).toArray⟩) true).run Tryz.prog w' = .ok (.tuple #[.int .i64 0, .bool false]) w')
          (exact ⟨hc1, hcv, hlk⟩) (fail)
        clear hcv hlk
        obtain ⟨g, cap, hfv, hgF, _⟩ := HX.out.formAt
        have hc0 : wr.cell? ⟨p, 0, none⟩ = some (.slice (some ⟨g, 0, none⟩) vs.length cap) := by rw [← hfv]; exact HX.out.c0
        have HO2 : Hid (∀ o, ((wr.alloc o).drew).ownsRow 0 111 1 (.slice (some ⟨g, 0, none⟩) vs.length cap) vs.length D.fl) := fun o => by
          rw [← hfv]; exact World.ownsRow.alloc HX.out.forms o
        have hvl : vs.length + 1 ≤ 1099511627776 := by have := HX.out.vlen; omega
        have hpg : Hid (some p ≠ (Value.slice (some ⟨g, 0, none⟩) vs.length cap).ownBlock) := by
          intro e
          rw [← hfv] at e
          obtain ⟨c, hc⟩ := row_type HX.out.forms e.symm
          exact type_ne HX.out.obj hc (by decide) rfl
        go_wp2_with (at_builtin; go_loud (refine app_F1 rfl _ _ rfl (.slice (some ⟨g, 0, none⟩) vs.length cap) vs.length D.fl rfl (HO2.out _) wr.heap.size (.slice va l.length ca) rfl rfl (heap_last _ _) hvl ?_); intro v' w3 O3 G3 N3 A3
                     have hp3 : w3.heap[p]? = some (.cells #[D.fv, .map (some D.mp), .map (some D.mg), .map (some D.mo)] 125 (0, 0)) := (G3.block p (by have := HX.out.blt p HX.out.inF.1; simp; omega) hpg.out).trans ((heap_old wr _ (HX.out.blt p HX.out.inF.1)).trans HX.out.obj)
                     have q0 : w3.cell? ⟨p, 0, none⟩ = some D.fv := by rw [cell_of hp3]; rfl
                     have f0 := free_of hp3 0
                     obtain ⟨g3, cap3, rfl, _, _⟩ := O3.form (Nat.succ_pos _))
        obtain ⟨W4, hrun, HW4, HF4⟩ := WO.pushed (HX.out.alloc (.cells #[.slice va l.length ca] 111)).drew hn HP.out HM.out (v := .slice va l.length ca) (fv' := .slice (some ⟨g3, 0, none⟩) (vs.length + 1) cap3) (W2 := w3)
          (by rw [← HE.out]; exact World.ownsRow.alloc HR.out _) O3 (by rw [hfv]; exact G3)
        have hc1' : (w3.setCell ⟨p, 0, none⟩ (.slice (some ⟨g3, 0, none⟩) (vs.length + 1) cap3)).drew.cell? ⟨p, 1, none⟩ = some (.map (some D.mp)) := by
          have := heap_setCell_same w3 p 0 _ 125 (.slice (some ⟨g3, 0, none⟩) (vs.length + 1) cap3) hp3
          exact (cell_of (W := (w3.setCell ⟨p, 0, none⟩ (.slice (some ⟨g3, 0, none⟩) (vs.length + 1) cap3)).drew) this 1).trans rfl
        have hcv' : (Go.convert 40 9 u5).run Tryz.prog (w3.setCell ⟨p, 0, none⟩ (.slice (some ⟨g3, 0, none⟩) (vs.length + 1) cap3)).drew = .ok (.string ⟨(kb (pf vs x)).toArray⟩) (w3.setCell ⟨p, 0, none⟩ (.slice (some ⟨g3, 0, none⟩) (vs.length + 1) cap3)).drew := conv_B HK2.out fun b hb => by
          obtain ⟨c, hc⟩ := row_type HK2.out hb
          obtain ⟨c2, hc2⟩ := row_type HX.out.forms (b := g) (by rw [hfv]; rfl)
          have hlt := ownsRow_lt HK2.out hb
          refine (RowKit.Below.heap_setCell _ _ _ _ (type_ne hc HX.out.obj (by decide))).trans ((G3.block b (by simp; omega) ?_).trans (heap_old wr _ hlt))
          intro e
          have e' : b = g := by simpa [Value.ownBlock] using e
          exact type_ne hc hc2 (by decide) e'
        have HQ : Hid (Put C W W4 p F ([g3] ++ (Value.slice va l.length ca).ownBlock.toList ++ F) ⟨.slice (some ⟨g3, 0, none⟩) (vs.length + 1) cap3, D.mp, D.mg, D.mo, D.fl ++ [.slice va l.length ca]⟩ (putIn vs x) gks (m + 1) (fun b => (Value.slice va l.length ca).ownBlock = some b)) := by
          have e1 : putIn vs x = vs ++ [x] := by unfold putIn; rw [if_neg hn]
          rw [e1]
          refine ⟨HW4, Fr.pre (HF.out.alloc _).drew HF4, fun b hb => ?_⟩
          simp only [List.mem_append, List.mem_singleton, Option.mem_toList] at hb
          rcases hb with (rfl | hb) | hb
          · rcases A3 with A3 | A3
            · have : b = g := by simpa [Value.ownBlock] using A3
              exact .inl (this ▸ hgF)
            · have h1 : b = wr.heap.size + 1 := by simpa [Value.ownBlock] using A3
              have h2 := HF.out.size
              exact .inr (.inl (by omega))
          · exact .inr (.inr hb)
          · exact .inl hb
        have HI : Hid ((putIn vs x).idxOf x = vs.length) := by
          have e1 : putIn vs x = vs ++ [x] := by unfold putIn; rw [if_neg hn]
          have := HQ.out.wo.wv
          rw [e1] at this ⊢
          exact this.idx_get (by simp)
        clear HW4 HF4 hc1 hc0 q0 f0 hp3 O3 G3 N3 A3
        go_region
        go_wp2_with fail
        refine bodyPost_ret (results_tmp rfl _ _ _) rfl ?_
        exact ⟨_, _, congrArg (fun (n : Nat) => Ending.returned (.int .i64 (n : Nat))) HI.out.symm, HQ⟩
      · have hlk := HL wr.drew rfl
        clear HL
        go_wp2_with fail
        go_region_held3 (fun w' => w'.cell? ⟨p, 1, none⟩ = some (.map (some D.mp)) ∧ (Go.convert 40 9 u5).run Tryz.prog w' = .ok (.string ⟨(kb (pf vs x)).toArray⟩) w' ∧ (Instr.lookup 121 (.map (some D.mp)) (.string ⟨(kb (pf vs x)).toArray⟩) true).run Tryz.prog w' = .ok (.tuple #[.int .i64 (vs.idxOf x : Nat), .bool true]) w')
          (exact ⟨hc1, hcv, hlk⟩) (fail)
        go_wp2_with fail
        refine bodyPost_ret (results_tmp rfl _ _ _) rfl ?_
        have e1 : putIn vs x = vs := by unfold putIn; rw [if_pos hn]
        refine ⟨F, D, by rw [e1]; rfl, ?_⟩
        rw [e1]
        have hb := HM.out
        have hle := HX.out.len
        exact ⟨HX.out.drew.weaken (by omega) hb, HF.out.drew, fun b hb => .inl hb⟩
end Sr
/- slices.Clone and slices.Reverse of a row of terms. -/
namespace Sr
open Go Go.Proofs Go.RowKit Go.Maps Go.WideMaps

set_option maxHeartbeats 1000000 in
set_option maxRecDepth 100000 in
theorem clone_calls {W : World} {v : Value} {l : List PT} (hl : TRow W v l) (hlen : l.length ≤ 1000000000000) :
    Calls Tryz.prog 98 #[v] W fun e W' => ∃ v', e = .returned v' ∧ Hid (TRow W' v' l) ∧ Hid (Below W.heap.size W W') ∧ Hid (∀ b, v'.ownBlock = some b → W.heap.size ≤ b) := by
  have Hl : Hid (TRow W v l) := hl
  obtain ⟨h1, ⟨rfl, h2⟩ | ⟨g, cap, cur, rfl, h3, h4, h5, h6, h7, h8⟩⟩ := hl
  · have Hn : Hid (l = []) := List.length_eq_zero_iff.1 h2
    have he : ∀ w : World, (binOp .eql 111 (.slice none 0 0) (.slice none 0 0)).run Tryz.prog w = .ok (.bool true) w := fun w => Lib.run_eql_slice_nil_nil w _ _ un111
    clear h1 h2
    go_enter Tryz.func98, Tryz.ntmps98
    go_wp2_with fail
    refine bodyPost_ret (results_tmp rfl _ _ _) rfl ?_
    exact ⟨_, rfl, Hl, Below.refl _ _, fun b hb => by cases hb⟩
  · have HN : Hid (∀ j u, (tcells l)[j]? = some u → (W.alloc (.cells #[] 154)).cell? ((⟨g, 0, none⟩ : Addr).add j) = some u) := fun j u hu =>
      (World.ownsRow.alloc Hl.out _).cells (g := g) rfl j u hu
    have HM : Hid (TRow (W.alloc (.cells #[] 154)) (.slice (some ⟨W.heap.size, 0, none⟩) 0 0) []) := World.ownsRow_made W #[] 0 (Nat.zero_le _) (Nat.zero_le _) rfl
    have hb : ([] : List PT).length + l.length ≤ 1099511627776 := by simp; omega
    have he : ∀ w : World, (binOp .eql 111 (.slice (some ⟨g, 0, none⟩) l.length cap) (.slice none 0 0)).run Tryz.prog w = .ok (.bool false) w := fun w => Lib.run_eql_slice_some_nil w _ _ _ un111
    clear h1 h3 h4 h5 h6 h7 h8
    go_enter Tryz.func98, Tryz.ntmps98
    go_wp2_with (at_builtin; go_loud (refine app_T rfl _ _ rfl (.slice (some ⟨W.heap.size, 0, none⟩) 0 0) [] rfl HM.out ⟨g, 0, none⟩ cap l.length l rfl rfl HN.out hb ?_); intro v' w3 K3 G3 N3 A3)
    refine bodyPost_ret (results_tmp rfl _ _ _) rfl ?_
    refine ⟨v', rfl, K3, ?_, ?_⟩
    · exact ((Below.refl _ _).alloc (Nat.le_refl _) _).grown G3 (by simp) (fun b hb => by cases hb; exact Nat.le_refl _)
    · intro b hb
      rcases A3 with A3 | A3
      · rw [A3] at hb; cases hb; exact Nat.le_refl _
      · rw [A3] at hb; cases hb; simp
end Sr
/- slices.Reverse of a row of terms. -/
namespace Sr
open Go Go.Proofs Go.RowKit Go.Maps Go.WideMaps

theorem tcells_set : ∀ (l : List PT) (i : Nat) (t : PT), tcells (l.set i t) = ((tcells l).set (i * 2) (.bool t.1)).set (i * 2 + 1) (.int .i64 (t.2 : Nat))
  | [], _, _ => rfl
  | s :: l, 0, t => rfl
  | s :: l, i + 1, t => by
    have e : tcells (s :: l) = .bool s.1 :: .int .i64 (s.2 : Nat) :: tcells l := rfl
    have e2 : tcells ((s :: l).set (i + 1) t) = .bool s.1 :: .int .i64 (s.2 : Nat) :: tcells (l.set i t) := rfl
    rw [e, e2, tcells_set l i t, show (i + 1) * 2 = i * 2 + 1 + 1 by omega]
    rfl

/-- a term is stored in a row -/
theorem setT {W : World} {g n cap i : Nat} {l : List PT} (t : PT) (h : W.ownsRow 0 154 2 (.slice (some ⟨g, 0, none⟩) n cap) n (tcells l)) :
    ((W.setCell ⟨g, i * 2, none⟩ (.bool t.1)).setCell ⟨g, i * 2 + 1, none⟩ (.int .i64 (t.2 : Nat))).ownsRow 0 154 2 (.slice (some ⟨g, 0, none⟩) n cap) n (tcells (l.set i t)) := by
  obtain ⟨h1, ⟨h2, _⟩ | ⟨g', cap', cur, hv, _, h4, h5, h6, h7, h8⟩⟩ := h
  · cases h2
  · cases hv
    have k1 := heap_setCell_same W g (i * 2) cur 154 (.bool t.1) h4
    have k2 := heap_setCell_same _ g (i * 2 + 1) _ 154 (.int .i64 (t.2 : Nat)) k1
    refine ⟨?_, .inr ⟨g, cap, _, rfl, Nat.zero_le _, k2, h5, h6, by simp [h7], ?_⟩⟩
    · rw [tcells_set]; simp [h1]
    · rw [tcells_set, Array.toList_setIfInBounds, Array.toList_setIfInBounds, List.take_set, List.take_set, h8]
theorem grown_set {W W' : World} {row : Option Nat} {g o : Nat} (v : Value) (h : W.grownBy W' row) (hr : row = some g) : W.grownBy (W'.setCell ⟨g, o, none⟩ v) row :=
  ⟨h.os, h.tape, h.output, by simpa using h.size, fun k hk hn => (RowKit.Below.heap_setCell _ _ _ _ (by rintro rfl; exact hn hr.symm)).trans (h.block k hk hn)⟩

theorem grown_drew {W W' : World} {row : Option Nat} (h : W.grownBy W' row) : W.grownBy W'.drew row := ⟨h.os, h.tape, h.output, h.size, h.block⟩

set_option maxHeartbeats 4000000 in
set_option maxRecDepth 100000 in
theorem reverse_calls {W : World} {v : Value} {l : List PT} (hl : TRow W v l) (hlen : l.length ≤ 1000000000000) :
    Calls Tryz.prog 100 #[v] W fun e W' => e = .returned (.tuple #[]) ∧ Hid (TRow W' v l.reverse) ∧ Hid (W.grownBy W' v.ownBlock) := by
  have Hl : Hid (TRow W v l) := hl
  obtain ⟨va, ca, rfl, _, _⟩ := hl.shape
  clear hl
  have hw1 : IntKind.i64.wrap ((l.length : Int) - 1) = (l.length : Int) - 1 := IntWalk.i64_in _ (by omega)
  go_enter Tryz.func100, Tryz.ntmps100
  go_wp2_with fail
  go_loopg [2, 3] (l.length) (fun g1 vi vj wr => ∃ (k : Nat) (z : Int) (lk : List PT), vi = .int .i64 k ∧ vj = .int .i64 z ∧ z + k + 1 ≤ l.length ∧ l.length ≤ z + k + 1 ∧ (k : Int) ≤ z + 1 ∧ l.length - k ≤ g1 ∧ Hid (wr.ownsRow 0 154 2 (.slice va l.length ca) l.length (tcells lk)) ∧ Hid (lk.length = l.length) ∧ Hid (W.grownBy wr (Value.slice va l.length ca).ownBlock) ∧
    Hid (∀ i, i < l.length → lk[i]? = if i < k ∨ l.length ≤ i + k then l[l.length - 1 - i]? else l[i]?))
  case atStart => exact ⟨0, (l.length : Int) - 1, l, rfl, rfl, by omega, by omega, by omega, by omega, Hl, rfl, World.grownBy.refl _ _, fun i hi => by show _ = _; rw [if_neg (by omega)]⟩
  case round =>
    obtain ⟨k, z, lk, rfl, rfl, hz1, hz2, hkz, hg, HT, HLn, HG, HE⟩ := hrel
    by_cases hk : (k : Int) < z
    · obtain ⟨j, rfl⟩ : ∃ j : Nat, z = j := ⟨z.toNat, by omega⟩
      have hj1 : (j : Int) < (l.length : Int) := by omega
      have hk1 : (k : Int) < (l.length : Int) := by omega
      have hj0 : (0 : Int) ≤ (j : Int) := by omega
      have hk0 : (0 : Int) ≤ (k : Int) := by omega
      obtain ⟨h1, ⟨h2, h3⟩ | ⟨g, cap, cur, hv, _, h4, h5, h6, h7, h8⟩⟩ := HT.out
      · omega
      · cases hv
        have hT := HT.out
        obtain ⟨tk, htk⟩ : ∃ t, lk[k]? = some t := ⟨_, List.getElem?_eq_getElem (by have := HLn.out; omega)⟩
        obtain ⟨tj, htj⟩ : ∃ t, lk[j]? = some t := ⟨_, List.getElem?_eq_getElem (by have := HLn.out; omega)⟩
        have hLn := HLn.out
        obtain ⟨e0, e1⟩ := tcells_get htk
        obtain ⟨d0, d1⟩ := tcells_get htj
        rw [← h8, List.getElem?_take_of_lt (by omega), Array.getElem?_toList, ← cell_of h4] at e0 e1 d0 d1
        have f0 := free_of h4 (k * 2)
        have f1 := free_of h4 (k * 2 + 1)
        have f2 := free_of h4 (j * 2)
        have f3 := free_of h4 (j * 2 + 1)
        have n1 : k * 2 ≠ j * 2 := by omega
        have n2 : k * 2 ≠ j * 2 + 1 := by omega
        have n3 : k * 2 + 1 ≠ j * 2 := by omega
        have n4 : k * 2 + 1 ≠ j * 2 + 1 := by omega
        have n5 : j * 2 ≠ k * 2 := by omega
        have n6 : j * 2 ≠ k * 2 + 1 := by omega
        have n7 : j * 2 + 1 ≠ k * 2 := by omega
        have n8 : j * 2 + 1 ≠ k * 2 + 1 := by omega
        clear h1 h4 h5 h6 h7 h8
        go_wp2_with fail
        go_region
        go_wp2_with fail
        go_roundg (l.length - (k + 1))
        case measure => omega
        case rel =>
          refine ⟨k + 1, (j : Int) - 1, (lk.set k tj).set j tk, by go_num, rfl, by omega, by omega, by omega, Nat.le_refl _, setT tk (setT tj hT), ?_, ?_, ?_⟩
          · show _ = _; simpa using hLn
          · exact grown_drew (grown_set (g := g) _ (grown_set (g := g) _ (grown_set (g := g) _ (grown_set (g := g) _ HG.out rfl) rfl) rfl) rfl)
          · intro i hi
            have hk' := HE.out k (by omega)
            have hj' := HE.out j (by omega)
            rw [htk, if_neg (by omega)] at hk'
            rw [htj, if_neg (by omega)] at hj'
            by_cases ij : i = j
            · subst ij
              rw [List.getElem?_set_self (by simp; omega), if_pos (by omega), hk']
              congr 1; omega
            · rw [List.getElem?_set_ne (Ne.symm ij)]
              by_cases ik : i = k
              · subst ik
                rw [List.getElem?_set_self (by omega), if_pos (by omega), hj']
                congr 1; omega
              · rw [List.getElem?_set_ne (Ne.symm ik), HE.out i hi]
                by_cases hc : i < k ∨ l.length ≤ i + k
                · rw [if_pos hc, if_pos (by omega)]
                · rw [if_neg hc, if_neg (by omega)]
    · go_wp2_with fail
      go_end0
      refine ⟨rfl, ?_, HG⟩
      have e : lk = l.reverse := by
        refine List.ext_getElem? fun i => ?_
        by_cases hi : i < l.length
        · rw [HE.out i hi, List.getElem?_reverse hi]
          split
          · rfl
          · congr 1; omega
        · rw [List.getElem?_eq_none (by have := HLn.out; omega), List.getElem?_eq_none (by simp; omega)]
      have := HT.out
      rw [e] at this
      show Sr.TRow _ _ _
      unfold TRow
      rw [List.length_reverse]
      exact this
end Sr
/- A number of package num in memory; self, parts. -/
namespace Sr
open Go Go.Proofs Go.RowKit Go.Maps Go.WideMaps

theorem row1_cell {W : World} {base e n : Nat} {v : Value} {xs : List Value} (h : W.ownsRow base e 1 v n xs) {k : Nat} {x : Value} (hk : xs[k]? = some x) : ∃ g cap, v = .slice (some ⟨g, 0, none⟩) n cap ∧ W.cell? ⟨g, k, none⟩ = some x := by
  have hlt := (List.getElem?_eq_some_iff.1 hk).1
  obtain ⟨h1, ⟨_, h2⟩ | ⟨g, cap, cur, h2, _, h4, h5, h6, h7, h8⟩⟩ := h
  · omega
  · refine ⟨g, cap, h2, ?_⟩
    rw [cell_of h4, ← Array.getElem?_toList, ← hk, ← h8, List.getElem?_take_of_lt (by omega)]
/-- the number x at the value v -/
structure NB (w : World) (b : Nat) (pv sv : Value) (fl : List Value) (x : Int) : Prop where
  obj : w.heap[b]? = some (.cells #[pv, sv] 158 (0, 0))
  parts : w.ownsRow 0 111 1 pv (Sr.parts x).length fl
  rows : ∀ (i p : Nat), (Sr.parts x)[i]? = some p → ∃ u, fl[i]? = some u ∧ TRow w u (atPl (Sr.parts x) (p : Int))
  self : TRow w sv (atPl (Sr.parts x) x)
def IsN (w : World) (v : Value) (x : Int) : Prop := allowed x ∧ ((x = 0 ∧ v = .agg #[.pointer none]) ∨ (x ≠ 0 ∧ ∃ b pv sv fl, v = .agg #[.pointer (some ⟨b, 0, none⟩)] ∧ NB w b pv sv fl x))
theorem NB.below {w w' : World} {b : Nat} {pv sv : Value} {fl : List Value} {x : Int} (h : NB w b pv sv fl x) (hb : Below w.heap.size w w') : NB w' b pv sv fl x where
  obj := (hb.block b (Array.getElem?_eq_some_iff.1 h.obj).1).trans h.obj
  parts := ownsRow_below h.parts hb
  rows := fun i p hi => by obtain ⟨u, h1, h2⟩ := h.rows i p hi; exact ⟨u, h1, ownsRow_below h2 hb⟩
  self := ownsRow_below h.self hb
theorem IsN.below {w w' : World} {v : Value} {x : Int} (h : IsN w v x) (hb : Below w.heap.size w w') : IsN w' v x := by
  obtain ⟨h0, h1 | ⟨h1, b, pv, sv, fl, h2, h3⟩⟩ := h
  · exact ⟨h0, .inl h1⟩
  · exact ⟨h0, .inr ⟨h1, b, pv, sv, fl, h2, h3.below hb⟩⟩

set_option maxHeartbeats 1000000 in
set_option maxRecDepth 100000 in
theorem self_none (w : World) : Calls Tryz.prog 63 #[.agg #[.pointer none]] w fun e w' => e = .returned (.slice none 0 0) ∧ ∃ o, w' = w.alloc o := by
  go_enter Tryz.func63, Tryz.ntmps63
  go_wp2_with fail
  refine bodyPost_ret (results_tmp rfl _ _ _) rfl ?_
  exact ⟨rfl, _, rfl⟩
set_option maxHeartbeats 1000000 in
set_option maxRecDepth 100000 in
theorem self_some {w : World} {b : Nat} {pv sv : Value} {fl : List Value} {x : Int} (h : NB w b pv sv fl x) : Calls Tryz.prog 63 #[.agg #[.pointer (some ⟨b, 0, none⟩)]] w fun e w' => e = .returned sv ∧ ∃ o, w' = w.alloc o := by
  have c1 : w.cell? ⟨b, 1, none⟩ = some sv := by rw [cell_of h.obj]; rfl
  have hb : b < w.heap.size := (Array.getElem?_eq_some_iff.1 h.obj).1
  have hb2 : b ≠ w.heap.size := by omega
  obtain ⟨a, c, rfl, _, _⟩ := h.self.shape
  clear h
  go_enter Tryz.func63, Tryz.ntmps63
  go_wp2_with fail
  refine bodyPost_ret (results_tmp rfl _ _ _) rfl ?_
  exact ⟨rfl, _, rfl⟩

set_option maxHeartbeats 1000000 in
set_option maxRecDepth 100000 in
theorem parts_none (w : World) : Calls Tryz.prog 103 #[.agg #[.pointer none]] w fun e w' => e = .returned (.slice none 0 0) ∧ ∃ o, w' = w.alloc o := by
  go_enter Tryz.func103, Tryz.ntmps103
  go_wp2_with fail
  refine bodyPost_ret (results_tmp rfl _ _ _) rfl ?_
  exact ⟨rfl, _, rfl⟩
set_option maxHeartbeats 1000000 in
set_option maxRecDepth 100000 in
theorem parts_some {w : World} {b : Nat} {pv sv : Value} {fl : List Value} {x : Int} (h : NB w b pv sv fl x) : Calls Tryz.prog 103 #[.agg #[.pointer (some ⟨b, 0, none⟩)]] w fun e w' => e = .returned pv ∧ ∃ o, w' = w.alloc o := by
  have c1 : w.cell? ⟨b, 0, none⟩ = some pv := by rw [cell_of h.obj]; rfl
  have hb : b < w.heap.size := (Array.getElem?_eq_some_iff.1 h.obj).1
  have hb2 : b ≠ w.heap.size := by omega
  obtain ⟨a, c, rfl⟩ : ∃ a c, pv = .slice a (Sr.parts x).length c := by
    obtain ⟨_, ⟨rfl, h2⟩ | ⟨g, cap, cur, rfl, _⟩⟩ := h.parts
    · exact ⟨none, 0, by rw [h2]⟩
    · exact ⟨_, cap, rfl⟩
  clear h
  go_enter Tryz.func103, Tryz.ntmps103
  go_wp2_with fail
  refine bodyPost_ret (results_tmp rfl _ _ _) rfl ?_
  exact ⟨rfl, _, rfl⟩

/-- what the rows of a number are, also of zero -/
structure Rows (w : World) (v : Value) (x : Int) (pv sv : Value) (fl : List Value) : Prop where
  self : Calls Tryz.prog 63 #[v] w fun e w' => e = .returned sv ∧ ∃ o, w' = w.alloc o
  parts : Calls Tryz.prog 103 #[v] w fun e w' => e = .returned pv ∧ ∃ o, w' = w.alloc o
  prow : w.ownsRow 0 111 1 pv (Sr.parts x).length fl
  rows : ∀ (i p : Nat), (Sr.parts x)[i]? = some p → ∃ u, fl[i]? = some u ∧ TRow w u (atPl (Sr.parts x) (p : Int))
  srow : TRow w sv (atPl (Sr.parts x) x)
theorem parts_zero : Sr.parts 0 = [] := by
  cases h : Sr.parts 0 with
  | nil => rfl
  | cons p l =>
    exfalso
    have hp : IsPart 0 p := mem_parts.1 (by rw [h]; simp)
    have : ∀ {x : Int} {p : Nat}, IsPart x p → x = 0 → False := fun {x p} hh => by
      induction hh with
      | here he => intro e; subst e; simp [exps, form_zero] at he
      | step _ _ ih => exact ih
    exact this hp rfl
theorem IsN.get {w : World} {v : Value} {x : Int} (h : IsN w v x) : ∃ pv sv fl, Rows w v x pv sv fl := by
  obtain ⟨_, ⟨rfl, rfl⟩ | ⟨_, b, pv, sv, fl, rfl, h2⟩⟩ := h
  · refine ⟨.slice none 0 0, .slice none 0 0, [], self_none w, parts_none w, ?_, ?_, ?_⟩
    · rw [parts_zero]; exact ⟨rfl, .inl ⟨rfl, rfl⟩⟩
    · intro i p hi; rw [parts_zero] at hi; simp at hi
    · have : atPl (Sr.parts 0) 0 = [] := by simp [atPl, form_zero]
      rw [this]; exact ⟨rfl, .inl ⟨rfl, rfl⟩⟩
  · exact ⟨pv, sv, fl, self_some h2, parts_some h2, h2.parts, h2.rows, h2.self⟩
end Sr
/- world.take: a number is put into a world. (take$1 first) -/
namespace Sr
open Go Go.Proofs Go.RowKit Go.Maps Go.WideMaps

/-- one cell of a row of terms is stored: another place -/
theorem setP {W : World} {g n cap i : Nat} {l : List PT} {t : PT} (q : Nat) (hi : l[i]? = some t) (h : W.ownsRow 0 154 2 (.slice (some ⟨g, 0, none⟩) n cap) n (tcells l)) :
    (W.setCell ⟨g, i * 2 + 1, none⟩ (.int .i64 (q : Nat))).ownsRow 0 154 2 (.slice (some ⟨g, 0, none⟩) n cap) n (tcells (l.set i (t.1, q))) := by
  obtain ⟨h1, ⟨h2, _⟩ | ⟨g', cap', cur, hv, _, h4, h5, h6, h7, h8⟩⟩ := h
  · cases h2
  · cases hv
    have k2 := heap_setCell_same W g (i * 2 + 1) _ 154 (.int .i64 (q : Nat)) h4
    obtain ⟨e0, _⟩ := tcells_get hi
    have hs : (tcells l).set (i * 2) (.bool t.1) = tcells l := by
      refine List.ext_getElem? fun j => ?_
      by_cases hj : j = i * 2
      · subst hj
        rw [List.getElem?_set_self (List.getElem?_eq_some_iff.1 e0).1, e0]
      · rw [List.getElem?_set_ne (Ne.symm hj)]
    refine ⟨?_, .inr ⟨g, cap, _, rfl, Nat.zero_le _, k2, h5, h6, by simp [h7], ?_⟩⟩
    · rw [tcells_set]; simp [h1]
    · rw [tcells_set, Array.toList_setIfInBounds, List.take_set, h8, hs]

set_option maxHeartbeats 4000000 in
set_option maxRecDepth 100000 in
theorem take1_calls {C : List Nat} {W : World} {p : Nat} {F : List Nat} {D : WD} {vs : List Int} {gks : List Nat} {m : Nat} (H : Hid (WO C W p F D vs gks m)) {bp bw : Nat} {pv v : Value} {ds : List Nat} {l : List PT} (x : Int)
    (h1 : W.heap[bp]? = some (.cells #[pv] 80 (0, 0))) (h2 : W.heap[bw]? = some (.cells #[.pointer (some ⟨p, 0, none⟩)] 107 (0, 0))) (hp : IRow W pv ds) (hl : TRow W v l) (hx : ∀ e ∈ exps x, (e : Int) ∈ vs)
    (hd : ∀ t ∈ l, t.2 < ds.length) (he : l.map (fun t => (t.1, ds.getD t.2 0)) = pf vs x) (hm : m + 1 + C.length ≤ 2147483648) (hlen : l.length ≤ 1000000) :
    Calls Tryz.prog 102 #[v, .pointer (some ⟨bp, 0, none⟩), .pointer (some ⟨bw, 0, none⟩)] W fun e W' => ∃ (F' : List Nat) (D' : WD), e = .returned (.int .i64 ((putIn vs x).idxOf x : Nat)) ∧ Hid (Put C W W' p F F' D' (putIn vs x) gks (m + 1) (fun _ => False)) := by
  have HCl := clone_calls hl (by omega)
  have HP : Hid (IRow W pv ds) := hp
  have H1 : Hid (W.heap[bp]? = some (.cells #[pv] 80 (0, 0))) := h1
  have H2 : Hid (W.heap[bw]? = some (.cells #[.pointer (some ⟨p, 0, none⟩)] 107 (0, 0))) := h2
  have HD : Hid (∀ t ∈ l, t.2 < ds.length) := hd
  clear h1 h2 hp hd
  go_enter Tryz.func102, Tryz.ntmps102
  go_wp2_with fail
  refine HCl.mono ?_
  rintro y w1 ⟨v1, rfl, hr1, hb1, ho1⟩
  clear HCl
  obtain ⟨a1, c1, rfl, _, _⟩ := hr1.out.shape
  have K0 : Hid (w1.ownsRow 0 154 2 (.slice a1 l.length c1) l.length (tcells ((l.take 0).map (fun t => (t.1, ds.getD t.2 0)) ++ l.drop 0))) := hr1.out
  have HO : Hid (∀ b, (Value.slice a1 l.length c1).ownBlock = some b → W.heap.size ≤ b) := ho1
  clear hr1 ho1
  go_wp2_with fail
  go_loopg [10] l.length (fun g1 vi wr => ∃ k : Nat, vi = .int .i64 k ∧ k ≤ l.length ∧ l.length - k ≤ g1 ∧ Hid (wr.ownsRow 0 154 2 (.slice a1 l.length c1) l.length (tcells ((l.take k).map (fun t => (t.1, ds.getD t.2 0)) ++ l.drop k))) ∧ Hid (Below W.heap.size W wr))
  case atStart => exact ⟨0, rfl, by omega, by omega, K0, hb1⟩
  case round =>
    clear K0 hb1
    obtain ⟨k, rfl, hkl, hg, HK, HB⟩ := hrel
    by_cases hk : k < l.length
    · have hkz : (k : Int) < (l.length : Int) := by omega
      have hk0 : (0 : Int) ≤ (k : Int) := Int.natCast_nonneg k
      have hkw : IntKind.i64.wrap ((k : Int) + 1) = (k : Int) + 1 := IntWalk.i64_in _ (by omega)
      obtain ⟨t, ht⟩ : ∃ t, l[k]? = some t := ⟨_, List.getElem?_eq_getElem hk⟩
      have htd := HD.out t (List.mem_of_getElem? ht)
      have hlk : ((l.take k).map (fun t => (t.1, ds.getD t.2 0)) ++ l.drop k)[k]? = some t := by
        have e2 : ((l.take k).map (fun t => (t.1, ds.getD t.2 0))).length = k := by rw [List.length_map, List.length_take]; omega
        rw [List.getElem?_append_right (by omega), e2, Nat.sub_self, List.getElem?_drop, Nat.add_zero, ht]
      obtain ⟨q, hq⟩ : ∃ q, ds[t.2]? = some q := ⟨_, List.getElem?_eq_getElem htd⟩
      obtain ⟨gp, cp, rfl, cq⟩ := row1_cell (k := t.2) (x := .int .i64 (q : Nat)) (ownsRow_below HP.out HB.out) (by rw [List.getElem?_map, hq]; rfl)
      have hnx : Hid ((l.take (k + 1)).map (fun t => (t.1, ds.getD t.2 0)) ++ l.drop (k + 1) = ((l.take k).map (fun t => (t.1, ds.getD t.2 0)) ++ l.drop k).set k (t.1, q)) := by
        show _ = _
        have e1 : l.drop k = t :: l.drop (k + 1) := drop_of ht
        have e2 : ((l.take k).map (fun t => (t.1, ds.getD t.2 0))).length = k := by rw [List.length_map, List.length_take]; omega
        rw [take_succ ht, e1, List.map_append, List.append_assoc, List.set_append_right _ _ (by omega), e2, Nat.sub_self]
        simp [hq]
      obtain ⟨hh1, ⟨hh2, hh3⟩ | ⟨g, cap, cur, hv, _, h4, h5, h6, h7, h8⟩⟩ := HK.out
      · omega
      · cases hv
        obtain ⟨_, d1⟩ := tcells_get hlk
        rw [← h8, List.getElem?_take_of_lt (by omega), Array.getElem?_toList, ← cell_of h4] at d1
        have f1 := free_of h4 (k * 2 + 1)
        have cb : wr.cell? ⟨bp, 0, none⟩ = some (.slice (some ⟨gp, 0, none⟩) ds.length cp) := by
          have hb : bp < W.heap.size := (Array.getElem?_eq_some_iff.1 H1.out).1
          rw [cell_of ((HB.out.block bp hb).trans H1.out)]; rfl
        have t0 : (0 : Int) ≤ (t.2 : Int) := Int.natCast_nonneg _
        have t1 : (t.2 : Int) < (ds.length : Int) := by omega
        have HS : Hid _ := setP q hlk HK.out
        have HB2 : Hid (Below W.heap.size W (wr.setCell ⟨g, k * 2 + 1, none⟩ (.int .i64 (q : Nat))).drew) := ⟨HB.out.os, HB.out.tape, HB.out.output, by have := HB.out.size; simpa using this, fun b hb => (RowKit.Below.heap_setCell _ _ _ _ (show b ≠ g by have := HO.out g rfl; omega)).trans (HB.out.block b hb)⟩
        clear hh1 h4 h5 h6 h7 h8 hq ht hlk
        go_wp2_with fail
        go_region
        go_wp2_with fail
        go_roundg (l.length - (k + 1))
        case measure => omega
        case rel => exact ⟨k + 1, by go_num, by omega, by omega, by show World.ownsRow _ _ _ _ _ _ _; rw [hnx.out]; exact HS.out, HB2⟩
    · have hkz : ¬ ((k : Int) < (l.length : Int)) := by omega
      have HR : Hid (TRow wr (.slice a1 l.length c1) (pf vs x)) := by
        have h := HK.out
        rw [List.take_of_length_le (by omega), List.drop_eq_nil_of_le (by omega), List.append_nil, he] at h
        have hlp : (pf vs x).length = l.length := by rw [← he, List.length_map]
        show TRow _ _ _
        unfold TRow; rw [hlp]; exact h
      have cw : wr.cell? ⟨bw, 0, none⟩ = some (.pointer (some ⟨p, 0, none⟩)) := by
        have hb : bw < W.heap.size := (Array.getElem?_eq_some_iff.1 H2.out).1
        rw [cell_of ((HB.out.block bw hb).trans H2.out)]; rfl
      have HW : Hid (WO C wr p F D vs gks m) := H.out.below HB.out
      have HI := fun w h hr => id_calls (C := C) (W := w) (p := p) (F := F) (D := D) (vs := vs) (gks := gks) (m := m) h (.slice a1 l.length c1) x hx hr hm
      go_wp2_with fail
      refine (HI _ HW HR.out).mono ?_
      rintro y w9 ⟨F', D', rfl, hput⟩
      go_wp2_with fail
      refine bodyPost_ret (results_tmp rfl _ _ _) rfl ?_
      refine ⟨F', D', rfl, hput.out.wo, Fr.pre (Fr.of_below HB.out) hput.out.fr, fun b hb => ?_⟩
      rcases hput.out.sub b hb with q | q | q
      · exact .inl q
      · exact .inr (.inl (Nat.le_trans HB.out.size q))
      · exact .inr (.inl (HO.out b q))
end Sr
/- append as a step of a region that draws its order; a world above another one. -/
namespace Sr
open Go Go.Proofs Go.RowKit Go.Maps Go.WideMaps

section
variable {ops : Array Oper} {o : Oper} {a : Act} {Q : Exit → Act → World → Prop} {K : Act → World → Prop} {W : World} {E : Prop}

theorem step_I1 (hgd : o.guard = none) (s x : Operand) (ho : o.op = .call { callee := .builtin .append, args := #[s, x], argTypes := #[80, 80] })
    (v : Value) (l : List Nat) (hs : a.eval s = v) (hown : IRow W v l) (B : Nat) (t : Nat) (hx : a.eval x = .slice (some ⟨B, 0, none⟩) 1 1)
    (hB : W.heap[B]? = some (.cells #[.int .i64 (t : Nat)] 3 (0, 0))) (hb : l.length + 1 ≤ 1099511627776) (H : Nat) (hH : W.heap.size = H)
    (h : ∀ g cap w', IRow w' (.slice (some ⟨g, 0, none⟩) (l.length + 1) cap) (l ++ [t]) → W.grownBy w' v.ownBlock → (v.ownBlock = some g ∨ g = H) → g < w'.heap.size → K (a.put o.dst (.slice (some ⟨g, 0, none⟩) (l.length + 1) cap)) w') :
    if Region.wanted o (yielded ops a.tmps) = true then Oper.wp Tryz.prog o a W K Q else E := by
  obtain ⟨i, hi, hz0, hz1, hz2⟩ := info_parts info3
  refine step_append_lies W hgd s x 80 ho 0 3 i _ 1 8 un80 hi hz0 hz1 hz2 rfl (by decide) v l.length _ hs hown ⟨B, 0, none⟩ 1 1 [.int .i64 (t : Nat)] hx rfl (fun j u hu => World.news_of_block hB j u hu) (by simp; rfl) (by omega) (by simp only [maxLen]; omega) (by omega) (Nat.zero_le _) H hH ?_
  intro g cap w' k1 k2 k3 k4
  refine h g cap w' ?_ k2 k3 k4
  unfold IRow
  rw [List.length_append, List.map_append]; exact k1

theorem step_F1 (hgd : o.guard = none) (s x : Operand) (ho : o.op = .call { callee := .builtin .append, args := #[s, x], argTypes := #[120, 120] })
    (v : Value) (n : Nat) (l : List Value) (hs : a.eval s = v) (hown : W.ownsRow 0 111 1 v n l) (B : Nat) (t : Value) (h1 : t.oneCell' = true) (hx : a.eval x = .slice (some ⟨B, 0, none⟩) 1 1)
    (hB : W.heap[B]? = some (.cells #[t] 111 (0, 0))) (hb : n + 1 ≤ 1099511627776) (H : Nat) (hH : W.heap.size = H)
    (h : ∀ g cap w', w'.ownsRow 0 111 1 (.slice (some ⟨g, 0, none⟩) (n + 1) cap) (n + 1) (l ++ [t]) → W.grownBy w' v.ownBlock → (v.ownBlock = some g ∨ g = H) → g < w'.heap.size → K (a.put o.dst (.slice (some ⟨g, 0, none⟩) (n + 1) cap)) w') :
    if Region.wanted o (yielded ops a.tmps) = true then Oper.wp Tryz.prog o a W K Q else E := by
  obtain ⟨i, hi, hz0, hz1, hz2⟩ := info_parts info111
  refine step_append_lies W hgd s x 120 ho 0 111 i _ 1 24 un120 hi hz0 hz1 hz2 rfl (by decide) v n _ hs hown ⟨B, 0, none⟩ 1 1 [t] hx rfl (fun j u hu => World.news_of_block hB j u hu) (by simpa using h1) (by omega) (by simp only [maxLen]; omega) (by omega) (Nat.zero_le _) H hH ?_
  intro g cap w' k1 k2 k3 k4
  exact h g cap w' k1 k2 k3 k4
theorem app_I1L {rest : List Oper} (hgd : o.guard = none) (s x : Operand) (ho : o.op = .call { callee := .builtin .append, args := #[s, x], argTypes := #[80, 80] })
    (v : Value) (l : List Nat) (hs : a.eval s = v) (hown : IRow W v l) (B : Nat) (t : Nat) (hx : a.eval x = .slice (some ⟨B, 0, none⟩) 1 1)
    (hB : W.heap[B]? = some (.cells #[.int .i64 (t : Nat)] 3 (0, 0))) (hb : l.length + 1 ≤ 1099511627776) (H : Nat) (hH : W.heap.size = H)
    (h : ∀ g cap w', IRow w' (.slice (some ⟨g, 0, none⟩) (l.length + 1) cap) (l ++ [t]) → W.grownBy w' v.ownBlock → (v.ownBlock = some g ∨ g = H) → g < w'.heap.size → wpList Tryz.prog ops Q rest (a.put o.dst (.slice (some ⟨g, 0, none⟩) (l.length + 1) cap)) w') :
    wpList Tryz.prog ops Q (o :: rest) a W := by
  obtain ⟨i, hi, hz0, hz1, hz2⟩ := info_parts info3
  refine wpList_append_lies W hgd s x 80 ho 0 3 i _ 1 8 un80 hi hz0 hz1 hz2 rfl (by decide) v l.length _ hs hown ⟨B, 0, none⟩ 1 1 [.int .i64 (t : Nat)] hx rfl (fun j u hu => World.news_of_block hB j u hu) (by simp; rfl) (by omega) (by simp only [maxLen]; omega) (by omega) (Nat.zero_le _) H hH ?_
  intro g cap w' k1 k2 k3 k4
  refine h g cap w' ?_ k2 k3 k4
  unfold IRow
  rw [List.length_append, List.map_append]; exact k1
end

/-- a world (F: its blocks) that was made above W0, all of which is as it was -/
structure Wt (C : List Nat) (W0 W : World) (p : Nat) (F : List Nat) (D : WD) (vs : List Int) (gk : List Nat) (m : Nat) : Prop where
  wo : WO C W p F D vs gk m
  low : Below W0.heap.size W0 W
  hi : ∀ b ∈ F, W0.heap.size ≤ b

theorem fr_below {F : List Nat} {W0 W W' : World} (h : Below W0.heap.size W0 W) (hi : ∀ b ∈ F, W0.heap.size ≤ b) (hf : Fr F W W') : Below W0.heap.size W0 W' :=
  ⟨hf.os.trans h.os, hf.tape.trans h.tape, hf.output.trans h.output, Nat.le_trans h.size hf.size, fun b hb => (hf.block b (Nat.lt_of_lt_of_le hb h.size) (fun hm => by have := hi b hm; omega)).trans (h.block b hb)⟩

/-- the rows of a number, in all worlds above -/
theorem IsN.get' {w : World} {v : Value} {x : Int} (h : IsN w v x) : ∃ pv sv fl, ∀ w', Below w.heap.size w w' → Rows w' v x pv sv fl := by
  obtain ⟨h0, ⟨h1, rfl⟩ | ⟨h1, b, pv, sv, fl, rfl, h3⟩⟩ := h
  · subst h1
    refine ⟨.slice none 0 0, .slice none 0 0, [], fun w' _ => ⟨self_none w', parts_none w', ?_, ?_, ?_⟩⟩
    · rw [parts_zero]; exact ⟨rfl, .inl ⟨rfl, rfl⟩⟩
    · intro i p hi; rw [parts_zero] at hi; simp at hi
    · have : atPl (Sr.parts 0) 0 = [] := by simp [atPl, form_zero]
      rw [this]; exact ⟨rfl, .inl ⟨rfl, rfl⟩⟩
  · refine ⟨pv, sv, fl, fun w' hb => ?_⟩
    have h2 := h3.below hb
    exact ⟨self_some h2, parts_some h2, h2.parts, h2.rows, h2.self⟩
end Sr
/- world.take: a number is put into a world. -/
namespace Sr
open Go Go.Proofs Go.RowKit Go.Maps Go.WideMaps

/-- the state of the loop of take: b5 holds the places so far -/
structure TakeSt (C : List Nat) (w1 : World) (p : Nat) (F : List Nat) (vs : List Int) (gks : List Nat) (m : Nat) (x : Int) (b5 k : Nat) (F' : List Nat) (D' : WD) (vs' : List Int) (plv : Value) (wr : World) : Prop where
  wo : WO C wr p F' D' vs' gks (m + k)
  fr : Fr (b5 :: F) w1 wr
  sub : ∀ b ∈ F', b ∈ F ∨ w1.heap.size ≤ b
  pre : vs <+: vs'
  mem : ∀ q ∈ (Sr.parts x).take k, ((q : Nat) : Int) ∈ vs'
  box : wr.heap[b5]? = some (.cells #[plv] 80 (0, 0))
  row : IRow wr plv (((Sr.parts x).take k).map fun (q : Nat) => vs'.idxOf (q : Int))
  own : ∀ b, plv.ownBlock = some b → w1.heap.size ≤ b ∧ b ∉ F'

/-- the exponents of a part stand ahead of it -/
theorem parts_before {x : Int} {k q : Nat} (hk : (Sr.parts x)[k]? = some q) : ∀ e ∈ exps (q : Int), e ∈ (Sr.parts x).take k := by
  intro e he
  have hq : IsPart x q := mem_parts.1 (List.mem_of_getElem? hk)
  have hm : e ∈ Sr.parts x := mem_parts.2 (.step hq he)
  obtain ⟨i, hi⟩ := List.mem_iff_getElem?.1 hm
  have hlt : e < q := by have := exps_lt he; simpa using this
  have hik : i < k := by
    rcases Nat.lt_or_ge i k with h | h
    · exact h
    · exfalso
      obtain ⟨hil, hie⟩ := List.getElem?_eq_some_iff.1 hi
      obtain ⟨hkl, hke⟩ := List.getElem?_eq_some_iff.1 hk
      rcases Nat.lt_or_eq_of_le h with h | h
      · have := List.pairwise_iff_getElem.1 (parts_sorted x) k i hkl hil h
        omega
      · subst h; rw [hie] at hke; omega
  exact List.mem_iff_getElem?.2 ⟨i, by rw [List.getElem?_take_of_lt hik]; exact hi⟩

/-- the terms of a part (or of the number itself) with the places of the world -/
theorem at_places {x y : Int} {k : Nat} {vs : List Int} (hy : ∀ e ∈ exps y, e ∈ (Sr.parts x).take k) :
    (∀ t ∈ atPl (Sr.parts x) y, t.2 < (((Sr.parts x).take k).map fun (q : Nat) => vs.idxOf (q : Int)).length) ∧
    (atPl (Sr.parts x) y).map (fun t => (t.1, (((Sr.parts x).take k).map fun (q : Nat) => vs.idxOf (q : Int)).getD t.2 0)) = pf vs y := by
  have key : ∀ t ∈ form y, (Sr.parts x).idxOf t.2 < ((Sr.parts x).take k).length ∧ ((Sr.parts x).take k)[(Sr.parts x).idxOf t.2]? = some t.2 := by
    intro t ht
    have h1 := hy t.2 (mem_exps ht)
    have h2 : (Sr.parts x).idxOf t.2 = ((Sr.parts x).take k).idxOf t.2 := by
      conv => lhs; rw [← List.take_append_drop k (Sr.parts x)]
      rw [List.idxOf_append, if_pos h1]
    rw [h2]
    have h3 := List.idxOf_lt_length_of_mem h1
    refine ⟨h3, ?_⟩
    rw [List.getElem?_eq_getElem h3]; simp
  refine ⟨fun t ht => ?_, ?_⟩
  · obtain ⟨u, hu, rfl⟩ := List.mem_map.1 ht
    rw [List.length_map]; exact (key u hu).1
  · unfold atPl pf
    rw [List.map_map]
    refine List.map_congr_left fun u hu => ?_
    simp only [Function.comp]
    rw [List.getD_eq_getElem?_getD, List.getElem?_map, (key u hu).2]; rfl

theorem putIn_pf {vs : List Int} (hv : WV vs) {x : Int} (hx : ∀ e ∈ exps x, (e : Int) ∈ vs) {y : Int} (hy : (y : Int) ∈ vs) : (putIn vs x).idxOf y = vs.idxOf y := by
  have _ := hv; have _ := hx
  exact idx_ext (putIn_ext vs x) hy

theorem take_step {C : List Nat} {w1 wr w2 w3 : World} {p : Nat} {F F' F'' : List Nat} {D' D'' : WD} {vs vs' : List Int} {gks : List Nat} {m b5 k q g n1 cap : Nat} {x : Int} {plv : Value} {o : Obj} (S : TakeSt C w1 p F vs gks m x b5 k F' D' vs' plv wr)
    (hq : (Sr.parts x)[k]? = some q) (hput : Put C wr.drew w2 p F' F'' D'' (putIn vs' (q : Int)) gks (m + k + 1) (fun _ => False)) (hb5 : b5 < w1.heap.size) (hb5F : b5 ∉ F)
    (hI : IRow w3 (.slice (some ⟨g, 0, none⟩) n1 cap) ((((Sr.parts x).take k).map fun (q : Nat) => vs'.idxOf (q : Int)) ++ [(putIn vs' (q : Int)).idxOf (q : Int)])) (hg : (w2.alloc o).grownBy w3 plv.ownBlock) (hat : plv.ownBlock = some g ∨ g = w2.heap.size + 1) :
    TakeSt C w1 p F vs gks m x b5 (k + 1) F'' D'' (putIn vs' (q : Int)) (.slice (some ⟨g, 0, none⟩) n1 cap) (w3.setCell ⟨b5, 0, none⟩ (.slice (some ⟨g, 0, none⟩) n1 cap)) := by
  have hsz := S.fr.size
  have hs2 : wr.heap.size ≤ w2.heap.size := hput.fr.size
  have hs3 : w2.heap.size + 1 ≤ w3.heap.size := by have := hg.size; simpa using this
  have hb5F' : b5 ∉ F' := fun h => by rcases S.sub b5 h with h | h; exact hb5F h; omega
  have hF'' : ∀ b ∈ F'', b ∈ F' ∨ wr.heap.size ≤ b := fun b hb => by
    rcases hput.sub b hb with h | h | h
    · exact .inl h
    · exact .inr h
    · exact h.elim
  have hb5F'' : b5 ∉ F'' := fun h => by rcases hF'' b5 h with h | h; exact hb5F' h; omega
  have hown : ∀ b, plv.ownBlock = some b → b < wr.heap.size ∧ b ∉ F' := fun b e => ⟨ownsRow_lt S.row e, (S.own b e).2⟩
  have hne5 : plv.ownBlock ≠ some b5 := fun e => by
    obtain ⟨c, hc⟩ := row_type S.row e
    exact type_ne hc S.box (by decide) rfl
  -- a block that neither the row nor the box is
  have keep : ∀ b, b < w2.heap.size → plv.ownBlock ≠ some b → b ≠ b5 → (w3.setCell ⟨b5, 0, none⟩ (.slice (some ⟨g, 0, none⟩) n1 cap)).heap[b]? = w2.heap[b]? := fun b h1 h2 h3 =>
    (RowKit.Below.heap_setCell _ _ _ _ h3).trans ((hg.block b (by simp; omega) (fun e => h2 e.symm)).trans (heap_old _ _ h1))
  refine ⟨?_, ?_, ?_, S.pre.trans (putIn_ext _ _), ?_, ?_, ?_, ?_⟩
  · have := hput.wo.kept (W' := w3.setCell ⟨b5, 0, none⟩ (.slice (some ⟨g, 0, none⟩) n1 cap)) (fun b hb => keep b (hput.wo.blt b hb) (fun e => ?_) (fun e => hb5F'' (e ▸ hb)))
    · exact this
    · obtain ⟨h1, h2⟩ := hown b e
      rcases hF'' b hb with h | h
      · exact h2 h
      · omega
  · have hos : w3.os = w2.os := hg.os
    refine ⟨hos.trans (hput.fr.os.trans S.fr.os), (show w3.tape = w2.tape from hg.tape).trans (hput.fr.tape.trans S.fr.tape), (show w3.output = w2.output from hg.output).trans (hput.fr.output.trans S.fr.output), by simp; omega, fun b hb hn => ?_⟩
    have hbF' : b ∉ F' := fun h => by
      rcases S.sub b h with h | h
      · exact hn (List.mem_cons_of_mem _ h)
      · omega
    rw [keep b (by omega) (fun e => by have := (S.own b e).1; omega) (fun e => hn (by simp [e])), hput.fr.block b (by show b < wr.heap.size; omega) hbF']
    exact S.fr.block b hb hn
  · intro b hb
    rcases hF'' b hb with h | h
    · exact S.sub b h
    · exact .inr (by omega)
  · intro r hr
    rw [take_succ hq] at hr
    rcases List.mem_append.1 hr with h | h
    · exact mem_ext (putIn_ext _ _) (S.mem r h)
    · simp at h; subst h; exact putIn_mem _ _
  · have h1 : w3.heap[b5]? = some (.cells #[plv] 80 (0, 0)) := by
      rw [hg.block b5 (by simp; omega) (fun e => hne5 e.symm), heap_old _ _ (by omega), hput.fr.block b5 (by show b5 < wr.heap.size; omega) hb5F']
      exact S.box
    exact heap_setCell_same w3 b5 0 _ 80 _ h1
  · have e : ((Sr.parts x).take (k + 1)).map (fun (r : Nat) => (putIn vs' (q : Int)).idxOf (r : Int)) = (((Sr.parts x).take k).map fun (r : Nat) => vs'.idxOf (r : Int)) ++ [(putIn vs' (q : Int)).idxOf (q : Int)] := by
      rw [take_succ hq, List.map_append]
      congr 1
      exact List.map_congr_left fun r hr => idx_ext (putIn_ext _ _) (S.mem r hr)
    rw [e]
    exact ownsRow_kept hI fun b hb => RowKit.Below.heap_setCell _ _ _ _ (by
      show b ≠ b5
      intro e5
      have h5 : w3.heap[b5]? = some (.cells #[plv] 80 (0, 0)) := by
        rw [hg.block b5 (by simp; omega) (fun e => hne5 e.symm), heap_old _ _ (by omega), hput.fr.block b5 (by show b5 < wr.heap.size; omega) hb5F']
        exact S.box
      obtain ⟨c, hc⟩ := row_type hI hb
      exact type_ne hc h5 (by decide) e5)
  · intro b hb
    have hb' : b = g := by simpa [Value.ownBlock] using hb.symm
    subst hb'
    rcases hat with h | h
    · obtain ⟨h1, h2⟩ := hown b h
      refine ⟨(S.own b h).1, fun hm => ?_⟩
      rcases hF'' b hm with h' | h'
      · exact h2 h'
      · omega
    · refine ⟨by omega, fun hm => ?_⟩
      have := hput.wo.blt b hm
      omega

set_option maxHeartbeats 4000000 in
set_option maxRecDepth 100000 in
theorem take_calls {C : List Nat} {W0 W : World} {p : Nat} {F : List Nat} {D : WD} {vs : List Int} {gks : List Nat} {m : Nat} (H : Hid (Wt C W0 W p F D vs gks m)) {v : Value} {x : Int} (hx : IsN W0 v x) (hm : m + 2000 + C.length ≤ 2147483648) :
    Calls Tryz.prog 60 #[.pointer (some ⟨p, 0, none⟩), v] W fun e W' => ∃ (F' : List Nat) (D' : WD) (vs' : List Int), e = .returned (.int .i64 (vs'.idxOf x : Nat)) ∧ Hid (x ∈ vs') ∧ Hid (vs <+: vs') ∧ Hid (Wt C W0 W' p F' D' vs' gks (m + 2000)) ∧ Hid (FE F W F' W') := by
  obtain ⟨q, rfl⟩ : ∃ q, v = .agg #[.pointer q] := by
    obtain ⟨_, ⟨_, rfl⟩ | ⟨_, b, _, _, _, rfl, _⟩⟩ := hx
    · exact ⟨_, rfl⟩
    · exact ⟨_, rfl⟩
  have hal := hx.1
  obtain ⟨pv, sv, fl, HR0⟩ := hx.get'
  have HR : Hid (∀ w', Below W0.heap.size W0 w' → Rows w' (.agg #[.pointer q]) x pv sv fl) := HR0
  obtain ⟨pa, pc, rfl⟩ : ∃ pa pc, pv = .slice pa (Sr.parts x).length pc := by
    obtain ⟨_, ⟨rfl, h2⟩ | ⟨g, cap, cur, rfl, _⟩⟩ := (HR0 W H.out.low).prow
    · exact ⟨none, 0, by rw [h2]⟩
    · exact ⟨_, cap, rfl⟩
  clear HR0 hx
  obtain ⟨N, hN⟩ : ∃ N, N = (Sr.parts x).length := ⟨_, rfl⟩
  have HN : Hid (N = (Sr.parts x).length) := hN
  have hNb : N ≤ 1999 := by have := hal.2.2.1; omega
  rw [← hN] at HR
  have HAl : Hid (allowed x) := hal
  clear hal hN
  have HP := fun w' hb => (HR.out w' hb).parts
  have HSf := fun w' hb => (HR.out w' hb).self
  go_enter Tryz.func60, Tryz.ntmps60
  go_wp2_with fail
  refine (HP _ (((H.out.low.alloc H.out.low.size _).alloc (by have := H.out.low.size; simp; omega) _).alloc (by have := H.out.low.size; simp; omega) _)).mono ?_
  rintro y w1 ⟨rfl, o1, hw1⟩
  have hz : W.heap.size + 4 = w1.heap.size := by rw [hw1]; simp
  have HB1 : Hid (Below W.heap.size W w1) := by
    show Below _ _ _
    rw [hw1]
    exact ((((Below.refl W.heap.size W).alloc (Nat.le_refl _) _).alloc (by simp) _).alloc (by simp; omega) _).alloc (by simp; omega) _
  have X2 : Hid (w1.heap[W.heap.size]? = some (.cells #[.pointer (some ⟨p, 0, none⟩)] 107 (0, 0))) := by
    show _ = _
    rw [hw1, heap_old _ _ (by simp; omega), heap_old _ _ (by simp; omega), heap_old _ _ (by simp), heap_last]
  have X3 : Hid (w1.heap[W.heap.size + 1]? = some (.cells #[.pointer q] 26 (0, 0))) := by
    show _ = _
    rw [hw1, heap_old _ _ (by simp), heap_old _ _ (by simp)]
    have := heap_last (W.alloc (.cells #[.pointer (some ⟨p, 0, none⟩)] 107)) (.cells #[.pointer q] 26)
    rwa [size_alloc] at this
  have X5 : Hid (w1.heap[W.heap.size + 1 + 1]? = some (.cells #[.slice none 0 0] 80 (0, 0))) := by
    show _ = _
    rw [hw1, heap_old _ _ (by simp)]
    have := heap_last ((W.alloc (.cells #[.pointer (some ⟨p, 0, none⟩)] 107)).alloc (.cells #[.pointer q] 26)) (.cells #[.slice none 0 0] 80)
    rwa [size_alloc, size_alloc] at this
  have S0 : Hid (TakeSt C w1 p F vs gks m x (W.heap.size + 1 + 1) 0 F D vs (.slice none 0 0) w1) :=
    ⟨H.out.wo.below HB1.out, Fr.refl _ _, fun b hb => .inl hb, List.prefix_refl _, by simp, X5.out, ⟨rfl, .inl ⟨rfl, rfl⟩⟩, fun b hb => by cases hb⟩
  clear HP hw1
  go_wp2_with fail
  go_loopg [13] N (fun g1 vi wr => ∃ (k : Nat) (F' : List Nat) (D' : WD) (vs' : List Int) (plv : Value), vi = .int .i64 k ∧ k ≤ N ∧ N - k ≤ g1 ∧ Hid (TakeSt C w1 p F vs gks m x (W.heap.size + 1 + 1) k F' D' vs' plv wr))
  case atStart => exact ⟨0, F, D, vs, _, rfl, by omega, by omega, S0⟩
  case round =>
    clear S0
    obtain ⟨k, F', D', vs', plv, rfl, hkl, hg, HS⟩ := hrel
    by_cases hk : k < N
    · have hkz : (k : Int) < (N : Int) := by omega
      have hk0 : (0 : Int) ≤ (k : Int) := Int.natCast_nonneg k
      have hkw : IntKind.i64.wrap ((k : Int) + 1) = (k : Int) + 1 := IntWalk.i64_in _ (by omega)
      have hsz := HS.out.fr.size
      have hlow1 : Below W0.heap.size W0 w1 := fr_below (F := []) H.out.low (by simp) (Fr.of_below HB1.out)
      have hlow : Below W0.heap.size W0 wr := fr_below (F := (W.heap.size + 1 + 1) :: F) hlow1 (by have := H.out.low.size; intro b hb; simp at hb; rcases hb with rfl | hb; omega; exact H.out.hi b hb) HS.out.fr
      have hF5 : W.heap.size + 1 + 1 ∉ F := fun h => by have := H.out.wo.blt _ h; omega
      have hF2 : W.heap.size ∉ F := fun h => by have := H.out.wo.blt _ h; omega
      have hR := HR.out wr hlow
      obtain ⟨qq, hq⟩ : ∃ qq, (Sr.parts x)[k]? = some qq := ⟨_, List.getElem?_eq_getElem (by rw [← HN.out]; exact hk)⟩
      obtain ⟨u, hu, hru⟩ := hR.rows k qq hq
      obtain ⟨gp, cp, heq, cq⟩ := row1_cell hR.prow hu
      obtain ⟨e1, e2, e3⟩ := Value.slice.inj heq
      subst e1
      clear e2 e3 heq
      have hbx : (wr.drew).heap[W.heap.size]? = some (.cells #[.pointer (some ⟨p, 0, none⟩)] 107 (0, 0)) :=
        (HS.out.fr.block W.heap.size (by omega) (by intro hm; simp at hm; rcases hm with hm | hm; omega; exact hF2 hm)).trans X2.out
      have hpl := at_places (vs := vs') (parts_before hq)
      have hal := HAl.out.2.1 qq (List.mem_of_getElem? hq)
      obtain ⟨ds, hds⟩ : ∃ ds, ds = ((Sr.parts x).take k).map fun (q : Nat) => vs'.idxOf (q : Int) := ⟨_, rfl⟩
      have hrow : IRow wr.drew plv ds := by rw [hds]; exact HS.out.row
      rw [← hds] at hpl
      have hlenb : ds.length + 1 ≤ 1099511627776 := by rw [hds, List.length_map, List.length_take]; omega
      have HDS : Hid (ds = ((Sr.parts x).take k).map fun (q : Nat) => vs'.idxOf (q : Int)) := hds
      clear hds
      have HC := take1_calls (C := C) (W := wr.drew) (p := p) (F := F') (D := D') (vs := vs') (gks := gks) (m := m + k) HS.out.wo.drew (bp := W.heap.size + 1 + 1) (bw := W.heap.size) (pv := plv) (v := u) (ds := ds) (l := atPl (Sr.parts x) (qq : Int)) (qq : Int)
        HS.out.box hbx hrow hru (fun e he => HS.out.mem e (parts_before hq e he)) hpl.1 hpl.2 (by omega) (by unfold atPl; rw [List.length_map]; omega)
      have c5 : wr.cell? ⟨W.heap.size + 1 + 1, 0, none⟩ = some plv := by rw [cell_of HS.out.box]; rfl
      have f5 : wr.frozen? ⟨W.heap.size + 1 + 1, 0, none⟩ = false := free_of HS.out.box 0
      have HQ : Hid ((Sr.parts x)[k]? = some qq) := hq
      have HL5 : Hid (W.heap.size + 1 + 1 < w1.heap.size ∧ W.heap.size + 1 + 1 ∉ F) := ⟨by omega, hF5⟩
      have HRw : Hid (IRow wr.drew plv ds) := hrow
      have hlt5 : W.heap.size + 1 + 1 < wr.heap.size := by omega
      have H5n : Hid (plv.ownBlock ≠ some (W.heap.size + 1 + 1)) := fun e => by
        obtain ⟨c, hc⟩ := row_type HRw.out e
        exact type_ne hc HS.out.box (by decide) rfl
      have H5f : Hid (W.heap.size + 1 + 1 ∉ F') := fun h => by rcases HS.out.sub _ h with h | h; exact hF5 h; omega
      clear hrow
      clear hq hu hru hpl hal hR hlow hlow1 hbx hF5 hF2
      go_wp2_with fail
      go_region_law (first
        | (refine step_I1 rfl (.tmp 17) (.tmp 21) rfl plv ds rfl (World.ownsRow.alloc HI.out _) _ _ rfl (heap_last _ _) hlenb _ rfl ?_; intro g cap w3 I3 G3 A3 L3
           have h5 : w3.heap[W.heap.size + 1 + 1]? = some (.cells #[plv] 80 (0, 0)) := (G3.block _ (by have := hput.out.fr.size; simp at this ⊢; omega) (fun e => H5n.out e.symm)).trans ((heap_old _ _ (by have := hput.out.fr.size; simp at this ⊢; omega)).trans ((hput.out.fr.block _ hlt5 H5f.out).trans HS.out.box))
           have c5' : w3.cell? ⟨W.heap.size + 1 + 1, 0, none⟩ = some plv := by rw [cell_of h5]; rfl
           have f5' : w3.frozen? ⟨W.heap.size + 1 + 1, 0, none⟩ = false := free_of h5 0
           have I3' : Hid (IRow w3 (.slice (some ⟨g, 0, none⟩) (ds.length + 1) cap) (ds ++ [(putIn vs' (qq : Int)).idxOf (qq : Int)])) := I3
           have A3' : Hid (plv.ownBlock = some g ∨ g = w2.heap.size + 1) := by show _ ∨ _; simpa using A3
           have G3' := Lib.hid G3
           clear h5 I3 A3 G3)
        | (go_simp; go_at_call 102; refine HC.mono ?_; rintro y w2 ⟨F'', D'', rfl, hput⟩
           have c5w : w2.cell? ⟨W.heap.size + 1 + 1, 0, none⟩ = some plv := by rw [cell_of ((hput.out.fr.block _ hlt5 H5f.out).trans HS.out.box)]; rfl
           have n5w : ∀ o, (w2.alloc o).cell? ⟨W.heap.size + 1 + 1, 0, none⟩ = some plv := fun o => by rw [cell_of ((heap_old _ _ (by have := hput.out.fr.size; simp at this; omega)).trans ((hput.out.fr.block _ hlt5 H5f.out).trans HS.out.box))]; rfl
           have HI : Hid (IRow w2 plv ds) := ownsRow_kept HRw.out (fun b e => hput.out.fr.block b (ownsRow_lt HRw.out e) (HS.out.own b e).2)))
      all_goals
        have HT := Lib.hid (take_step HS.out HQ.out hput.out HL5.out.1 HL5.out.2 (by rw [← HDS.out]; exact I3'.out) G3'.out A3'.out)
        clear HI I3' A3' G3' hput c5' f5' c5 f5 c5w n5w
        go_wp2_with fail
        go_roundg (N - (k + 1))
        case measure => omega
        case rel => exact ⟨k + 1, F'', D'', putIn vs' (qq : Int), _, by go_num, by omega, by omega, HT⟩
    · have hkz : ¬ ((k : Int) < (N : Int)) := by omega
      obtain rfl : k = N := by omega
      have hsz := HS.out.fr.size
      have hlow1 : Below W0.heap.size W0 w1 := fr_below (F := []) H.out.low (by simp) (Fr.of_below HB1.out)
      have hlow : Below W0.heap.size W0 wr := fr_below (F := (W.heap.size + 1 + 1) :: F) hlow1 (by have := H.out.low.size; intro b hb; simp at hb; rcases hb with rfl | hb; omega; exact H.out.hi b hb) HS.out.fr
      have HF5 : Hid (W.heap.size + 1 + 1 ∉ F) := fun h => by have := H.out.wo.blt _ h; omega
      have hF2 : W.heap.size ∉ F := fun h => by have := H.out.wo.blt _ h; omega
      have hF3 : W.heap.size + 1 ∉ F := fun h => by have := H.out.wo.blt _ h; omega
      have hbx : wr.heap[W.heap.size]? = some (.cells #[.pointer (some ⟨p, 0, none⟩)] 107 (0, 0)) :=
        (HS.out.fr.block W.heap.size (by omega) (by intro hm; simp at hm; rcases hm with hm | hm; omega; exact hF2 hm)).trans X2.out
      have hb3 : wr.heap[W.heap.size + 1]? = some (.cells #[.pointer q] 26 (0, 0)) :=
        (HS.out.fr.block (W.heap.size + 1) (by omega) (by intro hm; simp at hm; exact hF3 hm)).trans X3.out
      have c3 : wr.cell? ⟨W.heap.size + 1, 0, none⟩ = some (.pointer q) := by rw [cell_of hb3]; rfl
      have hall : ∀ e ∈ exps x, e ∈ (Sr.parts x).take k := fun e he => by
        rw [List.take_of_length_le (by rw [← HN.out]; omega)]
        exact mem_parts.2 (.here he)
      have hpl := at_places (vs := vs') hall
      have hal := HAl.out.1
      have hself := HSf wr hlow
      have hsr := (HR.out wr hlow).srow
      have HC := fun (o : Obj) => take1_calls (C := C) (W := wr.alloc o) (p := p) (F := F') (D := D') (vs := vs') (gks := gks) (m := m + k) (HS.out.wo.alloc o) (bp := W.heap.size + 1 + 1) (bw := W.heap.size) (pv := plv) (v := sv) (ds := ((Sr.parts x).take k).map fun (q : Nat) => vs'.idxOf (q : Int)) (l := atPl (Sr.parts x) x) x
        ((heap_old _ _ (by omega)).trans HS.out.box) ((heap_old _ _ (by omega)).trans hbx) (World.ownsRow.alloc HS.out.row o) (World.ownsRow.alloc hsr o) (fun e he => HS.out.mem e (hall e he)) hpl.1 hpl.2 (by omega) (by unfold atPl; rw [List.length_map]; omega)
      clear hlow hlow1 hbx hF2 hF3 hb3 hall hpl hal hsr HSf
      go_wp2_with fail
      refine hself.mono ?_
      rintro y w2 ⟨rfl, o2, rfl⟩
      clear hself
      go_wp2_with fail
      refine (HC o2).mono ?_
      rintro y w3 ⟨F'', D'', rfl, hput⟩
      go_wp2_with fail
      refine bodyPost_ret (results_tmp rfl _ _ _) rfl ?_
      have hF'' : ∀ b ∈ F'', b ∈ F ∨ w1.heap.size ≤ b := fun b hb => by
        rcases hput.out.sub b hb with h | h | h
        · exact HS.out.sub b h
        · have : wr.heap.size + 1 ≤ b := by simpa using h
          exact .inr (by omega)
        · exact h.elim
      have hfr : Fr F W w3 := by
        have h1 := HB1.out
        have hs1 := h1.size
        refine ⟨hput.out.fr.os.trans (HS.out.fr.os.trans h1.os), hput.out.fr.tape.trans (HS.out.fr.tape.trans h1.tape), hput.out.fr.output.trans (HS.out.fr.output.trans h1.output), by have := hput.out.fr.size; simp at this; omega, fun b hb hn => ?_⟩
        rw [hput.out.fr.block b (by simp; omega) (fun h => by rcases HS.out.sub b h with h | h; exact hn h; omega), heap_old _ _ (by omega), HS.out.fr.block b (by omega) (by intro hm; simp at hm; rcases hm with hm | hm; omega; exact hn hm)]
        exact h1.block b hb
      refine ⟨F'', D'', putIn vs' x, rfl, putIn_mem _ _, HS.out.pre.trans (putIn_ext _ _), ⟨?_, fr_below H.out.low H.out.hi hfr, fun b hb => ?_⟩, ⟨hfr, fun b hb => ?_⟩⟩
      · exact hput.out.wo.weaken (by have := hput.out.wo.len; omega) hm
      · have := H.out.low.size
        rcases hF'' b hb with h | h
        · exact H.out.hi b h
        · omega
      · rcases hF'' b hb with h | h
        · exact .inl h
        · exact .inr (by omega)
end Sr
/- world.give: the plain part: what its inner function walk gathers. -/
namespace Sr

theorem maxl_append (a b : List Nat) : maxl (a ++ b) = max (maxl a) (maxl b) := by
  induction a with
  | nil => simp [maxl]
  | cons x a ih => simp only [List.cons_append, maxl, ih]; omega

/-- the heights of some exponents, plus one -/
def hts (es : List Nat) : Nat := maxl (es.map fun (e : Nat) => height (e : Int) + 1)
theorem hts_nil : hts [] = 0 := rfl
theorem hts_snoc (es : List Nat) (e : Nat) : hts (es ++ [e]) = max (hts es) (height (e : Int) + 1) := by
  unfold hts; rw [List.map_append, maxl_append]; simp [maxl]
theorem height_hts (x : Int) : height x = hts (exps x) := height_eq x

/-- e is one of a's parts, or a itself -/
def PartOr (a e : Nat) : Prop := e = a ∨ IsPart (a : Int) e

/-- what walk makes of the terms with the exponents es -/
structure Wk (es ps : List Nat) (ok : Bool) (ps' : List Nat) (ok' : Bool) (r : Nat) : Prop where
  pre : ps <+: ps'
  new : ∀ e ∈ ps', e ∈ ps ∨ ∃ a ∈ es, PartOr a e
  yes : ok' = true → ok = true ∧ (∀ e ∈ es, e ∈ ps') ∧ r = hts es
  no : ok = true → ok' = false → (∃ a ∈ es, ∃ e, PartOr a e ∧ 300 < (form (e : Int)).length) ∨ 2000 ≤ ps'.length
  le : r ≤ hts es

/-- what is known of the listed ones -/
structure HInv (vs : List Int) (ps : List Nat) (hh : Nat → Nat) (ok : Bool) : Prop where
  nodup : ps.Nodup
  mem : ∀ e ∈ ps, (e : Int) ∈ vs
  le : ∀ e ∈ ps, hh e ≤ height (e : Int)
  good : ok = true → ∀ e ∈ ps, hh e = height (e : Int) ∧ (form (e : Int)).length ≤ 300 ∧ ∀ a ∈ exps (e : Int), a ∈ ps

theorem Wk.start (ps : List Nat) (ok : Bool) : Wk [] ps ok ps ok 0 :=
  ⟨List.prefix_refl _, fun _ h => .inl h, fun h => ⟨h, by simp, rfl⟩, fun h h' => (by rw [h] at h'; cases h'), Nat.le_refl _⟩
theorem HInv.start (vs : List Int) (hh : Nat → Nat) : HInv vs [] hh true := ⟨by simp, by simp, by simp, by simp⟩

/-- the exponent is known -/
theorem Wk.known {es ps ps1 : List Nat} {ok ok1 : Bool} {r e : Nat} {hh : Nat → Nat} {vs : List Int} (h : Wk es ps ok ps1 ok1 r) (hi : HInv vs ps1 hh ok1) (he : e ∈ ps1) : Wk (es ++ [e]) ps ok ps1 ok1 (max r (hh e + 1)) where
  pre := h.pre
  new := fun a ha => by
    rcases h.new a ha with q | ⟨b, q, q2⟩
    · exact .inl q
    · exact .inr ⟨b, by simp [q], q2⟩
  yes := fun ho => by
    obtain ⟨q1, q2, q3⟩ := h.yes ho
    refine ⟨q1, fun a ha => ?_, ?_⟩
    · rcases List.mem_append.1 ha with ha | ha
      · exact q2 a ha
      · simp at ha; exact ha ▸ he
    · rw [hts_snoc, q3, (hi.good ho e he).1]
  no := fun h1 h2 => by
    rcases h.no h1 h2 with ⟨a, q, q2⟩ | q
    · exact .inl ⟨a, by simp [q], q2⟩
    · exact .inr q
  le := by have := h.le; have := hi.le e he; rw [hts_snoc]; omega

/-- .. not known, and all is lost already -/
theorem Wk.lost {es ps ps1 : List Nat} {ok : Bool} {r e : Nat} (h : Wk es ps ok ps1 false r) : Wk (es ++ [e]) ps ok ps1 false (max r 1) where
  pre := h.pre
  new := fun a ha => by
    rcases h.new a ha with q | ⟨b, q, q2⟩
    · exact .inl q
    · exact .inr ⟨b, by simp [q], q2⟩
  yes := fun ho => by cases ho
  no := fun h1 h2 => by
    rcases h.no h1 h2 with ⟨a, q, q2⟩ | q
    · exact .inl ⟨a, by simp [q], q2⟩
    · exact .inr q
  le := by have := h.le; rw [hts_snoc]; omega

/-- .. not known: walked; ps2 is what its own walk leaves -/
theorem Wk.walked {es ps ps1 ps2 : List Nat} {ok ok3 : Bool} {r e q : Nat} (h : Wk es ps ok ps1 true r) (hk : Wk (exps (e : Int)) ps1 (decide ((form (e : Int)).length ≤ 300) && decide (ps1.length < 2000)) ps2 ok3 q) :
    Wk (es ++ [e]) ps ok (ps2 ++ [e]) ok3 (max r (q + 1)) where
  pre := h.pre.trans (hk.pre.trans (List.prefix_append _ _))
  new := fun a ha => by
    rcases List.mem_append.1 ha with ha | ha
    · rcases hk.new a ha with ha | ⟨b, q1, q2⟩
      · rcases h.new a ha with q1 | ⟨b, q1, q2⟩
        · exact .inl q1
        · exact .inr ⟨b, by simp [q1], q2⟩
      · refine .inr ⟨e, by simp, .inr ?_⟩
        rcases q2 with rfl | q2
        · exact .here q1
        · exact IsPart.trans (.here q1) q2
    · simp at ha; subst ha; exact .inr ⟨a, by simp, .inl rfl⟩
  yes := fun ho => by
    obtain ⟨q1, q2, q3⟩ := h.yes rfl
    obtain ⟨k1, k2, k3⟩ := hk.yes ho
    refine ⟨q1, fun a ha => ?_, ?_⟩
    · rcases List.mem_append.1 ha with ha | ha
      · exact List.mem_append.2 (.inl (hk.pre.subset (q2 a ha)))
      · exact List.mem_append.2 (.inr ha)
    · rw [hts_snoc, q3, k3, ← height_hts]
  no := fun h1 h2 => by
    by_cases hb : (decide ((form (e : Int)).length ≤ 300) && decide (ps1.length < 2000)) = true
    · rcases hk.no hb h2 with ⟨a, q1, b, q2, q3⟩ | q1
      · refine .inl ⟨e, by simp, b, .inr ?_, q3⟩
        rcases q2 with rfl | q2
        · exact .here q1
        · exact IsPart.trans (.here q1) q2
      · refine .inr ?_; simp; omega
    · have hb2 : ¬ ((form (e : Int)).length ≤ 300 ∧ ps1.length < 2000) := by simpa using hb
      by_cases hl : (form (e : Int)).length ≤ 300
      · refine .inr ?_
        have := hk.pre.length_le
        simp; omega
      · exact .inl ⟨e, by simp, e, .inl rfl, by omega⟩
  le := by have := h.le; have := hk.le; rw [hts_snoc, height_hts]; omega

def upH (hh : Nat → Nat) (e q : Nat) : Nat → Nat := fun a => if a = e then q else hh a
theorem HInv.walked {vs : List Int} {ps1 ps2 : List Nat} {ok3 : Bool} {e q : Nat} {hh : Nat → Nat} (hn : e ∉ ps1) (he : (e : Int) ∈ vs) (hk : Wk (exps (e : Int)) ps1 (decide ((form (e : Int)).length ≤ 300) && decide (ps1.length < 2000)) ps2 ok3 q) (hi : HInv vs ps2 hh ok3) :
    e ∉ ps2 ∧ HInv vs (ps2 ++ [e]) (upH hh e q) ok3 := by
  have hn2 : e ∉ ps2 := by
    intro h
    rcases hk.new e h with h | ⟨a, h1, h2⟩
    · exact hn h
    · have l1 := exps_lt h1
      rcases h2 with h2 | h2
      · omega
      · have := h2.lt; omega
  refine ⟨hn2, ?_, fun a ha => ?_, fun a ha => ?_, fun ho a ha => ?_⟩
  · refine List.nodup_append.2 ⟨hi.nodup, by simp, fun a ha b hb => ?_⟩
    obtain rfl : b = e := by simpa using hb
    rintro rfl; exact hn2 ha
  · rcases List.mem_append.1 ha with ha | ha
    · exact hi.mem a ha
    · simp at ha; exact ha ▸ he
  · unfold upH
    split
    · rename_i h; subst h; have := hk.le; rw [height_hts]; exact this
    · rcases List.mem_append.1 ha with ha | ha
      · exact hi.le a ha
      · simp at ha; contradiction
  · unfold upH
    obtain ⟨k1, k2, k3⟩ := hk.yes ho
    have hb2 : (form (e : Int)).length ≤ 300 ∧ ps1.length < 2000 := by simpa using k1
    split
    · rename_i h; subst h
      exact ⟨by rw [height_hts]; exact k3, hb2.1, fun b hb => List.mem_append.2 (.inl (k2 b hb))⟩
    · rcases List.mem_append.1 ha with ha | ha
      · obtain ⟨g1, g2, g3⟩ := hi.good ho a ha
        exact ⟨g1, g2, fun b hb => List.mem_append.2 (.inl (g3 b hb))⟩
      · simp at ha; contradiction

/-- in the end -/
theorem nodup_perm_len {a b : List Nat} (ha : a.Nodup) (hb : b.Nodup) (h : ∀ x, x ∈ a ↔ x ∈ b) : a.length = b.length :=
  Nat.le_antisymm (nodup_length_le a b ha (fun x hx => (h x).1 hx)) (nodup_length_le b a hb (fun x hx => (h x).2 hx))
theorem Wk.parts {vs : List Int} {x : Int} {ps : List Nat} {ok : Bool} {r : Nat} {hh : Nat → Nat} (h : Wk (exps x) [] true ps ok r) (hi : HInv vs ps hh ok) (ho : ok = true) : ∀ e, e ∈ ps ↔ e ∈ parts x := by
  intro e
  rw [mem_parts]
  constructor
  · intro he
    rcases h.new e he with h | ⟨a, h1, h2⟩
    · simp at h
    · rcases h2 with rfl | h2
      · exact .here h1
      · exact IsPart.trans (.here h1) h2
  · intro he
    induction he with
    | here h1 => exact (h.yes ho).2.1 _ h1
    | step _ h1 ih => exact (hi.good ho _ ih).2.2 _ h1
theorem Wk.allowed {vs : List Int} {x : Int} {ps : List Nat} {ok : Bool} {r : Nat} {hh : Nat → Nat} (hx : (form x).length ≤ 300) (h : Wk (exps x) [] true ps ok r) (hi : HInv vs ps hh ok) :
    allowed x ↔ ok = true ∧ ps.length + 1 ≤ 2000 ∧ r ≤ 100 := by
  constructor
  · rintro ⟨a1, a2, a3, a4⟩
    have ho : ok = true := by
      cases hok : ok with
      | true => rfl
      | false =>
        exfalso
        rcases h.no rfl hok with ⟨a, h1, e, h2, h3⟩ | h1
        · have hp : IsPart x e := by
            rcases h2 with rfl | h2
            · exact .here h1
            · exact IsPart.trans (.here h1) h2
          have := a2 e (mem_parts.2 hp); omega
        · have := nodup_length_le ps (Sr.parts x) hi.nodup (fun e he => mem_parts.2 (by
            rcases h.new e he with q | ⟨a, h1, h2⟩
            · simp at q
            · rcases h2 with rfl | h2
              · exact .here h1
              · exact IsPart.trans (.here h1) h2))
          omega
    have hl := nodup_perm_len hi.nodup (parts_nodup x) (h.parts hi ho)
    exact ⟨ho, by omega, by rw [(h.yes ho).2.2, ← height_hts]; exact a4⟩
  · rintro ⟨ho, h1, h2⟩
    have hl := nodup_perm_len hi.nodup (parts_nodup x) (h.parts hi ho)
    refine ⟨hx, fun p hp => (hi.good ho p ((h.parts hi ho p).2 hp)).2.1, by omega, ?_⟩
    rw [height_hts, ← (h.yes ho).2.2]; exact h2

/-- the height is less than the place in a world -/
theorem hts_idx {vs : List Int} (hv : WV vs) : ∀ (i : Nat) (x : Int), vs[i]? = some x → height x ≤ i := by
  intro i
  induction i using Nat.strongRecOn with
  | _ i ih =>
    intro x hx
    rw [height_hts]
    unfold hts
    have key : ∀ l : List Nat, (∀ e ∈ l, e ∈ exps x) → maxl (l.map fun (e : Nat) => height (e : Int) + 1) ≤ i := by
      intro l
      induction l with
      | nil => intro _; simp [maxl]
      | cons e l ihl =>
        intro hl
        obtain ⟨k, hk, hk2⟩ := hv.closed i x hx e (hl e (by simp))
        have h1 := ih k hk _ hk2
        have h2 := ihl fun a ha => hl a (List.mem_cons_of_mem _ ha)
        simp only [List.map_cons, maxl]; omega
    exact key _ fun _ h => h
theorem height_lt {vs : List Int} (hv : WV vs) {e : Nat} (h : (e : Int) ∈ vs) : height (e : Int) < vs.length := by
  have := hts_idx hv _ _ (get_idx h); have := idx_lt h; omega
theorem hts_lt {vs : List Int} (hv : WV vs) {es : List Nat} (h : ∀ e ∈ es, (e : Int) ∈ vs) : hts es ≤ vs.length := by
  unfold hts
  induction es with
  | nil => simp [maxl]
  | cons e l ih =>
    have := height_lt hv (h e (by simp))
    have := ih fun a ha => h a (List.mem_cons_of_mem _ ha)
    simp only [List.map_cons, maxl]; omega
end Sr
/- world.give: the state of its inner function walk in memory. -/
namespace Sr
open Go Go.Proofs Go.RowKit Go.Maps Go.WideMaps

/-- the captured variables of walk: b6 heights (the map mh), b8 ok, b2 w, b7 parts, b9 walk -/
structure GB (C : List Nat) (w1 : World) (p : Nat) (F : List Nat) (D : WD) (vs : List Int) (gk : List Nat) (m b6 b8 b2 b7 b9 mh : Nat) : Prop where
  wo : WO C w1 p F D vs gk m
  bh : w1.heap[b6]? = some (.cells #[.map (some mh)] 122 (0, 0))
  bw : w1.heap[b2]? = some (.cells #[.pointer (some ⟨p, 0, none⟩)] 107 (0, 0))
  bk : w1.heap[b9]? = some (.cells #[.func (.func 95) #[] #[.pointer (some ⟨b6, 0, none⟩), .pointer (some ⟨b8, 0, none⟩), .pointer (some ⟨b2, 0, none⟩), .pointer (some ⟨b7, 0, none⟩), .pointer (some ⟨b9, 0, none⟩)]] 126 (0, 0))
  n7 : b7 ∉ F
  n8 : b8 ∉ F
  nm : mh ∉ F
  l7 : b7 < w1.heap.size
  l8 : b8 < w1.heap.size
  lm : mh < w1.heap.size
  t7 : ∃ c, w1.heap[b7]? = some (.cells c 80 (0, 0))
  t8 : ∃ c, w1.heap[b8]? = some (.cells c 4 (0, 0))
  tm : ∃ es cl, w1.heap[mh]? = some (.map es cl)

/-- the map of heights -/
def hmap (vs : List Int) (ps : List Nat) (hh : Nat → Nat) (f : Value → Option Value) : Prop :=
  ∀ k v, f k = some v ↔ ∃ e ∈ ps, k = .int .i64 (vs.idxOf (e : Int) : Nat) ∧ v = .int .i64 (hh e : Nat)

structure GS (w1 : World) (vs : List Int) (b8 b7 mh : Nat) (ps : List Nat) (hh : Nat → Nat) (ok : Bool) (plv : Value) (wr : World) : Prop where
  inv : HInv vs ps hh ok
  fr : Fr [b7, b8, mh] w1 wr
  bo : wr.heap[b8]? = some (.cells #[.bool ok] 4 (0, 0))
  bp : wr.heap[b7]? = some (.cells #[plv] 80 (0, 0))
  row : IRow wr plv (ps.map fun (e : Nat) => vs.idxOf (e : Int))
  own : ∀ b, plv.ownBlock = some b → w1.heap.size ≤ b
  map : ∃ f, MapF Tryz.prog 3 wr mh f ∧ hmap vs ps hh f

/-- what walk may write: b7, b8, the map, and the row of the list -/
def GO (b7 b8 mh : Nat) (plv : Value) : List Nat := b7 :: b8 :: mh :: plv.ownBlock.toList
theorem mem_GO {b7 b8 mh b : Nat} {plv : Value} : b ∈ GO b7 b8 mh plv ↔ b = b7 ∨ b = b8 ∨ b = mh ∨ plv.ownBlock = some b := by simp [GO]

section
variable {C : List Nat} {w1 wr : World} {p : Nat} {F : List Nat} {D : WD} {vs : List Int} {gk : List Nat} {m b6 b8 b2 b7 b9 mh : Nat} {ps : List Nat} {hh : Nat → Nat} {ok : Bool} {plv : Value}

theorem GB.wo' (B : GB C w1 p F D vs gk m b6 b8 b2 b7 b9 mh) (hf : Fr [b7, b8, mh] w1 wr) : WO C wr p F D vs gk m :=
  B.wo.kept fun b hb => hf.block b (B.wo.blt b hb) (by
    intro h; simp at h
    rcases h with rfl | rfl | rfl
    · exact B.n7 hb
    · exact B.n8 hb
    · exact B.nm hb)
/-- a block of cells of another type is as it was -/
theorem GB.keep (B : GB C w1 p F D vs gk m b6 b8 b2 b7 b9 mh) (hf : Fr [b7, b8, mh] w1 wr) {b : Nat} {c : Array Value} {T : TypeId} {z : Nat × Nat} (hb : w1.heap[b]? = some (.cells c T z)) (h80 : T ≠ 80) (h4 : T ≠ 4) : wr.heap[b]? = some (.cells c T z) := by
  rw [hf.block b (Array.getElem?_eq_some_iff.1 hb).1 ?_]; exact hb
  intro h; simp at h
  rcases h with rfl | rfl | rfl
  · obtain ⟨c', h'⟩ := B.t7; rw [hb] at h'; cases h'; exact h80 rfl
  · obtain ⟨c', h'⟩ := B.t8; rw [hb] at h'; cases h'; exact h4 rfl
  · obtain ⟨es, cl, h'⟩ := B.tm; rw [hb] at h'; cases h'
theorem GB.trow (B : GB C w1 p F D vs gk m b6 b8 b2 b7 b9 mh) (hf : Fr [b7, b8, mh] w1 wr) {v : Value} {l : List PT} (h : TRow w1 v l) : TRow wr v l :=
  ownsRow_kept h fun b e => by
    obtain ⟨c, hc⟩ := row_type h e
    rw [B.keep hf hc (by decide) (by decide), hc]

theorem GS.below (S : GS w1 vs b8 b7 mh ps hh ok plv wr) {w' : World} (hb : Below wr.heap.size wr w') : GS w1 vs b8 b7 mh ps hh ok plv w' where
  inv := S.inv
  fr := ⟨hb.os.trans S.fr.os, hb.tape.trans S.fr.tape, hb.output.trans S.fr.output, Nat.le_trans S.fr.size hb.size, fun b h1 h2 => (hb.block b (Nat.lt_of_lt_of_le h1 S.fr.size)).trans (S.fr.block b h1 h2)⟩
  bo := (hb.block b8 (Array.getElem?_eq_some_iff.1 S.bo).1).trans S.bo
  bp := (hb.block b7 (Array.getElem?_eq_some_iff.1 S.bp).1).trans S.bp
  row := ownsRow_below S.row hb
  own := S.own
  map := by obtain ⟨f, h1, h2⟩ := S.map; exact ⟨f, h1.kept (hb.block _ h1.lt), h2⟩

/-- a look into the map of heights -/
theorem GS.look (S : GS w1 vs b8 b7 mh ps hh ok plv wr) {e : Nat} (hv : vs.length ≤ 2147483648) (he : (e : Int) ∈ vs) :
    (e ∈ ps ∧ ∀ w', w'.heap[mh]? = wr.heap[mh]? → (Instr.lookup 122 (.map (some mh)) (.int .i64 (vs.idxOf (e : Int) : Nat)) true).run Tryz.prog w' = .ok (.tuple #[.int .i64 (hh e : Nat), .bool true]) w') ∨
    (e ∉ ps ∧ ∀ w', w'.heap[mh]? = wr.heap[mh]? → (Instr.lookup 122 (.map (some mh)) (.int .i64 (vs.idxOf (e : Int) : Nat)) true).run Tryz.prog w' = .ok (.tuple #[.int .i64 0, .bool false]) w') := by
  obtain ⟨f, h1, h2⟩ := S.map
  have hl : keyOf Tryz.prog 3 (.int .i64 (vs.idxOf (e : Int) : Nat)) = some (.int .i64 (vs.idxOf (e : Int) : Nat)) := keyInt (wfNat (by have := idx_lt he; omega))
  by_cases hm : e ∈ ps
  · refine .inl ⟨hm, fun w' hw => ?_⟩
    have hf : f (.int .i64 (vs.idxOf (e : Int) : Nat)) = some (.int .i64 (hh e : Nat)) := (h2 _ _).2 ⟨e, hm, rfl, rfl⟩
    have := (h1.kept hw).look true law3 Tryz.underlying122 (zero3 w') hl
    simpa [hf] using this
  · refine .inr ⟨hm, fun w' hw => ?_⟩
    have hf : f (.int .i64 (vs.idxOf (e : Int) : Nat)) = none := by
      cases hfx : f (.int .i64 (vs.idxOf (e : Int) : Nat)) with
      | none => rfl
      | some v =>
        obtain ⟨e', h3, h4, _⟩ := (h2 _ _).1 hfx
        have h5 : vs.idxOf (e : Int) = vs.idxOf (e' : Int) := by
          have := Value.int.inj h4; omega
        have h6 := get_idx he
        rw [h5, get_idx (S.inv.mem e' h3)] at h6
        have h7 : (e' : Int) = e := Option.some.inj h6
        have : e' = e := by omega
        exact absurd (this ▸ h3) hm
    have := (h1.kept hw).look true law3 Tryz.underlying122 (zero3 w') hl
    simpa [hf] using this

theorem HInv.weak {ok' : Bool} (h : HInv vs ps hh ok) (ho : ok' = true → ok = true) : HInv vs ps hh ok' := ⟨h.nodup, h.mem, h.le, fun h' => h.good (ho h')⟩

/-- the store into ok -/
theorem GS.setOk (B : GB C w1 p F D vs gk m b6 b8 b2 b7 b9 mh) (S : GS w1 vs b8 b7 mh ps hh ok plv wr) (ok' : Bool) (ho : ok' = true → ok = true) : GS w1 vs b8 b7 mh ps hh ok' plv (wr.setCell ⟨b8, 0, none⟩ (.bool ok')) := by
  have n78 : b7 ≠ b8 := type_ne S.bp S.bo (by decide)
  have hk : ∀ b, b ≠ b8 → (wr.setCell ⟨b8, 0, none⟩ (.bool ok')).heap[b]? = wr.heap[b]? := fun b hb => RowKit.Below.heap_setCell _ _ _ _ hb
  have _ := B
  refine ⟨S.inv.weak ho, ⟨S.fr.os, S.fr.tape, S.fr.output, by have := S.fr.size; simpa using this, fun b h1 h2 => ?_⟩, heap_setCell_same wr b8 0 _ 4 _ S.bo, (hk _ n78).trans S.bp, ?_, S.own, ?_⟩
  · rw [hk b (by rintro rfl; simp at h2)]; exact S.fr.block b h1 h2
  · exact ownsRow_kept S.row fun b e => hk b (by
      obtain ⟨c, hc⟩ := row_type S.row e
      exact type_ne hc S.bo (by decide))
  · obtain ⟨f, h1, h2⟩ := S.map
    exact ⟨f, h1.kept (hk _ (cells_ne ⟨_, _, _, S.bo⟩ h1).symm), h2⟩

/-- a walked one is put in: into the map, then into the list -/
theorem GS.pushed (B : GB C w1 p F D vs gk m b6 b8 b2 b7 b9 mh) (S : GS w1 vs b8 b7 mh ps hh ok plv wr) {e q : Nat} (hv : vs.length ≤ 2147483648) (he : (e : Int) ∈ vs) (hi : HInv vs (ps ++ [e]) (upH hh e q) ok) (hn : e ∉ ps) :
    ∃ W4, (Instr.mapUpdate 122 (.map (some mh)) (.int .i64 (vs.idxOf (e : Int) : Nat)) (.int .i64 (q : Nat))).run Tryz.prog wr = .ok () W4 ∧ W4.heap.size = wr.heap.size ∧ (∀ (b : Nat) (c : Array Value) (T : TypeId) (z : Nat × Nat), wr.heap[b]? = some (Obj.cells c T z) → W4.heap[b]? = some (Obj.cells c T z)) ∧
      IRow W4 plv (ps.map fun (e : Nat) => vs.idxOf (e : Int)) ∧
      ∀ (w3 : World) (g n1 cap : Nat) (o : Obj), IRow w3 (.slice (some ⟨g, 0, none⟩) n1 cap) ((ps.map fun (e : Nat) => vs.idxOf (e : Int)) ++ [vs.idxOf (e : Int)]) → (W4.alloc o).grownBy w3 plv.ownBlock → (plv.ownBlock = some g ∨ g = W4.heap.size + 1) →
        GS w1 vs b8 b7 mh (ps ++ [e]) (upH hh e q) ok (.slice (some ⟨g, 0, none⟩) n1 cap) (w3.setCell ⟨b7, 0, none⟩ (.slice (some ⟨g, 0, none⟩) n1 cap)) ∧
        FE (GO b7 b8 mh plv) wr (GO b7 b8 mh (.slice (some ⟨g, 0, none⟩) n1 cap)) (w3.setCell ⟨b7, 0, none⟩ (.slice (some ⟨g, 0, none⟩) n1 cap)) ∧
        w3.cell? ⟨b7, 0, none⟩ = some plv ∧ w3.frozen? ⟨b7, 0, none⟩ = false := by
  obtain ⟨f, f1, f2⟩ := S.map
  have hl : keyOf Tryz.prog 3 (.int .i64 (vs.idxOf (e : Int) : Nat)) = some (.int .i64 (vs.idxOf (e : Int) : Nat)) := keyInt (wfNat (by have := idx_lt he; omega))
  obtain ⟨W4, hrun, M4, s4, G4⟩ := f1.store law3 Tryz.underlying122 (v := .int .i64 (q : Nat)) hl
  have k4 : ∀ b, b < wr.heap.size → b ≠ mh → W4.heap[b]? = wr.heap[b]? := fun b hb hne => G4.block b hb (by intro e; cases e; exact hne rfl)
  have cellk : ∀ (b : Nat) (c : Array Value) (T : TypeId) (z : Nat × Nat), wr.heap[b]? = some (Obj.cells c T z) → W4.heap[b]? = some (Obj.cells c T z) := fun b c T z hb => by
    rw [k4 b (Array.getElem?_eq_some_iff.1 hb).1 (cells_ne ⟨_, _, _, hb⟩ f1)]; exact hb
  have row4 : IRow W4 plv (ps.map fun (e : Nat) => vs.idxOf (e : Int)) := ownsRow_kept S.row fun b e' => by
    obtain ⟨c, hc⟩ := row_type S.row e'
    rw [cellk _ _ _ _ hc, hc]
  refine ⟨W4, hrun, s4, cellk, row4, fun w3 g n1 cap o hI hg hat => ?_⟩
  have b4o := cellk _ _ _ _ S.bo
  have b4p := cellk _ _ _ _ S.bp
  have hsz := S.fr.size
  have hne7 : plv.ownBlock ≠ some b7 := fun e' => by
    obtain ⟨c, hc⟩ := row_type S.row e'
    exact type_ne hc S.bp (by decide) rfl
  have hne8 : plv.ownBlock ≠ some b8 := fun e' => by
    obtain ⟨c, hc⟩ := row_type S.row e'
    exact type_ne hc S.bo (by decide) rfl
  have hnem : plv.ownBlock ≠ some mh := fun e' => by
    obtain ⟨c, hc⟩ := row_type S.row e'
    exact cells_ne ⟨_, _, _, hc⟩ f1 rfl
  have n78 : b8 ≠ b7 := type_ne S.bo S.bp (by decide)
  have lo : b8 < W4.heap.size := (Array.getElem?_eq_some_iff.1 b4o).1
  have lp : b7 < W4.heap.size := (Array.getElem?_eq_some_iff.1 b4p).1
  have keep : ∀ b, b < W4.heap.size → plv.ownBlock ≠ some b → b ≠ b7 → (w3.setCell ⟨b7, 0, none⟩ (.slice (some ⟨g, 0, none⟩) n1 cap)).heap[b]? = W4.heap[b]? := fun b h1 h2 h3 =>
    (RowKit.Below.heap_setCell _ _ _ _ h3).trans ((hg.block b (by simp; omega) (fun e => h2 e.symm)).trans (heap_old _ _ h1))
  have h7 : w3.heap[b7]? = some (.cells #[plv] 80 (0, 0)) := by
    rw [hg.block b7 (by simp; omega) (fun e => hne7 e.symm), heap_old _ _ lp]; exact b4p
  have hfe : FE (GO b7 b8 mh plv) wr (GO b7 b8 mh (.slice (some ⟨g, 0, none⟩) n1 cap)) (w3.setCell ⟨b7, 0, none⟩ (.slice (some ⟨g, 0, none⟩) n1 cap)) := by
    refine ⟨⟨(show w3.os = W4.os from hg.os).trans G4.os, (show w3.tape = W4.tape from hg.tape).trans G4.tape, (show w3.output = W4.output from hg.output).trans G4.output, by have := hg.size; simp at this ⊢; omega, fun b h1 h2 => ?_⟩, fun b hb => ?_⟩
    · rw [mem_GO] at h2
      rw [keep b (by omega) (fun e' => h2 (.inr (.inr (.inr e')))) (fun e' => h2 (.inl e')), k4 b h1 (fun e' => h2 (.inr (.inr (.inl e'))))]
    · rw [mem_GO] at hb ⊢
      rcases hb with hb | hb | hb | hb
      · exact .inl (.inl hb)
      · exact .inl (.inr (.inl hb))
      · exact .inl (.inr (.inr (.inl hb)))
      · have hb' : b = g := by simpa [Value.ownBlock] using hb.symm
        subst hb'
        rcases hat with h | h
        · exact .inl (.inr (.inr (.inr h)))
        · exact .inr (by omega)
  refine ⟨?_, hfe, by rw [cell_of h7]; rfl, free_of h7 0⟩
  refine ⟨hi, ?_, (keep _ lo hne8 n78).trans b4o, heap_setCell_same w3 b7 0 _ 80 _ h7, ?_, ?_, ?_⟩
  · refine ⟨(show w3.os = W4.os from hg.os).trans (G4.os.trans S.fr.os), (show w3.tape = W4.tape from hg.tape).trans (G4.tape.trans S.fr.tape), (show w3.output = W4.output from hg.output).trans (G4.output.trans S.fr.output), by have := hg.size; simp at this ⊢; omega, fun b h1 h2 => ?_⟩
    have h2' : b ≠ b7 ∧ b ≠ b8 ∧ b ≠ mh := by simpa using h2
    rw [keep b (by omega) (fun e' => by have := S.own b e'; omega) h2'.1, k4 b (by omega) h2'.2.2]
    exact S.fr.block b h1 h2
  · rw [List.map_append]
    exact ownsRow_kept hI fun b hb => RowKit.Below.heap_setCell _ _ _ _ (by
      show b ≠ b7
      intro e5
      obtain ⟨c, hc⟩ := row_type hI hb
      exact type_ne hc h7 (by decide) e5)
  · intro b hb
    have hb' : b = g := by simpa [Value.ownBlock] using hb.symm
    subst hb'
    rcases hat with h | h
    · exact S.own b h
    · omega
  · refine ⟨_, M4.kept (keep mh (by have := f1.lt; omega) hnem (cells_ne ⟨_, _, _, S.bp⟩ f1).symm), fun k v => ?_⟩
    unfold updF
    by_cases hk : k = .int .i64 (vs.idxOf (e : Int) : Nat)
    · rw [if_pos hk]
      constructor
      · intro h; cases h; exact ⟨e, by simp, hk, by unfold upH; rw [if_pos rfl]⟩
      · rintro ⟨e', h1, h2, rfl⟩
        have : e' = e := by
          rw [hk] at h2
          have h5 : vs.idxOf (e : Int) = vs.idxOf (e' : Int) := by have := Value.int.inj h2; omega
          have h6 := get_idx he
          rw [h5, get_idx (hi.mem e' h1)] at h6
          have h7 : (e' : Int) = e := Option.some.inj h6
          omega
        subst this
        unfold upH; rw [if_pos rfl]
    · rw [if_neg hk, f2]
      constructor
      · rintro ⟨e', h1, h2, rfl⟩
        exact ⟨e', by simp [h1], h2, by unfold upH; rw [if_neg]; rintro rfl; exact hn h1⟩
      · rintro ⟨e', h1, h2, rfl⟩
        rcases List.mem_append.1 h1 with h3 | h3
        · exact ⟨e', h3, h2, by unfold upH; rw [if_neg]; intro e5; exact hn (e5 ▸ h3)⟩
        · simp at h3; subst h3; exact absurd h2 hk
end
end Sr
namespace Go
open Go.Sort Go.RowKit

/-- a row of ints that a sort turns by a comparison that may write: what the sort needs to know -/
structure SRow (P : Program) (g : FuncId) (fst cb : Array Value) (cf : Nat → Nat → Int) (blk off n : Nat) (Γ : Type) (K : Γ → Array Nat → World → Prop) (Out : Γ → Nat → Prop) : Prop where
  size : ∀ {γ d w}, K γ d w → d.size = n
  cell : ∀ {γ d w}, K γ d w → ∀ i, i < n → w.cell? ⟨blk, off + i, none⟩ = some (.int .i64 (d[i]! : Nat))
  free : ∀ {γ d w}, K γ d w → ∀ i, i < n → w.frozen? ⟨blk, off + i, none⟩ = false
  swap : ∀ {γ d w}, K γ d w → ∀ i j, i < n → j < n → K γ (swp d i j) ((w.setCell ⟨blk, off + i, none⟩ (.int .i64 (d[j]! : Nat))).setCell ⟨blk, off + j, none⟩ (.int .i64 (d[i]! : Nat)))
  drew : ∀ {γ d w}, K γ d w → K γ d w.drew
  cmp : ∀ {γ d w}, K γ d w → ∀ i j, i < n → j < n → Calls P g (fst ++ (#[.int .i64 (d[i]! : Nat), .int .i64 (d[j]! : Nat)] ++ cb)) w fun e w' =>
    e = .returned (.int .i64 (cf d[i]! d[j]!)) ∧ ∃ γ', K γ' d w' ∧ w.heap.size ≤ w'.heap.size ∧ ∀ c, Out γ c → c < w.heap.size → Out γ' c ∧ w'.heap[c]? = w.heap[c]?
  small : ∀ x y, -2 ≤ cf x y ∧ cf x y ≤ 2
  lt : ∀ {γ d w}, K γ d w → blk < w.heap.size
  alloc : ∀ {γ d w}, K γ d w → ∀ o, K γ d (w.alloc o) ∧ Out γ w.heap.size
  store : ∀ {γ d w}, K γ d w → ∀ c, Out γ c → ∀ v, K γ d (w.setCell ⟨c, 0, none⟩ v)
  out : ∀ {γ c}, Out γ c → c ≠ blk
end Go
namespace Go
open Go.Sort Go.RowKit
section
variable {P : Program} {g : FuncId} {fst cb : Array Value} {cf : Nat → Nat → Int} {blk off n : Nat} {Γ : Type} {K : Γ → Array Nat → World → Prop} {Out : Γ → Nat → Prop}
def ltf (cf : Nat → Nat → Int) (x y : Nat) : Bool := decide (cf x y < 0)
/-- what the sort leaves: the row turned, what lies outside as it was -/
def SPost {Γ : Type} (K : Γ → Array Nat → World → Prop) (Out : Γ → Nat → Prop) (γ : Γ) (w : World) (d' : Array Nat) (w' : World) : Prop :=
  ∃ γ', K γ' d' w' ∧ w.heap.size ≤ w'.heap.size ∧ ∀ c, Out γ c → c < w.heap.size → Out γ' c ∧ w'.heap[c]? = w.heap[c]?
theorem SPost.refl {γ : Γ} {d : Array Nat} {w : World} (h : K γ d w) : SPost K Out γ w d w := ⟨γ, h, Nat.le_refl _, fun _ ho _ => ⟨ho, rfl⟩⟩
theorem SRow.pdrew (S : SRow P g fst cb cf blk off n Γ K Out) {γ : Γ} {d : Array Nat} {w w' : World} (h : SPost K Out γ w d w') : SPost K Out γ w d w'.drew := by
  obtain ⟨γ', h1, h2, h3⟩ := h
  exact ⟨γ', S.drew h1, h2, h3⟩
theorem SPost.size {γ : Γ} {d : Array Nat} {w w' : World} (S : SRow P g fst cb cf blk off n Γ K Out) (h : SPost K Out γ w d w') : d.size = n := by
  obtain ⟨γ', h1, _⟩ := h; exact S.size h1
theorem SRow.pcell (S : SRow P g fst cb cf blk off n Γ K Out) {γ : Γ} {d : Array Nat} {w w' : World} (h : SPost K Out γ w d w') (i : Nat) (hi : i < n) :
    w'.cell? ⟨blk, off + i, none⟩ = some (.int .i64 (d[i]! : Nat)) := by obtain ⟨γ', h1, _⟩ := h; exact S.cell h1 i hi
theorem SRow.pfree (S : SRow P g fst cb cf blk off n Γ K Out) {γ : Γ} {d : Array Nat} {w w' : World} (h : SPost K Out γ w d w') (i : Nat) (hi : i < n) :
    w'.frozen? ⟨blk, off + i, none⟩ = false := by obtain ⟨γ', h1, _⟩ := h; exact S.free h1 i hi
theorem SRow.pswap (S : SRow P g fst cb cf blk off n Γ K Out) {γ : Γ} {d : Array Nat} {w w' : World} (h : SPost K Out γ w d w') (i j : Nat) (hi : i < n) (hj : j < n) :
    SPost K Out γ w (swp d i j) (((w'.setCell ⟨blk, off + i, none⟩ (.int .i64 (d[j]! : Nat))).setCell ⟨blk, off + j, none⟩ (.int .i64 (d[i]! : Nat))).drew) := by
  obtain ⟨γ', h1, h2, h3⟩ := h
  refine ⟨γ', S.drew (S.swap h1 i j hi hj), by simpa using h2, fun c hc hl => ?_⟩
  obtain ⟨h4, h5⟩ := h3 c hc hl
  have hne := S.out h4
  refine ⟨h4, ?_⟩
  show ((w'.setCell _ _).setCell _ _).heap[c]? = _
  rw [RowKit.Below.heap_setCell _ _ _ _ hne, RowKit.Below.heap_setCell _ _ _ _ hne]
  exact h5
theorem SRow.pcell2 (S : SRow P g fst cb cf blk off n Γ K Out) {γ : Γ} {d : Array Nat} {w w' : World} (h : SPost K Out γ w d w') (i j : Nat) (hi : i < n) (hj : j < n) (v : Value) :
    ∃ u, (w'.setCell ⟨blk, off + i, none⟩ v).cell? ⟨blk, off + j, none⟩ = some u := by
  by_cases e : i = j
  · subst e; exact ⟨v, World.cell?_setCell_same _ _ _ (S.pcell h i hi)⟩
  · exact ⟨_, (World.cell?_setCell_other _ _ _ _ (by intro e'; simp only [Addr.mk.injEq] at e'; omega)).trans (S.pcell h j hj)⟩
theorem SRow.pcmp (S : SRow P g fst cb cf blk off n Γ K Out) {γ : Γ} {d : Array Nat} {w w' : World} (h : SPost K Out γ w d w') (i j : Nat) (hi : i < n) (hj : j < n) :
    Calls P g (fst ++ (#[.int .i64 (d[i]! : Nat), .int .i64 (d[j]! : Nat)] ++ cb)) w'.drew fun e w2 => e = .returned (.int .i64 (cf d[i]! d[j]!)) ∧ Hid (SPost K Out γ w d w2) := by
  obtain ⟨γ', h1, h2, h3⟩ := h
  refine (S.cmp (S.drew h1) i j hi hj).mono ?_
  rintro e w2 ⟨he, γ2, k1, k2, k3⟩
  refine ⟨he, γ2, k1, Nat.le_trans h2 k2, fun c hc hl => ?_⟩
  obtain ⟨a1, a2⟩ := h3 c hc hl
  obtain ⟨b1, b2⟩ := k3 c a1 (Nat.lt_of_lt_of_le hl h2)
  exact ⟨b1, b2.trans a2⟩
theorem SPost.and {γ γ1 : Γ} {d2 : Array Nat} {w w1 w2 : World} (h2 : w.heap.size ≤ w1.heap.size) (h3 : ∀ c, Out γ c → c < w.heap.size → Out γ1 c ∧ w1.heap[c]? = w.heap[c]?)
    (k : SPost K Out γ1 w1 d2 w2) : SPost K Out γ w d2 w2 := by
  obtain ⟨γ', k1, k2, k3⟩ := k
  refine ⟨γ', k1, Nat.le_trans h2 k2, fun c hc hl => ?_⟩
  obtain ⟨a1, a2⟩ := h3 c hc hl
  obtain ⟨b1, b2⟩ := k3 c a1 (Nat.lt_of_lt_of_le hl h2)
  exact ⟨b1, b2.trans a2⟩

/-! plain steps -/
variable {lt : Nat → Nat → Bool}
theorem insInner_go (a q : Nat) (d : Array Nat) (h1 : a < q + 1) (h2 : lt d[q + 1]! d[q]! = true) : insInner lt a (q + 1) d = insInner lt a q (swp d (q + 1) q) := by
  rw [insInner]; simp [h2]; omega
theorem insInner_stop (a q : Nat) (d : Array Nat) (h2 : lt d[q + 1]! d[q]! = false) : insInner lt a (q + 1) d = d := by
  rw [insInner]; simp [h2]
theorem insInner_end (a : Nat) (d : Array Nat) : insInner lt a a d = d := by
  cases a with
  | zero => rfl
  | succ a => rw [insInner]; simp
theorem insOuter_go (a b i : Nat) (d : Array Nat) (h : i < b) : insOuter lt a b i d = insOuter lt a b (i + 1) (insInner lt a i d) := by
  rw [insOuter]; simp [h]
theorem insOuter_stop (a b i : Nat) (d : Array Nat) (h : ¬ i < b) : insOuter lt a b i d = d := by
  rw [insOuter]; simp [h]
end
end Go
