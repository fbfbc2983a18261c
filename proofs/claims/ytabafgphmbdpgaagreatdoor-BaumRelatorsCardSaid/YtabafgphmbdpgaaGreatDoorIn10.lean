/- Texts of this claim, joined: Late, Sh, Shf, OfP, Small, Of, PartP. -/
import Derived.Test.YtabafgphmbdpgaaGreatDoorIn9
import Derived.Deep.RegionHeld2
/- A region that draws its order: loads first, though a last operation writes what they read. -/
namespace Sr
open Go

section
variable {P : Program} {ops : Array Oper} {Q : Exit → Act → World → Prop} {md : Region.Mode} {S : World → Prop} {late : List Nat}

/-- whatever order is picked; S holds behind every operation but the late ones -/
def wpAnyL (P : Program) (md : Region.Mode) (ops : Array Oper) (Q : Exit → Act → World → Prop) (S : World → Prop) (late : List Nat) : Nat → Array Bool → Act → World → Prop
  | 0, listed, a, w => Region.ready md ops listed = [] ∧ Q .normal a w
  | fuel + 1, listed, a, w =>
    (Region.ready md ops listed = [] → Q .normal a w) ∧
    ∀ i ∈ Region.ready md ops listed, wpOp P ops Q i (fun a' w' => (late.contains i = true ∨ S w') ∧ wpAnyL P md ops Q S late fuel (listed.setIfInBounds i true) a' w') a w
theorem wpAny_of_late : ∀ (fuel : Nat) (listed : Array Bool) (a : Act) (w : World), wpAnyL P md ops Q S late fuel listed a w → wpAny P md ops Q fuel listed a w
  | 0, _, _, _, h => h
  | fuel + 1, _, _, _, h => ⟨h.1, fun i hi => wpOp_mono (fun a' w' h' => wpAny_of_late fuel _ a' w' h'.2) (h.2 i hi)⟩

/-- which operations wait for number i, one behind another -/
def marks (md : Region.Mode) (ops : Array Oper) (i : Nat) (l : List Nat) (m : Array Bool) : Array Bool :=
  l.foldl (fun m j => m.push (match ops[j]? with | some o => o.after.any (fun e => Region.binds md e && (e.on == i || m.getD e.on false)) | none => false)) m
/-- the late operations wait for number i -/
def waits (md : Region.Mode) (ops : Array Oper) (late : List Nat) (i : Nat) : Bool := late.all fun j => (marks md ops i (List.range ops.size) #[]).getD j false
/-- what has come up is closed: all that it waits for has come up -/
def shut (md : Region.Mode) (ops : Array Oper) (listed : Array Bool) : Bool :=
  (List.range ops.size).all fun k => !listed.getD k false || match ops[k]? with | some o => o.after.all (fun e => !Region.binds md e || listed.getD e.on false) | none => true
theorem shut_spec {listed : Array Bool} (h : shut md ops listed = true) {k : Nat} {o : Oper} (ho : ops[k]? = some o) (hk : listed.getD k false = true) {e : Edge} (he : e ∈ o.after) (hb : Region.binds md e = true) : listed.getD e.on false = true := by
  have h1 := List.all_eq_true.1 h k (List.mem_range.2 (Array.getElem?_eq_some_iff.1 ho).1)
  rw [hk, ho] at h1
  simp only [Bool.not_true, Bool.false_or] at h1
  have h2 := Array.all_eq_true_iff_forall_mem.1 h1 e he
  rw [hb] at h2
  simpa using h2
theorem shut_set {listed : Array Bool} (h : shut md ops listed = true) {j : Nat} (hj : j ∈ Region.ready md ops listed) : shut md ops (listed.setIfInBounds j true) = true := by
  refine List.all_eq_true.2 fun k hk => ?_
  cases ho : ops[k]? with
  | none => simp
  | some o =>
    simp only [Bool.or_eq_true, Bool.not_eq_true']
    by_cases hjk : j = k
    · subst hjk
      right
      obtain ⟨_, o', ho', hall⟩ := mem_ready.1 hj
      rw [ho] at ho'; cases ho'
      refine Array.all_eq_true_iff_forall_mem.2 fun e he => ?_
      cases hb : Region.binds md e with
      | false => rfl
      | true => simp only [Bool.not_true, Bool.false_or]; exact getD_set_true (hall e he hb)
    · cases hl : listed.getD k false with
      | false => left; rw [getD_set_ne false hjk]; exact hl
      | true =>
        right
        refine Array.all_eq_true_iff_forall_mem.2 fun e he => ?_
        cases hb : Region.binds md e with
        | false => rfl
        | true => simp only [Bool.not_true, Bool.false_or]; exact getD_set_true (shut_spec h ho hl he hb)
theorem marks_spec {i : Nat} {listed : Array Bool} (hs : shut md ops listed = true) (hi : listed.getD i false = false) : ∀ (n : Nat) (l : List Nat) (m : Array Bool), m.size = n → l = List.range' n l.length → (∀ k, m.getD k false = true → listed.getD k false = false ∧ ∃ o e, ops[k]? = some o ∧ e ∈ o.after ∧ Region.binds md e = true ∧ listed.getD e.on false = false) →
    ∀ k, (marks md ops i l m).getD k false = true → listed.getD k false = false ∧ ∃ o e, ops[k]? = some o ∧ e ∈ o.after ∧ Region.binds md e = true ∧ listed.getD e.on false = false
  | _, [], _, _, _, hm => hm
  | n, j :: l, m, hsz, hl, hm => by
    have hj : j = n ∧ l = List.range' (n + 1) l.length := by
      rw [List.length_cons, List.range'_succ] at hl
      exact ⟨by injection hl, by injection hl⟩
    obtain ⟨rfl, hl'⟩ := hj
    refine marks_spec hs hi (j + 1) l _ (by simp [hsz]) hl' fun k hk => ?_
    by_cases hkj : k = j
    · subst hkj
      have hg : (m.push (match ops[k]? with | some o => o.after.any (fun e => Region.binds md e && (e.on == i || m.getD e.on false)) | none => false)).getD k false = (match ops[k]? with | some o => o.after.any (fun e => Region.binds md e && (e.on == i || m.getD e.on false)) | none => false) := by
        rw [Array.getD_eq_getD_getElem?, ← hsz, Array.getElem?_push_size]; rfl
      rw [hg] at hk
      cases ho : ops[k]? with
      | none => rw [ho] at hk; cases hk
      | some o =>
        rw [ho] at hk
        obtain ⟨e, he, hb⟩ := Array.any_eq_true'.1 hk
        simp only [Bool.and_eq_true, Bool.or_eq_true, beq_iff_eq] at hb
        have hun : listed.getD e.on false = false := by
          rcases hb.2 with h | h
          · rw [h]; exact hi
          · exact (hm e.on h).1
        refine ⟨?_, o, e, rfl, he, hb.1, hun⟩
        cases hlk : listed.getD k false with
        | false => rfl
        | true => rw [shut_spec hs ho hlk he hb.1] at hun; cases hun
    · refine hm k ?_
      rw [Array.getD_eq_getD_getElem?, Array.getElem?_push, if_neg (by omega)] at hk
      rw [Array.getD_eq_getD_getElem?]; exact hk
theorem not_late {i j : Nat} {listed : Array Bool} (hw : waits md ops late i = true) (hu : shut md ops listed = true) (hi : i ∈ Region.ready md ops listed) (hj : j ∈ Region.ready md ops listed) : late.contains j = false := by
  cases hc : late.contains j with
  | false => rfl
  | true =>
    exfalso
    obtain ⟨_, oj, hoj, hall⟩ := mem_ready.1 hj
    have hi0 : listed.getD i false = false := by
      have h := (mem_ready.1 hi).1
      rcases Nat.lt_or_ge i listed.size with h' | h'
      · simp [h'] at h ⊢; exact h
      · simp [Array.getElem?_eq_none h'] at h
    have h1 := List.all_eq_true.1 hw j (by simpa using hc)
    obtain ⟨_, o, e, ho, he, hb, hun⟩ := marks_spec hu hi0 0 (List.range ops.size) #[] rfl (by rw [List.length_range, List.range_eq_range']) (fun k hk => by simp at hk) j h1
    rw [hoj] at ho; cases ho
    rw [hall e he hb] at hun; cases hun

theorem wpAnyL_first {i : Nat} {oi : Oper} {v : Value} (hi : ops[i]? = some oi) (hsel : ∀ (j : Nat) (o : Oper) cs b, ops[j]? = some o → o.op ≠ .select cs b)
    (hQ : ∀ c a w, Q (.panic c) (a.put oi.dst v) w → Q (.panic c) a w) (hw8 : waits md ops late i = true) :
    ∀ (fuel : Nat) (listed : Array Bool) (a : Act) (w : World), shut md ops listed = true →
      (∀ j oj, ops[j]? = some oj → j ≠ i → listed.getD j true = false → (∀ e ∈ oj.after, Region.binds md e = true → e.on ≠ i) → oi.apart ops oj = true) →
      i ∈ Region.ready md ops listed → YieldsIf P ops S oi v a → S w →
      wpAnyL P md ops Q S late fuel (listed.setIfInBounds i true) (a.put oi.dst v) w → wpAnyL P md ops Q S late (fuel + 1) listed a w := by
  intro fuel
  induction fuel with
  | zero =>
    intro listed a w hu _ hr hy hS H
    refine ⟨fun h => (by rw [h] at hr; cases hr), fun j hj => ?_⟩
    by_cases hji : j = i
    · subst hji; exact hy.wpOp hi hS ⟨.inr hS, H⟩
    · have := ready_mono hj hji
      rw [H.1] at this
      cases this
  | succ fuel ih =>
    intro listed a w hu hfree hr hy hS H
    refine ⟨fun h => (by rw [h] at hr; cases hr), fun j hj => ?_⟩
    by_cases hji : j = i
    · subst hji; exact hy.wpOp hi hS ⟨.inr hS, H⟩
    · have hnl := not_late hw8 hu hr hj
      have h1 := H.2 j (ready_mono hj hji)
      obtain ⟨hjun, oj, hoj, hall⟩ := mem_ready.1 hj
      have hnot : ∀ e ∈ oj.after, Region.binds md e = true → e.on ≠ i := fun e he hb heq => by
        have h1 := hall e he hb
        have h0 := (mem_ready.1 hr).1
        rw [heq] at h1
        rcases Nat.lt_or_ge i listed.size with h' | h'
        · simp [h'] at h0 h1; rw [h0] at h1; cases h1
        · simp [Array.getElem?_eq_none h'] at h1
      have h2 := wpOp_putIf hoj (hfree j oj hoj hji hjun hnot) (fun cs b => hsel i oi cs b hi) (fun cs b => hsel j oj cs b hoj) hQ hy h1
      have hfree' : ∀ k ok, ops[k]? = some ok → k ≠ i → (listed.setIfInBounds j true).getD k true = false →
          (∀ e ∈ ok.after, Region.binds md e = true → e.on ≠ i) → oi.apart ops ok = true := fun k ok hk hki hun hno => by
        refine hfree k ok hk hki ?_ hno
        by_cases hjk : j = k
        · subst hjk; exact hjun
        · rw [getD_set_ne true hjk] at hun; exact hun
      have hu' := shut_set hu hj
      refine wpOp_mono (fun a' w' h3 => ?_) h2
      have hS3 : S w' := h3.2.1.resolve_left (by rw [hnl]; decide)
      refine ⟨.inr hS3, ih (listed.setIfInBounds j true) a' w' hu' hfree' (ready_mono hr (Ne.symm hji)) h3.1 hS3 ?_⟩
      rw [Array.setIfInBounds_comm _ _ hji]
      exact h3.2.2

theorem wpAnyL_take {i : Nat} {oi : Oper} {v : Value} {fuel : Nat} {listed : Array Bool} {a : Act} {w : World} (hi : ops[i]? = some oi)
    (hs : Region.noSelect ops = true) (hf : Region.free md ops listed i = true) (hr : (Region.ready md ops listed).contains i = true)
    (hw8 : waits md ops late i = true) (hu : shut md ops listed = true)
    (hQ : ∀ c a w, Q (.panic c) (a.put oi.dst v) w → Q (.panic c) a w) (hy : YieldsIf P ops S oi v a) (hS : S w)
    (h : wpAnyL P md ops Q S late fuel (listed.setIfInBounds i true) (a.put oi.dst v) w) : wpAnyL P md ops Q S late (fuel + 1) listed a w :=
  wpAnyL_first hi (Region.noSelect_spec hs) hQ hw8 fuel listed a w hu (Region.free_spec hi hf) (by simpa using hr) hy hS h

/-- one operation alone may come up -/
theorem wpAnyL_step {i : Nat} {o : Oper} {fuel : Nat} {listed : Array Bool} {a : Act} {w : World} (ho : ops[i]? = some o) (hr : Region.ready md ops listed = [i])
    (h : ∀ K' : Act → World → Prop, Shut (∀ a w, S w → (S w → wpAnyL P md ops Q S late fuel (listed.setIfInBounds i true) a w) → K' a w) → if Region.wanted o (yielded ops a.tmps) = true then Oper.wp P o a w K' Q else K' (a.put o.dst undef) w) :
    wpAnyL P md ops Q S late (fuel + 1) listed a w :=
  ⟨fun h0 => (by rw [h0] at hr; cases hr), fun j hj => by
    rw [hr] at hj
    obtain rfl : j = i := by simpa using hj
    exact wpOp_step ho (fun K' hK => h K' (fun a w hS hW => hK a w ⟨.inr hS, hW hS⟩))⟩
/-- .. a late one -/
theorem wpAnyL_late {i : Nat} {o : Oper} {fuel : Nat} {listed : Array Bool} {a : Act} {w : World} (ho : ops[i]? = some o) (hr : Region.ready md ops listed = [i]) (hl : late.contains i = true)
    (h : ∀ K' : Act → World → Prop, Shut (∀ a w, wpAnyL P md ops Q S late fuel (listed.setIfInBounds i true) a w → K' a w) → if Region.wanted o (yielded ops a.tmps) = true then Oper.wp P o a w K' Q else K' (a.put o.dst undef) w) :
    wpAnyL P md ops Q S late (fuel + 1) listed a w :=
  ⟨fun h0 => (by rw [h0] at hr; cases hr), fun j hj => by
    rw [hr] at hj
    obtain rfl : j = i := by simpa using hj
    exact wpOp_step ho (fun K' hK => h K' (fun a w hW => hK a w ⟨.inl hl, hW⟩))⟩
theorem wpAnyL_done {listed : Array Bool} {a : Act} {w : World} (hr : Region.ready md ops listed = []) (h : Q .normal a w) :
    ∀ fuel, wpAnyL P md ops Q S late fuel listed a w
  | 0 => ⟨hr, h⟩
  | _ + 1 => ⟨fun _ => h, by rw [hr]; simp⟩
theorem wp_region_late {id : Nat} {a : Act} {w : World} (hm : P.follows .mixedOrders = true) (hS : S w.drew)
    (h : S w.drew → wpAnyL P .any ops Q S late ops.size (Array.replicate ops.size false) a w.drew) : (Code.region id ops true).wp P Q a w :=
  wp_region_any hm (wpAny_of_late _ _ _ _ (h hS))
end
end Sr
/- A number times a power of two: the plain part. -/
namespace Sr

/-- the terms of x, each exponent greater by y -/
def shl (x y : Int) : List Tm := (form x).map fun t => (t.1, ((t.2 : Int) + y).toNat)
/-- x times 2 to the power of y, where it is a whole number -/
def shx (x y : Int) : Int := lv (shl x y)
def shOK (x y : Int) : Prop := ∀ e ∈ exps x, 0 ≤ (e : Int) + y

theorem shl_naf {x y : Int} (h : shOK x y) : Naf (shl x y) := by
  unfold Naf shl
  rw [List.pairwise_map]
  refine (form_naf x).imp_of_mem fun {a b} ha hb hab => ?_
  have h1 := h a.2 (mem_exps ha)
  have h2 := h b.2 (mem_exps hb)
  show ((b.2 : Int) + y).toNat + 1 < ((a.2 : Int) + y).toNat
  omega
theorem form_shx {x y : Int} (h : shOK x y) : form (shx x y) = shl x y := form_of' (shl_naf h) rfl
theorem exps_shx {x y : Int} (h : shOK x y) : exps (shx x y) = (exps x).map fun (e : Nat) => ((e : Int) + y).toNat := by
  unfold exps; rw [form_shx h, shl, List.map_map, List.map_map]; rfl
theorem shOK_nat (x : Int) (k : Nat) : shOK x k := fun e _ => by omega
theorem shx_nat (x : Int) (k : Nat) : shx x k = x * 2 ^ k := by
  have key : ∀ l : List Tm, lv (l.map fun t => (t.1, ((t.2 : Int) + (k : Int)).toNat)) = lv l * 2 ^ k := by
    intro l
    induction l with
    | nil => simp [lv]
    | cons t l ih =>
      obtain ⟨s, e⟩ := t
      simp only [List.map_cons, lv, ih, Int.add_mul]
      congr 1
      have : ((e : Int) + (k : Int)).toNat = e + k := by omega
      rw [this]
      cases s <;> simp [tv, Int.pow_add, Int.neg_mul]
  unfold shx shl
  rw [key, form_val]
/-- shifted back -/
theorem shx_back {x y : Int} (h : shOK x y) : shx (shx x y) (-y) = x := by
  have hf := form_shx h
  unfold shx
  have : shl (lv (shl x y)) (-y) = form x := by
    unfold shl at *
    have hf' : form (lv ((form x).map fun t => (t.1, ((t.2 : Int) + y).toNat))) = (form x).map fun t => (t.1, ((t.2 : Int) + y).toNat) := hf
    rw [hf', List.map_map]
    conv => rhs; rw [← List.map_id (form x)]
    refine List.map_congr_left fun t ht => ?_
    have := h t.2 (mem_exps ht)
    obtain ⟨s, e⟩ := t
    simp only [Function.comp, id, Prod.mk.injEq, true_and]
    dsimp only at this
    omega
  rw [this, form_val]
theorem shx_neg {x : Int} {k : Nat} (h : shOK x (-(k : Int))) : shx x (-(k : Int)) * 2 ^ k = x := by
  have := shx_back h
  rw [Int.neg_neg, shx_nat] at this
  exact this
end Sr
/- world.shifted; Shift of numbers. -/
namespace Sr
open Go Go.Proofs Go.RowKit Go.Maps Go.WideMaps

/-- the terms that are shifted already -/
def dn (vs : List Int) (x y : Int) (k : Nat) : List PT := ((form x).take k).map fun t => (t.1, vs.idxOf ((t.2 : Int) + y))

structure ShSt (C : List Nat) (w1 : World) (p : Nat) (F : List Nat) (vs : List Int) (m : Nat) (x y : Int) (rv : Value) (n k : Nat) (F' : List Nat) (D' : WD) (vs' : List Int) (gk' : List Nat) (wr : World) : Prop where
  wo : WO C wr p F' D' vs' gk' (m + k)
  fr : Fr (rv.ownBlock.toList ++ F) w1 wr
  sub : ∀ b ∈ F', b ∈ F ∨ w1.heap.size ≤ b
  pre : vs <+: vs'
  mem : ∀ e ∈ (exps x).take k, 0 ≤ ((e : Nat) : Int) + y ∧ ((e : Nat) : Int) + y ∈ vs'
  row : wr.ownsRow 0 154 2 rv n (tcells (dn vs' x y k ++ (pf vs x).drop k))
  far : ∀ b, rv.ownBlock = some b → b ∉ F ∧ b < w1.heap.size

section
variable {C : List Nat} {w1 wr : World} {p : Nat} {F : List Nat} {vs : List Int} {m : Nat} {x y : Int} {rv : Value} {n k : Nat} {F' : List Nat} {D' : WD} {vs' : List Int} {gk' : List Nat}

theorem ShSt.notF (S : ShSt C w1 p F vs m x y rv n k F' D' vs' gk' wr) : ∀ b, rv.ownBlock = some b → b ∉ F' := fun b e h => by
  obtain ⟨h1, h2⟩ := S.far b e
  rcases S.sub b h with h | h
  · exact h1 h
  · omega
theorem dn_len (S : ShSt C w1 p F vs m x y rv n k F' D' vs' gk' wr) {t : Tm} (ht : (form x)[k]? = some t) : (dn vs' x y k).length = k := by
  have _ := S
  have := (List.getElem?_eq_some_iff.1 ht).1
  unfold dn; rw [List.length_map, List.length_take]; omega
theorem ShSt.here (S : ShSt C w1 p F vs m x y rv n k F' D' vs' gk' wr) {t : Tm} (ht : (form x)[k]? = some t) : (dn vs' x y k ++ (pf vs x).drop k)[k]? = some (t.1, vs.idxOf (t.2 : Int)) := by
  have e2 := dn_len S ht
  rw [List.getElem?_append_right (by omega), e2, Nat.sub_self, List.getElem?_drop, Nat.add_zero]
  unfold pf; rw [List.getElem?_map, ht]; rfl

theorem ShSt.next {g c1 : Nat} (S : ShSt C w1 p F vs m x y (.slice (some ⟨g, 0, none⟩) n c1) n k F' D' vs' gk' wr) {t : Tm} (ht : (form x)[k]? = some t) (hz : 0 ≤ (t.2 : Int) + y) {w7 : World} {F7 : List Nat} {D7 : WD} {vs7 : List Int} {gk7 : List Nat}
    (hwo : WO C w7 p F7 D7 vs7 gk7 (m + k + 1)) (hpre : vs' <+: vs7) (hzm : (t.2 : Int) + y ∈ vs7) (hfr : Fr F' wr w7) (hsub : ∀ b ∈ F7, b ∈ F' ∨ wr.heap.size ≤ b) :
    ShSt C w1 p F vs m x y (.slice (some ⟨g, 0, none⟩) n c1) n (k + 1) F7 D7 vs7 gk7 (w7.setCell ⟨g, k * 2 + 1, none⟩ (.int .i64 (vs7.idxOf ((t.2 : Int) + y) : Nat))) ∧
    (∃ u, w7.cell? ⟨g, k * 2 + 1, none⟩ = some u) ∧ w7.frozen? ⟨g, k * 2 + 1, none⟩ = false := by
  have hgF := S.notF g rfl
  have hgl : g < wr.heap.size := ownsRow_lt S.row rfl
  have hsz := S.fr.size
  have hgF7 : g ∉ F7 := fun h => by
    rcases hsub g h with h | h
    · exact hgF h
    · omega
  have hrow7 : w7.ownsRow 0 154 2 (.slice (some ⟨g, 0, none⟩) n c1) n (tcells (dn vs' x y k ++ (pf vs x).drop k)) := ownsRow_kept S.row fun b e => by
    have : g = b := Option.some.inj e
    subst this; exact hfr.block g hgl hgF
  have hh := S.here ht
  have hset := setP (vs7.idxOf ((t.2 : Int) + y)) hh hrow7
  have hdn : dn vs7 x y (k + 1) ++ (pf vs x).drop (k + 1) = (dn vs' x y k ++ (pf vs x).drop k).set k (t.1, vs7.idxOf ((t.2 : Int) + y)) := by
    have e2 := dn_len S ht
    have e3 : dn vs7 x y (k + 1) = dn vs' x y k ++ [(t.1, vs7.idxOf ((t.2 : Int) + y))] := by
      unfold dn
      rw [take_succ ht, List.map_append]
      congr 1
      refine List.map_congr_left fun u hu => ?_
      have := (S.mem u.2 (by unfold exps; rw [← List.map_take]; exact List.mem_map.2 ⟨u, hu, rfl⟩)).2
      rw [idx_ext hpre this]
    have hpk : (pf vs x)[k]? = some (t.1, vs.idxOf (t.2 : Int)) := by unfold pf; rw [List.getElem?_map, ht]; rfl
    rw [e3, drop_of hpk, List.append_assoc, List.set_append_right _ _ (by omega), e2, Nat.sub_self]
    simp
  obtain ⟨h1, ⟨h2, _⟩ | ⟨g', cap', cur, hv, _, h4, h5, h6, h7, h8⟩⟩ := hrow7
  · cases h2
  · cases hv
    refine ⟨⟨?_, ?_, ?_, S.pre.trans hpre, ?_, ?_, S.far⟩, ?_, free_of h4 _⟩
    · exact hwo.setCell hgF7 _
    · refine ⟨hfr.os.trans S.fr.os, hfr.tape.trans S.fr.tape, hfr.output.trans S.fr.output, by have := hfr.size; simp; omega, fun b hb hn => ?_⟩
      have hne : b ≠ g := fun e => hn (by simp [e, Value.ownBlock])
      rw [RowKit.Below.heap_setCell _ _ _ _ (by show b ≠ g; exact hne), hfr.block b (by omega) (fun h => by
        rcases S.sub b h with h | h
        · exact hn (List.mem_append.2 (.inr h))
        · omega)]
      exact S.fr.block b hb hn
    · intro b hb
      rcases hsub b hb with h | h
      · exact S.sub b h
      · exact .inr (by omega)
    · intro e he
      have hek : (exps x)[k]? = some t.2 := by unfold exps; rw [List.getElem?_map, ht]; rfl
      rw [take_succ hek] at he
      rcases List.mem_append.1 he with he | he
      · obtain ⟨q1, q2⟩ := S.mem e he
        exact ⟨q1, mem_ext hpre q2⟩
      · simp at he; subst he; exact ⟨hz, hzm⟩
    · rw [hdn]; exact hset
    · have hk2 : k * 2 + 1 < cur.size := by
        have h9 := tcells_len (dn vs' x y k ++ (pf vs x).drop k)
        have h10 : k < (dn vs' x y k ++ (pf vs x).drop k).length := (List.getElem?_eq_some_iff.1 hh).1
        have h11 : (cur.toList.take (n * 2)).length = (tcells (dn vs' x y k ++ (pf vs x).drop k)).length := by rw [h8]
        rw [List.length_take] at h11
        simp only [Array.length_toList] at h11
        omega
      exact ⟨cur[k * 2 + 1], by rw [cell_of h4, Array.getElem?_eq_getElem hk2]⟩
end

theorem isg_nn {x : Int} (h : 0 ≤ x) : ¬ (isg x < 0) := by unfold isg; split <;> (try split) <;> omega
theorem isg_lt {x : Int} (h : ¬ 0 ≤ x) : isg x < 0 := by rw [isg_neg (by omega)]; omega
theorem sh_fe {C : List Nat} {W w1 wr w6 : World} {p : Nat} {F F6 : List Nat} {vs : List Int} {m : Nat} {x y : Int} {rv : Value} {n k : Nat} {F' : List Nat} {D' : WD} {vs' : List Int} {gk' : List Nat} (hb : Below W.heap.size W w1) (S : ShSt C w1 p F vs m x y rv n k F' D' vs' gk' wr)
    (ho : ∀ b, rv.ownBlock = some b → W.heap.size ≤ b) (hf : FE F' wr F6 w6) : FE F W F6 w6 := by
  have h1 := hb.size
  have h2 := S.fr.size
  refine ⟨⟨hf.fr.os.trans (S.fr.os.trans hb.os), hf.fr.tape.trans (S.fr.tape.trans hb.tape), hf.fr.output.trans (S.fr.output.trans hb.output), by have := hf.fr.size; omega, fun b hbl hn => ?_⟩, fun b h => ?_⟩
  · rw [hf.fr.block b (by omega) (fun h => by rcases S.sub b h with h | h; exact hn h; omega), S.fr.block b (by omega) (fun h => by
      rcases List.mem_append.1 h with h | h
      · have := ho b (by simpa using h); omega
      · exact hn h)]
    exact hb.block b hbl
  · rcases hf.sub b h with h | h
    · rcases S.sub b h with h | h
      · exact .inl h
      · exact .inr (by omega)
    · exact .inr (by omega)
/-- how shifted ends -/
def ShQ (C : List Nat) (W : World) (p : Nat) (F : List Nat) (vs : List Int) (m : Nat) (x y : Int) (e : Ending) (W' : World) : Prop :=
  ∃ (F' : List Nat) (D' : WD) (vs' : List Int) (gk' : List Nat) (v' : Value) (ok : Bool), e = .returned (.tuple #[v', .bool ok]) ∧ Hid (WO C W' p F' D' vs' gk' (m + 300)) ∧ Hid (FE F W F' W') ∧ Hid (vs <+: vs') ∧
    Hid ((ok = true ∧ shOK x y ∧ TRow W' v' (pf vs' (shx x y)) ∧ (∀ e ∈ exps (shx x y), (e : Int) ∈ vs') ∧ ∀ b, v'.ownBlock = some b → W.heap.size ≤ b ∧ b ∉ F') ∨ (ok = false ∧ ¬ shOK x y))

theorem cell_newer {W : World} {a : Addr} {v : Value} (o : Obj) (h : W.cell? a = some v) : (W.alloc o).drew.cell? a = some v := (World.cell?_alloc_some W a o (by rw [h]; rfl)).trans h
theorem cell_kept {W w : World} (h : Below W.heap.size W w) {b o : Nat} {v : Value} (hc : W.cell? ⟨b, o, none⟩ = some v) : w.cell? ⟨b, o, none⟩ = some v := by
  have hb := h.block b (cell_lt hc)
  rw [← hc]; simp only [World.cell?, hb]
set_option maxHeartbeats 8000000 in
set_option maxRecDepth 100000 in
theorem shifted_calls {P C : List Nat} {m m0 : Nat} (hc : Cov P C m0) {W : World} {p : Nat} {F : List Nat} {D : WD} {vs : List Int} {gk : List Nat} (H : Hid (WO C W p F D vs gk m)) {v : Value} {x y : Int} (hl : TRow W v (pf vs x)) (hm : m + 301 ≤ m0)
    (hx : ∀ e ∈ exps x, (e : Int) ∈ vs ∧ (form (e : Int)).length ≤ 300 ∧ ∀ a ∈ exps (e : Int), a ∈ P) (hxl : (form x).length ≤ 300) (hy : y ∈ vs ∧ (form y).length ≤ 300 ∧ ∀ a ∈ exps y, a ∈ P) :
    Calls Tryz.prog 61 #[.pointer (some ⟨p, 0, none⟩), v, .int .i64 (vs.idxOf y : Nat)] W (ShQ C W p F vs m x y) := by
  have hpl : (pf vs x).length = (form x).length := by simp [pf]
  have HCov := Lib.hid hc
  have HX : Hid (∀ e ∈ exps x, (e : Int) ∈ vs ∧ (form (e : Int)).length ≤ 300 ∧ ∀ a ∈ exps (e : Int), a ∈ P) := hx
  have HY := Lib.hid hy
  have HM : Hid (m + 301 ≤ m0) := hm
  have HCl := clone_calls hl (by omega)
  obtain ⟨n, hn⟩ : ∃ n, n = (pf vs x).length := ⟨_, rfl⟩
  have HN : Hid (n = (form x).length) := hn.trans hpl
  have hnb : n ≤ 300 := by omega
  obtain ⟨b, hb⟩ : ∃ b, b = vs.idxOf y := ⟨_, rfl⟩
  have HB : Hid (b = vs.idxOf y) := hb
  rw [← hb]
  have HVB : Hid (∀ b, v.ownBlock = some b → b < W.heap.size) := fun b e => ownsRow_lt hl e
  clear hc hx hy hm hb hl hpl hxl
  go_enter Tryz.func61, Tryz.ntmps61
  go_wp2_with fail
  refine HCl.mono ?_
  rintro z w1 ⟨v1, rfl, hr1, hb1, ho1⟩
  clear HCl
  obtain ⟨a1, c1, rfl, _, _⟩ := hr1.out.shape
  rw [← hn] at hr1 ho1 ⊢
  have S0 : Hid (ShSt C w1 p F vs m x y (.slice a1 n c1) n 0 F D vs gk w1) :=
    ⟨H.out.below hb1.out, Fr.refl _ _, fun _ h => .inl h, List.prefix_refl _, by simp, by have := hr1.out; unfold TRow at this; rw [← hn] at this; simpa [dn] using this, fun b e => by
      have := ho1.out b e
      exact ⟨fun h => by have := H.out.blt b h; omega, ownsRow_lt hr1.out e⟩⟩
  have HO1 : Hid (∀ b, (Value.slice a1 n c1).ownBlock = some b → W.heap.size ≤ b) := ho1
  have HFW : Hid (Below W.heap.size W w1) := hb1
  clear hr1 hb1 ho1 hn
  go_wp2_with fail
  go_loopg [15] n (fun g1 vi wr => ∃ (k : Nat) (F' : List Nat) (D' : WD) (vs' : List Int) (gk' : List Nat), vi = .int .i64 k ∧ k ≤ n ∧ n - k ≤ g1 ∧ Hid (ShSt C w1 p F vs m x y (.slice a1 n c1) n k F' D' vs' gk' wr))
  case atStart => exact ⟨0, F, D, vs, gk, rfl, by omega, by omega, S0⟩
  case round =>
    clear S0
    obtain ⟨k, F', D', vs', gk', rfl, hkl, hg, HS⟩ := hrel
    by_cases hk : k < n
    · have hkz : (k : Int) < (n : Int) := by omega
      have hk0 : (0 : Int) ≤ (k : Int) := Int.natCast_nonneg k
      have hkw : IntKind.i64.wrap ((k : Int) + 1) = (k : Int) + 1 := IntWalk.i64_in _ (by omega)
      obtain ⟨t, ht⟩ : ∃ t, (form x)[k]? = some t := ⟨_, List.getElem?_eq_getElem (by rw [← HN.out]; exact hk)⟩
      have hhere := HS.out.here ht
      obtain ⟨sx, e⟩ := t
      have HT := Lib.hid ht
      have hex : e ∈ exps x := mem_exps (List.mem_of_getElem? ht)
      obtain ⟨hem, hel, heP⟩ := HX.out e hex
      have hal := idx_lt (mem_ext HS.out.pre hem)
      have hbl := idx_lt (mem_ext HS.out.pre HY.out.1)
      have hga : vs'[vs.idxOf (e : Int)]? = some (e : Int) := get_ext HS.out.pre (get_idx hem)
      have hgb : vs'[b]? = some y := by rw [HB.out]; exact get_ext HS.out.pre (get_idx HY.out.1)
      rw [idx_ext HS.out.pre hem] at hal
      rw [idx_ext HS.out.pre HY.out.1, ← HB.out] at hbl
      obtain ⟨a, ha⟩ : ∃ a, a = vs.idxOf (e : Int) := ⟨_, rfl⟩
      dsimp only at hhere
      rw [← ha] at hhere hal hga
      obtain ⟨hh1, ⟨hh2, hh3⟩ | ⟨g, cap, cur, hv, _, h4, h5, h6, h7, h8⟩⟩ := HS.out.row
      · omega
      · cases hv
        obtain ⟨d0, d1⟩ := tcells_get hhere
        rw [← h8, List.getElem?_take_of_lt (by omega), Array.getElem?_toList, ← cell_of h4] at d0 d1
        have hgl : g ≠ wr.heap.size := by have := (Array.getElem?_eq_some_iff.1 h4).1; omega
        dsimp only at d0 d1
        have HWA := HS.out.wo.alloc (.cells #[.bool sx, .int .i64 (a : Nat)] 154)
        obtain ⟨gf, cf, hfv, hgF, hrow⟩ := HWA.formAt
        obtain ⟨ra, _, cra, rra, _⟩ := hrow a e hga
        obtain ⟨rb, _, crb, rrb, _⟩ := hrow b y hgb
        have cp0 := HWA.c0
        rw [hfv] at cp0
        have halz : (a : Int) < (vs'.length : Int) := by omega
        have hblz : (b : Int) < (vs'.length : Int) := by omega
        have a0 : (0 : Int) ≤ (a : Int) := by omega
        have b0 : (0 : Int) ≤ (b : Int) := by omega
        have Hlen : Hid ((pf vs' (e : Int)).length ≤ 300 ∧ (pf vs' y).length ≤ 300) := ⟨by simpa [pf] using hel, by have := HY.out.2.1; simpa [pf] using this⟩
        obtain ⟨pa, ca, rfl, _, _⟩ := rra.shape
        obtain ⟨pb, cb, rfl, _, _⟩ := rrb.shape
        obtain ⟨na, hna⟩ : ∃ na, na = (pf vs' (e : Int)).length := ⟨_, rfl⟩
        obtain ⟨nb, hnb'⟩ : ∃ nb, nb = (pf vs' y).length := ⟨_, rfl⟩
        rw [← hna] at cra rra
        rw [← hnb'] at crb rrb
        have HXe : Hid (∀ q ∈ exps (e : Int), (q : Int) ∈ vs') := fun q hq => HS.out.wo.wv.mem_exps (mem_ext HS.out.pre hem) hq
        have HYe : Hid (∀ q ∈ exps y, (q : Int) ∈ vs') := fun q hq => HS.out.wo.wv.mem_exps (mem_ext HS.out.pre HY.out.1) hq
        have HPe : Hid (∀ q ∈ exps (e : Int), q ∈ P) := heP
        have Hptv : Hid (ptv vs' (pf vs' (e : Int) ++ pf vs' y) = (e : Int) + y) := by show _ = _; rw [ptv_append, ptv_pf HS.out.wo.wv HXe.out, ptv_pf HS.out.wo.wv HYe.out]
        have HWO2 := Lib.hid (HWA.alloc (.cells #[.slice pa na ca, .slice pb nb cb] 111)).drew
        have HC1 := concat_calls (W := ((wr.alloc (.cells #[.bool sx, .int .i64 (a : Nat)] 154)).alloc (.cells #[.slice pa na ca, .slice pb nb cb] 111)).drew) (v := .slice (some ⟨wr.heap.size + 1, 0, none⟩) 2 2) (ls := [(.slice pa na ca, pf vs' (e : Int)), (.slice pb nb cb, pf vs' y)]) (own2 (heap_at (by simp)))
          (by intro z hz; simp at hz; rcases hz with rfl | rfl; exact World.ownsRow.alloc rra _; exact World.ownsRow.alloc rrb _) (by have := Hlen.out; simp [lens]; omega) (by simp)
        have ct9 : (wr.alloc (.cells #[.bool sx, .int .i64 (a : Nat)] 154)).cell? ⟨wr.heap.size, 1, none⟩ = some (.int .i64 (a : Nat)) := by rw [cell_of (heap_last wr _)]; rfl
        have HGB : Hid (g < wr.heap.size ∧ g ∉ F') := ⟨(Array.getElem?_eq_some_iff.1 h4).1, HS.out.notF g rfl⟩
        clear hh1 h4 h5 h6 h7 h8 hhere hrow rra rrb hgF hfv ha hna hnb' hex hem hel heP hal hbl hga hgb HWA ht
        go_wp2_with fail
        have HS16 : Hid ((fun w' => w'.cell? ⟨wr.heap.size, 1, none⟩ = some (.int .i64 (a : Nat)) ∧ w'.cell? ⟨p, 0, none⟩ = some (.slice (some ⟨gf, 0, none⟩) vs'.length cf) ∧ w'.cell? ⟨gf, a, none⟩ = some (.slice pa na ca) ∧ w'.cell? ⟨gf, b, none⟩ = some (.slice pb nb cb)) (((wr.alloc (.cells #[.bool sx, .int .i64 (a : Nat)] 154)).alloc (.cells #[.slice pa na ca, .slice pb nb cb] 111)).drew)) := ⟨cell_newer _ ct9, cell_newer _ cp0, cell_newer _ cra, cell_newer _ crb⟩
        have HS0 : Hid ((fun w' => w'.cell? ⟨wr.heap.size, 1, none⟩ = some (.int .i64 (a : Nat)) ∧ w'.cell? ⟨p, 0, none⟩ = some (.slice (some ⟨gf, 0, none⟩) vs'.length cf) ∧ w'.cell? ⟨gf, a, none⟩ = some (.slice pa na ca) ∧ w'.cell? ⟨gf, b, none⟩ = some (.slice pb nb cb)) ((wr.alloc (.cells #[.bool sx, .int .i64 (a : Nat)] 154)).drew)) := ⟨ct9, cp0, cra, crb⟩
        refine wp_region_late (S := fun w' => w'.cell? ⟨wr.heap.size, 1, none⟩ = some (.int .i64 (a : Nat)) ∧ w'.cell? ⟨p, 0, none⟩ = some (.slice (some ⟨gf, 0, none⟩) vs'.length cf) ∧ w'.cell? ⟨gf, a, none⟩ = some (.slice pa na ca) ∧ w'.cell? ⟨gf, b, none⟩ = some (.slice pb nb cb)) (late := [18, 19]) (by kernel_rfl) ?_ (fun hHeld => ?_)
        ·
          exact HS0.out
        refine wpAnyL_take (i := 0) (oi := { dst := some 20, op := Op.move (Operand.tmp 0), type := 107, pos := "world.go:196", after := #[], guard := none }) (v := ?_) rfl (by kernel_rfl) (by kernel_rfl) (by kernel_rfl) (by kernel_rfl) (by kernel_rfl) (fun _ _ _ h => h) (Or.inl ⟨by rfl, ?_⟩) (by assumption) ?_
        rotate_left
        · (intro w hSw; (try dsimp only at hSw); go_simp)
          all_goals with_reducible rfl
        try simp only [Act.put, List.setIfInBounds_toArray, List.set_cons_zero, List.set_cons_succ]
        refine wpAnyL_take (i := 1) (oi := { dst := some 21, op := Op.move (Operand.tmp 0), type := 107, pos := "world.go:196", after := #[], guard := none }) (v := ?_) rfl (by kernel_rfl) (by kernel_rfl) (by kernel_rfl) (by kernel_rfl) (by kernel_rfl) (fun _ _ _ h => h) (Or.inl ⟨by rfl, ?_⟩) (by assumption) ?_
        rotate_left
        · (intro w hSw; (try dsimp only at hSw); go_simp)
          all_goals with_reducible rfl
        try simp only [Act.put, List.setIfInBounds_toArray, List.set_cons_zero, List.set_cons_succ]
        refine wpAnyL_take (i := 2) (oi := { dst := some 22, op := Op.nilCheck (Operand.tmp 21), type := 0, pos := "world.go:196", after := #[{ on := 1, ground := Ground.data }], guard := none }) (v := ?_) rfl (by kernel_rfl) (by kernel_rfl) (by kernel_rfl) (by kernel_rfl) (by kernel_rfl) (fun _ _ _ h => h) (Or.inl ⟨by rfl, ?_⟩) (by assumption) ?_
        rotate_left
        · (intro w hSw; (try dsimp only at hSw); go_simp)
          all_goals with_reducible rfl
        try simp only [Act.put, List.setIfInBounds_toArray, List.set_cons_zero, List.set_cons_succ]
        refine wpAnyL_take (i := 3) (oi := { dst := some 23, op := Op.fieldAddr 125 (Operand.tmp 22) 0, type := 0, pos := "world.go:196", after := #[{ on := 2, ground := Ground.data }], guard := none }) (v := ?_) rfl (by kernel_rfl) (by kernel_rfl) (by kernel_rfl) (by kernel_rfl) (by kernel_rfl) (fun _ _ _ h => h) (Or.inl ⟨by rfl, ?_⟩) (by assumption) ?_
        rotate_left
        · (intro w hSw; (try dsimp only at hSw); go_simp)
          all_goals with_reducible rfl
        try simp only [Act.put, List.setIfInBounds_toArray, List.set_cons_zero, List.set_cons_succ]
        refine wpAnyL_take (i := 4) (oi := { dst := some 24, op := Op.load 120 (Operand.tmp 23), type := 120, pos := "world.go:196", after := #[{ on := 3, ground := Ground.data }], guard := none }) (v := ?_) rfl (by kernel_rfl) (by kernel_rfl) (by kernel_rfl) (by kernel_rfl) (by kernel_rfl) (fun _ _ _ h => h) (Or.inl ⟨by rfl, ?_⟩) (by assumption) ?_
        rotate_left
        · (intro w hSw; (try dsimp only at hSw); go_simp)
          all_goals with_reducible rfl
        try simp only [Act.put, List.setIfInBounds_toArray, List.set_cons_zero, List.set_cons_succ]
        refine wpAnyL_take (i := 5) (oi := { dst := some 25, op := Op.fieldAddr 154 (Operand.tmp 9) 1, type := 0, pos := "world.go:196", after := #[], guard := none }) (v := ?_) rfl (by kernel_rfl) (by kernel_rfl) (by kernel_rfl) (by kernel_rfl) (by kernel_rfl) (fun _ _ _ h => h) (Or.inl ⟨by rfl, ?_⟩) (by assumption) ?_
        rotate_left
        · (intro w hSw; (try dsimp only at hSw); go_simp)
          all_goals with_reducible rfl
        try simp only [Act.put, List.setIfInBounds_toArray, List.set_cons_zero, List.set_cons_succ]
        refine wpAnyL_take (i := 6) (oi := { dst := some 26, op := Op.load 3 (Operand.tmp 25), type := 3, pos := "world.go:196", after := #[{ on := 5, ground := Ground.data }], guard := none }) (v := ?_) rfl (by kernel_rfl) (by kernel_rfl) (by kernel_rfl) (by kernel_rfl) (by kernel_rfl) (fun _ _ _ h => h) (Or.inl ⟨by rfl, ?_⟩) (by assumption) ?_
        rotate_left
        · (intro w hSw; (try dsimp only at hSw); go_simp)
          all_goals with_reducible rfl
        try simp only [Act.put, List.setIfInBounds_toArray, List.set_cons_zero, List.set_cons_succ]
        refine wpAnyL_take (i := 7) (oi := { dst := some 27, op := Op.indexAddr 120 (Operand.tmp 24) (Operand.tmp 26), type := 0, pos := "world.go:196", after := #[{ on := 4, ground := Ground.data }, { on := 6, ground := Ground.data }], guard := none }) (v := ?_) rfl (by kernel_rfl) (by kernel_rfl) (by kernel_rfl) (by kernel_rfl) (by kernel_rfl) (fun _ _ _ h => h) (Or.inl ⟨by rfl, ?_⟩) (by assumption) ?_
        rotate_left
        · (intro w hSw; (try dsimp only at hSw); go_simp)
          all_goals with_reducible rfl
        try simp only [Act.put, List.setIfInBounds_toArray, List.set_cons_zero, List.set_cons_succ]
        refine wpAnyL_take (i := 8) (oi := { dst := some 28, op := Op.load 111 (Operand.tmp 27), type := 111, pos := "world.go:196", after := #[{ on := 7, ground := Ground.data }], guard := none }) (v := ?_) rfl (by kernel_rfl) (by kernel_rfl) (by kernel_rfl) (by kernel_rfl) (by kernel_rfl) (fun _ _ _ h => h) (Or.inl ⟨by rfl, ?_⟩) (by assumption) ?_
        rotate_left
        · (intro w hSw; (try dsimp only at hSw); go_simp)
          all_goals with_reducible rfl
        try simp only [Act.put, List.setIfInBounds_toArray, List.set_cons_zero, List.set_cons_succ]
        refine wpAnyL_take (i := 9) (oi := { dst := some 29, op := Op.move (Operand.tmp 0), type := 107, pos := "world.go:196", after := #[], guard := none }) (v := ?_) rfl (by kernel_rfl) (by kernel_rfl) (by kernel_rfl) (by kernel_rfl) (by kernel_rfl) (fun _ _ _ h => h) (Or.inl ⟨by rfl, ?_⟩) (by assumption) ?_
        rotate_left
        · (intro w hSw; (try dsimp only at hSw); go_simp)
          all_goals with_reducible rfl
        try simp only [Act.put, List.setIfInBounds_toArray, List.set_cons_zero, List.set_cons_succ]
        refine wpAnyL_take (i := 10) (oi := { dst := some 30, op := Op.nilCheck (Operand.tmp 29), type := 0, pos := "world.go:196", after := #[{ on := 9, ground := Ground.data }], guard := none }) (v := ?_) rfl (by kernel_rfl) (by kernel_rfl) (by kernel_rfl) (by kernel_rfl) (by kernel_rfl) (fun _ _ _ h => h) (Or.inl ⟨by rfl, ?_⟩) (by assumption) ?_
        rotate_left
        · (intro w hSw; (try dsimp only at hSw); go_simp)
          all_goals with_reducible rfl
        try simp only [Act.put, List.setIfInBounds_toArray, List.set_cons_zero, List.set_cons_succ]
        refine wpAnyL_take (i := 11) (oi := { dst := some 31, op := Op.fieldAddr 125 (Operand.tmp 30) 0, type := 0, pos := "world.go:196", after := #[{ on := 10, ground := Ground.data }], guard := none }) (v := ?_) rfl (by kernel_rfl) (by kernel_rfl) (by kernel_rfl) (by kernel_rfl) (by kernel_rfl) (fun _ _ _ h => h) (Or.inl ⟨by rfl, ?_⟩) (by assumption) ?_
        rotate_left
        · (intro w hSw; (try dsimp only at hSw); go_simp)
          all_goals with_reducible rfl
        try simp only [Act.put, List.setIfInBounds_toArray, List.set_cons_zero, List.set_cons_succ]
        refine wpAnyL_take (i := 12) (oi := { dst := some 32, op := Op.load 120 (Operand.tmp 31), type := 120, pos := "world.go:196", after := #[{ on := 11, ground := Ground.data }], guard := none }) (v := ?_) rfl (by kernel_rfl) (by kernel_rfl) (by kernel_rfl) (by kernel_rfl) (by kernel_rfl) (fun _ _ _ h => h) (Or.inl ⟨by rfl, ?_⟩) (by assumption) ?_
        rotate_left
        · (intro w hSw; (try dsimp only at hSw); go_simp)
          all_goals with_reducible rfl
        try simp only [Act.put, List.setIfInBounds_toArray, List.set_cons_zero, List.set_cons_succ]
        refine wpAnyL_take (i := 13) (oi := { dst := some 33, op := Op.move (Operand.tmp 2), type := 3, pos := "world.go:196", after := #[], guard := none }) (v := ?_) rfl (by kernel_rfl) (by kernel_rfl) (by kernel_rfl) (by kernel_rfl) (by kernel_rfl) (fun _ _ _ h => h) (Or.inl ⟨by rfl, ?_⟩) (by assumption) ?_
        rotate_left
        · (intro w hSw; (try dsimp only at hSw); go_simp)
          all_goals with_reducible rfl
        try simp only [Act.put, List.setIfInBounds_toArray, List.set_cons_zero, List.set_cons_succ]
        refine wpAnyL_take (i := 14) (oi := { dst := some 34, op := Op.indexAddr 120 (Operand.tmp 32) (Operand.tmp 33), type := 0, pos := "world.go:196", after := #[{ on := 12, ground := Ground.data }, { on := 13, ground := Ground.data }], guard := none }) (v := ?_) rfl (by kernel_rfl) (by kernel_rfl) (by kernel_rfl) (by kernel_rfl) (by kernel_rfl) (fun _ _ _ h => h) (Or.inl ⟨by rfl, ?_⟩) (by assumption) ?_
        rotate_left
        · (intro w hSw; (try dsimp only at hSw); go_simp)
          all_goals with_reducible rfl
        try simp only [Act.put, List.setIfInBounds_toArray, List.set_cons_zero, List.set_cons_succ]
        refine wpAnyL_take (i := 15) (oi := { dst := some 35, op := Op.load 111 (Operand.tmp 34), type := 111, pos := "world.go:196", after := #[{ on := 14, ground := Ground.data }], guard := none }) (v := ?_) rfl (by kernel_rfl) (by kernel_rfl) (by kernel_rfl) (by kernel_rfl) (by kernel_rfl) (fun _ _ _ h => h) (Or.inl ⟨by rfl, ?_⟩) (by assumption) ?_
        rotate_left
        · (intro w hSw; (try dsimp only at hSw); go_simp)
          all_goals with_reducible rfl
        try simp only [Act.put, List.setIfInBounds_toArray, List.set_cons_zero, List.set_cons_succ]
        refine wpAnyL_step (i := 16) (o := { dst := some 36, op := Op.buildSlice 120 2 #[(0, Operand.tmp 28), (1, Operand.tmp 35)], type := 120, pos := "world.go:196", after := #[{ on := 8, ground := Ground.data }, { on := 15, ground := Ground.data }], guard := none }) rfl (by kernel_rfl) (fun K hK => ?_)
        go_simp
        refine hK.out _ _ ?_ (fun hHeld1 => ?_)
        ·
          exact HS16.out
        clear hK K hHeld
        try simp only [Act.put, List.setIfInBounds_toArray, List.set_cons_zero, List.set_cons_succ]
        refine wpAnyL_step (i := 17) (o := { dst := some 37, op := Op.call { callee := Callee.value (Operand.func 105), args := #[Operand.tmp 36], argTypes := #[120] }, type := 111, pos := "world.go:196", after := #[{ on := 16, ground := Ground.data }], guard := none }) rfl (by kernel_rfl) (fun K hK => ?_)
        go_simp
        go_wp2_with (
          go_at_call 105
          refine HC1.mono ?_
          rintro z w5 ⟨v5, rfl, hr5, hb5, ho5⟩
          have HR5 : Hid (TRow w5 v5 (pf vs' (e : Int) ++ pf vs' y)) := by have := hr5.out; show TRow _ _ _; simpa using this
          have HB5 := Lib.hid hb5.out
          have HSm := wsum_calls (HCov.out.weak (m' := m + k) (by have := HM.out; omega)) (HWO2.out.below hb5.out) HR5.out (by have := Hlen.out; rw [List.length_append]; omega) (fun t ht => by
            rcases List.mem_append.1 ht with ht | ht
            · obtain ⟨u, hu, rfl⟩ := List.mem_map.1 ht
              exact ⟨u.2, get_idx (HXe.out u.2 (mem_exps hu)), HPe.out u.2 (mem_exps hu)⟩
            · obtain ⟨u, hu, rfl⟩ := List.mem_map.1 ht
              exact ⟨u.2, get_idx (HYe.out u.2 (mem_exps hu)), HY.out.2.2 u.2 (mem_exps hu)⟩)
          rw [Hptv.out] at HSm
          clear hr5 hb5 ho5 HR5
          )
        refine hK.out _ _ ?_ (fun hHeld2 => ?_)
        ·
          exact ⟨cell_kept HB5.out HS16.out.1, cell_kept HB5.out HS16.out.2.1, cell_kept HB5.out HS16.out.2.2.1, cell_kept HB5.out HS16.out.2.2.2⟩
        clear hK K hHeld1
        try simp only [Act.put, List.setIfInBounds_toArray, List.set_cons_zero, List.set_cons_succ]
        refine wpAnyL_late (i := 18) (o := { dst := some 38, op := Op.call { callee := Callee.value (Operand.func 104), args := #[Operand.tmp 20, Operand.tmp 37], argTypes := #[107, 111] }, type := 111, pos := "world.go:196", after := #[{ on := 0, ground := Ground.data }, { on := 17, ground := Ground.data }, { on := 17, ground := Ground.chain }], guard := none }) rfl (by kernel_rfl) rfl (fun K hK => ?_)
        go_simp
        go_wp2_with (
          go_at_call 104
          refine HSm.mono ?_
          rintro z w6 ⟨F6, D6, vs6, gk6, v6, rfl, hr6, he6, ho6, hg6⟩
          clear HSm
          )
        refine hK.out _ _ ?_
        clear hK K
        try simp only [Act.put, List.setIfInBounds_toArray, List.set_cons_zero, List.set_cons_succ]
        refine wpAnyL_late (i := 19) (o := { dst := some 10, op := Op.assign (Operand.tmp 38), type := 111, pos := "world.go:196", after := #[{ on := 18, ground := Ground.data }, { on := 18, ground := Ground.chain }, { on := 0, ground := Ground.phase }, { on := 1, ground := Ground.phase }, { on := 2, ground := Ground.phase }, { on := 3, ground := Ground.phase }, { on := 4, ground := Ground.phase }, { on := 5, ground := Ground.phase }, { on := 6, ground := Ground.phase }, { on := 7, ground := Ground.phase }, { on := 8, ground := Ground.phase }, { on := 9, ground := Ground.phase }, { on := 10, ground := Ground.phase }, { on := 11, ground := Ground.phase }, { on := 12, ground := Ground.phase }, { on := 13, ground := Ground.phase }, { on := 14, ground := Ground.phase }, { on := 15, ground := Ground.phase }, { on := 16, ground := Ground.phase }, { on := 17, ground := Ground.phase }, { on := 18, ground := Ground.phase }], guard := none }) rfl (by kernel_rfl) rfl (fun K hK => ?_)
        go_simp
        refine hK.out _ _ ?_
        clear hK K
        try simp only [Act.put, List.setIfInBounds_toArray, List.set_cons_zero, List.set_cons_succ]
        refine wpAnyL_done (by kernel_rfl) ?_ _
        all_goals
          have hs5 : wr.heap.size + 2 ≤ w5.heap.size := by have := HB5.out.size; simpa using this
          have HFr6 : Hid (FE F' wr F6 w6) := ⟨⟨hg6.out.fe.fr.os.trans HB5.out.os, hg6.out.fe.fr.tape.trans HB5.out.tape, hg6.out.fe.fr.output.trans HB5.out.output, by have := hg6.out.fe.fr.size; omega, fun b hb hn => by
            rw [hg6.out.fe.fr.block b (by omega) hn, HB5.out.block b (by simp; omega)]
            exact (heap_old _ _ (by simp; omega)).trans (heap_old _ _ hb)⟩, fun b hb => by
            rcases hg6.out.fe.sub b hb with h | h
            · exact .inl h
            · exact .inr (by omega)⟩
          have HSgn := sign_calls hr6.out
          have hsg : signT (pf vs6 ((e : Int) + y)) = isg ((e : Int) + y) := signT_pf _ _
          obtain ⟨c, hc⟩ : ∃ c, c = signT (pf vs6 ((e : Int) + y)) := ⟨_, rfl⟩
          rw [← hc] at HSgn hsg
          clear cra crb cp0 d0 d1 ct9 hc hgl
          by_cases hz : 0 ≤ (e : Int) + y
          · have hc0 : ¬ (c < 0) := by rw [hsg]; exact isg_nn hz
            clear hsg
            go_wp2_with fail
            refine HSgn.mono ?_
            rintro z w6' ⟨rfl, hw6⟩
            have hw6' : w6' = w6 := hw6
            subst hw6'
            clear HSgn hw6
            have HId := id_calls (C := C) (W := w6') (p := p) (F := F6) (D := D6) (vs := vs6) (gks := gk6) (m := m + k) (Lib.hid hg6.out.wo) v6 ((e : Int) + y) he6.out hr6.out (by have := HCov.out.room; have := HM.out; omega)
            go_wp2_with fail
            refine HId.mono ?_
            rintro z w7 ⟨F7, D7, rfl, hput⟩
            clear HId
            have HNx := HS.out.next HT.out hz (w7 := w7) (F7 := F7) (D7 := D7) (vs7 := putIn vs6 ((e : Int) + y)) (gk7 := gk6) hput.out.wo (hg6.out.pre.trans (putIn_ext _ _)) (putIn_mem _ _)
              ⟨hput.out.fr.os.trans HFr6.out.fr.os, hput.out.fr.tape.trans HFr6.out.fr.tape, hput.out.fr.output.trans HFr6.out.fr.output, Nat.le_trans HFr6.out.fr.size hput.out.fr.size, fun b hb hn => by
                rw [hput.out.fr.block b (Nat.lt_of_lt_of_le hb HFr6.out.fr.size) (fun h => by rcases HFr6.out.sub b h with h | h; exact hn h; omega)]
                exact HFr6.out.fr.block b hb hn⟩
              (fun b hb => by
                rcases hput.out.sub b hb with h | h | h
                · exact HFr6.out.sub b h
                · exact .inr (Nat.le_trans HFr6.out.fr.size h)
                · exact .inr (by have := (ho6.out b h).1; omega))
            obtain ⟨hnx, ⟨u7, c7⟩, f7⟩ := HNx
            have HNX := Lib.hid hnx
            obtain ⟨iz, hiz⟩ : ∃ iz, iz = (putIn vs6 ((e : Int) + y)).idxOf ((e : Int) + y) := ⟨_, rfl⟩
            dsimp only at HNX
            rw [← hiz] at HNX
            rw [← hiz]
            clear hnx hput hiz hr6 he6 ho6 hg6
            go_wp2_with fail
            go_roundg (n - (k + 1))
            case measure => omega
            case rel => exact ⟨k + 1, F7, D7, _, gk6, by go_num, by omega, by omega, HNX⟩
          · have hc0 : c < 0 := by rw [hsg]; exact isg_lt hz
            clear hsg
            go_wp2_with fail
            refine HSgn.mono ?_
            rintro z w6' ⟨rfl, hw6⟩
            have hw6' : w6' = w6 := hw6
            subst hw6'
            clear HSgn hw6
            go_wp2_with fail
            refine bodyPost_ret (v := .tuple #[.slice none 0 0, .bool false]) (by simp [results, Tryz.results61, go_sem]) rfl ?_
            exact ⟨F6, D6, vs6, gk6, _, false, rfl, hg6.out.wo.weaken (by have := hg6.out.wo.len; omega) (by have := HCov.out.room; have := HM.out; omega), sh_fe HFW.out HS.out HO1.out HFr6.out, HS.out.pre.trans hg6.out.pre, .inr ⟨rfl, fun h => by have h9 := h e (mem_exps (List.mem_of_getElem? HT.out)); omega⟩⟩
    · have hkz : ¬ ((k : Int) < (n : Int)) := by omega
      go_wp2_with fail
      refine bodyPost_ret (v := .tuple #[.slice a1 n c1, .bool true]) (by simp [results, Tryz.results61, go_sem]) rfl ?_
      have S := HS.out
      have hkn : k = n := by omega
      have hlx : (exps x).length = n := by rw [exps_length]; exact HN.out.symm
      have hall : ∀ e ∈ exps x, 0 ≤ (e : Int) + y ∧ (e : Int) + y ∈ vs' := fun e he => S.mem e (by rw [List.take_of_length_le (by omega)]; exact he)
      have hok : shOK x y := fun e he => (hall e he).1
      have hdn : dn vs' x y k ++ (pf vs x).drop k = pf vs' (shx x y) := by
        have h1 : (form x).take k = form x := List.take_of_length_le (by have := HN.out; omega)
        have h2 : (pf vs x).drop k = [] := List.drop_eq_nil_of_le (by have := HN.out; simp [pf]; omega)
        rw [h2, List.append_nil]
        unfold dn pf
        rw [h1, form_shx hok, shl, List.map_map]
        refine List.map_congr_left fun t ht => ?_
        have := hok t.2 (mem_exps ht)
        simp only [Function.comp, Prod.mk.injEq, true_and]
        congr 1
        omega
      have hrow := S.row
      rw [hdn] at hrow
      have hlen : (pf vs' (shx x y)).length = n := by simp [pf, form_shx hok, shl]; exact HN.out.symm
      refine ⟨F', D', vs', gk', _, true, rfl, S.wo.weaken (by have := S.wo.len; omega) (by have := HCov.out.room; have := HM.out; omega), sh_fe HFW.out S HO1.out (FE.refl _ _), S.pre, .inl ⟨rfl, hok, ?_, fun e he => ?_, fun b e => ⟨HO1.out b e, S.notF b e⟩⟩⟩
      · unfold TRow; rw [hlen]; exact hrow
      · rw [exps_shx hok] at he
        obtain ⟨a, ha, rfl⟩ := List.mem_map.1 he
        have := hall a ha
        have h3 : ((((a : Int) + y).toNat : Nat) : Int) = (a : Int) + y := by omega
        rw [h3]; exact this.2

/-- how Shift ends -/
def SQ (x y : Int) (W : World) (e : Ending) (W' : World) : Prop :=
  ∃ (q : Option Addr) (er : Int), e = .returned (.tuple #[.agg #[.pointer q], .int .i64 er]) ∧ Hid (Below W.heap.size W W') ∧ Hid ((shOK x y ∧ NR W' (shx x y) (.agg #[.pointer q]) er) ∨ (¬ shOK x y ∧ er = 4 ∧ q = none))

set_option maxHeartbeats 4000000 in
set_option maxRecDepth 100000 in
theorem Shift_calls {W : World} {v u : Value} {x y : Int} (hx : IsN W v x) (hy : IsN W u y) : Calls Tryz.prog 28 #[v, u] W (SQ x y W) := by
  obtain ⟨qx, rfl⟩ := hx.ptr
  obtain ⟨qy, rfl⟩ := hy.ptr
  obtain ⟨hcov, hcl⟩ := cov_two hx.1 hy.1
  have HX := Lib.hid hx
  have HY := Lib.hid hy
  have HCov := Lib.hid hcov
  have HCl := Lib.hid hcl
  clear hx hy hcov hcl
  go_enter Tryz.func28, Tryz.ntmps28
  go_wp2_with fail
  obtain ⟨W0, hW0⟩ : ∃ W0, W0 = ((W.alloc (.cells #[.pointer qx] 26)).alloc (.cells #[.pointer qy] 26)).alloc (.cells #[.pointer none] 26) := ⟨_, rfl⟩
  rw [← hW0]
  have HB0 : Hid (Below W.heap.size W W0) := by show Below _ _ _; rw [hW0]; exact (((Below.refl _ _).alloc (Nat.le_refl _) _).alloc (by simp) _).alloc (by simp; omega) _
  have hz0 : W.heap.size + 3 = W0.heap.size := by rw [hW0]; simp
  have X0 : Hid (W0.heap[W.heap.size]? = some (.cells #[.pointer qx] 26 (0, 0))) := by show _ = _; rw [hW0, heap_old _ _ (by simp; omega), heap_old _ _ (by simp)]; exact heap_at rfl
  have X1 : Hid (W0.heap[W.heap.size + 1]? = some (.cells #[.pointer qy] 26 (0, 0))) := by show _ = _; rw [hW0, heap_old _ _ (by simp)]; exact heap_at (by simp)
  have X2 : Hid (W0.heap[W.heap.size + 1 + 1]? = some (.cells #[.pointer none] 26 (0, 0))) := by show _ = _; rw [hW0]; exact heap_at (by simp)
  clear hW0
  have HN := newWorld_calls (covC [x, y]) (by have := HCl.out.le; omega) W0
  refine HN.mono ?_
  rintro e w1 ⟨p, F, D, rfl, HWO, HFE⟩
  clear HN
  have HT1 := Lib.hid (wt_new HWO.out HFE.out)
  have c0 : w1.cell? ⟨W.heap.size, 0, none⟩ = some (.pointer qx) := by rw [cell_of ((HT1.out.low.block _ (by omega)).trans X0.out)]; rfl
  clear HWO HFE
  go_wp2_with fail
  refine (take_calls HT1 (HX.out.below HB0.out) (by have := HCl.out.le; omega)).mono ?_
  rintro e w2 ⟨F2, D2, vs2, rfl, hxm, hpre2, HT2, _⟩
  have c1 : w2.cell? ⟨W.heap.size + 1, 0, none⟩ = some (.pointer qy) := by rw [cell_of ((HT2.out.low.block _ (by omega)).trans X1.out)]; rfl
  clear c0 HT1 hpre2
  go_wp2_with fail
  refine (take_calls HT2 (HY.out.below HB0.out) (by have := HCl.out.le; omega)).mono ?_
  rintro e w3 ⟨F3, D3, vs3, rfl, hym, hpre3, HT3, _⟩
  have hxi := idx_ext hpre3.out hxm.out
  have HXm : Hid (x ∈ vs3) := mem_ext hpre3.out hxm.out
  rw [← hxi]
  clear c1 HT2 hpre3 hxm hxi
  obtain ⟨gf, cf, hfv, hgF, hrow⟩ := HT3.out.wo.formAt
  obtain ⟨ra, _, cra, rra, _⟩ := hrow _ x (get_idx HXm.out)
  have cp0 := HT3.out.wo.c0
  rw [hfv] at cp0
  have hal : ((vs3.idxOf x : Nat) : Int) < (vs3.length : Int) := by have := idx_lt HXm.out; omega
  have a0 : (0 : Int) ≤ ((vs3.idxOf x : Nat) : Int) := by omega
  have HSh := shifted_calls (P := baseOf [x, y]) (C := covC [x, y]) (m := 1 + 2000 + 2000) HCov.out (Lib.hid HT3.out.wo) (v := ra) (x := x) (y := y) rra (by omega)
    (fun e he => ⟨HT3.out.wo.wv.mem_exps HXm.out he, HX.out.1.2.1 e (mem_parts.2 (.here he)), fun a ha => baseOf_parts (by simp) a (mem_parts.2 (.step (.here he) ha))⟩) HX.out.1.1
    ⟨hym.out, HY.out.1.1, baseOf_exps (by simp)⟩
  obtain ⟨a, ha⟩ : ∃ a, a = vs3.idxOf x := ⟨_, rfl⟩
  obtain ⟨b, hb⟩ : ∃ b, b = vs3.idxOf y := ⟨_, rfl⟩
  rw [← ha] at cra hal a0
  rw [← hb] at HSh
  rw [← ha, ← hb]
  clear hrow rra hgF hfv ha hb
  go_wp2_with fail
  refine HSh.mono ?_
  rintro e w4 ⟨F4, D4, vs4, gk4, v4, ok, rfl, hwo4, hfe4, hpre4, hr4⟩
  clear HSh cra cp0 hal a0
  have HL4 := Lib.hid (fr_below HT3.out.low HT3.out.hi hfe4.out.fr)
  have Hi4 : Hid (∀ b ∈ F4, W0.heap.size ≤ b) := fun b hb => by
    rcases hfe4.out.sub b hb with h | h
    · exact HT3.out.hi b h
    · have := HT3.out.low.size; omega
  have HX4 := Lib.hid (Below.here HL4.out X2.out)
  have c4 : w4.cell? ⟨W.heap.size + 1 + 1, 0, none⟩ = some (.pointer none) := by rw [cell_of HX4.out]; rfl
  have f4 : w4.frozen? ⟨W.heap.size + 1 + 1, 0, none⟩ = false := free_of HX4.out 0
  cases ok
  · go_wp2_with fail
    refine bodyPost_ret (v := .tuple #[.agg #[.pointer none], .int .i64 4]) (by simp [results, Tryz.results28, go_sem, c4]) rfl ?_
    refine ⟨none, 4, rfl, (Below.trans' HB0.out HL4.out).setCell (by show W.heap.size ≤ W.heap.size + 1 + 1; omega) _, .inr ⟨?_, rfl, rfl⟩⟩
    rcases hr4.out with h | h
    · cases h.1
    · exact h.2
  · obtain ⟨hok, ht4, he4, ho4⟩ : shOK x y ∧ TRow w4 v4 (pf vs4 (shx x y)) ∧ (∀ e ∈ exps (shx x y), (e : Int) ∈ vs4) ∧ ∀ b, v4.ownBlock = some b → w3.heap.size ≤ b ∧ b ∉ F4 := by
      rcases hr4.out with h | h
      · exact h.2
      · cases h.1
    have HOk := Lib.hid hok
    have HG := give_calls hwo4 (v := v4) (x := shx x y) (fun W' _ hf => ownsRow_kept ht4 fun b e => hf.block b (ownsRow_lt ht4 e) (ho4 b e).2) he4
    clear hok ht4 he4 ho4 hr4
    go_wp2_with fail
    refine HG.mono ?_
    rintro e w7 ⟨q, er, rfl, hf7, hn7⟩
    have HL7 := Lib.hid (fr_below HL4.out Hi4.out hf7.out)
    have HX7 := Lib.hid (Below.here HL7.out X2.out)
    have c7 : w7.cell? ⟨W.heap.size + 1 + 1, 0, none⟩ = some (.pointer none) := by rw [cell_of HX7.out]; rfl
    have f7 : w7.frozen? ⟨W.heap.size + 1 + 1, 0, none⟩ = false := free_of HX7.out 0
    clear HG hf7 c4 f4
    go_wp2_with fail
    refine bodyPost_ret (v := .tuple #[.agg #[.pointer q], .int .i64 er]) (by simp [results, Tryz.results28, go_sem, c7]) rfl ?_
    exact ⟨q, er, rfl, (Below.trans' HB0.out HL7.out).setCell (by show W.heap.size ≤ W.heap.size + 1 + 1; omega) _, .inl ⟨HOk.out, hn7.out.setCell HX7.out (by decide) _⟩⟩
end Sr
/- world.of: the plain part: the form of a number, the least exponent first. -/
namespace Sr

def sgb (s : Bool) : Int := if s then -1 else 1
theorem tv_sgb (s : Bool) (e : Nat) : tv (s, e) = sgb s * 2 ^ e := by cases s <;> simp [tv, sgb]
theorem sgb_not (s : Bool) : sgb (!s) = -sgb s := by cases s <;> simp [sgb]

structure OfInv (n0 : Nat) (s : Bool) (m : Nat) (l : List Tm) (n e : Nat) : Prop where
  val : lv l + sgb s * ((n : Int) * 2 ^ e) = sgb s * (n0 : Int)
  naf : Naf l.reverse
  top : ∀ t ∈ l, t.2 < e
  gap : ∀ t ∈ l, t.2 + 1 = e → n % 2 = 0
  bd : n * 2 ^ e ≤ 2 ^ m

theorem OfInv.start {n0 m : Nat} (s : Bool) (h : n0 ≤ 2 ^ m) : OfInv n0 s m [] n0 0 :=
  ⟨by simp [lv], by simp [Naf], by simp, by simp, by simpa using h⟩
theorem OfInv.le {n0 m n e : Nat} {s : Bool} {l : List Tm} (h : OfInv n0 s m l n e) (hn : 0 < n) : e ≤ m := by
  have h1 : 2 ^ e ≤ 2 ^ m := Nat.le_trans (Nat.le_mul_of_pos_left _ hn) h.bd
  exact (Nat.pow_le_pow_iff_right (by omega)).1 h1
theorem OfInv.pos {n0 m n e : Nat} {s : Bool} {l : List Tm} (h : OfInv n0 s m l n e) (hn : 0 < n) : 0 < n0 ∨ l ≠ [] := by
  rcases Nat.eq_zero_or_pos n0 with h0 | h0
  · right
    rintro rfl
    have := h.val
    rw [h0] at this
    have hp := two_pow_pos e
    have h2 : (0 : Int) < (n : Int) * 2 ^ e := Int.mul_pos (by omega) (by simpa using hp)
    cases s <;> simp [lv, sgb] at this <;> omega
  · exact .inl h0
theorem pow2_succ (e : Nat) : (2 : Int) ^ (e + 1) = 2 * 2 ^ e := by rw [Int.pow_succ]; omega

theorem OfInv.even {n0 m n e : Nat} {s : Bool} {l : List Tm} (h : OfInv n0 s m l n e) (hn : n % 2 = 0) : OfInv n0 s m l (n / 2) (e + 1) where
  val := by
    have h1 : ((n / 2 : Nat) : Int) * 2 ^ (e + 1) = (n : Int) * 2 ^ e := by
      rw [pow2_succ, ← Int.mul_assoc]
      congr 1; omega
    rw [h1]; exact h.val
  naf := h.naf
  top := fun t ht => by have := h.top t ht; omega
  gap := fun t ht he => by have := h.top t ht; omega
  bd := by
    have : n / 2 * 2 ^ (e + 1) = n * 2 ^ e := by rw [Nat.pow_succ, Nat.mul_comm (2 ^ e) 2, ← Nat.mul_assoc]; congr 1; omega
    rw [this]; exact h.bd
theorem naf_snoc {l : List Tm} {t : Tm} (h : Naf l.reverse) (ht : ∀ u ∈ l, u.2 + 1 < t.2) : Naf (l ++ [t]).reverse := by
  rw [List.reverse_append]
  exact List.pairwise_cons.2 ⟨fun u hu => ht u (List.mem_reverse.1 hu), h⟩
theorem OfInv.far {n0 m n e : Nat} {s : Bool} {l : List Tm} (h : OfInv n0 s m l n e) (hn : n % 2 = 1) : ∀ u ∈ l, u.2 + 1 < e := fun u hu => by
  have h1 := h.top u hu
  rcases Nat.lt_or_ge (u.2 + 1) e with h2 | h2
  · exact h2
  · have := h.gap u hu (by omega); omega
theorem OfInv.one {n0 m n e : Nat} {s : Bool} {l : List Tm} (h : OfInv n0 s m l n e) (hn : n % 4 = 1) : OfInv n0 s m (l ++ [(s, e)]) ((n - 1) / 2) (e + 1) where
  val := by
    have h1 : (((n - 1) / 2 : Nat) : Int) * 2 ^ (e + 1) = ((n : Int) - 1) * 2 ^ e := by
      rw [pow2_succ, ← Int.mul_assoc]
      congr 1; omega
    have h2 := h.val
    rw [lv_append, h1]
    simp only [lv, tv_sgb, Int.sub_mul, Int.mul_sub, Int.one_mul] at h2 ⊢
    omega
  naf := naf_snoc h.naf (h.far (by omega))
  top := fun t ht => by
    rcases List.mem_append.1 ht with ht | ht
    · have := h.top t ht; omega
    · simp at ht; subst ht; dsimp only; omega
  gap := fun t ht he => by
    rcases List.mem_append.1 ht with ht | ht
    · have := h.top t ht; omega
    · omega
  bd := by
    have h1 : (n - 1) / 2 * 2 ^ (e + 1) = (n - 1) * 2 ^ e := by rw [Nat.pow_succ, Nat.mul_comm (2 ^ e) 2, ← Nat.mul_assoc]; congr 1; omega
    rw [h1]
    exact Nat.le_trans (Nat.mul_le_mul_right _ (by omega)) h.bd
theorem OfInv.three {n0 m n e : Nat} {s : Bool} {l : List Tm} (h : OfInv n0 s m l n e) (hn : n % 4 = 3) : OfInv n0 s m (l ++ [(!s, e)]) (n / 2 + 1) (e + 1) where
  val := by
    have h1 : ((n / 2 + 1 : Nat) : Int) * 2 ^ (e + 1) = ((n : Int) + 1) * 2 ^ e := by
      rw [pow2_succ, ← Int.mul_assoc]
      congr 1; omega
    have h2 := h.val
    rw [lv_append, h1]
    simp only [lv, tv_sgb, sgb_not, Int.add_mul, Int.mul_add, Int.one_mul, Int.neg_mul] at h2 ⊢
    omega
  naf := naf_snoc h.naf (h.far (by omega))
  top := fun t ht => by
    rcases List.mem_append.1 ht with ht | ht
    · have := h.top t ht; omega
    · simp at ht; subst ht; dsimp only; omega
  gap := fun t ht he => by
    rcases List.mem_append.1 ht with ht | ht
    · have := h.top t ht; omega
    · omega
  bd := by
    have h1 : (n / 2 + 1) * 2 ^ (e + 1) = (n + 1) * 2 ^ e := by rw [Nat.pow_succ, Nat.mul_comm (2 ^ e) 2, ← Nat.mul_assoc]; congr 1; omega
    rw [h1]
    have hle := h.le (show 0 < n by omega)
    obtain ⟨d, rfl⟩ : ∃ d, m = e + d := ⟨m - e, by omega⟩
    have h2 := h.bd
    rw [Nat.pow_add, Nat.mul_comm (2 ^ e)] at h2 ⊢
    have h3 := Nat.le_of_mul_le_mul_right h2 (Nat.pow_pos (by omega))
    refine Nat.mul_le_mul_right _ ?_
    cases d with
    | zero => simp at h3; omega
    | succ d => rw [Nat.pow_succ] at h3 ⊢; omega
theorem OfInv.done {n0 m e : Nat} {s : Bool} {l : List Tm} (h : OfInv n0 s m l 0 e) : form (sgb s * (n0 : Int)) = l.reverse := by
  refine form_of' h.naf ?_
  rw [lv_reverse]
  have := h.val
  simpa using this
theorem log_bd' (n : Nat) : ∃ m, n + 1 ≤ 2 ^ m ∧ m < n + 1 := by
  induction n with
  | zero => exact ⟨0, by simp, by omega⟩
  | succ n ih =>
    obtain ⟨m, h1, h2⟩ := ih
    rcases Nat.lt_or_ge (n + 1) (2 ^ m) with h | h
    · exact ⟨m, h, by omega⟩
    · have hn : n + 1 = 2 ^ m := Nat.le_antisymm h1 h
      refine ⟨m + 1, ?_, by omega⟩
      rw [Nat.pow_succ]; have : 0 < 2 ^ m := Nat.pow_pos (by omega); omega
/-- the exponent that is asked for is less than the number -/
theorem log_bd (n : Nat) : ∃ m, n ≤ 2 ^ m ∧ (0 < n → m < n) := by
  cases n with
  | zero => exact ⟨0, by simp, by omega⟩
  | succ n => obtain ⟨m, h1, h2⟩ := log_bd' n; exact ⟨m, h1, fun _ => h2⟩
end Sr
/- numbers that are not great are allowed. -/
namespace Sr

theorem height_le : ∀ (n : Nat) (x : Int), x.natAbs ≤ n → height x ≤ n := by
  intro n
  induction n with
  | zero =>
    intro x h
    have : x = 0 := by omega
    subst this
    rw [height_eq]; simp [exps, form_zero, maxl]
  | succ n ih =>
    intro x h
    rw [height_eq]
    have key : ∀ l : List Nat, (∀ e ∈ l, e ∈ exps x) → maxl (l.map fun (e : Nat) => height (e : Int) + 1) ≤ n + 1 := by
      intro l
      induction l with
      | nil => intro _; simp [maxl]
      | cons e l ihl =>
        intro hl
        have h1 := exps_lt (hl e (by simp))
        have h2 := ih (e : Int) (by omega)
        have h3 := ihl fun a ha => hl a (List.mem_cons_of_mem _ ha)
        simp only [List.map_cons, maxl]; omega
    exact key _ fun _ h => h
theorem height_step {x : Int} {n : Nat} (h : ∀ e ∈ exps x, height (e : Int) ≤ n) : height x ≤ n + 1 := by
  rw [height_eq]
  have key : ∀ l : List Nat, (∀ e ∈ l, e ∈ exps x) → maxl (l.map fun (e : Nat) => height (e : Int) + 1) ≤ n + 1 := by
    intro l
    induction l with
    | nil => intro _; simp [maxl]
    | cons e l ihl =>
      intro hl
      have h2 := h e (hl e (by simp))
      have h3 := ihl fun a ha => hl a (List.mem_cons_of_mem _ ha)
      simp only [List.map_cons, maxl]; omega
  exact key _ fun _ h => h
theorem small_exp {x : Int} (h : x.natAbs ≤ 1000) {e : Nat} (he : e ∈ exps x) : e ≤ 10 := by
  obtain ⟨t, ht, rfl⟩ := List.mem_map.1 he
  exact small_form h t ht
/-- a number whose form has no exponent above 290 is allowed -/
theorem allowed_exps {x : Int} (h : ∀ e ∈ exps x, e ≤ 290) : allowed x := by
  have hp : ∀ {p : Nat}, IsPart x p → p ≤ 290 := fun {p} hp => by
    induction hp with
    | here he => exact h _ he
    | step _ he ih => have := exps_lt he; simp at this; omega
  refine ⟨?_, fun p hm => ?_, ?_, ?_⟩
  · have := naf_len (m := 290) (form_naf x) (fun t ht => h t.2 (mem_exps ht)); omega
  · have := naf_len (m := 10) (form_naf (p : Int)) (small_form (by have := hp (mem_parts.1 hm); omega)); omega
  · have := nodup_length_le (parts x) (List.range 291) (parts_nodup x) (fun p hm => List.mem_range.2 (by have := hp (mem_parts.1 hm); omega))
    simp at this; omega
  · have : height x ≤ 11 + 1 := height_step fun e he => height_step fun f hf => height_le 10 _ (by have := small_exp (x := (e : Int)) (by have := h e he; omega) hf; omega)
    omega
theorem allowed_small {x : Int} (h : x.natAbs ≤ 2 ^ 240) : allowed x := by
  refine allowed_exps fun e he => ?_
  obtain ⟨t, ht, rfl⟩ := List.mem_map.1 he
  have hc : (x.natAbs : Int) ≤ 2 ^ 240 := by exact_mod_cast h
  have h2 : (2 : Int) ^ 241 = 2 * 2 ^ 240 := Int.pow_succ' _ _
  have hp := two_pow_pos 240
  generalize (2 : Int) ^ 289 = B at *
  refine Nat.le_trans ?_ (by omega : 241 ≤ 290)
  exact form_top (x := x) (m := 241) (by rw [h2]; omega) (by rw [h2]; omega) t ht
end Sr
/- world.of, Of. -/
namespace Sr
open Go Go.Proofs Go.RowKit Go.Maps Go.WideMaps

theorem int_half (n : Nat) : Value.int .u64 ((n : Int) / 2) = .int .u64 ((n / 2 : Nat) : Int) := by congr 1
theorem int_half1 (n : Nat) (h : 1 ≤ n) : Value.int .u64 (((n : Int) - 1) / 2) = .int .u64 (((n - 1) / 2 : Nat) : Int) := by congr 1; omega
theorem int_half3 (n : Nat) : Value.int .u64 ((n : Int) / 2 + 1) = .int .u64 ((n / 2 + 1 : Nat) : Int) := by congr 1
/-- small numbers only -/
def Small (vs : List Int) : Prop := ∀ z ∈ vs, 0 ≤ z ∧ z ≤ 64
theorem small_len {vs : List Int} (hn : vs.Nodup) (h : Small vs) : vs.length ≤ 65 := by
  have := nodup_length_le (vs.map Int.toNat) (List.range 65) (by
    unfold List.Nodup; rw [List.pairwise_map]
    refine hn.imp_of_mem fun {a b} ha hb hne he => hne ?_
    have := h a ha; have := h b hb; omega) (fun x hx => by
    obtain ⟨z, hz, rfl⟩ := List.mem_map.1 hx
    have := h z hz
    exact List.mem_range.2 (by omega))
  simpa using this

/-- how of ends -/
def OfQ (C : List Nat) (W : World) (p : Nat) (F : List Nat) (vs : List Int) (gk : List Nat) (z : Int) (e : Ending) (W' : World) : Prop :=
  ∃ (F' : List Nat) (D' : WD) (vs' : List Int) (v' : Value), e = .returned v' ∧ Hid (WO C W' p F' D' vs' gk 66) ∧ Hid (FE F W F' W') ∧ Hid (vs <+: vs') ∧ Hid (Small vs') ∧ Hid (TRow W' v' (pf vs' z)) ∧ Hid (∀ e ∈ exps z, (e : Int) ∈ vs') ∧ Hid (∀ b, v'.ownBlock = some b → W.heap.size ≤ b ∧ b ∉ F')

def OfC (C : List Nat) (p n : Nat) (s : Bool) : Prop :=
  ∀ (W : World) (F : List Nat) (D : WD) (vs : List Int) (gk : List Nat), Hid (WO C W p F D vs gk 66) → Hid (Small vs) → Calls Tryz.prog 54 #[.pointer (some ⟨p, 0, none⟩), .int .u64 (n : Nat), .bool s] W (OfQ C W p F vs gk (sgb s * (n : Int)))

/-- the state of the loop of of -/
structure OfSt (C : List Nat) (W : World) (p : Nat) (F : List Nat) (vs : List Int) (gk : List Nat) (n0 : Nat) (s : Bool) (m : Nat) (n e : Nat) (l : List Tm) (ov : Value) (F' : List Nat) (D' : WD) (vs' : List Int) (wr : World) : Prop where
  inv : OfInv n0 s m l n e
  wo : WO C wr p F' D' vs' gk 66
  fe : FE F W F' wr
  pre : vs <+: vs'
  small : Small vs'
  mem : ∀ t ∈ l, (t.2 : Int) ∈ vs'
  row : TRow wr ov (l.map fun t => (t.1, vs'.idxOf (t.2 : Int)))
  own : ∀ b, ov.ownBlock = some b → W.heap.size ≤ b ∧ b ∉ F'

section
variable {C : List Nat} {W w2 w3 w4 wr : World} {p : Nat} {F F2 F3 F' : List Nat} {vs vs' vs2 : List Int} {gk : List Nat} {n0 : Nat} {s : Bool} {m n e : Nat} {l : List Tm} {ov v2 : Value} {D' D3 : WD}

theorem OfSt.row3 (S : OfSt C W p F vs gk n0 s m n e l ov F' D' vs' wr) (hfe2 : FE F' wr F2 w2) (hpre2 : vs' <+: vs2) (ho2 : ∀ b, v2.ownBlock = some b → wr.heap.size ≤ b ∧ b ∉ F2) (hput : Put C w2 w3 p F2 F3 D3 (putIn vs2 (e : Int)) gk (66 + 1) (fun b => v2.ownBlock = some b)) :
    TRow w3 ov (l.map fun t => (t.1, (putIn vs2 (e : Int)).idxOf (t.2 : Int))) ∧ ∀ b, ov.ownBlock = some b → b ∉ F3 := by
  have hlt : ∀ b, ov.ownBlock = some b → b < wr.heap.size := fun b hb => ownsRow_lt S.row hb
  have hn2 : ∀ b, ov.ownBlock = some b → b ∉ F2 := fun b hb h => by
    rcases hfe2.sub b h with h | h
    · exact (S.own b hb).2 h
    · have := hlt b hb; omega
  have e1 : (l.map fun t => (t.1, (putIn vs2 (e : Int)).idxOf (t.2 : Int))) = l.map fun t => (t.1, vs'.idxOf (t.2 : Int)) :=
    List.map_congr_left fun t ht => by rw [idx_ext (putIn_ext vs2 _) (mem_ext hpre2 (S.mem t ht)), idx_ext hpre2 (S.mem t ht)]
  refine ⟨?_, fun b hb h => ?_⟩
  · rw [e1]
    exact ownsRow_kept (ownsRow_kept S.row fun b hb => hfe2.fr.block b (hlt b hb) (S.own b hb).2) fun b hb => hput.fr.block b (Nat.lt_of_lt_of_le (hlt b hb) hfe2.fr.size) (hn2 b hb)
  · rcases hput.sub b h with h | h | h
    · exact hn2 b hb h
    · have := hlt b hb; have := hfe2.fr.size; omega
    · have := hlt b hb; have := (ho2 b h).1; omega
theorem OfSt.push {s' : Bool} {n' e' : Nat} {v' : Value} {o : Obj} (hC : C.length ≤ 2000000000) (S : OfSt C W p F vs gk n0 s m n e l ov F' D' vs' wr) (hem : e ≤ 64) (hfe2 : FE F' wr F2 w2) (hpre2 : vs' <+: vs2) (hsm2 : Small vs2) (ho2 : ∀ b, v2.ownBlock = some b → wr.heap.size ≤ b ∧ b ∉ F2)
    (hput : Put C w2 w3 p F2 F3 D3 (putIn vs2 (e : Int)) gk (66 + 1) (fun b => v2.ownBlock = some b)) (K : TRow w4 v' ((l.map fun t => (t.1, (putIn vs2 (e : Int)).idxOf (t.2 : Int))) ++ [(s', (putIn vs2 (e : Int)).idxOf (e : Int))])) (G : (w3.alloc o).grownBy w4 ov.ownBlock)
    (A : v'.ownBlock = ov.ownBlock ∨ v'.ownBlock = some (w3.alloc o).heap.size) (hinv : OfInv n0 s m (l ++ [(s', e)]) n' e') :
    OfSt C W p F vs gk n0 s m n' e' (l ++ [(s', e)]) v' F3 D3 (putIn vs2 (e : Int)) w4 := by
  obtain ⟨_, hn3⟩ := S.row3 hfe2 hpre2 ho2 hput
  have hsm3 : Small (putIn vs2 (e : Int)) := fun z hz => by
    unfold putIn at hz
    split at hz
    · exact hsm2 z hz
    · rcases List.mem_append.1 hz with hz | hz
      · exact hsm2 z hz
      · simp at hz; omega
  have hs2 := hfe2.fr.size
  have hs3 := hput.fr.size
  have hs4 : w3.heap.size + 1 ≤ w4.heap.size := by have := G.size; simpa using this
  have hsW := S.fe.fr.size
  have keep : ∀ b, b < w3.heap.size → ov.ownBlock ≠ some b → w4.heap[b]? = w3.heap[b]? := fun b h1 h2 => (G.block b (by simp; omega) (fun e => h2 e.symm)).trans (heap_old _ _ h1)
  have hsub : ∀ b ∈ F3, b ∈ F ∨ W.heap.size ≤ b := fun b h => by
    rcases hput.sub b h with h | h | h
    · rcases hfe2.sub b h with h | h
      · exact S.fe.sub b h
      · exact .inr (by omega)
    · exact .inr (by omega)
    · have := (ho2 b h).1; exact .inr (by omega)
  refine ⟨hinv, ?_, ⟨⟨?_, ?_, ?_, by omega, fun b hb hn => ?_⟩, hsub⟩, (S.pre.trans hpre2).trans (putIn_ext _ _), hsm3, ?_, ?_, ?_⟩
  · have hwo := hput.wo.kept (W' := w4) (fun b hb => keep b (hput.wo.blt b hb) (fun e' => hn3 b e' hb))
    exact hwo.weaken (by have := small_len hwo.wv.nodup hsm3; omega) (by omega)
  · exact (show w4.os = w3.os from G.os).trans (hput.fr.os.trans (hfe2.fr.os.trans S.fe.fr.os))
  · exact (show w4.tape = w3.tape from G.tape).trans (hput.fr.tape.trans (hfe2.fr.tape.trans S.fe.fr.tape))
  · exact (show w4.output = w3.output from G.output).trans (hput.fr.output.trans (hfe2.fr.output.trans S.fe.fr.output))
  · have h1 : b ∉ F' := fun h => by
      rcases S.fe.sub b h with h | h
      · exact hn h
      · omega
    have h2 : b ∉ F2 := fun h => by
      rcases hfe2.sub b h with h | h
      · exact h1 h
      · omega
    rw [keep b (by omega) (fun e' => by have := (S.own b e').1; omega), hput.fr.block b (by omega) h2, hfe2.fr.block b (by omega) h1]
    exact S.fe.fr.block b hb hn
  · intro t ht
    rcases List.mem_append.1 ht with ht | ht
    · exact mem_ext (putIn_ext _ _) (mem_ext hpre2 (S.mem t ht))
    · simp at ht; subst ht; exact putIn_mem _ _
  · rw [List.map_append]; exact K
  · intro b hb
    rcases A with A | A
    · rw [A] at hb; exact ⟨(S.own b hb).1, hn3 b hb⟩
    · rw [A] at hb
      have : b = w3.heap.size + 1 := by simpa using hb.symm
      exact ⟨by omega, fun h => by have := hput.wo.blt b h; omega⟩
end

set_option maxHeartbeats 4000000 in
set_option maxRecDepth 100000 in
theorem of_step {C : List Nat} (hC : C.length ≤ 2000000000) {p n0 m : Nat} {s : Bool} (h0 : n0 ≤ 2 ^ m) (hm : m ≤ 64) (h64 : n0 ≤ 18446744073709551615) (ih : ∀ e, e ≤ m → 0 < n0 → OfC C p e false) : OfC C p n0 s := by
  intro W F D vs gks H HSm
  have HC : Hid (C.length ≤ 2000000000) := hC
  have HI : Hid (∀ e, e ≤ m → 0 < n0 → OfC C p e false) := ih
  have S0 : Hid (OfSt C W p F vs gks n0 s m n0 0 [] (.slice none 0 0) F D vs W) :=
    ⟨OfInv.start s h0, H.out, FE.refl _ _, List.prefix_refl _, HSm.out, by simp, ⟨rfl, .inl ⟨rfl, rfl⟩⟩, fun b h => by cases h⟩
  clear hC ih h0
  go_enter Tryz.func54, Tryz.ntmps54
  go_wp2_with fail
  go_loopg [1, 7, 8] n0 (fun g1 vn vo ve wr => ∃ (n e : Nat) (l : List Tm) (ov : Value) (F' : List Nat) (D' : WD) (vs' : List Int), vn = .int .u64 (n : Nat) ∧ vo = ov ∧ ve = .int .u64 (e : Nat) ∧ n ≤ g1 ∧ n ≤ n0 ∧ Hid (OfSt C W p F vs gks n0 s m n e l ov F' D' vs' wr))
  case atStart => exact ⟨n0, 0, [], _, F, D, vs, rfl, rfl, rfl, by omega, by omega, S0⟩
  case round =>
    clear S0
    obtain ⟨n, e, l, ov, F', D', vs', rfl, hov, rfl, hg, hnn, HS⟩ := hrel
    subst hov
    by_cases hn : 0 < n
    · have hnz : (0 : Int) < (n : Int) := by omega
      have hem := HS.out.inv.le hn
      have he0 : (0 : Int) ≤ (e : Int) := by omega
      have hn64 : (n : Int) ≤ 18446744073709551615 := by omega
      rcases (by omega : n % 4 = 0 ∨ n % 4 = 1 ∨ n % 4 = 2 ∨ n % 4 = 3) with h4 | h4 | h4 | h4
      · have h4z : (n : Int) % 4 = 0 := by omega
        have hev : n % 2 = 0 := by omega
        have HS2 : Hid (OfSt C W p F vs gks n0 s m (n / 2) (e + 1) l u7 F' D' vs' wr) := ⟨HS.out.inv.even hev, HS.out.wo, HS.out.fe, HS.out.pre, HS.out.small, HS.out.mem, HS.out.row, HS.out.own⟩
        clear h4 hev
        go_wp2_with fail
        go_roundg (n / 2)
        case measure => omega
        case rel => exact ⟨n / 2, e + 1, l, u7, F', D', vs', int_half n, rfl, by go_num, by omega, by omega, HS2⟩
      ·
        have h4z : (n : Int) % 4 = 1 := by omega
        have hodd : n % 2 = 1 := by omega
        have HInv := Lib.hid (HS.out.inv.one h4)
        have HCal := HI.out e hem (by omega) wr F' D' vs' gks (Lib.hid HS.out.wo) (Lib.hid HS.out.small)
        have hz1 : sgb false * (e : Int) = (e : Int) := by simp [sgb]
        rw [hz1] at HCal
        have hww : (n : Int) / 2 + 1 ≤ 18446744073709551615 := by omega
        clear h4 hodd hz1
        go_wp2_with fail
        refine HCal.mono ?_
        rintro z w2 ⟨F2, D2, vs2, v2, rfl, hwo2, hfe2, hpre2, hsm2, hr2, he2, ho2⟩
        clear HCal
        have HId := id_calls (C := C) (W := w2) (p := p) (F := F2) (D := D2) (vs := vs2) (gks := gks) (m := 66) hwo2 v2 (e : Int) he2.out hr2.out (by have := HC.out; omega)
        go_wp2_with fail
        refine HId.mono ?_
        rintro z w3 ⟨F3, D3, rfl, hput⟩
        clear HId
        obtain ⟨hrow3, _⟩ := HS.out.row3 hfe2.out hpre2.out ho2.out hput.out
        have HR3 := Lib.hid hrow3
        obtain ⟨ie, hie⟩ : ∃ ie, ie = (putIn vs2 (e : Int)).idxOf (e : Int) := ⟨_, rfl⟩
        have HIe := Lib.hid hie
        rw [← hie]
        have hlb : (l.map fun t => (t.1, (putIn vs2 (e : Int)).idxOf (t.2 : Int))).length + 1 ≤ 1099511627776 := by
          have h1 := naf_len (m := e) HS.out.inv.naf (fun t ht => by have := HS.out.inv.top t (List.mem_reverse.1 ht); omega)
          simp at h1 ⊢; omega
        clear hrow3 hie hr2 he2 hwo2
        go_wp2_with (at_builtin; go_loud (refine app_T1 rfl _ _ rfl u7 _ rfl (World.ownsRow.alloc HR3.out _) _ (s, ie) rfl (heap_last _ _) hlb ?_); intro v' w4 K4 G4 N4 A4
                     have HNx := Lib.hid (HS.out.push HC.out (by omega) hfe2.out hpre2.out hsm2.out ho2.out hput.out (by rw [← HIe.out]; exact K4) G4 A4 HInv.out)
                     clear K4 G4 N4 A4)
        go_roundg ((n - 1) / 2)
        case measure => omega
        case rel => exact ⟨(n - 1) / 2, e + 1, _, v', F3, D3, _, int_half1 n (by omega), rfl, by go_num, by omega, by omega, HNx⟩
      · have h4z : (n : Int) % 4 = 2 := by omega
        have hev : n % 2 = 0 := by omega
        have HS2 : Hid (OfSt C W p F vs gks n0 s m (n / 2) (e + 1) l u7 F' D' vs' wr) := ⟨HS.out.inv.even hev, HS.out.wo, HS.out.fe, HS.out.pre, HS.out.small, HS.out.mem, HS.out.row, HS.out.own⟩
        clear h4 hev
        go_wp2_with fail
        go_roundg (n / 2)
        case measure => omega
        case rel => exact ⟨n / 2, e + 1, l, u7, F', D', vs', int_half n, rfl, by go_num, by omega, by omega, HS2⟩
      ·
        have h4z : (n : Int) % 4 = 3 := by omega
        have hodd : n % 2 = 1 := by omega
        have HInv := Lib.hid (HS.out.inv.three h4)
        have HCal := HI.out e hem (by omega) wr F' D' vs' gks (Lib.hid HS.out.wo) (Lib.hid HS.out.small)
        have hz1 : sgb false * (e : Int) = (e : Int) := by simp [sgb]
        rw [hz1] at HCal
        have hww : (n : Int) / 2 + 1 ≤ 18446744073709551615 := by omega
        clear h4 hodd hz1
        go_wp2_with fail
        refine HCal.mono ?_
        rintro z w2 ⟨F2, D2, vs2, v2, rfl, hwo2, hfe2, hpre2, hsm2, hr2, he2, ho2⟩
        clear HCal
        have HId := id_calls (C := C) (W := w2) (p := p) (F := F2) (D := D2) (vs := vs2) (gks := gks) (m := 66) hwo2 v2 (e : Int) he2.out hr2.out (by have := HC.out; omega)
        go_wp2_with fail
        refine HId.mono ?_
        rintro z w3 ⟨F3, D3, rfl, hput⟩
        clear HId
        obtain ⟨hrow3, _⟩ := HS.out.row3 hfe2.out hpre2.out ho2.out hput.out
        have HR3 := Lib.hid hrow3
        obtain ⟨ie, hie⟩ : ∃ ie, ie = (putIn vs2 (e : Int)).idxOf (e : Int) := ⟨_, rfl⟩
        have HIe := Lib.hid hie
        rw [← hie]
        have hlb : (l.map fun t => (t.1, (putIn vs2 (e : Int)).idxOf (t.2 : Int))).length + 1 ≤ 1099511627776 := by
          have h1 := naf_len (m := e) HS.out.inv.naf (fun t ht => by have := HS.out.inv.top t (List.mem_reverse.1 ht); omega)
          simp at h1 ⊢; omega
        clear hrow3 hie hr2 he2 hwo2
        go_wp2_with (at_builtin; go_loud (refine app_T1 rfl _ _ rfl u7 _ rfl (World.ownsRow.alloc HR3.out _) _ (!s, ie) rfl (heap_last _ _) hlb ?_); intro v' w4 K4 G4 N4 A4
                     have HNx := Lib.hid (HS.out.push HC.out (by omega) hfe2.out hpre2.out hsm2.out ho2.out hput.out (by rw [← HIe.out]; exact K4) G4 A4 HInv.out)
                     clear K4 G4 N4 A4)
        go_roundg (n / 2 + 1)
        case measure => omega
        case rel => exact ⟨n / 2 + 1, e + 1, _, v', F3, D3, _, int_half3 n, rfl, by go_num, by omega, by omega, HNx⟩
    · have hnz : ¬ ((0 : Int) < (n : Int)) := by omega
      obtain rfl : n = 0 := by omega
      have hlb : (l.map fun t => (t.1, vs'.idxOf (t.2 : Int))).length ≤ 1000000000000 := by
        have h1 := naf_len (m := e) HS.out.inv.naf (fun t ht => by have := HS.out.inv.top t (List.mem_reverse.1 ht); omega)
        have h2 := nodup_length_le (l.map (·.2)) (vs'.map Int.toNat) (by
          have := HS.out.inv.naf
          unfold Naf at this
          rw [List.pairwise_reverse] at this
          unfold List.Nodup
          rw [List.pairwise_map]
          exact this.imp fun h => by omega) (fun x hx => by
          obtain ⟨t, ht, rfl⟩ := List.mem_map.1 hx
          exact List.mem_map.2 ⟨_, HS.out.mem t ht, by simp⟩)
        have h3 := small_len HS.out.wo.wv.nodup HS.out.small
        simp at h2 ⊢; omega
      have HRv := reverse_calls HS.out.row hlb
      go_wp2_with fail
      refine HRv.mono ?_
      rintro z w2 ⟨rfl, hr2, hg2⟩
      clear HRv
      go_wp2_with fail
      refine bodyPost_ret (results_tmp rfl _ _ _) rfl ?_
      have S := HS.out
      have hf := S.inv.done
      have hpf : pf vs' (sgb s * (n0 : Int)) = (l.map fun t => (t.1, vs'.idxOf (t.2 : Int))).reverse := by unfold pf; rw [hf, List.map_reverse]
      have hgr := hg2.out
      have hsz := hgr.size
      have hnb : ∀ b ∈ F', u7.ownBlock ≠ some b := fun b hb e => (S.own b e).2 hb
      have hk : ∀ b, b < wr.heap.size → u7.ownBlock ≠ some b → w2.heap[b]? = wr.heap[b]? := fun b h1 h2 => hgr.block b h1 (fun e => h2 e.symm)
      refine ⟨F', D', vs', u7, rfl, S.wo.kept fun b hb => hk b (S.wo.blt b hb) (hnb b hb), ⟨⟨hgr.os.trans S.fe.fr.os, hgr.tape.trans S.fe.fr.tape, hgr.output.trans S.fe.fr.output, Nat.le_trans S.fe.fr.size hsz, fun b hb hn => ?_⟩, S.fe.sub⟩, S.pre, S.small, ?_, fun x hx => ?_, S.own⟩
      · rw [hk b (Nat.lt_of_lt_of_le hb S.fe.fr.size) (fun e => by have := (S.own b e).1; omega)]
        exact S.fe.fr.block b hb hn
      · show TRow _ _ _
        rw [hpf]; exact hr2.out
      · obtain ⟨t, ht, rfl⟩ := List.mem_map.1 hx
        rw [hf] at ht
        exact S.mem t (List.mem_reverse.1 ht)

theorem of_small {C : List Nat} (hC : C.length ≤ 2000000000) (p : Nat) : ∀ (n : Nat), n ≤ 64 → ∀ s, OfC C p n s := by
  intro n
  induction n using Nat.strongRecOn with
  | _ n ih =>
    intro hn s
    obtain ⟨m, h1, h2⟩ := log_bd n
    rcases Nat.eq_zero_or_pos n with h0 | h0
    · exact of_step hC (m := 0) (by rw [h0]; simp) (by omega) (by omega) fun e _ h => by omega
    · exact of_step hC h1 (by have := h2 h0; omega) (by omega) fun e he _ => ih e (by have := h2 h0; omega) (by have := h2 h0; omega) false
theorem of_calls {C : List Nat} (hC : C.length ≤ 2000000000) (p n : Nat) (hn : n ≤ 18446744073709551615) (s : Bool) : OfC C p n s :=
  of_step hC (m := 64) (by simp; omega) (by omega) hn fun e he _ => of_small hC p e (by omega) false

set_option maxHeartbeats 4000000 in
set_option maxRecDepth 100000 in
theorem Of_calls (n : Int) (h1 : -9223372036854775808 ≤ n) (h2 : n ≤ 9223372036854775807) (W : World) : Calls Tryz.prog 20 #[.int .i64 n] W fun e W' => ∃ q, e = .returned (.agg #[.pointer q]) ∧ Hid (IsN W' (.agg #[.pointer q]) n) ∧ Hid (Below W.heap.size W W') := by
  have h289 : (9223372036854775808 : Nat) ≤ 2 ^ 240 := by decide
  have HAl := Lib.hid (allowed_small (x := n) (Nat.le_trans (by omega) h289))
  clear h289
  have HN := newWorld_calls [] (by simp) (W.alloc (.cells #[.pointer none] 26))
  go_enter Tryz.func20, Tryz.ntmps20
  go_wp2_with fail
  refine HN.mono ?_
  rintro e w1 ⟨p, F, D, rfl, HWO, HFE⟩
  clear HN
  have HT1 := Lib.hid (wt_new HWO.out HFE.out)
  clear HFE
  have HX2 : Hid (w1.heap[W.heap.size]? = some (.cells #[.pointer none] 26 (0, 0))) := Below.here HT1.out.low (heap_last W _)
  by_cases hn : n < 0
  · obtain ⟨N, hN⟩ : ∃ N : Nat, n = -(N : Int) := ⟨n.natAbs, by omega⟩
    have hw : IntKind.u64.wrap (-IntKind.u64.wrap n) = (N : Int) := by rw [IntKind.wrap_u64, IntKind.wrap_u64]; omega
    have HZ : Hid (sgb true * (N : Int) = n) := by show _ = _; simp [sgb]; omega
    have HCal := of_calls (C := []) (by simp) p N (by omega) true w1 F D [0] [] (Lib.hid (HWO.out.weaken (by simp) (by simp))) (by intro z hz; simp at hz; omega)
    clear hN
    rw [HZ.out] at HCal
    go_wp2_with fail
    refine HCal.mono ?_
    rintro e w2 ⟨F2, D2, vs2, v2, rfl, hwo2, hfe2, _, _, hr2, he2, ho2⟩
    clear HCal
    have HL2 := Lib.hid (fr_below HT1.out.low HT1.out.hi hfe2.out.fr)
    have Hi2 : Hid (∀ b ∈ F2, (W.alloc (.cells #[.pointer none] 26)).heap.size ≤ b) := fun b hb => by
      rcases hfe2.out.sub b hb with h | h
      · exact HT1.out.hi b h
      · have := HT1.out.low.size; omega
    have HG := give_calls hwo2 (v := v2) (fun W' _ hf => ownsRow_kept hr2.out fun b e => hf.block b (ownsRow_lt hr2.out e) (ho2.out b e).2) he2.out
    clear hr2 he2 ho2 hfe2 hwo2
    go_wp2_with fail
    refine HG.mono ?_
    rintro e w3 ⟨q, er, rfl, hf3, hn3⟩
    have HL3 := Lib.hid (fr_below HL2.out Hi2.out hf3.out)
    have HX3 := Lib.hid (Below.here HL3.out (heap_last W (.cells #[.pointer none] 26)))
    have c3 : w3.cell? ⟨W.heap.size, 0, none⟩ = some (.pointer none) := by rw [cell_of HX3.out]; rfl
    have c3a : ∀ o, (w3.alloc o).cell? ⟨W.heap.size, 0, none⟩ = some (.pointer none) := fun o => by rw [cell_of ((heap_old _ _ (Array.getElem?_eq_some_iff.1 HX3.out).1).trans HX3.out)]; rfl
    have f3a : ∀ o, (w3.alloc o).frozen? ⟨W.heap.size, 0, none⟩ = false := fun o => free_of ((heap_old _ _ (Array.getElem?_eq_some_iff.1 HX3.out).1).trans HX3.out) 0
    clear HG hf3
    go_wp2_with fail
    refine bodyPost_ret (v := .agg #[.pointer q]) (by simp [results, Tryz.results20, go_sem, c3a]) rfl ?_
    have hlow := HL3.out
    rw [size_alloc] at hlow
    have hb3 : Below W.heap.size W w3 := Below.trans' ((Below.refl _ _).alloc (Nat.le_refl _) (.cells #[.pointer none] 26)) HL3.out
    refine ⟨q, rfl, ?_, (hb3.alloc hb3.size _).setCell (by simp) _⟩
    have hi : IsN w3 (.agg #[.pointer q]) n := by
      rcases hn3.out with h | h
      · exact h.2.2
      · exact absurd HAl.out h.1
    exact (hi.below ((Below.refl _ _).alloc (Nat.le_refl _) _)).setCell ((heap_old _ _ (Array.getElem?_eq_some_iff.1 HX3.out).1).trans HX3.out) (by decide) _
  · obtain ⟨N, hN⟩ : ∃ N : Nat, n = (N : Int) := ⟨n.natAbs, by omega⟩
    subst hN
    have hd : decide ((N : Int) < 0) = false := by simp
    have HZ : Hid (sgb false * (N : Int) = (N : Int)) := by show _ = _; simp [sgb]
    have HCal := of_calls (C := []) (by simp) p N (by omega) false w1 F D [0] [] (Lib.hid (HWO.out.weaken (by simp) (by simp))) (by intro z hz; simp at hz; omega)
    rw [HZ.out] at HCal
    go_wp2_with fail
    refine HCal.mono ?_
    rintro e w2 ⟨F2, D2, vs2, v2, rfl, hwo2, hfe2, _, _, hr2, he2, ho2⟩
    clear HCal
    have HL2 := Lib.hid (fr_below HT1.out.low HT1.out.hi hfe2.out.fr)
    have Hi2 : Hid (∀ b ∈ F2, (W.alloc (.cells #[.pointer none] 26)).heap.size ≤ b) := fun b hb => by
      rcases hfe2.out.sub b hb with h | h
      · exact HT1.out.hi b h
      · have := HT1.out.low.size; omega
    have HG := give_calls hwo2 (v := v2) (fun W' _ hf => ownsRow_kept hr2.out fun b e => hf.block b (ownsRow_lt hr2.out e) (ho2.out b e).2) he2.out
    clear hr2 he2 ho2 hfe2 hwo2
    go_wp2_with fail
    refine HG.mono ?_
    rintro e w3 ⟨q, er, rfl, hf3, hn3⟩
    have HL3 := Lib.hid (fr_below HL2.out Hi2.out hf3.out)
    have HX3 := Lib.hid (Below.here HL3.out (heap_last W (.cells #[.pointer none] 26)))
    have c3 : w3.cell? ⟨W.heap.size, 0, none⟩ = some (.pointer none) := by rw [cell_of HX3.out]; rfl
    have c3a : ∀ o, (w3.alloc o).cell? ⟨W.heap.size, 0, none⟩ = some (.pointer none) := fun o => by rw [cell_of ((heap_old _ _ (Array.getElem?_eq_some_iff.1 HX3.out).1).trans HX3.out)]; rfl
    have f3a : ∀ o, (w3.alloc o).frozen? ⟨W.heap.size, 0, none⟩ = false := fun o => free_of ((heap_old _ _ (Array.getElem?_eq_some_iff.1 HX3.out).1).trans HX3.out) 0
    clear HG hf3
    go_wp2_with fail
    refine bodyPost_ret (v := .agg #[.pointer q]) (by simp [results, Tryz.results20, go_sem, c3a]) rfl ?_
    have hlow := HL3.out
    rw [size_alloc] at hlow
    have hb3 : Below W.heap.size W w3 := Below.trans' ((Below.refl _ _).alloc (Nat.le_refl _) (.cells #[.pointer none] 26)) HL3.out
    refine ⟨q, rfl, ?_, (hb3.alloc hb3.size _).setCell (by simp) _⟩
    have hi : IsN w3 (.agg #[.pointer q]) (N : Int) := by
      rcases hn3.out with h | h
      · exact h.2.2
      · exact absurd HAl.out h.1
    exact (hi.below ((Below.refl _ _).alloc (Nat.le_refl _) _)).setCell ((heap_old _ _ (Array.getElem?_eq_some_iff.1 HX3.out).1).trans HX3.out) (by decide) _
end Sr
/- part: the plain part: which parts of x are parts of one of them, and their places there. -/
namespace Sr

open Classical in
/-- of the first i parts of x those that are parts of q -/
noncomputable def sel (x : Int) (q i : Nat) : List Nat := ((parts x).take i).filter fun p => decide (IsPart (q : Int) p)
theorem take_snoc' {α : Type} {l : List α} {k : Nat} {x : α} (h : l[k]? = some x) : l.take (k + 1) = l.take k ++ [x] := by
  rw [List.take_add_one, h]; rfl
theorem sel_yes {x : Int} {q i p : Nat} (h : (parts x)[i]? = some p) (hp : IsPart (q : Int) p) : sel x q (i + 1) = sel x q i ++ [p] := by
  classical
  unfold sel; rw [take_snoc' h, List.filter_append]; simp [hp]
theorem sel_no {x : Int} {q i p : Nat} (h : (parts x)[i]? = some p) (hp : ¬ IsPart (q : Int) p) : sel x q (i + 1) = sel x q i := by
  classical
  unfold sel; rw [take_snoc' h, List.filter_append]; simp [hp]
theorem parts_inj {x : Int} {i j p : Nat} (hi : (parts x)[i]? = some p) (hj : (parts x)[j]? = some p) : i = j := by
  obtain ⟨a1, a2⟩ := List.getElem?_eq_some_iff.1 hi
  obtain ⟨b1, b2⟩ := List.getElem?_eq_some_iff.1 hj
  have e1 := List.Nodup.idxOf_getElem (parts_nodup x) i a1
  have e2 := List.Nodup.idxOf_getElem (parts_nodup x) j b1
  rw [a2] at e1; rw [b2] at e2
  exact e1.symm.trans e2
theorem parts_lt {x : Int} {i j p q : Nat} (hi : (parts x)[i]? = some p) (hj : (parts x)[j]? = some q) : i < j ↔ p < q := by
  obtain ⟨a1, a2⟩ := List.getElem?_eq_some_iff.1 hi
  obtain ⟨b1, b2⟩ := List.getElem?_eq_some_iff.1 hj
  have key := List.pairwise_iff_getElem.1 (parts_sorted x)
  constructor
  · intro h; have := key i j a1 b1 h; omega
  · intro h
    rcases Nat.lt_trichotomy i j with h1 | h1 | h1
    · exact h1
    · subst h1; rw [a2] at b2; omega
    · have := key j i b1 a1 h1; omega
theorem parts_get {x : Int} {e : Nat} (h : e ∈ parts x) : (parts x)[(parts x).idxOf e]? = some e := by
  have h3 := List.idxOf_lt_length_of_mem h
  rw [List.getElem?_eq_getElem h3]; simp
theorem sel_parts {x : Int} {q k : Nat} (h : (parts x)[k]? = some q) : sel x q k = parts (q : Int) := by
  classical
  have hq : IsPart x q := mem_parts.1 (List.mem_of_getElem? h)
  refine sorted_ext ((List.Pairwise.sublist (List.take_sublist _ _) (parts_sorted x)).filter _) (parts_sorted _) fun p => ?_
  unfold sel
  rw [List.mem_filter, mem_parts]
  simp only [decide_eq_true_eq]
  refine ⟨fun h => h.2, fun hp => ⟨?_, hp⟩⟩
  have hm : p ∈ parts x := mem_parts.2 (hq.trans hp)
  have hlt : p < q := by simpa using hp.lt
  have h1 := parts_get hm
  have h2 := (parts_lt h1 h).2 hlt
  exact List.mem_iff_getElem?.2 ⟨_, by rw [List.getElem?_take_of_lt h2]; exact h1⟩
theorem sel_prefix {x : Int} {q i k : Nat} (hik : i ≤ k) : sel x q i <+: sel x q k := by
  classical
  unfold sel
  have : (parts x).take i <+: (parts x).take k := by
    rw [show (parts x).take i = ((parts x).take k).take i by rw [List.take_take, Nat.min_eq_left hik]]
    exact List.take_prefix _ _
  exact this.filter _
/-- the place of a part -/
theorem sel_place {x : Int} {q i k p : Nat} (h : (parts x)[k]? = some q) (hi : (parts x)[i]? = some p) (hik : i < k) (hp : IsPart (q : Int) p) : (parts (q : Int)).idxOf p = (sel x q i).length := by
  have h1 := sel_prefix (x := x) (q := q) (show i + 1 ≤ k by omega)
  rw [sel_yes hi hp, sel_parts h] at h1
  obtain ⟨l, hl⟩ := h1
  have h2 : (parts (q : Int))[(sel x q i).length]? = some p := by rw [← hl]; simp
  obtain ⟨a1, a2⟩ := List.getElem?_eq_some_iff.1 h2
  have e1 := List.Nodup.idxOf_getElem (parts_nodup (q : Int)) _ a1
  rw [a2] at e1; exact e1

/-- the marks: places from r on are done -/
structure Mk (x : Int) (q k r : Nat) (u : List Bool) : Prop where
  len : u.length = k + 1
  top : u[k]? = some true
  snd : ∀ (j p : Nat), u[j]? = some true → (parts x)[j]? = some p → p = q ∨ IsPart (q : Int) p
  cls : ∀ (l p : Nat), r ≤ l → u[l]? = some true → (parts x)[l]? = some p → ∀ e ∈ exps (p : Int), u[(parts x).idxOf e]? = some true
/-- .. and of the place i the first m terms -/
structure MkI (x : Int) (q k i m : Nat) (u : List Bool) : Prop where
  mk' : Mk x q k (i + 1) u
  done : ∀ p, u[i]? = some true → (parts x)[i]? = some p → ∀ e ∈ (exps (p : Int)).take m, u[(parts x).idxOf e]? = some true

theorem Mk.start {x : Int} {q k : Nat} (h : (parts x)[k]? = some q) : Mk x q k (k + 1) ((List.replicate (k + 1) false).set k true) where
  len := by simp
  top := by simp
  snd := fun j p hj hp => by
    by_cases e : j = k
    · subst e; rw [h] at hp; cases hp; exact .inl rfl
    · rw [List.getElem?_set_ne (Ne.symm e), List.getElem?_replicate] at hj
      split at hj <;> cases hj
  cls := fun l p hr hl _ => by
    have := (List.getElem?_eq_some_iff.1 hl).1
    simp at this; omega
theorem Mk.inner {x : Int} {q k i : Nat} {u : List Bool} (h : Mk x q k (i + 1) u) : MkI x q k i 0 u := ⟨h, fun _ _ _ e he => by simp at he⟩
theorem MkI.step {x : Int} {q k i m p e : Nat} {u : List Bool} {a b : Bool} (h : MkI x q k i m u) (hi : (parts x)[i]? = some p) (he : (exps (p : Int))[m]? = some e) (ha : u[(parts x).idxOf e]? = some a) (hb : u[i]? = some b) :
    MkI x q k i (m + 1) (u.set ((parts x).idxOf e) (a || b)) := by
  have hip : IsPart x p := mem_parts.1 (List.mem_of_getElem? hi)
  have hem : e ∈ exps (p : Int) := List.mem_of_getElem? he
  have hep : e ∈ parts x := mem_parts.2 (.step hip hem)
  have hge := parts_get hep
  have hlt : (parts x).idxOf e < i := (parts_lt hge hi).2 (by have := exps_lt hem; simpa using this)
  have hju : (parts x).idxOf e < u.length := (List.getElem?_eq_some_iff.1 ha).1
  have mono : ∀ j : Nat, u[j]? = some true → (u.set ((parts x).idxOf e) (a || b))[j]? = some true := fun j hj => by
    by_cases ej : j = (parts x).idxOf e
    · subst ej; rw [ha] at hj; cases hj; rw [List.getElem?_set_self hju]; simp
    · rw [List.getElem?_set_ne (Ne.symm ej)]; exact hj
  have back : ∀ j : Nat, (u.set ((parts x).idxOf e) (a || b))[j]? = some true → u[j]? = some true ∨ (j = (parts x).idxOf e ∧ b = true) := fun j hj => by
    by_cases ej : j = (parts x).idxOf e
    · subst ej
      rw [List.getElem?_set_self hju] at hj
      have : (a || b) = true := Option.some.inj hj
      cases a
      · right; exact ⟨rfl, by simpa using this⟩
      · left; exact ha
    · rw [List.getElem?_set_ne (Ne.symm ej)] at hj; exact .inl hj
  refine ⟨⟨by simp [h.mk'.len], mono _ h.mk'.top, fun j p' hj hp' => ?_, fun l p' hr hl hp' e' he' => ?_⟩, fun p' hp' hp2 e' he' => ?_⟩
  · rcases back j hj with hj | ⟨rfl, rfl⟩
    · exact h.mk'.snd j p' hj hp'
    · rw [hge] at hp'; cases hp'
      rcases h.mk'.snd i p hb hi with rfl | h1
      · exact .inr (.here hem)
      · exact .inr (.step h1 hem)
  · rcases back l hl with hl | ⟨rfl, _⟩
    · exact mono _ (h.mk'.cls l p' hr hl hp' e' he')
    · omega
  · rw [hi] at hp2; cases hp2
    rw [take_snoc' he] at he'
    have hpi : u[i]? = some true := by
      rcases back i hp' with h1 | ⟨h1, _⟩
      · exact h1
      · omega
    rcases List.mem_append.1 he' with he' | he'
    · exact mono _ (h.done p hpi hi e' he')
    · simp at he'; subst he'
      rw [hb] at hpi; cases hpi
      rw [List.getElem?_set_self hju]; simp
theorem MkI.done' {x : Int} {q k i m p : Nat} {u : List Bool} (h : MkI x q k i m u) (hi : (parts x)[i]? = some p) (hm : (exps (p : Int)).length ≤ m) : Mk x q k i u where
  len := h.mk'.len
  top := h.mk'.top
  snd := h.mk'.snd
  cls := fun l p' hr hl hp' e he => by
    rcases Nat.lt_or_eq_of_le hr with h1 | h1
    · exact h.mk'.cls l p' h1 hl hp' e he
    · subst h1
      rw [hi] at hp'; cases hp'
      exact h.done p hl hi e (by rw [List.take_of_length_le hm]; exact he)
/-- in the end the marks tell the parts -/
theorem Mk.fin {x : Int} {q k j p : Nat} {u : List Bool} (h : Mk x q k 0 u) (hk : (parts x)[k]? = some q) (hj : (parts x)[j]? = some p) (hjk : j < k) : u[j]? = some true ↔ IsPart (q : Int) p := by
  constructor
  · intro hu
    rcases h.snd j p hu hj with rfl | h1
    · have := parts_inj hj hk; omega
    · exact h1
  · intro hp
    have key : ∀ {p : Nat}, IsPart (q : Int) p → u[(parts x).idxOf p]? = some true := fun {p} hp => by
      induction hp with
      | here he => exact h.cls k q (by omega) h.top hk _ he
      | @step r s hr he ih =>
        have hm : r ∈ parts x := mem_parts.2 ((mem_parts.1 (List.mem_of_getElem? hk)).trans hr)
        exact h.cls _ r (by omega) ih (parts_get hm) _ he
    have := key hp
    rwa [parts_inj (parts_get (List.mem_of_getElem? hj)) hj] at this
theorem Mk.bool {x : Int} {q k r j : Nat} {u : List Bool} (h : Mk x q k r u) (hj : j ≤ k) : ∃ b, u[j]? = some b := ⟨_, List.getElem?_eq_getElem (by rw [h.len]; omega)⟩

/-- the places: a list of which entries of parts of q that come before i are the places in q -/
structure Pls (x : Int) (q k i : Nat) (ds : List Nat) : Prop where
  len : ds.length = k
  ok : ∀ (j p : Nat), j < i → (parts x)[j]? = some p → IsPart (q : Int) p → ds[j]? = some ((parts (q : Int)).idxOf p)
theorem Pls.start (x : Int) (q k : Nat) : Pls x q k 0 (List.replicate k 0) := ⟨by simp, fun j p h => by omega⟩
theorem Pls.no {x : Int} {q k i p : Nat} {ds : List Nat} (h : Pls x q k i ds) (hi : (parts x)[i]? = some p) (hp : ¬ IsPart (q : Int) p) : Pls x q k (i + 1) ds :=
  ⟨h.len, fun j r hj hr hq => by
    rcases Nat.lt_or_eq_of_le (Nat.lt_succ_iff.1 hj) with h1 | h1
    · exact h.ok j r h1 hr hq
    · subst h1; rw [hi] at hr; cases hr; exact absurd hq hp⟩
theorem Pls.yes {x : Int} {q k i p : Nat} {ds : List Nat} (h : Pls x q k i ds) (hk : (parts x)[k]? = some q) (hi : (parts x)[i]? = some p) (hik : i < k) (hp : IsPart (q : Int) p) : Pls x q k (i + 1) (ds.set i (sel x q i).length) :=
  ⟨by simp [h.len], fun j r hj hr hq => by
    rcases Nat.lt_or_eq_of_le (Nat.lt_succ_iff.1 hj) with h1 | h1
    · rw [List.getElem?_set_ne (by omega)]; exact h.ok j r h1 hr hq
    · subst h1; rw [hi] at hr; cases hr
      rw [List.getElem?_set_self (by rw [h.len]; exact hik), sel_place hk hi hik hp]⟩
/-- what 'placed' asks of the places -/
theorem Pls.places {x : Int} {q k i : Nat} {ds : List Nat} (h : Pls x q k i ds) (_ : (parts x)[k]? = some q) {y : Int} (hy : ∀ e ∈ exps y, e ∈ parts x ∧ (parts x).idxOf e < i ∧ IsPart (q : Int) e) :
    ∀ t ∈ atPl (parts x) y, ds[t.2]? = some ((parts (q : Int)).idxOf ((parts x).getD t.2 0)) := by
  intro t ht
  obtain ⟨s, hs, rfl⟩ := List.mem_map.1 ht
  obtain ⟨h1, h2, h3⟩ := hy s.2 (mem_exps hs)
  have h4 := parts_get h1
  show ds[(parts x).idxOf s.2]? = some ((parts (q : Int)).idxOf ((parts x).getD ((parts x).idxOf s.2) 0))
  rw [h.ok _ _ h2 h4 h3, List.getD_eq_getElem?_getD, h4]; rfl
theorem atPl_part {x : Int} {q : Nat} {y : Int} (hy : ∀ e ∈ exps y, e ∈ parts x) : (atPl (parts x) y).map (fun t => (t.1, (parts (q : Int)).idxOf ((parts x).getD t.2 0))) = atPl (parts (q : Int)) y := by
  unfold atPl
  rw [List.map_map]
  refine List.map_congr_left fun t ht => ?_
  have h4 := parts_get (hy t.2 (mem_exps ht))
  simp only [Function.comp]
  rw [List.getD_eq_getElem?_getD, h4]; rfl
/-- a part of an allowed number is allowed -/
theorem height_part {x : Int} {q : Nat} (h : IsPart x q) : height (q : Int) ≤ height x := by
  have key : ∀ {x : Int} {e : Nat}, e ∈ exps x → height (e : Int) + 1 ≤ height x := fun {x e} he => by
    rw [height_eq x]
    exact le_maxl (List.mem_map.2 ⟨e, he, rfl⟩)
  induction h with
  | here he => have := key he; omega
  | step _ he ih => have := key he; omega
theorem allowed_part {x : Int} {q : Nat} (hx : allowed x) (h : IsPart x q) : allowed (q : Int) := by
  obtain ⟨a1, a2, a3, a4⟩ := hx
  refine ⟨a2 q (mem_parts.2 h), fun p hp => a2 p (mem_parts.2 (h.trans (mem_parts.1 hp))), ?_, ?_⟩
  · have := nodup_length_le _ _ (parts_nodup (q : Int)) (fun p hp => mem_parts.2 (h.trans (mem_parts.1 hp)) : ∀ p ∈ parts (q : Int), p ∈ parts x)
    omega
  · have := height_part h; omega
end Sr
