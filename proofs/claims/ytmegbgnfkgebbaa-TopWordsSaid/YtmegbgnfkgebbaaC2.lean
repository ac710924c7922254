/- Plain facts on lists of bytes in groups of four and of eight, no program in sight. No conditions. -/
import Derived.Test.YtmegbgnfkgebbaaC1
set_option linter.unusedVariables false
set_option linter.unusedSimpArgs false
namespace Go.Proofs.Ytmegbgnfkgebbaa.C2
open Go.RowKit Go.Proofs.YtmegbgnfkgebbaaW.PrintWords V C1

theorem w32_cons (a b c d : Int) (xs : List Int) : w32 (a :: b :: c :: d :: xs) = (a + 256 * b + 65536 * c + 16777216 * d) :: w32 xs := rfl
theorem w32_short {zs : List Int} (h : zs.length < 4) : w32 zs = [] := by
  match zs, h with
  | [], _ => rfl
  | [_], _ => rfl
  | [_, _], _ => rfl
  | [_, _, _], _ => rfl
  | _ :: _ :: _ :: _ :: _, h => simp at h; omega
theorem w64_short {zs : List Int} (h : zs.length < 8) : w64 zs = [] := by
  match zs, h with
  | [], _ => rfl
  | [_], _ => rfl
  | [_, _], _ => rfl
  | [_, _, _], _ => rfl
  | [_, _, _, _], _ => rfl
  | [_, _, _, _, _], _ => rfl
  | [_, _, _, _, _, _], _ => rfl
  | [_, _, _, _, _, _, _], _ => rfl
  | _ :: _ :: _ :: _ :: _ :: _ :: _ :: _ :: _, h => simp at h; omega
theorem eight {zs : List Int} (h : 8 ≤ zs.length) : ∃ a b c d e f g i zs', zs = a :: b :: c :: d :: e :: f :: g :: i :: zs' := by
  match zs, h with
  | a :: b :: c :: d :: e :: f :: g :: i :: zs', _ => exact ⟨a, b, c, d, e, f, g, i, zs', rfl⟩
theorem w32_len' : ∀ (n : Nat) (zs : List Int), zs.length ≤ n → (w32 zs).length ≤ zs.length := by
  intro n
  induction n with
  | zero => intro zs h; rw [w32_short (by omega)]; simp
  | succ n ih =>
    intro zs h
    rcases Nat.lt_or_ge zs.length 4 with h4 | h4
    · rw [w32_short h4]; simp
    · obtain ⟨a, b, c, d, zs', rfl⟩ := four h4
      have := ih zs' (by simp at h; omega)
      simp [w32_cons]; omega
theorem w64_len' : ∀ (n : Nat) (zs : List Int), zs.length ≤ n → (w64 zs).length ≤ zs.length := by
  intro n
  induction n with
  | zero => intro zs h; rw [w64_short (by omega)]; simp
  | succ n ih =>
    intro zs h
    rcases Nat.lt_or_ge zs.length 8 with h4 | h4
    · rw [w64_short h4]; simp
    · rw [w64_cons h4]
      have := ih (zs.drop 8) (by rw [List.length_drop]; omega)
      rw [List.length_drop] at this
      simp; omega
theorem w32_len (ys : List Int) (j : Nat) : (w32 (ys.take j)).length ≤ j := by
  have := w32_len' _ (ys.take j) (Nat.le_refl _)
  rw [List.length_take] at this
  omega
theorem w64_len (ys : List Int) (j : Nat) : (w64 (ys.take j)).length ≤ j := by
  have := w64_len' _ (ys.take j) (Nat.le_refl _)
  rw [List.length_take] at this
  omega
theorem w32_app : ∀ (n : Nat) (zs ts : List Int), zs.length ≤ n → zs.length % 4 = 0 → w32 (zs ++ ts) = w32 zs ++ w32 ts := by
  intro n
  induction n with
  | zero => intro zs ts h _; obtain rfl := List.eq_nil_of_length_eq_zero (Nat.le_zero.1 h); rfl
  | succ n ih =>
    intro zs ts h hm
    rcases Nat.lt_or_ge zs.length 4 with h4 | h4
    · obtain rfl := List.eq_nil_of_length_eq_zero (show zs.length = 0 by omega); rfl
    · obtain ⟨a, b, c, d, zs', rfl⟩ := four h4
      simp only [List.cons_append, w32_cons]
      rw [ih zs' ts (by simp at h; omega) (by simp at hm; omega)]
theorem w64_app : ∀ (n : Nat) (zs ts : List Int), zs.length ≤ n → zs.length % 8 = 0 → w64 (zs ++ ts) = w64 zs ++ w64 ts := by
  intro n
  induction n with
  | zero => intro zs ts h _; obtain rfl := List.eq_nil_of_length_eq_zero (Nat.le_zero.1 h); rfl
  | succ n ih =>
    intro zs ts h hm
    rcases Nat.lt_or_ge zs.length 8 with h4 | h4
    · obtain rfl := List.eq_nil_of_length_eq_zero (show zs.length = 0 by omega); rfl
    · rw [w64_cons h4, w64_cons (by simp; omega), List.take_append_of_le_length h4, List.drop_append_of_le_length h4, ih (zs.drop 8) ts (by rw [List.length_drop]; omega) (by rw [List.length_drop]; omega)]
      rfl
theorem take_more (ys : List Int) (j m : Nat) : ys.take (j + m) = ys.take j ++ (ys.drop j).take m := by rw [List.take_add]
theorem w32_snoc {ys : List Int} (h : By ys) {j : Nat} (hj : j % 4 = 0) (hl : j + 4 ≤ ys.length) : w32 (ys.take (j + 4)) = w32 (ys.take j) ++ [be 0 ((ys.drop j).take 4).reverse % 4294967296] := by
  rw [take_more, w32_app _ _ _ (Nat.le_refl _) (by rw [List.length_take]; omega)]
  congr 1
  have hb : By ((ys.drop j).take 4) := fun x hx => h x (List.mem_of_mem_drop (List.mem_of_mem_take hx))
  obtain ⟨a, b, c, d, zs, e⟩ := four (zs := (ys.drop j).take 4) (by rw [List.length_take, List.length_drop]; omega)
  have hz : zs = [] := by
    have := congrArg List.length e
    rw [List.length_take, List.length_drop] at this
    simp at this
    exact List.eq_nil_of_length_eq_zero (by omega)
  subst hz
  rw [e] at hb ⊢
  have ha := hb a (by simp)
  have hb' := hb b (by simp)
  have hc := hb c (by simp)
  have hd := hb d (by simp)
  simp [w32, be]
  omega
theorem w32_stop {ys : List Int} {j : Nat} (hj : j % 4 = 0) (hl : j ≤ ys.length) (h : ys.length < j + 4) : w32 (ys.take j) = w32 ys := by
  have e := w32_app _ (ys.take j) (ys.drop j) (Nat.le_refl _) (by rw [List.length_take]; omega)
  rw [List.take_append_drop, w32_short (zs := ys.drop j) (by rw [List.length_drop]; omega), List.append_nil] at e
  exact e.symm
theorem w64_snoc {ys : List Int} {j : Nat} (hj : j % 8 = 0) (hl : j + 8 ≤ ys.length) : w64 (ys.take (j + 8)) = w64 (ys.take j) ++ [be 0 ((ys.drop j).take 8)] := by
  rw [take_more, w64_app _ _ _ (Nat.le_refl _) (by rw [List.length_take]; omega)]
  congr 1
  rw [w64_cons (by rw [List.length_take, List.length_drop]; omega), List.take_take, List.drop_take, w64_short (by simp)]
  rfl
theorem w64_stop {ys : List Int} {j : Nat} (hj : j % 8 = 0) (hl : j ≤ ys.length) (h : ys.length < j + 8) : w64 (ys.take j) = w64 ys := by
  have e := w64_app _ (ys.take j) (ys.drop j) (Nat.le_refl _) (by rw [List.length_take]; omega)
  rw [List.take_append_drop, w64_short (zs := ys.drop j) (by rw [List.length_drop]; omega), List.append_nil] at e
  exact e.symm
theorem b32_w32' : ∀ (n : Nat) (ys : List Int), ys.length ≤ n → By ys → ys.length % 4 = 0 → b32 (w32 ys) = ys := by
  intro n
  induction n with
  | zero => intro ys h _ _; obtain rfl := List.eq_nil_of_length_eq_zero (Nat.le_zero.1 h); rfl
  | succ n ih =>
    intro ys h hb hm
    rcases Nat.lt_or_ge ys.length 4 with h4 | h4
    · obtain rfl := List.eq_nil_of_length_eq_zero (show ys.length = 0 by omega); rfl
    · obtain ⟨a, b, c, d, zs, rfl⟩ := four h4
      have ha := hb a (by simp)
      have hb' := hb b (by simp)
      have hc := hb c (by simp)
      have hd := hb d (by simp)
      simp only [w32_cons, b32]
      rw [ih zs (by simp at h; omega) (fun x hx => hb x (by simp [hx])) (by simp at hm; omega)]
      simp
      omega
theorem b32_w32 {ys : List Int} (h : By ys) (hl : ys.length % 4 = 0) : b32 (w32 ys) = ys := b32_w32' _ ys (Nat.le_refl _) h hl
theorem beB_be8 {a b c d e f g i : Int} (h : By [a, b, c, d, e, f, g, i]) : beB (be 0 [a, b, c, d, e, f, g, i]) 8 = [a, b, c, d, e, f, g, i] := by
  have ha := h a (by simp)
  have hb := h b (by simp)
  have hc := h c (by simp)
  have hd := h d (by simp)
  have he := h e (by simp)
  have hf := h f (by simp)
  have hg := h g (by simp)
  have hi := h i (by simp)
  have e0 : be 0 [a, b, c, d, e, f, g, i] = ((((((a * 256 + b) * 256 + c) * 256 + d) * 256 + e) * 256 + f) * 256 + g) * 256 + i := by
    simp only [be]
    omega
  rw [e0]
  have er : beB (((((((a * 256 + b) * 256 + c) * 256 + d) * 256 + e) * 256 + f) * 256 + g) * 256 + i) 8 = (List.range 8).reverse.map fun k => (((((((a * 256 + b) * 256 + c) * 256 + d) * 256 + e) * 256 + f) * 256 + g) * 256 + i) / 256 ^ k % 256 := by
    simp [beB, leB, List.map_reverse]
  rw [er]
  have e8 : (List.range 8).reverse = [7, 6, 5, 4, 3, 2, 1, 0] := by decide
  rw [e8]
  simp only [List.map_cons, List.map_nil, Int.reducePow, Int.pow_zero]
  simp only [List.cons.injEq, and_true]
  omega
theorem b64_w64' : ∀ (n : Nat) (ys : List Int), ys.length ≤ n → By ys → ys.length % 8 = 0 → b64 (w64 ys) = ys := by
  intro n
  induction n with
  | zero => intro ys h _ _; obtain rfl := List.eq_nil_of_length_eq_zero (Nat.le_zero.1 h); rfl
  | succ n ih =>
    intro ys h hb hm
    rcases Nat.lt_or_ge ys.length 8 with h4 | h4
    · obtain rfl := List.eq_nil_of_length_eq_zero (show ys.length = 0 by omega); rfl
    · obtain ⟨a, b, c, d, e, f, g, i, zs, rfl⟩ := eight h4
      rw [w64_cons h4]
      simp only [List.take_succ_cons, List.take_zero, List.drop_succ_cons, List.drop_zero, b64]
      rw [ih zs (by simp at h; omega) (fun x hx => hb x (by simp [hx])) (by simp at hm; omega), beB_be8 (fun x hx => hb x (show x ∈ [a, b, c, d, e, f, g, i] ++ zs from List.mem_append_left zs hx))]
      rfl
theorem b64_w64 {ys : List Int} (h : By ys) (hl : ys.length % 8 = 0) : b64 (w64 ys) = ys := b64_w64' _ ys (Nat.le_refl _) h hl
theorem By.leB (x : Int) (k : Nat) : By (leB x k) := fun y hy => by
  simp only [V.leB, List.mem_map] at hy
  obtain ⟨i, _, rfl⟩ := hy
  omega
theorem By.putL (x s : Int) : By (putL x s) := fun y hy => by
  unfold V.putL at hy
  split at hy
  · exact By.leB x s.toNat y (by simpa [beB] using hy)
  · simp at hy
theorem By.lowL (x s : Int) : By (lowL x s) := fun y hy => by
  unfold V.lowL at hy
  split at hy
  · exact By.leB x s.toNat y hy
  · simp at hy
theorem putL_len (x s : Int) : (putL x s).length ≤ 8 := by
  unfold V.putL
  split
  · rename_i h
    rw [beB_len]
    have := fits_sz h
    omega
  · simp
end Go.Proofs.Ytmegbgnfkgebbaa.C2
