/- Contracts of the functions of package word and of the law's own byte functions: each call returns just the list or number that the plain definition gives. Conditions: lengths far below the memory of any machine, where the callers hold them. -/
import Derived.Test.YtmegbgnfkgebbaaV
import Derived.Laws.BitsAllLaws
import Derived.Lib.SlBytesConst
import Derived.Lib.SmallJoins
import Derived.RegionTactic
import Derived.StillTailTactics
import Derived.Deep.RegionHeld3
import Derived.Deep.AppendLies
import Derived.ChangeAlike
set_option linter.unusedVariables false
set_option linter.unusedSimpArgs false
namespace Go.Proofs.Ytmegbgnfkgebbaa.C1
open Go.RowKit Go.Proofs.YtmegbgnfkgebbaaW.PrintWords V

theorem info37 : (Try.prog.info? 37).map (fun i => (i.zero, i.size, i.bytes)) = some (some (.int .u32 0), 1, 4) := by kernel_rfl
theorem info24 : (Try.prog.info? 24).map (fun i => (i.zero, i.size, i.bytes)) = some (some (.int .u64 0), 1, 8) := by kernel_rfl
theorem info5 : (Try.prog.info? 5).map (fun i => (i.zero, i.size, i.bytes)) = some (some (.int .u8 0), 1, 1) := by kernel_rfl

theorem or_byte (s x : Int) (_h0 : 0 ≤ s) (x0 : 0 ≤ x) (x1 : x < 256) :
    bits .or .u64 (IntKind.u64.wrap (s * 256)) x = (s * 256 + x) % 18446744073709551616 := by
  rw [IntKind.wrap_u64, u64_or _ _ (by omega) (by omega) (by omega) (by omega)]
  rw [nat_join 8 _ _ (by show _ % 256 = 0; omega) (by show _ < 256; omega)]
  omega
theorem be_snoc (xs : List Int) (x : Int) : ∀ a, be a (xs ++ [x]) = (be a xs * 256 + x) % 18446744073709551616 := by
  induction xs with
  | nil => intro a; rfl
  | cons y xs ih => intro a; exact ih _
theorem take_getD (xs : List Int) (k : Nat) (h : k < xs.length) : xs.take (k + 1) = xs.take k ++ [xs.getD k 0] := by
  rw [List.take_succ_eq_append_getElem h]
  simp [List.getD_eq_getElem?_getD, List.getElem?_eq_getElem h]
theorem By.getD {xs : List Int} (h : By xs) (k : Nat) : 0 ≤ xs.getD k 0 ∧ xs.getD k 0 < 256 := by
  rcases Nat.lt_or_ge k xs.length with hk | hk
  · rw [List.getD_eq_getElem?_getD, List.getElem?_eq_getElem hk]; exact h _ (List.getElem_mem hk)
  · rw [List.getD_eq_getElem?_getD, List.getElem?_eq_none hk]; simp
theorem be_bd (xs : List Int) : ∀ a, 0 ≤ a → a < 18446744073709551616 → 0 ≤ be a xs ∧ be a xs < 18446744073709551616 := by
  induction xs with
  | nil => intro a h h'; exact ⟨h, h'⟩
  | cons x xs ih => intro a _ _; exact ih _ (by omega) (by omega)
theorem ret_bool {a b : Bool} (h : a = b) : Ending.returned (.bool a) = .returned (.bool b) := by rw [h]
theorem ret_u64 {a b : Int} (h : a = b) : Ending.returned (.int .u64 a) = .returned (.int .u64 b) := by rw [h]

variable (A A' : Option Addr) (n c n' c' : Nat) (xs ys : List Int) (w : World)

set_option maxRecDepth 10000 in
set_option maxHeartbeats 400000 in
theorem counted_any (hr : ReadsInt w .u8 A n xs) (hx : By xs) :
    Calls Try.prog 18 #[.slice A n c] w fun e w' => e = .returned (.int .u64 (be 0 xs)) ∧ w = w' := by
  obtain ⟨h1, h2, h3⟩ := hr
  go_enter Try.func18, Try.ntmps18
  go_wp2
  go_loop [3, 8] (fun s i => ∃ k : Nat, k ≤ n ∧ i = .int .i64 k ∧ s = .int .u64 (be 0 (xs.take k))) (fun _ i => n - (intOf i).toNat)
  case atStart => exact ⟨0, Nat.zero_le _, rfl, rfl⟩
  case round =>
    obtain ⟨k, hk, rfl, rfl⟩ := hrel
    obtain ⟨s, hs⟩ : ∃ s, s = be 0 (xs.take k) := ⟨_, rfl⟩
    rw [← hs]
    have hsb := be_bd (xs.take k) 0 (by omega) (by omega)
    rw [← hs] at hsb
    have Hs := Lib.hid hs
    clear hs
    by_cases hlt : k < n
    · obtain ⟨ad, rfl, hc⟩ := h3 (by omega)
      have hc1 := hc k hlt
      have hxb := By.getD hx k
      obtain ⟨x, hxe⟩ : ∃ x, x = xs.getD k 0 := ⟨_, rfl⟩
      rw [← hxe] at hc1 hxb
      have Hx := Lib.hid hxe
      clear hc hxe
      go_wp2
      go_round
      case rel => exact ⟨k + 1, by omega, by go_num, by rw [take_getD xs k (by omega), be_snoc, ← Hs.out, ← Hx.out, or_byte s x hsb.1 hxb.1 hxb.2]⟩
      case measure => simp [intOf]; omega
    · go_wp2
      go_ret
      exact ⟨ret_u64 (by rw [Hs.out, List.take_of_length_le (by omega)]), rfl⟩

set_option maxRecDepth 10000 in
set_option maxHeartbeats 400000 in
theorem get_any (hr : ReadsInt w .u8 A n xs) (hx : By xs) : Calls Try.prog 19 #[.slice A n c] w fun e w' => e = .returned (.tuple #[.int .i64 (getN xs), .int .i64 (getE xs)]) ∧ w = w' := by
  obtain ⟨h1, h2, h3⟩ := hr
  by_cases n0 : n = 0
  · subst n0
    have e1 := Lib.hid (show getN xs = 0 by simp [getN, h1])
    have e2 := Lib.hid (show getE xs = 10 by simp [getE, h1])
    clear h1 h3
    go_enter Try.func19, Try.ntmps19
    go_wp2
    go_ret2
    rw [e1.out, e2.out]
    exact ⟨rfl, rfl⟩
  by_cases n8 : 8 < n
  · have e1 := Lib.hid (show getN xs = 0 by simp [getN, h1, n8])
    have e2 := Lib.hid (show getE xs = 2 by simp [getE, h1, n8, n0])
    clear h1 h3
    go_enter Try.func19, Try.ntmps19
    go_wp2
    go_ret2
    rw [e1.out, e2.out]
    exact ⟨rfl, rfl⟩
  have e1 := Lib.hid (show getN xs = (if 4611686018427387904 < be 0 xs then 0 else be 0 xs) by simp [getN, h1, n8, n0])
  have e2 := Lib.hid (show getE xs = (if 4611686018427387904 < be 0 xs then 11 else 0) by simp [getE, h1, n8, n0])
  have H1 := Lib.hid h1
  clear h1
  go_enter Try.func19, Try.ntmps19
  go_wp2
  go_loop [4, 17] (fun s i => ∃ k : Nat, k ≤ n ∧ i = .int .i64 k ∧ s = .int .u64 (be 0 (xs.take k))) (fun _ i => n - (intOf i).toNat)
  case atStart => exact ⟨0, Nat.zero_le _, rfl, rfl⟩
  case round =>
    obtain ⟨k, hk, rfl, rfl⟩ := hrel
    obtain ⟨s, hs⟩ : ∃ s, s = be 0 (xs.take k) := ⟨_, rfl⟩
    rw [← hs]
    have hsb := be_bd (xs.take k) 0 (by omega) (by omega)
    rw [← hs] at hsb
    have Hs := Lib.hid hs
    clear hs
    by_cases hlt : k < n
    · obtain ⟨ad, rfl, hc⟩ := h3 (by omega)
      have hc1 := hc k hlt
      have hxb := By.getD hx k
      obtain ⟨x, hxe⟩ : ∃ x, x = xs.getD k 0 := ⟨_, rfl⟩
      rw [← hxe] at hc1 hxb
      have Hx := Lib.hid hxe
      clear hc hxe
      go_wp2
      go_round
      case rel => exact ⟨k + 1, by omega, by go_num, by rw [take_getD xs k (by have := H1.out; omega), be_snoc, ← Hs.out, ← Hx.out, or_byte s x hsb.1 hxb.1 hxb.2]⟩
      case measure => simp [intOf]; omega
    · have es := Lib.hid (show s = be 0 xs by rw [Hs.out, List.take_of_length_le (by have := H1.out; omega)])
      by_cases ts : 4611686018427387904 < s
      · go_wp2
        go_ret2
        rw [e1.out, e2.out, ← es.out, if_pos ts, if_pos ts]
        exact ⟨rfl, rfl⟩
      · go_wp2
        go_ret2
        have ts' : ¬ 4611686018427387904 < s := by omega
        rw [e1.out, e2.out, ← es.out, if_neg ts', if_neg ts']
        have e3 : wrap64 s = s := IntWalk.wrap64_in s ⟨by omega, by omega⟩
        first | exact ⟨rfl, rfl⟩ | (rw [e3]; exact ⟨rfl, rfl⟩)

theorem leB_succ (x : Int) (k : Nat) : leB x (k + 1) = leB x k ++ [x / 256 ^ k % 256] := by simp [leB, List.range_succ]
theorem beB_succ (x : Int) (k : Nat) : beB x (k + 1) = (x / 256 ^ k % 256) :: beB x k := by simp [beB, leB_succ]
theorem leB_len (x : Int) (k : Nat) : (leB x k).length = k := by simp [leB]
theorem beB_len (x : Int) (k : Nat) : (beB x k).length = k := by simp [beB, leB]
theorem set_back (m k : Nat) (h : k < m) (v : Int) (t : List Int) : (List.replicate (m - k) 0 ++ t).set (m - 1 - k) v = List.replicate (m - (k + 1)) 0 ++ v :: t := by
  have e : m - k = (m - (k + 1)) + 1 := by omega
  rw [e, List.replicate_succ', List.append_assoc, List.set_append_right _ _ (by simp; omega)]
  simp [show m - 1 - k - (m - (k + 1)) = 0 by omega]
theorem set_fwd (m k : Nat) (h : k < m) (v : Int) (t : List Int) (ht : t.length = k) : (t ++ List.replicate (m - k) 0).set k v = (t ++ [v]) ++ List.replicate (m - (k + 1)) 0 := by
  have e : m - k = (m - (k + 1)) + 1 := by omega
  rw [e, List.replicate_succ, List.set_append_right _ _ (by omega)]
  simp [ht]
theorem pow_8 (k : Nat) : (2 : Int) ^ (8 * k) = 256 ^ k := by rw [Int.pow_mul]; rfl
theorem grownBy_drew {w W : World} {row : Option Nat} (h : w.grownBy W row) : w.grownBy W.drew row := ⟨h.os, h.tape, h.output, h.size, h.block⟩
theorem own_end {w W : World} {k : IntKind} {e : TypeId} {v : Value} {m : Nat} {xs : List Int} (h : W.ownsRow w.heap.size e 1 v m (nums k xs)) (hb : Below w.heap.size w W) : RetS w k xs (.returned v) W := by
  obtain ⟨A, c, rfl, hr⟩ := own_reads h
  exact ⟨A, m, c, rfl, own_le h, hr, hb⟩

set_option maxRecDepth 10000 in
set_option maxHeartbeats 400000 in
theorem bigEnd_any (x s : Int) (h0 : 1 ≤ s) (h1 : s ≤ 8) : Calls Try.prog 13 #[.int .u64 x, .int .i64 s] w (RetS w .u8 (beB x s.toNat)) := by
  obtain ⟨m, rfl⟩ := Int.eq_ofNat_of_zero_le (show 0 ≤ s by omega)
  have hm1 : 1 ≤ m := by omega
  have hm8 : m ≤ 8 := by omega
  simp only [Int.toNat_natCast]
  have hmk := print_make (P := Try.prog) 23 5 .u8 1 Try.underlying23 info5 (by omega) m (by omega)
  have hown := own_made w w.heap.size 5 .u8 m (Nat.le_refl _) (by omega)
  obtain ⟨W, hW⟩ : ∃ W, W = w.alloc (.cells (madeCells #[.int .u8 0] m) 5) := ⟨_, rfl⟩
  have hbW : Below w.heap.size w W := by rw [hW]; exact below_alloc (Below.refl _ _) _
  obtain ⟨g, hg⟩ : ∃ g, g = w.heap.size := ⟨_, rfl⟩
  have hmk' : (Instr.makeSlice 23 (.int .i64 (m : Int)) (.int .i64 (m : Int))).run Try.prog w = .ok (.slice (some ⟨g, 0, none⟩) m m) W := by rw [hW, hg]; exact hmk w
  rw [← hW, ← hg] at hown
  rw [← hg] at hbW
  have Hg := Lib.hid hg
  clear hmk hW hg
  have HO := Aside0.mk hown
  have HB := Aside0.mk hbW
  clear hown hbW
  go_enter Try.func13, Try.ntmps13
  go_wp2
  clear hmk'
  go_loopg [11] m (fun q s11 wr => ∃ k : Nat, Aside0 (k + q = m) ∧ k ≤ m ∧ s11 = .int .i64 k ∧ Aside0 (wr.ownsRow g 5 1 (.slice (some ⟨g, 0, none⟩) m m) m (nums .u8 (List.replicate (m - k) 0 ++ beB x k))) ∧ Aside0 (Below g w wr))
  case atStart => exact ⟨0, ⟨by omega⟩, Nat.zero_le _, rfl, ⟨by simpa [beB, leB] using HO.out⟩, HB⟩
  case round =>
    clear HO HB
    obtain ⟨k, hkq, hk, rfl, HO, HB⟩ := hrel
    by_cases hlt : k < m
    · obtain ⟨c1, f1⟩ := own_at HO.out ((m : Int) - 1 - k) (by omega) (by omega)
      obtain ⟨hs1, hs2⟩ := own_store HO.out ((m : Int) - 1 - k) (x / 256 ^ k % 256)
      have et : ((m : Int) - 1 - k).toNat = m - 1 - k := by omega
      rw [et] at c1 f1 hs1 hs2
      rw [set_back m k hlt, ← beB_succ] at hs1
      obtain ⟨old, hold⟩ : ∃ old, old = Value.int .u8 (rd (List.replicate (m - k) 0 ++ beB x k) ((m : Int) - 1 - k)) := ⟨_, rfl⟩
      rw [← hold] at c1
      have HS1 := Aside0.mk hs1
      have HS2 := Aside0.mk hs2
      clear hs1 hs2 hold
      go_wp2
      rw [pow_8]
      go_roundg (gk - 1)
      case measure => have := hkq.out; omega
      case rel => exact ⟨k + 1, ⟨by have := hkq.out; omega⟩, hlt, by go_num, HS1, ⟨HB.out.setCell (Nat.le_refl _) _⟩⟩
    · obtain rfl : k = m := by omega
      go_wp2
      go_ret
      obtain rfl := Hg.out
      have := HO.out
      rw [Nat.sub_self, List.replicate_zero, List.nil_append] at this
      exact own_end this HB.out
set_option maxRecDepth 10000 in
set_option maxHeartbeats 400000 in
theorem turned_any (hr : ReadsInt w .u8 A n xs) (hc : n ≤ 140737488355328) : Calls Try.prog 17 #[.slice A n c] w (RetS w .u8 xs.reverse) := by
  have hmk := print_make (P := Try.prog) 23 5 .u8 1 Try.underlying23 info5 (by omega) n (by omega)
  have hown := own_made w w.heap.size 5 .u8 n (Nat.le_refl _) (by omega)
  obtain ⟨W, hW⟩ : ∃ W, W = w.alloc (.cells (madeCells #[.int .u8 0] n) 5) := ⟨_, rfl⟩
  have hbW : Below w.heap.size w W := by rw [hW]; exact below_alloc (Below.refl _ _) _
  obtain ⟨g, hg⟩ : ∃ g, g = w.heap.size := ⟨_, rfl⟩
  have hmk' : (Instr.makeSlice 23 (.int .i64 (n : Int)) (.int .i64 (n : Int))).run Try.prog w = .ok (.slice (some ⟨g, 0, none⟩) n n) W := by rw [hW, hg]; exact hmk w
  rw [← hW, ← hg] at hown
  rw [← hg] at hbW
  have Hg := Lib.hid hg
  clear hmk hW hg
  have HO := Aside0.mk hown
  have HB := Aside0.mk hbW
  clear hown hbW
  go_enter Try.func17, Try.ntmps17
  go_wp2
  clear hmk'
  go_loopg [10] n (fun q s10 wr => ∃ k : Nat, Aside0 (k + q = n) ∧ k ≤ n ∧ s10 = .int .i64 k ∧ Aside0 (wr.ownsRow g 5 1 (.slice (some ⟨g, 0, none⟩) n n) n (nums .u8 (List.replicate (n - k) 0 ++ (xs.take k).reverse))) ∧ Aside0 (Below g w wr))
  case atStart => exact ⟨0, ⟨by omega⟩, Nat.zero_le _, rfl, ⟨by simpa using HO.out⟩, HB⟩
  case round =>
    clear HO HB
    obtain ⟨k, hkq, hk, rfl, HO, HB⟩ := hrel
    by_cases hlt : k < n
    · obtain ⟨c1, f1⟩ := own_at HO.out ((n : Int) - 1 - k) (by omega) (by omega)
      obtain ⟨hs1, hs2⟩ := own_store HO.out ((n : Int) - 1 - k) (xs.getD k 0)
      have et : ((n : Int) - 1 - k).toNat = n - 1 - k := by omega
      rw [et] at c1 f1 hs1 hs2
      have e2 : xs.getD k 0 :: (xs.take k).reverse = (xs.take (k + 1)).reverse := by rw [take_getD xs k (by have := hr.1; omega)]; simp
      rw [set_back n k hlt, e2] at hs1
      obtain ⟨old, hold⟩ : ∃ old, old = Value.int .u8 (rd (List.replicate (n - k) 0 ++ (xs.take k).reverse) ((n : Int) - 1 - k)) := ⟨_, rfl⟩
      rw [← hold] at c1
      have HS1 := Aside0.mk hs1
      have HS2 := Aside0.mk hs2
      have hrr := hr.below (Hg.out ▸ HB.out)
      obtain ⟨ad, rfl, hc3⟩ := hrr.2.2 (by omega)
      have c2 := hc3 k hlt
      obtain ⟨x, hx⟩ : ∃ x, x = xs.getD k 0 := ⟨_, rfl⟩
      rw [← hx] at c2 HS1 HS2
      have HR := Aside0.mk hr
      clear hs1 hs2 hold hrr hc3 hx e2 hr et
      go_wp2
      go_roundg (gk - 1)
      case measure => have := hkq.out; omega
      case rel => exact ⟨k + 1, ⟨by have := hkq.out; omega⟩, hlt, by go_num, HS1, ⟨HB.out.setCell (Nat.le_refl _) _⟩⟩
    · obtain rfl : k = n := by omega
      go_wp2
      go_ret
      obtain rfl := Hg.out
      have := HO.out
      rw [List.take_of_length_le (by have := hr.1; omega), Nat.sub_self, List.replicate_zero, List.nil_append] at this
      exact own_end this HB.out
theorem strOfNums_toList (xs : List Int) : (strOfNums xs).toList = xs.map fun n => UInt8.ofNat n.toNat := by
  unfold strOfNums
  simp
theorem nums_inj {xs : List Int} : ∀ {ys : List Int}, By xs → By ys → (xs.map fun n => UInt8.ofNat n.toNat) = (ys.map fun n => UInt8.ofNat n.toNat) → xs = ys := by
  induction xs with
  | nil =>
    intro ys _ _ h
    cases ys with
    | nil => rfl
    | cons y ys => simp at h
  | cons x xs ih =>
    intro ys hx hy h
    cases ys with
    | nil => simp at h
    | cons y ys =>
      simp only [List.map_cons, List.cons.injEq] at h
      have h1 := hx x (by simp)
      have h2 := hy y (by simp)
      have h3 := congrArg UInt8.toNat h.1
      simp only [UInt8.toNat_ofNat'] at h3
      rw [ih (fun z hz => hx z (by simp [hz])) (fun z hz => hy z (by simp [hz])) h.2]
      congr 1
      omega
theorem same_nums {xs ys : List Int} (hx : By xs) (hy : By ys) : ((strOfNums xs).toList == (strOfNums ys).toList) = decide (xs = ys) := by
  rw [strOfNums_toList, strOfNums_toList, Bool.eq_iff_iff]
  simp only [beq_iff_eq, decide_eq_true_eq]
  exact ⟨nums_inj hx hy, fun h => by rw [h]⟩
set_option maxRecDepth 10000 in
set_option maxRecDepth 10000 in
set_option maxHeartbeats 400000 in
theorem same_any (hr : ReadsInt w .u8 A n xs) (hr' : ReadsInt w .u8 A' n' ys) (hx : By xs) (hy : By ys) : Calls Try.prog 16 #[.slice A n c, .slice A' n' c'] w fun e w' => e = .returned (.bool (decide (xs = ys))) ∧ w = w' := by
  have k1 := string_of_reads (c := c) (P := Try.prog) Try.underlying23 Try.underlying5 Try.underlying9 hr
  have k2 := string_of_reads (c := c') (P := Try.prog) Try.underlying23 Try.underlying5 Try.underlying9 hr'
  have h0 := same_nums hx hy
  obtain ⟨s1, e1⟩ : ∃ s, s = strOfNums xs := ⟨_, rfl⟩
  obtain ⟨s2, e2⟩ : ∃ s, s = strOfNums ys := ⟨_, rfl⟩
  obtain ⟨b, hb⟩ : ∃ b, b = decide (xs = ys) := ⟨_, rfl⟩
  rw [← e1, ← e2, ← hb] at h0
  rw [← e1] at k1
  rw [← e2] at k2
  rw [← hb]
  have H0 := Lib.hid h0
  clear e1 e2 hb h0 hx hy hr hr'
  go_enter Try.func16, Try.ntmps16
  go_wp2_with fail
  go_ret
  exact ⟨ret_bool H0.out, rfl⟩
set_option maxRecDepth 10000 in
set_option maxHeartbeats 400000 in
theorem clone_any (hr : ReadsInt w .u8 A n xs) (hn : n ≤ 140737488355328) : Calls Try.prog 143 #[.slice A n c] w fun e w' => ∃ v, e = .returned v ∧ w'.ownsRow w.heap.size 5 1 v n (nums .u8 xs) ∧ Below w.heap.size w w' := by
  have kn := fun W => Lib.run_eql_slice_nil (P := Try.prog) W 23 5 A n c 0 0 Try.underlying23
  cases A with
  | none =>
    obtain rfl : n = 0 := by
      rcases Nat.eq_zero_or_pos n with h | h
      · exact h
      · obtain ⟨ad, h, _⟩ := hr.2.2 h; cases h
    obtain rfl : xs = [] := List.eq_nil_of_length_eq_zero hr.1
    simp only [Option.isNone_none] at kn
    clear hr
    go_enter Try.func143, Try.ntmps143
    go_wp2_with fail
    go_ret
    exact ⟨_, rfl, own_nil _ _ _ _, Below.refl _ _⟩
  | some ad =>
    simp only [Option.isNone_some] at kn
    have ho := own_lit w w.heap.size 5 .u8 [] (Nat.le_refl _) (by simp)
    have hb := below_alloc (Below.refl w.heap.size w) (.cells (nums .u8 []).toArray 5)
    have hr1 := hr.below hb
    simp only [nums, List.map_nil] at ho hb hr1
    obtain ⟨W, hW⟩ : ∃ W, W = w.alloc (.cells #[] 5) := ⟨_, rfl⟩
    go_enter Try.func143, Try.ntmps143
    go_wp2_with (at_builtin; go_must (refine print_append_row (w0 := w) w.heap.size rfl (.tmp 5) (.tmp 6) 23 5 .u8 1 rfl Try.underlying23 info5 (by omega) (.slice (some ⟨w.heap.size, 0, none⟩) 0 0) [] xs (some ad) n c rfl rfl ho hr1 hb hb.size (by simp; omega) ?_); intro v' w' ho' hb' hg hat)
    go_ret
    exact ⟨_, rfl, by have := hr.1; simpa [this] using ho', hb'⟩
/-- a list, the first i and the last i numbers turned -/
def revI (xs : List Int) (i : Nat) : List Int := (List.range xs.length).map fun j => if j < i ∨ xs.length ≤ j + i then xs.getD (xs.length - 1 - j) 0 else xs.getD j 0
theorem revI_len (xs : List Int) (i : Nat) : (revI xs i).length = xs.length := by simp [revI]
theorem revI_getD (xs : List Int) (i j : Nat) (h : j < xs.length) : (revI xs i).getD j 0 = if j < i ∨ xs.length ≤ j + i then xs.getD (xs.length - 1 - j) 0 else xs.getD j 0 := by
  rw [List.getD_eq_getElem?_getD, List.getElem?_eq_getElem (by rw [revI_len]; exact h)]
  simp [revI]
theorem list_ext_getD {xs ys : List Int} (hl : xs.length = ys.length) (h : ∀ j, j < xs.length → xs.getD j 0 = ys.getD j 0) : xs = ys := by
  apply List.ext_getElem hl
  intro j h1 h2
  have := h j h1
  simpa [List.getD_eq_getElem?_getD, List.getElem?_eq_getElem h1, List.getElem?_eq_getElem h2] using this
theorem revI_zero (xs : List Int) : revI xs 0 = xs := list_ext_getD (revI_len _ _) fun j hj => by
  rw [revI_len] at hj
  rw [revI_getD xs 0 j hj, if_neg (by omega)]
theorem revI_all (xs : List Int) (i : Nat) (h : xs.length ≤ 2 * i + 1) : revI xs i = xs.reverse := list_ext_getD (by rw [revI_len]; simp) fun j hj => by
  rw [revI_len] at hj
  rw [revI_getD xs i j hj]
  have e : xs.reverse.getD j 0 = xs.getD (xs.length - 1 - j) 0 := by
    rw [List.getD_eq_getElem?_getD, List.getD_eq_getElem?_getD, List.getElem?_reverse hj]
  rw [e]
  by_cases hc : j < i ∨ xs.length ≤ j + i
  · rw [if_pos hc]
  · rw [if_neg hc]
    have : j = xs.length - 1 - j := by omega
    rw [← this]
theorem revI_step (xs : List Int) (i : Nat) (h : 2 * i + 1 < xs.length) : ((revI xs i).set i (xs.getD (xs.length - 1 - i) 0)).set (xs.length - 1 - i) (xs.getD i 0) = revI xs (i + 1) := list_ext_getD (by simp [revI_len]) fun j hj => by
  have hj' : j < xs.length := by simpa [revI_len] using hj
  rw [revI_getD xs (i + 1) j hj', List.getD_eq_getElem?_getD, List.getElem?_set, List.getElem?_set]
  simp only [List.length_set, revI_len]
  by_cases h1 : xs.length - 1 - i = j
  · have e2 : xs.length - 1 - j = i := by omega
    rw [if_pos h1, if_pos (by omega), if_pos (Or.inr (by omega)), e2]
    rfl
  · rw [if_neg h1]
    by_cases h2 : i = j
    · rw [if_pos h2, if_pos (by omega), if_pos (Or.inl (by omega)), h2]
      rfl
    · rw [if_neg h2, ← List.getD_eq_getElem?_getD, revI_getD xs i j hj']
      by_cases hc : j < i ∨ xs.length ≤ j + i
      · rw [if_pos hc, if_pos (by omega)]
      · rw [if_neg hc, if_neg (by omega)]
set_option maxHeartbeats 800000 in
theorem reverse_any (B : Nat) (v : Value) (ho : w.ownsRow B 5 1 v n (nums .u8 xs)) (hn : n ≤ 140737488355328) :
    Calls Try.prog 161 #[v] w fun e w' => e = .returned (.tuple #[]) ∧ w'.ownsRow B 5 1 v n (nums .u8 xs.reverse) ∧ w.grownBy w' v.ownBlock := by
  have hl : xs.length = n := by have := ho.1; simpa [nums] using this
  rcases Nat.eq_zero_or_pos n with h0 | h0
  · subst h0
    obtain rfl : xs = [] := List.eq_nil_of_length_eq_zero hl
    obtain ⟨A, c, rfl⟩ := own_slice ho
    have HO := Aside0.mk ho
    clear ho
    go_enter Try.func161, Try.ntmps161
    go_wp2_with fail
    go_loopg [2, 3] 0 (fun _ s2 s3 wr => s2 = .int .i64 0 ∧ s3 = .int .i64 (-1) ∧ w = wr)
    case atStart => exact ⟨rfl, rfl, rfl⟩
    case round =>
      obtain ⟨rfl, rfl, rfl⟩ := hrel
      go_wp2_with fail
      go_end0
      exact ⟨rfl, by simpa using HO.out, World.grownBy.refl _ _⟩
  · obtain ⟨g, cap, rfl, _, _⟩ := ho.form h0
    have HO := Aside0.mk ho
    have HL := Lib.hid hl
    clear ho hl
    go_enter Try.func161, Try.ntmps161
    go_wp2_with fail
    go_loopg [2, 3] n (fun q s2 s3 wr => ∃ i : Nat, Aside0 (i + q = n) ∧ 2 * i ≤ n ∧ s2 = .int .i64 i ∧ s3 = .int .i64 ((n : Int) - 1 - i) ∧ Aside0 (wr.ownsRow B 5 1 (.slice (some ⟨g, 0, none⟩) n cap) n (nums .u8 (revI xs i))) ∧ Aside0 (w.grownBy wr (some g)))
    case atStart => exact ⟨0, ⟨by omega⟩, by omega, rfl, by simp, ⟨by rw [revI_zero]; exact HO.out⟩, ⟨World.grownBy.refl _ _⟩⟩
    case round =>
      clear HO
      obtain ⟨i, hiq, hin, rfl, rfl, HO, HG⟩ := hrel
      by_cases hlt : 2 * i + 1 < n
      · obtain ⟨c1, f1⟩ := own_at HO.out (i : Int) (by omega) (by omega)
        obtain ⟨c2, f2⟩ := own_at HO.out ((n : Int) - 1 - i) (by omega) (by omega)
        have e1 : ((n : Int) - 1 - i).toNat = n - 1 - i := by omega
        have e2 : ((i : Int)).toNat = i := by omega
        have r1 : rd (revI xs i) (i : Int) = xs.getD i 0 := by
          show (revI xs i).getD _ 0 = _
          rw [e2, revI_getD xs i i (by have := HL.out; omega), if_neg (by have := HL.out; omega)]
        have r2 : rd (revI xs i) ((n : Int) - 1 - i) = xs.getD (n - 1 - i) 0 := by
          show (revI xs i).getD _ 0 = _
          rw [e1, revI_getD xs i _ (by have := HL.out; omega), if_neg (by have := HL.out; omega)]
        rw [r1, e2] at c1
        rw [r2, e1] at c2
        rw [e2] at f1
        rw [e1] at f2
        clear r1 r2 e1 e2
        obtain ⟨x, hx⟩ : ∃ x, x = xs.getD i 0 := ⟨_, rfl⟩
        obtain ⟨y, hy⟩ : ∃ y, y = xs.getD (n - 1 - i) 0 := ⟨_, rfl⟩
        rw [← hx] at c1
        rw [← hy] at c2
        have HX := Lib.hid hx
        have HY := Lib.hid hy
        clear hx hy
        have hne : ¬ i = n - 1 - i := by omega
        have hne' : ¬ n - 1 - i = i := by omega
        go_wp2_with fail
        go_region
        go_wp2_with fail
        obtain ⟨o1, b1⟩ := own_store HO.out (i : Int) y
        obtain ⟨o2, b2⟩ := own_store o1 ((n : Int) - 1 - i) x
        have e1 : ((n : Int) - 1 - i).toNat = n - 1 - i := by omega
        have e2 : ((i : Int)).toNat = i := by omega
        rw [e1] at o2 b2
        rw [e2] at o2 b2 b1
        have er := revI_step xs i (by have := HL.out; omega)
        rw [HL.out, ← HX.out, ← HY.out] at er
        rw [er] at o2
        go_roundg (gk - 1)
        case measure => have := hiq.out; omega
        case rel => exact ⟨i + 1, ⟨by have := hiq.out; omega⟩, by omega, by go_num, by go_num, ⟨o2.drew⟩, ⟨grownBy_drew ((HG.out.trans b1).trans b2)⟩⟩
      · go_wp2_with fail
        go_end0
        exact ⟨rfl, by have := HO.out; rw [revI_all xs i (by have := HL.out; omega)] at this; exact this, HG.out⟩
set_option maxRecDepth 10000 in
set_option maxHeartbeats 400000 in
theorem turnedT_any (hr : ReadsInt w .u8 A n xs) (hn : n ≤ 140737488355328) : Calls Try.prog 125 #[.slice A n c] w (RetS w .u8 xs.reverse) := by
  go_enter Try.func125, Try.ntmps125
  go_wp2_with fail
  refine (clone_any A n c xs w hr hn).mono ?_
  rintro e w1 ⟨v, rfl, ho, hb⟩
  have HO := Aside0.mk ho
  have HB := Aside0.mk hb
  clear ho hb hr
  obtain ⟨A1, c1, rfl⟩ := own_slice HO.out
  go_wp2_with fail
  refine (reverse_any n xs w1 w.heap.size _ HO.out hn).mono ?_
  rintro e w2 ⟨rfl, ho2, hg2⟩
  have hb2 := pw_below_grown HB.out _ HB.out.size hg2 (own_base HO.out)
  have HO2 := Aside0.mk ho2
  have HB2 := Aside0.mk hb2
  clear ho2 hb2 hg2
  go_wp2_with fail
  go_ret
  exact own_end HO2.out HB2.out
set_option maxRecDepth 10000 in
set_option maxHeartbeats 400000 in
theorem getLow_any (hr : ReadsInt w .u8 A n xs) (hx : By xs) : Calls Try.prog 20 #[.slice A n c] w fun e w' => e = .returned (.tuple #[.int .i64 (getLowN xs), .int .i64 (getLowE xs)]) ∧ Below w.heap.size w w' := by
  by_cases n8 : 8 < n
  · have h1 := hr.1
    have e1 := Lib.hid (show getLowN xs = 0 by simp [getLowN, h1, n8])
    have e2 := Lib.hid (show getLowE xs = 2 by simp [getLowE, h1, n8])
    clear h1
    go_enter Try.func20, Try.ntmps20
    go_wp2_with fail
    go_ret2
    rw [e1.out, e2.out]
    exact ⟨rfl, Below.refl _ _⟩
  · have h1 := hr.1
    have e1 := Lib.hid (show getLowN xs = getN xs.reverse by simp [getLowN, h1, n8])
    have e2 := Lib.hid (show getLowE xs = getE xs.reverse by simp [getLowE, h1, n8])
    clear h1
    go_enter Try.func20, Try.ntmps20
    go_wp2_with fail
    refine (turnedT_any A n c xs w hr (by omega)).mono ?_
    rintro e w1 ⟨A1, m1, c1, rfl, hm1, hr1, hb1⟩
    go_wp2_with fail
    refine (get_any A1 m1 c1 _ w1 hr1 (fun x h => hx x (by simpa using h))).mono ?_
    rintro e w2 ⟨rfl, rfl⟩
    go_wp2_with fail
    go_ret2
    rw [e1.out, e2.out]
    exact ⟨rfl, hb1⟩
theorem or_four {x0 x1 x2 x3 : Int} (h0 : 0 ≤ x0 ∧ x0 < 256) (h1 : 0 ≤ x1 ∧ x1 < 256) (h2 : 0 ≤ x2 ∧ x2 < 256) (h3 : 0 ≤ x3 ∧ x3 < 256) :
    bits BinOp.or IntKind.u32 (bits BinOp.or IntKind.u32 (bits BinOp.or IntKind.u32 (IntKind.u32.wrap x0) (IntKind.u32.wrap (IntKind.u32.wrap x1 * 256))) (IntKind.u32.wrap (IntKind.u32.wrap x2 * 65536))) (IntKind.u32.wrap (IntKind.u32.wrap x3 * 16777216)) = x0 + 256 * x1 + 65536 * x2 + 16777216 * x3 := by
  have e0 : IntKind.u32.wrap x0 = x0 := by rw [IntKind.wrap_u32]; omega
  have e1 : IntKind.u32.wrap (IntKind.u32.wrap x1 * 256) = x1 * 256 := by rw [IntKind.wrap_u32, IntKind.wrap_u32]; omega
  have e2 : IntKind.u32.wrap (IntKind.u32.wrap x2 * 65536) = x2 * 65536 := by rw [IntKind.wrap_u32, IntKind.wrap_u32]; omega
  have e3 : IntKind.u32.wrap (IntKind.u32.wrap x3 * 16777216) = x3 * 16777216 := by rw [IntKind.wrap_u32, IntKind.wrap_u32]; omega
  rw [e0, e1, e2, e3]
  have o1 : bits BinOp.or IntKind.u32 x0 (x1 * 256) = x0 + x1 * 256 := by
    rw [u32_or _ _ (by omega) (by omega) (by omega) (by omega), Nat.or_comm, nat_join 8 _ _ (by show _ % 256 = 0; omega) (by show _ < 256; omega)]
    omega
  rw [o1]
  have o2 : bits BinOp.or IntKind.u32 (x0 + x1 * 256) (x2 * 65536) = x0 + x1 * 256 + x2 * 65536 := by
    rw [u32_or _ _ (by omega) (by omega) (by omega) (by omega), Nat.or_comm, nat_join 16 _ _ (by show _ % 65536 = 0; omega) (by show _ < 65536; omega)]
    omega
  rw [o2]
  rw [u32_or _ _ (by omega) (by omega) (by omega) (by omega), Nat.or_comm, nat_join 24 _ _ (by show _ % 16777216 = 0; omega) (by show _ < 16777216; omega)]
  omega
theorem cell_alloc_drew {w : World} {a : Addr} {v : Value} {o : Obj} (h : w.cell? a = some v) : ((w.alloc o).drew).cell? a = some v := pw_cell_below (below_drew (below_alloc (Below.refl _ _) _)) h
theorem four {zs : List Int} (h : 4 ≤ zs.length) : ∃ a b c d zs', zs = a :: b :: c :: d :: zs' := by
  match zs, h with
  | a :: b :: c :: d :: zs', _ => exact ⟨a, b, c, d, zs', rfl⟩
theorem fits_no1 {num sz : Int} (h : sz < 1) : fitsB num sz = false := by simp [fitsB, show ¬ 1 ≤ sz by omega]
theorem fits_no2 {num sz : Int} (h : 8 < sz) : fitsB num sz = false := by simp [fitsB, show ¬ sz ≤ 8 by omega]
theorem fits_no3 {num sz : Int} (h : num < 0) : fitsB num sz = false := by simp [fitsB, show ¬ 0 ≤ num by omega]
theorem fits_no4 {num sz : Int} (h : 4611686018427387904 < num) : fitsB num sz = false := by simp [fitsB, show ¬ num ≤ 4611686018427387904 by omega]
theorem fits_8 {num : Int} (h : 0 ≤ num) (h' : num ≤ 4611686018427387904) : fitsB num 8 = true := by simp [fitsB, h, h']
theorem fits_n {num : Int} {m : Nat} (h1 : 1 ≤ m) (h2 : m < 8) (h : 0 ≤ num) (h' : num ≤ 4611686018427387904) : fitsB num m = decide (num / 256 ^ m = 0) := by
  simp [fitsB, h, h', show (m : Int) ≤ 8 by omega, show (1 : Int) ≤ m by omega, show ¬ (m : Int) = 8 by omega]
set_option maxHeartbeats 800000 in
theorem low_no (x s : Int) (h : fitsB x s = false) (h2 : -9223372036854775808 ≤ x) (h3 : x ≤ 9223372036854775807) : Calls Try.prog 15 #[.int .i64 x, .int .i64 s] w fun e w' => e = .returned (.tuple #[.slice none 0 0, .int .i64 2]) ∧ w = w' := by
  by_cases g1 : s < 1
  · clear h
    go_enter Try.func15, Try.ntmps15
    go_wp2_with fail
    go_ret2
    exact ⟨rfl, rfl⟩
  by_cases g2 : 8 < s
  · clear h
    go_enter Try.func15, Try.ntmps15
    go_wp2_with fail
    go_ret2
    exact ⟨rfl, rfl⟩
  by_cases g3 : x < 0
  · clear h
    go_enter Try.func15, Try.ntmps15
    go_wp2_with fail
    go_ret2
    exact ⟨rfl, rfl⟩
  by_cases g4 : 4611686018427387904 < x
  · clear h
    go_enter Try.func15, Try.ntmps15
    go_wp2_with fail
    go_ret2
    exact ⟨rfl, rfl⟩
  by_cases g5 : s = 8
  · subst g5
    rw [fits_8 (by omega) (by omega)] at h
    cases h
  obtain ⟨m, rfl⟩ := Int.eq_ofNat_of_zero_le (show 0 ≤ s by omega)
  rw [fits_n (by omega) (by omega) (by omega) (by omega), decide_eq_false_iff_not, ← pow_8] at h
  have h' : (x / 2 ^ (8 * m) == 0) = false := by simpa using h
  have h'' : (x / 2 ^ (8 * m) != 0) = true := by simpa using h
  clear h
  go_enter Try.func15, Try.ntmps15
  go_wp2_with fail
  go_ret2
  exact ⟨rfl, rfl⟩
set_option maxRecDepth 10000 in
set_option maxHeartbeats 400000 in
theorem w32_any (hr : ReadsInt w .u8 A n xs) (hx : By xs) (hc : n ≤ c) (hn : n ≤ 40): Calls Try.prog 21 #[.slice A n c] w (RetSE w .u32 (if n % 4 = 0 then w32 xs else []) (if n % 4 = 0 then 0 else 2)) := by
  by_cases h4 : n % 4 = 0
  · rw [if_pos h4, if_pos h4]
    have t1 : ((n : Int) % 4 == 0) = true := by rw [beq_iff_eq]; omega
    have t2 : ((n : Int) % 4 != 0) = false := by rw [bne_eq_false_iff_eq]; omega
    have H4 := Lib.hid h4
    clear h4
    go_enter Try.func21, Try.ntmps21
    go_wp2_with fail
    go_loopg [0, 4] n (fun q s0 s4 wr => ∃ (A1 : Option Addr) (m c1 : Nat) (zs ys : List Int), s0 = .slice A1 m c1 ∧ Aside0 (q = m) ∧ m ≤ c1 ∧ Aside0 (m % 4 = 0) ∧ Aside0 (ReadsInt w .u8 A1 m zs) ∧ By zs ∧ Aside0 (w32 xs = ys ++ w32 zs) ∧ Aside0 (ys.length + m ≤ n) ∧ Aside0 (wr.ownsRow w.heap.size 37 1 s4 ys.length (nums .u32 ys)) ∧ Aside0 (Below w.heap.size w wr))
    case atStart => exact ⟨A, n, c, xs, [], rfl, ⟨rfl⟩, hc, ⟨H4.out⟩, ⟨hr⟩, hx, ⟨rfl⟩, ⟨by simp⟩, ⟨own_nil _ _ _ _⟩, ⟨Below.refl _ _⟩⟩
    case round =>
      obtain ⟨A1, m, c1, zs, ys, rfl, hq, hmc, hm4, hrz, hbz, hw, hln, ho, hb⟩ := hrel
      by_cases hlt : 0 < m
      · have hm : 4 ≤ m := by have := hm4.out; omega
        obtain ⟨x0, x1, x2, x3, zs', rfl⟩ := four (zs := zs) (by have := hrz.out.1; omega)
        have hrw := hrz.out.below hb.out
        obtain ⟨ad, rfl, hcell⟩ := hrw.2.2 hlt
        have g0 := hcell 0 (by omega)
        have g1 := hcell 1 (by omega)
        have g2 := hcell 2 (by omega)
        have g3 := hcell 3 (by omega)
        simp only [List.getD_cons_zero, List.getD_cons_succ] at g0 g1 g2 g3
        have hw0 : w.cell? (ad.add 0) = some (.int .u8 x0) := by
          obtain ⟨ad', he, hc'⟩ := hrz.out.2.2 hlt
          cases he
          exact hc' 0 (by omega)
        have bx0 := hbz x0 (by simp)
        have bx1 := hbz x1 (by simp)
        have bx2 := hbz x2 (by simp)
        have bx3 := hbz x3 (by simp)
        have e0 : ad.add 0 = ad := rfl
        have e1 : ad.add 1 = ⟨ad.block, ad.off + 1, none⟩ := rfl
        have e2 : ad.add 2 = ⟨ad.block, ad.off + 2, none⟩ := rfl
        have e3 : ad.add 3 = ⟨ad.block, ad.off + 3, none⟩ := rfl
        rw [e0] at g0 hw0
        rw [e1] at g1
        rw [e2] at g2
        rw [e3] at g3
        clear hcell hrw e0 e1 e2 e3
        have hlb := World.block_lt_of_cell? w _ hw0
        have hne : u4.ownBlock ≠ some ad.block := fun e => by have := own_base ho.out _ e; omega
        clear hw0
        have hbig := hb.out.size
        obtain ⟨i0, hi0, hz0, hz1, hz2⟩ := info_parts info37
        have hl40 : ys.length + 1 ≤ 41 := by have := hln.out; omega
        have hmm : (0 : Int) < m ∧ (1 : Int) < m ∧ (2 : Int) < m ∧ (3 : Int) < m := by omega
        obtain ⟨m0, m1, m2, m3⟩ := hmm
        have e4 := or_four bx0 bx1 bx2 bx3
        obtain ⟨X, hX⟩ : ∃ X, bits BinOp.or IntKind.u32 (bits BinOp.or IntKind.u32 (bits BinOp.or IntKind.u32 (IntKind.u32.wrap x0) (IntKind.u32.wrap (IntKind.u32.wrap x1 * 256))) (IntKind.u32.wrap (IntKind.u32.wrap x2 * 65536))) (IntKind.u32.wrap (IntKind.u32.wrap x3 * 16777216)) = X := ⟨_, rfl⟩
        rw [hX] at e4
        have HX := Lib.hid e4
        clear e4
        obtain ⟨i5, hi5, _, h51, _⟩ := info_parts info5
        go_wp2_with fail
        go_region_held3 (fun w' => w'.cell? ad = some (.int .u8 x0) ∧ w'.cell? ⟨ad.block, ad.off + 1, none⟩ = some (.int .u8 x1) ∧ w'.cell? ⟨ad.block, ad.off + 2, none⟩ = some (.int .u8 x2) ∧ w'.cell? ⟨ad.block, ad.off + 3, none⟩ = some (.int .u8 x3)) (first | go_keep | exact ⟨hgrow.cell (cell_alloc_drew g0) (Ne.symm hne), hgrow.cell (cell_alloc_drew g1) (Ne.symm hne), hgrow.cell (cell_alloc_drew g2) (Ne.symm hne), hgrow.cell (cell_alloc_drew g3) (Ne.symm hne)⟩) ((go_must (refine step_append_lies _ (by rfl) _ _ _ (by rfl) w.heap.size 37 i0 _ 1 4 Try.underlying35 hi0 hz0 hz1 hz2 rfl (by omega) u4 ys.length (nums .u32 ys) (by rfl) ((ho.out.alloc _).drew) ⟨wr.heap.size, 0, none⟩ 1 1 [.int .u32 X] (by rfl) (by rfl) (World.news_of_block (cs := #[.int .u32 X]) (t := 37) (fr := (0, 0)) (heap_alloc_new wr _)) (by simp [Value.oneCell']) (by omega) (by simp only [maxLen]; omega) (by omega) (by simp; omega) (wr.heap.size + 1) (by simp) ?_); intro gg cap w1 hown1 hgrow hat hlt'))
        have hb1 : Below w.heap.size w w1 := ((hb.out.alloc hb.out.size _).drew).grown hgrow (by simp; omega) (own_base ho.out)
        have HO1 := Aside0.mk hown1
        have HB1 := Aside0.mk hb1
        clear hown1 hgrow hat hlt' hb1 g0 g1 g2 g3 m0 m1 m2 m3
        obtain ⟨A4, hcut, hA4⟩ := print_cut (P := Try.prog) 23 5 .i64 Try.underlying23 hi5 h51 (some ad) m c1 4 hm
        replace hcut : ∀ W : World, (Instr.slice 23 (.slice (some ad) m c1) (some (.int .i64 4)) none none).run Try.prog W = .ok (.slice A4 (m - 4) (c1 - 4)) W := hcut
        have hz4 := hA4 _ _ _ hmc hrz.out
        go_wp2_with fail
        go_roundg (m - 4)
        case measure => have := hq.out; omega
        case rel => exact ⟨A4, m - 4, c1 - 4, zs', ys ++ [X], rfl, ⟨rfl⟩, by omega, ⟨by have := hm4.out; omega⟩, ⟨by simpa using hz4⟩, fun x hx => hbz x (by simp [hx]), ⟨by rw [hw.out, HX.out]; simp [w32]⟩, ⟨by simp; have := hln.out; omega⟩, ⟨by simpa [nums] using HO1.out⟩, HB1⟩
      · obtain rfl : m = 0 := by omega
        obtain rfl : zs = [] := List.eq_nil_of_length_eq_zero hrz.out.1
        go_wp2_with fail
        go_ret2
        obtain ⟨A2, c2, he, hr2⟩ := own_reads ho.out
        have ew : w32 xs = ys := by have := hw.out; simpa [w32] using this
        rw [ew, he]
        rw [he] at ho
        exact ⟨A2, _, c2, rfl, own_le ho.out, hr2, hb.out⟩
  · rw [if_neg h4, if_neg h4]
    have t2 : ((n : Int) % 4 != 0) = true := by rw [bne_iff_ne]; omega
    clear h4
    go_enter Try.func21, Try.ntmps21
    go_wp2_with fail
    go_ret2
    exact ⟨none, 0, 0, rfl, Nat.le_refl _, ReadsInt.nil _ _, Below.refl _ _⟩
theorem w64_cons {zs : List Int} (h : 8 ≤ zs.length) : w64 zs = be 0 (zs.take 8) :: w64 (zs.drop 8) := by
  match zs, h with
  | a :: b :: c :: d :: e :: f :: g :: h :: zs', _ => rfl
set_option maxRecDepth 10000 in
set_option maxHeartbeats 800000 in
theorem w64_any (hr : ReadsInt w .u8 A n xs) (hx : By xs) (hc : n ≤ c) (hn : n ≤ 40): Calls Try.prog 22 #[.slice A n c] w (RetSE w .u64 (if n % 8 = 0 then w64 xs else []) (if n % 8 = 0 then 0 else 2)) := by
  by_cases h8 : n % 8 = 0
  · rw [if_pos h8, if_pos h8]
    have t2 : ((n : Int) % 8 != 0) = false := by rw [bne_eq_false_iff_eq]; omega
    have H8 := Lib.hid h8
    clear h8
    go_enter Try.func22, Try.ntmps22
    go_wp2_with fail
    go_loopg [0, 4] n (fun q s0 s4 wr => ∃ (A1 : Option Addr) (m c1 : Nat) (zs ys : List Int), s0 = .slice A1 m c1 ∧ Aside0 (q = m) ∧ m ≤ c1 ∧ Aside0 (m % 8 = 0) ∧ Aside0 (ReadsInt w .u8 A1 m zs) ∧ By zs ∧ Aside0 (w64 xs = ys ++ w64 zs) ∧ Aside0 (ys.length + m ≤ n) ∧ Aside0 (wr.ownsRow w.heap.size 24 1 s4 ys.length (nums .u64 ys)) ∧ Aside0 (Below w.heap.size w wr))
    case atStart => exact ⟨A, n, c, xs, [], rfl, ⟨rfl⟩, hc, ⟨H8.out⟩, ⟨hr⟩, hx, ⟨rfl⟩, ⟨by simp⟩, ⟨own_nil _ _ _ _⟩, ⟨Below.refl _ _⟩⟩
    case round =>
      obtain ⟨A1, m, c1, zs, ys, rfl, hq, hmc, hm8, hrz, hbz, hw, hln, ho, hb⟩ := hrel
      by_cases hlt : 0 < m
      · have hm : 8 ≤ m := by have := hm8.out; omega
        have hlz := hrz.out.1
        have Hlz := Lib.hid hlz
        clear hlz
        have hrw := hrz.out.below hb.out
        obtain ⟨ad, rfl, hcell⟩ := hrw.2.2 hlt
        have hl40 : ys.length + 1 ≤ 41 := by have := hln.out; omega
        obtain ⟨i5, hi5, _, h51, _⟩ := info_parts info5
        obtain ⟨A4, hcut, hA4⟩ := print_cut (P := Try.prog) 23 5 .i64 Try.underlying23 hi5 h51 (some ad) m c1 8 hm
        have hz4 := hA4 _ _ _ hmc hrz.out
        replace hcut : ∀ W : World, (Instr.slice 23 (.slice (some ad) m c1) (some (.int .i64 8)) none none).run Try.prog W = .ok (.slice A4 (m - 8) (c1 - 8)) W := hcut
        have HZ4 := Aside0.mk hz4
        clear hA4 hz4 hrw
        go_wp2_with fail
        go_loop [5, 20] (fun s i => ∃ k : Nat, k ≤ 8 ∧ i = .int .i64 k ∧ s = .int .u64 (be 0 (zs.take k))) (fun _ i => 8 - (intOf i).toNat)
        case atStart => exact ⟨0, Nat.zero_le _, rfl, rfl⟩
        case round =>
          obtain ⟨k, hk, rfl, rfl⟩ := hrel
          obtain ⟨s, hs⟩ : ∃ s, s = be 0 (zs.take k) := ⟨_, rfl⟩
          rw [← hs]
          have hsb := be_bd (zs.take k) 0 (by omega) (by omega)
          rw [← hs] at hsb
          have Hs := Lib.hid hs
          clear hs
          by_cases hlt' : k < 8
          · have hc1 := hcell k (by omega)
            have hxb := By.getD hbz k
            obtain ⟨x, hxe⟩ : ∃ x, x = zs.getD k 0 := ⟨_, rfl⟩
            rw [← hxe] at hc1 hxb
            have Hx := Lib.hid hxe
            clear hxe
            have HCELL := Lib.hid hcell
            clear hcell
            go_wp2_with fail
            go_round
            case rel => exact ⟨k + 1, by omega, by go_num, by rw [take_getD zs k (by have := Hlz.out; omega), be_snoc, ← Hs.out, ← Hx.out, or_byte s x hsb.1 hxb.1 hxb.2]⟩
            case measure => simp [intOf]; omega
          · obtain rfl : k = 8 := by omega
            have hbo := hb.out
            have hbs := hb.out.size
            clear hcell
            go_wp2_with (at_builtin; go_must (refine print_append_num (w0 := w) w.heap.size rfl (.tmp 30) (.tmp 32) 36 24 .u64 8 rfl Try.underlying36 info24 (by omega) u4 ys _ rfl rfl ho.out hbo hbs (by omega) ?_); intro v' w' ho' hb' hg hat)
            have hw8 := w64_cons (zs := zs) (by have := Hlz.out; omega)
            go_roundg (m - 8)
            case measure => have := hq.out; omega
            case rel => exact ⟨A4, m - 8, c1 - 8, zs.drop 8, ys ++ [s], rfl, ⟨rfl⟩, by omega, ⟨by have := hm8.out; omega⟩, HZ4, fun x hx => hbz x (List.mem_of_mem_drop hx), ⟨by rw [hw.out, hw8, Hs.out]; simp⟩, ⟨by simp; have := hln.out; omega⟩, ⟨ho'⟩, ⟨hb'⟩⟩
      · obtain rfl : m = 0 := by omega
        obtain rfl : zs = [] := List.eq_nil_of_length_eq_zero hrz.out.1
        go_wp2_with fail
        go_ret2
        obtain ⟨A2, c2, he, hr2⟩ := own_reads ho.out
        have ew : w64 xs = ys := by have := hw.out; simpa [w64] using this
        rw [ew, he]
        rw [he] at ho
        exact ⟨A2, _, c2, rfl, own_le ho.out, hr2, hb.out⟩
  · rw [if_neg h8, if_neg h8]
    have t2 : ((n : Int) % 8 != 0) = true := by rw [bne_iff_ne]; omega
    clear h8
    go_enter Try.func22, Try.ntmps22
    go_wp2_with fail
    go_ret2
    exact ⟨none, 0, 0, rfl, Nat.le_refl _, ReadsInt.nil _ _, Below.refl _ _⟩
theorem beB_getD (x : Int) (k j : Nat) (h : j < k) : (beB x k).getD j 0 = x / 256 ^ (k - 1 - j) % 256 := by
  rw [List.getD_eq_getElem?_getD]
  unfold beB
  rw [List.getElem?_reverse (by rw [leB_len]; exact h), leB_len]
  simp [leB, show k - 1 - j < k by omega]
theorem beB_take (x : Int) (k j : Nat) (h : j < k) : (beB x k).take (j + 1) = (beB x k).take j ++ [x / 256 ^ (k - 1 - j) % 256] := by
  rw [take_getD _ _ (by rw [beB_len]; exact h), beB_getD x k j h]
theorem b32_snoc (xs : List Int) (x : Int) : b32 (xs ++ [x]) = b32 xs ++ [x % 256, x / 256 % 256, x / 65536 % 256, x / 16777216 % 256] := by
  induction xs with
  | nil => simp [b32]
  | cons y xs ih => simp [b32, ih]
theorem b64_snoc (xs : List Int) (x : Int) : b64 (xs ++ [x]) = b64 xs ++ beB x 8 := by
  induction xs with
  | nil => simp [b64]
  | cons y xs ih => simp [b64, ih]
theorem b32_len (xs : List Int) : (b32 xs).length = 4 * xs.length := by
  induction xs with
  | nil => rfl
  | cons y xs ih => simp [b32, ih]; omega
theorem b64_len (xs : List Int) : (b64 xs).length = 8 * xs.length := by
  induction xs with
  | nil => rfl
  | cons y xs ih => simp [b64, ih, beB_len]; omega
set_option maxRecDepth 10000 in
set_option maxHeartbeats 400000 in
theorem b32_any (hr : ReadsInt w .u32 A n xs) (hn : n ≤ 40): Calls Try.prog 23 #[.slice A n c] w (RetS w .u8 (b32 xs)) := by
  have HR := Aside0.mk hr
  clear hr
  go_enter Try.func23, Try.ntmps23
  go_wp2_with fail
  go_loopg [3, 8] n (fun q s3 s8 wr => ∃ k : Nat, Aside0 (k + q = n) ∧ k ≤ n ∧ s8 = .int .i64 k ∧ Aside0 (wr.ownsRow w.heap.size 5 1 s3 (b32 (xs.take k)).length (nums .u8 (b32 (xs.take k)))) ∧ Aside0 (Below w.heap.size w wr))
  case atStart => exact ⟨0, ⟨by omega⟩, by omega, rfl, ⟨own_nil _ _ _ _⟩, ⟨Below.refl _ _⟩⟩
  case round =>
    obtain ⟨k, hkq, hk, rfl, ho, hb⟩ := hrel
    by_cases hlt : k < n
    · obtain ⟨ad, rfl, hc⟩ := (HR.out.below hb.out).2.2 (by omega)
      have hc1 := hc k hlt
      obtain ⟨x, hxe⟩ : ∃ x, x = xs.getD k 0 := ⟨_, rfl⟩
      rw [← hxe] at hc1
      have Hx := Lib.hid hxe
      clear hc hxe
      have hr4 : ReadsInt (wr.alloc (.cells #[.int .u8 (x % 256), .int .u8 (x / 256 % 256), .int .u8 (x / 65536 % 256), .int .u8 (x / 16777216 % 256)] 5)) .u8 (some ⟨wr.heap.size, 0, none⟩) 4 [x % 256, x / 256 % 256, x / 65536 % 256, x / 16777216 % 256] := own_reads' (own_lit wr 0 5 .u8 [x % 256, x / 256 % 256, x / 65536 % 256, x / 16777216 % 256] (Nat.zero_le _) (by simp))
      have ho1 := ho.out.alloc (.cells #[.int .u8 (x % 256), .int .u8 (x / 256 % 256), .int .u8 (x / 65536 % 256), .int .u8 (x / 16777216 % 256)] 5)
      have hb1 := hb.out.alloc hb.out.size (.cells #[.int .u8 (x % 256), .int .u8 (x / 256 % 256), .int .u8 (x / 65536 % 256), .int .u8 (x / 16777216 % 256)] 5)
      have hl : (b32 (xs.take k)).length ≤ 160 := by rw [b32_len, List.length_take]; omega
      go_wp2_with (at_builtin; go_must (refine print_append_row (w0 := w) w.heap.size rfl (.tmp 12) (.tmp 24) 23 5 .u8 1 rfl Try.underlying23 info5 (by omega) u3 (b32 (xs.take k)) [x % 256, x / 256 % 256, x / 65536 % 256, x / 16777216 % 256] (some ⟨wr.heap.size, 0, none⟩) 4 4 rfl rfl ho1 hr4 hb1 hb1.size (by omega) ?_); intro v' w' ho' hb' hg hat)
      have e1 : b32 (xs.take (k + 1)) = b32 (xs.take k) ++ [x % 256, x / 256 % 256, x / 65536 % 256, x / 16777216 % 256] := by rw [take_getD xs k (by have := HR.out.1; omega), b32_snoc, Hx.out]
      go_roundg (gk - 1)
      case measure => have := hkq.out; omega
      case rel => exact ⟨k + 1, ⟨by have := hkq.out; omega⟩, hlt, by go_num, ⟨by rw [e1]; exact ho'⟩, ⟨hb'⟩⟩
    · obtain rfl : k = n := by omega
      go_wp2_with fail
      go_ret
      have := ho.out
      rw [List.take_of_length_le (by have := HR.out.1; omega)] at this
      exact own_end this hb.out
set_option maxRecDepth 10000 in
set_option maxHeartbeats 800000 in
theorem b64_any (hr : ReadsInt w .u64 A n xs) (hn : n ≤ 40): Calls Try.prog 24 #[.slice A n c] w (RetS w .u8 (b64 xs)) := by
  have HR := Aside0.mk hr
  clear hr
  go_enter Try.func24, Try.ntmps24
  go_wp2_with fail
  go_loopg [3, 9] n (fun q s3 s9 wr => ∃ k : Nat, Aside0 (k + q = n) ∧ k ≤ n ∧ s9 = .int .i64 k ∧ Aside0 (wr.ownsRow w.heap.size 5 1 s3 (b64 (xs.take k)).length (nums .u8 (b64 (xs.take k)))) ∧ Aside0 (Below w.heap.size w wr))
  case atStart => exact ⟨0, ⟨by omega⟩, by omega, rfl, ⟨own_nil _ _ _ _⟩, ⟨Below.refl _ _⟩⟩
  case round =>
    obtain ⟨k, hkq, hk, rfl, ho, hb⟩ := hrel
    by_cases hlt : k < n
    · obtain ⟨ad, rfl, hc⟩ := (HR.out.below hb.out).2.2 (by omega)
      have hc1 := hc k hlt
      obtain ⟨x, hxe⟩ : ∃ x, x = xs.getD k 0 := ⟨_, rfl⟩
      rw [← hxe] at hc1
      have Hx := Lib.hid hxe
      clear hc hxe
      have hl : (b64 (xs.take k)).length ≤ 320 := by rw [b64_len, List.length_take]; omega
      obtain ⟨bs, hbs⟩ : ∃ bs, bs = b64 (xs.take k) := ⟨_, rfl⟩
      rw [← hbs] at hl ho
      have Hbs := Lib.hid hbs
      clear hbs
      go_wp2_with fail
      obtain ⟨wo, rfl⟩ : ∃ wo : World, wo = wr := ⟨_, rfl⟩
      go_loopg [3, 6] 8 (fun q s3 s6 wr => ∃ j : Nat, Aside0 (j + q = 8) ∧ j ≤ 8 ∧ s6 = .int .i64 (56 - 8 * (j : Int)) ∧ Aside0 (wr.ownsRow w.heap.size 5 1 s3 (bs ++ (beB x 8).take j).length (nums .u8 (bs ++ (beB x 8).take j))) ∧ Aside0 (Below w.heap.size w wr))
      case atStart => exact ⟨0, ⟨by omega⟩, by omega, rfl, by simpa using ho, hb⟩
      case round =>
        clear hb ho hc1
        obtain ⟨j, hjq, hj, rfl, ho, hb⟩ := hrel
        by_cases hlt' : j < 8
        · have hbs := hb.out.size
          have hbo := hb.out
          have hl2 : (bs ++ (beB x 8).take j).length ≤ 340 := by rw [List.length_append, List.length_take, beB_len]; omega
          go_wp2_with (at_builtin; go_must (refine print_append_num (w0 := w) w.heap.size rfl (.tmp 17) (.tmp 23) 23 5 .u8 1 rfl Try.underlying23 info5 (by omega) u3 (bs ++ (beB x 8).take j) _ rfl rfl ho.out hbo hbs (by omega) ?_); intro v' w' ho' hb' hg hat)
          have e2 := beB_take x 8 j hlt'
          have e3 : 56 - 8 * j = 8 * (8 - 1 - j) := by omega
          rw [e3, pow_8] at ho'
          go_roundg (gk - 1)
          case measure => have := hjq.out; omega
          case rel => exact ⟨j + 1, ⟨by have := hjq.out; omega⟩, hlt', by go_num, ⟨by rw [e2, ← List.append_assoc]; exact ho'⟩, ⟨hb'⟩⟩
        · obtain rfl : j = 8 := by omega
          go_wp2_with fail
          have e2 : b64 (xs.take (k + 1)) = bs ++ (beB x 8).take 8 := by rw [take_getD xs k (by have := HR.out.1; omega), b64_snoc, ← Hx.out, Hbs.out, List.take_of_length_le (l := beB x 8) (by rw [beB_len]; omega)]
          go_roundg (n - (k + 1))
          case measure => have := hkq.out; omega
          case rel => exact ⟨k + 1, ⟨by have := hkq.out; omega⟩, hlt, by go_num, ⟨by rw [e2]; exact ho.out⟩, hb⟩
    · obtain rfl : k = n := by omega
      go_wp2_with fail
      go_ret
      have := ho.out
      rw [List.take_of_length_le (by have := HR.out.1; omega)] at this
      exact own_end this hb.out
theorem fits_sz {num sz : Int} (h : fitsB num sz = true) : 1 ≤ sz ∧ sz ≤ 8 ∧ 0 ≤ num ∧ num ≤ 4611686018427387904 := by
  simp [fitsB] at h
  omega
theorem fits_pow {num sz : Int} (h : fitsB num sz = true) (h8 : ¬ sz = 8) : num / 256 ^ sz.toNat = 0 := by
  simp [fitsB] at h
  rcases h.2 with h | h
  · exact absurd h h8
  · exact h
set_option maxRecDepth 10000 in
set_option maxHeartbeats 800000 in
theorem low_yes (x s : Int) (h : fitsB x s = true) : Calls Try.prog 15 #[.int .i64 x, .int .i64 s] w fun e w' => ∃ v, e = .returned (.tuple #[v, .int .i64 0]) ∧ w'.ownsRow w.heap.size 5 1 v s.toNat (nums .u8 (leB x s.toNat)) ∧ Below w.heap.size w w' := by
  obtain ⟨z1, z2, z3, z4⟩ := fits_sz h
  obtain ⟨m, rfl⟩ := Int.eq_ofNat_of_zero_le (show 0 ≤ s by omega)
  have hm1 : 1 ≤ m := by omega
  have hm8 : m ≤ 8 := by omega
  simp only [Int.toNat_natCast]
  have hmk := print_make (P := Try.prog) 23 5 .u8 1 Try.underlying23 info5 (by omega) m (by omega)
  have hown := own_made w w.heap.size 5 .u8 m (Nat.le_refl _) (by omega)
  obtain ⟨W, hW⟩ : ∃ W, W = w.alloc (.cells (madeCells #[.int .u8 0] m) 5) := ⟨_, rfl⟩
  have hbW : Below w.heap.size w W := by rw [hW]; exact below_alloc (Below.refl _ _) _
  obtain ⟨g, hg⟩ : ∃ g, g = w.heap.size := ⟨_, rfl⟩
  have hmk' : (Instr.makeSlice 23 (.int .i64 (m : Int)) (.int .i64 (m : Int))).run Try.prog w = .ok (.slice (some ⟨g, 0, none⟩) m m) W := by rw [hW, hg]; exact hmk w
  rw [← hW, ← hg] at hown
  rw [← hg] at hbW
  have Hg := Lib.hid hg
  clear hmk hW hg
  have HO := Aside0.mk hown
  have HB := Aside0.mk hbW
  clear hown hbW
  have hp : ¬ (m : Int) = 8 → (x / 2 ^ (8 * m) != 0) = false := fun h8 => by
    have := fits_pow h h8
    rw [Int.toNat_natCast, ← pow_8] at this
    rw [this]; rfl
  clear h
  go_enter Try.func15, Try.ntmps15
  go_upto_region 1 with fail
  go_cut [33] from 8 to 32 (fun s33 wx => s33 = .bool false ∧ w = wx)
  case first =>
    by_cases h8 : (m : Int) = 8
    · obtain rfl : m = 8 := by omega
      clear hp
      go_wp2_with fail
      go_meet
      case rel => exact ⟨by congr 1; simp; omega, rfl⟩
    · have hq := hp h8
      clear hp
      go_wp2_with fail
      go_meet
      case rel => exact ⟨by congr 1; simp; omega, rfl⟩
  case rest =>
  obtain ⟨rfl, rfl⟩ := hcut
  clear hp
  go_wp2_with fail
  clear hmk'
  go_loopg [38] m (fun q s38 wr => ∃ k : Nat, Aside0 (k + q = m) ∧ k ≤ m ∧ s38 = .int .i64 k ∧ Aside0 (wr.ownsRow g 5 1 (.slice (some ⟨g, 0, none⟩) m m) m (nums .u8 (leB x k ++ List.replicate (m - k) 0))) ∧ Aside0 (Below g w wr))
  case atStart => exact ⟨0, ⟨by omega⟩, Nat.zero_le _, rfl, ⟨by simpa [leB] using HO.out⟩, HB⟩
  case round =>
    clear HO HB
    obtain ⟨k, hkq, hk, rfl, HO, HB⟩ := hrel
    by_cases hlt : k < m
    · obtain ⟨c1, f1⟩ := own_at HO.out (k : Int) (by omega) (by omega)
      obtain ⟨hs1, hs2⟩ := own_store HO.out (k : Int) (x / 256 ^ k % 256)
      rw [Int.toNat_natCast] at c1 f1 hs1 hs2
      rw [set_fwd m k hlt _ _ (leB_len x k), ← leB_succ] at hs1
      obtain ⟨old, hold⟩ : ∃ old, old = Value.int .u8 (rd (leB x k ++ List.replicate (m - k) 0) (k : Int)) := ⟨_, rfl⟩
      rw [← hold] at c1
      have HS1 := Aside0.mk hs1
      clear hs1 hs2 hold
      go_wp2_with fail
      rw [pow_8]
      go_roundg (gk - 1)
      case measure => have := hkq.out; omega
      case rel => exact ⟨k + 1, ⟨by have := hkq.out; omega⟩, hlt, by go_num, HS1, ⟨HB.out.setCell (Nat.le_refl _) _⟩⟩
    · obtain rfl : k = m := by omega
      go_wp2_with fail
      go_ret2
      obtain rfl := Hg.out
      have := HO.out
      rw [Nat.sub_self, List.replicate_zero, List.append_nil] at this
      exact ⟨_, rfl, this, HB.out⟩
theorem own_endE {w W : World} {k : IntKind} {e : TypeId} {v : Value} {m : Nat} {xs : List Int} {err : Int} (h : W.ownsRow w.heap.size e 1 v m (nums k xs)) (hb : Below w.heap.size w W) : RetSE w k xs err (.returned (.tuple #[v, .int .i64 err])) W := by
  obtain ⟨A, c, rfl, hr⟩ := own_reads h
  exact ⟨A, m, c, rfl, own_le h, hr, hb⟩
theorem low_any (x s : Int) (h2 : -9223372036854775808 ≤ x) (h3 : x ≤ 9223372036854775807) : Calls Try.prog 15 #[.int .i64 x, .int .i64 s] w (RetSE w .u8 (lowL x s) (putE x s)) := by
  unfold lowL putE
  cases h : fitsB x s
  · refine (low_no w x s h h2 h3).mono ?_
    rintro e w' ⟨rfl, rfl⟩
    exact ⟨none, 0, 0, rfl, Nat.le_refl _, ReadsInt.nil _ _, Below.refl _ _⟩
  · refine (low_yes w x s h).mono ?_
    rintro e w' ⟨v, rfl, ho, hb⟩
    exact own_endE ho hb
set_option maxRecDepth 10000 in
set_option maxHeartbeats 400000 in
theorem put_any (x s : Int) (h2 : -9223372036854775808 ≤ x) (h3 : x ≤ 9223372036854775807) : Calls Try.prog 14 #[.int .i64 x, .int .i64 s] w (RetSE w .u8 (putL x s) (putE x s)) := by
  have hl : (lowL x s).length ≤ 8 := by
    unfold lowL
    split
    · rename_i h
      rw [leB_len]
      have := fits_sz h
      omega
    · simp
  have el : putL x s = (lowL x s).reverse := by unfold putL lowL beB; split <;> simp
  have EL := Lib.hid el
  clear el
  go_enter Try.func14, Try.ntmps14
  go_wp2_with fail
  refine (low_any w x s h2 h3).mono ?_
  rintro e w1 ⟨A1, m1, c1, rfl, hm1, hr1, hb1⟩
  have hm8 : m1 ≤ 8 := by have := hr1.1; omega
  go_wp2_with fail
  refine (turnedT_any A1 m1 c1 _ w1 hr1 (by omega)).mono ?_
  rintro e w2 ⟨A2, m2, c2, rfl, hm2, hr2, hb2⟩
  go_wp2_with fail
  go_ret2
  rw [EL.out]
  exact ⟨A2, m2, c2, rfl, hm2, hr2, below_step hb1 hb2⟩
/-- the checksum: a byte, bit by bit -/
def crc8 : Nat → Int → Int
  | 0, x => x
  | k + 1, x => crc8 k (if x % 2 = 1 then bits .xor .u32 (x / 2) 3988292384 else x / 2)
def crcB (x c : Int) : Int := crc8 8 (bits .xor .u32 x c)
def crcL (x : Int) (cs : List Int) : Int := cs.foldl crcB x
theorem crc8_snoc (k : Nat) : ∀ x, crc8 (k + 1) x = (if crc8 k x % 2 = 1 then bits .xor .u32 (crc8 k x / 2) 3988292384 else crc8 k x / 2) := by
  induction k with
  | zero => intro x; rfl
  | succ k ih => intro x; exact ih _
theorem xor_bd (a b : Int) : 0 ≤ bits .xor .u32 a b ∧ bits .xor .u32 a b < 4294967296 := by
  have h : ∃ n : Int, bits .xor .u32 a b = IntKind.u32.wrap n := ⟨_, rfl⟩
  obtain ⟨n, h⟩ := h
  rw [h, IntKind.wrap_u32]
  omega
theorem and_one {v : Int} (h0 : 0 ≤ v) (h1 : v < 4294967296) : bits BinOp.and IntKind.u32 v 1 = v % 2 := by
  rw [u32_and _ _ h0 h1 (by omega) (by omega)]
  show ((v.toNat &&& 1 : Nat) : Int) = _
  rw [nat_mask1]
  omega
theorem crcL_snoc (x : Int) (cs : List Int) (c : Int) : crcL x (cs ++ [c]) = crcB (crcL x cs) c := by simp [crcL, List.foldl_append]
theorem crcL_app (x : Int) (cs ds : List Int) : crcL x (cs ++ ds) = crcL (crcL x cs) ds := by simp [crcL, List.foldl_append]
theorem crc_take {ps : List (Option Addr × Nat × Nat × List Int)} {k : Nat} {p : Option Addr × Nat × Nat × List Int} (h : ps[k]? = some p) :
    crcL (crcL 4294967295 ((ps.take k).map (·.2.2.2)).flatten) p.2.2.2 = crcL 4294967295 ((ps.take (k + 1)).map (·.2.2.2)).flatten := by
  obtain ⟨hk, rfl⟩ := List.getElem?_eq_some_iff.1 h
  rw [List.take_succ_eq_append_getElem hk, List.map_append, List.flatten_append, crcL_app]
  simp
set_option maxRecDepth 10000 in
set_option maxHeartbeats 800000 in
theorem sum_any (ad : Addr) (m c : Nat) (ps : List (Option Addr × Nat × Nat × List Int)) (hm : ps.length = m) (hc : ∀ j p, ps[j]? = some p → w.cell? (ad.add j) = some (.slice p.1 p.2.1 p.2.2.1) ∧ ReadsInt w .u8 p.1 p.2.1 p.2.2.2 ∧ By p.2.2.2) (hm8 : m ≤ 1000) :
    Calls Try.prog 58 #[.slice (some ad) m c] w fun e w' => e = .returned (.int .u32 (bits .xor .u32 IntKind.u32.max (crcL 4294967295 (ps.map (·.2.2.2)).flatten))) ∧ w = w' := by
  have HC := Aside0.mk hc
  have HM := Aside0.mk hm
  clear hc hm
  go_enter Try.func58, Try.ntmps58
  go_wp2_with fail
  go_loopg [3, 10] m (fun q s3 s10 wr => ∃ (k : Nat) (x : Int), Aside0 (k + q = m) ∧ k ≤ m ∧ s10 = .int .i64 k ∧ s3 = .int .u32 x ∧ 0 ≤ x ∧ x < 4294967296 ∧ Aside0 (x = crcL 4294967295 ((ps.take k).map (·.2.2.2)).flatten) ∧ w = wr)
  case atStart => exact ⟨0, 4294967295, ⟨by omega⟩, by omega, rfl, rfl, by omega, by omega, ⟨rfl⟩, rfl⟩
  case round =>
    obtain ⟨k, x, hkq, hk, rfl, rfl, hx0, hx1, hxe, rfl⟩ := hrel
    by_cases hlt : k < m
    · obtain ⟨⟨A1, n1, c1, cs⟩, hp⟩ : ∃ p, ps[k]? = some p := ⟨_, List.getElem?_eq_getElem (by have := HM.out; omega)⟩
      obtain ⟨h1, h2, h3⟩ := HC.out k _ hp
      dsimp only at h1 h2 h3
      have HP := Aside0.mk hp
      clear hp
      have n1b := h2.2.1
      have HL := Lib.hid h2.1
      go_wp2_with fail
      go_loopg [3, 16] n1 (fun q s3 s16 wr => ∃ (i : Nat) (y : Int), Aside0 (i + q = n1) ∧ i ≤ n1 ∧ s16 = .int .i64 i ∧ s3 = .int .u32 y ∧ 0 ≤ y ∧ y < 4294967296 ∧ Aside0 (y = crcL x (cs.take i)) ∧ w = wr)
      case atStart => exact ⟨0, x, ⟨by omega⟩, by omega, rfl, rfl, by omega, by omega, ⟨rfl⟩, rfl⟩
      case round =>
        obtain ⟨i, y, hiq, hi, rfl, rfl, hy0, hy1, hye, rfl⟩ := hrel
        by_cases hlt' : i < n1
        · obtain ⟨ad1, rfl, hc1⟩ := h2.2.2 (by omega)
          have hc2 := hc1 i hlt'
          have hcb := By.getD h3 i
          obtain ⟨z, hz⟩ : ∃ z, z = cs.getD i 0 := ⟨_, rfl⟩
          rw [← hz] at hc2 hcb
          have HZ := Lib.hid hz
          have H2 := Aside0.mk h2
          clear hc1 h2 hz
          have hz0 := xor_bd y z
          obtain ⟨y0, hy0e⟩ : ∃ y0, bits .xor .u32 y z = y0 := ⟨_, rfl⟩
          rw [hy0e] at hz0
          obtain ⟨hz0, hz1⟩ := hz0
          go_wp2_with fail
          go_loopg [3, 24] 8 (fun q s3 s24 wr => ∃ (b : Nat) (v : Int), Aside0 (b + q = 8) ∧ b ≤ 8 ∧ s24 = .int .i64 b ∧ s3 = .int .u32 v ∧ 0 ≤ v ∧ v < 4294967296 ∧ Aside0 (v = crc8 b y0) ∧ w = wr)
          case atStart => exact ⟨0, y0, ⟨by omega⟩, by omega, rfl, rfl, hz0, hz1, ⟨rfl⟩, rfl⟩
          case round =>
            obtain ⟨b, v, hbq, hb, rfl, rfl, hv0, hv1, hve, rfl⟩ := hrel
            by_cases hlt'' : b < 8
            · have ev := crc8_snoc b y0
              rw [← hve.out] at ev
              by_cases hodd : v % 2 = 1
              · have t1 : (bits BinOp.and IntKind.u32 v 1 == 1) = true := by rw [and_one hv0 hv1, hodd]; rfl
                rw [if_pos hodd] at ev
                have hx2 := xor_bd (v / 2) 3988292384
                have EV := Aside0.mk ev.symm
                clear ev hodd
                go_wp2_with fail
                go_roundg (gk - 1)
                case measure => have := hbq.out; omega
                case rel => exact ⟨b + 1, _, ⟨by have := hbq.out; omega⟩, hlt'', by go_num, rfl, hx2.1, hx2.2, EV, rfl⟩
              · have t1 : (bits BinOp.and IntKind.u32 v 1 == 1) = false := by rw [and_one hv0 hv1, beq_eq_false_iff_ne]; exact hodd
                rw [if_neg hodd] at ev
                have EV := Aside0.mk ev.symm
                clear ev hodd
                go_wp2_with fail
                go_roundg (gk - 1)
                case measure => have := hbq.out; omega
                case rel => exact ⟨b + 1, _, ⟨by have := hbq.out; omega⟩, hlt'', by go_num, rfl, by omega, by omega, EV, rfl⟩
            · obtain rfl : b = 8 := by omega
              go_wp2_with fail
              go_roundg (n1 - (i + 1))
              case measure => have := hiq.out; omega
              case rel => exact ⟨i + 1, v, ⟨by have := hiq.out; omega⟩, hlt', by go_num, rfl, hv0, hv1, ⟨by rw [take_getD cs i (by have := HL.out; omega), ← HZ.out, crcL_snoc, ← hye.out, hve.out]; exact congrArg (crc8 8) hy0e.symm⟩, rfl⟩
        · obtain rfl : i = n1 := by omega
          have ey : y = crcL x cs := by have := hye.out; rwa [List.take_of_length_le (by have := HL.out; omega)] at this
          have EY := Aside0.mk ey
          clear ey h2
          go_wp2_with fail
          go_roundg (m - (k + 1))
          case measure => have := hkq.out; omega
          case rel => exact ⟨k + 1, y, ⟨by have := hkq.out; omega⟩, hlt, by go_num, rfl, hy0, hy1, ⟨by rw [EY.out, hxe.out]; exact crc_take HP.out⟩, rfl⟩
    · obtain rfl : k = m := by omega
      have ex : x = crcL 4294967295 (ps.map (·.2.2.2)).flatten := by have := hxe.out; rwa [List.take_of_length_le (by have := HM.out; omega)] at this
      have EX := Lib.hid ex
      clear ex
      go_wp2_with fail
      go_ret
      rw [← EX.out]
      exact ⟨rfl, rfl⟩
theorem rd_block {W : World} {g : Nat} {k : IntKind} {t : TypeId} {fr : Nat × Nat} {xs : List Int} (h : W.heap[g]? = some (.cells (nums k xs).toArray t fr)) (hl : xs.length ≤ 9223372036854775807) : ReadsInt W k (some ⟨g, 0, none⟩) xs.length xs := by
  refine ⟨rfl, hl, fun _ => ⟨_, rfl, fun j hj => ?_⟩⟩
  rw [add_plain, cell_of_row _ _ _ _ _ _ h]
  simp [nums, List.getElem?_eq_getElem hj, List.getD_eq_getElem?_getD]
theorem put_258 : putL 258 3 = [0, 1, 2] ∧ putE 258 3 = 0 := by decide +kernel
theorem crc_123 : bits .xor .u32 IntKind.u32.max (crcL 4294967295 [49, 50, 51, 52, 53, 54, 55, 56, 57]) = 3421780262 := by decide +kernel
set_option maxRecDepth 10000 in
set_option maxHeartbeats 800000 in
theorem stands_any : Calls Try.prog 25 #[] w fun e w' => e = .returned (.bool true) ∧ Below w.heap.size w w' := by
  go_enter Try.func25, Try.ntmps25
  go_wp2_with fail
  refine (put_any w 258 3 (by omega) (by omega)).mono ?_
  rintro e w1 ⟨A1, m1, c1, rfl, hm1, hr1, hb1⟩
  rw [put_258.1] at hr1
  rw [put_258.2]
  have k1 := string_of_reads (c := c1) (P := Try.prog) Try.underlying23 Try.underlying5 Try.underlying9 hr1
  obtain ⟨s1, e1⟩ : ∃ s, s = strOfNums [0, 1, 2] := ⟨_, rfl⟩
  have e2 : s1.toList = [0, 1, 2] := by rw [e1]; decide +kernel
  rw [← e1] at k1
  clear e1
  have HB1 := Aside0.mk hb1
  clear hr1 hb1
  have kc := Lib.run_convert_bytes_const (P := Try.prog) w1 23 5 #[.int .u8 49, .int .u8 50, .int .u8 51, .int .u8 52] 4 4 Try.underlying23 Try.underlying5
  have kd := Joins.run_convert_bytes_const_at (P := Try.prog) (w1.alloc (.cells #[.int .u8 49, .int .u8 50, .int .u8 51, .int .u8 52] 5 (4, 5))) 23 5 #[.int .u8 53, .int .u8 54, .int .u8 55, .int .u8 56, .int .u8 57] 5 5 (w1.heap.size + 1) (by simp) Try.underlying23 Try.underlying5
  simp only [List.size_toArray, List.length_cons, List.length_nil, Nat.reduceAdd] at kc kd
  go_wp2_with fail
  have g0 : (((w1.alloc (.cells #[.int .u8 49, .int .u8 50, .int .u8 51, .int .u8 52] 5 (4, 5))).alloc (.cells #[.int .u8 53, .int .u8 54, .int .u8 55, .int .u8 56, .int .u8 57] 5 (5, 6))).alloc (.cells #[.slice (some ⟨w1.heap.size, 0, none⟩) 4 4, .slice (some ⟨w1.heap.size + 1, 0, none⟩) 5 5] 23)).heap[w1.heap.size]? = some (.cells #[.int .u8 49, .int .u8 50, .int .u8 51, .int .u8 52] 5 (4, 5)) := blk_alloc (blk_alloc (blk_new _ _) _) _
  have g1 : (((w1.alloc (.cells #[.int .u8 49, .int .u8 50, .int .u8 51, .int .u8 52] 5 (4, 5))).alloc (.cells #[.int .u8 53, .int .u8 54, .int .u8 55, .int .u8 56, .int .u8 57] 5 (5, 6))).alloc (.cells #[.slice (some ⟨w1.heap.size, 0, none⟩) 4 4, .slice (some ⟨w1.heap.size + 1, 0, none⟩) 5 5] 23)).heap[w1.heap.size + 1]? = some (.cells #[.int .u8 53, .int .u8 54, .int .u8 55, .int .u8 56, .int .u8 57] 5 (5, 6)) := by
    have := blk_new (w1.alloc (.cells #[.int .u8 49, .int .u8 50, .int .u8 51, .int .u8 52] 5 (4, 5))) (.cells #[.int .u8 53, .int .u8 54, .int .u8 55, .int .u8 56, .int .u8 57] 5 (5, 6))
    rw [World.size_alloc] at this
    exact blk_alloc this _
  have g2 : (((w1.alloc (.cells #[.int .u8 49, .int .u8 50, .int .u8 51, .int .u8 52] 5 (4, 5))).alloc (.cells #[.int .u8 53, .int .u8 54, .int .u8 55, .int .u8 56, .int .u8 57] 5 (5, 6))).alloc (.cells #[.slice (some ⟨w1.heap.size, 0, none⟩) 4 4, .slice (some ⟨w1.heap.size + 1, 0, none⟩) 5 5] 23)).heap[w1.heap.size + 1 + 1]? = some (.cells #[.slice (some ⟨w1.heap.size, 0, none⟩) 4 4, .slice (some ⟨w1.heap.size + 1, 0, none⟩) 5 5] 23) := by
    have := blk_new ((w1.alloc (.cells #[.int .u8 49, .int .u8 50, .int .u8 51, .int .u8 52] 5 (4, 5))).alloc (.cells #[.int .u8 53, .int .u8 54, .int .u8 55, .int .u8 56, .int .u8 57] 5 (5, 6))) (.cells #[.slice (some ⟨w1.heap.size, 0, none⟩) 4 4, .slice (some ⟨w1.heap.size + 1, 0, none⟩) 5 5] 23)
    rw [World.size_alloc, World.size_alloc] at this
    exact this
  have hbz := ((HB1.out.alloc HB1.out.size (.cells #[.int .u8 49, .int .u8 50, .int .u8 51, .int .u8 52] 5 (4, 5))).alloc (by have := HB1.out.size; simp; omega) (.cells #[.int .u8 53, .int .u8 54, .int .u8 55, .int .u8 56, .int .u8 57] 5 (5, 6))).alloc (by have := HB1.out.size; simp; omega) (.cells #[.slice (some ⟨w1.heap.size, 0, none⟩) 4 4, .slice (some ⟨w1.heap.size + 1, 0, none⟩) 5 5] 23)
  have HBZ := Aside0.mk hbz
  refine (sum_any _ ⟨w1.heap.size + 1 + 1, 0, none⟩ 2 2 [(some ⟨w1.heap.size, 0, none⟩, 4, 4, [49, 50, 51, 52]), (some ⟨w1.heap.size + 1, 0, none⟩, 5, 5, [53, 54, 55, 56, 57])] rfl ?_ (by omega)).mono ?_
  · intro j p hp
    match j, hp with
    | 0, hp =>
      obtain rfl := (Option.some.inj hp).symm
      exact ⟨by rw [add_plain, cell_of_row _ _ _ _ _ _ g2]; rfl, rd_block (xs := [49, 50, 51, 52]) g0 (by decide), show By [49, 50, 51, 52] from fun x hx => by simp at hx; omega⟩
    | 1, hp =>
      obtain rfl := (Option.some.inj hp).symm
      exact ⟨by rw [add_plain, cell_of_row _ _ _ _ _ _ g2]; rfl, rd_block (xs := [53, 54, 55, 56, 57]) g1 (by decide), show By [53, 54, 55, 56, 57] from fun x hx => by simp at hx; omega⟩
    | j + 2, hp => simp at hp
  · rintro e w2 ⟨rfl, rfl⟩
    have ec : bits .xor .u32 IntKind.u32.max (crcL 4294967295 (([(some ⟨w1.heap.size, 0, none⟩, 4, 4, [49, 50, 51, 52]), (some ⟨w1.heap.size + 1, 0, none⟩, 5, 5, [53, 54, 55, 56, 57])] : List (Option Addr × Nat × Nat × List Int)).map (·.2.2.2)).flatten) = 3421780262 := crc_123
    rw [ec]
    clear ec hbz g0 g1 g2 kc kd
    go_wp2_with fail
    go_ret
    exact ⟨rfl, HBZ.out⟩
end Go.Proofs.Ytmegbgnfkgebbaa.C1
