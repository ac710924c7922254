/- The walk through TopWords: called with any number, size and bytes it returns true and nothing old has turned. No conditions but the kinds of the arguments. -/
import Derived.Test.YtmegbgnfkgebbaaC2
import Derived.Deep.DeepCutAuto
import Derived.OpenShut
set_option linter.unusedVariables false
set_option linter.unusedSimpArgs false
namespace Go.Proofs.Ytmegbgnfkgebbaa.T2
open Go.RowKit Go.Proofs.YtmegbgnfkgebbaaW.PrintWords V C1 C2

variable (A A' : Option Addr) (n c n' c' : Nat) (xs ys : List Int) (w : World)
theorem fits_z {num sz : Int} (h1 : 1 ≤ sz) (h2 : sz ≤ 8) (h : 0 ≤ num) (h' : num ≤ 4611686018427387904) : (sz == 8 || num / 2 ^ (8 * sz).toNat == 0) = fitsB num sz := by
  have e : (8 * sz).toNat = 8 * sz.toNat := by omega
  rw [e, pow_8]
  simp [fitsB, h1, h2, h, h']
  rw [Bool.eq_iff_iff]; simp
theorem By.reverse {xs : List Int} (h : By xs) : By xs.reverse := fun x hx => h x (by simpa using hx)

/-- a cut in the middle of a slice that is read; its address is a letter -/
theorem midI {P : Program} (t e : TypeId) (kl kh : IntKind) {z : Value} {bytes : Nat} (ht : P.underlying t = some (.slice e)) (hinfo : (P.info? e).map (fun i => (i.zero, i.size, i.bytes)) = some (some z, 1, bytes)) (A : Option Addr) (n c j m : Nat) (lo hi' : Int) (hlo : lo = j) (hhi : hi' = (j : Int) + m) (h2 : j + m ≤ n) (hc : n ≤ c) :
    ∃ A' : Option Addr, (∀ W : World, (Instr.slice t (.slice A n c) (some (.int kl lo)) (some (.int kh hi')) none).run P W = .ok (.slice A' m (c - j)) W) ∧
      ∀ (w : World) (k : IntKind) (xs : List Int), ReadsInt w k A n xs → ReadsInt w k A' m ((xs.drop j).take m) := by
  obtain ⟨i0, hi, hz0, hz1, hz2⟩ := info_parts hinfo
  have h := cut_mid (P := P) t e kl kh ht hi 1 hz1 A n c lo hi' (by omega) (by omega) (by omega) hc
  refine ⟨if c = lo.toNat then A else A.map (·.add (lo.toNat * 1)), fun W => ?_, fun w k xs hr => ?_⟩
  · rw [h W]
    have e1 : hi'.toNat - lo.toNat = m := by omega
    have e2 : lo.toNat = j := by omega
    rw [e1, e2]
  · have e2 : lo.toNat = j := by omega
    rw [e2, Nat.mul_one]
    exact (hr.drop_ j (by omega) hc).take_ m (by omega)
theorem By.mid {xs : List Int} (h : By xs) (j m : Nat) : By ((xs.drop j).take m) := fun x hx => h x (List.mem_of_mem_drop (List.mem_of_mem_take hx))

theorem mod_cases (m : Nat) : (m % 4 = 0 ∧ m % 8 = 0) ∨ (m % 4 = 0 ∧ ¬ m % 8 = 0) ∨ (¬ m % 4 = 0 ∧ ¬ m % 8 = 0) := by omega
set_option maxRecDepth 100000 in
set_option maxHeartbeats 3200000 in
theorem top (num sz : Int) (hr : ReadsInt w .u8 A n xs) (hx : By xs) (hc : n ≤ c) (h0 : -128 ≤ sz) (h1 : sz ≤ 127) (h2 : -9223372036854775808 ≤ num) (h3 : num ≤ 9223372036854775807) :
   Calls Try.prog 3 #[.int .i64 num, .int .i8 sz, .slice A n c] w fun e w' => e = .returned (.bool true) ∧ Below w.heap.size w w' := by
  obtain ⟨m, hm⟩ : ∃ m : Nat, m = min n 40 := ⟨_, rfl⟩
  obtain ⟨ys, hys⟩ : ∃ ys : List Int, ys = xs.take m := ⟨_, rfl⟩
  have hry : ReadsInt w .u8 A m ys := by rw [hys]; exact hr.take_ m (by omega)
  have hby : By ys := fun x hxx => hx x (by rw [hys] at hxx; exact List.mem_of_mem_take hxx)
  have hm40 : m ≤ 40 := by omega
  have hmc : m ≤ c := by omega
  have hmn : m ≤ n := by omega
  clear hys
  have Hm := Lib.hid hm
  clear hm
  obtain ⟨fb, hfb⟩ : ∃ fb : Bool, fb = fitsB num sz := ⟨_, rfl⟩
  have Hf := Lib.hid hfb
  clear hfb
  go_enter Try.func3, Try.ntmps3
  go_upto_region 1 with fail
  go_cut [2] from 35 to 39 (fun s2 wx => s2 = .slice A m c ∧ w = wx)
  case first =>
    by_cases hn : n ≤ 40
    · obtain rfl : m = n := by have := Hm.out; omega
      go_wp2_with fail
      go_meet
      case rel => exact ⟨rfl, rfl⟩
    · obtain rfl : m = 40 := by have := Hm.out; omega
      go_wp2_with fail
      go_meet
      case rel => exact ⟨rfl, rfl⟩
  case rest =>
  obtain ⟨rfl, rfl⟩ := hcut
  clear hr hx
  go_upto_region 3 with fail
  go_cut [8] from 42 to 68 (fun s8 wx => s8 = .bool fb ∧ w = wx)
  case first =>
    by_cases g1 : sz < 1
    · have hf := fits_no1 (num := num) g1
      go_wp2_with fail
      go_meet
      case rel => exact ⟨by rw [Hf.out, hf], rfl⟩
    by_cases g2 : 8 < sz
    · have hf := fits_no2 (num := num) g2
      go_wp2_with fail
      go_meet
      case rel => exact ⟨by rw [Hf.out, hf], rfl⟩
    by_cases g3 : num < 0
    · have hf := fits_no3 (sz := sz) g3
      go_wp2_with fail
      go_meet
      case rel => exact ⟨by rw [Hf.out, hf], rfl⟩
    by_cases g4 : 4611686018427387904 < num
    · have hf := fits_no4 (sz := sz) g4
      go_wp2_with fail
      go_meet
      case rel => exact ⟨by rw [Hf.out, hf], rfl⟩
    by_cases g5 : sz = 8
    · subst g5
      have hf := fits_8 (num := num) (by omega) (by omega)
      go_wp2_with fail
      go_meet
      case rel => exact ⟨by rw [Hf.out, hf], rfl⟩
    have hf := Lib.hid (fits_z (num := num) (sz := sz) (by omega) (by omega) (by omega) (by omega))
    go_wp2_with fail
    go_meet
    case rel => exact ⟨by rw [Hf.out, hf.out], rfl⟩
  case rest =>
  obtain ⟨rfl, rfl⟩ := hcut
  go_upto_if 69 with fail
  go_cut [9, 10] from 70 to 73 (fun s9 s10 wx => ∃ A1 k1 c1, s9 = .slice A1 k1 c1 ∧ k1 ≤ c1 ∧ s10 = .int .i64 (putE num sz) ∧ ReadsInt wx .u8 A1 k1 (putL num sz) ∧ Below w.heap.size w wx)
  case first =>
    cases fb
    · have hf : ¬ fitsB num sz = true := by rw [← Hf.out]; decide
      have e1 := Lib.hid (show putE num sz = 2 from if_neg hf)
      have e2 := Lib.hid (show putL num sz = [] from if_neg hf)
      clear hf
      go_wp2_with fail
      go_meet
      case rel => exact ⟨none, 0, 0, rfl, Nat.le_refl _, by rw [e1.out], by rw [e2.out]; exact ReadsInt.nil _ _, Below.refl _ _⟩
    · have hf := Hf.out.symm
      have hz := fits_sz hf
      have e1 := Lib.hid (show putE num sz = 0 from if_pos hf)
      have e2 := Lib.hid (show putL num sz = beB num sz.toNat from if_pos hf)
      clear hf
      go_wp2_with (go_at_call 13; refine (bigEnd_any _ num sz (by omega) (by omega)).mono ?_; rintro e w1 ⟨A1, k1, c1, rfl, hk1, hr1, hb1⟩)
      go_meet
      case rel => exact ⟨A1, k1, c1, rfl, hk1, by rw [e1.out], by rw [e2.out]; exact hr1, hb1⟩
  case rest =>
  obtain ⟨A1, k1, c1, rfl, hk1, rfl, hr1, hb1⟩ := hcut
  go_wp2_with (first | (go_at_call 14; refine (put_any _ num sz h2 h3).mono ?_; rintro e w2 ⟨A2, k2, c2, rfl, hk2, hr2, hb2⟩) | (go_at_call 15; refine (low_any _ num sz h2 h3).mono ?_; rintro e w3 ⟨A3, k3, c3, rfl, hk3, hr3, hb3⟩))
  have hr1' := (hr1.below hb2).below hb3
  have hbp := By.putL num sz
  have hk18 : k1 ≤ 8 := by have := hr1.1; have := putL_len num sz; omega
  refine (same_any A2 A1 k2 c2 k1 c1 _ _ _ (hr2.below hb3) hr1' hbp hbp).mono ?_
  rintro e w4 ⟨rfl, rfl⟩
  simp only [decide_true]
  go_wp2_with fail
  refine (turned_any A1 k1 c1 _ _ hr1' (by omega)).mono ?_
  rintro e w4 ⟨A4, k4, c4, rfl, hk4, hr4, hb4⟩
  go_wp2_with fail
  refine (same_any A3 A4 k3 c3 k4 c4 _ _ _ (hr3.below hb4) hr4 (By.lowL num sz) (By.reverse hbp)).mono ?_
  rintro e w5 ⟨rfl, rfl⟩
  have el : lowL num sz = (putL num sz).reverse := by unfold lowL putL beB; split <;> simp
  simp only [el, decide_true]
  clear el
  have hrb := (((hry.below hb1).below hb2).below hb3).below hb4
  have hbb := (below_step (below_step (below_step hb1 hb2) hb3) hb4)
  clear hr1 hr2 hr3 hr4 hr1' hk1 hk2 hk3 hk4 hb1 hb2 hb3 hb4
  obtain ⟨m8, hm8⟩ : ∃ m8 : Nat, m8 = min m 8 := ⟨_, rfl⟩
  have hm8m : m8 ≤ m := by omega
  have hm88 : m8 ≤ 8 := by omega
  have Hm8 := Lib.hid hm8
  clear hm8
  go_upto_region 12 with fail
  go_cut [113, 114, 115] from 107 to 115 (fun s113 s114 s115 wx => ∃ g, s113 = .slice (some ⟨g, 0, none⟩) 2 2 ∧ s114 = .int .i64 2 ∧ s115 = .int .i64 0 ∧ wx.cell? ⟨g, 0, none⟩ = some (.slice A m c) ∧ wx.cell? ⟨g, 1, none⟩ = some (.slice A m8 c) ∧ Below w.heap.size w wx ∧ ReadsInt wx .u8 A m ys)
  case first =>
    by_cases hn : m ≤ 8
    · obtain rfl : m8 = m := by have := Hm8.out; omega
      go_wp2_with fail
      go_meet
      case rel => exact ⟨w4.heap.size, rfl, rfl, rfl, by simp [World.cell?_alloc_new], by simp [World.cell?_alloc_new], below_alloc hbb _, hrb.allocS _⟩
    · obtain rfl : m8 = 8 := by have := Hm8.out; omega
      go_wp2_with fail
      go_meet
      case rel => exact ⟨w4.heap.size, rfl, rfl, rfl, by simp [World.cell?_alloc_new], by simp [World.cell?_alloc_new], below_alloc hbb _, hrb.allocS _⟩
  case rest =>
  obtain ⟨g, rfl, rfl, rfl, hg0, hg1, hbb, hrb⟩ := hcut
  go_wp2_with fail
  go_loopg [115] 2 (fun q s115 wr => ∃ k : Nat, k + q = 2 ∧ s115 = .int .i64 k ∧ wr.cell? ⟨g, 0, none⟩ = some (.slice A m c) ∧ wr.cell? ⟨g, 1, none⟩ = some (.slice A m8 c) ∧ Below w.heap.size w wr ∧ ReadsInt wr .u8 A m ys)
  case atStart => exact ⟨0, rfl, rfl, hg0, hg1, hbb, hrb⟩
  case round =>
    obtain ⟨k, hkq, rfl, hg0, hg1, hbb, hrb⟩ := hrel
    by_cases hlt : k < 2
    · obtain ⟨mk, hck, hmk, hmkc⟩ : ∃ mk, wr.cell? ⟨g, k, none⟩ = some (.slice A mk c) ∧ mk ≤ m ∧ mk ≤ c := by
        rcases (show k = 0 ∨ k = 1 by omega) with rfl | rfl
        · exact ⟨m, hg0, Nat.le_refl _, hmc⟩
        · exact ⟨m8, hg1, hm8m, by omega⟩
      obtain ⟨zs, hzs⟩ : ∃ zs, zs = ys.take mk := ⟨_, rfl⟩
      have hrz : ReadsInt wr .u8 A mk zs := by rw [hzs]; exact hrb.take_ mk hmk
      have hbz : By zs := fun x hxx => hby x (by rw [hzs] at hxx; exact List.mem_of_mem_take hxx)
      have hlz := hrz.1
      have Hlz := Lib.hid hlz
      clear hzs hlz
      have G0 := Lib.hid hg0
      have G1 := Lib.hid hg1
      have HKQ := Lib.hid hkq
      clear hg0 hg1 hkq
      go_upto_block 2 with fail
      go_cut [17, 18, 19, 20, 21, 22] from 116 to 139 (fun s17 s18 s19 s20 s21 s22 wx => s17 = .int .i64 (getN zs) ∧ s18 = .int .i64 (getLowN zs) ∧ s19 = .int .i64 (getE zs) ∧ s20 = .int .i64 (getLowE zs) ∧ Below wr.heap.size wr wx)
      case first =>
        by_cases n0 : mk = 0
        · subst n0
          have e1 : getN zs = 0 ∧ getE zs = 10 ∧ getLowN zs = 0 ∧ getLowE zs = 10 := by
            have := Hlz.out
            simp [getN, getE, getLowN, getLowE, this]
          obtain ⟨e1, e2, e3, e4⟩ := e1
          have E1 := Lib.hid e1
          have E2 := Lib.hid e2
          have E3 := Lib.hid e3
          have E4 := Lib.hid e4
          clear e1 e2 e3 e4
          go_wp2_with fail
          go_meet
          case rel => exact ⟨by rw [E1.out], by rw [E3.out], by rw [E2.out], by rw [E4.out], Below.refl _ _⟩
        by_cases n8 : 8 < mk
        · have e1 : getN zs = 0 ∧ getE zs = 2 ∧ getLowN zs = 0 ∧ getLowE zs = 2 := by
            have := Hlz.out
            simp [getN, getE, getLowN, getLowE, this, n8, n0]
          obtain ⟨e1, e2, e3, e4⟩ := e1
          have E1 := Lib.hid e1
          have E2 := Lib.hid e2
          have E3 := Lib.hid e3
          have E4 := Lib.hid e4
          clear e1 e2 e3 e4
          go_wp2_with fail
          go_meet
          case rel => exact ⟨by rw [E1.out], by rw [E3.out], by rw [E2.out], by rw [E4.out], Below.refl _ _⟩
        obtain ⟨u, hu⟩ : ∃ u, be 0 zs = u := ⟨_, rfl⟩
        obtain ⟨v, hv⟩ : ∃ v, be 0 zs.reverse = v := ⟨_, rfl⟩
        have hu0 := be_bd zs 0 (by omega) (by omega)
        have hv0 := be_bd zs.reverse 0 (by omega) (by omega)
        rw [hu] at hu0
        rw [hv] at hv0
        have e1 : getN zs = (if 4611686018427387904 < u then 0 else u) ∧ getE zs = (if 4611686018427387904 < u then 11 else 0) ∧ getLowN zs = (if 4611686018427387904 < v then 0 else v) ∧ getLowE zs = (if 4611686018427387904 < v then 11 else 0) := by
          have := Hlz.out
          simp [getN, getE, getLowN, getLowE, this, n8, n0, hu, hv]
        obtain ⟨e1, e2, e3, e4⟩ := e1
        have E1 := Lib.hid e1
        have E2 := Lib.hid e2
        have E3 := Lib.hid e3
        have E4 := Lib.hid e4
        clear e1 e2 e3 e4
        by_cases tu : 4611686018427387904 < u
        all_goals by_cases tv : 4611686018427387904 < v
        all_goals
          go_wp2_with fail
          refine (counted_any A mk c zs _ hrz hbz).mono ?_
          rintro e w5 ⟨rfl, rfl⟩
          go_wp2_with fail
          refine (turned_any A mk c zs _ hrz (by omega)).mono ?_
          rintro e w6 ⟨A6, k6, c6, rfl, hk6, hr6, hb6⟩
          go_wp2_with fail
          refine (counted_any A6 k6 c6 _ _ hr6 (By.reverse hbz)).mono ?_
          rintro e w7 ⟨rfl, rfl⟩
          go_wp2_with fail
          go_meet
          case rel => exact ⟨by rw [E1.out]; first | rw [if_pos tu] | rw [if_neg (by omega)], by rw [E3.out]; first | rw [if_pos tv] | rw [if_neg (by omega)], by rw [E2.out]; first | rw [if_pos tu] | rw [if_neg (by omega)], by rw [E4.out]; first | rw [if_pos tv] | rw [if_neg (by omega)], hb6⟩
      case rest =>
      obtain ⟨rfl, rfl, rfl, rfl, hbx⟩ := hcut
      have hrz2 := hrz.below hbx
      go_wp2_with fail
      refine (get_any A mk c zs _ hrz2 hbz).mono ?_
      rintro e w7 ⟨rfl, rfl⟩
      go_wp2_with fail
      refine (getLow_any A mk c zs _ hrz2 hbz).mono ?_
      rintro e w8 ⟨rfl, hb8⟩
      have hb9 := (below_step hbx hb8)
      have g0 := pw_cell_below hb9 G0.out
      have g1 := pw_cell_below hb9 G1.out
      have hrb9 := hrb.below hb9
      have hbb9 := below_step hbb hb9
      clear hrb hbb hbx hb8 hb9 hrz2 hrz
      go_wp2_with fail
      go_roundg (gk - 1)
      case measure => have := HKQ.out; omega
      case rel => exact ⟨k + 1, by have := HKQ.out; omega, by go_num, g0, g1, hbb9, hrb9⟩
    · obtain rfl : k = 2 := by omega
      clear hg0 hg1 hkq hlt hrb
      go_wp2_with fail
      go_loopg [27, 29] 11 (fun q s27 s29 wr => ∃ j : Nat, Aside0 (j % 4 = 0) ∧ Aside0 (j + 4 * q ≤ m + 44 ∧ m + 4 ≤ j + 4 * q) ∧ j ≤ m ∧ s29 = .int .i64 j ∧ Aside0 (wr.ownsRow w.heap.size 37 1 s27 (w32 (ys.take j)).length (nums .u32 (w32 (ys.take j)))) ∧ Below w.heap.size w wr)
      case atStart => exact ⟨0, ⟨rfl⟩, ⟨by omega, by omega⟩, Nat.zero_le _, rfl, ⟨own_nil _ _ _ _⟩, hbb⟩
      case round =>
        obtain ⟨j, hj4, hjq, hjm, rfl, how, hbw⟩ := hrel
        by_cases hlt : j + 4 ≤ m
        · obtain ⟨A7, hcut, hA7⟩ := midI (P := Try.prog) 23 5 .i64 .i64 Try.underlying23 info5 A m c j 4 (j : Int) ((j : Int) + 4) rfl rfl hlt hmc
          have hr7 := hA7 _ _ _ (hry.below hbw)
          have hb7 := By.mid hby j 4
          obtain ⟨zs, hzs⟩ : ∃ zs, zs = (ys.drop j).take 4 := ⟨_, rfl⟩
          rw [← hzs] at hr7 hb7
          have Hzs := Lib.hid hzs
          clear hzs
          clear hA7
          go_wp2_with fail
          refine (turned_any A7 4 (c - j) zs _ hr7 (by omega)).mono ?_
          rintro e w6 ⟨A6, k6, c6, rfl, hk6, hr6, hb6⟩
          go_wp2_with fail
          refine (counted_any A6 k6 c6 _ _ hr6 (By.reverse hb7)).mono ?_
          rintro e w7 ⟨rfl, rfl⟩
          have ho6 := pw_own_below how.out hb6
          have hbw6 := below_step hbw hb6
          have hz6 := hbw6.size
          have hl6 := w32_len ys j
          go_wp2_with (at_builtin; go_must (refine print_append_num (w0 := w) w.heap.size rfl (.tmp 176) (.tmp 185) 35 37 .u32 4 rfl Try.underlying35 info37 (by omega) u27 (w32 (ys.take j)) _ rfl rfl ho6 hbw6 hz6 (by omega) ?_); intro v' w' ho hb hg hat)
          have ew := w32_snoc hby hj4.out (show j + 4 ≤ ys.length by have := hry.1; omega)
          go_roundg (gk - 1)
          case measure => have := hjq.out; omega
          case rel => exact ⟨j + 4, ⟨by have := hj4.out; omega⟩, ⟨by have := hjq.out; omega⟩, hlt, by go_num, ⟨by rw [ew, ← Hzs.out]; exact ho⟩, hb⟩
        · have hj : ¬ (j : Int) + 4 ≤ m := by omega
          have ew := w32_stop (ys := ys) hj4.out (by have := hry.1; omega) (show ys.length < j + 4 by have := hry.1; omega)
          obtain ⟨n4, hn4⟩ : ∃ n4, n4 = (w32 ys).length := ⟨_, rfl⟩
          have ho4 : Aside0 (wr.ownsRow w.heap.size 37 1 u27 n4 (nums .u32 (w32 ys))) := ⟨by rw [hn4, ← ew]; exact how.out⟩
          have hn40 : n4 ≤ 40 := by have := w32_len ys ys.length; rw [List.take_length] at this; have := hry.1; omega
          have HN4 := Lib.hid hn4
          clear how ew hlt hn4
          go_wp2_with fail
          go_loopg [28, 30] 6 (fun q s28 s30 wr => ∃ j : Nat, Aside0 (j % 8 = 0) ∧ Aside0 (j + 8 * q ≤ m + 48 ∧ m + 8 ≤ j + 8 * q) ∧ j ≤ m ∧ s30 = .int .i64 j ∧ Aside0 (wr.ownsRow w.heap.size 24 1 s28 (w64 (ys.take j)).length (nums .u64 (w64 (ys.take j)))) ∧ Aside0 (wr.ownsRow w.heap.size 37 1 u27 n4 (nums .u32 (w32 ys))) ∧ Below w.heap.size w wr)
          case atStart => exact ⟨0, ⟨rfl⟩, ⟨by omega, by omega⟩, Nat.zero_le _, rfl, ⟨own_nil _ _ _ _⟩, ho4, hbw⟩
          case round =>
            clear hj hjm hj4 hjq hbw ho4
            obtain ⟨j, hj8, hjq, hjm, rfl, how, ho4, hbw⟩ := hrel
            by_cases hlt : j + 8 ≤ m
            · obtain ⟨A7, hcut, hA7⟩ := midI (P := Try.prog) 23 5 .i64 .i64 Try.underlying23 info5 A m c j 8 (j : Int) ((j : Int) + 8) rfl rfl hlt hmc
              have hr7 := hA7 _ _ _ (hry.below hbw)
              have hb7 := By.mid hby j 8
              obtain ⟨zs, hzs⟩ : ∃ zs, zs = (ys.drop j).take 8 := ⟨_, rfl⟩
              rw [← hzs] at hr7 hb7
              have Hzs := Lib.hid hzs
              clear hzs
              clear hA7
              go_wp2_with fail
              refine (counted_any A7 8 (c - j) _ _ hr7 hb7).mono ?_
              rintro e w7 ⟨rfl, rfl⟩
              have hl6 := w64_len ys j
              have hz6 := hbw.size
              go_wp2_with (at_builtin; go_must (refine print_append_num (w0 := w) w.heap.size rfl (.tmp 194) (.tmp 201) 36 24 .u64 8 rfl Try.underlying36 info24 (by omega) u28 (w64 (ys.take j)) _ rfl rfl how.out hbw hz6 (by omega) ?_); intro v' w' ho hb hg hat)
              have ew := w64_snoc (ys := ys) hj8.out (show j + 8 ≤ ys.length by have := hry.1; omega)
              have ho4' := own_other ho4.out hg (own_type_ne ho4.out how.out (by decide))
              go_roundg (gk - 1)
              case measure => have := hjq.out; omega
              case rel => exact ⟨j + 8, ⟨by have := hj8.out; omega⟩, ⟨by have := hjq.out; omega⟩, hlt, by go_num, ⟨by rw [ew, ← Hzs.out]; exact ho⟩, ⟨ho4'⟩, hb⟩
            · have hj : ¬ (j : Int) + 8 ≤ m := by omega
              have ew := w64_stop (ys := ys) hj8.out (by have := hry.1; omega) (show ys.length < j + 8 by have := hry.1; omega)
              obtain ⟨n8, hn8⟩ : ∃ n8, n8 = (w64 ys).length := ⟨_, rfl⟩
              have ho8 : wr.ownsRow w.heap.size 24 1 u28 n8 (nums .u64 (w64 ys)) := by rw [hn8, ← ew]; exact how.out
              have hn80 : n8 ≤ 40 := by have := w64_len ys ys.length; rw [List.take_length] at this; have := hry.1; omega
              have HN8 := Lib.hid hn8
              clear how ew hlt hn8
              go_wp2_with fail
              obtain ⟨A27, c27, rfl, hr27⟩ := own_reads ho4.out
              obtain ⟨A28, c28, rfl, hr28⟩ := own_reads ho8
              have hry1 := hry.below hbw
              refine (w32_any A m c _ _ hry1 hby hmc hm40).mono ?_
              rintro e w1 ⟨A31, k31, c31, rfl, hk31, hr31, hb1⟩
              obtain ⟨e4, he4⟩ : ∃ e4 : Int, (if m % 4 = 0 then 0 else 2) = e4 := ⟨_, rfl⟩
              rw [he4]
              have He4 := Lib.hid he4
              clear he4
              have hry2 := hry1.below hb1
              go_wp2_with fail
              refine (w64_any A m c _ _ hry2 hby hmc hm40).mono ?_
              rintro e w2 ⟨A32, k32, c32, rfl, hk32, hr32, hb2⟩
              obtain ⟨e8, he8⟩ : ∃ e8 : Int, (if m % 8 = 0 then 0 else 2) = e8 := ⟨_, rfl⟩
              rw [he8]
              have He8 := Lib.hid he8
              clear he8
              replace hr31 := hr31.below hb2
              replace hry2 := hry2.below hb2
              replace hr27 := (hr27.below hb1).below hb2
              replace hr28 := (hr28.below hb1).below hb2
              have hbw2 := below_step (below_step hbw hb1) hb2
              clear ho4 ho8 hry1 hbw hb1 hb2 hj hjm hj8 hjq
              go_upto_region 44 with fail
              go_cut [244] from 213 to 243 (fun s244 wx => s244 = .bool false ∧ w2 = wx)
              case first =>
                rcases mod_cases m with ⟨a, b⟩ | ⟨a, b⟩ | ⟨a, b⟩
                · obtain rfl : e4 = 0 := by have := He4.out; rw [if_pos a] at this; exact this.symm
                  obtain rfl : e8 = 0 := by have := He8.out; rw [if_pos b] at this; exact this.symm
                  have t4 : ((m : Int) % 4 == 0) = true := by rw [beq_iff_eq]; omega
                  have t8 : ((m : Int) % 8 == 0) = true := by rw [beq_iff_eq]; omega
                  clear a b
                  go_wp2_with fail
                  go_meet
                  case rel => exact ⟨rfl, rfl⟩
                · obtain rfl : e4 = 0 := by have := He4.out; rw [if_pos a] at this; exact this.symm
                  obtain rfl : e8 = 2 := by have := He8.out; rw [if_neg b] at this; exact this.symm
                  have t4 : ((m : Int) % 4 == 0) = true := by rw [beq_iff_eq]; omega
                  have t8 : ((m : Int) % 8 == 0) = false := by rw [beq_eq_false_iff_ne]; omega
                  clear a b
                  go_wp2_with fail
                  go_meet
                  case rel => exact ⟨rfl, rfl⟩
                · obtain rfl : e4 = 2 := by have := He4.out; rw [if_neg a] at this; exact this.symm
                  obtain rfl : e8 = 2 := by have := He8.out; rw [if_neg b] at this; exact this.symm
                  have t4 : ((m : Int) % 4 == 0) = false := by rw [beq_eq_false_iff_ne]; omega
                  have t8 : ((m : Int) % 8 == 0) = false := by rw [beq_eq_false_iff_ne]; omega
                  clear a b
                  go_wp2_with fail
                  go_meet
                  case rel => exact ⟨rfl, rfl⟩
              case rest =>
              obtain ⟨rfl, rfl⟩ := hcut
              go_upto_if 246 with fail
              go_cut [33] from 247 to 273 (fun s33 wx => Below w2.heap.size w2 wx)
              case first =>
                by_cases a : m % 4 = 0
                · obtain rfl : e4 = 0 := by have := He4.out; rw [if_pos a] at this; exact this.symm
                  rw [if_pos a] at hr31
                  obtain rfl : k31 = n4 := by have := hr31.1; have := HN4.out; omega
                  have eb := Lib.hid (b32_w32 hby (show ys.length % 4 = 0 by have := hry.1; omega))
                  clear a
                  go_wp2_with fail
                  refine (b32_any A27 k31 c27 _ _ hr27 hn40).mono ?_
                  rintro e w3 ⟨A33, k33, c33, rfl, hk33, hr33, hb3⟩
                  go_wp2_with fail
                  refine (same_any A33 A k33 c33 m c _ _ _ hr33 (hry2.below hb3) (by rw [eb.out]; exact hby) hby).mono ?_
                  rintro e w4 ⟨rfl, rfl⟩
                  rw [eb.out]
                  simp only [decide_true]
                  replace hr27 := hr27.below hb3
                  replace hr31 := hr31.below hb3
                  clear hr33 eb hry2 hr28 hr32 hry
                  go_wp2_with fail
                  go_loopg [261] k31 (fun q s261 wr => ∃ j : Nat, Aside0 (j + q = k31) ∧ s261 = .int .i64 j ∧ j ≤ k31 ∧ Aside0 (Below w2.heap.size w2 wr) ∧ ReadsInt wr .u32 A27 k31 (w32 ys) ∧ ReadsInt wr .u32 A31 k31 (w32 ys))
                  case atStart => exact ⟨0, ⟨by omega⟩, rfl, Nat.zero_le _, ⟨hb3⟩, hr27, hr31⟩
                  case round =>
                    clear hr27 hr31
                    obtain ⟨j, hjq, rfl, hjk, hbx, hr27, hr31⟩ := hrel
                    by_cases hlt : j < k31
                    · obtain ⟨ad, rfl, hc27⟩ := hr27.2.2 (by omega)
                      obtain ⟨ad', rfl, hc31⟩ := hr31.2.2 (by omega)
                      have g1 := hc27 j hlt
                      have g2 := hc31 j hlt
                      have R1 := Lib.hid hr27
                      have R2 := Lib.hid hr31
                      clear hc27 hc31 hr27 hr31
                      obtain ⟨z, hz⟩ : ∃ z, z = (w32 ys).getD j 0 := ⟨_, rfl⟩
                      rw [← hz] at g1 g2
                      clear hz
                      go_wp2_with fail
                      go_quiet (fail)
                      go_wp2_with fail
                      go_roundg (gk - 1)
                      case measure => have := hjq.out; omega
                      case rel => exact ⟨j + 1, ⟨by have := hjq.out; omega⟩, by go_num, by omega, ⟨pw_below_drewN hbx.out _⟩, R1.out.drewN _, R2.out.drewN _⟩
                    · obtain rfl : j = k31 := by omega
                      go_wp2_with fail
                      go_meet
                      case rel => exact hbx.out
                · obtain rfl : e4 = 2 := by have := He4.out; rw [if_neg a] at this; exact this.symm
                  clear a
                  go_wp2_with fail
                  go_meet
                  case rel => exact Below.refl _ _
              case rest =>
              rename Below w2.heap.size w2 wc => hbx
              replace hr32 := hr32.below hbx
              replace hr28 := hr28.below hbx
              replace hry2 := hry2.below hbx
              have hbw3 := below_step hbw2 hbx
              clear hbx hbw2 hr27 hr31
              obtain ⟨w3, rfl⟩ : ∃ w3 : World, w3 = wc := ⟨_, rfl⟩
              go_upto_if 275 with fail
              go_cut [34] from 276 to 302 (fun s34 wx => Below w3.heap.size w3 wx)
              case first =>
                by_cases a : m % 8 = 0
                · obtain rfl : e8 = 0 := by have := He8.out; rw [if_pos a] at this; exact this.symm
                  rw [if_pos a] at hr32
                  obtain rfl : k32 = n8 := by have := hr32.1; have := HN8.out; omega
                  have eb := Lib.hid (b64_w64 hby (show ys.length % 8 = 0 by have := hry.1; omega))
                  clear a
                  go_wp2_with fail
                  refine (b64_any A28 k32 c28 _ _ hr28 hn80).mono ?_
                  rintro e w4 ⟨A33, k33, c33, rfl, hk33, hr33, hb3⟩
                  go_wp2_with fail
                  refine (same_any A33 A k33 c33 m c _ _ _ hr33 (hry2.below hb3) (by rw [eb.out]; exact hby) hby).mono ?_
                  rintro e w5 ⟨rfl, rfl⟩
                  rw [eb.out]
                  simp only [decide_true]
                  replace hr28 := hr28.below hb3
                  replace hr32 := hr32.below hb3
                  clear hr33 eb hry2 hry
                  go_wp2_with fail
                  go_loopg [290] k32 (fun q s290 wr => ∃ j : Nat, Aside0 (j + q = k32) ∧ s290 = .int .i64 j ∧ j ≤ k32 ∧ Aside0 (Below w3.heap.size w3 wr) ∧ ReadsInt wr .u64 A28 k32 (w64 ys) ∧ ReadsInt wr .u64 A32 k32 (w64 ys))
                  case atStart => exact ⟨0, ⟨by omega⟩, rfl, Nat.zero_le _, ⟨hb3⟩, hr28, hr32⟩
                  case round =>
                    clear hr28 hr32
                    obtain ⟨j, hjq, rfl, hjk, hbx, hr28, hr32⟩ := hrel
                    by_cases hlt : j < k32
                    · obtain ⟨ad, rfl, hc28⟩ := hr28.2.2 (by omega)
                      obtain ⟨ad', rfl, hc32⟩ := hr32.2.2 (by omega)
                      have g1 := hc28 j hlt
                      have g2 := hc32 j hlt
                      have R1 := Lib.hid hr28
                      have R2 := Lib.hid hr32
                      clear hc28 hc32 hr28 hr32
                      obtain ⟨z, hz⟩ : ∃ z, z = (w64 ys).getD j 0 := ⟨_, rfl⟩
                      rw [← hz] at g1 g2
                      clear hz
                      go_wp2_with fail
                      go_quiet (fail)
                      go_wp2_with fail
                      go_roundg (gk - 1)
                      case measure => have := hjq.out; omega
                      case rel => exact ⟨j + 1, ⟨by have := hjq.out; omega⟩, by go_num, by omega, ⟨pw_below_drewN hbx.out _⟩, R1.out.drewN _, R2.out.drewN _⟩
                    · obtain rfl : j = k32 := by omega
                      go_wp2_with fail
                      go_meet
                      case rel => exact hbx.out
                · obtain rfl : e8 = 2 := by have := He8.out; rw [if_neg a] at this; exact this.symm
                  clear a
                  go_wp2_with fail
                  go_meet
                  case rel => exact Below.refl _ _
              case rest =>
              rename Below w3.heap.size w3 wc => hbx
              have hbw4 := below_step hbw3 hbx
              clear hbw3 hbx hr28 hr32 hry2
              go_wp2_with fail
              refine (stands_any _).mono ?_
              rintro e w6 ⟨rfl, hb6⟩
              have hbw5 := below_step hbw4 hb6
              go_wp2_with fail
              go_ret
              exact ⟨rfl, hbw5⟩
theorem walk (a0 a1 : Int) (a2 : Option Addr) (len2 cap2 : Nat) (z2 : List Int) (w : World) (w0 : (Lit.int .i64 a0).wf = true) (w1 : (Lit.int .i8 a1).wf = true)
    (w2 : (a2 = none ∧ len2 = 0 ∧ cap2 = 0 ∧ z2 = []) ∨ ∃ x, a2 = some x ∧ len2 ≤ cap2 ∧ cap2 ≤ maxLen ∧ z2.length = cap2 ∧ (∀ i, i < z2.length → w.cell? (x.add i) = some (.int .u8 (z2.getD i 0))) ∧ ∀ n ∈ z2, (Lit.int .u8 n).wf = true) (_y2 : len2 * 1 ≤ 140737488351232) :
    Calls Try.prog 3 #[.int .i64 a0, .int .i8 a1, .slice a2 len2 cap2] w fun e w' => e = .returned (.bool true) ∧ Below w.heap.size w w' := by
  obtain ⟨l, rfl, hr, hm, hw, hc⟩ := ReadsInt.ofRowC w2
  have b0 := bounds_i64 w0
  have b1 := bounds_i8 w1
  exact top a2 l.length cap2 l w a0 a1 hr (fun x hx => by have := bounds_u8 (hw x hx); omega) hc (by omega) (by omega) (by omega) (by omega)
end Go.Proofs.Ytmegbgnfkgebbaa.T2
