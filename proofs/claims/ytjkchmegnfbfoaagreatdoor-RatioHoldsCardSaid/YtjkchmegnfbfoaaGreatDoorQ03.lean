/- limb over whole numbers: sums of two, differences. limb: the Int of a word; a magnitude's bit; twice a magnitude. DERIVED: THE SHELF's CONTRACTS AT THIS DUMP, IN PLAIN WORDS (tools/lay-plain.mjs out of 'TryzShelf.lean', which tools/lay-shelf.mjs wrote): THE SAME DECLARATIONS UNDER THE SAME NAMES: 'import', 'namespace', 'open', 'def', 'theorem' AND NOTHING ELSE: no command of the shelf's: FOR A HAND-IN. Each laying: the table of numbers ('.._ren') and one theorem, a field a fact of the dump's own or the kernel's comparison; each contract: ONE APPLICATION. The highest bit of a magnitude: slices.Backward's contract, and the walk over it. The place behind a magnitude's highest bit. limb: the quotient of magnitudes, and what is left. limb: a sum that is too great; differences; the greatest common divisor. The end of a function that defers limb.caught. limb: quotients. ratio: what is given up with; the Int of a wide number. ratio: the Rat of two wide numbers. limb: the greatest common divisor of what may not be. -/
import Derived.Test.YtjkchmegnfbfoaaGreatDoorProg
import Derived.Test.YtjkchmegnfbfoaaGreatDoorQ02
import Derived.Shelf.Strconv.Itoa0
import Derived.Shelf.Strings.Search1
import Derived.Shelf.Strings.Search2
import Derived.Shelf.Strings.Cut
import Derived.Shelf.LaysM
import Derived.Shelf.Strings.Shaped
import Derived.Shelf.Bits.Mul64
import Derived.RangeFuncNested
import Derived.RangeFuncBound
import Derived.RangeFuncCalls
import Derived.RangeFuncLeaves
import Derived.RangeFuncBox
import Derived.Shelf.Abstract
import Derived.WalkKit
import Derived.OwnWalkIn
import Derived.TacticsInMore
import Derived.LoopNIn
import Derived.LoopIn
import Derived.Deep.RegionWith
namespace Go.Proofs.YtjkchmegnfbfoaaGreatDoor
open Go Go.RowKit
set_option linter.unusedSimpArgs false
set_option linter.unusedVariables false
set_option maxRecDepth 100000

/-- The Int of a whole number. -/
abbrev intZ (z : Int) : Value := intV (decide (z < 0)) z.natAbs
theorem badI_z (z : Int) : badI (decide (z < 0)) z.natAbs = false := by
  unfold badI
  by_cases h : z < 0
  · have : ¬ z.natAbs = 0 := by omega
    simp [this]
  · simp [h]
theorem intV_eq {s s' : Bool} {m m' : Nat} (h1 : s = s') (h2 : m = m') : intV s m = intV s' m' := by rw [h1, h2]

theorem sum_z (x y : Int) (hx : x.natAbs < B4) (hy : y.natAbs < B4) (h : (x + y).natAbs < B4) (w : World) :
    Calls Tryz.prog 78 #[intZ x, intZ y] w fun e w' => e = .returned (intZ (x + y)) ∧ Ext w w' := by
  by_cases hx0 : x < 0 <;> by_cases hy0 : y < 0
  · have := sum_same true x.natAbs y.natAbs hx hy (by omega) w
    rw [show intZ x = intV true x.natAbs by simp [intZ, hx0], show intZ y = intV true y.natAbs by simp [intZ, hy0]]
    refine this.mono fun e w' ⟨he, hw⟩ => ⟨he.trans (congrArg Ending.returned (intV_eq ?_ (by omega))), hw⟩
    have h1 : ¬ x.natAbs + y.natAbs = 0 := by omega
    have h2 : x + y < 0 := by omega
    simp [h2]; omega
  · have e1 : intZ x = intV true x.natAbs := by simp [intZ, hx0]
    have e2 : intZ y = intV (!true) y.natAbs := by simp [intZ, hy0]
    rw [e1, e2]
    by_cases hc : y.natAbs ≤ x.natAbs
    · have := sum_ge true x.natAbs y.natAbs hx hy hc w
      refine this.mono fun e w' ⟨he, hw⟩ => ⟨he.trans (congrArg Ending.returned (intV_eq ?_ (by omega))), hw⟩
      by_cases h0 : x.natAbs - y.natAbs = 0
      · have : ¬ x + y < 0 := by omega
        simp [h0, this]
      · have : x + y < 0 := by omega
        simp [this]; omega
    · have := sum_lt true x.natAbs y.natAbs hx hy (by omega) w
      refine this.mono fun e w' ⟨he, hw⟩ => ⟨he.trans (congrArg Ending.returned (intV_eq ?_ (by omega))), hw⟩
      have : ¬ x + y < 0 := by omega
      simp [this]
  · have e1 : intZ x = intV false x.natAbs := by simp [intZ, hx0]
    have e2 : intZ y = intV (!false) y.natAbs := by simp [intZ, hy0]
    rw [e1, e2]
    by_cases hc : y.natAbs ≤ x.natAbs
    · have := sum_ge false x.natAbs y.natAbs hx hy hc w
      refine this.mono fun e w' ⟨he, hw⟩ => ⟨he.trans (congrArg Ending.returned (intV_eq ?_ (by omega))), hw⟩
      have : ¬ x + y < 0 := by omega
      simp [this]
    · have := sum_lt false x.natAbs y.natAbs hx hy (by omega) w
      refine this.mono fun e w' ⟨he, hw⟩ => ⟨he.trans (congrArg Ending.returned (intV_eq ?_ (by omega))), hw⟩
      have : x + y < 0 := by omega
      simp [this]; omega
  · have := sum_same false x.natAbs y.natAbs hx hy (by omega) w
    rw [show intZ x = intV false x.natAbs by simp [intZ, hx0], show intZ y = intV false y.natAbs by simp [intZ, hy0]]
    refine this.mono fun e w' ⟨he, hw⟩ => ⟨he.trans (congrArg Ending.returned (intV_eq ?_ (by omega))), hw⟩
    have h2 : ¬ x + y < 0 := by omega
    simp [h2]
theorem sum_zno (x y : Int) (hx : x.natAbs < B4) (hy : y.natAbs < B4) (h : ¬ (x + y).natAbs < B4) (w : World) :
    Calls Tryz.prog 78 #[intZ x, intZ y] w fun e w' => e = givesUp 110 ∧ Ext w w' := by
  by_cases hx0 : x < 0 <;> by_cases hy0 : y < 0
  · rw [show intZ x = intV true x.natAbs by simp [intZ, hx0], show intZ y = intV true y.natAbs by simp [intZ, hy0]]
    exact sum_over true x.natAbs y.natAbs hx hy (by omega) w
  · omega
  · omega
  · rw [show intZ x = intV false x.natAbs by simp [intZ, hx0], show intZ y = intV false y.natAbs by simp [intZ, hy0]]
    exact sum_over false x.natAbs y.natAbs hx hy (by omega) w
theorem Neg_z (x : Int) (hx : x.natAbs < B4) (w : World) :
    Calls Tryz.prog 100 #[intZ x] w fun e w' => e = .returned (.tuple #[intZ (-x), .int .i64 0]) ∧ Ext w w' := by
  refine (Neg_yes _ _ hx (badI_z x) w).mono fun e w' ⟨he, hw⟩ => ⟨he.trans (congrArg Ending.returned ?_), hw⟩
  have : intV (!decide (x < 0) && !decide (x.natAbs = 0)) x.natAbs = intZ (-x) := by
    refine intV_eq ?_ (by omega)
    by_cases h : x < 0
    · have h2 : ¬ -x < 0 := by omega
      simp [h, h2]; omega
    · by_cases h0 : x = 0
      · simp [h0]
      · have h2 : -x < 0 := by omega
        have h3 : ¬ x.natAbs = 0 := by omega
        simp [h, h2, h0]; omega
  rw [this]

set_option maxHeartbeats 8000000 in
theorem Add2_yes (x y : Int) (hx : x.natAbs < B4) (hy : y.natAbs < B4) (h : (x + y).natAbs < B4) (w : World) (b cap : Nat) (i1 : IntAt w b 0 (decide (x < 0)) x.natAbs) (i2 : IntAt w b 5 (decide (y < 0)) y.natAbs) :
    Calls Tryz.prog 37 #[.slice (some ⟨b, 0, none⟩) 2 cap] w fun e w' => e = .returned (.tuple #[intZ (x + y), .int .i64 0]) ∧ Ext w w' := by
  have hmf : ∀ (fn : Fn) (first cap : Array Value) (w : World), (Instr.makeFunc fn first cap).run Tryz.prog w = .ok (.func fn first cap) w := fun _ _ _ _ => rfl
  have cr := fun w' (i1 : IntAt w' b 0 (decide (x < 0)) x.natAbs) i2 => right2_yes _ _ _ _ hx hy (badI_z x) (badI_z y) w' b cap i1 i2
  have s1 := sum_z 0 x (by simp; exact B4_pos) hx (by rw [Int.zero_add]; exact hx)
  rw [Int.zero_add] at s1
  have s2 := sum_z x y hx hy h
  have z0 : ∀ k, ((wn 0 k : Nat) : Int) = 0 := fun k => by rw [wn_zero]; rfl
  simp only [Int.natAbs_zero, intZ, z0, Int.lt_irrefl, decide_false] at s1
  simp only [intZ] at s2 ⊢
  obtain ⟨hb, c0, c1, c2, c3, c4⟩ := i1
  obtain ⟨_, e0, e1, e2, e3, e4⟩ := i2
  have j1 : IntAt w b 0 (decide (x < 0)) x.natAbs := ⟨hb, c0, c1, c2, c3, c4⟩
  have j2 : IntAt w b 5 (decide (y < 0)) y.natAbs := ⟨hb, e0, e1, e2, e3, e4⟩
  generalize decide (x < 0) = sx at *
  generalize decide (y < 0) = sy at *
  generalize decide (x + y < 0) = sz at *
  generalize (x + y).natAbs = mz at *
  generalize x.natAbs = mx at *
  generalize y.natAbs = my at *
  have hb1 : b < w.heap.size + 1 := by omega
  have hb2 : b < w.heap.size + 1 + 1 := by omega
  have hb3 : b < w.heap.size + 1 + 1 + 1 := by omega
  go_enter_defers Tryz.func37, Tryz.ntmps37
  go_wp2_with (go_at_call 77; refine (cr _ ((j1.alloc _).alloc _) ((j2.alloc _).alloc _)).mono ?_; rintro e w' ⟨rfl, d, rfl⟩)
  refine wp_loop_rounds 3 ?_
  rw [rounds_succ]
  go_wp2_with (go_at_call 78; refine (s1 _).mono ?_; rintro e w' ⟨rfl, d, rfl⟩; simp only [grow_alloc_grow])
  rw [rounds_succ]
  go_wp2_with (go_at_call 78; refine (s2 _).mono ?_; rintro e w' ⟨rfl, d, rfl⟩; simp only [grow_alloc_grow])
  rw [rounds_succ]
  go_wp2
  refine leaves_cons (f := 75) (args := #[.pointer (some ⟨w.heap.size + 1, 0, none⟩), .func (.func 76) #[] #[.pointer (some ⟨w.heap.size, 0, none⟩)]]) (by simp) (by simp [go_sem]) ?_
  refine (caught_idle _ _ _).mono ?_
  rintro e u' w'' ⟨rfl, rfl, rfl⟩
  simp [Leaves, settle, results, Tryz.results37, go_sem]
  exact (by repeat (first | (with_reducible exact Ext.refl _) | (with_reducible assumption) | (with_reducible apply Ext.grow) | (with_reducible apply Ext.alloc) | (with_reducible apply Ext.drew) | ((with_reducible apply Ext.set); (case hb => (first | omega | (simp; omega))))))
end Go.Proofs.YtjkchmegnfbfoaaGreatDoor

namespace Go.Proofs.YtjkchmegnfbfoaaGreatDoor
open Go Go.RowKit
set_option linter.unusedSimpArgs false
set_option linter.unusedVariables false
set_option maxRecDepth 100000

theorem B4_pow : B ^ 4 = B4 := rfl
theorem B_lt_B4 : B < B4 := by
  have h : B ^ 1 < B ^ 4 := Nat.pow_lt_pow_right (by rw [B_eq]; decide) (by decide)
  rwa [Nat.pow_one] at h
theorem magV_small (k : Nat) (hk : k < B) : magV k = .agg #[.int .u64 (k : Int), .int .u64 0, .int .u64 0, .int .u64 0] := by
  have h0 : wn k 0 = k := by unfold wn; simp; exact Nat.mod_eq_of_lt hk
  have h : ∀ i, 0 < i → wn k i = 0 := fun i hi => by
    unfold wn
    rw [Nat.div_eq_of_lt]; · simp
    exact Nat.lt_of_lt_of_le hk (Nat.le_self_pow (by omega) _)
  simp only [magV, h0, h 1 (by decide), h 2 (by decide), h 3 (by decide)]; rfl

set_option maxHeartbeats 2000000 in
theorem Of_nat (k : Nat) (hk : k < 9223372036854775808) (w : World) :
    Calls Tryz.prog 38 #[.int .i64 (k : Int)] w fun e w' => e = .returned (intV false k) ∧ Ext w w' := by
  have hB : k < B := by rw [B_eq]; omega
  have hB4 : k < B4 := by have := B_lt_B4; omega
  have c := of_any false k hB4
  rw [magV_small k hB, Bool.false_and] at c
  have h0 : decide ((k : Int) < 0) = false := by simp
  have h1 : IntKind.u64.wrap (k : Int) = (k : Int) := by rw [IntKind.wrap_u64]; omega
  clear hB hB4
  go_enter Tryz.func38, Tryz.ntmps38
  go_wp2_with (go_at_call 79; refine (c _).mono ?_; rintro e w' ⟨rfl, d, rfl⟩)
  exact bodyPost_ret (v := intV false k) (by simp [results, Tryz.results38, go_sem]) rfl ⟨rfl, (by repeat (first | (with_reducible exact Ext.refl _) | (with_reducible assumption) | (with_reducible apply Ext.grow) | (with_reducible apply Ext.alloc) | (with_reducible apply Ext.drew) | ((with_reducible apply Ext.set); (case hb => (first | omega | (simp; omega))))))⟩

set_option maxHeartbeats 2000000 in
theorem Of_neg (k : Nat) (hk : k ≤ 9223372036854775808) (h0 : 0 < k) (w : World) :
    Calls Tryz.prog 38 #[.int .i64 (-(k : Int))] w fun e w' => e = .returned (intV true k) ∧ Ext w w' := by
  have hB : k < B := by rw [B_eq]; omega
  have hB4 : k < B4 := by have := B_lt_B4; omega
  have c := of_any true k hB4
  rw [magV_small k hB, show decide (k = 0) = false by simp; omega] at c
  have h0 : decide (-(k : Int) < 0) = true := by simp; omega
  have h1 : IntKind.u64.wrap (-(k : Int)) = 18446744073709551616 - (k : Int) := by rw [IntKind.wrap_u64]; omega
  have h2 : IntKind.u64.wrap (-(18446744073709551616 - (k : Int))) = (k : Int) := by rw [IntKind.wrap_u64]; omega
  clear hB hB4
  go_enter Tryz.func38, Tryz.ntmps38
  go_wp2_with (go_at_call 79; refine (c _).mono ?_; rintro e w' ⟨rfl, d, rfl⟩)
  exact bodyPost_ret (v := intV true k) (by simp [results, Tryz.results38, go_sem]) rfl ⟨rfl, (by repeat (first | (with_reducible exact Ext.refl _) | (with_reducible assumption) | (with_reducible apply Ext.grow) | (with_reducible apply Ext.alloc) | (with_reducible apply Ext.drew) | ((with_reducible apply Ext.set); (case hb => (first | omega | (simp; omega))))))⟩

set_option maxHeartbeats 2000000 in
theorem bit_any (a i : Nat) (hi : i < 256) (w : World) :
    Calls Tryz.prog 123 #[magV a, .int .i64 (i : Int)] w fun e w' => e = .returned (q64 (bitn a i)) ∧ Ext w w' := by
  have hb := and_bit a i
  have h9 : ((i : Int) % 64).toNat = i % 64 := by omega
  have h11 : ((i : Int)).tmod 64 = (i : Int) % 64 := by rw [Int.tmod_eq_emod_of_nonneg (by omega)]
  have h10 : 0 ≤ (i : Int) % 64 := by omega
  have h3 : min (i % 64) 64 = i % 64 := by omega
  rcases (by omega : i / 64 = 0 ∨ i / 64 = 1 ∨ i / 64 = 2 ∨ i / 64 = 3) with h | h | h | h
  all_goals
    rw [h] at hb
    have h7 : (i : Int) / 64 = ((i / 64 : Nat) : Int) := by omega
    rw [h] at h7
    clear h
    go_enter Tryz.func123, Tryz.ntmps123
    go_wp2
    go_ret
    exact ⟨rfl, (by repeat (first | (with_reducible exact Ext.refl _) | (with_reducible assumption) | (with_reducible apply Ext.grow) | (with_reducible apply Ext.alloc) | (with_reducible apply Ext.drew) | ((with_reducible apply Ext.set); (case hb => (first | omega | (simp; omega))))))⟩

def hi63 (x : Nat) : Nat := x / 9223372036854775808
theorem hi63_cast (x : Nat) : (x : Int) / 9223372036854775808 = ((hi63 x : Nat) : Int) := by unfold hi63; omega
theorem hi63_le (x : Nat) (h : x < B) : hi63 x ≤ 1 := by rw [B_eq] at h; unfold hi63; omega
theorem dbl64 (y c : Nat) (hy : y < B) (hc : c ≤ 1) : bits .or .u64 (IntKind.u64.wrap ((y : Int) * 2)) (c : Int) = ((2 * y % B + c : Nat) : Int) := by
  rw [B_eq] at hy
  have e1 : IntKind.u64.wrap ((y : Int) * 2) = (((2 * y % 18446744073709551616 : Nat) : Nat) : Int) := by
    rw [IntKind.wrap_u64]; omega
  rw [e1, or_even _ c (by rw [B_eq]; omega) (by omega) hc, B_eq]
/-- The carry into the i-th word of 2 a + c. -/
def dcy (a c i : Nat) : Nat := (2 * (a % B ^ i) + c) / B ^ i
theorem dbl_div (a c i : Nat) : (2 * a + c) / B ^ i = 2 * (a / B ^ i) + dcy a c i := by
  have hp : 0 < B ^ i := Nat.pow_pos B_pos
  unfold dcy
  conv => lhs; rw [← Nat.div_add_mod a (B ^ i)]
  rw [show 2 * (B ^ i * (a / B ^ i) + a % B ^ i) + c = 2 * (a % B ^ i) + c + B ^ i * (2 * (a / B ^ i)) by grind, Nat.add_mul_div_left _ _ hp]
  omega
theorem dcy_le (a c i : Nat) (hc : c ≤ 1) : dcy a c i ≤ 1 := by
  have hp : 0 < B ^ i := Nat.pow_pos B_pos
  have hm := Nat.mod_lt a hp
  unfold dcy
  have : (2 * (a % B ^ i) + c) / B ^ i < 2 := by rw [Nat.div_lt_iff_lt_mul hp]; omega
  omega
theorem dbl_word (a c i : Nat) (hc : c ≤ 1) : wn (2 * a + c) i = 2 * wn a i % B + dcy a c i := by
  have := dcy_le a c i hc
  unfold wn
  rw [dbl_div]
  generalize a / B ^ i = q at *
  generalize dcy a c i = e at *
  rw [B_eq]; omega
theorem dcy_zero (a c : Nat) : dcy a c 0 = c := by unfold dcy; simp [Nat.mod_one]
theorem dcy_succ (a c i : Nat) (hc : c ≤ 1) : dcy a c (i + 1) = hi63 (wn a i) := by
  have h1 := dbl_div a c (i + 1)
  have h2 := dbl_div a c i
  have h3 := dcy_le a c i hc
  rw [Nat.pow_succ, ← Nat.div_div_eq_div_mul, ← Nat.div_div_eq_div_mul, h2] at h1
  unfold hi63 wn
  generalize a / B ^ i = q at *
  generalize dcy a c i = e at *
  generalize dcy a c (i + 1) = f at *
  rw [B_eq] at *; omega
theorem dbl_top (a c : Nat) (hc : c ≤ 1) (ha : a < B4) : hi63 (wn a 3) = (2 * a + c) / B4 := by
  have h : dcy a c 4 = hi63 (wn a 3) := dcy_succ a c 3 hc
  rw [← h, ← B4_pow, dbl_div, Nat.div_eq_of_lt (by rw [B4_pow]; exact ha)]; omega

set_option maxHeartbeats 4000000 in
theorem doubled_any (a c : Nat) (ha : a < B4) (hc : c ≤ 1) (w : World) :
    Calls Tryz.prog 122 #[magV a, q64 c] w fun e w' => e = .returned (.tuple #[magV (2 * a + c), q64 ((2 * a + c) / B4)]) ∧ Ext w w' := by
  have o0 := dbl64 (wn a 0) c (wn_lt _ _) hc
  have o1 := dbl64 (wn a 1) (hi63 (wn a 0)) (wn_lt _ _) (hi63_le _ (wn_lt _ _))
  have o2 := dbl64 (wn a 2) (hi63 (wn a 1)) (wn_lt _ _) (hi63_le _ (wn_lt _ _))
  have o3 := dbl64 (wn a 3) (hi63 (wn a 2)) (wn_lt _ _) (hi63_le _ (wn_lt _ _))
  have e0 := dbl_word a c 0 hc
  have e1 := dbl_word a c 1 hc
  have e2 := dbl_word a c 2 hc
  have e3 := dbl_word a c 3 hc
  rw [dcy_zero] at e0
  rw [dcy_succ a c 0 hc] at e1
  rw [dcy_succ a c 1 hc] at e2
  rw [dcy_succ a c 2 hc] at e3
  rw [← e0] at o0
  rw [← e1] at o1
  rw [← e2] at o2
  rw [← e3] at o3
  have k0 := hi63_cast (wn a 0)
  have k1 := hi63_cast (wn a 1)
  have k2 := hi63_cast (wn a 2)
  have k3 := hi63_cast (wn a 3)
  rw [dbl_top a c hc ha] at k3
  clear e0 e1 e2 e3 ha hc
  generalize 2 * a + c = d at *
  generalize d / B4 = t at *
  have x0 : ∀ w, (Instr.index 109 (magV a) (.int .i64 0)).run Tryz.prog w = .ok (q64 (wn a 0)) w := fun w => by kernel_rfl
  have x1 : ∀ w, (Instr.index 109 (magV a) (.int .i64 1)).run Tryz.prog w = .ok (q64 (wn a 1)) w := fun w => by kernel_rfl
  have x2 : ∀ w, (Instr.index 109 (magV a) (.int .i64 2)).run Tryz.prog w = .ok (q64 (wn a 2)) w := fun w => by kernel_rfl
  have x3 : ∀ w, (Instr.index 109 (magV a) (.int .i64 3)).run Tryz.prog w = .ok (q64 (wn a 3)) w := fun w => by kernel_rfl
  go_enter Tryz.func122, Tryz.ntmps122
  go_wp2
  refine wp_loop_rounds 5 ?_
  iterate 4 (rw [rounds_succ]; go_wp2)
  rw [rounds_succ]
  go_wp2
  exact bodyPost_ret (v := .tuple #[magV d, q64 t]) (by simp [results, Tryz.results122, go_sem]) rfl ⟨rfl, (by repeat (first | (with_reducible exact Ext.refl _) | (with_reducible assumption) | (with_reducible apply Ext.grow) | (with_reducible apply Ext.alloc) | (with_reducible apply Ext.drew) | ((with_reducible apply Ext.set); (case hb => (first | omega | (simp; omega))))))⟩
end Go.Proofs.YtjkchmegnfbfoaaGreatDoor

namespace Go.Proofs
open Go.Shelf
def Tryz.lays129_ren : Go.Shelf.Ren := ⟨fun | 129 => 132 | n => n, fun | 53 => 22 | 3 => 3 | 4 => 4 | 46 => 93 | 5 => 5 | 9 => 9 | n => n, fun | n => n⟩
theorem Tryz.lays129 : Go.Proofs.Lays.n129 Tryz.prog Tryz.lays129_ren := {
  mixed := by kernel_rfl
  f129 := Tryz.func132.trans (congrArg some (by kernel_rfl))
  t3 := Tryz.underlying3
  a3 := Tryz.isAgg3
  z3 := Tryz.sizeOf3
  v3 := Tryz.zeroValue3
  t4 := Tryz.underlying4
  a4 := Tryz.isAgg4
  z4 := Tryz.sizeOf4
  v4 := Tryz.zeroValue4
  t5 := Tryz.underlying5
  a5 := Tryz.isAgg5
  z5 := Tryz.sizeOf5
  v5 := Tryz.zeroValue5
  t9 := Tryz.underlying9
  a9 := Tryz.isAgg9
  z9 := Tryz.sizeOf9
  v9 := Tryz.zeroValue9
  t46 := Tryz.underlying93
  a46 := Tryz.isAgg93
  z46 := Tryz.sizeOf93
  v46 := Tryz.zeroValue93
  t53 := Tryz.underlying22
  a53 := Tryz.isAgg22
  z53 := Tryz.sizeOf22
  v53 := Tryz.zeroValue22 }
/-- bits.Len64: "Len64 returns the minimum number of bits required to represent x; the result is 0 for x == 0.": IT RETURNS 'Lib.bitLen x'; the world is as it was. ('h0', 'h1': x is a uint64.) (LAID: no walk: one application.) -/
theorem Tryz.bits_Len64 (x : Int) (w : World) (h0 : 0 ≤ x) (h1 : x ≤ 18446744073709551615) :
    Calls Tryz.prog 132 #[.int .u64 x] w fun e w' => e = .returned (.int .i64 (Lib.bitLen x.toNat)) ∧ w' = w := Any.bits_Len64 Tryz.lays129 x w h0 h1
def Tryz.lays217_ren : Go.Shelf.Ren := ⟨fun | 217 => 138 | 266 => 142 | n => n, fun | 9 => 9 | 5 => 5 | 3 => 3 | n => n, fun | n => n⟩
theorem Tryz.lays217 : Go.Proofs.Lays.n217 Tryz.prog Tryz.lays217_ren := {
  mixed := by kernel_rfl
  f217 := Tryz.func138.trans (congrArg some (by kernel_rfl))
  f266 := Tryz.func142.trans (congrArg some (by kernel_rfl))
  t3 := Tryz.underlying3
  a3 := Tryz.isAgg3
  z3 := Tryz.sizeOf3
  v3 := Tryz.zeroValue3
  t5 := Tryz.underlying5
  a5 := Tryz.isAgg5
  z5 := Tryz.sizeOf5
  v5 := Tryz.zeroValue5
  t9 := Tryz.underlying9
  a9 := Tryz.isAgg9
  z9 := Tryz.sizeOf9
  v9 := Tryz.zeroValue9 }
open Go.RowKit Go.Lib in
/-- internal/stringslite.IndexByte (what strings.IndexByte calls): IT RETURNS 'Lib.indexByte s c'; the world is as it was. (LAID: no walk: one application.) -/
theorem Tryz.stringslite_IndexByte (s : ByteArray) (c : Int) (w : World) :
    Calls Tryz.prog 138 #[.string s, .int .u8 c] w fun e w' => e = .returned (.int .i64 (Lib.indexByte s.data.toList c.toNat.toUInt8)) ∧ w' = w := Any.stringslite_IndexByte Tryz.lays217 s c w
def Tryz.lays224_ren : Go.Shelf.Ren := ⟨fun | 224 => 140 | n => n, fun | 3 => 3 | n => n, fun | n => n⟩
theorem Tryz.lays224 : Go.Proofs.Lays.n224 Tryz.prog Tryz.lays224_ren := {
  mixed := by kernel_rfl
  f224 := Tryz.func140.trans (congrArg some (by kernel_rfl))
  t3 := Tryz.underlying3
  a3 := Tryz.isAgg3
  z3 := Tryz.sizeOf3
  v3 := Tryz.zeroValue3 }
open Go.RowKit Go.Lib in
/-- internal/bytealg.Cutover: "Cutover reports the number of failures of IndexByte we should tolerate before switching over to Index. n is the number of bytes processed so far.": on amd64: (n + 16) / 8. (LAID: no walk: one application.) -/
theorem Tryz.bytealg_Cutover (n : Int) (h0 : 0 ≤ n) (h1 : n < 4611686018427387904) (w : World) :
    Calls Tryz.prog 140 #[.int .i64 n] w fun e w' => e = .returned (.int .i64 ((n + 16) / 8)) ∧ w' = w := Any.bytealg_Cutover Tryz.lays224 n h0 h1 w
def Tryz.lays314_ren : Go.Shelf.Ren := ⟨fun | 314 => 143 | n => n, fun | 9 => 9 | 51 => 168 | 3 => 3 | 4 => 4 | 5 => 5 | 46 => 93 | n => n, fun | n => n⟩
theorem Tryz.lays314 : Go.Proofs.Lays.n314 Tryz.prog Tryz.lays314_ren := {
  mixed := by kernel_rfl
  f314 := Tryz.func143.trans (congrArg some (by kernel_rfl))
  t3 := Tryz.underlying3
  a3 := Tryz.isAgg3
  z3 := Tryz.sizeOf3
  v3 := Tryz.zeroValue3
  t4 := Tryz.underlying4
  a4 := Tryz.isAgg4
  z4 := Tryz.sizeOf4
  v4 := Tryz.zeroValue4
  t5 := Tryz.underlying5
  a5 := Tryz.isAgg5
  z5 := Tryz.sizeOf5
  v5 := Tryz.zeroValue5
  t9 := Tryz.underlying9
  a9 := Tryz.isAgg9
  z9 := Tryz.sizeOf9
  v9 := Tryz.zeroValue9
  t46 := Tryz.underlying93
  a46 := Tryz.isAgg93
  z46 := Tryz.sizeOf93
  v46 := Tryz.zeroValue93
  t51 := Tryz.underlying168
  a51 := Tryz.isAgg168
  z51 := Tryz.sizeOf168
  v51 := Tryz.zeroValue168 }
open Go.RowKit Go.Lib in
/-- hashStr: "returns the hash and the appropriate multiplicative factor for use in Rabin-Karp algorithm": THE HASH OF ALL OF sep, AND 16777619 ^ len(sep), both in uint32. (LAID: no walk: one application.) -/
theorem Tryz.bytealg_hashStr (sep : ByteArray) (hs : sep.size < 4294967281) (w : World) :
    Calls Tryz.prog 143 #[.string sep] w fun e w' => e = .returned (.tuple #[.int .u32 (RK.H sep.data.toList % 4294967296), .int .u32 (16777619 ^ sep.size % 4294967296)]) ∧ w' = w := Any.bytealg_hashStr Tryz.lays314 sep hs w
def Tryz.lays267_ren : Go.Shelf.Ren := ⟨fun | 267 => 141 | 314 => 143 | n => n, fun | 9 => 9 | 3 => 3 | 146 => 169 | 51 => 168 | 4 => 4 | 5 => 5 | 46 => 93 | n => n, fun | n => n⟩
theorem Tryz.lays267 : Go.Proofs.Lays.n267 Tryz.prog Tryz.lays267_ren := {
  mixed := by kernel_rfl
  f267 := Tryz.func141.trans (congrArg some (by kernel_rfl))
  f314 := Tryz.func143.trans (congrArg some (by kernel_rfl))
  t3 := Tryz.underlying3
  a3 := Tryz.isAgg3
  z3 := Tryz.sizeOf3
  v3 := Tryz.zeroValue3
  t4 := Tryz.underlying4
  a4 := Tryz.isAgg4
  z4 := Tryz.sizeOf4
  v4 := Tryz.zeroValue4
  t5 := Tryz.underlying5
  a5 := Tryz.isAgg5
  z5 := Tryz.sizeOf5
  v5 := Tryz.zeroValue5
  t9 := Tryz.underlying9
  a9 := Tryz.isAgg9
  z9 := Tryz.sizeOf9
  v9 := Tryz.zeroValue9
  t46 := Tryz.underlying93
  a46 := Tryz.isAgg93
  z46 := Tryz.sizeOf93
  v46 := Tryz.zeroValue93
  t51 := Tryz.underlying168
  a51 := Tryz.isAgg168
  z51 := Tryz.sizeOf168
  v51 := Tryz.zeroValue168
  t146 := Tryz.underlying169
  a146 := Tryz.isAgg169
  z146 := Tryz.sizeOf169
  v146 := Tryz.zeroValue169 }
open Go.RowKit Go.Lib in
theorem Tryz.bytealg_IndexRabinKarp (s sep : ByteArray) (h1 : 1 ≤ sep.size) (h2 : sep.size ≤ s.size) (hs : s.size < 4294967281) (w : World) :
    Calls Tryz.prog 141 #[.string s, .string sep] w fun e w' => e = .returned (.int .i64 (Lib.index s.data.toList sep.data.toList)) ∧ w' = w := Any.bytealg_IndexRabinKarp Tryz.lays267 s sep h1 h2 hs w
def Tryz.lays219_ren : Go.Shelf.Ren := ⟨fun | 219 => 135 | 217 => 138 | 225 => 139 | 224 => 140 | 267 => 141 | 266 => 142 | 314 => 143 | n => n, fun | 9 => 9 | 3 => 3 | 4 => 4 | 5 => 5 | 46 => 93 | 146 => 169 | 51 => 168 | n => n, fun | 1 => 1 | n => n⟩
theorem Tryz.lays219 : Go.Proofs.Lays.n219 Tryz.prog Tryz.lays219_ren := {
  mixed := by kernel_rfl
  f217 := Tryz.func138.trans (congrArg some (by kernel_rfl))
  f219 := Tryz.func135.trans (congrArg some (by kernel_rfl))
  f224 := Tryz.func140.trans (congrArg some (by kernel_rfl))
  f225 := Tryz.func139.trans (congrArg some (by kernel_rfl))
  f266 := Tryz.func142.trans (congrArg some (by kernel_rfl))
  f267 := Tryz.func141.trans (congrArg some (by kernel_rfl))
  f314 := Tryz.func143.trans (congrArg some (by kernel_rfl))
  t3 := Tryz.underlying3
  a3 := Tryz.isAgg3
  z3 := Tryz.sizeOf3
  v3 := Tryz.zeroValue3
  t4 := Tryz.underlying4
  a4 := Tryz.isAgg4
  z4 := Tryz.sizeOf4
  v4 := Tryz.zeroValue4
  t5 := Tryz.underlying5
  a5 := Tryz.isAgg5
  z5 := Tryz.sizeOf5
  v5 := Tryz.zeroValue5
  t9 := Tryz.underlying9
  a9 := Tryz.isAgg9
  z9 := Tryz.sizeOf9
  v9 := Tryz.zeroValue9
  t46 := Tryz.underlying93
  a46 := Tryz.isAgg93
  z46 := Tryz.sizeOf93
  v46 := Tryz.zeroValue93
  t51 := Tryz.underlying168
  a51 := Tryz.isAgg168
  z51 := Tryz.sizeOf168
  v51 := Tryz.zeroValue168
  t146 := Tryz.underlying169
  a146 := Tryz.isAgg169
  z146 := Tryz.sizeOf169
  v146 := Tryz.zeroValue169
  g1 := by kernel_rfl }
open Go.RowKit Go.Lib in
/-- internal/stringslite.Index (what strings.Index calls) AT A substr OF ONE BYTE c: IT RETURNS 'Lib.indexByte s c'; the world is as it was. (LAID: no walk: one application.) -/
theorem Tryz.stringslite_Index_one (s : ByteArray) (c : UInt8) (w : World) :
    Calls Tryz.prog 135 #[.string s, .string ⟨#[c]⟩] w fun e w' => e = .returned (.int .i64 (Lib.indexByte s.data.toList c)) ∧ w' = w := Any.stringslite_Index_one Tryz.lays219 s c w
open Go.RowKit Go.Lib in
/-- internal/stringslite.Index (what strings.Index calls) AT A substr OF WHATEVER LENGTH: IT RETURNS 'Lib.index s substr'; the world is as it was. 'm': what internal/bytealg.MaxLen holds: whatever. (LAID: no walk: one application.) -/
theorem Tryz.stringslite_Index (s sub : ByteArray) (m : Int) (w : World) (hs : s.size < 4294967281) (hm : w.cell? ⟨1, 0, none⟩ = some (.int .i64 m)) :
    Calls Tryz.prog 135 #[.string s, .string sub] w fun e w' => e = .returned (.int .i64 (Lib.index s.data.toList sub.data.toList)) ∧ w' = w := Any.stringslite_Index Tryz.lays219 s sub m w hs hm
def Tryz.lays220_ren : Go.Shelf.Ren := ⟨fun | 220 => 127 | 219 => 135 | 217 => 138 | 225 => 139 | 224 => 140 | 267 => 141 | 266 => 142 | 314 => 143 | n => n, fun | 9 => 9 | 4 => 4 | 3 => 3 | 5 => 5 | 46 => 93 | 146 => 169 | 51 => 168 | n => n, fun | 1 => 1 | n => n⟩
theorem Tryz.lays220 : Go.Proofs.Lays.n220 Tryz.prog Tryz.lays220_ren := {
  mixed := by kernel_rfl
  f217 := Tryz.func138.trans (congrArg some (by kernel_rfl))
  f219 := Tryz.func135.trans (congrArg some (by kernel_rfl))
  f220 := Tryz.func127.trans (congrArg some (by kernel_rfl))
  f224 := Tryz.func140.trans (congrArg some (by kernel_rfl))
  f225 := Tryz.func139.trans (congrArg some (by kernel_rfl))
  f266 := Tryz.func142.trans (congrArg some (by kernel_rfl))
  f267 := Tryz.func141.trans (congrArg some (by kernel_rfl))
  f314 := Tryz.func143.trans (congrArg some (by kernel_rfl))
  t3 := Tryz.underlying3
  a3 := Tryz.isAgg3
  z3 := Tryz.sizeOf3
  v3 := Tryz.zeroValue3
  t4 := Tryz.underlying4
  a4 := Tryz.isAgg4
  z4 := Tryz.sizeOf4
  v4 := Tryz.zeroValue4
  t5 := Tryz.underlying5
  a5 := Tryz.isAgg5
  z5 := Tryz.sizeOf5
  v5 := Tryz.zeroValue5
  t9 := Tryz.underlying9
  a9 := Tryz.isAgg9
  z9 := Tryz.sizeOf9
  v9 := Tryz.zeroValue9
  t46 := Tryz.underlying93
  a46 := Tryz.isAgg93
  z46 := Tryz.sizeOf93
  v46 := Tryz.zeroValue93
  t51 := Tryz.underlying168
  a51 := Tryz.isAgg168
  z51 := Tryz.sizeOf168
  v51 := Tryz.zeroValue168
  t146 := Tryz.underlying169
  a146 := Tryz.isAgg169
  z146 := Tryz.sizeOf169
  v146 := Tryz.zeroValue169
  g1 := by kernel_rfl }
open Go.RowKit Go.Lib in
/-- internal/stringslite.Cut (what strings.Cut calls): IT RETURNS 'Lib.cut s sep'; the world is as it was but for the count of draws. (LAID: no walk: one application.) -/
theorem Tryz.stringslite_Cut (s sep : ByteArray) (m : Int) (w : World) (hs : s.size < 4294967281) (hm : w.cell? ⟨1, 0, none⟩ = some (.int .i64 m)) :
    Calls Tryz.prog 127 #[.string s, .string sep] w fun e w' => e = .returned (.tuple #[.string ⟨(Lib.cut s.data.toList sep.data.toList).1.toArray⟩, .string ⟨(Lib.cut s.data.toList sep.data.toList).2.1.toArray⟩, .bool (Lib.cut s.data.toList sep.data.toList).2.2]) ∧ ∃ n, w' = w.drewN n := Any.stringslite_Cut Tryz.lays220 s sep m w hs hm
def Tryz.lays145_ren : Go.Shelf.Ren := ⟨fun | 145 => 110 | 220 => 127 | 219 => 135 | 217 => 138 | 225 => 139 | 224 => 140 | 267 => 141 | 266 => 142 | 314 => 143 | n => n, fun | 9 => 9 | 4 => 4 | 59 => 141 | 3 => 3 | 5 => 5 | 46 => 93 | 146 => 169 | 51 => 168 | n => n, fun | 1 => 1 | n => n⟩
theorem Tryz.lays145 : Go.Proofs.Lays.n145 Tryz.prog Tryz.lays145_ren := {
  mixed := by kernel_rfl
  f145 := Tryz.func110.trans (congrArg some (by kernel_rfl))
  f217 := Tryz.func138.trans (congrArg some (by kernel_rfl))
  f219 := Tryz.func135.trans (congrArg some (by kernel_rfl))
  f220 := Tryz.func127.trans (congrArg some (by kernel_rfl))
  f224 := Tryz.func140.trans (congrArg some (by kernel_rfl))
  f225 := Tryz.func139.trans (congrArg some (by kernel_rfl))
  f266 := Tryz.func142.trans (congrArg some (by kernel_rfl))
  f267 := Tryz.func141.trans (congrArg some (by kernel_rfl))
  f314 := Tryz.func143.trans (congrArg some (by kernel_rfl))
  t3 := Tryz.underlying3
  a3 := Tryz.isAgg3
  z3 := Tryz.sizeOf3
  v3 := Tryz.zeroValue3
  t4 := Tryz.underlying4
  a4 := Tryz.isAgg4
  z4 := Tryz.sizeOf4
  v4 := Tryz.zeroValue4
  t5 := Tryz.underlying5
  a5 := Tryz.isAgg5
  z5 := Tryz.sizeOf5
  v5 := Tryz.zeroValue5
  t9 := Tryz.underlying9
  a9 := Tryz.isAgg9
  z9 := Tryz.sizeOf9
  v9 := Tryz.zeroValue9
  t46 := Tryz.underlying93
  a46 := Tryz.isAgg93
  z46 := Tryz.sizeOf93
  v46 := Tryz.zeroValue93
  t51 := Tryz.underlying168
  a51 := Tryz.isAgg168
  z51 := Tryz.sizeOf168
  v51 := Tryz.zeroValue168
  t59 := Tryz.underlying141
  a59 := Tryz.isAgg141
  z59 := Tryz.sizeOf141
  v59 := Tryz.zeroValue141
  t146 := Tryz.underlying169
  a146 := Tryz.isAgg169
  z146 := Tryz.sizeOf169
  v146 := Tryz.zeroValue169
  g1 := by kernel_rfl }
open Go.RowKit Go.Lib in
/-- strings.Cut: "Cut slices s around the first instance of sep, returning the text before and after sep. The found result reports whether sep appears in s. If sep does not appear in s, cut returns s, "", false.": IT RETURNS 'Lib.cut s sep'; the world is as it was but for the count of draws. (LAID: no walk: one application.) -/
theorem Tryz.strings_Cut (s sep : ByteArray) (m : Int) (w : World) (hs : s.size < 4294967281) (hm : w.cell? ⟨1, 0, none⟩ = some (.int .i64 m)) :
    Calls Tryz.prog 110 #[.string s, .string sep] w fun e w' => e = .returned (.tuple #[.string ⟨(Lib.cut s.data.toList sep.data.toList).1.toArray⟩, .string ⟨(Lib.cut s.data.toList sep.data.toList).2.1.toArray⟩, .bool (Lib.cut s.data.toList sep.data.toList).2.2]) ∧ ∃ n, w' = w.drewN n := Any.strings_Cut Tryz.lays145 s sep m w hs hm
def Tryz.laysM219_ren : Go.Shelf.Ren := ⟨fun | 219 => 135 | 217 => 138 | 225 => 139 | 224 => 140 | 267 => 141 | 266 => 142 | 314 => 143 | n => n, fun | 9 => 9 | 3 => 3 | 4 => 4 | 5 => 5 | 46 => 93 | 146 => 169 | 51 => 168 | n => n, fun | 1 => 1 | n => n⟩
theorem Tryz.laysM219 : Go.Proofs.LaysM.n219 Tryz.prog Tryz.laysM219_ren := {
  mixed := by kernel_rfl
  f217 := Tryz.func138.trans (congrArg some (by kernel_rfl))
  f219 := Tryz.func135.trans (congrArg some (by kernel_rfl))
  f224 := Tryz.func140.trans (congrArg some (by kernel_rfl))
  f225 := Tryz.func139.trans (congrArg some (by kernel_rfl))
  f266 := Tryz.func142.trans (congrArg some (by kernel_rfl))
  f267 := Tryz.func141.trans (congrArg some (by kernel_rfl))
  f314 := Tryz.func143.trans (congrArg some (by kernel_rfl))
  t3 := Tryz.underlying3
  a3 := Tryz.isAgg3
  z3 := Tryz.sizeOf3
  v3 := Tryz.zeroValue3
  t4 := Tryz.underlying4
  a4 := Tryz.isAgg4
  z4 := Tryz.sizeOf4
  v4 := Tryz.zeroValue4
  t5 := Tryz.underlying5
  a5 := Tryz.isAgg5
  z5 := Tryz.sizeOf5
  v5 := Tryz.zeroValue5
  t9 := Tryz.underlying9
  a9 := Tryz.isAgg9
  z9 := Tryz.sizeOf9
  v9 := Tryz.zeroValue9
  t46 := Tryz.underlying93
  a46 := Tryz.isAgg93
  z46 := Tryz.sizeOf93
  v46 := Tryz.zeroValue93
  t51 := Tryz.underlying168
  a51 := Tryz.isAgg168
  z51 := Tryz.sizeOf168
  v51 := Tryz.zeroValue168
  t146 := Tryz.underlying169
  a146 := Tryz.isAgg169
  z146 := Tryz.sizeOf169
  v146 := Tryz.zeroValue169
  g1 := by kernel_rfl
  i3 := by kernel_rfl
  i4 := by kernel_rfl
  i5 := by kernel_rfl
  i9 := by kernel_rfl
  i46 := by kernel_rfl
  i51 := by kernel_rfl
  i146 := by kernel_rfl
  m1 := by kernel_rfl
  s1_3 := fun w h => Go.Proofs.cell_of_shapedOpen_int (zero := #[.int .i64 0]) (t := 3) h (of_decide_eq_true (by kernel_rfl)) (by kernel_rfl) rfl (by kernel_rfl) (by kernel_rfl) Tryz.underlying3 }
open Go.RowKit Go.Lib in
theorem Tryz.stringslite_Index_shaped (s sub : ByteArray) (w : World) (h : w.ShapedOpen Tryz.prog) (hs : s.size < 4294967281) :
    Calls Tryz.prog 135 #[.string s, .string sub] w fun e w' => e = .returned (.int .i64 (Lib.index s.data.toList sub.data.toList)) ∧ w' = w := Any.stringslite_Index_shaped Tryz.laysM219 s sub w h hs
def Tryz.laysM220_ren : Go.Shelf.Ren := ⟨fun | 220 => 127 | 219 => 135 | 217 => 138 | 225 => 139 | 224 => 140 | 267 => 141 | 266 => 142 | 314 => 143 | n => n, fun | 9 => 9 | 4 => 4 | 3 => 3 | 5 => 5 | 46 => 93 | 146 => 169 | 51 => 168 | n => n, fun | 1 => 1 | n => n⟩
theorem Tryz.laysM220 : Go.Proofs.LaysM.n220 Tryz.prog Tryz.laysM220_ren := {
  mixed := by kernel_rfl
  f217 := Tryz.func138.trans (congrArg some (by kernel_rfl))
  f219 := Tryz.func135.trans (congrArg some (by kernel_rfl))
  f220 := Tryz.func127.trans (congrArg some (by kernel_rfl))
  f224 := Tryz.func140.trans (congrArg some (by kernel_rfl))
  f225 := Tryz.func139.trans (congrArg some (by kernel_rfl))
  f266 := Tryz.func142.trans (congrArg some (by kernel_rfl))
  f267 := Tryz.func141.trans (congrArg some (by kernel_rfl))
  f314 := Tryz.func143.trans (congrArg some (by kernel_rfl))
  t3 := Tryz.underlying3
  a3 := Tryz.isAgg3
  z3 := Tryz.sizeOf3
  v3 := Tryz.zeroValue3
  t4 := Tryz.underlying4
  a4 := Tryz.isAgg4
  z4 := Tryz.sizeOf4
  v4 := Tryz.zeroValue4
  t5 := Tryz.underlying5
  a5 := Tryz.isAgg5
  z5 := Tryz.sizeOf5
  v5 := Tryz.zeroValue5
  t9 := Tryz.underlying9
  a9 := Tryz.isAgg9
  z9 := Tryz.sizeOf9
  v9 := Tryz.zeroValue9
  t46 := Tryz.underlying93
  a46 := Tryz.isAgg93
  z46 := Tryz.sizeOf93
  v46 := Tryz.zeroValue93
  t51 := Tryz.underlying168
  a51 := Tryz.isAgg168
  z51 := Tryz.sizeOf168
  v51 := Tryz.zeroValue168
  t146 := Tryz.underlying169
  a146 := Tryz.isAgg169
  z146 := Tryz.sizeOf169
  v146 := Tryz.zeroValue169
  g1 := by kernel_rfl
  i3 := by kernel_rfl
  i4 := by kernel_rfl
  i5 := by kernel_rfl
  i9 := by kernel_rfl
  i46 := by kernel_rfl
  i51 := by kernel_rfl
  i146 := by kernel_rfl
  m1 := by kernel_rfl
  s1_3 := fun w h => Go.Proofs.cell_of_shapedOpen_int (zero := #[.int .i64 0]) (t := 3) h (of_decide_eq_true (by kernel_rfl)) (by kernel_rfl) rfl (by kernel_rfl) (by kernel_rfl) Tryz.underlying3 }
open Go.RowKit Go.Lib in
theorem Tryz.stringslite_Cut_shaped (s sep : ByteArray) (w : World) (h : w.ShapedOpen Tryz.prog) (hs : s.size < 4294967281) :
    Calls Tryz.prog 127 #[.string s, .string sep] w fun e w' => e = .returned (.tuple #[.string ⟨(Lib.cut s.data.toList sep.data.toList).1.toArray⟩, .string ⟨(Lib.cut s.data.toList sep.data.toList).2.1.toArray⟩, .bool (Lib.cut s.data.toList sep.data.toList).2.2]) ∧ ∃ n, w' = w.drewN n := Any.stringslite_Cut_shaped Tryz.laysM220 s sep w h hs
def Tryz.laysM145_ren : Go.Shelf.Ren := ⟨fun | 145 => 110 | 220 => 127 | 219 => 135 | 217 => 138 | 225 => 139 | 224 => 140 | 267 => 141 | 266 => 142 | 314 => 143 | n => n, fun | 9 => 9 | 4 => 4 | 59 => 141 | 3 => 3 | 5 => 5 | 46 => 93 | 146 => 169 | 51 => 168 | n => n, fun | 1 => 1 | n => n⟩
theorem Tryz.laysM145 : Go.Proofs.LaysM.n145 Tryz.prog Tryz.laysM145_ren := {
  mixed := by kernel_rfl
  f145 := Tryz.func110.trans (congrArg some (by kernel_rfl))
  f217 := Tryz.func138.trans (congrArg some (by kernel_rfl))
  f219 := Tryz.func135.trans (congrArg some (by kernel_rfl))
  f220 := Tryz.func127.trans (congrArg some (by kernel_rfl))
  f224 := Tryz.func140.trans (congrArg some (by kernel_rfl))
  f225 := Tryz.func139.trans (congrArg some (by kernel_rfl))
  f266 := Tryz.func142.trans (congrArg some (by kernel_rfl))
  f267 := Tryz.func141.trans (congrArg some (by kernel_rfl))
  f314 := Tryz.func143.trans (congrArg some (by kernel_rfl))
  t3 := Tryz.underlying3
  a3 := Tryz.isAgg3
  z3 := Tryz.sizeOf3
  v3 := Tryz.zeroValue3
  t4 := Tryz.underlying4
  a4 := Tryz.isAgg4
  z4 := Tryz.sizeOf4
  v4 := Tryz.zeroValue4
  t5 := Tryz.underlying5
  a5 := Tryz.isAgg5
  z5 := Tryz.sizeOf5
  v5 := Tryz.zeroValue5
  t9 := Tryz.underlying9
  a9 := Tryz.isAgg9
  z9 := Tryz.sizeOf9
  v9 := Tryz.zeroValue9
  t46 := Tryz.underlying93
  a46 := Tryz.isAgg93
  z46 := Tryz.sizeOf93
  v46 := Tryz.zeroValue93
  t51 := Tryz.underlying168
  a51 := Tryz.isAgg168
  z51 := Tryz.sizeOf168
  v51 := Tryz.zeroValue168
  t59 := Tryz.underlying141
  a59 := Tryz.isAgg141
  z59 := Tryz.sizeOf141
  v59 := Tryz.zeroValue141
  t146 := Tryz.underlying169
  a146 := Tryz.isAgg169
  z146 := Tryz.sizeOf169
  v146 := Tryz.zeroValue169
  g1 := by kernel_rfl
  i3 := by kernel_rfl
  i4 := by kernel_rfl
  i5 := by kernel_rfl
  i9 := by kernel_rfl
  i46 := by kernel_rfl
  i51 := by kernel_rfl
  i59 := by kernel_rfl
  i146 := by kernel_rfl
  m1 := by kernel_rfl
  s1_3 := fun w h => Go.Proofs.cell_of_shapedOpen_int (zero := #[.int .i64 0]) (t := 3) h (of_decide_eq_true (by kernel_rfl)) (by kernel_rfl) rfl (by kernel_rfl) (by kernel_rfl) Tryz.underlying3 }
open Go.RowKit Go.Lib in
theorem Tryz.strings_Cut_shaped (s sep : ByteArray) (w : World) (h : w.ShapedOpen Tryz.prog) (hs : s.size < 4294967281) :
    Calls Tryz.prog 110 #[.string s, .string sep] w fun e w' => e = .returned (.tuple #[.string ⟨(Lib.cut s.data.toList sep.data.toList).1.toArray⟩, .string ⟨(Lib.cut s.data.toList sep.data.toList).2.1.toArray⟩, .bool (Lib.cut s.data.toList sep.data.toList).2.2]) ∧ ∃ n, w' = w.drewN n := Any.strings_Cut_shaped Tryz.laysM145 s sep w h hs
def Tryz.lays264_ren : Go.Shelf.Ren := ⟨fun | 264 => 88 | n => n, fun | 53 => 22 | 46 => 93 | n => n, fun | n => n⟩
theorem Tryz.lays264 : Go.Proofs.Lays.n264 Tryz.prog Tryz.lays264_ren := {
  mixed := by kernel_rfl
  f264 := Tryz.func88.trans (congrArg some (by kernel_rfl))
  t46 := Tryz.underlying93
  a46 := Tryz.isAgg93
  z46 := Tryz.sizeOf93
  v46 := Tryz.zeroValue93
  t53 := Tryz.underlying22
  a53 := Tryz.isAgg22
  z53 := Tryz.sizeOf22
  v53 := Tryz.zeroValue22 }
open Go.RowKit Go.Lib in
theorem Tryz.bits_Mul64 (x y : Nat) (hx : x < 18446744073709551616) (hy : y < 18446744073709551616) (w : World) :
    Calls Tryz.prog 88 #[.int .u64 x, .int .u64 y] w fun e w' => e = .returned (.tuple #[.int .u64 ((x * y / 18446744073709551616 : Nat) : Int), .int .u64 ((x * y % 18446744073709551616 : Nat) : Int)]) ∧ w' = w := Any.bits_Mul64 Tryz.lays264 x y hx hy w
end Go.Proofs

namespace Go.Proofs.YtjkchmegnfbfoaaGreatDoor
open Go Go.RowKit Go.Shelf
set_option linter.unusedSimpArgs false
set_option linter.unusedVariables false
set_option maxRecDepth 100000
attribute [local go_sem] Oper.semAt_some

theorem bitLenAux_le : ∀ (f x : Nat), Lib.bitLenAux f x ≤ f
  | 0, x => by simp [Lib.bitLenAux]
  | f + 1, x => by
    have := bitLenAux_le f (x / 2)
    simp only [Lib.bitLenAux]; split <;> omega
theorem bitLenAux_lt : ∀ (f x : Nat), x < 2 ^ f → x < 2 ^ Lib.bitLenAux f x
  | 0, x, h => by simpa [Lib.bitLenAux] using h
  | f + 1, x, h => by
    have h2 : x / 2 < 2 ^ f := by rw [Nat.pow_succ] at h; omega
    have := bitLenAux_lt f (x / 2) h2
    simp only [Lib.bitLenAux]
    split
    · rename_i h0; subst h0; simp
    · rw [Nat.add_comm, Nat.pow_succ]; omega
theorem len64_any (x : Nat) (hx : x < B) (w : World) : Calls Tryz.prog 132 #[q64 x] w fun e w' => ∃ t : Nat, t ≤ 64 ∧ x < 2 ^ t ∧ e = .returned (.int .i64 t) ∧ w' = w := by
  rw [B_eq] at hx
  refine (Tryz.bits_Len64 (x : Int) w (by omega) (by omega)).mono ?_
  rintro e w' ⟨rfl, rfl⟩
  exact ⟨_, bitLenAux_le 64 _, bitLenAux_lt 64 _ (by omega), rfl, rfl⟩

/-- What has come when those from j on are over. -/
def downs (j : Nat) : List (Fin 4) := ([3, 2, 1, 0] : List (Fin 4)).take (4 - j)
theorem downs_succ (j : Nat) (h : j < 4) : downs j = downs (j + 1) ++ [⟨j, h⟩] := by
  match j, h with
  | 0, _ => rfl
  | 1, _ => rfl
  | 2, _ => rfl
  | 3, _ => rfl
theorem downs_mem (j k : Nat) (hk : k < 4) (h : j ≤ k) : (⟨k, hk⟩ : Fin 4) ∈ downs j := by
  have : ∀ j : Fin 5, ∀ k : Fin 4, j.1 ≤ k.1 → k ∈ downs j.1 := by decide
  exact this ⟨j, by omega⟩ ⟨k, hk⟩ h
theorem downs_length (j : Nat) (h : j ≤ 4) : (downs j).length = 4 - j := by
  have : ∀ j : Fin 5, (downs j.1).length = 4 - j.1 := by decide
  exact this ⟨j, by omega⟩

set_option maxHeartbeats 4000000 in
theorem back1_in (n : Nat) (hn : 1 ≤ n) (l Bs n₀ b cap a : Nat) (hb : b < n₀) (J Jx : List (Fin 4) → World → Prop)
    (hY : ∀ pre x W, J pre W → pre.length < 4 → YieldAt Fence.wide (n - 1) Tryz.prog l #[.int .i64 (x.1 : Int), q64 (wn a x.1)] W fun e W' =>
      (e = .returned (.bool true) ∧ J (pre ++ [x]) W' ∧ Below n₀ W W') ∨ (e = .returned (.bool false) ∧ Jx (pre ++ [x]) W'))
    (W : World) (hBs : W.cell? ⟨Bs, 0, none⟩ = some (.slice (some ⟨b, 0, none⟩) 4 cap)) (hBl : Bs < n₀) (hc : ∀ j, j < 4 → W.cell? ⟨b, j, none⟩ = some (q64 (wn a j))) (h0 : J [] W) :
    CallsIn Fence.wide n Tryz.prog 137 #[.func (.yield l) #[] #[], .pointer (some ⟨Bs, 0, none⟩)] W fun e W' => (∃ v, e = .returned v) ∧
      ((∃ ys, ys = downs 0 ∧ J ys W') ∨ (∃ pre, (∃ k, k < 4 ∧ pre = downs k) ∧ Jx pre W')) := by
  refine callsIn_of_wp Tryz.func137 rfl trivial ?_ rfl
  simp only [Tryz.ntmps137, List.size_toArray, List.length_cons, List.length_nil, Nat.reduceAdd, Nat.reduceSub, Array.replicate_succ, Array.replicate_zero, List.push_toArray, List.append_toArray, List.nil_append, List.cons_append]
  gi_wp2
  gi_loopw [3] (fun i wr => ∃ k : Nat, k ≤ 4 ∧ i = .int .i64 ((k : Int) - 1) ∧ J (downs k) wr ∧ Below n₀ W wr)
    (fun i _ => (intOf i + 1).toNat)
  case atStart => exact ⟨4, Nat.le_refl _, rfl, h0, Below.refl _ _⟩
  case round =>
    obtain ⟨k, hk, rfl, hJs, hnx⟩ := hrel
    have hBs' := (hnx.cell (p := ⟨Bs, 0, none⟩) hBl).trans hBs
    rcases k with _ | j
    · gi_wp2
      go_end0
      exact ⟨⟨_, rfl⟩, .inl ⟨_, rfl, hJs⟩⟩
    · have ej : ((j + 1 : Nat) : Int) - 1 = (j : Int) := by omega
      rw [ej]
      have hcx := (hnx.cell (p := ⟨b, j, none⟩) hb).trans (hc j (by omega))
      obtain ⟨fn, tmps, assign, body, hy, hR⟩ := hY _ (⟨j, by omega⟩ : Fin 4) wr hJs (by rw [downs_length _ hk]; omega)
      dsimp only at hy
      gi_wp2
      refine hR.mono ?_
      rintro e W3 (⟨rfl, hJ3, hk3⟩ | ⟨rfl, hJx3⟩)
      · gi_wp2
        go_roundw
        case rel => exact ⟨j, by omega, rfl, by rw [downs_succ j (by omega)]; exact hJ3, hnx.trans hk3⟩
        case measure => simp [intOf]
      · gi_wp2
        refine bodyPost_ret (results_none rfl _ _ _) rfl ?_
        exact ⟨⟨_, rfl⟩, .inr ⟨_, ⟨j, by omega, (downs_succ j (by omega)).symm⟩, hJx3⟩⟩
end Go.Proofs.YtjkchmegnfbfoaaGreatDoor

namespace Go.Proofs.YtjkchmegnfbfoaaGreatDoor
open Go Go.RowKit Go.Shelf
set_option linter.unusedSimpArgs false
set_option linter.unusedVariables false
set_option maxRecDepth 100000
set_option exponentiation.threshold 1000
attribute [local go_sem] Oper.semAt_some

theorem div_zero_step (a j : Nat) (h : a / B ^ (j + 1) = 0) (hw : wn a j = 0) : a / B ^ j = 0 := by
  unfold wn at hw
  rw [Nat.pow_succ, ← Nat.div_div_eq_div_mul] at h
  have := Nat.div_add_mod (a / B ^ j) B
  rw [h, hw] at this
  omega
theorem div_zero_from (a k : Nat) (ha : a < B ^ 4) (h : ∀ j, k ≤ j → j < 4 → wn a j = 0) : ∀ m, k + m = 4 ∨ k + m < 4 → a / B ^ (k + m) = 0 ∨ False := by
  suffices H : ∀ n, ∀ m, k ≤ m → m + n = 4 → a / B ^ m = 0 from fun m hm => .inl (H (4 - (k + m)) (k + m) (by omega) (by omega))
  intro n
  induction n with
  | zero => intro m _ hm; obtain rfl : m = 4 := by omega
            exact Nat.div_eq_of_lt ha
  | succ n ih => intro m hk hm; exact div_zero_step a m (ih (m + 1) (by omega) (by omega)) (h m hk (by omega))
theorem div_zero_at (a k : Nat) (hk : k ≤ 4) (ha : a < B ^ 4) (h : ∀ j, k ≤ j → j < 4 → wn a j = 0) : a / B ^ k = 0 :=
  (div_zero_from a k ha h 0 (by omega)).elim id False.elim
theorem top_bound (a k t : Nat) (hk : k < 4) (ha : a < B ^ 4) (h : ∀ j, k + 1 ≤ j → j < 4 → wn a j = 0) (hw : wn a k < 2 ^ t) : a < 2 ^ (64 * k + t) := by
  have h1 := div_zero_at a (k + 1) (by omega) ha h
  rw [Nat.pow_succ, ← Nat.div_div_eq_div_mul] at h1
  have h2 : a / B ^ k = wn a k := by
    unfold wn
    have := Nat.div_add_mod (a / B ^ k) B
    rw [h1] at this; omega
  rw [← h2, Nat.div_lt_iff_lt_mul (Nat.pow_pos B_pos), B_two, ← Nat.pow_mul, ← Nat.pow_add] at hw
  rwa [Nat.add_comm]

theorem back_in (n : Nat) (a : Option Addr) (len cap : Nat) (w : World) :
    CallsIn Fence.wide n Tryz.prog 131 #[.slice a len cap] w fun e w' =>
      e = .returned (.func (.func 137) #[] #[.pointer (some ⟨w.heap.size, 0, none⟩)]) ∧ w' = w.alloc (.cells #[.slice a len cap] 147) := by
  refine callsIn_of_wp Tryz.func131 rfl trivial ?_ rfl
  simp only [Tryz.ntmps131, List.size_toArray, List.length_cons, List.length_nil, Nat.reduceAdd, Nat.reduceSub, Array.replicate_succ, Array.replicate_zero, List.push_toArray, List.append_toArray, List.nil_append, List.cons_append]
  gi_wp2
  go_ret
  exact ⟨rfl, rfl⟩

theorem back_stops (n : Nat) (hn : 1 ≤ n) (Bs n₀ b cap a : Nat) (hb : b < n₀) (hBl : Bs < n₀) (w : World) (hn₀ : n₀ ≤ w.heap.size)
    (hc : w.cell? ⟨Bs, 0, none⟩ = some (.slice (some ⟨b, 0, none⟩) 4 cap)) (hI : ∀ j, j < 4 → w.cell? ⟨b, j, none⟩ = some (q64 (wn a j))) :
    SeqStopsK Fence.wide n Tryz.prog 137 #[.pointer (some ⟨Bs, 0, none⟩)] (fun x : Fin 4 => #[Value.int .i64 (x.1 : Int), q64 (wn a x.1)]) (Below n₀) (fun ys => ys = downs 0) (fun pre => ∃ k, k < 4 ∧ pre = downs k) 4 w :=
  fun l J Jx W hW _ _ hY h0 => back1_in n hn l Bs n₀ b cap a hb J Jx hY W ((hW.cell (p := ⟨Bs, 0, none⟩) (by show Bs < _; omega)).trans hc) hBl (fun j hj => (hW.cell (p := ⟨b, j, none⟩) (by show b < _; omega)).trans (hI j hj)) h0

set_option maxHeartbeats 8000000 in
theorem top_in (n : Nat) (hn : 3 ≤ n) (a : Nat) (ha : a < B4) (w : World) :
    CallsIn Fence.wide n Tryz.prog 121 #[magV a] w fun e w' => ∃ t : Nat, t ≤ 256 ∧ a < 2 ^ t ∧ e = .returned (.int .i64 t) ∧ Below w.heap.size w w' := by
  have h1 : 1 ≤ n := by omega
  refine callsIn_of_wp_marks Tryz.func121 rfl trivial ?_ rfl
  simp only [Tryz.ntmps121, List.size_toArray, List.length_cons, List.length_nil, Nat.reduceAdd, Nat.reduceSub, Array.replicate_succ, Array.replicate_zero, List.push_toArray, List.append_toArray, List.nil_append, List.cons_append]
  gi_wp2_with (refine ⟨trivial, ?_⟩; gi_at_call 131; refine (back_in (n - 1) _ _ _ _).mono ?_; rintro e w' ⟨rfl, rfl⟩)
  have bR := Boxed.new (w.alloc (.cells #[q64 (wn a 0), q64 (wn a 1), q64 (wn a 2), q64 (wn a 3)] 109)) 3 (.int .i64 0)
  rw [World.size_alloc] at bR
  have hB0 : Below w.heap.size w (((w.alloc (.cells #[q64 (wn a 0), q64 (wn a 1), q64 (wn a 2), q64 (wn a 3)] 109)).alloc (.cells #[.int .i64 0] 3)).alloc (.cells #[.slice (some ⟨w.heap.size, 0, none⟩) 4 4] 147)) := by
    refine Below.alloc (Below.alloc (Below.alloc (Below.refl _ w) ?_ _) ?_ _) ?_ _ <;> simp <;> omega
  have hst := back_stops (n - 1) (by omega) (w.heap.size + 1 + 1) (w.heap.size + 1 + 1 + 1) w.heap.size 4 a (by omega) (by omega) (((w.alloc (.cells #[q64 (wn a 0), q64 (wn a 1), q64 (wn a 2), q64 (wn a 3)] 109)).alloc (.cells #[.int .i64 0] 3)).alloc (.cells #[.slice (some ⟨w.heap.size, 0, none⟩) 4 4] 147))
    (by simp) (by simp [go_sem]) (by
      intro j hj
      rcases (by omega : j = 0 ∨ j = 1 ∨ j = 2 ∨ j = 3) with rfl | rfl | rfl | rfl <;> simp [go_sem])
  refine wpIn_rangeFunc_ownG rfl h1 (gf := 137) (lb := #[.pointer (some ⟨w.heap.size + 1 + 1, 0, none⟩)]) rfl trivial (enters_of Tryz.func137 (by kernel_rfl) rfl)
    hst belowK_t (belowK_b (by simp)) (Below.refl _ _) (fun _ => rfl)
    (fun pre W => ((∀ p ∈ pre, wn a p.1 = 0) ∧ W.cell? ⟨w.heap.size + 1, 0, none⟩ = some (.int .i64 0) ∧ W.frozen? ⟨w.heap.size + 1, 0, none⟩ = false) ∧ Below w.heap.size w W)
    (fun c pre W => (c = .ret ∧ ∃ ini last, pre = ini ++ [last] ∧ (∀ p ∈ ini, wn a p.1 = 0) ∧ ∃ t : Nat, t ≤ 64 ∧ wn a last.1 < 2 ^ t ∧ W.cell? ⟨w.heap.size + 1, 0, none⟩ = some (.int .i64 ((64 * last.1 + t : Nat) : Int))) ∧ Below w.heap.size w W)
    (OwnFrom.and (Own.from (fun s A B row hs hg hr => ⟨hs.1, cell_kept hs.2.1 hg hr, (frozen_kept hs.2.1 hg hr).trans hs.2.2⟩) _) (ownFrom_below (Nat.le_refl _) (by simp; omega)))
    (fun c => OwnFrom.and (Own.from (fun s A B row hs hg hr => by obtain ⟨hc, ini, last, e1, e2, t, e3, e4, e5⟩ := hs; exact ⟨hc, ini, last, e1, e2, t, e3, e4, cell_kept e5 hg hr⟩) _) (ownFrom_below (Nat.le_refl _) (by simp; omega)))
    ⟨⟨by simp, (bR.alloc _).cell, (bR.alloc _).frozen⟩, hB0⟩
    (fun x => { tmps := #[magV a, .pointer (some ⟨w.heap.size, 0, none⟩), .pointer (some ⟨w.heap.size + 1, 0, none⟩), .int .i64 (x.1 : Int), q64 (wn a x.1), .slice (some ⟨w.heap.size, 0, none⟩) 4 4, .func (.func 137) #[] #[.pointer (some ⟨w.heap.size + 1 + 1, 0, none⟩)], .int .i64 (x.1 : Int), q64 (wn a x.1), undef, undef, undef, undef, undef, undef, undef], defers := [] }) ?assign ?body ?done ?stop
  case assign =>
    intro l x W K hK
    gi_wp2
    exact hK
  case body =>
    rintro l pre x W ⟨⟨hp, hcr, hfr⟩, hB⟩ _
    have hx4 := x.2
    have hlen := len64_any (wn a x.1) (wn_lt _ _)
    gi_wp2_with (refine ⟨trivial, (fun _ => by omega), ?_⟩; gi_at_call 132; refine (CallsIn.inRound l (callsIn_wide.2 (hlen _))).mono ?_; rintro e w' ⟨t, ht, hwt, rfl, rfl⟩)
    · exact ⟨(KeepsOthers.setCell _ _ _).from _, ⟨rfl, pre, x, rfl, hp, t, ht, hwt, by rw [World.cell?_setCell_same' _ _ _ (by rw [hcr]; rfl)]; congr 2⟩, hB.setCell (p := ⟨w.heap.size + 1, 0, none⟩) (by show w.heap.size ≤ w.heap.size + 1; omega) _⟩
    · have hx : (((wn a x.1 : Nat) : Int) != 0) = false := by assumption
      have hx0 : wn a x.1 = 0 := by simp at hx; exact hx
      exact ⟨KeepsFrom.refl _ _, Below.refl _ _, ⟨fun p hp' => (List.mem_append.1 hp').elim (hp p) (fun e => by simp at e; subst e; exact hx0), hcr, hfr⟩, hB⟩
  case done =>
    rintro D ys W hD rfl ⟨⟨hne, hcr, hfr⟩, hB⟩ hK
    gi_wp2
    have hK' := (KeepsOthers.setCell W ⟨w.heap.size + 1, 0, none⟩ (.int .i64 0)).same D _ hK rfl
    refine ⟨by simp, .inl ⟨_, _, rfl, run_takeDeferred hK', ?_⟩⟩
    have hc5 := cell_kept (World.cell?_setCell_same' W ⟨w.heap.size + 1, 0, none⟩ (.int .i64 0) (by rw [hcr]; rfl)) (grownBy_putObj' _ D (.deferred none)) (fun r e => by cases e; exact ⟨_, hK', rfl⟩)
    refine ⟨.int .i64 0, ?_, 0, by omega, ?_, rfl, (hB.setCell (p := ⟨w.heap.size + 1, 0, none⟩) (by show w.heap.size ≤ w.heap.size + 1; omega) _).trans (belowK_b (w := w) (Nat.le_refl _) _ D _ _ (by simp at hD; omega) hK' rfl rfl)⟩
    · simp [results, Tryz.results121, go_sem, hc5]
    · have := div_zero_at a 0 (by omega) ha (fun j _ hj => hne ⟨j, hj⟩ (downs_mem 0 j hj (by omega)))
      simp at this
      omega
  case stop =>
    rintro D c pre W hD ⟨k, hk, rfl⟩ ⟨⟨rfl, ini, last, e1, e2, t, e3, e4, hcr⟩, hB⟩ hK
    gi_wp2
    refine ⟨by simp, .inl ⟨_, _, rfl, run_takeDeferred hK, ?_⟩⟩
    have hc5 := cell_kept hcr (grownBy_putObj' _ D (.deferred none)) (fun r e => by cases e; exact ⟨_, hK, rfl⟩)
    rw [downs_succ k hk] at e1
    obtain ⟨rfl, e5⟩ := List.append_inj' e1 rfl
    obtain rfl : (⟨k, hk⟩ : Fin 4) = last := by simpa using e5
    refine ⟨.int .i64 ((64 * k + t : Nat) : Int), ?_, 64 * k + t, by omega, top_bound a k t hk ha (fun j hj h4 => e2 ⟨j, h4⟩ (downs_mem (k + 1) j h4 hj)) e4, rfl, hB.trans (belowK_b (w := w) (Nat.le_refl _) W D _ _ (by simp at hD; omega) hK rfl rfl)⟩
    simp [results, Tryz.results121, go_sem, hc5]
theorem top_any (a : Nat) (ha : a < B4) (w : World) :
    Calls Tryz.prog 121 #[magV a] w fun e w' => ∃ t : Nat, t ≤ 256 ∧ a < 2 ^ t ∧ e = .returned (.int .i64 t) ∧ Ext w w' := by
  refine (callsIn_wide.1 (top_in 3 (by omega) a ha w)).mono ?_
  rintro e w' ⟨t, h1, h2, h3, h4⟩
  exact ⟨t, h1, h2, h3, Ext.of_below h4⟩
end Go.Proofs.YtjkchmegnfbfoaaGreatDoor

namespace Go.Proofs.YtjkchmegnfbfoaaGreatDoor
open Go Go.RowKit
set_option linter.unusedSimpArgs false
set_option linter.unusedVariables false
set_option maxRecDepth 100000

/-- A magnitude's block. -/
abbrev magC (m : Nat) : Obj := .cells #[q64 (wn m 0), q64 (wn m 1), q64 (wn m 2), q64 (wn m 3)] 109
def Holds4 (A : Array Value) (f : Nat → Nat) : Prop := A.size = 4 ∧ ∀ j, j < 4 → A[j]? = some (q64 (f j))
theorem Holds4.set {A : Array Value} {f g : Nat → Nat} (h : Holds4 A f) (i x : Nat) (hi : i < 4) (hx : g i = x) (hg : ∀ j, j < 4 → j ≠ i → g j = f j) : Holds4 (A.setIfInBounds i (q64 x)) g := by
  refine ⟨by simp [h.1], fun j hj => ?_⟩
  by_cases e : j = i
  · subst e; rw [hx]; simp [h.1, hi]
  · rw [Array.getElem?_setIfInBounds_ne (fun h => e h.symm), hg j hj e]; exact h.2 j hj
theorem Holds4.lit {A : Array Value} {f : Nat → Nat} (h : Holds4 A f) : A = #[q64 (f 0), q64 (f 1), q64 (f 2), q64 (f 3)] := by
  obtain ⟨hs, h⟩ := h
  apply Array.ext_getElem?
  intro i
  match i with
  | 0 => simpa using h 0 (by decide)
  | 1 => simpa using h 1 (by decide)
  | 2 => simpa using h 2 (by decide)
  | 3 => simpa using h 3 (by decide)
  | n + 4 => rw [Array.getElem?_eq_none (by omega), Array.getElem?_eq_none (by simp)]
theorem magV_mod (m : Nat) : magV (m % B4) = magV m := by
  have h : ∀ k, k < 4 → wn (m % B4) k = wn m k := by
    intro k hk
    unfold wn
    have e : B ^ 4 = B ^ k * B ^ (4 - k) := by rw [← Nat.pow_add]; congr 1; omega
    rw [show B4 = B ^ 4 from rfl, e, Nat.mod_mul_right_div_self, show 4 - k = (4 - k - 1) + 1 by omega, Nat.pow_succ, Nat.mod_mul_left_mod]
  simp only [magV, h 0 (by decide), h 1 (by decide), h 2 (by decide), h 3 (by decide)]

theorem doubled_mod (a c : Nat) (ha : a < B4) (hc : c ≤ 1) (w : World) :
    Calls Tryz.prog 122 #[magV a, q64 c] w fun e w' => e = .returned (.tuple #[magV ((2 * a + c) % B4), q64 ((2 * a + c) / B4)]) ∧ Ext w w' := by
  rw [magV_mod]; exact doubled_any a c ha hc w

set_option maxHeartbeats 16000000 in
theorem parts_any (a b : Nat) (ha : a < B4) (hb0 : 0 < b) (hb : b < B4) (w : World) :
    Calls Tryz.prog 99 #[magV a, magV b] w fun e w' => e = .returned (.tuple #[magV (a / b), magV (a % b)]) ∧ Ext w w' := by
  go_enter Tryz.func99, Tryz.ntmps99
  go_wp2_with (go_at_call 121; refine (top_any a ha _).mono ?_; rintro e w' ⟨t, ht, hat, rfl, d, rfl⟩)
  go_loopg [6] t (fun g q wr => ∃ (j : Nat) (Aq : Array Value) (d : Gr), j ≤ 256 ∧ g = j ∧ q = .int .i64 ((j : Int) - 1) ∧ Holds4 Aq (wn (qk a b j)) ∧
      wr = grow ((((w.alloc (magC a)).alloc (magC b)).alloc (.cells Aq 109)).alloc (magC (rk a b j))) d)
  case atStart =>
    refine ⟨t, #[q64 (wn 0 0), q64 (wn 0 1), q64 (wn 0 2), q64 (wn 0 3)], d, by omega, rfl, rfl, ?_, ?_⟩
    · rw [qk_high a b t hat]
      refine ⟨rfl, fun j hj => ?_⟩
      rcases (by omega : j = 0 ∨ j = 1 ∨ j = 2 ∨ j = 3) with rfl | rfl | rfl | rfl <;> rfl
    · rw [rk_high a b t hat]; simp only [magC, wn_zero]; rfl
  case round =>
    obtain ⟨j, Aq, d, hj, rfl, rfl, hAq, rfl⟩ := hrel
    by_cases e : gk = 0
    · subst e
      rw [qk_zero] at hAq
      have hl := hAq.lit
      subst hl
      have hr0 : rk a b 0 = a % b := by simp [rk]
      rw [hr0]
      go_wp2
      go_region
      go_wp2
      exact bodyPost_ret (v := .tuple #[magV (a / b), magV (a % b)]) (by simp [results, Tryz.results99, go_sem]) rfl ⟨rfl, (by repeat (first | (with_reducible exact Ext.refl _) | (with_reducible assumption) | (with_reducible apply Ext.grow) | (with_reducible apply Ext.alloc) | (with_reducible apply Ext.drew) | ((with_reducible apply Ext.set); (case hb => (first | omega | (simp; omega))))))⟩
    · obtain ⟨i, rfl⟩ : ∃ i, gk = i + 1 := ⟨gk - 1, by omega⟩
      have ei : ((i + 1 : Nat) : Int) - 1 = (i : Int) := by omega
      rw [ei]
      have hi64 : i / 64 < 4 := by omega
      have hcq := hAq.2 (i / 64) hi64
      have h1 : IntKind.i64.wrap ((i : Int) / 64) = ((i / 64 : Nat) : Int) := by rw [IntKind.wrap_i64]; omega
      have h3 : min (i % 64) 64 = i % 64 := by omega
      have h6 : ((i : Int) / 64).toNat = i / 64 := by omega
      have h7 : 0 ≤ (i : Int) / 64 := by omega
      have h8 : (i : Int) / 64 < 4 := by omega
      have h9 : ((i : Int) % 64).toNat = i % 64 := by omega
      have h11 : ((i : Int)).tmod 64 = (i : Int) % 64 := by rw [Int.tmod_eq_emod_of_nonneg (by omega)]
      have h10 : 0 ≤ (i : Int) % 64 := by omega
      have hrl : rk a b (i + 1) < b := rk_lt a b (i + 1) hb0
      have cb := bit_any a i (by omega)
      have cd := doubled_mod (rk a b (i + 1)) (bitn a i) (by omega) (bitn_le a i)
      have hbit := bitn_le a i
      have sl := step_lt a b i hb0
      have sg := step_ge a b i hb0
      have hR : 2 * rk a b (i + 1) + bitn a i < 2 * b := by omega
      generalize 2 * rk a b (i + 1) + bitn a i = R at *
      by_cases hlt : R < b
      · obtain ⟨s1, s2⟩ := sl hlt
        clear sg
        have m1 : R % B4 = R := Nat.mod_eq_of_lt (by omega)
        have m2 : R / B4 = 0 := Nat.div_eq_of_lt (by omega)
        have cm := mags_any R b (by omega) hb
        have c3 : cmp3 R b = -1 := by simp [cmp3, hlt]
        rw [m1, m2] at cd
        rw [c3] at cm
        rw [← s2] at hAq
        clear m1 m2 c3 sl s2
        go_wp2
        (first | refine wp_region_k' [.r, .r, .p, .r, .r, .p, .p, .p, .w, .p] (by kernel_rfl) (by kernel_rfl) ?_ | refine wp_region_k [.r, .r, .p, .r, .r, .p, .p, .p, .w, .p] (by kernel_rfl) (by kernel_rfl) ?_); (repeat (first | (refine wpK_p rfl (fun K hK => ?_); go_simp; refine hK _ _ ?_; clear hK K) | (refine wpK_r rfl (fun K hK => ?_); go_simp; refine hK _ _ ?_; clear hK K) | (refine wpK_w rfl (fun K hK => ?_); go_simp; refine hK _ _ ?_; clear hK K) | (refine wpK_r rfl (fun K hK => ?_); go_simp; apply Exists.intro; refine ⟨fun d => ?_, hK _ _ ?_⟩; (first | exact Calls.calm (cb _) | exact Calls.calm (cd _)); clear hK K))); refine wpK_nil ?_; intro d
        go_wp2_with (go_at_call 105; refine (cm _).mono ?_; rintro e w' ⟨rfl, d, rfl⟩)
        go_roundg i
        case measure => omega
        case rel => exact ⟨i, Aq, _, by omega, rfl, by go_num, hAq, by rw [s1]⟩
      · obtain ⟨s1, s2⟩ := sg hlt
        clear sl sg
        have ho := or_put (qk a b (i + 1)) i (qk_mod a b (i + 1))
        rw [← s2, two_cast] at ho
        have hw : IntKind.u64.wrap (2 ^ (i % 64)) = 2 ^ (i % 64) := two_wrap _ (Nat.mod_lt _ (by decide))
        have s2' := Lib.hid s2
        have s1' := Lib.hid s1
        have hlm : R % B4 < B4 := Nat.mod_lt _ (by omega)
        have cl := less_any (R % B4) b hlm hb
        have el : (R % B4 + B ^ 4 - b) % B ^ 4 = R - b := by
          rw [B4_pow]
          by_cases ho4 : R < B4
          · rw [Nat.mod_eq_of_lt ho4, show R + B4 - b = R - b + B4 by omega, Nat.add_mod_right, Nat.mod_eq_of_lt (by omega)]
          · rw [show R % B4 = R - B4 by rw [Nat.mod_eq_sub_mod (by omega), Nat.mod_eq_of_lt (by omega)], show R - B4 + B4 - b = R - b by omega, Nat.mod_eq_of_lt (by omega)]
        rw [el] at cl
        clear s1 s2 el hlm
        by_cases ho4 : R < B4
        · have m1 : R % B4 = R := Nat.mod_eq_of_lt ho4
          have m2 : R / B4 = 0 := Nat.div_eq_of_lt ho4
          have cm := mags_any R b ho4 hb
          have c3 : decide (cmp3 R b ≥ 0) = true := by
            have : ¬ R < b := hlt
            simp only [cmp3, if_neg this]; split <;> simp
          generalize cmp3 R b = z at *
          rw [m1, m2] at cd
          rw [m1] at cl
          clear m1 m2
          go_wp2
          (first | refine wp_region_k' [.r, .r, .p, .r, .r, .p, .p, .p, .w, .p] (by kernel_rfl) (by kernel_rfl) ?_ | refine wp_region_k [.r, .r, .p, .r, .r, .p, .p, .p, .w, .p] (by kernel_rfl) (by kernel_rfl) ?_); (repeat (first | (refine wpK_p rfl (fun K hK => ?_); go_simp; refine hK _ _ ?_; clear hK K) | (refine wpK_r rfl (fun K hK => ?_); go_simp; refine hK _ _ ?_; clear hK K) | (refine wpK_w rfl (fun K hK => ?_); go_simp; refine hK _ _ ?_; clear hK K) | (refine wpK_r rfl (fun K hK => ?_); go_simp; apply Exists.intro; refine ⟨fun d => ?_, hK _ _ ?_⟩; (first | exact Calls.calm (cb _) | exact Calls.calm (cd _)); clear hK K))); refine wpK_nil ?_; intro d
          go_wp2_with (first
            | (go_at_call 105; refine (cm _).mono ?_; rintro e w' ⟨rfl, d, rfl⟩)
            | (go_at_call 106; refine (cl _).mono ?_; rintro e w' ⟨rfl, d, rfl⟩))
          (first | refine wp_region_k' [.p, .p, .p, .r, .p, .p, .p, .p, .p, .w] (by kernel_rfl) (by kernel_rfl) ?_ | refine wp_region_k [.p, .p, .p, .r, .p, .p, .p, .p, .p, .w] (by kernel_rfl) (by kernel_rfl) ?_); (repeat (first | (refine wpK_p rfl (fun K hK => ?_); go_simp; refine hK _ _ ?_; clear hK K) | (refine wpK_r rfl (fun K hK => ?_); go_simp; refine hK _ _ ?_; clear hK K) | (refine wpK_w rfl (fun K hK => ?_); go_simp; refine hK _ _ ?_; clear hK K))); refine wpK_nil ?_; intro d
          go_wp2
          go_roundg i
          case measure => omega
          case rel => exact ⟨i, _, _, by omega, rfl, by go_num, hAq.set (i / 64) _ hi64 rfl (fun k hk hne => by rw [s2'.out, wn_put _ i k (qk_mod a b (i + 1)), if_neg hne]), by rw [s1'.out]⟩
        · have m2 : R / B4 = 1 := by
            rw [Nat.div_eq_sub_div (by omega) (by omega), Nat.div_eq_of_lt (by omega)]
          rw [m2] at cd
          clear m2
          generalize R % B4 = R' at *
          go_wp2
          (first | refine wp_region_k' [.r, .r, .p, .r, .r, .p, .p, .p, .w, .p] (by kernel_rfl) (by kernel_rfl) ?_ | refine wp_region_k [.r, .r, .p, .r, .r, .p, .p, .p, .w, .p] (by kernel_rfl) (by kernel_rfl) ?_); (repeat (first | (refine wpK_p rfl (fun K hK => ?_); go_simp; refine hK _ _ ?_; clear hK K) | (refine wpK_r rfl (fun K hK => ?_); go_simp; refine hK _ _ ?_; clear hK K) | (refine wpK_w rfl (fun K hK => ?_); go_simp; refine hK _ _ ?_; clear hK K) | (refine wpK_r rfl (fun K hK => ?_); go_simp; apply Exists.intro; refine ⟨fun d => ?_, hK _ _ ?_⟩; (first | exact Calls.calm (cb _) | exact Calls.calm (cd _)); clear hK K))); refine wpK_nil ?_; intro d
          go_wp2_with (go_at_call 106; refine (cl _).mono ?_; rintro e w' ⟨rfl, d, rfl⟩)
          (first | refine wp_region_k' [.p, .p, .p, .r, .p, .p, .p, .p, .p, .w] (by kernel_rfl) (by kernel_rfl) ?_ | refine wp_region_k [.p, .p, .p, .r, .p, .p, .p, .p, .p, .w] (by kernel_rfl) (by kernel_rfl) ?_); (repeat (first | (refine wpK_p rfl (fun K hK => ?_); go_simp; refine hK _ _ ?_; clear hK K) | (refine wpK_r rfl (fun K hK => ?_); go_simp; refine hK _ _ ?_; clear hK K) | (refine wpK_w rfl (fun K hK => ?_); go_simp; refine hK _ _ ?_; clear hK K))); refine wpK_nil ?_; intro d
          go_wp2
          go_roundg i
          case measure => omega
          case rel => exact ⟨i, _, _, by omega, rfl, by go_num, hAq.set (i / 64) _ hi64 rfl (fun k hk hne => by rw [s2'.out, wn_put _ i k (qk_mod a b (i + 1)), if_neg hne]), by rw [s1'.out]⟩
end Go.Proofs.YtjkchmegnfbfoaaGreatDoor

namespace Go.Proofs.YtjkchmegnfbfoaaGreatDoor
open Go Go.RowKit
set_option linter.unusedSimpArgs false
set_option linter.unusedVariables false
set_option maxRecDepth 100000

theorem grow_alloc2_grow (w : World) (d e : Gr) (o o' : Obj) : grow (((grow w d).alloc o).alloc o') e = grow w ⟨(d.obs.push o).push o' ++ e.obs, fun k => e.n (d.n k)⟩ := by
  simp [grow, World.alloc]
theorem grow_alloc3_grow (w : World) (d e : Gr) (o o' o'' : Obj) : grow ((((grow w d).alloc o).alloc o').alloc o'') e = grow w ⟨((d.obs.push o).push o').push o'' ++ e.obs, fun k => e.n (d.n k)⟩ := by
  simp [grow, World.alloc]

set_option maxHeartbeats 8000000 in
theorem Add2_no (x y : Int) (hx : x.natAbs < B4) (hy : y.natAbs < B4) (h : ¬ (x + y).natAbs < B4) (w : World) (b cap : Nat) (i1 : IntAt w b 0 (decide (x < 0)) x.natAbs) (i2 : IntAt w b 5 (decide (y < 0)) y.natAbs) :
    Calls Tryz.prog 37 #[.slice (some ⟨b, 0, none⟩) 2 cap] w fun e w' => e = .returned (.tuple #[intZ 0, .int .i64 110]) ∧ Ext w w' := by
  have hmf : ∀ (fn : Fn) (first cap : Array Value) (w : World), (Instr.makeFunc fn first cap).run Tryz.prog w = .ok (.func fn first cap) w := fun _ _ _ _ => rfl
  have cr := fun w' (i1 : IntAt w' b 0 (decide (x < 0)) x.natAbs) i2 => right2_yes _ _ _ _ hx hy (badI_z x) (badI_z y) w' b cap i1 i2
  have s1 := sum_z 0 x (by simp; exact B4_pos) hx (by rw [Int.zero_add]; exact hx)
  rw [Int.zero_add] at s1
  have s2 := sum_zno x y hx hy h
  have z0 : ∀ k, ((wn 0 k : Nat) : Int) = 0 := fun k => by rw [wn_zero]; rfl
  simp only [Int.natAbs_zero, intZ, z0, Int.lt_irrefl, decide_false] at s1
  simp only [intZ] at s2
  clear h hx hy
  obtain ⟨hb, c0, c1, c2, c3, c4⟩ := i1
  obtain ⟨_, e0, e1, e2, e3, e4⟩ := i2
  have j1 : IntAt w b 0 (decide (x < 0)) x.natAbs := ⟨hb, c0, c1, c2, c3, c4⟩
  have j2 : IntAt w b 5 (decide (y < 0)) y.natAbs := ⟨hb, e0, e1, e2, e3, e4⟩
  generalize decide (x < 0) = sx at *
  generalize decide (y < 0) = sy at *
  generalize x.natAbs = mx at *
  generalize y.natAbs = my at *
  have hb1 : b < w.heap.size + 1 := by omega
  have hb2 : b < w.heap.size + 1 + 1 := by omega
  have hb3 : b < w.heap.size + 1 + 1 + 1 := by omega
  go_enter_defers Tryz.func37, Tryz.ntmps37
  go_wp2_with (go_at_call 77; refine (cr _ ((j1.alloc _).alloc _) ((j2.alloc _).alloc _)).mono ?_; rintro e w' ⟨rfl, d, rfl⟩)
  refine wp_loop_rounds 3 ?_
  rw [rounds_succ]
  go_wp2_with (go_at_call 78; refine (s1 _).mono ?_; rintro e w' ⟨rfl, d, rfl⟩; simp only [grow_alloc_grow])
  rw [rounds_succ]
  go_wp2_with (go_at_call 78; refine (s2 _).mono ?_; rintro e w' ⟨rfl, d, rfl⟩; simp only [grow_alloc_grow])
  refine leaves_cons (f := 75) (args := #[.pointer (some ⟨w.heap.size + 1, 0, none⟩), .func (.func 76) #[] #[.pointer (some ⟨w.heap.size, 0, none⟩)]]) (by simp) (by simp [go_sem]) ?_
  refine caught_pan (w.heap.size + 1) 0 110 76 _ [] _ _ (by simp [go_sem]) (by simp [go_sem]) (fun _ _ => by kernel_rfl) ?_
  go_enter Tryz.func76, Tryz.ntmps76
  go_wp2
  go_end0
  refine ⟨rfl, ?_⟩
  simp [Leaves, settle, results, Tryz.results37, go_sem]
  exact ⟨by simp [wn_zero], (by repeat (first | (with_reducible exact Ext.refl _) | (with_reducible assumption) | (with_reducible apply Ext.grow) | (with_reducible apply Ext.alloc) | (with_reducible apply Ext.drew) | ((with_reducible apply Ext.set); (case hb => (first | omega | (simp; omega))))))⟩

set_option maxHeartbeats 8000000 in
theorem Sub_yes (x y : Int) (hx : x.natAbs < B4) (hy : y.natAbs < B4) (h : (x - y).natAbs < B4) (w : World) :
    Calls Tryz.prog 71 #[intZ x, intZ y] w fun e w' => e = .returned (.tuple #[intZ (x - y), .int .i64 0]) ∧ Ext w w' := by
  have cn := Neg_z y hy
  have ca := Add2_yes x (-y) hx (by omega) (by rwa [← Int.sub_eq_add_neg])
  rw [← Int.sub_eq_add_neg] at ca
  simp only [intZ] at *
  clear h hx hy
  generalize decide (x < 0) = sx at *
  generalize decide (y < 0) = sy at *
  generalize decide (-y < 0) = sn at *
  generalize decide (x - y < 0) = sz at *
  generalize (x - y).natAbs = mz at *
  generalize (-y).natAbs = mn at *
  generalize x.natAbs = mx at *
  generalize y.natAbs = my at *
  go_enter Tryz.func71, Tryz.ntmps71
  go_wp2_with (first
    | (go_at_call 100; refine (cn _).mono ?_; rintro e w' ⟨rfl, d, rfl⟩)
    | (go_at_call 37; refine (ca _ _ _ ⟨by simp [go_sem], by simp [go_sem], by simp [go_sem], by simp [go_sem], by simp [go_sem], by simp [go_sem]⟩ ⟨by simp [go_sem], by simp [go_sem], by simp [go_sem], by simp [go_sem], by simp [go_sem], by simp [go_sem]⟩).mono ?_; rintro e w' ⟨rfl, d, rfl⟩; simp only [grow_alloc_grow, grow_alloc2_grow]))
  exact bodyPost_ret (v := .tuple #[intV sz mz, .int .i64 0]) (by simp [results, Tryz.results71, go_sem]) rfl ⟨rfl, (by repeat (first | (with_reducible exact Ext.refl _) | (with_reducible assumption) | (with_reducible apply Ext.grow) | (with_reducible apply Ext.alloc) | (with_reducible apply Ext.drew) | ((with_reducible apply Ext.set); (case hb => (first | omega | (simp; omega))))))⟩
end Go.Proofs.YtjkchmegnfbfoaaGreatDoor

namespace Go.Proofs.YtjkchmegnfbfoaaGreatDoor
open Go Go.RowKit
set_option linter.unusedSimpArgs false
set_option linter.unusedVariables false
set_option maxRecDepth 100000

theorem leaves_limb {fn : Func} {tmps : Array Value} {R : Ending → World → Prop} {p : Addr} {fv : Value} {w : World} (v : Value)
    (hr : (results fn tmps).run Tryz.prog w = .ok v w) (h : R (.returned v) w) :
    Leaves Tryz.prog fn tmps R [{ target := .fn (.func 75) #[], args := #[.pointer (some p), fv] }] .returning w := by
  refine leaves_cons (f := 75) (args := #[.pointer (some p), fv]) (by simp) (by simp [go_sem]) ?_
  refine (caught_idle _ _ _).mono ?_
  rintro e u' w'' ⟨rfl, rfl, rfl⟩
  simp only [Leaves, settle]
  exact ⟨v, hr, h⟩
theorem leaves_limb_pan {fn : Func} {tmps : Array Value} {R : Ending → World → Prop} {pb : Nat} (x e : Int) (g : Nat) (caps : Array Value) {w : World}
    (hc : w.cell? ⟨pb, 0, none⟩ = some (.int .i64 x)) (hz : w.frozen? ⟨pb, 0, none⟩ = false)
    (eg : ∀ args w, (callFunc g args).run Tryz.prog w = .ok (.enter g args) w)
    (hg : Calls Tryz.prog g caps (w.setCell ⟨pb, 0, none⟩ (.int .i64 e)) fun e' w' => e' = .returned (.tuple #[]) ∧ ∃ v, (results fn tmps).run Tryz.prog w' = .ok v w' ∧ R (.returned v) w') :
    Leaves Tryz.prog fn tmps R [{ target := .fn (.func 75) #[], args := #[.pointer (some ⟨pb, 0, none⟩), .func (.func g) #[] caps] }] (.panicking [{ v := .iface 37 (.int .i64 e), recovered := false }]) w := by
  refine leaves_cons (f := 75) (args := #[.pointer (some ⟨pb, 0, none⟩), .func (.func g) #[] caps]) (by simp) (by simp [go_sem]) ?_
  refine caught_pan pb x e g _ [] _ _ hc hz eg (hg.mono ?_)
  rintro e' w' ⟨rfl, v, hr, h⟩
  refine ⟨rfl, ?_⟩
  simp only [Leaves, settle]
  exact ⟨v, hr, h⟩
end Go.Proofs.YtjkchmegnfbfoaaGreatDoor

namespace Go.Proofs.YtjkchmegnfbfoaaGreatDoor
open Go Go.RowKit
set_option linter.unusedSimpArgs false
set_option linter.unusedVariables false
set_option maxRecDepth 100000

set_option maxHeartbeats 8000000 in
theorem Quo_yes (s1 : Bool) (m1 : Nat) (s2 : Bool) (m2 : Nat) (h1 : m1 < B4) (h2 : m2 < B4) (g1 : badI s1 m1 = false) (g2 : badI s2 m2 = false) (h0 : m2 ≠ 0) (w : World) :
    Calls Tryz.prog 70 #[intV s1 m1, intV s2 m2] w fun e w' => e = .returned (.tuple #[intV ((s1 != s2) && !decide (m1 / m2 = 0)) (m1 / m2), intV (s1 && !decide (m1 % m2 = 0)) (m1 % m2), .int .i64 0]) ∧ Ext w w' := by
  have hmf : ∀ (fn : Fn) (first cap : Array Value) (w : World), (Instr.makeFunc fn first cap).run Tryz.prog w = .ok (.func fn first cap) w := fun _ _ _ _ => rfl
  have cr := right2_yes s1 m1 s2 m2 h1 h2 g1 g2
  have hd : decide (m2 = 0) = false := by simp [h0]
  have cp := parts_any m1 m2 h1 (by omega) h2
  have hq : m1 / m2 < B4 := Nat.lt_of_le_of_lt (Nat.div_le_self _ _) h1
  have hr : m1 % m2 < B4 := Nat.lt_of_lt_of_le (Nat.mod_lt _ (by omega)) (by omega)
  have co1 := of_any (!(s1 == s2)) (m1 / m2) hq
  have co2 := of_any s1 (m1 % m2) hr
  rw [show (s1 != s2) = !(s1 == s2) from rfl]
  generalize ((!(s1 == s2)) && !decide (m1 / m2 = 0)) = z1 at *
  generalize (s1 && !decide (m1 % m2 = 0)) = z2 at *
  clear hq hr h1 g1 g2 h0
  generalize m1 / m2 = q at *
  generalize m1 % m2 = r at *
  go_enter_defers Tryz.func70, Tryz.ntmps70
  go_wp2_with (first
    | (go_at_call 77; refine (cr _ _ _ ⟨by simp, by simp [go_sem], by simp [go_sem], by simp [go_sem], by simp [go_sem], by simp [go_sem]⟩ ⟨by simp, by simp [go_sem], by simp [go_sem], by simp [go_sem], by simp [go_sem], by simp [go_sem]⟩).mono ?_; rintro e w' ⟨rfl, d, rfl⟩)
    | (go_at_call 98; refine (must_yes _ _).mono ?_; rintro e w' ⟨rfl, rfl⟩)
    | (go_at_call 99; refine (cp _).mono ?_; rintro e w' ⟨rfl, d2, rfl⟩))
  refine wp_rebase fun v hv => ?_
  have hx : Ext w v := by rw [hv]; exact (by repeat (first | (with_reducible exact Ext.refl _) | (with_reducible assumption) | (with_reducible apply Ext.grow) | (with_reducible apply Ext.alloc) | (with_reducible apply Ext.drew) | ((with_reducible apply Ext.set); (case hb => (first | omega | (simp; omega))))))
  have B2 : Blk v w.heap.size (ints1 s1 m1) 25 := by rw [hv]; exact (by repeat (first | (with_reducible assumption) | ((with_reducible refine Blk.new _ _ _ ?_); (simp; done)) | (with_reducible apply Blk.alloc) | (with_reducible apply Blk.grow) | (with_reducible apply Blk.drew) | (with_reducible apply Blk.set10) | (with_reducible apply Blk.set5) | (with_reducible apply Blk.set4) | (with_reducible apply Blk.tail4) | (with_reducible apply Blk.set2) | (with_reducible apply Blk.set1) | ((with_reducible apply Blk.setOther); (case hne => omega))))
  have B3 : Blk v (w.heap.size + 1) (ints1 s2 m2) 25 := by rw [hv]; exact (by repeat (first | (with_reducible assumption) | ((with_reducible refine Blk.new _ _ _ ?_); (simp; done)) | (with_reducible apply Blk.alloc) | (with_reducible apply Blk.grow) | (with_reducible apply Blk.drew) | (with_reducible apply Blk.set10) | (with_reducible apply Blk.set5) | (with_reducible apply Blk.set4) | (with_reducible apply Blk.tail4) | (with_reducible apply Blk.set2) | (with_reducible apply Blk.set1) | ((with_reducible apply Blk.setOther); (case hne => omega))))
  have BX : Blk v (w.heap.size + 1 + 1) #[.bool false, .int .u64 0, .int .u64 0, .int .u64 0, .int .u64 0] 25 := by rw [hv]; exact (by repeat (first | (with_reducible assumption) | ((with_reducible refine Blk.new _ _ _ ?_); (simp; done)) | (with_reducible apply Blk.alloc) | (with_reducible apply Blk.grow) | (with_reducible apply Blk.drew) | (with_reducible apply Blk.set10) | (with_reducible apply Blk.set5) | (with_reducible apply Blk.set4) | (with_reducible apply Blk.tail4) | (with_reducible apply Blk.set2) | (with_reducible apply Blk.set1) | ((with_reducible apply Blk.setOther); (case hne => omega))))
  have BY : Blk v (w.heap.size + 1 + 1 + 1) #[.bool false, .int .u64 0, .int .u64 0, .int .u64 0, .int .u64 0] 25 := by rw [hv]; exact (by repeat (first | (with_reducible assumption) | ((with_reducible refine Blk.new _ _ _ ?_); (simp; done)) | (with_reducible apply Blk.alloc) | (with_reducible apply Blk.grow) | (with_reducible apply Blk.drew) | (with_reducible apply Blk.set10) | (with_reducible apply Blk.set5) | (with_reducible apply Blk.set4) | (with_reducible apply Blk.tail4) | (with_reducible apply Blk.set2) | (with_reducible apply Blk.set1) | ((with_reducible apply Blk.setOther); (case hne => omega))))
  have BE : Blk v (w.heap.size + 1 + 1 + 1 + 1) #[.int .i64 0] 37 := by rw [hv]; exact (by repeat (first | (with_reducible assumption) | ((with_reducible refine Blk.new _ _ _ ?_); (simp; done)) | (with_reducible apply Blk.alloc) | (with_reducible apply Blk.grow) | (with_reducible apply Blk.drew) | (with_reducible apply Blk.set10) | (with_reducible apply Blk.set5) | (with_reducible apply Blk.set4) | (with_reducible apply Blk.tail4) | (with_reducible apply Blk.set2) | (with_reducible apply Blk.set1) | ((with_reducible apply Blk.setOther); (case hne => omega))))
  generalize hb7 : w.heap.size + 1 + 1 + 1 + 1 + 1 + 1 + (d.obs.size + d2.obs.size) = b7 at *
  have B7 : Blk v b7 #[q64 (wn q 0), q64 (wn q 1), q64 (wn q 2), q64 (wn q 3)] 109 := by rw [hv]; apply Blk.alloc; exact Blk.new _ _ _ (by simp [← hb7])
  have B8 : Blk v (b7 + 1) #[q64 (wn r 0), q64 (wn r 1), q64 (wn r 2), q64 (wn r 3)] 109 := by rw [hv]; exact Blk.new _ _ _ (by simp [← hb7])
  clear hv hb7
  have l2 := B2.lt; have c2 := B2.cell; have f2 := B2.frozen
  have l3 := B3.lt; have c3 := B3.cell; have f3 := B3.frozen
  have lX := BX.lt; have cX := BX.cell; have fX := BX.frozen
  have lY := BY.lt; have cY := BY.cell; have fY := BY.frozen
  have lE := BE.lt; have cE := BE.cell; have fE := BE.frozen
  have l7 := B7.lt; have c7 := B7.cell; have f7 := B7.frozen
  have l8 := B8.lt; have c8 := B8.cell; have f8 := B8.frozen
  clear B2 B3 BX BY BE B7 B8
  (first | refine wp_region_k' [.p, .r, .p, .r, .p, .r, .r, .p, .r, .r, .r, .w, .w, .w] (by kernel_rfl) (by kernel_rfl) ?_ | refine wp_region_k [.p, .r, .p, .r, .p, .r, .r, .p, .r, .r, .r, .w, .w, .w] (by kernel_rfl) (by kernel_rfl) ?_); (repeat (first | (refine wpK_p rfl (fun K hK => ?_); go_simp; refine hK _ _ ?_; clear hK K) | (refine wpK_r rfl (fun K hK => ?_); go_simp; refine hK _ _ ?_; clear hK K) | (refine wpK_w rfl (fun K hK => ?_); go_simp; refine hK _ _ ?_; clear hK K) | (refine wpK_r rfl (fun K hK => ?_); go_simp; apply Exists.intro; refine ⟨fun d => ?_, hK _ _ ?_⟩; (first | (with_reducible exact Calls.calm (co1 _)) | (with_reducible exact Calls.calm (co2 _))); clear hK K))); refine wpK_nil ?_; intro d
  go_wp2
  refine leaves_limb (.tuple #[intV z1 q, intV z2 r, .int .i64 0]) (by simp [results, Tryz.results70, go_sem, lX, lY, lE, cX, cY, cE]) ⟨rfl, ?_⟩
  refine Ext.grow _ ?_
  exact ((((((((((hx.setCell _ _ (by simp; omega)).setCell _ _ (by simp; omega)).setCell _ _ (by simp; omega)).setCell _ _ (by simp; omega)).setCell _ _ (by simp; omega)).setCell _ _ (by simp; omega)).setCell _ _ (by simp; omega)).setCell _ _ (by simp; omega)).setCell _ _ (by simp; omega)).setCell _ _ (by simp; omega)).setCell _ _ (by simp; omega)
end Go.Proofs.YtjkchmegnfbfoaaGreatDoor

namespace Go.Proofs.YtjkchmegnfbfoaaGreatDoor
open Go Go.RowKit
set_option linter.unusedSimpArgs false
set_option linter.unusedVariables false
set_option maxRecDepth 100000

theorem rmust_yes (e : Int) (w : World) : Calls Tryz.prog 47 #[.bool true, .int .i64 e] w fun e' w' => e' = .returned (.tuple #[]) ∧ w' = w := by
  go_enter Tryz.func47, Tryz.ntmps47
  go_wp2
  go_end0
  exact ⟨rfl, rfl⟩
theorem rmust_no (e : Int) (w : World) : Calls Tryz.prog 47 #[.bool false, .int .i64 e] w fun e' w' => e' = givesUp e ∧ w' = w := by
  go_enter Tryz.func47, Tryz.ntmps47
  go_wp2
  exact ⟨rfl, rfl, rfl⟩

theorem run_copy4 (W : World) (T : TypeId) (b1 o1 n1 b2 n2 m2 : Nat) (x0 x1 x2 x3 : Int) (y0 y1 y2 y3 : Value) (hn : 4 ≤ n2)
    (h0 : W.cell? ⟨b2, 0, none⟩ = some (.int .u64 x0)) (h1 : W.cell? ⟨b2, 1, none⟩ = some (.int .u64 x1)) (h2 : W.cell? ⟨b2, 2, none⟩ = some (.int .u64 x2)) (h3 : W.cell? ⟨b2, 3, none⟩ = some (.int .u64 x3))
    (g0 : W.cell? ⟨b1, o1, none⟩ = some y0) (g1 : W.cell? ⟨b1, o1 + 1, none⟩ = some y1) (g2 : W.cell? ⟨b1, o1 + 2, none⟩ = some y2) (g3 : W.cell? ⟨b1, o1 + 3, none⟩ = some y3)
    (f : ∀ i, W.frozen? ⟨b1, i, none⟩ = false) :
    (Builtin.copy_ #[147, 147] T #[.slice (some ⟨b1, o1, none⟩) 4 n1, .slice (some ⟨b2, 0, none⟩) n2 m2]).run Tryz.prog W =
      .ok (.int .i64 4) ((((W.setCell ⟨b1, o1, none⟩ (.int .u64 x0)).setCell ⟨b1, o1 + 1, none⟩ (.int .u64 x1)).setCell ⟨b1, o1 + 2, none⟩ (.int .u64 x2)).setCell ⟨b1, o1 + 3, none⟩ (.int .u64 x3)) := by
  have hm : Nat.min n2 4 = 4 := Nat.min_eq_right hn
  simp [Builtin.copy_, go_sem, Builtin.lenOf, Builtin.firstCells, hm, h0, h1, h2, h3, g0, g1, g2, g3, f]
theorem run_clear4 (W : World) (T : TypeId) (b1 m1 : Nat) (y0 y1 y2 y3 : Value)
    (g0 : W.cell? ⟨b1, 0, none⟩ = some y0) (g1 : W.cell? ⟨b1, 1, none⟩ = some y1) (g2 : W.cell? ⟨b1, 2, none⟩ = some y2) (g3 : W.cell? ⟨b1, 3, none⟩ = some y3)
    (f : ∀ i, W.frozen? ⟨b1, i, none⟩ = false) :
    (Builtin.clear_ #[147] T #[.slice (some ⟨b1, 0, none⟩) 4 m1]).run Tryz.prog W =
      .ok (.tuple #[]) ((((W.setCell ⟨b1, 0, none⟩ (.int .u64 0)).setCell ⟨b1, 1, none⟩ (.int .u64 0)).setCell ⟨b1, 2, none⟩ (.int .u64 0)).setCell ⟨b1, 3, none⟩ (.int .u64 0)) := by
  have hz : ∀ w, (zeroValue 22).run Tryz.prog w = .ok (.int .u64 0) w := fun w => by kernel_rfl
  simp [Builtin.clear_, go_sem, hz, Builtin.zeroCells, g0, g1, g2, g3, f]
theorem wn_rest_lo (a i : Nat) (h : i < 4) : wn (a / B4 * B4) i = 0 := by
  unfold wn B4
  have e : B ^ 4 = B ^ i * (B ^ (3 - i) * B) := by
    rw [← Nat.pow_succ, ← Nat.pow_add]; congr 1; omega
  rw [e]
  generalize a / (B ^ i * (B ^ (3 - i) * B)) = q
  rw [show q * (B ^ i * (B ^ (3 - i) * B)) = B ^ i * (q * B ^ (3 - i) * B) by rw [Nat.mul_left_comm, Nat.mul_assoc], Nat.mul_div_cancel_left _ (Nat.pow_pos B_pos)]
  exact Nat.mul_mod_left (q * B ^ (3 - i)) B
theorem wn_rest_hi (a j : Nat) : wn (a / B4 * B4) (4 + j) = wn a (4 + j) := by
  unfold wn B4
  rw [Nat.pow_add, ← Nat.div_div_eq_div_mul, ← Nat.div_div_eq_div_mul, Nat.mul_div_cancel _ (Nat.pow_pos B_pos)]
theorem run_eq_rest (a : Nat) (ha : a < B9) (w : World) : (Op.equalIn 10000 82 (.agg #[.int .u64 0, .int .u64 0, .int .u64 0, .int .u64 0, q64 (wn a 4), q64 (wn a 5), q64 (wn a 6), q64 (wn a 7), q64 (wn a 8)]) (.agg #[.int .u64 0, .int .u64 0, .int .u64 0, .int .u64 0, .int .u64 0, .int .u64 0, .int .u64 0, .int .u64 0, .int .u64 0])).run Tryz.prog w = .ok (decide (a < B4)) w := by
  have hr := run_eq_widez (a / B4 * B4) (Nat.lt_of_le_of_lt (Nat.div_mul_le_self _ _) ha) w
  simp only [wideV, wn_rest_lo a 0 (by omega), wn_rest_lo a 1 (by omega), wn_rest_lo a 2 (by omega), wn_rest_lo a 3 (by omega), wn_rest_hi a 0, wn_rest_hi a 1, wn_rest_hi a 2, wn_rest_hi a 3, wn_rest_hi a 4] at hr
  refine hr.trans ?_
  congr 1
  rw [decide_eq_decide]
  have := B4_pos
  constructor
  · intro h
    rcases Nat.mul_eq_zero.1 h with h | h
    · exact (Nat.div_eq_zero_iff_lt this).1 h
    · omega
  · intro h; rw [Nat.div_eq_of_lt h, Nat.zero_mul]
set_option maxHeartbeats 4000000 in
theorem narrow_yes (a : Nat) (s : Bool) (ha : a < B4) (w : World) :
    Calls Tryz.prog 87 #[wideV a, .bool s] w fun e w' => e = .returned (intV (s && !decide (a = 0)) a) ∧ Ext w w' := by
  have hz := run_eq_widez a (Nat.lt_trans ha (by decide))
  have hr := run_eq_rest a (Nat.lt_trans ha (by decide))
  have ht : decide (a < B4) = true := decide_eq_true ha
  clear ha
  generalize decide (a = 0) = db at *
  cases s
  · simp only [Bool.false_and]
    go_enter Tryz.func87, Tryz.ntmps87
    go_wp2
    refine wp_rebase fun v hv => ?_
    have hx : Ext w v := by rw [hv]; exact (by repeat (first | (with_reducible exact Ext.refl _) | (with_reducible assumption) | (with_reducible apply Ext.grow) | (with_reducible apply Ext.alloc) | (with_reducible apply Ext.drew) | ((with_reducible apply Ext.set); (case hb => (first | omega | (simp; omega))))))
    have B1 : Blk v w.heap.size #[q64 (wn a 0), q64 (wn a 1), q64 (wn a 2), q64 (wn a 3), q64 (wn a 4), q64 (wn a 5), q64 (wn a 6), q64 (wn a 7), q64 (wn a 8)] 82 := by rw [hv]; exact (by repeat (first | (with_reducible assumption) | ((with_reducible refine Blk.new _ _ _ ?_); (simp; done)) | (with_reducible apply Blk.alloc) | (with_reducible apply Blk.grow) | (with_reducible apply Blk.drew) | (with_reducible apply Blk.set10) | (with_reducible apply Blk.set5) | (with_reducible apply Blk.set4) | (with_reducible apply Blk.tail4) | (with_reducible apply Blk.set2) | (with_reducible apply Blk.set1) | ((with_reducible apply Blk.setOther); (case hne => omega))))
    have BR : Blk v (w.heap.size + 1) #[.bool false, .int .u64 0, .int .u64 0, .int .u64 0, .int .u64 0] 25 := by rw [hv]; exact (by repeat (first | (with_reducible assumption) | ((with_reducible refine Blk.new _ _ _ ?_); (simp; done)) | (with_reducible apply Blk.alloc) | (with_reducible apply Blk.grow) | (with_reducible apply Blk.drew) | (with_reducible apply Blk.set10) | (with_reducible apply Blk.set5) | (with_reducible apply Blk.set4) | (with_reducible apply Blk.tail4) | (with_reducible apply Blk.set2) | (with_reducible apply Blk.set1) | ((with_reducible apply Blk.setOther); (case hne => omega))))
    have BO : Blk v (w.heap.size + 1 + 1) #[.bool false, .int .u64 0, .int .u64 0, .int .u64 0, .int .u64 0] 25 := by rw [hv]; exact (by repeat (first | (with_reducible assumption) | ((with_reducible refine Blk.new _ _ _ ?_); (simp; done)) | (with_reducible apply Blk.alloc) | (with_reducible apply Blk.grow) | (with_reducible apply Blk.drew) | (with_reducible apply Blk.set10) | (with_reducible apply Blk.set5) | (with_reducible apply Blk.set4) | (with_reducible apply Blk.tail4) | (with_reducible apply Blk.set2) | (with_reducible apply Blk.set1) | ((with_reducible apply Blk.setOther); (case hne => omega))))
    clear hv
    have hc := run_copy4 v.drew 3 (w.heap.size + 1 + 1) 1 4 w.heap.size 9 9 _ _ _ _ _ _ _ _ (by omega) (B1.drew.cell 0) (B1.drew.cell 1) (B1.drew.cell 2) (B1.drew.cell 3) (BO.drew.cell 1) (BO.drew.cell 2) (BO.drew.cell 3) (BO.drew.cell 4) BO.drew.frozen
    have lB1 := B1.lt; have cB1 := B1.cell; have fB1 := B1.frozen; have lBR := BR.lt; have cBR := BR.cell; have fBR := BR.frozen; have lBO := BO.lt; have cBO := BO.cell; have fBO := BO.frozen
    go_region
    go_wp2
    with_reducible rw [run_clear4 (y0 := q64 (wn a 0)) (y1 := q64 (wn a 1)) (y2 := q64 (wn a 2)) (y3 := q64 (wn a 3))]
    case g0 => simp [go_sem]
    case g1 => simp [go_sem]
    case g2 => simp [go_sem]
    case g3 => simp [go_sem]
    case f => intro i; simp [go_sem]
    go_simp
    go_wp2_with (go_at_call 47; refine (rmust_yes _ _).mono ?_; rintro e w' ⟨rfl, rfl⟩)
    refine bp_rebase fun u hu => ?_
    have hy : Ext w u := by rw [hu]; exact (by repeat (first | (with_reducible exact Ext.refl _) | (with_reducible assumption) | (with_reducible apply Ext.grow) | (with_reducible apply Ext.alloc) | (with_reducible apply Ext.drew) | ((with_reducible apply Ext.set); (case hb => (first | omega | (simp; omega))))))
    have BF : Blk u (w.heap.size + 1) (ints1 false a) 25 := by rw [hu]; exact (by repeat (first | (with_reducible assumption) | ((with_reducible refine Blk.new _ _ _ ?_); (simp; done)) | (with_reducible apply Blk.alloc) | (with_reducible apply Blk.grow) | (with_reducible apply Blk.drew) | (with_reducible apply Blk.set10) | (with_reducible apply Blk.set5) | (with_reducible apply Blk.set4) | (with_reducible apply Blk.tail4) | (with_reducible apply Blk.set2) | (with_reducible apply Blk.set1) | ((with_reducible apply Blk.setOther); (case hne => omega))))
    clear hu
    have lBF := BF.lt; have cBF := BF.cell; have fBF := BF.frozen; clear BF
    exact bodyPost_ret (v := intV false a) (by simp [results, Tryz.results87, go_sem, cBF]) rfl ⟨rfl, hy⟩
  · simp only [Bool.true_and]
    go_enter Tryz.func87, Tryz.ntmps87
    go_wp2
    refine wp_rebase fun v hv => ?_
    have hx : Ext w v := by rw [hv]; exact (by repeat (first | (with_reducible exact Ext.refl _) | (with_reducible assumption) | (with_reducible apply Ext.grow) | (with_reducible apply Ext.alloc) | (with_reducible apply Ext.drew) | ((with_reducible apply Ext.set); (case hb => (first | omega | (simp; omega))))))
    have B1 : Blk v w.heap.size #[q64 (wn a 0), q64 (wn a 1), q64 (wn a 2), q64 (wn a 3), q64 (wn a 4), q64 (wn a 5), q64 (wn a 6), q64 (wn a 7), q64 (wn a 8)] 82 := by rw [hv]; exact (by repeat (first | (with_reducible assumption) | ((with_reducible refine Blk.new _ _ _ ?_); (simp; done)) | (with_reducible apply Blk.alloc) | (with_reducible apply Blk.grow) | (with_reducible apply Blk.drew) | (with_reducible apply Blk.set10) | (with_reducible apply Blk.set5) | (with_reducible apply Blk.set4) | (with_reducible apply Blk.tail4) | (with_reducible apply Blk.set2) | (with_reducible apply Blk.set1) | ((with_reducible apply Blk.setOther); (case hne => omega))))
    have BR : Blk v (w.heap.size + 1) #[.bool false, .int .u64 0, .int .u64 0, .int .u64 0, .int .u64 0] 25 := by rw [hv]; exact (by repeat (first | (with_reducible assumption) | ((with_reducible refine Blk.new _ _ _ ?_); (simp; done)) | (with_reducible apply Blk.alloc) | (with_reducible apply Blk.grow) | (with_reducible apply Blk.drew) | (with_reducible apply Blk.set10) | (with_reducible apply Blk.set5) | (with_reducible apply Blk.set4) | (with_reducible apply Blk.tail4) | (with_reducible apply Blk.set2) | (with_reducible apply Blk.set1) | ((with_reducible apply Blk.setOther); (case hne => omega))))
    have BO : Blk v (w.heap.size + 1 + 1) #[.bool (!db), .int .u64 0, .int .u64 0, .int .u64 0, .int .u64 0] 25 := by rw [hv]; exact (by repeat (first | (with_reducible assumption) | ((with_reducible refine Blk.new _ _ _ ?_); (simp; done)) | (with_reducible apply Blk.alloc) | (with_reducible apply Blk.grow) | (with_reducible apply Blk.drew) | (with_reducible apply Blk.set10) | (with_reducible apply Blk.set5) | (with_reducible apply Blk.set4) | (with_reducible apply Blk.tail4) | (with_reducible apply Blk.set2) | (with_reducible apply Blk.set1) | ((with_reducible apply Blk.setOther); (case hne => omega))))
    clear hv
    have hc := run_copy4 v.drew 3 (w.heap.size + 1 + 1) 1 4 w.heap.size 9 9 _ _ _ _ _ _ _ _ (by omega) (B1.drew.cell 0) (B1.drew.cell 1) (B1.drew.cell 2) (B1.drew.cell 3) (BO.drew.cell 1) (BO.drew.cell 2) (BO.drew.cell 3) (BO.drew.cell 4) BO.drew.frozen
    have lB1 := B1.lt; have cB1 := B1.cell; have fB1 := B1.frozen; have lBR := BR.lt; have cBR := BR.cell; have fBR := BR.frozen; have lBO := BO.lt; have cBO := BO.cell; have fBO := BO.frozen
    go_region
    go_wp2
    with_reducible rw [run_clear4 (y0 := q64 (wn a 0)) (y1 := q64 (wn a 1)) (y2 := q64 (wn a 2)) (y3 := q64 (wn a 3))]
    case g0 => simp [go_sem]
    case g1 => simp [go_sem]
    case g2 => simp [go_sem]
    case g3 => simp [go_sem]
    case f => intro i; simp [go_sem]
    go_simp
    go_wp2_with (go_at_call 47; refine (rmust_yes _ _).mono ?_; rintro e w' ⟨rfl, rfl⟩)
    refine bp_rebase fun u hu => ?_
    have hy : Ext w u := by rw [hu]; exact (by repeat (first | (with_reducible exact Ext.refl _) | (with_reducible assumption) | (with_reducible apply Ext.grow) | (with_reducible apply Ext.alloc) | (with_reducible apply Ext.drew) | ((with_reducible apply Ext.set); (case hb => (first | omega | (simp; omega))))))
    have BF : Blk u (w.heap.size + 1) (ints1 (!db) a) 25 := by rw [hu]; exact (by repeat (first | (with_reducible assumption) | ((with_reducible refine Blk.new _ _ _ ?_); (simp; done)) | (with_reducible apply Blk.alloc) | (with_reducible apply Blk.grow) | (with_reducible apply Blk.drew) | (with_reducible apply Blk.set10) | (with_reducible apply Blk.set5) | (with_reducible apply Blk.set4) | (with_reducible apply Blk.tail4) | (with_reducible apply Blk.set2) | (with_reducible apply Blk.set1) | ((with_reducible apply Blk.setOther); (case hne => omega))))
    clear hu
    have lBF := BF.lt; have cBF := BF.cell; have fBF := BF.frozen; clear BF
    exact bodyPost_ret (v := intV (!db) a) (by simp [results, Tryz.results87, go_sem, cBF]) rfl ⟨rfl, hy⟩
set_option maxHeartbeats 4000000 in
theorem narrow_no (a : Nat) (s : Bool) (ha : ¬ a < B4) (h9 : a < B9) (w : World) :
    Calls Tryz.prog 87 #[wideV a, .bool s] w fun e w' => e = givesUp 110 ∧ Ext w w' := by
  have hz := run_eq_widez a h9
  have hr := run_eq_rest a h9
  have ht : decide (a < B4) = false := decide_eq_false ha
  clear ha h9
  generalize decide (a = 0) = db at *
  cases s
  · skip
    go_enter Tryz.func87, Tryz.ntmps87
    go_wp2
    refine wp_rebase fun v hv => ?_
    have hx : Ext w v := by rw [hv]; exact (by repeat (first | (with_reducible exact Ext.refl _) | (with_reducible assumption) | (with_reducible apply Ext.grow) | (with_reducible apply Ext.alloc) | (with_reducible apply Ext.drew) | ((with_reducible apply Ext.set); (case hb => (first | omega | (simp; omega))))))
    have B1 : Blk v w.heap.size #[q64 (wn a 0), q64 (wn a 1), q64 (wn a 2), q64 (wn a 3), q64 (wn a 4), q64 (wn a 5), q64 (wn a 6), q64 (wn a 7), q64 (wn a 8)] 82 := by rw [hv]; exact (by repeat (first | (with_reducible assumption) | ((with_reducible refine Blk.new _ _ _ ?_); (simp; done)) | (with_reducible apply Blk.alloc) | (with_reducible apply Blk.grow) | (with_reducible apply Blk.drew) | (with_reducible apply Blk.set10) | (with_reducible apply Blk.set5) | (with_reducible apply Blk.set4) | (with_reducible apply Blk.tail4) | (with_reducible apply Blk.set2) | (with_reducible apply Blk.set1) | ((with_reducible apply Blk.setOther); (case hne => omega))))
    have BR : Blk v (w.heap.size + 1) #[.bool false, .int .u64 0, .int .u64 0, .int .u64 0, .int .u64 0] 25 := by rw [hv]; exact (by repeat (first | (with_reducible assumption) | ((with_reducible refine Blk.new _ _ _ ?_); (simp; done)) | (with_reducible apply Blk.alloc) | (with_reducible apply Blk.grow) | (with_reducible apply Blk.drew) | (with_reducible apply Blk.set10) | (with_reducible apply Blk.set5) | (with_reducible apply Blk.set4) | (with_reducible apply Blk.tail4) | (with_reducible apply Blk.set2) | (with_reducible apply Blk.set1) | ((with_reducible apply Blk.setOther); (case hne => omega))))
    have BO : Blk v (w.heap.size + 1 + 1) #[.bool false, .int .u64 0, .int .u64 0, .int .u64 0, .int .u64 0] 25 := by rw [hv]; exact (by repeat (first | (with_reducible assumption) | ((with_reducible refine Blk.new _ _ _ ?_); (simp; done)) | (with_reducible apply Blk.alloc) | (with_reducible apply Blk.grow) | (with_reducible apply Blk.drew) | (with_reducible apply Blk.set10) | (with_reducible apply Blk.set5) | (with_reducible apply Blk.set4) | (with_reducible apply Blk.tail4) | (with_reducible apply Blk.set2) | (with_reducible apply Blk.set1) | ((with_reducible apply Blk.setOther); (case hne => omega))))
    clear hv
    have hc := run_copy4 v.drew 3 (w.heap.size + 1 + 1) 1 4 w.heap.size 9 9 _ _ _ _ _ _ _ _ (by omega) (B1.drew.cell 0) (B1.drew.cell 1) (B1.drew.cell 2) (B1.drew.cell 3) (BO.drew.cell 1) (BO.drew.cell 2) (BO.drew.cell 3) (BO.drew.cell 4) BO.drew.frozen
    have lB1 := B1.lt; have cB1 := B1.cell; have fB1 := B1.frozen; have lBR := BR.lt; have cBR := BR.cell; have fBR := BR.frozen; have lBO := BO.lt; have cBO := BO.cell; have fBO := BO.frozen
    go_region
    go_wp2
    with_reducible rw [run_clear4 (y0 := q64 (wn a 0)) (y1 := q64 (wn a 1)) (y2 := q64 (wn a 2)) (y3 := q64 (wn a 3))]
    case g0 => simp [go_sem]
    case g1 => simp [go_sem]
    case g2 => simp [go_sem]
    case g3 => simp [go_sem]
    case f => intro i; simp [go_sem]
    go_simp
    go_wp2_with (go_at_call 47; refine (rmust_no _ _).mono ?_; rintro e w' ⟨rfl, rfl⟩)
    exact ⟨rfl, rfl, (by repeat (first | (with_reducible exact Ext.refl _) | (with_reducible assumption) | (with_reducible apply Ext.grow) | (with_reducible apply Ext.alloc) | (with_reducible apply Ext.drew) | ((with_reducible apply Ext.set); (case hb => (first | omega | (simp; omega))))))⟩
  · skip
    go_enter Tryz.func87, Tryz.ntmps87
    go_wp2
    refine wp_rebase fun v hv => ?_
    have hx : Ext w v := by rw [hv]; exact (by repeat (first | (with_reducible exact Ext.refl _) | (with_reducible assumption) | (with_reducible apply Ext.grow) | (with_reducible apply Ext.alloc) | (with_reducible apply Ext.drew) | ((with_reducible apply Ext.set); (case hb => (first | omega | (simp; omega))))))
    have B1 : Blk v w.heap.size #[q64 (wn a 0), q64 (wn a 1), q64 (wn a 2), q64 (wn a 3), q64 (wn a 4), q64 (wn a 5), q64 (wn a 6), q64 (wn a 7), q64 (wn a 8)] 82 := by rw [hv]; exact (by repeat (first | (with_reducible assumption) | ((with_reducible refine Blk.new _ _ _ ?_); (simp; done)) | (with_reducible apply Blk.alloc) | (with_reducible apply Blk.grow) | (with_reducible apply Blk.drew) | (with_reducible apply Blk.set10) | (with_reducible apply Blk.set5) | (with_reducible apply Blk.set4) | (with_reducible apply Blk.tail4) | (with_reducible apply Blk.set2) | (with_reducible apply Blk.set1) | ((with_reducible apply Blk.setOther); (case hne => omega))))
    have BR : Blk v (w.heap.size + 1) #[.bool false, .int .u64 0, .int .u64 0, .int .u64 0, .int .u64 0] 25 := by rw [hv]; exact (by repeat (first | (with_reducible assumption) | ((with_reducible refine Blk.new _ _ _ ?_); (simp; done)) | (with_reducible apply Blk.alloc) | (with_reducible apply Blk.grow) | (with_reducible apply Blk.drew) | (with_reducible apply Blk.set10) | (with_reducible apply Blk.set5) | (with_reducible apply Blk.set4) | (with_reducible apply Blk.tail4) | (with_reducible apply Blk.set2) | (with_reducible apply Blk.set1) | ((with_reducible apply Blk.setOther); (case hne => omega))))
    have BO : Blk v (w.heap.size + 1 + 1) #[.bool (!db), .int .u64 0, .int .u64 0, .int .u64 0, .int .u64 0] 25 := by rw [hv]; exact (by repeat (first | (with_reducible assumption) | ((with_reducible refine Blk.new _ _ _ ?_); (simp; done)) | (with_reducible apply Blk.alloc) | (with_reducible apply Blk.grow) | (with_reducible apply Blk.drew) | (with_reducible apply Blk.set10) | (with_reducible apply Blk.set5) | (with_reducible apply Blk.set4) | (with_reducible apply Blk.tail4) | (with_reducible apply Blk.set2) | (with_reducible apply Blk.set1) | ((with_reducible apply Blk.setOther); (case hne => omega))))
    clear hv
    have hc := run_copy4 v.drew 3 (w.heap.size + 1 + 1) 1 4 w.heap.size 9 9 _ _ _ _ _ _ _ _ (by omega) (B1.drew.cell 0) (B1.drew.cell 1) (B1.drew.cell 2) (B1.drew.cell 3) (BO.drew.cell 1) (BO.drew.cell 2) (BO.drew.cell 3) (BO.drew.cell 4) BO.drew.frozen
    have lB1 := B1.lt; have cB1 := B1.cell; have fB1 := B1.frozen; have lBR := BR.lt; have cBR := BR.cell; have fBR := BR.frozen; have lBO := BO.lt; have cBO := BO.cell; have fBO := BO.frozen
    go_region
    go_wp2
    with_reducible rw [run_clear4 (y0 := q64 (wn a 0)) (y1 := q64 (wn a 1)) (y2 := q64 (wn a 2)) (y3 := q64 (wn a 3))]
    case g0 => simp [go_sem]
    case g1 => simp [go_sem]
    case g2 => simp [go_sem]
    case g3 => simp [go_sem]
    case f => intro i; simp [go_sem]
    go_simp
    go_wp2_with (go_at_call 47; refine (rmust_no _ _).mono ?_; rintro e w' ⟨rfl, rfl⟩)
    exact ⟨rfl, rfl, (by repeat (first | (with_reducible exact Ext.refl _) | (with_reducible assumption) | (with_reducible apply Ext.grow) | (with_reducible apply Ext.alloc) | (with_reducible apply Ext.drew) | ((with_reducible apply Ext.set); (case hb => (first | omega | (simp; omega))))))⟩
end Go.Proofs.YtjkchmegnfbfoaaGreatDoor

namespace Go.Proofs.YtjkchmegnfbfoaaGreatDoor
open Go Go.RowKit
set_option linter.unusedSimpArgs false
set_option linter.unusedVariables false
set_option maxRecDepth 100000

abbrev ratV (s : Bool) (m : Nat) (t : Bool) (k : Nat) : Value :=
  .agg #[.bool s, q64 (wn m 0), q64 (wn m 1), q64 (wn m 2), q64 (wn m 3), .bool t, q64 (wn k 0), q64 (wn k 1), q64 (wn k 2), q64 (wn k 3)]
set_option maxHeartbeats 4000000 in
theorem made_yes (s : Bool) (n d : Nat) (hn : n < B9) (hd0 : 0 < d) (hd : 2 * d ≤ B9) (h1 : n / Nat.gcd n d < B4) (h2 : d / Nat.gcd n d < B4) (w : World) (hT : Tab w) :
    Calls Tryz.prog 50 #[sgnV s n, wideV d] w fun e w' => e = .returned (ratV (s && !decide (n / Nat.gcd n d = 0)) (n / Nat.gcd n d) false (d / Nat.gcd n d)) ∧ Ext w w' := by
  have cg := gcd_any n d hn (by omega)
  have g0 : 0 < Nat.gcd n d := Nat.gcd_pos_of_pos_right _ hd0
  have gd : Nat.gcd n d ≤ d := Nat.le_of_dvd hd0 (Nat.gcd_dvd_right _ _)
  have b1 := by_any n (Nat.gcd n d) hn g0 (by omega)
  have b2 := by_any d (Nat.gcd n d) (by omega) g0 (by omega)
  have n1 := narrow_yes _ s h1
  have n2 := narrow_yes _ false h2
  rw [Bool.false_and] at n2
  generalize (s && !decide (n / Nat.gcd n d = 0)) = z at *
  clear hn hd0 hd h1 h2 g0 gd
  generalize n / Nat.gcd n d = x at *
  generalize d / Nat.gcd n d = y at *
  generalize Nat.gcd n d = g at *
  go_enter Tryz.func50, Tryz.ntmps50
  go_wp2_with (go_at_call 85; refine (cg _ (((hT.alloc _).alloc _).alloc _)).mono ?_; rintro e w' ⟨rfl, d1, rfl⟩)
  (first | refine wp_region_k' [.p, .r, .r, .r, .p, .r, .r, .r, .r, .r, .r, .p, .w] (by kernel_rfl) (by kernel_rfl) ?_ | refine wp_region_k [.p, .r, .r, .r, .p, .r, .r, .r, .r, .r, .r, .p, .w] (by kernel_rfl) (by kernel_rfl) ?_); (repeat (first | (refine wpK_p rfl (fun K hK => ?_); go_simp; refine hK _ _ ?_; clear hK K) | (refine wpK_r rfl (fun K hK => ?_); go_simp; refine hK _ _ ?_; clear hK K) | (refine wpK_w rfl (fun K hK => ?_); go_simp; refine hK _ _ ?_; clear hK K) | (refine wpK_r rfl (fun K hK => ?_); go_simp; apply Exists.intro; refine ⟨fun d => ?_, hK _ _ ?_⟩; (first | (with_reducible exact Calls.calm (b1 _)) | (with_reducible exact Calls.calm (b2 _)) | (with_reducible exact Calls.calm (n1 _)) | (with_reducible exact Calls.calm (n2 _))); clear hK K))); refine wpK_nil ?_; intro d
  go_wp2
  refine bp_rebase fun u hu => ?_
  have hy : Ext w u := by rw [hu]; exact (by repeat (first | (with_reducible exact Ext.refl _) | (with_reducible assumption) | (with_reducible apply Ext.grow) | (with_reducible apply Ext.alloc) | (with_reducible apply Ext.drew) | ((with_reducible apply Ext.set); (case hb => (first | omega | (simp; omega))))))
  --s1
  have BF : Blk u (w.heap.size + 1 + 1) #[.bool z, q64 (wn x 0), q64 (wn x 1), q64 (wn x 2), q64 (wn x 3), .bool false, q64 (wn y 0), q64 (wn y 1), q64 (wn y 2), q64 (wn y 3)] 27 := by rw [hu]; exact (by repeat (first | (with_reducible assumption) | ((with_reducible refine Blk.new _ _ _ ?_); (simp; done)) | (with_reducible apply Blk.alloc) | (with_reducible apply Blk.grow) | (with_reducible apply Blk.drew) | (with_reducible apply Blk.set10) | (with_reducible apply Blk.set5) | (with_reducible apply Blk.set4) | (with_reducible apply Blk.tail4) | (with_reducible apply Blk.set2) | (with_reducible apply Blk.set1) | ((with_reducible apply Blk.setOther); (case hne => omega))))
  clear hu
  have lBF := BF.lt; have cBF := BF.cell; have fBF := BF.frozen; clear BF
  exact bodyPost_ret (v := ratV z x false y) (by simp [results, Tryz.results50, go_sem, cBF]) rfl ⟨rfl, hy⟩
end Go.Proofs.YtjkchmegnfbfoaaGreatDoor

namespace Go.Proofs.YtjkchmegnfbfoaaGreatDoor
open Go Go.RowKit
set_option linter.unusedSimpArgs false
set_option linter.unusedVariables false
set_option maxRecDepth 100000

set_option maxHeartbeats 8000000 in
theorem Gcd_no (s1 : Bool) (m1 : Nat) (s2 : Bool) (m2 : Nat) (h1 : m1 < B4) (h2 : m2 < B4) (g : (badI s1 m1 || badI s2 m2) = true) (w : World) :
    Calls Tryz.prog 90 #[intV s1 m1, intV s2 m2] w fun e w' => e = .returned (.tuple #[intZ 0, .int .i64 2]) ∧ Ext w w' := by
  have hmf : ∀ (fn : Fn) (first cap : Array Value) (w : World), (Instr.makeFunc fn first cap).run Tryz.prog w = .ok (.func fn first cap) w := fun _ _ _ _ => rfl
  have cr := right2_no s1 m1 s2 m2 h1 h2 g
  clear g
  go_enter_defers Tryz.func90, Tryz.ntmps90
  go_wp2_with (go_at_call 77; refine (cr _ _ _ ⟨by simp, by simp [go_sem], by simp [go_sem], by simp [go_sem], by simp [go_sem], by simp [go_sem]⟩ ⟨by simp, by simp [go_sem], by simp [go_sem], by simp [go_sem], by simp [go_sem], by simp [go_sem]⟩).mono ?_; rintro e w' ⟨rfl, d, rfl⟩)
  refine leaves_cons (f := 75) (args := #[.pointer (some ⟨w.heap.size + 1 + 1 + 1, 0, none⟩), .func (.func 118) #[] #[.pointer (some ⟨w.heap.size + 1 + 1, 0, none⟩)]]) (by simp) (by simp [go_sem]) ?_
  refine caught_pan (w.heap.size + 1 + 1 + 1) 0 2 118 _ [] _ _ (by simp [go_sem]) (by simp [go_sem]) (fun _ _ => by kernel_rfl) ?_
  go_enter Tryz.func118, Tryz.ntmps118
  go_wp2
  go_end0
  refine ⟨rfl, ?_⟩
  simp [Leaves, settle, results, Tryz.results90, go_sem]
  exact ⟨by simp [wn_zero], (by repeat (first | (with_reducible exact Ext.refl _) | (with_reducible assumption) | (with_reducible apply Ext.grow) | (with_reducible apply Ext.alloc) | (with_reducible apply Ext.drew) | ((with_reducible apply Ext.set); (case hb => (first | omega | (simp; omega))))))⟩
end Go.Proofs.YtjkchmegnfbfoaaGreatDoor
