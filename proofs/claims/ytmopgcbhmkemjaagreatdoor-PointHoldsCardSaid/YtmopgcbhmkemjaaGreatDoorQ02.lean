/- Walks of ratio's odd parts and signed sums. Old blocks seen through a grown world and new blocks upon it. Walks of ratio's signed sum and of its greatest common divisor. Regions that draw and end in two stores in either order. Walk of ratio's greatest common divisor of wide numbers. Division bit by bit, in words: plain arithmetic. Walk of ratio's exact quotient of wide numbers. limb: what is given up with is caught; whether Ints may be. limb: Ints that may be; the sum of two. Regions that draw their order, in which one call panics: whatever has been done by then. A world under a new name, with what is known of its blocks. Regions that draw their order, in which one call panics, behind operations in any order that is named. limb: the sum of two Ints; Neg. limb: Neg. limb over whole numbers: sums of two, differences. limb: the Int of a word; a magnitude's bit; twice a magnitude. -/
import Derived.Test.YtmopgcbhmkemjaaGreatDoorProg
import Derived.Test.YtmopgcbhmkemjaaGreatDoorQ01
import Derived.Deep.LoopGhost
import Derived.Deep.RegionWith
import Derived.Defers
import Derived.Recover
namespace Go.Proofs.YtmopgcbhmkemjaaGreatDoor
open Go Go.RowKit
set_option linter.unusedSimpArgs false
set_option linter.unusedVariables false
set_option maxRecDepth 100000

abbrev wideC (m : Nat) : Obj := .cells #[q64 (wn m 0), q64 (wn m 1), q64 (wn m 2), q64 (wn m 3), q64 (wn m 4), q64 (wn m 5), q64 (wn m 6), q64 (wn m 7), q64 (wn m 8)] 128
abbrev wideZ : Obj := .cells #[.int .u64 0, .int .u64 0, .int .u64 0, .int .u64 0, .int .u64 0, .int .u64 0, .int .u64 0, .int .u64 0, .int .u64 0] 128

set_option maxHeartbeats 1000000 in
theorem halved_any (a n : Nat) (ha : a < B9) (hn : n ≤ 1000000) (w : World) :
    Calls Tryz.prog 162 #[wideV a, .int .i64 (n : Int)] w fun e w' => e = .returned (wideV (a / 2 ^ n)) ∧ Ext w w' := by
  go_enter Tryz.func162, Tryz.ntmps162
  go_wp2
  go_loopw [6] (fun q wr => ∃ (k : Nat) (d : Gr), k ≤ n ∧ q = .int .i64 k ∧ wr = grow ((w.alloc (wideC (a / 2 ^ k))).alloc wideZ) d) (fun q _ => n - (intOf q).toNat)
  case atStart => exact ⟨0, _, by omega, rfl, by rw [Nat.pow_zero, Nat.div_one]; exact (grow_none _).symm⟩
  case round =>
    obtain ⟨k, d, hk, rfl, rfl⟩ := hrel
    by_cases e : k < n
    · have hlt : a / 2 ^ k < B9 := Nat.lt_of_le_of_lt (Nat.div_le_self _ _) ha
      go_wp2_with (go_at_call 171; refine (shift_any _ hlt _).mono ?_; rintro e w' ⟨rfl, d', rfl⟩)
      go_roundw
      case rel => exact ⟨k + 1, _, by omega, by go_num, by rw [← half_pow]⟩
      case measure => simp [intOf]; omega
    · obtain rfl : k = n := by omega
      go_wp2
      exact bodyPost_ret (v := wideV (a / 2 ^ k)) (by simp [results, Tryz.results162, go_sem]) rfl ⟨rfl, (by repeat (first | (with_reducible exact Ext.refl _) | (with_reducible assumption) | (with_reducible apply Ext.grow) | (with_reducible apply Ext.alloc) | (with_reducible apply Ext.drew) | ((with_reducible apply Ext.set); (case hb => (first | omega | (simp; omega))))))⟩


open Classical in
noncomputable def twos (a : Nat) : Nat := if h : ∃ k m, a = 2 ^ k * (2 * m + 1) then h.choose else 0
theorem two_pow_odd {k k' m m' : Nat} (h : 2 ^ k * (2 * m + 1) = 2 ^ k' * (2 * m' + 1)) : k = k' ∧ m = m' := by
  induction k generalizing k' with
  | zero =>
    cases k' with
    | zero => simp at h; omega
    | succ k' => rw [Nat.pow_succ] at h; simp [Nat.mul_comm, Nat.mul_assoc, Nat.mul_left_comm] at h; omega
  | succ k ih =>
    cases k' with
    | zero => rw [Nat.pow_succ] at h; simp [Nat.mul_comm, Nat.mul_assoc, Nat.mul_left_comm] at h; omega
    | succ k' =>
      have : 2 ^ k * (2 * m + 1) = 2 ^ k' * (2 * m' + 1) := by
        rw [Nat.pow_succ', Nat.pow_succ', Nat.mul_assoc, Nat.mul_assoc] at h
        exact Nat.eq_of_mul_eq_mul_left (by decide) h
      obtain ⟨h1, h2⟩ := ih this
      exact ⟨by omega, h2⟩
theorem twos_eq {a k m : Nat} (h : a = 2 ^ k * (2 * m + 1)) : twos a = k := by
  have hex : ∃ k m, a = 2 ^ k * (2 * m + 1) := ⟨k, m, h⟩
  unfold twos
  rw [dif_pos hex]
  obtain ⟨m', h'⟩ := hex.choose_spec
  exact (two_pow_odd (h'.symm.trans h)).1
theorem twos_spec (a : Nat) (h0 : a ≠ 0) (h : a < B9) : ∃ m, a = 2 ^ twos a * (2 * m + 1) ∧ twos a < 576 := by
  obtain ⟨j, hj, hn, hz⟩ := first_word a 9 h0 h
  obtain ⟨m, hm, hc⟩ := zeros_spec a j hn hz
  rw [twos_eq hm]
  exact ⟨m, hm, by omega⟩
theorem zeros_any (a : Nat) (h0 : a ≠ 0) (ha : a < B9) (w : World) (hT : Tab w) :
    Calls Tryz.prog 146 #[wideV a] w fun e w' => e = .returned (.int .i64 ((twos a : Nat) : Int)) ∧ Ext w w' := by
  obtain ⟨j, hj, hn, hz⟩ := first_word a 9 h0 ha
  obtain ⟨m, hm, hc⟩ := zeros_spec a j hn hz
  rw [twos_eq hm]
  exact zeros_at a j hj hn hz w hT
/-- The odd part. -/
noncomputable def oddp (a : Nat) : Nat := a / 2 ^ twos a
theorem oddp_spec (a : Nat) (h0 : a ≠ 0) (h : a < B9) : a = 2 ^ twos a * oddp a ∧ oddp a % 2 = 1 := by
  obtain ⟨m, hm, _⟩ := twos_spec a h0 h
  have e : oddp a = 2 * m + 1 := by
    unfold oddp
    conv => lhs; lhs; rw [hm]
    exact Nat.mul_div_cancel_left _ (Nat.two_pow_pos _)
  rw [e]; exact ⟨hm, by omega⟩
theorem oddp_le (a : Nat) : oddp a ≤ a := Nat.div_le_self _ _
theorem oddp_zero : oddp 0 = 0 := by simp [oddp]

set_option maxHeartbeats 1000000 in
theorem odd_any (a : Nat) (ha : a < B9) (w : World) (hT : Tab w) :
    Calls Tryz.prog 147 #[wideV a] w fun e w' => e = .returned (wideV (oddp a)) ∧ Ext w w' := by
  by_cases h : a = 0
  · have hd : decide (a = 0) = true := by simp [h]
    have hr : oddp a = a := by rw [h, oddp_zero]
    rw [hr]; clear hr h
    go_enter Tryz.func147, Tryz.ntmps147
    go_wp2
    exact bodyPost_ret (v := wideV a) (by simp [results, Tryz.results147, go_sem]) rfl ⟨rfl, (by repeat (first | (with_reducible exact Ext.refl _) | (with_reducible assumption) | (with_reducible apply Ext.grow) | (with_reducible apply Ext.alloc) | (with_reducible apply Ext.drew) | ((with_reducible apply Ext.set); (case hb => (first | omega | (simp; omega))))))⟩
  · have hd : decide (a = 0) = false := by simp [h]
    have htw := (twos_spec a h ha).choose_spec.2
    go_enter Tryz.func147, Tryz.ntmps147
    go_wp2
    (first | refine wp_region_k' [.r, .r, .r, .r, .w] (by kernel_rfl) (by kernel_rfl) ?_ | refine wp_region_k [.r, .r, .r, .r, .w] (by kernel_rfl) (by kernel_rfl) ?_); (repeat (first | (refine wpK_p rfl (fun K hK => ?_); go_simp; refine hK _ _ ?_; clear hK K) | (refine wpK_r rfl (fun K hK => ?_); go_simp; refine hK _ _ ?_; clear hK K) | (refine wpK_w rfl (fun K hK => ?_); go_simp; refine hK _ _ ?_; clear hK K) | (refine wpK_r rfl (fun K hK => ?_); go_simp; apply Exists.intro; refine ⟨fun d => ?_, hK _ _ ?_⟩; (first | (go_at_call 146; exact Calls.calm (zeros_any a h ha _ (((hT.alloc _).alloc _).grow _))) | (go_at_call 162; exact Calls.calm (halved_any a _ ha (by omega) _))); clear hK K))); refine wpK_nil ?_; intro d
    go_wp2
    exact bodyPost_ret (v := wideV (oddp a)) (by simp [results, Tryz.results147, go_sem, oddp]) rfl ⟨rfl, (by repeat (first | (with_reducible exact Ext.refl _) | (with_reducible assumption) | (with_reducible apply Ext.grow) | (with_reducible apply Ext.alloc) | (with_reducible apply Ext.drew) | ((with_reducible apply Ext.set); (case hb => (first | omega | (simp; omega))))))⟩

/-- A wide number with its sign. -/
abbrev sgnV (s : Bool) (m : Nat) : Value := .agg #[q64 (wn m 0), q64 (wn m 1), q64 (wn m 2), q64 (wn m 3), q64 (wn m 4), q64 (wn m 5), q64 (wn m 6), q64 (wn m 7), q64 (wn m 8), .bool s]
theorem ssign_any (s : Bool) (m : Nat) (hm : m < B9) (w : World) :
    Calls Tryz.prog 107 #[sgnV s m] w fun e w' => e = .returned (.int .i64 (sgn s m)) ∧ Ext w w' := by
  by_cases h : m = 0
  · have hr : sgn s m = 0 := by simp [sgn, h]
    have hd : decide (m = 0) = true := by simp [h]
    rw [hr]; clear hr h
    go_enter Tryz.func107, Tryz.ntmps107
    go_wp2
    go_ret
    exact ⟨rfl, (by repeat (first | (with_reducible exact Ext.refl _) | (with_reducible assumption) | (with_reducible apply Ext.grow) | (with_reducible apply Ext.alloc) | (with_reducible apply Ext.drew) | ((with_reducible apply Ext.set); (case hb => (first | omega | (simp; omega))))))⟩
  · have hd : decide (m = 0) = false := by simp [h]
    cases s
    · have hr : sgn false m = 1 := by simp [sgn, h]
      rw [hr]; clear hr h
      go_enter Tryz.func107, Tryz.ntmps107
      go_wp2
      go_ret
      exact ⟨rfl, (by repeat (first | (with_reducible exact Ext.refl _) | (with_reducible assumption) | (with_reducible apply Ext.grow) | (with_reducible apply Ext.alloc) | (with_reducible apply Ext.drew) | ((with_reducible apply Ext.set); (case hb => (first | omega | (simp; omega))))))⟩
    · have hr : sgn true m = -1 := by simp [sgn, h]
      rw [hr]; clear hr h
      go_enter Tryz.func107, Tryz.ntmps107
      go_wp2
      go_ret
      exact ⟨rfl, (by repeat (first | (with_reducible exact Ext.refl _) | (with_reducible assumption) | (with_reducible apply Ext.grow) | (with_reducible apply Ext.alloc) | (with_reducible apply Ext.drew) | ((with_reducible apply Ext.set); (case hb => (first | omega | (simp; omega))))))⟩
end Go.Proofs.YtmopgcbhmkemjaaGreatDoor

namespace Go.Proofs.YtmopgcbhmkemjaaGreatDoor
open Go Go.RowKit
set_option linter.unusedSimpArgs false
set_option linter.unusedVariables false
section
variable (w : World) (d e : Gr) (o o' : Obj) (v : Value) (b i : Nat)
@[go_sem] theorem cell_ga (h : b < w.heap.size) : ((grow w d).alloc o).cell? ⟨b, i, none⟩ = w.cell? ⟨b, i, none⟩ := by
  rw [World.cell?_alloc_lt _ _ _ (by simp; omega), cell_grow _ _ _ _ h]
@[go_sem] theorem frozen_ga (h : b < w.heap.size) : ((grow w d).alloc o).frozen? ⟨b, i, none⟩ = w.frozen? ⟨b, i, none⟩ := by
  rw [World.frozen?_alloc_old _ _ _ (by simp; omega), frozen_grow _ _ _ _ h]
theorem setCell_alloc_lt (p : Addr) (h : p.block < w.heap.size) : (w.alloc o).setCell p v = (w.setCell p v).alloc o := by
  simp only [World.alloc, World.setCell]
  congr 1
  apply Array.ext_getElem?
  intro k
  simp only [Array.getElem?_modify, Array.getElem?_push, Array.size_modify]
  by_cases hk : p.block = k
  · subst hk
    have : ¬ p.block = w.heap.size := by omega
    simp [this]
  · simp [hk]
@[go_sem] theorem setCell_ga (h : b < w.heap.size) : ((grow w d).alloc o).setCell ⟨b, i, none⟩ v = (grow (w.setCell ⟨b, i, none⟩ v) d).alloc o := by
  rw [setCell_alloc_lt _ _ _ _ (by simp; omega), setCell_grow _ _ _ _ _ h]
@[go_sem] theorem cell_gaa (h : b < w.heap.size) : (((grow w d).alloc o).alloc o').cell? ⟨b, i, none⟩ = w.cell? ⟨b, i, none⟩ := by
  rw [World.cell?_alloc_lt _ _ _ (by simp; omega), cell_ga _ _ _ _ _ h]
@[go_sem] theorem frozen_gaa (h : b < w.heap.size) : (((grow w d).alloc o).alloc o').frozen? ⟨b, i, none⟩ = w.frozen? ⟨b, i, none⟩ := by
  rw [World.frozen?_alloc_old _ _ _ (by simp; omega), frozen_ga _ _ _ _ _ h]
@[go_sem] theorem setCell_gaa (h : b < w.heap.size) : (((grow w d).alloc o).alloc o').setCell ⟨b, i, none⟩ v = ((grow (w.setCell ⟨b, i, none⟩ v) d).alloc o).alloc o' := by
  rw [setCell_alloc_lt _ _ _ _ (by simp; omega), setCell_ga _ _ _ _ _ _ h]
@[go_sem] theorem cell_gag (h : b < w.heap.size) : (grow ((grow w d).alloc o) e).cell? ⟨b, i, none⟩ = w.cell? ⟨b, i, none⟩ := by
  rw [cell_grow _ _ _ _ (by simp; omega), cell_ga _ _ _ _ _ h]
@[go_sem] theorem frozen_gag (h : b < w.heap.size) : (grow ((grow w d).alloc o) e).frozen? ⟨b, i, none⟩ = w.frozen? ⟨b, i, none⟩ := by
  rw [frozen_grow _ _ _ _ (by simp; omega), frozen_ga _ _ _ _ _ h]
@[go_sem] theorem setCell_gag (h : b < w.heap.size) : (grow ((grow w d).alloc o) e).setCell ⟨b, i, none⟩ v = grow ((grow (w.setCell ⟨b, i, none⟩ v) d).alloc o) e := by
  rw [setCell_grow _ _ _ _ _ (by simp; omega), setCell_ga _ _ _ _ _ _ h]
@[go_sem] theorem cell_gaga (h : b < w.heap.size) : ((grow ((grow w d).alloc o) e).alloc o').cell? ⟨b, i, none⟩ = w.cell? ⟨b, i, none⟩ := by
  rw [World.cell?_alloc_lt _ _ _ (by simp; omega), cell_gag _ _ _ _ _ _ h]
@[go_sem] theorem frozen_gaga (h : b < w.heap.size) : ((grow ((grow w d).alloc o) e).alloc o').frozen? ⟨b, i, none⟩ = w.frozen? ⟨b, i, none⟩ := by
  rw [World.frozen?_alloc_old _ _ _ (by simp; omega), frozen_gag _ _ _ _ _ _ h]
@[go_sem] theorem setCell_gaga (h : b < w.heap.size) : ((grow ((grow w d).alloc o) e).alloc o').setCell ⟨b, i, none⟩ v = (grow ((grow (w.setCell ⟨b, i, none⟩ v) d).alloc o) e).alloc o' := by
  rw [setCell_alloc_lt _ _ _ _ (by simp; omega), setCell_gag _ _ _ _ _ _ _ h]
end
end Go.Proofs.YtmopgcbhmkemjaaGreatDoor

namespace Go.Proofs.YtmopgcbhmkemjaaGreatDoor
open Go Go.RowKit
set_option linter.unusedSimpArgs false
set_option linter.unusedVariables false
set_option maxRecDepth 100000

theorem sub9 (a b : Nat) (ha : a < B9) (h : b ≤ a) : (a + B9 - b) % B9 = a - b := sub_top a b 9 ha h
theorem wless_le (a b : Nat) (ha : a < B9) (h : b ≤ a) (w : World) :
    Calls Tryz.prog 114 #[wideV a, wideV b] w fun e w' => e = .returned (.tuple #[wideV (a - b), .bool false]) ∧ Ext w w' := by
  have := wless_any a b ha (by omega) w
  rw [sub9 a b ha h, show decide (a < b) = false by simp; omega] at this
  exact this
theorem wless_lt (a b : Nat) (ha : a < B9) (hb : b < B9) (h : a < b) (w : World) :
    Calls Tryz.prog 114 #[wideV a, wideV b] w fun e w' => e = .returned (.tuple #[wideV ((a + B9 - b) % B9), .bool true]) ∧ Ext w w' := by
  have := wless_any a b ha hb w
  rw [show decide (a < b) = true by simp; omega] at this
  exact this

/-- The sum of two numbers with signs: sign and magnitude. -/
def splus (s : Bool) (a : Nat) (t : Bool) (b : Nat) : Bool × Nat := if s = t then (s, a + b) else if b ≤ a then (s, a - b) else (t, b - a)
set_option maxHeartbeats 2000000 in
theorem plus_any (s t : Bool) (a b : Nat) (ha : a < B9) (hb : b < B9) (w : World) :
    Calls Tryz.prog 84 #[sgnV s a, sgnV t b] w fun e w' => e = .returned (sgnV (splus s a t b).1 (splus s a t b).2) ∧ Ext w w' := by
  by_cases hst : s = t
  · have hr : splus s a t b = (s, a + b) := by simp [splus, hst]
    rw [hr]; clear hr
    subst hst
    go_enter Tryz.func84, Tryz.ntmps84
    go_wp2
    (first | refine wp_region_k' [.p, .r, .p, .r, .r, .p, .r, .p, .w] (by kernel_rfl) (by kernel_rfl) ?_ | refine wp_region_k [.p, .r, .p, .r, .r, .p, .r, .p, .w] (by kernel_rfl) (by kernel_rfl) ?_); (repeat (first | (refine wpK_p rfl (fun K hK => ?_); go_simp; refine hK _ _ ?_; clear hK K) | (refine wpK_r rfl (fun K hK => ?_); go_simp; refine hK _ _ ?_; clear hK K) | (refine wpK_w rfl (fun K hK => ?_); go_simp; refine hK _ _ ?_; clear hK K) | (refine wpK_r rfl (fun K hK => ?_); go_simp; apply Exists.intro; refine ⟨fun d => ?_, hK _ _ ?_⟩; (exact Calls.calm (wsum_any _ _ _)); clear hK K))); refine wpK_nil ?_; intro d
    go_wp2
    exact bodyPost_ret (v := sgnV s (a + b)) (by simp [results, Tryz.results84, go_sem]) rfl ⟨rfl, (by repeat (first | (with_reducible exact Ext.refl _) | (with_reducible assumption) | (with_reducible apply Ext.grow) | (with_reducible apply Ext.alloc) | (with_reducible apply Ext.drew) | ((with_reducible apply Ext.set); (case hb => (first | omega | (simp; omega))))))⟩
  · have hne : (s == t) = false := by simp [hst]
    by_cases hle : b ≤ a
    · have hr : splus s a t b = (s, a - b) := by simp [splus, hst, hle]
      rw [hr]; clear hr hst
      go_enter Tryz.func84, Tryz.ntmps84
      go_wp2_with (go_at_call 114; refine (wless_le a b ha hle _).mono ?_; rintro e w' ⟨rfl, d, rfl⟩)
      exact bodyPost_ret (v := sgnV s (a - b)) (by simp [results, Tryz.results84, go_sem]) rfl ⟨rfl, (by repeat (first | (with_reducible exact Ext.refl _) | (with_reducible assumption) | (with_reducible apply Ext.grow) | (with_reducible apply Ext.alloc) | (with_reducible apply Ext.drew) | ((with_reducible apply Ext.set); (case hb => (first | omega | (simp; omega))))))⟩
    · have hr : splus s a t b = (t, b - a) := by simp [splus, hst, hle]
      rw [hr]; clear hr hst
      have hlt : a < b := by omega
      have h1 := wless_lt a b ha hb hlt
      have h2 := wless_le b a hb (by omega)
      clear hle
      have tok : True := trivial
      go_enter Tryz.func84, Tryz.ntmps84
      go_wp2_with (first
        | (go_at_call 114; have _t := tok; refine (h1 _).mono ?_; rintro e w' ⟨rfl, d, rfl⟩; clear tok)
        | (go_at_call 114; refine (h2 _).mono ?_; rintro e w' ⟨rfl, d, rfl⟩; simp only [grow_alloc_grow]))
      exact bodyPost_ret (v := sgnV t (b - a)) (by simp [results, Tryz.results84, go_sem]) rfl ⟨rfl, (by repeat (first | (with_reducible exact Ext.refl _) | (with_reducible assumption) | (with_reducible apply Ext.grow) | (with_reducible apply Ext.alloc) | (with_reducible apply Ext.drew) | ((with_reducible apply Ext.set); (case hb => (first | omega | (simp; omega))))))⟩

theorem coprime_two_odd (k x : Nat) (h : x % 2 = 1) : Nat.Coprime (2 ^ k) x := by
  apply Nat.Coprime.pow_left
  have h1 : Nat.gcd 2 x ∣ 2 := Nat.gcd_dvd_left _ _
  have h2 : Nat.gcd 2 x ∣ x := Nat.gcd_dvd_right _ _
  have h3 : Nat.gcd 2 x ≤ 2 := Nat.le_of_dvd (by decide) h1
  have h4 : 0 < Nat.gcd 2 x := Nat.gcd_pos_of_pos_left _ (by decide)
  show Nat.gcd 2 x = 1
  apply Classical.byContradiction
  intro hne
  have e : Nat.gcd 2 x = 2 := by omega
  rw [e] at h2
  have := Nat.mod_eq_zero_of_dvd h2
  omega
theorem gcd_two_left (i x z : Nat) (hz : z % 2 = 1) : Nat.gcd (2 ^ i * x) z = Nat.gcd x z :=
  (coprime_two_odd i z hz).gcd_mul_left_cancel x
theorem gcd_twos (i j x y : Nat) (hx : x % 2 = 1) (hy : y % 2 = 1) : Nat.gcd (2 ^ i * x) (2 ^ j * y) = 2 ^ min i j * Nat.gcd x y := by
  rcases Nat.le_total i j with h | h
  · obtain ⟨k, rfl⟩ := Nat.le.dest h
    rw [Nat.min_eq_left h, Nat.pow_add, Nat.mul_assoc, Nat.gcd_mul_left, Nat.gcd_comm x, gcd_two_left _ _ _ hx, Nat.gcd_comm]
  · obtain ⟨k, rfl⟩ := Nat.le.dest h
    rw [Nat.min_eq_right h, Nat.pow_add, Nat.mul_assoc, Nat.gcd_mul_left, gcd_two_left _ _ _ hy]
/-- A step of the loop: of two odd numbers the greater one, less the other one, made odd. -/
theorem gcd_step (x y : Nat) (hx : x < B9) (hy : y % 2 = 1) (h : y < x) : Nat.gcd (oddp (x - y)) y = Nat.gcd x y := by
  have h0 := (oddp_spec (x - y) (by omega) (by omega)).1
  rw [← Nat.gcd_sub_self_left (Nat.le_of_lt h)]
  conv => rhs; lhs; rw [h0]
  rw [gcd_two_left _ _ _ hy]
end Go.Proofs.YtmopgcbhmkemjaaGreatDoor

namespace Go.Proofs.YtmopgcbhmkemjaaGreatDoor
open Go Go.RowKit
set_option linter.unusedSimpArgs false
set_option linter.unusedVariables false
set_option linter.constructorNameAsVariable false
section
variable {P : Program} {ops : Array Oper} {md : Region.Mode}

def allWait (md : Region.Mode) (ops : Array Oper) (n : Nat) : Bool :=
  (List.range ops.size).all fun t => decide (t < n) || (List.range n).all fun i => Region.waitsFor md ops t i
theorem allWait_spec {n : Nat} (h : allWait md ops n = true) {listed : Array Bool} {i t : Nat} (hi : i < n) (hu : listed.getD i true = false) (ht : n ≤ t) : t ∉ Region.ready md ops listed := by
  intro hr
  obtain ⟨_, ot, hot, hall⟩ := mem_ready.1 hr
  have h1 := List.all_eq_true.1 h t (List.mem_range.2 (Array.getElem?_eq_some_iff.1 hot).1)
  simp only [Bool.or_eq_true, decide_eq_true_eq] at h1
  rcases h1 with h1 | h1
  · omega
  · have h2 := List.all_eq_true.1 h1 i (List.mem_range.2 hi)
    obtain ⟨oj, hoj, e, he, hb, hon⟩ := Region.waitsFor_spec h2
    obtain rfl : oj = ot := Option.some.inj (hoj.symm.trans hot)
    have h3 := hall e he hb
    rw [hon, getD_both hu] at h3
    cases h3

theorem anyKL_first2 {ks : List RK} {n : Nat} {L : Array Bool → Act → World → Prop} {i : Nat} {oi : Oper} {v : Value} (hi : ops[i]? = some oi) (hsel : ∀ (j : Nat) (o : Oper) cs b, ops[j]? = some o → o.op ≠ .select cs b)
    (hs : allWait md ops n = true) (hin : i < n) (hdone : ∀ listed a W, L listed a W → ∀ j ∈ Region.ready md ops listed, n ≤ j) :
    ∀ (fuel : Nat) (listed : Array Bool) (a : Act) (W W' : World), Clo md ops listed →
      (∀ j oj, ops[j]? = some oj → j < n → j ≠ i → listed.getD j true = false → anc md ops 2 j i = false → oi.apart ops oj = true ∧ (ks.getD i .w).clash (ks.getD j .w) = false) →
      i ∈ Region.ready md ops listed → (ks.getD i .w).yields P ops oi a W v W' →
      anyKL P md ops ks n L fuel (listed.setIfInBounds i true) (a.put oi.dst v) W' → anyKL P md ops ks n L (fuel + 1) listed a W := by
  intro fuel
  induction fuel with
  | zero =>
    intro listed a W W' inv _ hr hy H
    have hun := (mem_ready.1 hr).1
    refine ⟨fun h => (by rw [h] at hr; cases hr), fun j hj => ?_⟩
    have hjn : j < n := by
      rcases Nat.lt_or_ge j n with h | h
      · exact h
      · exact absurd hj (allWait_spec hs hin hun h)
    refine ⟨hjn, ?_⟩
    by_cases hji : j = i
    · subst hji; exact ⟨oi, v, W', hi, hy, H⟩
    · have := hdone _ _ _ H j (ready_mono hj hji)
      omega
  | succ fuel ih =>
    intro listed a W W' inv hfree hr hy H
    have hun := (mem_ready.1 hr).1
    refine ⟨fun h => (by rw [h] at hr; cases hr), fun j hj => ?_⟩
    have hjn : j < n := by
      rcases Nat.lt_or_ge j n with h | h
      · exact h
      · exact absurd hj (allWait_spec hs hin hun h)
    refine ⟨hjn, ?_⟩
    by_cases hji : j = i
    · subst hji; exact ⟨oi, v, W', hi, hy, H⟩
    · obtain ⟨_, oj', u, W'', hoj', hyj, hn'⟩ := H.2 j (ready_mono hj hji)
      obtain ⟨hjun, oj, hoj, hall⟩ := mem_ready.1 hj
      obtain rfl : oj = oj' := Option.some.inj (hoj.symm.trans hoj')
      have hnot : anc md ops 2 j i = false := anc_ready inv hj hun
      obtain ⟨hap, hcl⟩ := hfree j oj hoj hjn hji hjun hnot
      obtain ⟨Wj, hj1, hi1⟩ := yields_swap hap hcl (fun cs b => hsel i oi cs b hi) (fun cs b => hsel j oj cs b hoj) hy hyj
      refine ⟨oj, u, Wj, hoj, hj1, ?_⟩
      have hfree' : ∀ k ok, ops[k]? = some ok → k < n → k ≠ i → (listed.setIfInBounds j true).getD k true = false →
          anc md ops 2 k i = false → oi.apart ops ok = true ∧ (ks.getD i .w).clash (ks.getD k .w) = false := fun k ok hk hkn hki hun hno => by
        refine hfree k ok hk hkn hki ?_ hno
        by_cases hjk : j = k
        · subst hjk; exact hjun
        · rw [getD_set_ne true hjk] at hun; exact hun
      refine ih (listed.setIfInBounds j true) _ Wj W'' (inv.set hj) hfree' (ready_mono hr (Ne.symm hji)) hi1 ?_
      rw [Array.setIfInBounds_comm _ _ hji, ← Act.put_comm a v u (Oper.apart_spec hap).2.1]
      exact hn'

/-- What is left are the operations n and n + 1, in either order. -/
def twoLeft (md : Region.Mode) (ops : Array Oper) (n : Nat) (listed : Array Bool) : Bool :=
  decide (Region.ready md ops listed = [n, n + 1]) && decide (Region.ready md ops (listed.setIfInBounds n true) = [n + 1]) && decide (Region.ready md ops (listed.setIfInBounds (n + 1) true) = [n]) &&
  decide (Region.ready md ops ((listed.setIfInBounds n true).setIfInBounds (n + 1) true) = []) && decide (Region.ready md ops ((listed.setIfInBounds (n + 1) true).setIfInBounds n true) = [])

def lexK2H (md : Region.Mode) (ops : Array Oper) (ks : List RK) (n : Nat) : Nat → Nat → Array Bool → Bool
  | 0, _, listed => twoLeft md ops n listed
  | f + 1, k, listed => (Region.ready md ops listed).contains k && freeKn md ops ks n listed k && lexK2H md ops ks n f (k + 1) (listed.setIfInBounds k true)

theorem anyKL_lex2 {ks : List RK} {n : Nat} {Lq : Act → World → Prop} (hsel : Region.noSelect ops = true) (hs : allWait md ops n = true) :
    ∀ (l : List Oper) (lk : List RK) (k : Nat) (listed : Array Bool) (a : Act) (W : World), (∀ j, j < l.length → l[j]? = ops[k + j]?) → (∀ j, lk[j]? = ks[k + j]?) → k + l.length = n → Clo md ops listed →
    lexK2H md ops ks n l.length k listed = true → wpK P ops Lq l lk a W →
    anyKL P md ops ks n (fun listed' a' W' => twoLeft md ops n listed' = true ∧ Lq a' W') l.length listed a W
  | [], _, k, listed, a, W, _, _, hk, _, hB, h => ⟨by simpa [lexK2H] using hB, h⟩
  | o :: l, [], _, _, _, _, _, _, _, _, _, h => h.elim
  | o :: l, kd :: lk, k, listed, a, W, hl, hks, hk, inv, hB, h => by
    have h0 : ops[k]? = some o := by simpa using (hl 0 (by simp)).symm
    have hk0 : ks[k]? = some kd := by simpa using (hks 0).symm
    have hkd : ks.getD k .w = kd := by simp [List.getD_eq_getElem?_getD, hk0]
    simp only [List.length_cons, lexK2H, Bool.and_eq_true] at hB
    obtain ⟨⟨hr, hf⟩, hB'⟩ := hB
    have hkn : k < n := by simp only [List.length_cons] at hk; omega
    obtain ⟨v, W', hy, hn'⟩ := h
    refine anyKL_first2 h0 (Region.noSelect_spec hsel) hs hkn (fun listed' a' W' hL j hj => ?_) l.length listed a W W' inv (freeKn_spec h0 hf) (by simpa using hr) (by rw [hkd]; exact hy)
      (anyKL_lex2 hsel hs l lk (k + 1) _ _ _ (fun j hj => by have := hl (j + 1) (by simp; omega); simpa [Nat.add_assoc, Nat.add_comm 1 j] using this) (fun j => by have := hks (j + 1); simpa [Nat.add_assoc, Nat.add_comm 1 j] using this) (by simp only [List.length_cons] at hk; omega) (inv.set (by simpa using hr)) hB' hn')
    have h1 := hL.1
    simp only [twoLeft, Bool.and_eq_true, decide_eq_true_eq] at h1
    rw [h1.1.1.1.1] at hj
    simp at hj; omega

def lexK2 (ops : Array Oper) (ks : List RK) (n : Nat) : Bool :=
  Region.noSelect ops && decide (n + 2 = ops.size) && allWait .any ops n && lexK2H .any ops ks n n 0 (Array.replicate ops.size false)

/-- Two operations are left. -/
theorem wpAny_two {n : Nat} {o1 o2 : Oper} {listed : Array Bool} {a A : Act} {W W' : World} {Q : Exit → Act → World → Prop} (h1 : ops[n]? = some o1) (h2 : ops[n + 1]? = some o2) (ht : twoLeft md ops n listed = true)
    (k12 : wpK P ops (fun a' W'' => a' = A ∧ W'' = W') [o1, o2] [.w, .w] a W) (k21 : wpK P ops (fun a' W'' => a' = A ∧ W'' = W') [o2, o1] [.w, .w] a W) (hQ : ∀ d, Q .normal A (grow W' d)) :
    ∀ w, Ext W w → wpAny P md ops Q 2 listed a w := by
  simp only [twoLeft, Bool.and_eq_true, decide_eq_true_eq] at ht
  obtain ⟨⟨⟨⟨t0, t1⟩, t2⟩, t3⟩, t4⟩ := ht
  intro w hw
  have fin : ∀ a' W'', (a' = A ∧ W'' = W') → ∀ w', Ext W'' w' → Q .normal a' w' := by
    rintro _ _ ⟨rfl, rfl⟩ w' ⟨d, rfl⟩; exact hQ d
  refine ⟨fun h => (by rw [t0] at h; cases h), fun i hi => ?_⟩
  rw [t0] at hi
  simp only [List.mem_cons, List.not_mem_nil, or_false] at hi
  rcases hi with hi | hi
  · rw [hi]
    obtain ⟨v, W1, hy, v', W2, hy', he⟩ := k12
    refine wpOp_of_yields h1 hy (fun w1 hw1 => ⟨fun h => (by rw [t1] at h; cases h), fun i' hi' => ?_⟩) w hw
    rw [t1] at hi'
    have e' : i' = n + 1 := by simpa using hi'
    rw [e']
    exact wpOp_of_yields h2 hy' (fun w2 hw2 => ⟨t3, fin _ _ he w2 hw2⟩) w1 hw1
  · rw [hi]
    obtain ⟨v, W1, hy, v', W2, hy', he⟩ := k21
    refine wpOp_of_yields h2 hy (fun w1 hw1 => ⟨fun h => (by rw [t2] at h; cases h), fun i' hi' => ?_⟩) w hw
    rw [t2] at hi'
    have e' : i' = n := by simpa using hi'
    rw [e']
    exact wpOp_of_yields h1 hy' (fun w2 hw2 => ⟨t4, fin _ _ he w2 hw2⟩) w1 hw1

theorem wp_region_k2' {id : Nat} {Q : Exit → Act → World → Prop} {a : Act} {w : World} {e : Gr} {l : List Oper} (n : Nat) (o1 o2 : Oper) (ks : List RK) (hm : P.follows .mixedOrders = true) (hB : lexK2 l.toArray ks n = true)
    (h1 : l[n]? = some o1) (h2 : l[n + 1]? = some o2)
    (h : wpK P l.toArray (fun a' W' => ∃ A W'', wpK P l.toArray (fun b X => b = A ∧ X = W'') [o1, o2] [.w, .w] a' W' ∧ wpK P l.toArray (fun b X => b = A ∧ X = W'') [o2, o1] [.w, .w] a' W' ∧ ∀ d, Q .normal A (grow W'' d)) (l.take n) ks a w) :
    (Code.region id l.toArray true).wp P Q a (grow w e) := by
  simp only [lexK2, Bool.and_eq_true, decide_eq_true_eq] at hB
  obtain ⟨⟨⟨hsel, hn⟩, hs⟩, hlex⟩ := hB
  have hn' : n + 2 = l.length := by simpa using hn
  have htl : (l.take n).length = n := by simp; omega
  have H := anyKL_lex2 (md := .any) (ks := ks) hsel hs (l.take n) ks 0 _ a w (fun j hj => by
    have hj' : j < n := by rw [htl] at hj; exact hj
    simp [hj']) (by simp) (by simpa using htl) (Clo.init _) (by rw [htl]; exact hlex) h
  refine wp_region_any hm ?_
  have := wpAny_of_anyKL (Q' := Q) (g := 2) (fun listed a' W' hL w' hw' => by
    obtain ⟨ht, A, W'', k12, k21, hQ⟩ := hL
    exact wpAny_two (by simpa using h1) (by simpa using h2) ht k12 k21 hQ w' hw') _ _ _ _ H { grow w e with drawn := (grow w e).drawn + 1 } (Ext.drew ⟨e, rfl⟩)
  rw [htl, show n + 2 = l.toArray.size by simpa using hn'] at this
  exact this
theorem wp_region_k2 {id : Nat} {Q : Exit → Act → World → Prop} {a : Act} {w : World} {l : List Oper} (n : Nat) (o1 o2 : Oper) (ks : List RK) (hm : P.follows .mixedOrders = true) (hB : lexK2 l.toArray ks n = true)
    (h1 : l[n]? = some o1) (h2 : l[n + 1]? = some o2)
    (h : wpK P l.toArray (fun a' W' => ∃ A W'', wpK P l.toArray (fun b X => b = A ∧ X = W'') [o1, o2] [.w, .w] a' W' ∧ wpK P l.toArray (fun b X => b = A ∧ X = W'') [o2, o1] [.w, .w] a' W' ∧ ∀ d, Q .normal A (grow W'' d)) (l.take n) ks a w) :
    (Code.region id l.toArray true).wp P Q a w := by
  have := wp_region_k2' (id := id) (e := ⟨#[], fun k => k⟩) n o1 o2 ks hm hB h1 h2 h
  simpa [grow] using this
end
end Go.Proofs.YtmopgcbhmkemjaaGreatDoor

namespace Go.Proofs.YtmopgcbhmkemjaaGreatDoor
open Go Go.RowKit
set_option linter.unusedSimpArgs false
set_option linter.unusedVariables false
set_option maxRecDepth 100000

theorem oddp_pos (a : Nat) (h0 : a ≠ 0) (h : a < B9) : 0 < oddp a := by have := (oddp_spec a h0 h).2; omega
theorem odd_pos {x : Nat} (h : x % 2 = 1) : 0 < x := by omega

set_option maxHeartbeats 8000000 in
theorem gcd_any (a b : Nat) (ha : a < B9) (hb : b < B9) (w : World) (hT : Tab w) :
    Calls Tryz.prog 110 #[wideV a, wideV b] w fun e w' => e = .returned (wideV (Nat.gcd a b)) ∧ Ext w w' := by
  by_cases a0 : a = 0
  · have hd : decide (a = 0) = true := by simp [a0]
    have hr : Nat.gcd a b = b := by simp [a0]
    rw [hr]; clear hr a0
    go_enter Tryz.func110, Tryz.ntmps110
    go_wp2
    exact bodyPost_ret (v := wideV b) (by simp [results, Tryz.results110, go_sem]) rfl ⟨rfl, (by repeat (first | (with_reducible exact Ext.refl _) | (with_reducible assumption) | (with_reducible apply Ext.grow) | (with_reducible apply Ext.alloc) | (with_reducible apply Ext.drew) | ((with_reducible apply Ext.set); (case hb => (first | omega | (simp; omega))))))⟩
  · have hda : decide (a = 0) = false := by simp [a0]
    by_cases b0 : b = 0
    · have hd : decide (b = 0) = true := by simp [b0]
      have hr : Nat.gcd a b = a := by simp [b0]
      rw [hr]; clear hr b0
      go_enter Tryz.func110, Tryz.ntmps110
      go_wp2
      exact bodyPost_ret (v := wideV a) (by simp [results, Tryz.results110, go_sem]) rfl ⟨rfl, (by repeat (first | (with_reducible exact Ext.refl _) | (with_reducible assumption) | (with_reducible apply Ext.grow) | (with_reducible apply Ext.alloc) | (with_reducible apply Ext.drew) | ((with_reducible apply Ext.set); (case hb => (first | omega | (simp; omega))))))⟩
    · have hdb : decide (b = 0) = false := by simp [b0]
      have hza := zeros_any a a0 ha
      have hzb := zeros_any b b0 hb
      have hta := (twos_spec a a0 ha).choose_spec.2
      have htb := (twos_spec b b0 hb).choose_spec.2
      have hoa := oddp_spec a a0 ha
      have hob := oddp_spec b b0 hb
      have hG : Nat.gcd a b = Nat.gcd (oddp a) (oddp b) * 2 ^ min (twos a) (twos b) := by
        conv => lhs; rw [hoa.1, hob.1]
        rw [gcd_twos _ _ _ _ hoa.2 hob.2, Nat.mul_comm]
      have hla := oddp_le a
      have hlb := oddp_le b
      by_cases hle : twos a ≤ twos b
      · have HG : Hid (Nat.gcd a b = Nat.gcd (oddp a) (oddp b) * 2 ^ twos a) := by rw [Nat.min_eq_left hle] at hG; exact hG
        have HA := Lib.hid hoa.2
        have HB := Lib.hid hob.2
        clear hG hoa hob
        have hpa := oddp_pos a a0 ha
        have hpb := oddp_pos b b0 hb
        have hoda := odd_any a ha
        have hodb := odd_any b hb
        clear a0 b0
        go_enter Tryz.func110, Tryz.ntmps110
        go_wp2
        (first | refine wp_region_k' [.r, .r, .r, .r, .r, .p] (by kernel_rfl) (by kernel_rfl) ?_ | refine wp_region_k [.r, .r, .r, .r, .r, .p] (by kernel_rfl) (by kernel_rfl) ?_); (repeat (first | (refine wpK_p rfl (fun K hK => ?_); go_simp; refine hK _ _ ?_; clear hK K) | (refine wpK_r rfl (fun K hK => ?_); go_simp; refine hK _ _ ?_; clear hK K) | (refine wpK_w rfl (fun K hK => ?_); go_simp; refine hK _ _ ?_; clear hK K) | (refine wpK_r rfl (fun K hK => ?_); go_simp; apply Exists.intro; refine ⟨fun d => ?_, hK _ _ ?_⟩; (first | (go_at_call_of 146 (wn a 0); exact Calls.calm (hza _ ((((hT.alloc _).alloc _).alloc _).grow _))) | (go_at_call_of 146 (wn b 0); exact Calls.calm (hzb _ ((((hT.alloc _).alloc _).alloc _).grow _)))); clear hK K))); refine wpK_nil ?_; intro d
        go_wp2
        (first | refine wp_region_k' [.r, .r, .r, .r, .w, .w] (by kernel_rfl) (by kernel_rfl) ?_ | refine wp_region_k [.r, .r, .r, .r, .w, .w] (by kernel_rfl) (by kernel_rfl) ?_); (repeat (first | (refine wpK_p rfl (fun K hK => ?_); go_simp; refine hK _ _ ?_; clear hK K) | (refine wpK_r rfl (fun K hK => ?_); go_simp; refine hK _ _ ?_; clear hK K) | (refine wpK_w rfl (fun K hK => ?_); go_simp; refine hK _ _ ?_; clear hK K) | (refine wpK_r rfl (fun K hK => ?_); go_simp; apply Exists.intro; refine ⟨fun d => ?_, hK _ _ ?_⟩; (first | (go_at_call_of 147 (wn a 0); exact Calls.calm (hoda _ ((((hT.alloc _).alloc _).alloc _).grow _))) | (go_at_call_of 147 (wn b 0); exact Calls.calm (hodb _ ((((hT.alloc _).alloc _).alloc _).grow _)))); clear hK K))); refine wpK_nil ?_; intro d
        clear hza hzb hoda hodb hle
        generalize twos a = t at *
        generalize oddp a = x0 at *
        generalize oddp b = y0 at *
        go_wp2
        go_loopg [7] (x0 + y0) (fun g q wr => ∃ (x y : Nat) (d : Gr), x + y ≤ g ∧ x ≤ x0 + y0 ∧ x < B9 ∧ y < B9 ∧ 0 < x ∧ 0 < y ∧ Hid (x % 2 = 1) ∧ Hid (y % 2 = 1) ∧ Hid (Nat.gcd x y = Nat.gcd x0 y0) ∧
            wr = grow (((w.alloc (wideC x)).alloc (wideC y)).alloc wideZ) d)
        case atStart => exact ⟨x0, y0, _, by omega, by omega, by omega, by omega, hpa, hpb, HA, HB, Lib.hid rfl, rfl⟩
        case round =>
          obtain ⟨x, y, d1, hg, hxl, hx, hy, hx0, hy0, HX, HY, HGx, rfl⟩ := hrel
          clear HA HB
          rcases Nat.lt_trichotomy x y with h | h | h
          · have hd : decide (x = y) = false := by simp; omega
            have h1 := wless_lt x y hx hy h
            have h2 := wless_le y x hy (by omega)
            have h3 := odd_any (y - x) (by omega)
            have hst : Hid (Nat.gcd x (oddp (y - x)) = Nat.gcd x0 y0) := by
              rw [Nat.gcd_comm, gcd_step y x hy HX.out h, Nat.gcd_comm]; exact HGx.out
            have ho : Hid (oddp (y - x) % 2 = 1) := (oddp_spec (y - x) (by omega) (by omega)).2
            have hp := oddp_pos (y - x) (by omega) (by omega)
            have hl := oddp_le (y - x)
            clear HY HGx
            go_wp2_with (first
              | (go_at_call_of 114 (wn y 0); refine (h1 _).mono ?_; rintro e w' ⟨rfl, d, rfl⟩; clear h1)
              | (go_at_call_of 114 (wn x 0); refine (h2 _).mono ?_; rintro e w' ⟨rfl, d, rfl⟩; simp only [grow_alloc_grow])
              | (go_at_call 147; refine (h3 _ (by repeat (first | exact hT | apply Tab.grow | apply Tab.alloc))).mono ?_; rintro e w' ⟨rfl, d, rfl⟩; simp only [grow_alloc_grow]))
            go_roundg (oddp (y - x) + x)
            case measure => omega
            case rel => exact ⟨x, oddp (y - x), _, by omega, by omega, hx, by omega, hx0, hp, HX, ho, hst, rfl⟩
          · subst h
            have hd : decide (x = x) = true := by simp
            have HF : Hid (Nat.gcd a b = x * 2 ^ t) := by
              have h1 := HGx.out
              have h2 := HG.out
              rw [Nat.gcd_self] at h1
              rw [h1, h2]; exact Lib.hid rfl
            clear HX HY HG HGx
            go_wp2
            go_loopw [51] (fun q wr => ∃ (k : Nat) (d : Gr), k ≤ t ∧ q = .int .i64 k ∧ wr = grow (((w.alloc (wideC (x * 2 ^ k))).alloc (wideC x)).alloc wideZ) d) (fun q _ => t - (intOf q).toNat)
            case atStart => exact ⟨0, _, by omega, rfl, by rw [Nat.pow_zero, Nat.mul_one]⟩
            case round =>
              obtain ⟨k, d2, hk, rfl, rfl⟩ := hrel
              by_cases e : k < t
              · go_wp2_with (go_at_call 113; refine (wsum_any _ _ _).mono ?_; rintro e w' ⟨rfl, d, rfl⟩)
                go_roundw
                case rel => exact ⟨k + 1, _, by omega, by go_num, by rw [Nat.pow_succ, ← Nat.mul_assoc, Nat.mul_two]⟩
                case measure => simp [intOf]; omega
              · obtain rfl : k = t := by omega
                go_wp2
                rw [HF.out]
                exact bodyPost_ret (v := wideV (x * 2 ^ k)) (by simp [results, Tryz.results110, go_sem]) rfl ⟨rfl, (by repeat (first | (with_reducible exact Ext.refl _) | (with_reducible assumption) | (with_reducible apply Ext.grow) | (with_reducible apply Ext.alloc) | (with_reducible apply Ext.drew) | ((with_reducible apply Ext.set); (case hb => (first | omega | (simp; omega))))))⟩
          · have hd : decide (x = y) = false := by simp; omega
            have h2 := wless_le x y hx (by omega)
            have h3 := odd_any (x - y) (by omega)
            have hst : Hid (Nat.gcd (oddp (x - y)) y = Nat.gcd x0 y0) := by
              rw [gcd_step x y hx HY.out h]; exact HGx.out
            have ho : Hid (oddp (x - y) % 2 = 1) := (oddp_spec (x - y) (by omega) (by omega)).2
            have hp := oddp_pos (x - y) (by omega) (by omega)
            have hl := oddp_le (x - y)
            clear HX HGx
            go_wp2_with (first
              | (go_at_call 114; refine (h2 _).mono ?_; rintro e w' ⟨rfl, d, rfl⟩)
              | (go_at_call 147; refine (h3 _ (by repeat (first | exact hT | apply Tab.grow | apply Tab.alloc))).mono ?_; rintro e w' ⟨rfl, d, rfl⟩; simp only [grow_alloc_grow]))
            go_roundg (oddp (x - y) + y)
            case measure => omega
            case rel => exact ⟨oddp (x - y), y, _, by omega, by omega, by omega, hy, hp, hy0, ho, HY, hst, rfl⟩
      · have HG : Hid (Nat.gcd a b = Nat.gcd (oddp a) (oddp b) * 2 ^ twos b) := by rw [Nat.min_eq_right (by omega)] at hG; exact hG
        have HA := Lib.hid hoa.2
        have HB := Lib.hid hob.2
        clear hG hoa hob
        have hpa := oddp_pos a a0 ha
        have hpb := oddp_pos b b0 hb
        have hoda := odd_any a ha
        have hodb := odd_any b hb
        clear a0 b0
        go_enter Tryz.func110, Tryz.ntmps110
        go_wp2
        (first | refine wp_region_k' [.r, .r, .r, .r, .r, .p] (by kernel_rfl) (by kernel_rfl) ?_ | refine wp_region_k [.r, .r, .r, .r, .r, .p] (by kernel_rfl) (by kernel_rfl) ?_); (repeat (first | (refine wpK_p rfl (fun K hK => ?_); go_simp; refine hK _ _ ?_; clear hK K) | (refine wpK_r rfl (fun K hK => ?_); go_simp; refine hK _ _ ?_; clear hK K) | (refine wpK_w rfl (fun K hK => ?_); go_simp; refine hK _ _ ?_; clear hK K) | (refine wpK_r rfl (fun K hK => ?_); go_simp; apply Exists.intro; refine ⟨fun d => ?_, hK _ _ ?_⟩; (first | (go_at_call_of 146 (wn a 0); exact Calls.calm (hza _ ((((hT.alloc _).alloc _).alloc _).grow _))) | (go_at_call_of 146 (wn b 0); exact Calls.calm (hzb _ ((((hT.alloc _).alloc _).alloc _).grow _)))); clear hK K))); refine wpK_nil ?_; intro d
        go_wp2
        (first | refine wp_region_k' [.r, .r, .r, .r, .w, .w] (by kernel_rfl) (by kernel_rfl) ?_ | refine wp_region_k [.r, .r, .r, .r, .w, .w] (by kernel_rfl) (by kernel_rfl) ?_); (repeat (first | (refine wpK_p rfl (fun K hK => ?_); go_simp; refine hK _ _ ?_; clear hK K) | (refine wpK_r rfl (fun K hK => ?_); go_simp; refine hK _ _ ?_; clear hK K) | (refine wpK_w rfl (fun K hK => ?_); go_simp; refine hK _ _ ?_; clear hK K) | (refine wpK_r rfl (fun K hK => ?_); go_simp; apply Exists.intro; refine ⟨fun d => ?_, hK _ _ ?_⟩; (first | (go_at_call_of 147 (wn a 0); exact Calls.calm (hoda _ ((((hT.alloc _).alloc _).alloc _).grow _))) | (go_at_call_of 147 (wn b 0); exact Calls.calm (hodb _ ((((hT.alloc _).alloc _).alloc _).grow _)))); clear hK K))); refine wpK_nil ?_; intro d
        clear hza hzb hoda hodb hle
        generalize twos b = t at *
        generalize oddp a = x0 at *
        generalize oddp b = y0 at *
        go_wp2
        go_loopg [7] (x0 + y0) (fun g q wr => ∃ (x y : Nat) (d : Gr), x + y ≤ g ∧ x ≤ x0 + y0 ∧ x < B9 ∧ y < B9 ∧ 0 < x ∧ 0 < y ∧ Hid (x % 2 = 1) ∧ Hid (y % 2 = 1) ∧ Hid (Nat.gcd x y = Nat.gcd x0 y0) ∧
            wr = grow (((w.alloc (wideC x)).alloc (wideC y)).alloc wideZ) d)
        case atStart => exact ⟨x0, y0, _, by omega, by omega, by omega, by omega, hpa, hpb, HA, HB, Lib.hid rfl, rfl⟩
        case round =>
          obtain ⟨x, y, d1, hg, hxl, hx, hy, hx0, hy0, HX, HY, HGx, rfl⟩ := hrel
          clear HA HB
          rcases Nat.lt_trichotomy x y with h | h | h
          · have hd : decide (x = y) = false := by simp; omega
            have h1 := wless_lt x y hx hy h
            have h2 := wless_le y x hy (by omega)
            have h3 := odd_any (y - x) (by omega)
            have hst : Hid (Nat.gcd x (oddp (y - x)) = Nat.gcd x0 y0) := by
              rw [Nat.gcd_comm, gcd_step y x hy HX.out h, Nat.gcd_comm]; exact HGx.out
            have ho : Hid (oddp (y - x) % 2 = 1) := (oddp_spec (y - x) (by omega) (by omega)).2
            have hp := oddp_pos (y - x) (by omega) (by omega)
            have hl := oddp_le (y - x)
            clear HY HGx
            go_wp2_with (first
              | (go_at_call_of 114 (wn y 0); refine (h1 _).mono ?_; rintro e w' ⟨rfl, d, rfl⟩; clear h1)
              | (go_at_call_of 114 (wn x 0); refine (h2 _).mono ?_; rintro e w' ⟨rfl, d, rfl⟩; simp only [grow_alloc_grow])
              | (go_at_call 147; refine (h3 _ (by repeat (first | exact hT | apply Tab.grow | apply Tab.alloc))).mono ?_; rintro e w' ⟨rfl, d, rfl⟩; simp only [grow_alloc_grow]))
            go_roundg (oddp (y - x) + x)
            case measure => omega
            case rel => exact ⟨x, oddp (y - x), _, by omega, by omega, hx, by omega, hx0, hp, HX, ho, hst, rfl⟩
          · subst h
            have hd : decide (x = x) = true := by simp
            have HF : Hid (Nat.gcd a b = x * 2 ^ t) := by
              have h1 := HGx.out
              have h2 := HG.out
              rw [Nat.gcd_self] at h1
              rw [h1, h2]; exact Lib.hid rfl
            clear HX HY HG HGx
            go_wp2
            go_loopw [51] (fun q wr => ∃ (k : Nat) (d : Gr), k ≤ t ∧ q = .int .i64 k ∧ wr = grow (((w.alloc (wideC (x * 2 ^ k))).alloc (wideC x)).alloc wideZ) d) (fun q _ => t - (intOf q).toNat)
            case atStart => exact ⟨0, _, by omega, rfl, by rw [Nat.pow_zero, Nat.mul_one]⟩
            case round =>
              obtain ⟨k, d2, hk, rfl, rfl⟩ := hrel
              by_cases e : k < t
              · go_wp2_with (go_at_call 113; refine (wsum_any _ _ _).mono ?_; rintro e w' ⟨rfl, d, rfl⟩)
                go_roundw
                case rel => exact ⟨k + 1, _, by omega, by go_num, by rw [Nat.pow_succ, ← Nat.mul_assoc, Nat.mul_two]⟩
                case measure => simp [intOf]; omega
              · obtain rfl : k = t := by omega
                go_wp2
                rw [HF.out]
                exact bodyPost_ret (v := wideV (x * 2 ^ k)) (by simp [results, Tryz.results110, go_sem]) rfl ⟨rfl, (by repeat (first | (with_reducible exact Ext.refl _) | (with_reducible assumption) | (with_reducible apply Ext.grow) | (with_reducible apply Ext.alloc) | (with_reducible apply Ext.drew) | ((with_reducible apply Ext.set); (case hb => (first | omega | (simp; omega))))))⟩
          · have hd : decide (x = y) = false := by simp; omega
            have h2 := wless_le x y hx (by omega)
            have h3 := odd_any (x - y) (by omega)
            have hst : Hid (Nat.gcd (oddp (x - y)) y = Nat.gcd x0 y0) := by
              rw [gcd_step x y hx HY.out h]; exact HGx.out
            have ho : Hid (oddp (x - y) % 2 = 1) := (oddp_spec (x - y) (by omega) (by omega)).2
            have hp := oddp_pos (x - y) (by omega) (by omega)
            have hl := oddp_le (x - y)
            clear HX HGx
            go_wp2_with (first
              | (go_at_call 114; refine (h2 _).mono ?_; rintro e w' ⟨rfl, d, rfl⟩)
              | (go_at_call 147; refine (h3 _ (by repeat (first | exact hT | apply Tab.grow | apply Tab.alloc))).mono ?_; rintro e w' ⟨rfl, d, rfl⟩; simp only [grow_alloc_grow]))
            go_roundg (oddp (x - y) + y)
            case measure => omega
            case rel => exact ⟨oddp (x - y), y, _, by omega, by omega, by omega, hy, hp, hy0, ho, HY, hst, rfl⟩
end Go.Proofs.YtmopgcbhmkemjaaGreatDoor

namespace Go.Proofs.YtmopgcbhmkemjaaGreatDoor
set_option linter.unusedSimpArgs false
set_option exponentiation.threshold 600
set_option linter.unusedVariables false
/-- Bit i. -/
def bitn (a i : Nat) : Nat := a / 2 ^ i % 2
theorem bitn_le (a i : Nat) : bitn a i ≤ 1 := by unfold bitn; omega
theorem bitn_word (a i : Nat) : wn a (i / 64) / 2 ^ (i % 64) % 2 = bitn a i := by
  unfold wn bitn
  have e : 2 ^ i = B ^ (i / 64) * 2 ^ (i % 64) := by
    rw [B_two, ← Nat.pow_mul, ← Nat.pow_add]; congr 1; omega
  rw [e, ← Nat.div_div_eq_div_mul]
  generalize a / B ^ (i / 64) = x
  have h : i % 64 < 64 := Nat.mod_lt _ (by decide)
  generalize i % 64 = j at *
  have e2 : B = 2 ^ j * (2 * 2 ^ (63 - j)) := by rw [B_two, ← Nat.pow_succ', ← Nat.pow_add]; congr 1; omega
  rw [e2, Nat.mod_mul_right_div_self, Nat.mod_mul_right_mod]
/-- What has been divided when j bits are left. -/
def qk (a b j : Nat) : Nat := a / 2 ^ j / b * 2 ^ j
def rk (a b j : Nat) : Nat := a / 2 ^ j % b
theorem half_step (a i : Nat) : a / 2 ^ i = 2 * (a / 2 ^ (i + 1)) + bitn a i := by
  unfold bitn
  rw [Nat.pow_succ, ← Nat.div_div_eq_div_mul]; omega
theorem step_lt (a b i : Nat) (hb : 0 < b) (h : 2 * rk a b (i + 1) + bitn a i < b) : rk a b i = 2 * rk a b (i + 1) + bitn a i ∧ qk a b i = qk a b (i + 1) := by
  have hs := half_step a i
  unfold rk qk at *
  generalize a / 2 ^ (i + 1) = x at *
  generalize a / 2 ^ i = y at *
  have hd := Nat.div_add_mod x b
  have e : y = (2 * (x % b) + bitn a i) + b * (2 * (x / b)) := by
    rw [hs, Nat.mul_left_comm]; omega
  rw [e, Nat.add_mul_mod_self_left, Nat.add_mul_div_left _ _ hb, Nat.mod_eq_of_lt h, Nat.div_eq_of_lt h, Nat.pow_succ]
  refine ⟨rfl, ?_⟩
  rw [Nat.zero_add, Nat.mul_assoc, Nat.mul_comm 2, Nat.mul_assoc]
theorem step_ge (a b i : Nat) (hb : 0 < b) (h : ¬ 2 * rk a b (i + 1) + bitn a i < b) : rk a b i = 2 * rk a b (i + 1) + bitn a i - b ∧ qk a b i = qk a b (i + 1) + 2 ^ i := by
  have hs := half_step a i
  have hbit := bitn_le a i
  unfold rk qk at *
  generalize a / 2 ^ (i + 1) = x at *
  generalize a / 2 ^ i = y at *
  have hd := Nat.div_add_mod x b
  have hm := Nat.mod_lt x hb
  have e : y = (2 * (x % b) + bitn a i - b) + b * (2 * (x / b) + 1) := by
    rw [hs, Nat.mul_add, Nat.mul_left_comm]; omega
  have hlt : 2 * (x % b) + bitn a i - b < b := by omega
  rw [e, Nat.add_mul_mod_self_left, Nat.add_mul_div_left _ _ hb, Nat.mod_eq_of_lt hlt, Nat.div_eq_of_lt hlt, Nat.pow_succ]
  refine ⟨rfl, ?_⟩
  rw [Nat.zero_add, Nat.add_mul, Nat.one_mul, Nat.mul_assoc, Nat.mul_comm 2, Nat.mul_assoc]
theorem rk_lt (a b j : Nat) (hb : 0 < b) : rk a b j < b := Nat.mod_lt _ hb
/-- A bit put in where there are none from there down. -/
theorem wn_put (Q i k : Nat) (h : Q % 2 ^ (i + 1) = 0) : wn (Q + 2 ^ i) k = if k = i / 64 then wn Q k + 2 ^ (i % 64) else wn Q k := by
  have hi : i % 64 < 64 := Nat.mod_lt _ (by decide)
  have e : 2 ^ i = B ^ (i / 64) * 2 ^ (i % 64) := by
    rw [B_two, ← Nat.pow_mul, ← Nat.pow_add]; congr 1; omega
  obtain ⟨q, rfl⟩ : ∃ q, Q = 2 ^ (i + 1) * q := ⟨Q / 2 ^ (i + 1), by have := Nat.div_add_mod Q (2 ^ (i + 1)); omega⟩
  have e1 : 2 ^ (i + 1) * q = 2 ^ i * (2 * q) := by rw [Nat.pow_succ, Nat.mul_assoc]
  rw [e1, e]
  generalize i / 64 = w at *
  generalize i % 64 = j at *
  have e2 : B = 2 ^ j * (2 * 2 ^ (63 - j)) := by rw [B_two, ← Nat.pow_succ', ← Nat.pow_add]; congr 1; omega
  unfold wn
  rcases Nat.lt_trichotomy k w with hk | hk | hk
  · rw [if_neg (by omega)]
    obtain ⟨d, rfl⟩ : ∃ d, w = k + 1 + d := ⟨w - (k + 1), by omega⟩
    have e3 : B ^ (k + 1 + d) = B ^ k * (B * B ^ d) := by rw [Nat.pow_add, Nat.pow_succ, Nat.mul_assoc]
    rw [e3]
    have hp : 0 < B ^ k := Nat.pow_pos B_pos
    rw [show B ^ k * (B * B ^ d) * 2 ^ j * (2 * q) + B ^ k * (B * B ^ d) * 2 ^ j = B ^ k * (B * (B ^ d * 2 ^ j * (2 * q) + B ^ d * 2 ^ j)) by grind, Nat.mul_div_cancel_left _ hp, Nat.mul_mod_right]
    rw [show B ^ k * (B * B ^ d) * 2 ^ j * (2 * q) = B ^ k * (B * (B ^ d * 2 ^ j * (2 * q))) by grind, Nat.mul_div_cancel_left _ hp, Nat.mul_mod_right]
  · rw [if_pos hk]
    subst hk
    have hp : 0 < B ^ k := Nat.pow_pos B_pos
    rw [show B ^ k * 2 ^ j * (2 * q) + B ^ k * 2 ^ j = B ^ k * (2 ^ j * (2 * q + 1)) by grind, Nat.mul_div_cancel_left _ hp]
    rw [show B ^ k * 2 ^ j * (2 * q) = B ^ k * (2 ^ j * (2 * q)) by grind, Nat.mul_div_cancel_left _ hp]
    rw [e2, Nat.mul_mod_mul_left, Nat.mul_mod_mul_left, Nat.mul_mod_mul_left]
    have hp2 : 0 < 2 ^ (63 - j) := Nat.two_pow_pos _
    have : (2 * q + 1) % (2 * 2 ^ (63 - j)) = 2 * (q % 2 ^ (63 - j)) + 1 := by
      have h1 := Nat.div_add_mod q (2 ^ (63 - j))
      have h2 := Nat.mod_lt q hp2
      rw [show 2 * q + 1 = (2 * (q % 2 ^ (63 - j)) + 1) + 2 * 2 ^ (63 - j) * (q / 2 ^ (63 - j)) by rw [Nat.mul_assoc]; omega, Nat.add_mul_mod_self_left, Nat.mod_eq_of_lt (by omega)]
    rw [this, Nat.mul_add, Nat.mul_one]
  · rw [if_neg (by omega)]
    obtain ⟨d, rfl⟩ : ∃ d, k = w + 1 + d := ⟨k - (w + 1), by omega⟩
    have e3 : B ^ (w + 1 + d) = B ^ w * (2 ^ j * (2 * (2 ^ (63 - j) * B ^ d))) := by
      rw [Nat.pow_add, Nat.pow_succ]
      conv => lhs; lhs; rhs; rw [e2]
      grind
    have hp : 0 < B ^ w := Nat.pow_pos B_pos
    have hp2 : 0 < 2 ^ j := Nat.two_pow_pos _
    rw [e3, show B ^ w * 2 ^ j * (2 * q) + B ^ w * 2 ^ j = B ^ w * (2 ^ j * (2 * q + 1)) by grind, show B ^ w * 2 ^ j * (2 * q) = B ^ w * (2 ^ j * (2 * q)) by grind]
    rw [Nat.mul_div_mul_left _ _ hp, Nat.mul_div_mul_left _ _ hp, Nat.mul_div_mul_left _ _ hp2, Nat.mul_div_mul_left _ _ hp2]
    generalize 2 ^ (63 - j) * B ^ d = z
    have e4 : (2 * q + 1) / 2 = 2 * q / 2 := by omega
    rw [← Nat.div_div_eq_div_mul, ← Nat.div_div_eq_div_mul, e4]
theorem qk_mod (a b j : Nat) : qk a b j % 2 ^ j = 0 := by unfold qk; exact Nat.mul_mod_left _ _
theorem qk_zero (a b : Nat) : qk a b 0 = a / b := by simp [qk]
theorem qk_high (a b j : Nat) (h : a < 2 ^ j) : qk a b j = 0 := by simp [qk, Nat.div_eq_of_lt h]
theorem rk_high (a b j : Nat) (h : a < 2 ^ j) : rk a b j = 0 := by simp [rk, Nat.div_eq_of_lt h]
theorem B9_two : B9 = 2 ^ 576 := by unfold B9; rw [B_two, ← Nat.pow_mul]
theorem B4_two : B4 = 2 ^ 256 := by unfold B4; rw [B_two, ← Nat.pow_mul]
theorem wn_even_zero (r : Nat) : wn (2 * r) 0 % 2 = 0 := by
  unfold wn; rw [Nat.pow_zero, Nat.div_one, B_eq]; omega
theorem wn_even_put (r c k : Nat) (hc : c ≤ 1) : wn (2 * r + c) k = if k = 0 then wn (2 * r) 0 + c else wn (2 * r) k := by
  rcases (by omega : c = 0 ∨ c = 1) with rfl | rfl
  · simp only [Nat.add_zero]; split <;> simp_all
  · have := wn_put (2 * r) 0 k (by simp)
    by_cases hk : k = 0
    · subst hk; simpa using this
    · simpa [hk] using this
end Go.Proofs.YtmopgcbhmkemjaaGreatDoor

namespace Go.Proofs.YtmopgcbhmkemjaaGreatDoor
open Go Go.RowKit
set_option linter.unusedSimpArgs false
set_option linter.unusedVariables false
set_option maxRecDepth 100000

theorem and_one (x : Nat) (hx : x < B) : bits .and .u64 (x : Int) 1 = ((x % 2 : Nat) : Int) := by
  rw [B_eq] at hx
  have := (bits_nat .u64 64 (by decide) (fun n h0 h1 => by rw [IntKind.wrap_u64]; omega) x 1 (by omega) (by decide)).1
  rw [show ((1 : Nat) : Int) = 1 from rfl] at this
  rw [this, Nat.and_one_is_mod]
theorem and_bit (a i : Nat) : bits .and .u64 (((wn a (i / 64) : Nat) : Int) / 2 ^ (i % 64)) 1 = ((bitn a i : Nat) : Int) := by
  have e : (((wn a (i / 64) : Nat) : Int) / 2 ^ (i % 64)) = ((wn a (i / 64) / 2 ^ (i % 64) : Nat) : Int) := by push_cast; rfl
  rw [e, and_one _ (Nat.lt_of_le_of_lt (Nat.div_le_self _ _) (wn_lt _ _)), bitn_word]
theorem or_even (x c : Nat) (hx : x < B) (h2 : x % 2 = 0) (hc : c ≤ 1) : bits .or .u64 (x : Int) (c : Int) = ((x + c : Nat) : Int) := by
  rw [B_eq] at hx
  rw [(bits_nat .u64 64 (by decide) (fun n h0 h1 => by rw [IntKind.wrap_u64]; omega) x c (by omega) (by omega)).2]
  congr 1
  have := Nat.two_pow_add_eq_or_of_lt (i := 1) (show c < 2 ^ 1 by omega) (x / 2)
  rw [show 2 ^ 1 * (x / 2) = x by omega] at this
  exact this.symm
theorem or_bit (r c : Nat) (hc : c ≤ 1) : bits .or .u64 ((wn (r + r) 0 : Nat) : Int) (c : Int) = ((wn (r + r + c) 0 : Nat) : Int) := by
  rw [show r + r = 2 * r by omega, or_even _ _ (wn_lt _ _) (wn_even_zero r) hc, wn_even_put r c 0 hc]; simp

theorem grow_alloc' (w : World) (d : Gr) (o : Obj) : (grow w d).alloc o = grow w ⟨d.obs.push o, d.n⟩ := by
  rw [← grow_none (w := (grow w d).alloc o), grow_alloc_grow]; simp
def words (n : Nat) : Array Value := #[q64 (wn n 0), q64 (wn n 1), q64 (wn n 2), q64 (wn n 3), q64 (wn n 4), q64 (wn n 5), q64 (wn n 6), q64 (wn n 7), q64 (wn n 8)]
theorem words_holds (n : Nat) : Holds9 (words n) (wn n) := by
  refine ⟨rfl, fun j hj => ?_⟩
  match j, hj with
  | 0, _ => rfl
  | 1, _ => rfl
  | 2, _ => rfl
  | 3, _ => rfl
  | 4, _ => rfl
  | 5, _ => rfl
  | 6, _ => rfl
  | 7, _ => rfl
  | 8, _ => rfl
theorem two_cast (s : Nat) : ((2 ^ s : Nat) : Int) = 2 ^ s := by push_cast; rfl
theorem two_wrap (s : Nat) (hs : s < 64) : IntKind.u64.wrap (2 ^ s) = 2 ^ s := by
  have hp : 2 ^ s < 18446744073709551616 := Nat.lt_of_lt_of_eq (Nat.pow_lt_pow_right (by decide) hs) (by decide)
  rw [← two_cast]
  generalize 2 ^ s = y at *
  rw [IntKind.wrap_u64]; omega
theorem put_fold (r c : Nat) (hc : c ≤ 1) : Obj.cells #[q64 (wn (r + r + c) 0), q64 (wn (r + r) 1), q64 (wn (r + r) 2), q64 (wn (r + r) 3), q64 (wn (r + r) 4), q64 (wn (r + r) 5), q64 (wn (r + r) 6), q64 (wn (r + r) 7), q64 (wn (r + r) 8)] 128 = wideC (r + r + c) := by
  have h : ∀ k, k ≠ 0 → wn (r + r) k = wn (r + r + c) k := by
    intro k hk
    rw [show r + r = 2 * r by omega, wn_even_put r c k hc, if_neg hk]
  rw [h 1 (by decide), h 2 (by decide), h 3 (by decide), h 4 (by decide), h 5 (by decide), h 6 (by decide), h 7 (by decide), h 8 (by decide)]
theorem or_put (Q i : Nat) (hQ : Q % 2 ^ (i + 1) = 0) : bits .or .u64 ((wn Q (i / 64) : Nat) : Int) ((2 ^ (i % 64) : Nat) : Int) = ((wn (Q + 2 ^ i) (i / 64) : Nat) : Int) := by
  have hx := wn_lt Q (i / 64)
  rw [wn_put Q i _ hQ, if_pos rfl]
  have hp : 2 ^ (i % 64) < 2 ^ 64 := Nat.pow_lt_pow_right (by decide) (Nat.mod_lt _ (by decide))
  have hd : wn Q (i / 64) % 2 ^ (i % 64 + 1) = 0 := by
    unfold wn
    rw [B_two, ← Nat.pow_mul, Nat.mod_mod_of_dvd _ (Nat.pow_dvd_pow 2 (by omega))]
    obtain ⟨m, rfl⟩ := Nat.dvd_of_mod_eq_zero hQ
    rw [show i + 1 = 64 * (i / 64) + (i % 64 + 1) by omega, Nat.pow_add, Nat.mul_assoc, Nat.mul_div_cancel_left _ (Nat.pow_pos (by decide)), Nat.mul_mod_right]
  rw [B_eq] at hx
  rw [(bits_nat .u64 64 (by decide) (fun n h0 h1 => by rw [IntKind.wrap_u64]; omega) (wn Q (i / 64)) (2 ^ (i % 64)) (by omega) hp).2]
  congr 1
  have := Nat.two_pow_add_eq_or_of_lt (i := i % 64 + 1) (show 2 ^ (i % 64) < 2 ^ (i % 64 + 1) by rw [Nat.pow_succ]; have := Nat.pow_pos (a := 2) (n := i % 64) (by decide); omega) (wn Q (i / 64) / 2 ^ (i % 64 + 1))
  rw [Nat.mul_div_cancel' (Nat.dvd_of_mod_eq_zero hd)] at this
  exact this.symm

set_option maxHeartbeats 8000000 in
theorem by_any (a b : Nat) (ha : a < B9) (hb0 : 0 < b) (hb : 2 * b ≤ B9) (w : World) :
    Calls Tryz.prog 111 #[wideV a, wideV b] w fun e w' => e = .returned (wideV (a / b)) ∧ Ext w w' := by
  have hbl : b < B9 := by have := B9_pos; omega
  go_enter Tryz.func111, Tryz.ntmps111
  go_wp2
  go_loopg [6] 576 (fun g q wr => ∃ (j : Nat) (Aa Aq : Array Value) (d : Gr), j ≤ 576 ∧ g = j ∧ q = .int .i64 ((j : Int) - 1) ∧ Holds9 Aa (wn a) ∧ Holds9 Aq (wn (qk a b j)) ∧
      wr = grow ((((w.alloc (.cells Aa 128)).alloc (wideC b)).alloc (.cells Aq 128)).alloc (wideC (rk a b j))) d)
  case atStart =>
    refine ⟨576, words a, words 0, ⟨#[], fun k => k⟩, by omega, rfl, rfl, words_holds a, ?_, ?_⟩
    · rw [qk_high a b 576 (by rw [← B9_two]; exact ha)]; exact words_holds 0
    · rw [rk_high a b 576 (by rw [← B9_two]; exact ha)]; simp only [words, wideC, wn_zero]; exact (grow_none _).symm
  case round =>
    obtain ⟨j, Aa, Aq, d, hj, rfl, rfl, hAa, hAq, rfl⟩ := hrel
    by_cases e : gk = 0
    · subst e
      rw [qk_zero] at hAq
      have hl := hAq.lit
      subst hl
      go_wp2
      exact bodyPost_ret (v := wideV (a / b)) (by simp [results, Tryz.results111, go_sem]) rfl ⟨rfl, (by repeat (first | (with_reducible exact Ext.refl _) | (with_reducible assumption) | (with_reducible apply Ext.grow) | (with_reducible apply Ext.alloc) | (with_reducible apply Ext.drew) | ((with_reducible apply Ext.set); (case hb => (first | omega | (simp; omega))))))⟩
    · obtain ⟨i, rfl⟩ : ∃ i, gk = i + 1 := ⟨gk - 1, by omega⟩
      have ei : ((i + 1 : Nat) : Int) - 1 = (i : Int) := by omega
      rw [ei]
      have hi64 : i / 64 < 9 := by omega
      have hca := hAa.2 (i / 64) hi64
      have hcq := hAq.2 (i / 64) hi64
      have h1 : IntKind.i64.wrap ((i : Int) / 64) = ((i / 64 : Nat) : Int) := by rw [IntKind.wrap_i64]; omega
      have h3 : min (i % 64) 64 = i % 64 := by omega
      have h6 : ((i : Int) / 64).toNat = i / 64 := by omega
      have h7 : 0 ≤ (i : Int) / 64 := by omega
      have h8 : (i : Int) / 64 < 9 := by omega
      have h9 : ((i : Int) % 64).toNat = i % 64 := by omega
      have h11 : ((i : Int)).tmod 64 = (i : Int) % 64 := by rw [Int.tmod_eq_emod_of_nonneg (by omega)]
      have h10 : 0 ≤ (i : Int) % 64 := by omega
      have hrl : rk a b (i + 1) < b := rk_lt a b (i + 1) hb0
      have h4 := and_bit a i
      have h5 := or_bit (rk a b (i + 1)) (bitn a i) (bitn_le a i)
      go_wp2_with (go_at_call 113; refine (wsum_any _ _ _).mono ?_; rintro e w' ⟨rfl, d, rfl⟩)
      (first | refine wp_region_k' [.p, .r, .p, .p, .p, .r, .p, .p, .p, .p, .p, .p, .w] (by kernel_rfl) (by kernel_rfl) ?_ | refine wp_region_k [.p, .r, .p, .p, .p, .r, .p, .p, .p, .p, .p, .p, .w] (by kernel_rfl) (by kernel_rfl) ?_); (repeat (first | (refine wpK_p rfl (fun K hK => ?_); go_simp; refine hK _ _ ?_; clear hK K) | (refine wpK_r rfl (fun K hK => ?_); go_simp; refine hK _ _ ?_; clear hK K) | (refine wpK_w rfl (fun K hK => ?_); go_simp; refine hK _ _ ?_; clear hK K))); refine wpK_nil ?_; intro d
      rw [put_fold _ _ (bitn_le a i)]
      have hbit := bitn_le a i
      have hz : rk a b (i + 1) + rk a b (i + 1) + bitn a i = 2 * rk a b (i + 1) + bitn a i := by omega
      generalize rk a b (i + 1) + rk a b (i + 1) + bitn a i = R at *
      by_cases hlt : R < b
      · obtain ⟨s1, s2⟩ := step_lt a b i hb0 (by omega)
        have c := wless_lt R b (by omega) hbl hlt
        obtain rfl : R = rk a b i := by omega
        rw [← s2] at hAq
        clear s1 s2 h4 h5 hz
        go_wp2_with (go_at_call 114; refine (c _).mono ?_; rintro e w' ⟨rfl, d, rfl⟩)
        --dbg
        go_roundg i
        case measure => omega
        case rel => exact ⟨i, Aa, Aq, _, by omega, rfl, by go_num, hAa, hAq, by rw [grow_alloc']⟩
      · obtain ⟨s1, s2⟩ := step_ge a b i hb0 (by omega)
        have c := wless_le R b (by omega) (by omega)
        have es : R - b = rk a b i := by omega
        rw [es] at c
        have ho := or_put (qk a b (i + 1)) i (qk_mod a b (i + 1))
        have hw : IntKind.u64.wrap (2 ^ (i % 64)) = 2 ^ (i % 64) := two_wrap _ (Nat.mod_lt _ (by decide))
        rw [two_cast] at ho
        rw [← s2] at ho
        have s2' := Lib.hid s2
        clear h4 h5 s1 s2 hz es
        go_wp2_with (go_at_call 114; refine (c _).mono ?_; rintro e w' ⟨rfl, d, rfl⟩)
        (first | refine wp_region_k' [.p, .p, .p, .r, .p, .p, .p, .p, .p, .w] (by kernel_rfl) (by kernel_rfl) ?_ | refine wp_region_k [.p, .p, .p, .r, .p, .p, .p, .p, .p, .w] (by kernel_rfl) (by kernel_rfl) ?_); (repeat (first | (refine wpK_p rfl (fun K hK => ?_); go_simp; refine hK _ _ ?_; clear hK K) | (refine wpK_r rfl (fun K hK => ?_); go_simp; refine hK _ _ ?_; clear hK K) | (refine wpK_w rfl (fun K hK => ?_); go_simp; refine hK _ _ ?_; clear hK K))); refine wpK_nil ?_; intro d
        go_wp2
        --dbg
        go_roundg i
        case measure => omega
        case rel => exact ⟨i, Aa, _, _, by omega, rfl, by go_num, hAa, hAq.set (i / 64) _ hi64 rfl (fun k hk hne => by rw [s2'.out, wn_put _ i k (qk_mod a b (i + 1)), if_neg hne]), by rw [grow_alloc_grow]⟩
end Go.Proofs.YtmopgcbhmkemjaaGreatDoor

namespace Go.Proofs.YtmopgcbhmkemjaaGreatDoor
open Go Go.RowKit
set_option linter.unusedSimpArgs false
set_option linter.unusedVariables false
set_option maxRecDepth 100000

/-- limb.caught, where the frame below returns. -/
theorem caught_idle (p : Addr) (fv : Value) (w : World) :
    CallsD Tryz.prog 125 #[.pointer (some p), fv] .returning w fun e u' w' => e = .returned (.tuple #[]) ∧ u' = .returning ∧ w' = w := by
  refine callsD_of_wpS Tryz.func125 rfl fun c₀ cs hu => ?_
  apply wpS_seq
  apply wpS_region
  simp [wpOpsS, go_sem, recoverD, hu, Tryz.ntmps125, Exit.thenS]
  apply wpS_seq
  apply wpS_region
  simp [wpOpsS, go_sem, Exit.thenS]
  refine wpS_cond (t := false) (by simp [Act.eval, Array.replicate]) ?_
  simp only [Bool.false_eq_true, if_false]
  refine wpS_of_wp (wp_skip ?_)
  cases c₀
  simp_all [bodyPostS, results, Tryz.results125]
/-- .. where it panics with an Errno. -/
theorem caught_pan (pb : Nat) (x e : Int) (g : Nat) (caps : Array Value) (older : List PanicEntry) (w : World) (R : Ending → FrameMode → World → Prop) (hc : w.cell? ⟨pb, 0, none⟩ = some (.int .i64 x)) (hz : w.frozen? ⟨pb, 0, none⟩ = false)
    (eg : ∀ args w, (callFunc g args).run Tryz.prog w = .ok (.enter g args) w)
    (hg : Calls Tryz.prog g caps (w.setCell ⟨pb, 0, none⟩ (.int .i64 e)) fun e' w' => e' = .returned (.tuple #[]) ∧ R (.returned (.tuple #[])) (.panicking ({ v := .iface 33 (.int .i64 e), recovered := true } :: older)) w') :
    CallsD Tryz.prog 125 #[.pointer (some ⟨pb, 0, none⟩), .func (.func g) #[] caps] (.panicking ({ v := .iface 33 (.int .i64 e), recovered := false } :: older)) w R := by
  have hta : ∀ w, (Instr.typeAssert (.iface 33 (.int .i64 e)) 20 33 false).run Tryz.prog w = .ok (.int .i64 e) w := fun w => by kernel_rfl
  refine callsD_of_wpS Tryz.func125 rfl fun c₀ cs hu => ?_
  apply wpS_seq
  apply wpS_region
  simp [wpOpsS, go_sem, recoverD, hu, Tryz.ntmps125, Exit.thenS]
  apply wpS_seq
  apply wpS_region
  simp [wpOpsS, go_sem, Exit.thenS]
  refine wpS_cond (t := true) (by simp [Act.eval, Array.replicate]) ?_
  simp only [if_true]
  refine wpS_of_wp ?_
  go_wp2
  refine hg.mono ?_
  rintro e' w' ⟨rfl, hR⟩
  go_wp2
  simpa [bodyPostS, results, Tryz.results125] using hR
end Go.Proofs.YtmopgcbhmkemjaaGreatDoor

namespace Go.Proofs.YtmopgcbhmkemjaaGreatDoor
open Go Go.RowKit
set_option linter.unusedSimpArgs false
set_option linter.unusedVariables false
set_option maxRecDepth 100000

theorem check_yes (s : Bool) (m : Nat) (hm : m < B4) (h : badI s m = false) (w : World) :
    Calls Tryz.prog 69 #[intV s m] w fun e w' => e = .returned (.int .i64 0) ∧ Ext w w' := by
  have := check_any s m hm w
  rwa [show chk s m = 0 by simp [chk, h]] at this
theorem check_no (s : Bool) (m : Nat) (hm : m < B4) (h : badI s m = true) (w : World) :
    Calls Tryz.prog 69 #[intV s m] w fun e w' => e = .returned (.int .i64 2) ∧ Ext w w' := by
  have := check_any s m hm w
  rwa [show chk s m = 2 by simp [chk, h]] at this

/-- Two Ints laid one behind the other. -/
abbrev ints2 (s1 : Bool) (m1 : Nat) (s2 : Bool) (m2 : Nat) : Array Value :=
  #[.bool s1, q64 (wn m1 0), q64 (wn m1 1), q64 (wn m1 2), q64 (wn m1 3), .bool s2, q64 (wn m2 0), q64 (wn m2 1), q64 (wn m2 2), q64 (wn m2 3)]
abbrev ints1 (s1 : Bool) (m1 : Nat) : Array Value := #[.bool s1, q64 (wn m1 0), q64 (wn m1 1), q64 (wn m1 2), q64 (wn m1 3)]
/-- An Int lies in a block from a cell on. -/
structure IntAt (w : World) (b o : Nat) (s : Bool) (m : Nat) : Prop where
  lt : b < w.heap.size
  c0 : w.cell? ⟨b, o, none⟩ = some (.bool s)
  c1 : w.cell? ⟨b, o + 1, none⟩ = some (q64 (wn m 0))
  c2 : w.cell? ⟨b, o + 2, none⟩ = some (q64 (wn m 1))
  c3 : w.cell? ⟨b, o + 3, none⟩ = some (q64 (wn m 2))
  c4 : w.cell? ⟨b, o + 4, none⟩ = some (q64 (wn m 3))
theorem IntAt.ext {w w' : World} {b o : Nat} {s : Bool} {m : Nat} (h : IntAt w b o s m) (hx : Ext w w') : IntAt w' b o s m :=
  ⟨Nat.lt_of_lt_of_le h.lt hx.size, hx.cell h.c0, hx.cell h.c1, hx.cell h.c2, hx.cell h.c3, hx.cell h.c4⟩
theorem IntAt.grow {w : World} {b o : Nat} {s : Bool} {m : Nat} (h : IntAt w b o s m) (d : Gr) : IntAt (grow w d) b o s m := h.ext ⟨d, rfl⟩
theorem IntAt.alloc {w : World} {b o : Nat} {s : Bool} {m : Nat} (h : IntAt w b o s m) (x : Obj) : IntAt (w.alloc x) b o s m := h.ext ((Ext.refl w).alloc x)

set_option maxHeartbeats 4000000 in
theorem right2_yes (s1 : Bool) (m1 : Nat) (s2 : Bool) (m2 : Nat) (h1 : m1 < B4) (h2 : m2 < B4) (g1 : badI s1 m1 = false) (g2 : badI s2 m2 = false) (w : World) (b cap : Nat) (i1 : IntAt w b 0 s1 m1) (i2 : IntAt w b 5 s2 m2) :
    Calls Tryz.prog 144 #[.slice (some ⟨b, 0, none⟩) 2 cap] w fun e w' => e = .returned (.tuple #[]) ∧ Ext w w' := by
  obtain ⟨hb, c0, c1, c2, c3, c4⟩ := i1
  obtain ⟨_, e0, e1, e2, e3, e4⟩ := i2
  have k1 := check_yes s1 m1 h1 g1
  have k2 := check_yes s2 m2 h2 g2
  clear h1 h2 g1 g2
  go_enter Tryz.func144, Tryz.ntmps144
  go_wp2
  refine wp_loop_rounds 3 ?_
  rw [rounds_succ]
  go_wp2_with (first
    | (go_at_call 69; refine (k1 _).mono ?_; rintro e w' ⟨rfl, d, rfl⟩)
    | (go_at_call 127; refine (must_yes _ _).mono ?_; rintro e w' ⟨rfl, rfl⟩))
  rw [rounds_succ]
  go_wp2_with (first
    | (go_at_call 69; refine (k2 _).mono ?_; rintro e w' ⟨rfl, d, rfl⟩)
    | (go_at_call 127; refine (must_yes _ _).mono ?_; rintro e w' ⟨rfl, rfl⟩))
  rw [rounds_succ]
  go_wp2
  go_end0
  exact ⟨rfl, (by repeat (first | (with_reducible exact Ext.refl _) | (with_reducible assumption) | (with_reducible apply Ext.grow) | (with_reducible apply Ext.alloc) | (with_reducible apply Ext.drew) | ((with_reducible apply Ext.set); (case hb => (first | omega | (simp; omega))))))⟩
set_option maxHeartbeats 4000000 in
theorem right2_no1 (s1 : Bool) (m1 : Nat) (s2 : Bool) (m2 : Nat) (h1 : m1 < B4) (g1 : badI s1 m1 = true) (w : World) (b cap : Nat) (i1 : IntAt w b 0 s1 m1) (i2 : IntAt w b 5 s2 m2) :
    Calls Tryz.prog 144 #[.slice (some ⟨b, 0, none⟩) 2 cap] w fun e w' => e = givesUp 2 ∧ Ext w w' := by
  obtain ⟨hb, c0, c1, c2, c3, c4⟩ := i1
  obtain ⟨_, e0, e1, e2, e3, e4⟩ := i2
  have k1 := check_no s1 m1 h1 g1
  clear h1 g1
  go_enter Tryz.func144, Tryz.ntmps144
  go_wp2
  refine wp_loop_rounds 3 ?_
  rw [rounds_succ]
  go_wp2_with (first
    | (go_at_call 69; refine (k1 _).mono ?_; rintro e w' ⟨rfl, d, rfl⟩)
    | (go_at_call 127; refine (must_no _ _).mono ?_; rintro e w' ⟨rfl, rfl⟩))
  exact ⟨rfl, rfl, (by repeat (first | (with_reducible exact Ext.refl _) | (with_reducible assumption) | (with_reducible apply Ext.grow) | (with_reducible apply Ext.alloc) | (with_reducible apply Ext.drew) | ((with_reducible apply Ext.set); (case hb => (first | omega | (simp; omega))))))⟩

set_option maxHeartbeats 4000000 in
theorem right2_no2 (s1 : Bool) (m1 : Nat) (s2 : Bool) (m2 : Nat) (h1 : m1 < B4) (h2 : m2 < B4) (g1 : badI s1 m1 = false) (g2 : badI s2 m2 = true) (w : World) (b cap : Nat) (i1 : IntAt w b 0 s1 m1) (i2 : IntAt w b 5 s2 m2) :
    Calls Tryz.prog 144 #[.slice (some ⟨b, 0, none⟩) 2 cap] w fun e w' => e = givesUp 2 ∧ Ext w w' := by
  obtain ⟨hb, c0, c1, c2, c3, c4⟩ := i1
  obtain ⟨_, e0, e1, e2, e3, e4⟩ := i2
  have k1 := check_yes s1 m1 h1 g1
  have k2 := check_no s2 m2 h2 g2
  clear h1 h2 g1 g2
  go_enter Tryz.func144, Tryz.ntmps144
  go_wp2
  refine wp_loop_rounds 3 ?_
  rw [rounds_succ]
  go_wp2_with (first
    | (go_at_call 69; refine (k1 _).mono ?_; rintro e w' ⟨rfl, d, rfl⟩)
    | (go_at_call 127; refine (must_yes _ _).mono ?_; rintro e w' ⟨rfl, rfl⟩))
  rw [rounds_succ]
  go_wp2_with (first
    | (go_at_call 69; refine (k2 _).mono ?_; rintro e w' ⟨rfl, d, rfl⟩)
    | (go_at_call 127; refine (must_no _ _).mono ?_; rintro e w' ⟨rfl, rfl⟩))
  exact ⟨rfl, rfl, (by repeat (first | (with_reducible exact Ext.refl _) | (with_reducible assumption) | (with_reducible apply Ext.grow) | (with_reducible apply Ext.alloc) | (with_reducible apply Ext.drew) | ((with_reducible apply Ext.set); (case hb => (first | omega | (simp; omega))))))⟩

theorem right2_no (s1 : Bool) (m1 : Nat) (s2 : Bool) (m2 : Nat) (h1 : m1 < B4) (h2 : m2 < B4) (g : (badI s1 m1 || badI s2 m2) = true) (w : World) (b cap : Nat) (i1 : IntAt w b 0 s1 m1) (i2 : IntAt w b 5 s2 m2) :
    Calls Tryz.prog 144 #[.slice (some ⟨b, 0, none⟩) 2 cap] w fun e w' => e = givesUp 2 ∧ Ext w w' := by
  cases g1 : badI s1 m1 with
  | true => exact right2_no1 s1 m1 s2 m2 h1 g1 w b cap i1 i2
  | false => exact right2_no2 s1 m1 s2 m2 h1 h2 g1 (by rw [g1] at g; simpa using g) w b cap i1 i2

set_option maxHeartbeats 4000000 in
theorem right1_yes (s1 : Bool) (m1 : Nat) (h1 : m1 < B4) (g1 : badI s1 m1 = false) (w : World) (b cap : Nat) (i1 : IntAt w b 0 s1 m1) :
    Calls Tryz.prog 144 #[.slice (some ⟨b, 0, none⟩) 1 cap] w fun e w' => e = .returned (.tuple #[]) ∧ Ext w w' := by
  obtain ⟨hb, c0, c1, c2, c3, c4⟩ := i1
  have k1 := check_yes s1 m1 h1 g1
  clear h1 g1
  go_enter Tryz.func144, Tryz.ntmps144
  go_wp2
  refine wp_loop_rounds 2 ?_
  rw [rounds_succ]
  go_wp2_with (first
    | (go_at_call 69; refine (k1 _).mono ?_; rintro e w' ⟨rfl, d, rfl⟩)
    | (go_at_call 127; refine (must_yes _ _).mono ?_; rintro e w' ⟨rfl, rfl⟩))
  rw [rounds_succ]
  go_wp2
  go_end0
  exact ⟨rfl, (by repeat (first | (with_reducible exact Ext.refl _) | (with_reducible assumption) | (with_reducible apply Ext.grow) | (with_reducible apply Ext.alloc) | (with_reducible apply Ext.drew) | ((with_reducible apply Ext.set); (case hb => (first | omega | (simp; omega))))))⟩
set_option maxHeartbeats 4000000 in
theorem right1_no (s1 : Bool) (m1 : Nat) (h1 : m1 < B4) (g1 : badI s1 m1 = true) (w : World) (b cap : Nat) (i1 : IntAt w b 0 s1 m1) :
    Calls Tryz.prog 144 #[.slice (some ⟨b, 0, none⟩) 1 cap] w fun e w' => e = givesUp 2 ∧ Ext w w' := by
  obtain ⟨hb, c0, c1, c2, c3, c4⟩ := i1
  have k1 := check_no s1 m1 h1 g1
  clear h1 g1
  go_enter Tryz.func144, Tryz.ntmps144
  go_wp2
  refine wp_loop_rounds 2 ?_
  rw [rounds_succ]
  go_wp2_with (first
    | (go_at_call 69; refine (k1 _).mono ?_; rintro e w' ⟨rfl, d, rfl⟩)
    | (go_at_call 127; refine (must_no _ _).mono ?_; rintro e w' ⟨rfl, rfl⟩))
  exact ⟨rfl, rfl, (by repeat (first | (with_reducible exact Ext.refl _) | (with_reducible assumption) | (with_reducible apply Ext.grow) | (with_reducible apply Ext.alloc) | (with_reducible apply Ext.drew) | ((with_reducible apply Ext.set); (case hb => (first | omega | (simp; omega))))))⟩

end Go.Proofs.YtmopgcbhmkemjaaGreatDoor

namespace Go.Proofs.YtmopgcbhmkemjaaGreatDoor
open Go Go.RowKit
set_option linter.unusedSimpArgs false
set_option linter.unusedVariables false
set_option linter.constructorNameAsVariable false

section
variable {P : Program} {ops : Array Oper} {md : Region.Mode}

/-- Operation o is a call that panics with this chain. -/
def Stops (P : Program) (ops : Array Oper) (chain : List PanicEntry) (o : Oper) (a : Act) (W : World) : Prop :=
  Region.wanted o (yielded ops a.tmps) = true ∧ ∀ d, ∃ f args, (execOp a.eval o).run P (grow W d) = .ok (.enter f args) (grow W d) ∧ Calls P f args (grow W d) fun e w'' => e = .panicked chain ∧ Ext W w''

theorem Stops.put {chain : List PanicEntry} {o : Oper} {a : Act} {W : World} {dst : Option Tmp} {v : Value} (hs : ∀ cs b, o.op ≠ .select cs b) (hd : ∀ d, dst = some d → d ∉ o.looksAt ops)
    (h : Stops P ops chain o (a.put dst v) W) : Stops P ops chain o a W := by
  unfold Stops at *
  rwa [execOp_put o hs a dst v hd, wanted_put o a dst v hd] at h

def anyS (P : Program) (md : Region.Mode) (ops : Array Oper) (ks : List RK) (t : Nat) (S : Act → World → Prop) : Nat → Array Bool → Act → World → Prop
  | 0, _, _, _ => False
  | f + 1, listed, a, W => Region.ready md ops listed ≠ [] ∧
    ∀ i ∈ Region.ready md ops listed, (i = t ∧ S a W) ∨ (i ≠ t ∧ ∃ o v, ops[i]? = some o ∧ (ks.getD i .w).yields P ops o a W v W ∧ anyS P md ops ks t S f (listed.setIfInBounds i true) (a.put o.dst v) W)

theorem Act.put_defers (a : Act) (d : Option Tmp) (v : Value) : (a.put d v).defers = a.defers := by cases d <;> rfl
theorem wpAny_of_anyS {ks : List RK} {t : Nat} {ot : Oper} (ht : ops[t]? = some ot) {chain : List PanicEntry} {Q' : Exit → Act → World → Prop} (g : Nat) {W0 : World} {D : List Deferred} (hQ : ∀ a w, a.defers = D → Ext W0 w → Q' (.panic chain) a w) :
    ∀ (f : Nat) (listed : Array Bool) (a : Act), a.defers = D → anyS P md ops ks t (Stops P ops chain ot) f listed a W0 → ∀ w, Ext W0 w → wpAny P md ops Q' (f + g) listed a w
  | 0, _, _, _, h, _, _ => h.elim
  | f + 1, listed, a, hD, h, w, hw => by
    rw [show f + 1 + g = (f + g) + 1 by omega]
    refine ⟨fun h0 => absurd h0 h.1, fun i hi => ?_⟩
    rcases h.2 i hi with ⟨rfl, hwt, hS⟩ | ⟨hne, o, v, ho, hy, hn⟩
    · obtain ⟨d, rfl⟩ := hw
      obtain ⟨fn, args, hrun, hc⟩ := hS d
      unfold wpOp
      simp only [ht]
      rw [if_pos hwt]
      refine .inl ?_
      unfold Oper.wp
      rw [hrun]
      exact hc.mono fun e w'' ⟨he, hx⟩ => by subst he; exact hQ _ _ hD hx
    · exact wpOp_of_yields ho hy (fun w' hw' => wpAny_of_anyS ht g hQ f _ _ (by rw [Act.put_defers, hD]) hn w' hw') w hw

theorem anyS_first {ks : List RK} {t i : Nat} {ot oi : Oper} {chain : List PanicEntry} {v : Value} (ht : ops[t]? = some ot) (hi : ops[i]? = some oi) (hit : i ≠ t) (hsel : ∀ (j : Nat) (o : Oper) cs b, ops[j]? = some o → o.op ≠ .select cs b) (hk : ∀ k, ks.getD k .w ≠ .w ∨ t ≤ k) (hap0 : ∀ d, oi.dst = some d → anc md ops 2 t i = false → d ∉ ot.looksAt ops) :
    ∀ (fuel : Nat) (listed : Array Bool) (a : Act) (W : World), Clo md ops listed →
      (∀ j oj, ops[j]? = some oj → j ≠ i → j ≠ t → listed.getD j true = false → anc md ops 2 j i = false → oi.apart ops oj = true ∧ (ks.getD i .w).clash (ks.getD j .w) = false) →
      i ∈ Region.ready md ops listed → (ks.getD i .w).yields P ops oi a W v W →
      anyS P md ops ks t (Stops P ops chain ot) fuel (listed.setIfInBounds i true) (a.put oi.dst v) W → anyS P md ops ks t (Stops P ops chain ot) (fuel + 1) listed a W := by
  intro fuel
  induction fuel with
  | zero => intro listed a W _ _ _ _ H; exact H.elim
  | succ fuel ih =>
    intro listed a W inv hfree hr hy H
    refine ⟨fun h => (by rw [h] at hr; cases hr), fun j hj => ?_⟩
    by_cases hji : j = i
    · subst hji; exact .inr ⟨hit, oi, v, hi, hy, H⟩
    · have hun := (mem_ready.1 hr).1
      have hnot : anc md ops 2 j i = false := anc_ready inv hj hun
      rcases H.2 j (ready_mono hj hji) with ⟨rfl, hS⟩ | ⟨hjt, oj', u, hoj', hyj, hn⟩
      · exact .inl ⟨rfl, hS.put (fun cs b => hsel _ ot cs b ht) (fun d hd => hap0 d hd hnot)⟩
      · obtain ⟨hjun, oj, hoj, hall⟩ := mem_ready.1 hj
        obtain rfl : oj = oj' := Option.some.inj (hoj.symm.trans hoj')
        obtain ⟨hap, hcl⟩ := hfree j oj hoj hji hjt hjun hnot
        obtain ⟨Wj, hj1, hi1⟩ := yields_swap hap hcl (fun cs b => hsel i oi cs b hi) (fun cs b => hsel j oj cs b hoj) hy hyj
        have hW : Wj = W := by
          rcases hi1 with ⟨_, hd⟩ | ⟨_, _, h⟩
          · cases e : ks.getD i .w with
            | p => rw [e] at hd; exact hd.2.symm
            | r => rw [e] at hd; exact hd.2.symm
            | w =>
              rcases hj1 with ⟨_, hd'⟩ | ⟨_, _, h⟩
              · cases e' : ks.getD j .w with
                | p => rw [e'] at hd'; exact hd'.2
                | r => rw [e'] at hd'; exact hd'.2
                | w => rw [e, e'] at hcl; cases hcl
              · exact h
          · exact h.symm
        subst hW
        refine .inr ⟨hjt, oj, u, hoj, hj1, ?_⟩
        have hfree' : ∀ k ok, ops[k]? = some ok → k ≠ i → k ≠ t → (listed.setIfInBounds j true).getD k true = false →
            anc md ops 2 k i = false → oi.apart ops ok = true ∧ (ks.getD i .w).clash (ks.getD k .w) = false := fun k ok hk' hki hkt hun' hno => by
          refine hfree k ok hk' hki hkt ?_ hno
          by_cases hjk : j = k
          · subst hjk; exact hjun
          · rw [getD_set_ne true hjk] at hun'; exact hun'
        refine ih (listed.setIfInBounds j true) _ _ (inv.set hj) hfree' (ready_mono hr (Ne.symm hji)) hi1 ?_
        rw [Array.setIfInBounds_comm _ _ hji, ← Act.put_comm a v u (Oper.apart_spec hap).2.1]
        exact hn

def freeS (md : Region.Mode) (ops : Array Oper) (ks : List RK) (t : Nat) (listed : Array Bool) (i : Nat) : Bool :=
  match ops[i]?, ops[t]? with
  | some oi, some ot => (List.range ops.size).all (fun j => j == i || j == t || listed.getD j true || match ops[j]? with
      | some oj => anc md ops 2 j i || (oi.apart ops oj && !(ks.getD i .w).clash (ks.getD j .w))
      | none => true) && (anc md ops 2 t i || match oi.dst with | some d => !(ot.looksAt ops).contains d | none => true)
  | _, _ => false

theorem freeS_spec {ks : List RK} {listed : Array Bool} {t i : Nat} {oi ot : Oper} (hi : ops[i]? = some oi) (ht : ops[t]? = some ot) (h : freeS md ops ks t listed i = true) :
    (∀ j oj, ops[j]? = some oj → j ≠ i → j ≠ t → listed.getD j true = false → anc md ops 2 j i = false → oi.apart ops oj = true ∧ (ks.getD i .w).clash (ks.getD j .w) = false) ∧
    (∀ d, oi.dst = some d → anc md ops 2 t i = false → d ∉ ot.looksAt ops) := by
  simp only [freeS, hi, ht, Bool.and_eq_true] at h
  refine ⟨fun j oj hj hji hjt hun hno => ?_, fun d hd hno => ?_⟩
  · have h1 := List.all_eq_true.1 h.1 j (List.mem_range.2 (Array.getElem?_eq_some_iff.1 hj).1)
    rw [hun, hj] at h1
    simp only [Bool.or_false, Bool.or_eq_true, beq_iff_eq, Bool.and_eq_true, Bool.not_eq_true'] at h1
    rcases h1 with (h1 | h1) | h1 | h1
    · exact absurd h1 hji
    · exact absurd h1 hjt
    · rw [hno] at h1; cases h1
    · exact h1
  · have h2 := h.2
    rw [hno, hd] at h2
    simpa using h2

def lexS (md : Region.Mode) (ops : Array Oper) (ks : List RK) (t : Nat) : Nat → Nat → Array Bool → Bool
  | 0, _, listed => Region.ready md ops listed == [t]
  | f + 1, k, listed => (Region.ready md ops listed).contains k && freeS md ops ks t listed k && lexS md ops ks t f (k + 1) (listed.setIfInBounds k true)

theorem anyS_lex {ks : List RK} {t : Nat} {ot : Oper} {chain : List PanicEntry} (ht : ops[t]? = some ot) (hs : Region.noSelect ops = true) (hks : ∀ k, k < t → ks.getD k .w ≠ .w) :
    ∀ (l : List Oper) (lk : List RK) (k : Nat) (listed : Array Bool) (a : Act) (W : World), (∀ j, j < l.length → l[j]? = ops[k + j]?) → (∀ j, lk[j]? = ks[k + j]?) → k + l.length = t → Clo md ops listed →
    lexS md ops ks t l.length k listed = true → wpK P ops (fun a' W' => Stops P ops chain ot a' W') l lk a W → anyS P md ops ks t (Stops P ops chain ot) (l.length + 1) listed a W
  | [], _, _, listed, a, W, _, _, _, _, hB, h => by
    have hr : Region.ready md ops listed = [t] := by simpa [lexS] using hB
    refine ⟨by rw [hr]; simp, fun i hi => ?_⟩
    rw [hr] at hi
    exact .inl ⟨by simpa using hi, h⟩
  | o :: l, [], _, _, _, _, _, _, _, _, _, h => h.elim
  | o :: l, r :: lk, k, listed, a, W, hl, hk, hkt, inv, hB, h => by
    have h0 : ops[k]? = some o := by simpa using (hl 0 (by simp)).symm
    have hk0 : ks[k]? = some r := by simpa using (hk 0).symm
    have hkd : ks.getD k .w = r := by simp [List.getD_eq_getElem?_getD, hk0]
    simp only [List.length_cons] at hkt
    simp only [List.length_cons, lexS, Bool.and_eq_true] at hB
    obtain ⟨⟨hr, hf⟩, hB'⟩ := hB
    obtain ⟨v, W', hy, hn⟩ := h
    have hrw : r ≠ .w := by rw [← hkd]; exact hks k (by omega)
    obtain rfl : W' = W := by
      rcases hy with ⟨_, hd⟩ | ⟨_, _, h⟩
      · cases r with
        | p => exact hd.2
        | r => exact hd.2
        | w => exact absurd rfl hrw
      · exact h
    obtain ⟨hf1, hf2⟩ := freeS_spec h0 ht hf
    exact anyS_first ht h0 (by omega) (Region.noSelect_spec hs) (fun j => (Nat.lt_or_ge j t).imp (hks j) id) hf2 _ listed a W' inv hf1 (by simpa using hr) (by rw [hkd]; exact hy)
      (anyS_lex ht hs hks l lk (k + 1) _ _ _ (fun j hj => by have := hl (j + 1) (by simp; omega); simpa [Nat.add_assoc, Nat.add_comm 1 j] using this) (fun j => by have := hk (j + 1); simpa [Nat.add_assoc, Nat.add_comm 1 j] using this) (by omega) (inv.set (by simpa using hr)) hB' hn)

def lexKS (ops : Array Oper) (ks : List RK) (t : Nat) : Bool :=
  Region.noSelect ops && decide (t < ops.size) && (List.range t).all (fun k => match ks.getD k .w with | .w => false | _ => true) && lexS .any ops ks t t 0 (Array.replicate ops.size false)

theorem wp_region_ks' {id : Nat} {Q : Exit → Act → World → Prop} {a : Act} {w : World} {e : Gr} {l : List Oper} (t : Nat) (ot : Oper) (chain : List PanicEntry) (ks : List RK) (hm : P.follows .mixedOrders = true) (hB : lexKS l.toArray ks t = true) (ht : l[t]? = some ot)
    (hQ : ∀ a' d, a'.defers = a.defers → Q (.panic chain) a' (grow w d))
    (h : wpK P l.toArray (fun a' W' => Stops P l.toArray chain ot a' W') (l.take t) ks a w) : (Code.region id l.toArray true).wp P Q a (grow w e) := by
  simp only [lexKS, Bool.and_eq_true, decide_eq_true_eq] at hB
  obtain ⟨⟨⟨hsel, hn⟩, hks⟩, hlex⟩ := hB
  have htl : (l.take t).length = t := by simp at hn ⊢; omega
  have H := anyS_lex (md := .any) (ks := ks) (P := P) (chain := chain) (ops := l.toArray) (t := t) (ot := ot) (by simpa using ht) hsel (fun k hk => by
    have := List.all_eq_true.1 hks k (List.mem_range.2 hk)
    intro e; rw [e] at this; cases this) (l.take t) ks 0 (Array.replicate l.toArray.size false) a w (fun j hj => by
    have hj' : j < t := by rw [htl] at hj; exact hj
    simp [hj']) (by simp) (by simpa using htl) (Clo.init _) (by rw [htl]; exact hlex) h
  refine wp_region_any hm ?_
  have := wpAny_of_anyS (P := P) (md := .any) (ks := ks) (ops := l.toArray) (t := t) (ot := ot) (Q' := Q) (by simpa using ht) (l.toArray.size - (t + 1)) (W0 := w) (D := a.defers) (fun a w' hD ⟨d, hd⟩ => hd ▸ hQ a d hD) _ _ _ rfl H { grow w e with drawn := (grow w e).drawn + 1 } (Ext.drew ⟨e, rfl⟩)
  rw [htl, show t + 1 + (l.toArray.size - (t + 1)) = l.toArray.size by omega] at this
  exact this
theorem wp_region_ks {id : Nat} {Q : Exit → Act → World → Prop} {a : Act} {w : World} {l : List Oper} (t : Nat) (ot : Oper) (chain : List PanicEntry) (ks : List RK) (hm : P.follows .mixedOrders = true) (hB : lexKS l.toArray ks t = true) (ht : l[t]? = some ot)
    (hQ : ∀ a' d, a'.defers = a.defers → Q (.panic chain) a' (grow w d))
    (h : wpK P l.toArray (fun a' W' => Stops P l.toArray chain ot a' W') (l.take t) ks a w) : (Code.region id l.toArray true).wp P Q a w := by
  have := wp_region_ks' (id := id) (e := ⟨#[], fun k => k⟩) t ot chain ks hm hB ht hQ h
  simpa [grow] using this
theorem Calls.calmP {f : FuncId} {args : Array Value} {w : World} {d : Gr} {chain : List PanicEntry}
    (h : Calls P f args (grow w d) fun e w' => e = .panicked chain ∧ Ext (grow w d) w') : Calls P f args (grow w d) fun e w'' => e = .panicked chain ∧ Ext w w'' :=
  h.mono fun _ _ ⟨he, hx⟩ => ⟨he, Ext.trans ⟨d, rfl⟩ hx⟩
end
end Go.Proofs.YtmopgcbhmkemjaaGreatDoor

namespace Go.Proofs.YtmopgcbhmkemjaaGreatDoor
open Go Go.RowKit
set_option linter.unusedSimpArgs false
set_option linter.unusedVariables false

theorem Ext.cellEq {w w' : World} (h : Ext w w') {b : Nat} (hb : b < w.heap.size) (i : Nat) : w'.cell? ⟨b, i, none⟩ = w.cell? ⟨b, i, none⟩ := by
  obtain ⟨d, rfl⟩ := h; exact cell_grow _ _ _ _ hb
theorem Ext.frozenEq {w w' : World} (h : Ext w w') {b : Nat} (hb : b < w.heap.size) (i : Nat) : w'.frozen? ⟨b, i, none⟩ = w.frozen? ⟨b, i, none⟩ := by
  obtain ⟨d, rfl⟩ := h; exact frozen_grow _ _ _ _ hb
/-- The world of a walk under a name. -/
theorem wp_rebase {P : Program} {c : Code} {Q : Exit → Act → World → Prop} {a : Act} {W : World} (h : ∀ v, v = W → c.wp P Q a v) : c.wp P Q a W := h W rfl
theorem Ext.set {w w' : World} {b o : Nat} {v : Value} (h : Ext w w') (hb : w.heap.size ≤ b) : Ext w (w'.setCell ⟨b, o, none⟩ v) := h.setCell _ _ hb
/-- A block known whole. -/
def Blk (W : World) (b : Nat) (cs : Array Value) (T : TypeId) : Prop := W.heap[b]? = some (.cells cs T)
theorem Blk.cell {W : World} {b : Nat} {cs : Array Value} {T : TypeId} (h : Blk W b cs T) (i : Nat) : W.cell? ⟨b, i, none⟩ = cs[i]? := by
  unfold Blk at h; simp [World.cell?, h]
theorem Blk.frozen {W : World} {b : Nat} {cs : Array Value} {T : TypeId} (h : Blk W b cs T) (i : Nat) : W.frozen? ⟨b, i, none⟩ = false := by
  unfold Blk at h; simp [World.frozen?, h]
theorem Blk.lt {W : World} {b : Nat} {cs : Array Value} {T : TypeId} (h : Blk W b cs T) : b < W.heap.size := by
  unfold Blk at h
  rcases Nat.lt_or_ge b W.heap.size with h1 | h1
  · exact h1
  · rw [Array.getElem?_eq_none h1] at h; cases h
theorem Blk.ext {W W' : World} {b : Nat} {cs : Array Value} {T : TypeId} (h : Blk W b cs T) (hx : Ext W W') : Blk W' b cs T := by
  have hl := h.lt
  unfold Blk at h ⊢
  rw [hx.block _ hl, h]
theorem Blk.alloc {W : World} {b : Nat} {cs : Array Value} {T : TypeId} (h : Blk W b cs T) (o : Obj) : Blk (W.alloc o) b cs T := h.ext ((Ext.refl W).alloc o)
theorem Blk.grow {W : World} {b : Nat} {cs : Array Value} {T : TypeId} (h : Blk W b cs T) (d : Gr) : Blk (grow W d) b cs T := h.ext ⟨d, rfl⟩
theorem Blk.drew {W : World} {b : Nat} {cs : Array Value} {T : TypeId} (h : Blk W b cs T) : Blk W.drew b cs T := h.ext (Ext.refl W).drew
theorem Blk.new (W : World) (cs : Array Value) (T : TypeId) {b : Nat} (hb : b = W.heap.size) : Blk (W.alloc (.cells cs T)) b cs T := by
  unfold Blk World.alloc; subst hb; simp
theorem Blk.setOther {W : World} {b b' o : Nat} {cs : Array Value} {T : TypeId} {v : Value} (h : Blk W b cs T) (hne : b' ≠ b) : Blk (W.setCell ⟨b', o, none⟩ v) b cs T := by
  unfold Blk at h ⊢
  simp only [World.setCell, Array.getElem?_modify, if_neg hne, h]
theorem Blk.setSame {W : World} {b o : Nat} {cs : Array Value} {T : TypeId} {v : Value} (h : Blk W b cs T) : Blk (W.setCell ⟨b, o, none⟩ v) b (cs.setIfInBounds o v) T := by
  unfold Blk at h ⊢
  simp [World.setCell, Array.getElem?_modify, h]
theorem bp_rebase {P : Program} {fn : Func} {R : Ending → World → Prop} {x : Exit} {a : Act} {W : World} (h : ∀ v, v = W → bodyPost P fn R x a v) : bodyPost P fn R x a W := h W rfl
theorem bpd_rebase {P : Program} {fn : Func} {R : Ending → World → Prop} {x : Exit} {a : Act} {W : World} (h : ∀ v, v = W → bodyPostD P fn R x a v) : bodyPostD P fn R x a W := h W rfl
theorem lv_rebase {P : Program} {fn : Func} {tmps : Array Value} {R : Ending → World → Prop} {ds : List Deferred} {u : FrameMode} {W : World} (h : ∀ v, v = W → Leaves P fn tmps R ds u v) : Leaves P fn tmps R ds u W := h W rfl
section
variable {W : World} {b : Nat} {T : TypeId}
theorem Blk.set1 {x0 y0 : Value} (h : Blk W b #[y0] T) : Blk (W.setCell ⟨b, 0, none⟩ x0) b #[x0] T := h.setSame
theorem Blk.set2 {x0 x1 y0 y1 : Value} (h : Blk W b #[y0, y1] T) : Blk ((W.setCell ⟨b, 0, none⟩ x0).setCell ⟨b, 1, none⟩ x1) b #[x0, x1] T :=
  (h.setSame (o := 0) (v := x0)).setSame (o := 1) (v := x1)
theorem Blk.set4 {x0 x1 x2 x3 y0 y1 y2 y3 : Value} (h : Blk W b #[y0, y1, y2, y3] T) : Blk ((((W.setCell ⟨b, 0, none⟩ x0).setCell ⟨b, 1, none⟩ x1).setCell ⟨b, 2, none⟩ x2).setCell ⟨b, 3, none⟩ x3) b #[x0, x1, x2, x3] T :=
  (((h.setSame (o := 0) (v := x0)).setSame (o := 1) (v := x1)).setSame (o := 2) (v := x2)).setSame (o := 3) (v := x3)
theorem Blk.set5 {x0 x1 x2 x3 x4 y0 y1 y2 y3 y4 : Value} (h : Blk W b #[y0, y1, y2, y3, y4] T) : Blk (((((W.setCell ⟨b, 0, none⟩ x0).setCell ⟨b, 1, none⟩ x1).setCell ⟨b, 2, none⟩ x2).setCell ⟨b, 3, none⟩ x3).setCell ⟨b, 4, none⟩ x4) b #[x0, x1, x2, x3, x4] T :=
  ((((h.setSame (o := 0) (v := x0)).setSame (o := 1) (v := x1)).setSame (o := 2) (v := x2)).setSame (o := 3) (v := x3)).setSame (o := 4) (v := x4)
theorem Blk.tail4 {x1 x2 x3 x4 y0 y1 y2 y3 y4 : Value} (h : Blk W b #[y0, y1, y2, y3, y4] T) : Blk ((((W.setCell ⟨b, 1, none⟩ x1).setCell ⟨b, 2, none⟩ x2).setCell ⟨b, 3, none⟩ x3).setCell ⟨b, 4, none⟩ x4) b #[y0, x1, x2, x3, x4] T :=
  (((h.setSame (o := 1) (v := x1)).setSame (o := 2) (v := x2)).setSame (o := 3) (v := x3)).setSame (o := 4) (v := x4)
theorem Blk.set10 {x0 x1 x2 x3 x4 x5 x6 x7 x8 x9 y0 y1 y2 y3 y4 y5 y6 y7 y8 y9 : Value} (h : Blk W b #[y0, y1, y2, y3, y4, y5, y6, y7, y8, y9] T) :
    Blk ((((((((((W.setCell ⟨b, 0, none⟩ x0).setCell ⟨b, 1, none⟩ x1).setCell ⟨b, 2, none⟩ x2).setCell ⟨b, 3, none⟩ x3).setCell ⟨b, 4, none⟩ x4).setCell ⟨b, 5, none⟩ x5).setCell ⟨b, 6, none⟩ x6).setCell ⟨b, 7, none⟩ x7).setCell ⟨b, 8, none⟩ x8).setCell ⟨b, 9, none⟩ x9) b #[x0, x1, x2, x3, x4, x5, x6, x7, x8, x9] T := by
  have h1 := (((((((((h.setSame (o := 0) (v := x0)).setSame (o := 1) (v := x1)).setSame (o := 2) (v := x2)).setSame (o := 3) (v := x3)).setSame (o := 4) (v := x4)).setSame (o := 5) (v := x5)).setSame (o := 6) (v := x6)).setSame (o := 7) (v := x7)).setSame (o := 8) (v := x8)).setSame (o := 9) (v := x9)
  simp only [List.setIfInBounds_toArray, List.set_cons_succ, List.set_cons_zero] at h1
  exact h1
end
theorem Blk.set20 {W : World} {b : Nat} {T : TypeId} {x0 x1 x2 x3 x4 x5 x6 x7 x8 x9 x10 x11 x12 x13 x14 x15 x16 x17 x18 x19 y0 y1 y2 y3 y4 y5 y6 y7 y8 y9 y10 y11 y12 y13 y14 y15 y16 y17 y18 y19 : Value} (h : Blk W b #[y0, y1, y2, y3, y4, y5, y6, y7, y8, y9, y10, y11, y12, y13, y14, y15, y16, y17, y18, y19] T) : Blk ((((((((((((((((((((W.setCell ⟨b, 0, none⟩ x0).setCell ⟨b, 1, none⟩ x1).setCell ⟨b, 2, none⟩ x2).setCell ⟨b, 3, none⟩ x3).setCell ⟨b, 4, none⟩ x4).setCell ⟨b, 5, none⟩ x5).setCell ⟨b, 6, none⟩ x6).setCell ⟨b, 7, none⟩ x7).setCell ⟨b, 8, none⟩ x8).setCell ⟨b, 9, none⟩ x9).setCell ⟨b, 10, none⟩ x10).setCell ⟨b, 11, none⟩ x11).setCell ⟨b, 12, none⟩ x12).setCell ⟨b, 13, none⟩ x13).setCell ⟨b, 14, none⟩ x14).setCell ⟨b, 15, none⟩ x15).setCell ⟨b, 16, none⟩ x16).setCell ⟨b, 17, none⟩ x17).setCell ⟨b, 18, none⟩ x18).setCell ⟨b, 19, none⟩ x19) b #[x0, x1, x2, x3, x4, x5, x6, x7, x8, x9, x10, x11, x12, x13, x14, x15, x16, x17, x18, x19] T := by
  have h1 := (((((((((((((((((((h.setSame (o := 0) (v := x0)).setSame (o := 1) (v := x1)).setSame (o := 2) (v := x2)).setSame (o := 3) (v := x3)).setSame (o := 4) (v := x4)).setSame (o := 5) (v := x5)).setSame (o := 6) (v := x6)).setSame (o := 7) (v := x7)).setSame (o := 8) (v := x8)).setSame (o := 9) (v := x9)).setSame (o := 10) (v := x10)).setSame (o := 11) (v := x11)).setSame (o := 12) (v := x12)).setSame (o := 13) (v := x13)).setSame (o := 14) (v := x14)).setSame (o := 15) (v := x15)).setSame (o := 16) (v := x16)).setSame (o := 17) (v := x17)).setSame (o := 18) (v := x18)).setSame (o := 19) (v := x19)
  simp only [List.setIfInBounds_toArray, List.set_cons_succ, List.set_cons_zero] at h1
  exact h1
theorem ext_auto {a b : World} (h : Ext a b := by repeat (first | (with_reducible exact Ext.refl _) | (with_reducible assumption) | (with_reducible apply Ext.grow) | (with_reducible apply Ext.alloc) | (with_reducible apply Ext.drew) | ((with_reducible apply Ext.set); (case hb => (first | omega | (simp; omega)))))) : Ext a b := h
theorem blk_auto {W : World} {b : Nat} {cs : Array Value} {T : TypeId} (h : Blk W b cs T := by repeat (first | (with_reducible assumption) | ((with_reducible refine Blk.new _ _ _ ?_); (simp; done)) | (with_reducible apply Blk.alloc) | (with_reducible apply Blk.grow) | (with_reducible apply Blk.drew) | (with_reducible apply Blk.set20) | (with_reducible apply Blk.set10) | (with_reducible apply Blk.set5) | (with_reducible apply Blk.set4) | (with_reducible apply Blk.tail4) | (with_reducible apply Blk.set2) | (with_reducible apply Blk.set1) | ((with_reducible apply Blk.setOther); (case hne => omega)))) : Blk W b cs T := h
end Go.Proofs.YtmopgcbhmkemjaaGreatDoor

namespace Go.Proofs.YtmopgcbhmkemjaaGreatDoor
open Go Go.RowKit
set_option linter.unusedSimpArgs false
set_option linter.unusedVariables false
set_option linter.constructorNameAsVariable false
section
variable {P : Program} {ops : Array Oper} {md : Region.Mode}

def lexSL (md : Region.Mode) (ops : Array Oper) (ks : List RK) (t : Nat) : List Nat → Array Bool → Bool
  | [], listed => Region.ready md ops listed == [t]
  | k :: is, listed => (Region.ready md ops listed).contains k && freeS md ops ks t listed k && (k != t) && (match ks.getD k .w with | .w => false | _ => true) && lexSL md ops ks t is (listed.setIfInBounds k true)

theorem anyS_lexL {ks : List RK} {t : Nat} {ot : Oper} {chain : List PanicEntry} (ht : ops[t]? = some ot) (hs : Region.noSelect ops = true) (hks : ∀ k, k < t → ks.getD k .w ≠ .w) :
    ∀ (is : List Nat) (listed : Array Bool) (a : Act) (W : World), Clo md ops listed →
    lexSL md ops ks t is listed = true → wpK P ops (fun a' W' => Stops P ops chain ot a' W') (is.map fun i => ops.getD i default) (is.map fun i => ks.getD i .w) a W → anyS P md ops ks t (Stops P ops chain ot) (is.length + 1) listed a W
  | [], listed, a, W, _, hB, h => by
    have hr : Region.ready md ops listed = [t] := by simpa [lexSL] using hB
    refine ⟨by rw [hr]; simp, fun i hi => ?_⟩
    rw [hr] at hi
    exact .inl ⟨by simpa using hi, h⟩
  | k :: is, listed, a, W, inv, hB, h => by
    simp only [lexSL, Bool.and_eq_true, bne_iff_ne, ne_eq] at hB
    obtain ⟨⟨⟨⟨hr, hf⟩, hkt⟩, hkw⟩, hB'⟩ := hB
    have hr' : k ∈ Region.ready md ops listed := by simpa using hr
    obtain ⟨_, o, h0, _⟩ := mem_ready.1 hr'
    have hgo : ops.getD k default = o := by simp [Array.getD_eq_getD_getElem?, h0]
    simp only [List.map_cons, hgo] at h
    obtain ⟨v, W', hy, hn⟩ := h
    have hrw : ks.getD k .w ≠ .w := by intro e; rw [e] at hkw; cases hkw
    obtain rfl : W' = W := by
      rcases hy with ⟨_, hd⟩ | ⟨_, _, h⟩
      · cases e : ks.getD k .w with
        | p => rw [e] at hd; exact hd.2
        | r => rw [e] at hd; exact hd.2
        | w => exact absurd e hrw
      · exact h
    obtain ⟨hf1, hf2⟩ := freeS_spec h0 ht hf
    exact anyS_first ht h0 hkt (Region.noSelect_spec hs) (fun j => (Nat.lt_or_ge j t).imp (hks j) id) hf2 _ listed a W' inv hf1 hr' hy
      (anyS_lexL ht hs hks is _ _ _ (inv.set hr') hB' hn)

theorem wpAny_of_anyS2 {ks : List RK} {t : Nat} {ot : Oper} (ht : ops[t]? = some ot) {chain : List PanicEntry} {Q' : Exit → Act → World → Prop} (g : Nat) {W0 : World} {I : Act → Prop} (hI : ∀ (a : Act) (o : Oper) (i : Nat) (v : Value), ops[i]? = some o → I a → I (a.put o.dst v)) (hQ : ∀ a w, I a → Ext W0 w → Q' (.panic chain) a w) :
    ∀ (f : Nat) (listed : Array Bool) (a : Act), I a → anyS P md ops ks t (Stops P ops chain ot) f listed a W0 → ∀ w, Ext W0 w → wpAny P md ops Q' (f + g) listed a w
  | 0, _, _, _, h, _, _ => h.elim
  | f + 1, listed, a, hD, h, w, hw => by
    rw [show f + 1 + g = (f + g) + 1 by omega]
    refine ⟨fun h0 => absurd h0 h.1, fun i hi => ?_⟩
    rcases h.2 i hi with ⟨rfl, hwt, hS⟩ | ⟨hne, o, v, ho, hy, hn⟩
    · obtain ⟨d, rfl⟩ := hw
      obtain ⟨fn, args, hrun, hc⟩ := hS d
      unfold wpOp
      simp only [ht]
      rw [if_pos hwt]
      refine .inl ?_
      unfold Oper.wp
      rw [hrun]
      exact hc.mono fun e w'' ⟨he, hx⟩ => by subst he; exact hQ _ _ hD hx
    · exact wpOp_of_yields ho hy (fun w' hw' => wpAny_of_anyS2 ht g hI hQ f _ _ (hI _ _ _ _ ho hD) hn w' hw') w hw
/-- What a region cannot have changed of a frame. -/
def Kept (l : List Oper) (a a' : Act) : Prop := ∀ s, (l.all fun o => match o.dst with | some d => d != s | none => true) = true → a'.tmps.getD s undef = a.tmps.getD s undef
theorem Kept.put {l : List Oper} {a a' : Act} (h : Kept l a a') {o : Oper} {i : Nat} (ho : l[i]? = some o) (v : Value) : Kept l a (a'.put o.dst v) := by
  intro s hs
  have h1 := List.all_eq_true.1 hs o (List.mem_of_getElem? ho)
  rw [← h s hs]
  cases hd : o.dst with
  | none => rfl
  | some d =>
    rw [hd] at h1
    have hne : d ≠ s := by simpa using h1
    simp only [Act.put, Array.getD_eq_getD_getElem?, Array.getElem?_setIfInBounds, if_neg hne]

def lexKSL (ops : Array Oper) (ks : List RK) (t : Nat) (is : List Nat) : Bool :=
  Region.noSelect ops && decide (t < ops.size) && decide (is.length < ops.size) && (List.range t).all (fun k => match ks.getD k .w with | .w => false | _ => true) && lexSL .any ops ks t is (Array.replicate ops.size false)

theorem wp_region_ksl' {id : Nat} {Q : Exit → Act → World → Prop} {a : Act} {w : World} {e : Gr} {l : List Oper} (is : List Nat) (t : Nat) (ot : Oper) (chain : List PanicEntry) (ks : List RK) (hm : P.follows .mixedOrders = true) (hB : lexKSL l.toArray ks t is = true) (ht : l[t]? = some ot)
    (hQ : ∀ a' d, a'.defers = a.defers → Kept l a a' → Q (.panic chain) a' (grow w d))
    (h : wpK P l.toArray (fun a' W' => Stops P l.toArray chain ot a' W') (is.map fun i => l.getD i default) (is.map fun i => ks.getD i .w) a w) : (Code.region id l.toArray true).wp P Q a (grow w e) := by
  simp only [lexKSL, Bool.and_eq_true, decide_eq_true_eq] at hB
  obtain ⟨⟨⟨⟨hsel, hn⟩, hlen⟩, hks⟩, hlex⟩ := hB
  have hgd : ∀ i, l.toArray.getD i default = l.getD i default := fun i => by simp [Array.getD_eq_getD_getElem?, List.getD_eq_getElem?_getD]
  have H := anyS_lexL (md := .any) (ks := ks) (P := P) (chain := chain) (ops := l.toArray) (t := t) (ot := ot) (by simpa using ht) hsel (fun k hk => by
    have := List.all_eq_true.1 hks k (List.mem_range.2 hk)
    intro e; rw [e] at this; cases this) is (Array.replicate l.toArray.size false) a w (Clo.init _) hlex (by simpa only [hgd] using h)
  refine wp_region_any hm ?_
  have := wpAny_of_anyS2 (P := P) (md := .any) (ks := ks) (ops := l.toArray) (t := t) (ot := ot) (Q' := Q) (by simpa using ht) (l.toArray.size - (is.length + 1)) (W0 := w) (I := fun a' => a'.defers = a.defers ∧ Kept l a a') (fun a' o i v ho ⟨h1, h2⟩ => ⟨by rw [Act.put_defers, h1], h2.put (by simpa using ho) v⟩) (fun a w' ⟨hD, hk⟩ ⟨d, hd⟩ => hd ▸ hQ a d hD hk) _ _ _ ⟨rfl, fun _ _ => rfl⟩ H { grow w e with drawn := (grow w e).drawn + 1 } (Ext.drew ⟨e, rfl⟩)
  rw [show is.length + 1 + (l.toArray.size - (is.length + 1)) = l.toArray.size by omega] at this
  exact this
theorem wp_region_ksl {id : Nat} {Q : Exit → Act → World → Prop} {a : Act} {w : World} {l : List Oper} (is : List Nat) (t : Nat) (ot : Oper) (chain : List PanicEntry) (ks : List RK) (hm : P.follows .mixedOrders = true) (hB : lexKSL l.toArray ks t is = true) (ht : l[t]? = some ot)
    (hQ : ∀ a' d, a'.defers = a.defers → Kept l a a' → Q (.panic chain) a' (grow w d))
    (h : wpK P l.toArray (fun a' W' => Stops P l.toArray chain ot a' W') (is.map fun i => l.getD i default) (is.map fun i => ks.getD i .w) a w) : (Code.region id l.toArray true).wp P Q a w := by
  have := wp_region_ksl' (id := id) (e := ⟨#[], fun k => k⟩) is t ot chain ks hm hB ht hQ h
  simpa [grow] using this
end
end Go.Proofs.YtmopgcbhmkemjaaGreatDoor

namespace Go.Proofs.YtmopgcbhmkemjaaGreatDoor
open Go Go.RowKit
set_option linter.unusedSimpArgs false
set_option linter.unusedVariables false
set_option maxRecDepth 100000

end Go.Proofs.YtmopgcbhmkemjaaGreatDoor

namespace Go.Proofs.YtmopgcbhmkemjaaGreatDoor
open Go Go.RowKit
set_option linter.unusedSimpArgs false
set_option linter.unusedVariables false
set_option maxRecDepth 100000

end Go.Proofs.YtmopgcbhmkemjaaGreatDoor

namespace Go.Proofs.YtmopgcbhmkemjaaGreatDoor
open Go Go.RowKit
set_option linter.unusedSimpArgs false
set_option linter.unusedVariables false
set_option maxRecDepth 100000

/-- The Int of a whole number. -/
abbrev intZ (z : Int) : Value := intV (decide (z < 0)) z.natAbs
theorem badI_z (z : Int) : badI (decide (z < 0)) z.natAbs = false := by
  unfold badI
  by_cases h : z < 0
  · have : ¬ z.natAbs = 0 := by omega
    simp [this]
  · simp [h]
theorem intV_eq {s s' : Bool} {m m' : Nat} (h1 : s = s') (h2 : m = m') : intV s m = intV s' m' := by rw [h1, h2]

end Go.Proofs.YtmopgcbhmkemjaaGreatDoor

namespace Go.Proofs.YtmopgcbhmkemjaaGreatDoor
open Go Go.RowKit
set_option linter.unusedSimpArgs false
set_option linter.unusedVariables false
set_option maxRecDepth 100000

theorem B4_pow : B ^ 4 = B4 := rfl
theorem B_lt_B4 : B < B4 := by
  have h : B ^ 1 < B ^ 4 := Nat.pow_lt_pow_right (by rw [B_eq]; decide) (by decide)
  rwa [Nat.pow_one] at h
theorem magV_small (k : Nat) (hk : k < B) : magV k = .agg #[.int .u64 (k : Int), .int .u64 0, .int .u64 0, .int .u64 0] := by
  have h0 : wn k 0 = k := by unfold wn; simp; exact Nat.mod_eq_of_lt hk
  have h : ∀ i, 0 < i → wn k i = 0 := fun i hi => by
    unfold wn
    rw [Nat.div_eq_of_lt]; · simp
    exact Nat.lt_of_lt_of_le hk (Nat.le_self_pow (by omega) _)
  simp only [magV, h0, h 1 (by decide), h 2 (by decide), h 3 (by decide)]; rfl

set_option maxHeartbeats 2000000 in
theorem Of_nat (k : Nat) (hk : k < 9223372036854775808) (w : World) :
    Calls Tryz.prog 68 #[.int .i64 (k : Int)] w fun e w' => e = .returned (intV false k) ∧ Ext w w' := by
  have hB : k < B := by rw [B_eq]; omega
  have hB4 : k < B4 := by have := B_lt_B4; omega
  have c := of_any false k hB4
  rw [magV_small k hB, Bool.false_and] at c
  have h0 : decide ((k : Int) < 0) = false := by simp
  have h1 : IntKind.u64.wrap (k : Int) = (k : Int) := by rw [IntKind.wrap_u64]; omega
  clear hB hB4
  go_enter Tryz.func68, Tryz.ntmps68
  go_wp2_with (go_at_call 102; refine (c _).mono ?_; rintro e w' ⟨rfl, d, rfl⟩)
  exact bodyPost_ret (v := intV false k) (by simp [results, Tryz.results68, go_sem]) rfl ⟨rfl, (by repeat (first | (with_reducible exact Ext.refl _) | (with_reducible assumption) | (with_reducible apply Ext.grow) | (with_reducible apply Ext.alloc) | (with_reducible apply Ext.drew) | ((with_reducible apply Ext.set); (case hb => (first | omega | (simp; omega))))))⟩

set_option maxHeartbeats 2000000 in
theorem Of_neg (k : Nat) (hk : k ≤ 9223372036854775808) (h0 : 0 < k) (w : World) :
    Calls Tryz.prog 68 #[.int .i64 (-(k : Int))] w fun e w' => e = .returned (intV true k) ∧ Ext w w' := by
  have hB : k < B := by rw [B_eq]; omega
  have hB4 : k < B4 := by have := B_lt_B4; omega
  have c := of_any true k hB4
  rw [magV_small k hB, show decide (k = 0) = false by simp; omega] at c
  have h0 : decide (-(k : Int) < 0) = true := by simp; omega
  have h1 : IntKind.u64.wrap (-(k : Int)) = 18446744073709551616 - (k : Int) := by rw [IntKind.wrap_u64]; omega
  have h2 : IntKind.u64.wrap (-(18446744073709551616 - (k : Int))) = (k : Int) := by rw [IntKind.wrap_u64]; omega
  clear hB hB4
  go_enter Tryz.func68, Tryz.ntmps68
  go_wp2_with (go_at_call 102; refine (c _).mono ?_; rintro e w' ⟨rfl, d, rfl⟩)
  exact bodyPost_ret (v := intV true k) (by simp [results, Tryz.results68, go_sem]) rfl ⟨rfl, (by repeat (first | (with_reducible exact Ext.refl _) | (with_reducible assumption) | (with_reducible apply Ext.grow) | (with_reducible apply Ext.alloc) | (with_reducible apply Ext.drew) | ((with_reducible apply Ext.set); (case hb => (first | omega | (simp; omega))))))⟩

set_option maxHeartbeats 2000000 in
theorem bit_any (a i : Nat) (hi : i < 256) (w : World) :
    Calls Tryz.prog 151 #[magV a, .int .i64 (i : Int)] w fun e w' => e = .returned (q64 (bitn a i)) ∧ Ext w w' := by
  have hb := and_bit a i
  have h9 : ((i : Int) % 64).toNat = i % 64 := by omega
  have h11 : ((i : Int)).tmod 64 = (i : Int) % 64 := by rw [Int.tmod_eq_emod_of_nonneg (by omega)]
  have h10 : 0 ≤ (i : Int) % 64 := by omega
  have h3 : min (i % 64) 64 = i % 64 := by omega
  rcases (by omega : i / 64 = 0 ∨ i / 64 = 1 ∨ i / 64 = 2 ∨ i / 64 = 3) with h | h | h | h
  all_goals
    rw [h] at hb
    have h7 : (i : Int) / 64 = ((i / 64 : Nat) : Int) := by omega
    rw [h] at h7
    clear h
    go_enter Tryz.func151, Tryz.ntmps151
    go_wp2
    go_ret
    exact ⟨rfl, (by repeat (first | (with_reducible exact Ext.refl _) | (with_reducible assumption) | (with_reducible apply Ext.grow) | (with_reducible apply Ext.alloc) | (with_reducible apply Ext.drew) | ((with_reducible apply Ext.set); (case hb => (first | omega | (simp; omega))))))⟩

def hi63 (x : Nat) : Nat := x / 9223372036854775808
theorem hi63_cast (x : Nat) : (x : Int) / 9223372036854775808 = ((hi63 x : Nat) : Int) := by unfold hi63; omega
theorem hi63_le (x : Nat) (h : x < B) : hi63 x ≤ 1 := by rw [B_eq] at h; unfold hi63; omega
theorem dbl64 (y c : Nat) (hy : y < B) (hc : c ≤ 1) : bits .or .u64 (IntKind.u64.wrap ((y : Int) * 2)) (c : Int) = ((2 * y % B + c : Nat) : Int) := by
  rw [B_eq] at hy
  have e1 : IntKind.u64.wrap ((y : Int) * 2) = (((2 * y % 18446744073709551616 : Nat) : Nat) : Int) := by
    rw [IntKind.wrap_u64]; omega
  rw [e1, or_even _ c (by rw [B_eq]; omega) (by omega) hc, B_eq]
/-- The carry into the i-th word of 2 a + c. -/
def dcy (a c i : Nat) : Nat := (2 * (a % B ^ i) + c) / B ^ i
theorem dbl_div (a c i : Nat) : (2 * a + c) / B ^ i = 2 * (a / B ^ i) + dcy a c i := by
  have hp : 0 < B ^ i := Nat.pow_pos B_pos
  unfold dcy
  conv => lhs; rw [← Nat.div_add_mod a (B ^ i)]
  rw [show 2 * (B ^ i * (a / B ^ i) + a % B ^ i) + c = 2 * (a % B ^ i) + c + B ^ i * (2 * (a / B ^ i)) by grind, Nat.add_mul_div_left _ _ hp]
  omega
theorem dcy_le (a c i : Nat) (hc : c ≤ 1) : dcy a c i ≤ 1 := by
  have hp : 0 < B ^ i := Nat.pow_pos B_pos
  have hm := Nat.mod_lt a hp
  unfold dcy
  have : (2 * (a % B ^ i) + c) / B ^ i < 2 := by rw [Nat.div_lt_iff_lt_mul hp]; omega
  omega
theorem dbl_word (a c i : Nat) (hc : c ≤ 1) : wn (2 * a + c) i = 2 * wn a i % B + dcy a c i := by
  have := dcy_le a c i hc
  unfold wn
  rw [dbl_div]
  generalize a / B ^ i = q at *
  generalize dcy a c i = e at *
  rw [B_eq]; omega
theorem dcy_zero (a c : Nat) : dcy a c 0 = c := by unfold dcy; simp [Nat.mod_one]
theorem dcy_succ (a c i : Nat) (hc : c ≤ 1) : dcy a c (i + 1) = hi63 (wn a i) := by
  have h1 := dbl_div a c (i + 1)
  have h2 := dbl_div a c i
  have h3 := dcy_le a c i hc
  rw [Nat.pow_succ, ← Nat.div_div_eq_div_mul, ← Nat.div_div_eq_div_mul, h2] at h1
  unfold hi63 wn
  generalize a / B ^ i = q at *
  generalize dcy a c i = e at *
  generalize dcy a c (i + 1) = f at *
  rw [B_eq] at *; omega
theorem dbl_top (a c : Nat) (hc : c ≤ 1) (ha : a < B4) : hi63 (wn a 3) = (2 * a + c) / B4 := by
  have h : dcy a c 4 = hi63 (wn a 3) := dcy_succ a c 3 hc
  rw [← h, ← B4_pow, dbl_div, Nat.div_eq_of_lt (by rw [B4_pow]; exact ha)]; omega

set_option maxHeartbeats 4000000 in
theorem doubled_any (a c : Nat) (ha : a < B4) (hc : c ≤ 1) (w : World) :
    Calls Tryz.prog 150 #[magV a, q64 c] w fun e w' => e = .returned (.tuple #[magV (2 * a + c), q64 ((2 * a + c) / B4)]) ∧ Ext w w' := by
  have o0 := dbl64 (wn a 0) c (wn_lt _ _) hc
  have o1 := dbl64 (wn a 1) (hi63 (wn a 0)) (wn_lt _ _) (hi63_le _ (wn_lt _ _))
  have o2 := dbl64 (wn a 2) (hi63 (wn a 1)) (wn_lt _ _) (hi63_le _ (wn_lt _ _))
  have o3 := dbl64 (wn a 3) (hi63 (wn a 2)) (wn_lt _ _) (hi63_le _ (wn_lt _ _))
  have e0 := dbl_word a c 0 hc
  have e1 := dbl_word a c 1 hc
  have e2 := dbl_word a c 2 hc
  have e3 := dbl_word a c 3 hc
  rw [dcy_zero] at e0
  rw [dcy_succ a c 0 hc] at e1
  rw [dcy_succ a c 1 hc] at e2
  rw [dcy_succ a c 2 hc] at e3
  rw [← e0] at o0
  rw [← e1] at o1
  rw [← e2] at o2
  rw [← e3] at o3
  have k0 := hi63_cast (wn a 0)
  have k1 := hi63_cast (wn a 1)
  have k2 := hi63_cast (wn a 2)
  have k3 := hi63_cast (wn a 3)
  rw [dbl_top a c hc ha] at k3
  clear e0 e1 e2 e3 ha hc
  generalize 2 * a + c = d at *
  generalize d / B4 = t at *
  have x0 : ∀ w, (Instr.index 156 (magV a) (.int .i64 0)).run Tryz.prog w = .ok (q64 (wn a 0)) w := fun w => by kernel_rfl
  have x1 : ∀ w, (Instr.index 156 (magV a) (.int .i64 1)).run Tryz.prog w = .ok (q64 (wn a 1)) w := fun w => by kernel_rfl
  have x2 : ∀ w, (Instr.index 156 (magV a) (.int .i64 2)).run Tryz.prog w = .ok (q64 (wn a 2)) w := fun w => by kernel_rfl
  have x3 : ∀ w, (Instr.index 156 (magV a) (.int .i64 3)).run Tryz.prog w = .ok (q64 (wn a 3)) w := fun w => by kernel_rfl
  go_enter Tryz.func150, Tryz.ntmps150
  go_wp2
  refine wp_loop_rounds 5 ?_
  iterate 4 (rw [rounds_succ]; go_wp2)
  rw [rounds_succ]
  go_wp2
  exact bodyPost_ret (v := .tuple #[magV d, q64 t]) (by simp [results, Tryz.results150, go_sem]) rfl ⟨rfl, (by repeat (first | (with_reducible exact Ext.refl _) | (with_reducible assumption) | (with_reducible apply Ext.grow) | (with_reducible apply Ext.alloc) | (with_reducible apply Ext.drew) | ((with_reducible apply Ext.set); (case hb => (first | omega | (simp; omega))))))⟩
end Go.Proofs.YtmopgcbhmkemjaaGreatDoor
