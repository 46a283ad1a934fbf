/- limb: the greatest common divisor. The equality of Ints, of Rats. ratio: which Rats there are; small helpers. ratio: Check; small helpers. ratio: some Rats that all may be. Rationals: their numerators and denominators in words; plain. What the conditions give: the table's cells; arguments by their types. The equality of Rats; Of. Digits to the base 2^16, the lowest ahead; plain. ratio: what is given up with is caught; Make. ratio: the Rat of two wide numbers, or that it is too great. ratio: sums. ratio: sums that are too great, or of what may not be. -/
import Derived.Test.YtjkchmegnfbfoaaGreatDoorProg
import Derived.Test.YtjkchmegnfbfoaaGreatDoorQ03
import Derived.Test.YtjkchmegnfbfoaaGreatDoorQ01
import Derived.Test.YtjkchmegnfbfoaaGreatDoorTie
import Derived.ProofKit
import Derived.LaidMore
import Derived.OpenShut
import Derived.OpenVars
import Derived.MakeChecks
import Derived.Stop.Joined
import Derived.Test.YtjkchmegnfbfoaaGreatDoorQ02
namespace Go.Proofs.YtjkchmegnfbfoaaGreatDoor
open Go Go.RowKit
set_option linter.unusedSimpArgs false
set_option linter.unusedVariables false
set_option maxRecDepth 100000

theorem grow_alloc2 (w : World) (d : Gr) (o o' : Obj) : ((grow w d).alloc o).alloc o' = grow w ⟨(d.obs.push o).push o', d.n⟩ := by
  simp [grow, World.alloc]
set_option maxHeartbeats 8000000 in
theorem Gcd_yes (s1 : Bool) (m1 : Nat) (s2 : Bool) (m2 : Nat) (h1 : m1 < B4) (h2 : m2 < B4) (g1 : badI s1 m1 = false) (g2 : badI s2 m2 = false) (w : World) :
    Calls Tryz.prog 90 #[intV s1 m1, intV s2 m2] w fun e w' => e = .returned (.tuple #[intV false (Nat.gcd m1 m2), .int .i64 0]) ∧ Ext w w' := by
  have hmf : ∀ (fn : Fn) (first cap : Array Value) (w : World), (Instr.makeFunc fn first cap).run Tryz.prog w = .ok (.func fn first cap) w := fun _ _ _ _ => rfl
  have cr := right2_yes s1 m1 s2 m2 h1 h2 g1 g2
  go_enter_defers Tryz.func90, Tryz.ntmps90
  go_wp2_with (go_at_call 77; refine (cr _ _ _ ⟨by simp, by simp [go_sem], by simp [go_sem], by simp [go_sem], by simp [go_sem], by simp [go_sem]⟩ ⟨by simp, by simp [go_sem], by simp [go_sem], by simp [go_sem], by simp [go_sem], by simp [go_sem]⟩).mono ?_; rintro e w' ⟨rfl, d, rfl⟩)
  go_region
  · go_wp2
    go_loopg [8] m2 (fun g q wr => ∃ (x y : Nat) (d' : Gr), y ≤ g ∧ x < B4 ∧ y < B4 ∧ Hid (Nat.gcd x y = Nat.gcd m1 m2) ∧
      wr = grow (((grow (((((w.alloc (.cells (ints1 s1 m1) 25)).alloc (.cells (ints1 s2 m2) 25)).alloc (.cells #[.bool false, .int .u64 0, .int .u64 0, .int .u64 0, .int .u64 0] 25)).alloc (.cells #[.int .i64 0] 37)).alloc (.cells (ints2 s1 m1 s2 m2) 25)) ⟨d.obs, fun k => d.n k + 1⟩).alloc (magC x)).alloc (magC y)) d')
    case atStart => exact ⟨m1, m2, ⟨#[], fun k => k⟩, Nat.le_refl _, h1, h2, Lib.hid rfl, (grow_none _).symm⟩
    case round =>
      obtain ⟨x, y, d', hg, hx, hy, HX, rfl⟩ := hrel
      by_cases y0 : y = 0
      · have hd : decide (y = 0) = true := by simp [y0]
        have HF : Hid (x = Nat.gcd m1 m2) := by have := HX.out; rw [y0, Nat.gcd_zero_right] at this; exact Lib.hid this
        have co := of_any false x hx
        rw [Bool.false_and] at co
        clear HX y0
        have q2 : w.heap.size + 1 + 1 < w.heap.size + 1 + 1 + 1 + 1 + 1 + d.obs.size + 1 + 1 := by omega
        have q3 : w.heap.size + 1 + 1 + 1 < w.heap.size + 1 + 1 + 1 + 1 + 1 + d.obs.size + 1 + 1 := by omega
        go_wp2_with (go_at_call 79; refine (co _).mono ?_; rintro e w' ⟨rfl, d2, rfl⟩)
        refine leaves_cons (f := 75) (args := #[.pointer (some ⟨w.heap.size + 1 + 1 + 1, 0, none⟩), .func (.func 118) #[] #[.pointer (some ⟨w.heap.size + 1 + 1, 0, none⟩)]]) (by simp) (by simp [go_sem]) ?_
        refine (caught_idle _ _ _).mono ?_
        rintro e u' w'' ⟨rfl, rfl, rfl⟩
        rw [← HF.out]
        simp [Leaves, settle, results, Tryz.results90, go_sem, q2, q3]
        exact (by repeat (first | (with_reducible exact Ext.refl _) | (with_reducible assumption) | (with_reducible apply Ext.grow) | (with_reducible apply Ext.alloc) | (with_reducible apply Ext.drew) | ((with_reducible apply Ext.set); (case hb => (first | omega | (simp; omega))))))
      · have hd : decide (y = 0) = false := by simp [y0]
        have cp := parts_any x y hx (by omega) hy
        have hm : x % y < y := Nat.mod_lt _ (by omega)
        have HY : Hid (Nat.gcd y (x % y) = Nat.gcd m1 m2) := by
          have := HX.out
          rw [← this, Nat.gcd_comm x y, Nat.gcd_rec y x, Nat.gcd_comm]
          exact Lib.hid rfl
        clear HX
        go_wp2_with (go_at_call 99; refine (cp _).mono ?_; rintro e w' ⟨rfl, d2, rfl⟩)
        go_region
        go_wp2
        go_roundg (x % y)
        case measure => omega
        case rel => exact ⟨y, x % y, _, Nat.le_refl _, hy, by omega, HY, by rw [grow_alloc2, drew_grow]⟩
  · go_wp2
    go_loopg [8] m2 (fun g q wr => ∃ (x y : Nat) (d' : Gr), y ≤ g ∧ x < B4 ∧ y < B4 ∧ Hid (Nat.gcd x y = Nat.gcd m1 m2) ∧
      wr = grow (((grow (((((w.alloc (.cells (ints1 s1 m1) 25)).alloc (.cells (ints1 s2 m2) 25)).alloc (.cells #[.bool false, .int .u64 0, .int .u64 0, .int .u64 0, .int .u64 0] 25)).alloc (.cells #[.int .i64 0] 37)).alloc (.cells (ints2 s1 m1 s2 m2) 25)) ⟨d.obs, fun k => d.n k + 1⟩).alloc (magC y)).alloc (magC x)) d')
    case atStart => exact ⟨m1, m2, ⟨#[], fun k => k⟩, Nat.le_refl _, h1, h2, Lib.hid rfl, (grow_none _).symm⟩
    case round =>
      obtain ⟨x, y, d', hg, hx, hy, HX, rfl⟩ := hrel
      by_cases y0 : y = 0
      · have hd : decide (y = 0) = true := by simp [y0]
        have HF : Hid (x = Nat.gcd m1 m2) := by have := HX.out; rw [y0, Nat.gcd_zero_right] at this; exact Lib.hid this
        have co := of_any false x hx
        rw [Bool.false_and] at co
        clear HX y0
        have q2 : w.heap.size + 1 + 1 < w.heap.size + 1 + 1 + 1 + 1 + 1 + d.obs.size + 1 + 1 := by omega
        have q3 : w.heap.size + 1 + 1 + 1 < w.heap.size + 1 + 1 + 1 + 1 + 1 + d.obs.size + 1 + 1 := by omega
        go_wp2_with (go_at_call 79; refine (co _).mono ?_; rintro e w' ⟨rfl, d2, rfl⟩)
        refine leaves_cons (f := 75) (args := #[.pointer (some ⟨w.heap.size + 1 + 1 + 1, 0, none⟩), .func (.func 118) #[] #[.pointer (some ⟨w.heap.size + 1 + 1, 0, none⟩)]]) (by simp) (by simp [go_sem]) ?_
        refine (caught_idle _ _ _).mono ?_
        rintro e u' w'' ⟨rfl, rfl, rfl⟩
        rw [← HF.out]
        simp [Leaves, settle, results, Tryz.results90, go_sem, q2, q3]
        exact (by repeat (first | (with_reducible exact Ext.refl _) | (with_reducible assumption) | (with_reducible apply Ext.grow) | (with_reducible apply Ext.alloc) | (with_reducible apply Ext.drew) | ((with_reducible apply Ext.set); (case hb => (first | omega | (simp; omega))))))
      · have hd : decide (y = 0) = false := by simp [y0]
        have cp := parts_any x y hx (by omega) hy
        have hm : x % y < y := Nat.mod_lt _ (by omega)
        have HY : Hid (Nat.gcd y (x % y) = Nat.gcd m1 m2) := by
          have := HX.out
          rw [← this, Nat.gcd_comm x y, Nat.gcd_rec y x, Nat.gcd_comm]
          exact Lib.hid rfl
        clear HX
        go_wp2_with (go_at_call 99; refine (cp _).mono ?_; rintro e w' ⟨rfl, d2, rfl⟩)
        go_region
        go_wp2
        go_roundg (x % y)
        case measure => omega
        case rel => exact ⟨y, x % y, _, Nat.le_refl _, hy, by omega, HY, by rw [grow_alloc2, drew_grow]⟩
end Go.Proofs.YtjkchmegnfbfoaaGreatDoor

namespace Go.Proofs.YtjkchmegnfbfoaaGreatDoor
open Go Go.RowKit
set_option linter.unusedSimpArgs false
set_option linter.unusedVariables false
set_option maxRecDepth 100000

theorem run_eqFields_cons {P : Program} (d : Nat) (xs ys : Array Value) (f : Field) (fs : List Field) (x y : Value) (r : Bool) (w : World) (hn : f.name ≠ "_")
    (hx : (part f.type xs f.offset).run P w = .ok x w) (hy : (part f.type ys f.offset).run P w = .ok y w) (hr : (Op.equalIn d f.type x y).run P w = .ok r w) :
    (Op.eqFields d xs ys (f :: fs)).run P w = if r then (Op.eqFields d xs ys fs).run P w else .ok false w := by
  simp only [Op.eqFields, if_pos hn, Sem.run_bind, hx, hy, hr, Result.andThen_ok]
  cases r <;> simp
theorem run_eq_mag_at (t : TypeId) (ht : Tryz.prog.underlying t = some (.array 4 22)) (n a b : Nat) (ha : a < B4) (hb : b < B4) (w : World) :
    (Op.equalIn (n + 2) t (magV a) (magV b)).run Tryz.prog w = .ok (decide (a = b)) w := by
  rw [run_eq_arr4 t ht]; simp only [← eq4 ha hb]
theorem run_eq_int_at (n : Nat) (s : Bool) (a : Nat) (t : Bool) (b : Nat) (ha : a < B4) (hb : b < B4) (w : World) :
    (Op.equalIn (n + 3) 25 (intV s a) (intV t b)).run Tryz.prog w = .ok (decide (s = t ∧ a = b)) w := by
  rw [run_equalIn_struct (P := Tryz.prog) w (n + 2) 25 _ _ (by kernel_rfl) (by kernel_rfl)]
  rw [show (Tryz.prog.fieldsOf 25).toList = [⟨"Neg", 4, 0, false, "", "", 0⟩, ⟨"Mag", 23, 1, false, "", "", 8⟩] by kernel_rfl]
  rw [run_eqFields_cons _ _ _ _ _ (.bool s) (.bool t) (s == t) w (by decide) (by kernel_rfl) (by kernel_rfl) (run_equalIn_bool (P := Tryz.prog) w (n + 1) _ _ _ Tryz.underlying4)]
  rw [run_eqFields_cons _ _ _ _ _ (magV a) (magV b) (decide (a = b)) w (by decide) (by kernel_rfl) (by kernel_rfl) (run_eq_mag_at _ Tryz.underlying23 n a b ha hb w)]
  cases s <;> cases t <;> by_cases h : a = b <;> simp [h, Op.eqFields]
@[go_sem] theorem run_eq_int (s : Bool) (a : Nat) (t : Bool) (b : Nat) (ha : a < B4) (hb : b < B4) (w : World) :
    (Op.equalIn 10000 25 (intV s a) (intV t b)).run Tryz.prog w = .ok (decide (s = t ∧ a = b)) w := run_eq_int_at 9997 s a t b ha hb w
end Go.Proofs.YtjkchmegnfbfoaaGreatDoor

namespace Go.Proofs.YtjkchmegnfbfoaaGreatDoor
open Go Go.RowKit
set_option linter.unusedSimpArgs false
set_option linter.unusedVariables false
set_option maxRecDepth 100000

/-- May a Rat of these words be? -/
def okR (s : Bool) (m : Nat) (t : Bool) (k : Nat) : Bool := !(badI s m) && !(badI t k) && decide (sgn t k > 0) && decide (Nat.gcd m k = 1)
theorem okR_iff (s : Bool) (m : Nat) (t : Bool) (k : Nat) : okR s m t k = true ↔ (s = true → m ≠ 0) ∧ t = false ∧ 0 < k ∧ Nat.gcd m k = 1 := by
  unfold okR badI sgn
  by_cases hk : k = 0 <;> cases s <;> cases t <;> by_cases hm : m = 0 <;> simp [hk, hm] <;> omega

set_option maxHeartbeats 4000000 in
theorem right_bad (s : Bool) (m : Nat) (t : Bool) (k : Nat) (hm : m < B4) (hk : k < B4) (g : (badI s m || badI t k) = true) (w : World) :
    Calls Tryz.prog 53 #[ratV s m t k] w fun e w' => e = .returned (.bool false) ∧ Ext w w' := by
  have cg := Gcd_no s m t k hm hk g
  simp only [show intZ 0 = .agg #[.bool false, .int .u64 0, .int .u64 0, .int .u64 0, .int .u64 0] by simp [intZ, intV, wn_zero]] at cg
  clear hm hk g
  go_enter Tryz.func53, Tryz.ntmps53
  go_wp2_with (go_at_call 90; refine (cg _).mono ?_; rintro e w' ⟨rfl, d, rfl⟩)
  refine wp_rebase fun v hv => ?_
  have hx : Ext w v := by rw [hv]; exact (by repeat (first | (with_reducible exact Ext.refl _) | (with_reducible assumption) | (with_reducible apply Ext.grow) | (with_reducible apply Ext.alloc) | (with_reducible apply Ext.drew) | ((with_reducible apply Ext.set); (case hb => (first | omega | (simp; omega))))))
  clear hv
  (first | refine wp_region_k' [.p, .p, .p, .p, .p, .r, .r, .p, .p, .p, .r, .r, .p, .p, .p] (by kernel_rfl) (by kernel_rfl) ?_ | refine wp_region_k [.p, .p, .p, .p, .p, .r, .r, .p, .p, .p, .r, .r, .p, .p, .p] (by kernel_rfl) (by kernel_rfl) ?_); (repeat (first | (refine wpK_p rfl (fun K hK => ?_); go_simp; refine hK _ _ ?_; clear hK K) | (refine wpK_r rfl (fun K hK => ?_); go_simp; refine hK _ _ ?_; clear hK K) | (refine wpK_w rfl (fun K hK => ?_); go_simp; refine hK _ _ ?_; clear hK K) | (refine wpK_skip ?_ ?_; (· (simp [go_sem, Region.wanted, yielded]; done))) | (refine wpK_want ?_ ?_; (· (simp [go_sem, Region.wanted, yielded]; done))))); refine wpK_nil ?_; intro d
  go_wp2
  go_ret
  exact ⟨rfl, (by repeat (first | (with_reducible exact Ext.refl _) | (with_reducible assumption) | (with_reducible apply Ext.grow) | (with_reducible apply Ext.alloc) | (with_reducible apply Ext.drew) | ((with_reducible apply Ext.set); (case hb => (first | omega | (simp; omega))))))⟩
set_option maxHeartbeats 4000000 in
theorem right_sgn (s : Bool) (m : Nat) (t : Bool) (k : Nat) (hm : m < B4) (hk : k < B4) (g1 : badI s m = false) (g2 : badI t k = false) (h : decide (sgn t k > 0) = false) (w : World) :
    Calls Tryz.prog 53 #[ratV s m t k] w fun e w' => e = .returned (.bool false) ∧ Ext w w' := by
  have cg := Gcd_yes s m t k hm hk g1 g2
  have cs := sign_any t k hk
  generalize Nat.gcd m k = g at *
  generalize sgn t k = c at *
  clear hm hk g1 g2
  go_enter Tryz.func53, Tryz.ntmps53
  go_wp2_with (go_at_call 90; refine (cg _).mono ?_; rintro e w' ⟨rfl, d, rfl⟩)
  refine wp_rebase fun v hv => ?_
  have hx : Ext w v := by rw [hv]; exact (by repeat (first | (with_reducible exact Ext.refl _) | (with_reducible assumption) | (with_reducible apply Ext.grow) | (with_reducible apply Ext.alloc) | (with_reducible apply Ext.drew) | ((with_reducible apply Ext.set); (case hb => (first | omega | (simp; omega))))))
  have B1 : Blk v w.heap.size #[.bool s, q64 (wn m 0), q64 (wn m 1), q64 (wn m 2), q64 (wn m 3), .bool t, q64 (wn k 0), q64 (wn k 1), q64 (wn k 2), q64 (wn k 3)] 88 := by rw [hv]; exact (by repeat (first | (with_reducible assumption) | ((with_reducible refine Blk.new _ _ _ ?_); (simp; done)) | (with_reducible apply Blk.alloc) | (with_reducible apply Blk.grow) | (with_reducible apply Blk.drew) | (with_reducible apply Blk.set10) | (with_reducible apply Blk.set5) | (with_reducible apply Blk.set4) | (with_reducible apply Blk.tail4) | (with_reducible apply Blk.set2) | (with_reducible apply Blk.set1) | ((with_reducible apply Blk.setOther); (case hne => omega))))
  clear hv
  have lB1 := B1.lt; have cB1 := B1.cell; have fB1 := B1.frozen
  --s2
  (first | refine wp_region_k' [.p, .p, .p, .p, .p, .r, .r, .p, .p, .p, .r, .r, .p, .p, .p] (by kernel_rfl) (by kernel_rfl) ?_ | refine wp_region_k [.p, .p, .p, .p, .p, .r, .r, .p, .p, .p, .r, .r, .p, .p, .p] (by kernel_rfl) (by kernel_rfl) ?_); (repeat (first | (refine wpK_p rfl (fun K hK => ?_); go_simp; refine hK _ _ ?_; clear hK K) | (refine wpK_r rfl (fun K hK => ?_); go_simp; refine hK _ _ ?_; clear hK K) | (refine wpK_w rfl (fun K hK => ?_); go_simp; refine hK _ _ ?_; clear hK K) | (refine wpK_r rfl (fun K hK => ?_); go_simp; apply Exists.intro; refine ⟨fun d => ?_, hK _ _ ?_⟩; (with_reducible exact Calls.calm (cs _)); clear hK K) | (refine wpK_skip ?_ ?_; (· (simp [go_sem, Region.wanted, yielded]; done))) | (refine wpK_want ?_ ?_; (· (simp [go_sem, Region.wanted, yielded]; done))))); refine wpK_nil ?_; intro d
  go_wp2
  go_ret
  exact ⟨rfl, (by repeat (first | (with_reducible exact Ext.refl _) | (with_reducible assumption) | (with_reducible apply Ext.grow) | (with_reducible apply Ext.alloc) | (with_reducible apply Ext.drew) | ((with_reducible apply Ext.set); (case hb => (first | omega | (simp; omega))))))⟩
set_option maxHeartbeats 4000000 in
theorem right_yes (s : Bool) (m : Nat) (t : Bool) (k : Nat) (hm : m < B4) (hk : k < B4) (g1 : badI s m = false) (g2 : badI t k = false) (h : decide (sgn t k > 0) = true) (w : World) :
    Calls Tryz.prog 53 #[ratV s m t k] w fun e w' => e = .returned (.bool (decide (Nat.gcd m k = 1))) ∧ Ext w w' := by
  have cg := Gcd_yes s m t k hm hk g1 g2
  have cs := sign_any t k hk
  have c1 := Of_nat 1 (by decide)
  have hgB : Nat.gcd m k < B4 := by
    have hk0 : 0 < k := by
      rcases Nat.eq_zero_or_pos k with h0 | h0
      · simp [sgn, h0] at h
      · exact h0
    exact Nat.lt_of_le_of_lt (Nat.le_of_dvd hk0 (Nat.gcd_dvd_right _ _)) hk
  have he := run_eq_int false (Nat.gcd m k) false 1 hgB (by decide)
  simp only [true_and] at he
  generalize decide (Nat.gcd m k = 1) = z at *
  generalize Nat.gcd m k = g at *
  generalize sgn t k = c at *
  clear hm hk g1 g2 hgB
  simp only [Int.natCast_one] at c1
  go_enter Tryz.func53, Tryz.ntmps53
  go_wp2_with (go_at_call 90; refine (cg _).mono ?_; rintro e w' ⟨rfl, d, rfl⟩)
  refine wp_rebase fun v hv => ?_
  have hx : Ext w v := by rw [hv]; exact (by repeat (first | (with_reducible exact Ext.refl _) | (with_reducible assumption) | (with_reducible apply Ext.grow) | (with_reducible apply Ext.alloc) | (with_reducible apply Ext.drew) | ((with_reducible apply Ext.set); (case hb => (first | omega | (simp; omega))))))
  have B1 : Blk v w.heap.size #[.bool s, q64 (wn m 0), q64 (wn m 1), q64 (wn m 2), q64 (wn m 3), .bool t, q64 (wn k 0), q64 (wn k 1), q64 (wn k 2), q64 (wn k 3)] 88 := by rw [hv]; exact (by repeat (first | (with_reducible assumption) | ((with_reducible refine Blk.new _ _ _ ?_); (simp; done)) | (with_reducible apply Blk.alloc) | (with_reducible apply Blk.grow) | (with_reducible apply Blk.drew) | (with_reducible apply Blk.set10) | (with_reducible apply Blk.set5) | (with_reducible apply Blk.set4) | (with_reducible apply Blk.tail4) | (with_reducible apply Blk.set2) | (with_reducible apply Blk.set1) | ((with_reducible apply Blk.setOther); (case hne => omega))))
  have B3 : Blk v (w.heap.size + 1 + d.obs.size) #[.bool false, q64 (wn g 0), q64 (wn g 1), q64 (wn g 2), q64 (wn g 3)] 25 := by rw [hv]; exact (by repeat (first | (with_reducible assumption) | ((with_reducible refine Blk.new _ _ _ ?_); (simp; done)) | (with_reducible apply Blk.alloc) | (with_reducible apply Blk.grow) | (with_reducible apply Blk.drew) | (with_reducible apply Blk.set10) | (with_reducible apply Blk.set5) | (with_reducible apply Blk.set4) | (with_reducible apply Blk.tail4) | (with_reducible apply Blk.set2) | (with_reducible apply Blk.set1) | ((with_reducible apply Blk.setOther); (case hne => omega))))
  clear hv
  have lB1 := B1.lt; have cB1 := B1.cell; have fB1 := B1.frozen; have lB3 := B3.lt; have cB3 := B3.cell; have fB3 := B3.frozen
  --s1
  (first | refine wp_region_k' [.p, .p, .p, .p, .p, .r, .r, .p, .p, .p, .r, .r, .p, .p, .p] (by kernel_rfl) (by kernel_rfl) ?_ | refine wp_region_k [.p, .p, .p, .p, .p, .r, .r, .p, .p, .p, .r, .r, .p, .p, .p] (by kernel_rfl) (by kernel_rfl) ?_); (repeat (first | (refine wpK_p rfl (fun K hK => ?_); go_simp; refine hK _ _ ?_; clear hK K) | (refine wpK_r rfl (fun K hK => ?_); go_simp; refine hK _ _ ?_; clear hK K) | (refine wpK_w rfl (fun K hK => ?_); go_simp; refine hK _ _ ?_; clear hK K) | (refine wpK_r rfl (fun K hK => ?_); go_simp; apply Exists.intro; refine ⟨fun d => ?_, hK _ _ ?_⟩; (first | (with_reducible exact Calls.calm (cs _)) | (with_reducible exact Calls.calm (c1 _))); clear hK K) | (refine wpK_skip ?_ ?_; (· (simp [go_sem, Region.wanted, yielded]; done))) | (refine wpK_want ?_ ?_; (· (simp [go_sem, Region.wanted, yielded]; done))))); refine wpK_nil ?_; intro d
  go_wp2
  go_ret
  exact ⟨rfl, (by repeat (first | (with_reducible exact Ext.refl _) | (with_reducible assumption) | (with_reducible apply Ext.grow) | (with_reducible apply Ext.alloc) | (with_reducible apply Ext.drew) | ((with_reducible apply Ext.set); (case hb => (first | omega | (simp; omega))))))⟩
end Go.Proofs.YtjkchmegnfbfoaaGreatDoor

namespace Go.Proofs.YtjkchmegnfbfoaaGreatDoor
open Go Go.RowKit
set_option linter.unusedSimpArgs false
set_option linter.unusedVariables false
set_option maxRecDepth 100000

theorem right_any (s : Bool) (m : Nat) (t : Bool) (k : Nat) (hm : m < B4) (hk : k < B4) (w : World) :
    Calls Tryz.prog 53 #[ratV s m t k] w fun e w' => e = .returned (.bool (okR s m t k)) ∧ Ext w w' := by
  unfold okR
  cases g1 : badI s m with
  | true => simpa [g1] using right_bad s m t k hm hk (by simp [g1]) w
  | false =>
    cases g2 : badI t k with
    | true => simpa [g2] using right_bad s m t k hm hk (by simp [g2]) w
    | false =>
      cases h : decide (sgn t k > 0) with
      | false => simpa using right_sgn s m t k hm hk g1 g2 h w
      | true => simpa using right_yes s m t k hm hk g1 g2 h w
theorem rcheck_yes (s : Bool) (m : Nat) (t : Bool) (k : Nat) (hm : m < B4) (hk : k < B4) (h : okR s m t k = true) (w : World) :
    Calls Tryz.prog 13 #[ratV s m t k] w fun e w' => e = .returned (.int .i64 0) ∧ Ext w w' := by
  have cr := right_any s m t k hm hk
  rw [h] at cr
  clear h hm hk
  go_enter Tryz.func13, Tryz.ntmps13
  go_wp2_with (go_at_call 53; refine (cr _).mono ?_; rintro e w' ⟨rfl, d, rfl⟩)
  go_ret
  exact ⟨rfl, (by repeat (first | (with_reducible exact Ext.refl _) | (with_reducible assumption) | (with_reducible apply Ext.grow) | (with_reducible apply Ext.alloc) | (with_reducible apply Ext.drew) | ((with_reducible apply Ext.set); (case hb => (first | omega | (simp; omega))))))⟩
theorem rcheck_no (s : Bool) (m : Nat) (t : Bool) (k : Nat) (hm : m < B4) (hk : k < B4) (h : okR s m t k = false) (w : World) :
    Calls Tryz.prog 13 #[ratV s m t k] w fun e w' => e = .returned (.int .i64 2) ∧ Ext w w' := by
  have cr := right_any s m t k hm hk
  rw [h] at cr
  clear h hm hk
  go_enter Tryz.func13, Tryz.ntmps13
  go_wp2_with (go_at_call 53; refine (cr _).mono ?_; rintro e w' ⟨rfl, d, rfl⟩)
  go_ret
  exact ⟨rfl, (by repeat (first | (with_reducible exact Ext.refl _) | (with_reducible assumption) | (with_reducible apply Ext.grow) | (with_reducible apply Ext.alloc) | (with_reducible apply Ext.drew) | ((with_reducible apply Ext.set); (case hb => (first | omega | (simp; omega))))))⟩

abbrev ratsV (s : Bool) (m : Nat) (t : Bool) (k : Nat) : Array Value :=
  #[.bool s, q64 (wn m 0), q64 (wn m 1), q64 (wn m 2), q64 (wn m 3), .bool t, q64 (wn k 0), q64 (wn k 1), q64 (wn k 2), q64 (wn k 3)]
theorem one_any (w : World) : Calls Tryz.prog 52 #[] w fun e w' => e = .returned (intV false 1) ∧ Ext w w' := by
  have c1 := Of_nat 1 (by decide)
  simp only [Int.natCast_one] at c1
  go_enter Tryz.func52, Tryz.ntmps52
  go_wp2_with (go_at_call 38; refine (c1 _).mono ?_; rintro e w' ⟨rfl, d, rfl⟩)
  exact bodyPost_ret (v := intV false 1) (by simp [results, Tryz.results52, go_sem]) rfl ⟨rfl, (by repeat (first | (with_reducible exact Ext.refl _) | (with_reducible assumption) | (with_reducible apply Ext.grow) | (with_reducible apply Ext.alloc) | (with_reducible apply Ext.drew) | ((with_reducible apply Ext.set); (case hb => (first | omega | (simp; omega))))))⟩
set_option maxHeartbeats 4000000 in
theorem rOf_at (z : Int) (s : Bool) (m : Nat) (c : ∀ w, Calls Tryz.prog 38 #[.int .i64 z] w fun e w' => e = .returned (intV s m) ∧ Ext w w') (w : World) :
    Calls Tryz.prog 14 #[.int .i64 z] w fun e w' => e = .returned (ratV s m false 1) ∧ Ext w w' := by
  have c1 := Of_nat 1 (by decide)
  simp only [Int.natCast_one] at c1
  go_enter Tryz.func14, Tryz.ntmps14
  go_wp2_with (go_at_call 38; (first | (with_reducible refine (c _).mono ?_) | (with_reducible refine (c1 _).mono ?_)); rintro e w' ⟨rfl, d, rfl⟩)
  exact bodyPost_ret (v := ratV s m false 1) (by simp [results, Tryz.results14, go_sem]) rfl ⟨rfl, (by repeat (first | (with_reducible exact Ext.refl _) | (with_reducible assumption) | (with_reducible apply Ext.grow) | (with_reducible apply Ext.alloc) | (with_reducible apply Ext.drew) | ((with_reducible apply Ext.set); (case hb => (first | omega | (simp; omega))))))⟩
set_option maxHeartbeats 4000000 in
theorem times_any (s : Bool) (m : Nat) (t : Bool) (k : Nat) (hm : m < B4) (hk : k < B4) (w : World) :
    Calls Tryz.prog 61 #[intV s m, intV t k] w fun e w' => e = .returned (sgnV (!(s == t)) (m * k)) ∧ Ext w w' := by
  have cp := product_any s t m k hm hk
  clear hm hk
  generalize m * k = x at *
  go_enter Tryz.func61, Tryz.ntmps61
  go_wp2
  (first | refine wp_region_k' [.r, .r, .r, .p, .r, .p, .r, .p, .p, .w] (by kernel_rfl) (by kernel_rfl) ?_ | refine wp_region_k [.r, .r, .r, .p, .r, .p, .r, .p, .p, .w] (by kernel_rfl) (by kernel_rfl) ?_); (repeat (first | (refine wpK_p rfl (fun K hK => ?_); go_simp; refine hK _ _ ?_; clear hK K) | (refine wpK_r rfl (fun K hK => ?_); go_simp; refine hK _ _ ?_; clear hK K) | (refine wpK_w rfl (fun K hK => ?_); go_simp; refine hK _ _ ?_; clear hK K) | (refine wpK_r rfl (fun K hK => ?_); go_simp; apply Exists.intro; refine ⟨fun d => ?_, hK _ _ ?_⟩; (with_reducible exact Calls.calm (cp _)); clear hK K))); refine wpK_nil ?_; intro d
  go_wp2
  exact bodyPost_ret (v := sgnV (!(s == t)) x) (by simp [results, Tryz.results61, go_sem]) rfl ⟨rfl, (by repeat (first | (with_reducible exact Ext.refl _) | (with_reducible assumption) | (with_reducible apply Ext.grow) | (with_reducible apply Ext.alloc) | (with_reducible apply Ext.drew) | ((with_reducible apply Ext.set); (case hb => (first | omega | (simp; omega))))))⟩
set_option maxHeartbeats 4000000 in
theorem turned_any (s : Bool) (m : Nat) (t : Bool) (k : Nat) (hm : m < B4) (w : World) :
    Calls Tryz.prog 63 #[ratV s m t k] w fun e w' => e = .returned (ratV (if m = 0 then s else !s) m t k) ∧ Ext w w' := by
  have cs := sign_any s m hm
  by_cases h0 : m = 0
  · rw [if_pos h0]
    rw [show sgn s m = 0 by simp [sgn, h0]] at cs
    clear h0 hm
    go_enter Tryz.func63, Tryz.ntmps63
    go_wp2_with (go_at_call 49; refine (cs _).mono ?_; rintro e w' ⟨rfl, d, rfl⟩)
    refine bp_rebase fun u hu => ?_
    have hy : Ext w u := by rw [hu]; exact (by repeat (first | (with_reducible exact Ext.refl _) | (with_reducible assumption) | (with_reducible apply Ext.grow) | (with_reducible apply Ext.alloc) | (with_reducible apply Ext.drew) | ((with_reducible apply Ext.set); (case hb => (first | omega | (simp; omega))))))
    have BF : Blk u (w.heap.size + 1) (ratsV s m t k) 27 := by rw [hu]; exact (by repeat (first | (with_reducible assumption) | ((with_reducible refine Blk.new _ _ _ ?_); (simp; done)) | (with_reducible apply Blk.alloc) | (with_reducible apply Blk.grow) | (with_reducible apply Blk.drew) | (with_reducible apply Blk.set10) | (with_reducible apply Blk.set5) | (with_reducible apply Blk.set4) | (with_reducible apply Blk.tail4) | (with_reducible apply Blk.set2) | (with_reducible apply Blk.set1) | ((with_reducible apply Blk.setOther); (case hne => omega))))
    clear hu
    have lBF := BF.lt; have cBF := BF.cell; have fBF := BF.frozen; clear BF
    exact bodyPost_ret (v := ratV s m t k) (by simp [results, Tryz.results63, go_sem, cBF]) rfl ⟨rfl, hy⟩
  · rw [if_neg h0]
    have hc : (sgn s m != 0) = true := by cases s <;> simp [sgn, h0]
    generalize sgn s m = c at *
    clear h0 hm
    go_enter Tryz.func63, Tryz.ntmps63
    go_wp2_with (go_at_call 49; refine (cs _).mono ?_; rintro e w' ⟨rfl, d, rfl⟩)
    refine bp_rebase fun u hu => ?_
    have hy : Ext w u := by rw [hu]; exact (by repeat (first | (with_reducible exact Ext.refl _) | (with_reducible assumption) | (with_reducible apply Ext.grow) | (with_reducible apply Ext.alloc) | (with_reducible apply Ext.drew) | ((with_reducible apply Ext.set); (case hb => (first | omega | (simp; omega))))))
    --s3
    have BF : Blk u (w.heap.size + 1) (ratsV (!s) m t k) 27 := by rw [hu]; exact (by repeat (first | (with_reducible assumption) | ((with_reducible refine Blk.new _ _ _ ?_); (simp; done)) | (with_reducible apply Blk.alloc) | (with_reducible apply Blk.grow) | (with_reducible apply Blk.drew) | (with_reducible apply Blk.set10) | (with_reducible apply Blk.set5) | (with_reducible apply Blk.set4) | (with_reducible apply Blk.tail4) | (with_reducible apply Blk.set2) | (with_reducible apply Blk.set1) | ((with_reducible apply Blk.setOther); (case hne => omega))))
    clear hu
    have lBF := BF.lt; have cBF := BF.cell; have fBF := BF.frozen; clear BF
    exact bodyPost_ret (v := ratV (!s) m t k) (by simp [results, Tryz.results63, go_sem, cBF]) rfl ⟨rfl, hy⟩
end Go.Proofs.YtjkchmegnfbfoaaGreatDoor

namespace Go.Proofs.YtjkchmegnfbfoaaGreatDoor
open Go Go.RowKit
set_option linter.unusedSimpArgs false
set_option linter.unusedVariables false
set_option maxRecDepth 100000

/-- The words of a Rat. -/
structure Rt where
  s : Bool
  m : Nat
  t : Bool
  k : Nat
  hm : m < B4
  hk : k < B4
abbrev Rt.v (r : Rt) : Value := ratV r.s r.m r.t r.k
abbrev Rt.c (r : Rt) : Array Value := ratsV r.s r.m r.t r.k
def Rt.ok (r : Rt) : Bool := okR r.s r.m r.t r.k
/-- A Rat lies in a block from a cell on. -/
structure RatAt (w : World) (b o : Nat) (r : Rt) : Prop where
  lt : b < w.heap.size
  c0 : w.cell? ⟨b, o, none⟩ = some (.bool r.s)
  c1 : w.cell? ⟨b, o + 1, none⟩ = some (q64 (wn r.m 0))
  c2 : w.cell? ⟨b, o + 2, none⟩ = some (q64 (wn r.m 1))
  c3 : w.cell? ⟨b, o + 3, none⟩ = some (q64 (wn r.m 2))
  c4 : w.cell? ⟨b, o + 4, none⟩ = some (q64 (wn r.m 3))
  c5 : w.cell? ⟨b, o + 5, none⟩ = some (.bool r.t)
  c6 : w.cell? ⟨b, o + 6, none⟩ = some (q64 (wn r.k 0))
  c7 : w.cell? ⟨b, o + 7, none⟩ = some (q64 (wn r.k 1))
  c8 : w.cell? ⟨b, o + 8, none⟩ = some (q64 (wn r.k 2))
  c9 : w.cell? ⟨b, o + 9, none⟩ = some (q64 (wn r.k 3))
theorem RatAt.ext {w w' : World} {b o : Nat} {r : Rt} (h : RatAt w b o r) (hx : Ext w w') : RatAt w' b o r :=
  ⟨Nat.lt_of_lt_of_le h.lt hx.size, hx.cell h.c0, hx.cell h.c1, hx.cell h.c2, hx.cell h.c3, hx.cell h.c4, hx.cell h.c5, hx.cell h.c6, hx.cell h.c7, hx.cell h.c8, hx.cell h.c9⟩

set_option maxHeartbeats 4000000 in
theorem all_yes (n : Nat) (f : Nat → Rt) (w : World) (b o cap : Nat) (hn : n ≤ 1000000) (hb : b < w.heap.size) (hr : ∀ i, i < n → RatAt w b (o + i * 10) (f i)) (hok : ∀ i, i < n → (f i).ok = true) :
    Calls Tryz.prog 60 #[.slice (some ⟨b, o, none⟩) n cap] w fun e w' => e = .returned (.tuple #[]) ∧ Ext w w' := by
  go_enter Tryz.func60, Tryz.ntmps60
  go_wp2
  go_loopg [6] n (fun g i wr => ∃ (k : Nat) (d : Gr), g = n - k ∧ k ≤ n ∧ i = .int .i64 k ∧ wr = grow w d)
  case atStart => exact ⟨0, ⟨#[], fun k => k⟩, rfl, by omega, rfl, (grow_none _).symm⟩
  case round =>
    obtain ⟨k, d, hg, hk, rfl, rfl⟩ := hrel
    by_cases hlt : k < n
    · obtain ⟨hb', c0, c1, c2, c3, c4, c5, c6, c7, c8, c9⟩ := hr k hlt
      have ck := rcheck_yes (f k).s (f k).m (f k).t (f k).k (f k).hm (f k).hk (hok k hlt)
      clear hr hok
      go_wp2_with (first
        | (go_at_call 13; (with_reducible refine (ck _).mono ?_); rintro e w' ⟨rfl, d2, rfl⟩)
        | (go_at_call 47; refine (rmust_yes _ _).mono ?_; rintro e w' ⟨rfl, rfl⟩))
      go_roundg (n - (k + 1))
      case measure => omega
      case rel => exact ⟨k + 1, _, rfl, by omega, by go_num, grow_alloc_grow _ _ _ _⟩
    · clear hr hok
      go_wp2
      go_end0
      exact ⟨rfl, (by repeat (first | (with_reducible exact Ext.refl _) | (with_reducible assumption) | (with_reducible apply Ext.grow) | (with_reducible apply Ext.alloc) | (with_reducible apply Ext.drew) | ((with_reducible apply Ext.set); (case hb => (first | omega | (simp; omega))))))⟩
set_option maxHeartbeats 4000000 in
theorem all_no (n : Nat) (f : Nat → Rt) (w : World) (b o cap : Nat) (hn : n ≤ 1000000) (hb : b < w.heap.size) (hr : ∀ i, i < n → RatAt w b (o + i * 10) (f i)) (j : Nat) (hj : j < n) (hok : ∀ i, i < j → (f i).ok = true) (hno : (f j).ok = false) :
    Calls Tryz.prog 60 #[.slice (some ⟨b, o, none⟩) n cap] w fun e w' => e = givesUp 2 ∧ Ext w w' := by
  go_enter Tryz.func60, Tryz.ntmps60
  go_wp2
  go_loopg [6] n (fun g i wr => ∃ (k : Nat) (d : Gr), g = n - k ∧ k ≤ j ∧ i = .int .i64 k ∧ wr = grow w d)
  case atStart => exact ⟨0, ⟨#[], fun k => k⟩, rfl, by omega, rfl, (grow_none _).symm⟩
  case round =>
    obtain ⟨k, d, hg, hk, rfl, rfl⟩ := hrel
    have hlt : k < n := by omega
    obtain ⟨hb', c0, c1, c2, c3, c4, c5, c6, c7, c8, c9⟩ := hr k hlt
    by_cases hkj : k = j
    · subst hkj
      have ck := rcheck_no (f k).s (f k).m (f k).t (f k).k (f k).hm (f k).hk hno
      clear hr hok hno
      go_wp2_with (first
        | (go_at_call 13; (with_reducible refine (ck _).mono ?_); rintro e w' ⟨rfl, d2, rfl⟩)
        | (go_at_call 47; refine (rmust_no _ _).mono ?_; rintro e w' ⟨rfl, rfl⟩))
      exact ⟨rfl, rfl, (by repeat (first | (with_reducible exact Ext.refl _) | (with_reducible assumption) | (with_reducible apply Ext.grow) | (with_reducible apply Ext.alloc) | (with_reducible apply Ext.drew) | ((with_reducible apply Ext.set); (case hb => (first | omega | (simp; omega))))))⟩
    · have ck := rcheck_yes (f k).s (f k).m (f k).t (f k).k (f k).hm (f k).hk (hok k (by omega))
      clear hr hok hno
      go_wp2_with (first
        | (go_at_call 13; (with_reducible refine (ck _).mono ?_); rintro e w' ⟨rfl, d2, rfl⟩)
        | (go_at_call 47; refine (rmust_yes _ _).mono ?_; rintro e w' ⟨rfl, rfl⟩))
      go_roundg (n - (k + 1))
      case measure => omega
      case rel => exact ⟨k + 1, _, rfl, by omega, by go_num, grow_alloc_grow _ _ _ _⟩
/-- The first that may not be, if there is one. -/
theorem first_no (n : Nat) (p : Nat → Bool) : (∀ i, i < n → p i = true) ∨ ∃ j, j < n ∧ p j = false ∧ ∀ i, i < j → p i = true := by
  induction n with
  | zero => exact .inl fun i h => absurd h (by omega)
  | succ n ih =>
    rcases ih with h | ⟨j, hj, h1, h2⟩
    · cases e : p n with
      | true =>
        refine .inl fun i hi => ?_
        rcases Nat.lt_or_ge i n with h' | h'
        · exact h i h'
        · obtain rfl : i = n := by omega
          exact e
      | false => exact .inr ⟨n, by omega, e, h⟩
    · exact .inr ⟨j, by omega, h1, h2⟩
end Go.Proofs.YtjkchmegnfbfoaaGreatDoor

namespace Go.Proofs.YtjkchmegnfbfoaaGreatDoor
open Go Go.RowKit
set_option linter.unusedSimpArgs false
set_option linter.unusedVariables false

/-- The number of a sign and a magnitude. -/
def sv (s : Bool) (m : Nat) : Int := if s then -(m : Int) else (m : Int)
theorem sv_natAbs (s : Bool) (m : Nat) : (sv s m).natAbs = m := by cases s <;> simp [sv]
theorem sv_neg (s : Bool) (m : Nat) : decide (sv s m < 0) = (s && !decide (m = 0)) := by
  cases s with
  | false => simp [sv]
  | true =>
    by_cases h : m = 0
    · simp [sv, h]
    · have : 0 < m := by omega
      simp [sv, h]; omega
theorem sv_of (z : Int) : sv (decide (z < 0)) z.natAbs = z := by
  unfold sv; by_cases h : z < 0 <;> simp [h] <;> omega
theorem sv_splus (s : Bool) (a : Nat) (t : Bool) (b : Nat) : sv (splus s a t b).1 (splus s a t b).2 = sv s a + sv t b := by
  unfold splus
  by_cases hst : s = t
  · subst hst; simp only [if_true]; cases s <;> simp [sv] <;> omega
  · rw [if_neg hst]
    obtain rfl : t = !s := by cases s <;> cases t <;> simp_all
    split <;> cases s <;> simp [sv] <;> omega
theorem sv_times (s : Bool) (m : Nat) (t : Bool) (k : Nat) : sv (!(s == t)) (m * k) = sv s m * sv t k := by
  cases s <;> cases t <;> simp [sv, Int.neg_mul, Int.mul_neg]
/-- A rational that an api.Rat can hold. -/
def Fits (q : Rat) : Prop := q.num.natAbs < B4 ∧ q.den < B4
instance (q : Rat) : Decidable (Fits q) := inferInstanceAs (Decidable (_ ∧ _))
abbrev qV (q : Rat) : Value := ratV (decide (q.num < 0)) q.num.natAbs false q.den
abbrev qZ : Value := .agg #[.bool false, .int .u64 0, .int .u64 0, .int .u64 0, .int .u64 0, .bool false, .int .u64 0, .int .u64 0, .int .u64 0, .int .u64 0]
theorem mk_parts (z : Int) (d : Nat) (hd : d ≠ 0) : (mkRat z d).num = z / (Nat.gcd z.natAbs d : Nat) ∧ (mkRat z d).den = d / Nat.gcd z.natAbs d := by
  rw [← Rat.normalize_eq_mkRat hd, Rat.normalize_eq]; exact ⟨rfl, rfl⟩
theorem mk_abs (z : Int) (d : Nat) (hd : d ≠ 0) : (mkRat z d).num.natAbs = z.natAbs / Nat.gcd z.natAbs d := by
  rw [(mk_parts z d hd).1]
  rw [Int.natAbs_ediv_of_dvd]
  · simp
  · exact Int.ofNat_dvd_left.2 (Nat.gcd_dvd_left _ _)
theorem mk_sign (z : Int) (d : Nat) (hd : d ≠ 0) : decide ((mkRat z d).num < 0) = (decide (z < 0) && !decide (z.natAbs / Nat.gcd z.natAbs d = 0)) := by
  have g0 : 0 < Nat.gcd z.natAbs d := Nat.gcd_pos_of_pos_right _ (by omega)
  have ha := mk_abs z d hd
  have hn := (mk_parts z d hd).1
  have h0 : z.natAbs / Nat.gcd z.natAbs d = 0 ↔ z = 0 := by
    rw [Nat.div_eq_zero_iff_lt g0]
    constructor
    · intro h
      have := Nat.le_of_dvd (n := z.natAbs) (m := Nat.gcd z.natAbs d)
      by_cases hz : z = 0
      · exact hz
      · have := this (by omega) (Nat.gcd_dvd_left _ _); omega
    · rintro rfl; exact g0
  rw [show decide (z.natAbs / Nat.gcd z.natAbs d = 0) = decide (z = 0) from decide_eq_decide.2 h0]
  rw [hn]
  by_cases hz : z < 0
  · have h1 : z / ((Nat.gcd z.natAbs d : Nat) : Int) < 0 := Int.ediv_neg_of_neg_of_pos hz (by omega)
    have h2 : ¬ z = 0 := by omega
    simp [hz, h1, h2]
  · have h1 : ¬ z / ((Nat.gcd z.natAbs d : Nat) : Int) < 0 := by
      have := Int.ediv_nonneg (a := z) (b := ((Nat.gcd z.natAbs d : Nat) : Int)) (by omega) (by omega)
      omega
    simp [hz, h1]
/-- An api.Rat that may be is that of a rational. -/
def Rt.q (r : Rt) : Rat := mkRat (sv r.s r.m) r.k
theorem Rt.q_parts (r : Rt) (h : r.ok = true) : r.q.num = sv r.s r.m ∧ r.q.den = r.k ∧ r.t = false ∧ r.s = decide (r.q.num < 0) ∧ 0 < r.k := by
  obtain ⟨h1, h2, h3, h4⟩ := (okR_iff _ _ _ _).1 h
  have hp := mk_parts (sv r.s r.m) r.k (by omega)
  rw [sv_natAbs, h4] at hp
  simp only [Int.natCast_one, Int.ediv_one, Nat.div_one] at hp
  refine ⟨hp.1, hp.2, h2, ?_, h3⟩
  show r.s = decide ((mkRat (sv r.s r.m) r.k).num < 0)
  rw [hp.1, sv_neg]
  cases hs : r.s with
  | false => rfl
  | true => simp [h1 hs]
theorem Rt.v_q (r : Rt) (h : r.ok = true) : r.v = qV r.q := by
  obtain ⟨h1, h2, h3, h4, _⟩ := r.q_parts h
  have : r.q.num.natAbs = r.m := by rw [h1, sv_natAbs]
  show ratV r.s r.m r.t r.k = ratV _ _ _ _
  rw [← h4, this, h2, h3]
theorem Rt.q_fits (r : Rt) (h : r.ok = true) : Fits r.q := by
  obtain ⟨h1, h2, h3, h4, _⟩ := r.q_parts h
  exact ⟨by rw [h1, sv_natAbs]; exact r.hm, by rw [h2]; exact r.hk⟩
/-- The words of a rational. -/
def rt (q : Rat) (h : Fits q) : Rt := ⟨decide (q.num < 0), q.num.natAbs, false, q.den, h.1, h.2⟩
theorem rt_ok (q : Rat) (h : Fits q) : (rt q h).ok = true := by
  refine (okR_iff _ _ _ _).2 ⟨fun hs => ?_, rfl, Nat.pos_of_ne_zero q.den_nz, q.reduced⟩
  have : q.num < 0 := by simpa [rt] using hs
  show q.num.natAbs ≠ 0
  omega
theorem rt_q (q : Rat) (h : Fits q) : (rt q h).q = q := by
  obtain ⟨h1, h2, _⟩ := (rt q h).q_parts (rt_ok q h)
  refine Rat.ext ?_ h2
  rw [h1]; exact sv_of q.num
end Go.Proofs.YtjkchmegnfbfoaaGreatDoor

namespace Go.Proofs.YtjkchmegnfbfoaaGreatDoor
open Go Go.ChangeShapes Go.WideShapes Go.RowKit
set_option linter.unusedSimpArgs false
set_option linter.unusedVariables false
set_option maxRecDepth 100000

theorem law_own : ownKnob Tryz.prog.godebug = none := by kernel_rfl
theorem law_laidOut : laidOutB Tryz.prog = true := by kernel_rfl
theorem law_gTab : Tryz.prog.globalNamed "math/bits.deBruijn64tab" = some 0 := by kernel_rfl
abbrev lawLaid : List (String × DataW Unit) := [("math/bits.deBruijn64tab", Rows.laid_math_bits_deBruijn64tab)]
theorem door_met (os : Os) (args : Array Value) : laidMetH Tryz.prog lawLaid ((World.doorLaid Tryz.prog 400 os).forCall (fun _ _ => 0) ⟨#[], args, []⟩).memory :=
  laidMetH_of_parts3 (fuel := 8) (laidMet_of_run' 8 (by kernel_rfl) (by kernel_rfl)) (by kernel_rfl) (by kernel_rfl)
theorem tabType : ∃ e, Tryz.prog.underlying ((Tryz.prog.globals[0]?).map (·.type) |>.getD 0) = some (.array 64 e) ∧ Tryz.prog.underlying e = some (.int .u8) ∧ Tryz.prog.cellsOf e = 1 := ⟨5, by kernel_rfl, by kernel_rfl, by kernel_rfl⟩
theorem datum_tab : (Rows.laid_math_bits_deBruijn64tab : DataW Unit) = .agg (Lib.deBruijn64tab.map fun (n : Nat) => .lit (.int .u8 (n : Int))) := by
  simp [Rows.laid_math_bits_deBruijn64tab, Lib.deBruijn64tab]
theorem tab_of_laid {W : World} (h : laidMetH Tryz.prog lawLaid W) : Tab W := by
  rw [MakeChecks.laidMetH_plain _ _ _ (by kernel_rfl)] at h
  obtain ⟨ps, ⟨g0, t0, cs0, f0, p0, q0, hg0, ht0, hv0, hd0, _⟩, _, _⟩ := h
  obtain rfl := Option.some.inj (law_gTab.symm.trans hg0)
  obtain ⟨e, he, hu, hc⟩ := tabType
  rw [ht0, Option.getD_some] at he
  obtain ⟨xs, m, rfl, hx, hlen, hn, hel⟩ := DataW.trod_array he hd0
  rw [datum_tab] at hx
  simp only [Prod.mk.injEq, DataW.agg.injEq] at hx
  intro j hj
  have hj64 : j < 64 := hj
  have h1 := hel j hj64
  rw [hc, Nat.mul_one] at h1
  have hjx : j < xs.length := by omega
  rw [List.getElem?_eq_getElem hjx] at h1
  obtain ⟨k, e1, e2, _⟩ := DataW.trod_int hu h1
  have h3 : (Lib.deBruijn64tab.map fun (n : Nat) => (DataW.lit (.int .u8 (n : Int)) : DataW Unit))[j]? = some (xs[j].1) := by
    rw [hx.1, List.getElem?_map, List.getElem?_eq_getElem hjx]; rfl
  have hcell := World.var?_cell hg0 hv0 j
  have h4 : cs0.toList[j]? = some (.int .u8 k) := by
    have := congrArg (·[0]?) e1
    simpa [List.getElem?_take, List.getElem?_drop] using this
  rw [e2] at h3
  have hjt : j < Lib.deBruijn64tab.length := hj
  rw [List.getElem?_map, List.getElem?_eq_getElem hjt] at h3
  have h5 : ((Lib.deBruijn64tab[j] : Nat) : Int) = k := by simpa using h3
  rw [hcell]
  have h6 : cs0[j]? = some (.int .u8 k) := by simpa using h4
  rw [h6, ← h5]
  simp [List.getD_eq_getElem?_getD, hjt]
theorem cell_u64 {W : World} {b : Nat} {v : Value} (h : Cell.okWide Tryz.prog W .any b 22 v) : ∃ n : Nat, n < B ∧ v = q64 n := by
  simp only [Cell.okWide, Tryz.underlying22] at h
  cases v <;> simp only [Cell.ok, Tryz.underlying22] at h
  rename_i k n
  obtain ⟨rfl, h1, h2⟩ := h
  refine ⟨n.toNat, ?_, ?_⟩
  · rw [B_eq]; rw [show IntKind.u64.min = 0 by decide] at h1; rw [show IntKind.u64.max = 18446744073709551615 by decide] at h2; omega
  · rw [show IntKind.u64.min = 0 by decide] at h1; simp [q64]; omega
theorem cell_i64 {W : World} {b : Nat} {v : Value} (h : Cell.okWide Tryz.prog W .any b 2 v) : ∃ n : Int, -9223372036854775808 ≤ n ∧ n ≤ 9223372036854775807 ∧ v = .int .i64 n := by
  simp only [Cell.okWide, Tryz.underlying2] at h
  cases v <;> simp only [Cell.ok, Tryz.underlying2] at h
  rename_i k n
  obtain ⟨rfl, h1, h2⟩ := h
  rw [show IntKind.i64.min = -9223372036854775808 by decide] at h1
  rw [show IntKind.i64.max = 9223372036854775807 by decide] at h2
  exact ⟨n, h1, h2, rfl⟩
theorem cell_bool {W : World} {b : Nat} {v : Value} (h : Cell.okWide Tryz.prog W .any b 4 v) : ∃ s : Bool, v = .bool s := by
  simp only [Cell.okWide, Tryz.underlying4] at h
  cases v <;> simp only [Cell.ok, Tryz.underlying4] at h
  exact ⟨_, rfl⟩
theorem mag_of {x0 x1 x2 x3 : Nat} (h0 : x0 < B) (h1 : x1 < B) (h2 : x2 < B) (h3 : x3 < B) : ∃ m, m < B4 ∧ x0 = wn m 0 ∧ x1 = wn m 1 ∧ x2 = wn m 2 ∧ x3 = wn m 3 := by
  obtain ⟨e0, e1, e2, e3⟩ := wn_num4 h0 h1 h2 h3
  exact ⟨num4 x0 x1 x2 x3, num4_lt h0 h1 h2 h3, e0.symm, e1.symm, e2.symm, e3.symm⟩
theorem arr10 {cs : Array Value} (h : cs.size = 10) : ∃ c0 c1 c2 c3 c4 c5 c6 c7 c8 c9, cs = #[c0, c1, c2, c3, c4, c5, c6, c7, c8, c9] := by
  obtain ⟨l⟩ := cs
  match l, h with
  | [c0, c1, c2, c3, c4, c5, c6, c7, c8, c9], _ => exact ⟨_, _, _, _, _, _, _, _, _, _, rfl⟩
theorem arr5 {cs : Array Value} (h : cs.size = 5) : ∃ c0 c1 c2 c3 c4, cs = #[c0, c1, c2, c3, c4] := by
  obtain ⟨l⟩ := cs
  match l, h with
  | [c0, c1, c2, c3, c4], _ => exact ⟨_, _, _, _, _, rfl⟩
theorem at_row {W : World} {b : Nat} {ts : List TypeId} {cs : Array Value} (h : ∀ i v, cs[i]? = some v → ∃ u, ts[i % ts.length]? = some u ∧ Cell.okWide Tryz.prog W .any b u v) (i : Nat) (u : TypeId) (v : Value) (hi : i < ts.length) (ht : ts[i]? = some u) (hv : cs[i]? = some v) : Cell.okWide Tryz.prog W .any b u v := by
  obtain ⟨u', h1, h2⟩ := h i v hv
  rw [Nat.mod_eq_of_lt hi, ht] at h1
  cases h1; exact h2
theorem rat_arg {W : World} {b : Nat} {v : Value} (h : Value.okWide Tryz.prog W .any b 27 v) : ∃ r : Rt, v = r.v := by
  have hu : ∃ fs, Tryz.prog.underlying 27 = some (.struct fs) := ⟨_, Tryz.underlying27⟩
  obtain ⟨fs, hu⟩ := hu
  simp only [Value.okWide, hu] at h
  obtain ⟨cs, rfl, hsz, ts, hts, _, hall⟩ := h
  obtain rfl := Option.some.inj ((show Tryz.prog.cellTypes Tryz.prog.depth 27 = some [4, 22, 22, 22, 22, 4, 22, 22, 22, 22] by kernel_rfl).symm.trans hts)
  obtain ⟨c0, c1, c2, c3, c4, c5, c6, c7, c8, c9, rfl⟩ := arr10 (hsz.trans (show Tryz.prog.cellsOf 27 = 10 by kernel_rfl))
  obtain ⟨s, rfl⟩ := cell_bool (at_row hall 0 _ _ (by simp) rfl rfl)
  obtain ⟨x0, b0, rfl⟩ := cell_u64 (at_row hall 1 _ _ (by simp) rfl rfl)
  obtain ⟨x1, b1, rfl⟩ := cell_u64 (at_row hall 2 _ _ (by simp) rfl rfl)
  obtain ⟨x2, b2, rfl⟩ := cell_u64 (at_row hall 3 _ _ (by simp) rfl rfl)
  obtain ⟨x3, b3, rfl⟩ := cell_u64 (at_row hall 4 _ _ (by simp) rfl rfl)
  obtain ⟨t, rfl⟩ := cell_bool (at_row hall 5 _ _ (by simp) rfl rfl)
  obtain ⟨y0, d0, rfl⟩ := cell_u64 (at_row hall 6 _ _ (by simp) rfl rfl)
  obtain ⟨y1, d1, rfl⟩ := cell_u64 (at_row hall 7 _ _ (by simp) rfl rfl)
  obtain ⟨y2, d2, rfl⟩ := cell_u64 (at_row hall 8 _ _ (by simp) rfl rfl)
  obtain ⟨y3, d3, rfl⟩ := cell_u64 (at_row hall 9 _ _ (by simp) rfl rfl)
  obtain ⟨m, hm, rfl, rfl, rfl, rfl⟩ := mag_of b0 b1 b2 b3
  obtain ⟨k, hk, rfl, rfl, rfl, rfl⟩ := mag_of d0 d1 d2 d3
  exact ⟨⟨s, m, t, k, hm, hk⟩, rfl⟩
theorem int_arg {W : World} {b : Nat} {v : Value} (h : Value.okWide Tryz.prog W .any b 25 v) : ∃ s m, m < B4 ∧ v = intV s m := by
  have hu : ∃ fs, Tryz.prog.underlying 25 = some (.struct fs) := ⟨_, Tryz.underlying25⟩
  obtain ⟨fs, hu⟩ := hu
  simp only [Value.okWide, hu] at h
  obtain ⟨cs, rfl, hsz, ts, hts, _, hall⟩ := h
  obtain rfl := Option.some.inj ((show Tryz.prog.cellTypes Tryz.prog.depth 25 = some [4, 22, 22, 22, 22] by kernel_rfl).symm.trans hts)
  obtain ⟨c0, c1, c2, c3, c4, rfl⟩ := arr5 (hsz.trans (show Tryz.prog.cellsOf 25 = 5 by kernel_rfl))
  obtain ⟨s, rfl⟩ := cell_bool (at_row hall 0 _ _ (by simp) rfl rfl)
  obtain ⟨x0, b0, rfl⟩ := cell_u64 (at_row hall 1 _ _ (by simp) rfl rfl)
  obtain ⟨x1, b1, rfl⟩ := cell_u64 (at_row hall 2 _ _ (by simp) rfl rfl)
  obtain ⟨x2, b2, rfl⟩ := cell_u64 (at_row hall 3 _ _ (by simp) rfl rfl)
  obtain ⟨x3, b3, rfl⟩ := cell_u64 (at_row hall 4 _ _ (by simp) rfl rfl)
  obtain ⟨m, hm, rfl, rfl, rfl, rfl⟩ := mag_of b0 b1 b2 b3
  exact ⟨s, m, hm, rfl⟩
end Go.Proofs.YtjkchmegnfbfoaaGreatDoor

namespace Go.Proofs.YtjkchmegnfbfoaaGreatDoor
open Go Go.RowKit
set_option linter.unusedSimpArgs false
set_option linter.unusedVariables false
set_option maxRecDepth 100000

theorem run_eq_rat_at (n : Nat) (s : Bool) (a : Nat) (t : Bool) (b : Nat) (s' : Bool) (a' : Nat) (t' : Bool) (b' : Nat) (ha : a < B4) (hb : b < B4) (ha' : a' < B4) (hb' : b' < B4) (w : World) :
    (Op.equalIn (n + 4) 27 (ratV s a t b) (ratV s' a' t' b')).run Tryz.prog w = .ok (decide (s = s' ∧ a = a') && decide (t = t' ∧ b = b')) w := by
  rw [run_equalIn_struct (P := Tryz.prog) w (n + 3) 27 _ _ (by kernel_rfl) (by kernel_rfl)]
  rw [show (Tryz.prog.fieldsOf 27).toList = [⟨"N", 25, 0, false, "", "", 0⟩, ⟨"D", 25, 5, false, "", "", 40⟩] by kernel_rfl]
  rw [run_eqFields_cons _ _ _ _ _ (intV s a) (intV s' a') _ w (by decide) (by kernel_rfl) (by kernel_rfl) (run_eq_int_at n s a s' a' ha ha' w)]
  rw [run_eqFields_cons _ _ _ _ _ (intV t b) (intV t' b') _ w (by decide) (by kernel_rfl) (by kernel_rfl) (run_eq_int_at n t b t' b' hb hb' w)]
  cases decide (s = s' ∧ a = a') <;> cases decide (t = t' ∧ b = b') <;> simp [Op.eqFields]
@[go_sem] theorem run_eq_rat (s : Bool) (a : Nat) (t : Bool) (b : Nat) (s' : Bool) (a' : Nat) (t' : Bool) (b' : Nat) (ha : a < B4) (hb : b < B4) (ha' : a' < B4) (hb' : b' < B4) (w : World) :
    (Op.equalIn 10000 27 (ratV s a t b) (ratV s' a' t' b')).run Tryz.prog w = .ok (decide (s = s' ∧ a = a') && decide (t = t' ∧ b = b')) w := run_eq_rat_at 9996 s a t b s' a' t' b' ha hb ha' hb' w
theorem run_eq_q (x y : Rat) (fx : Fits x) (fy : Fits y) (w : World) :
    (Op.equalIn 10000 27 (qV x) (qV y)).run Tryz.prog w = .ok (decide (x = y)) w := by
  rw [run_eq_rat _ _ _ _ _ _ _ _ fx.1 fx.2 fy.1 fy.2]
  congr 1
  rw [Bool.eq_iff_iff]
  simp only [Bool.and_eq_true, decide_eq_true_eq, true_and]
  constructor
  · rintro ⟨⟨h1, h2⟩, h3⟩
    have h1' : (x.num < 0) ↔ (y.num < 0) := by simpa using h1
    exact Rat.ext (by omega) h3
  · rintro rfl; exact ⟨⟨rfl, rfl⟩, rfl⟩
end Go.Proofs.YtjkchmegnfbfoaaGreatDoor

namespace Go.Proofs.YtjkchmegnfbfoaaGreatDoor
set_option linter.unusedSimpArgs false
set_option linter.unusedVariables false

def dval : List Nat → Nat
  | [] => 0
  | d :: ds => d + 65536 * dval ds
def Digs (ds : List Nat) : Prop := ∀ d ∈ ds, d < 65536
/-- Without noughts behind. -/
def trim (ds : List Nat) : List Nat := (ds.reverse.dropWhile (· == 0)).reverse
theorem trim_nil : trim [] = [] := rfl
theorem trim_zero (l : List Nat) : trim (l ++ [0]) = trim l := by simp [trim, List.dropWhile_cons]
theorem trim_ne (l : List Nat) (x : Nat) (h : x ≠ 0) : trim (l ++ [x]) = l ++ [x] := by
  have : ¬ (x == 0) = true := by simpa using h
  simp [trim, List.dropWhile_cons, this, h]
theorem list_snoc {α : Type} (l : List α) (h : l ≠ []) : ∃ i x, l = i ++ [x] := ⟨l.dropLast, l.getLast h, (List.dropLast_concat_getLast h).symm⟩
theorem dval_append (a b : List Nat) : dval (a ++ b) = dval a + 65536 ^ a.length * dval b := by
  induction a with
  | nil => simp [dval]
  | cons x a ih => simp only [List.cons_append, dval, ih, List.length_cons, Nat.pow_succ]; rw [Nat.mul_add, ← Nat.mul_assoc, Nat.add_assoc, Nat.mul_comm 65536 (65536 ^ a.length)]
theorem trim_spec : ∀ (n : Nat) (ds : List Nat), ds.length = n → ∃ k, ds = trim ds ++ List.replicate k 0 ∧ (trim ds = [] ∨ ∃ i x, x ≠ 0 ∧ trim ds = i ++ [x])
  | 0, ds, h => by obtain rfl := List.length_eq_zero_iff.1 h; exact ⟨0, by simp [trim], .inl rfl⟩
  | n + 1, ds, h => by
    obtain ⟨i, x, rfl⟩ := list_snoc ds (by intro e; subst e; cases h)
    by_cases hx : x = 0
    · subst hx
      obtain ⟨k, h1, h2⟩ := trim_spec n i (by simpa using h)
      rw [trim_zero]
      refine ⟨k + 1, ?_, h2⟩
      conv => lhs; rw [h1]
      rw [List.append_assoc, List.replicate_succ']
    · rw [trim_ne _ _ hx]
      exact ⟨0, by simp, .inr ⟨i, x, hx, rfl⟩⟩
theorem dval_zeros (k : Nat) : dval (List.replicate k 0) = 0 := by
  induction k with
  | zero => rfl
  | succ k ih => simp [List.replicate_succ, dval, ih]
theorem dval_trim (ds : List Nat) : dval (trim ds) = dval ds := by
  obtain ⟨k, h, _⟩ := trim_spec _ ds rfl
  conv => rhs; rw [h]
  rw [dval_append, dval_zeros]; simp
theorem trim_le (ds : List Nat) : (trim ds).length ≤ ds.length := by
  obtain ⟨k, h, _⟩ := trim_spec _ ds rfl
  have := congrArg List.length h
  simp at this; omega
theorem trim_take (ds : List Nat) : trim ds = ds.take (trim ds).length := by
  obtain ⟨k, h, _⟩ := trim_spec _ ds rfl
  conv => rhs; arg 2; rw [h]
  simp
theorem trim_trim (ds : List Nat) : trim (trim ds) = trim ds := by
  obtain ⟨k, _, h | ⟨i, x, hx, h⟩⟩ := trim_spec _ ds rfl
  · rw [h]; rfl
  · rw [h, trim_ne _ _ hx]
theorem digs_trim {ds : List Nat} (h : Digs ds) : Digs (trim ds) := fun d hd => by
  rw [trim_take] at hd; exact h d (List.mem_of_mem_take hd)
theorem digs_cons {d : Nat} {ds : List Nat} : Digs (d :: ds) ↔ d < 65536 ∧ Digs ds := by simp [Digs]
theorem digs_append {a b : List Nat} : Digs (a ++ b) ↔ Digs a ∧ Digs b := by
  simp only [Digs, List.mem_append]
  exact ⟨fun h => ⟨fun d hd => h d (.inl hd), fun d hd => h d (.inr hd)⟩, fun ⟨h1, h2⟩ d hd => hd.elim (h1 d) (h2 d)⟩
theorem dval_lt {ds : List Nat} (h : Digs ds) : dval ds < 65536 ^ ds.length := by
  induction ds with
  | nil => simp [dval]
  | cons d ds ih =>
    obtain ⟨h1, h2⟩ := digs_cons.1 h
    have := ih h2
    simp only [dval, List.length_cons, Nat.pow_succ]; omega
/-- The digits of a number. -/
def dg (n : Nat) : List Nat := if h : n = 0 then [] else n % 65536 :: dg (n / 65536)
decreasing_by omega
theorem dg_zero : dg 0 = [] := by unfold dg; simp
theorem dg_pos (n : Nat) (h : n ≠ 0) : dg n = n % 65536 :: dg (n / 65536) := by
  conv => lhs; unfold dg
  rw [dif_neg h]
theorem trim_cons (d : Nat) (ds : List Nat) : trim (d :: ds) = if trim ds = [] then (if d = 0 then [] else [d]) else d :: trim ds := by
  obtain ⟨k, h, h2⟩ := trim_spec _ ds rfl
  rcases h2 with h2 | ⟨i, x, hx, h2⟩
  · rw [if_pos h2]
    rw [h2, List.nil_append] at h
    rw [h]
    clear h h2
    induction k with
    | zero =>
      by_cases hd : d = 0
      · subst hd; rfl
      · have := trim_ne [] d hd; rw [if_neg hd]; exact this
    | succ k ih => rw [List.replicate_succ', ← List.cons_append, trim_zero, ih]
  · rw [if_neg (by rw [h2]; simp)]
    rw [h2] at h ⊢
    rw [h]
    clear h h2
    induction k with
    | zero => rw [List.replicate_zero, List.append_nil, ← List.cons_append, trim_ne _ _ hx, List.cons_append]
    | succ k ih => rw [List.replicate_succ', ← List.append_assoc, ← List.cons_append, trim_zero, ih]
theorem dval_eq_zero {ds : List Nat} (h : dval ds = 0) : trim ds = [] := by
  induction ds with
  | nil => rfl
  | cons d ds ih =>
    simp only [dval] at h
    rw [trim_cons, if_pos (ih (by omega)), if_pos (by omega)]
/-- What reads as n, without noughts behind, are its digits. -/
theorem trim_eq_dg : ∀ (ds : List Nat), Digs ds → trim ds = dg (dval ds)
  | [], _ => by simp [dval, dg_zero, trim]
  | d :: ds, h => by
    obtain ⟨h1, h2⟩ := digs_cons.1 h
    have ih := trim_eq_dg ds h2
    rw [trim_cons]
    by_cases hz : dval (d :: ds) = 0
    · have : dval ds = 0 := by simp only [dval] at hz; omega
      have : d = 0 := by simp only [dval] at hz; omega
      rw [hz, dg_zero, if_pos (dval_eq_zero ‹_›), if_pos this]
    · rw [dg_pos _ hz]
      have e1 : dval (d :: ds) % 65536 = d := by simp only [dval]; omega
      have e2 : dval (d :: ds) / 65536 = dval ds := by simp only [dval]; omega
      rw [e1, e2, ← ih]
      split
      · rename_i h0
        have hd : dval ds = 0 := by rw [← dval_trim, h0]; rfl
        rw [if_neg (by intro e; apply hz; simp only [dval]; omega), h0]
      · rfl
theorem dval_dg (n : Nat) : dval (dg n) = n := by
  induction n using Nat.strongRecOn with
  | _ n ih =>
    by_cases h : n = 0
    · subst h; rw [dg_zero]; rfl
    · rw [dg_pos n h]; simp only [dval]; rw [ih (n / 65536) (by omega)]; omega
theorem digs_dg (n : Nat) : Digs (dg n) := by
  induction n using Nat.strongRecOn with
  | _ n ih =>
    by_cases h : n = 0
    · subst h; rw [dg_zero]; intro d hd; cases hd
    · rw [dg_pos n h, digs_cons]; exact ⟨Nat.mod_lt _ (by omega), ih _ (by omega)⟩
theorem trim_dg (n : Nat) : trim (dg n) = dg n := by rw [trim_eq_dg _ (digs_dg n), dval_dg]
theorem dg_len_le (n k : Nat) : (dg n).length ≤ k ↔ n < 65536 ^ k := by
  induction k generalizing n with
  | zero =>
    by_cases h : n = 0
    · subst h; simp [dg_zero]
    · rw [dg_pos n h]; simp; omega
  | succ k ih =>
    by_cases h : n = 0
    · subst h; simp [dg_zero]; exact Nat.pow_pos (by omega)
    · rw [dg_pos n h]
      simp only [List.length_cons, Nat.add_le_add_iff_right, ih, Nat.pow_succ]
      exact Nat.div_lt_iff_lt_mul (by omega)
theorem dg_nil (n : Nat) : dg n = [] ↔ n = 0 := by
  constructor
  · intro h; have := dval_dg n; rw [h] at this; exact this.symm
  · rintro rfl; exact dg_zero
theorem dval_getD (ds : List Nat) (h : Digs ds) (i : Nat) : ds.getD i 0 = dval ds / 65536 ^ i % 65536 := by
  induction ds generalizing i with
  | nil => simp [dval]
  | cons d ds ih =>
    obtain ⟨h1, h2⟩ := digs_cons.1 h
    cases i with
    | zero => simp only [List.getD_cons_zero, dval, Nat.pow_zero, Nat.div_one]; omega
    | succ i =>
      rw [List.getD_cons_succ, ih h2]
      simp only [dval]
      rw [Nat.pow_succ', ← Nat.div_div_eq_div_mul]
      congr 2; omega
theorem dg_getD (n i : Nat) : (dg n).getD i 0 = n / 65536 ^ i % 65536 := by rw [dval_getD _ (digs_dg n), dval_dg]
end Go.Proofs.YtjkchmegnfbfoaaGreatDoor

namespace Go.Proofs.YtjkchmegnfbfoaaGreatDoor
open Go Go.RowKit
set_option linter.unusedSimpArgs false
set_option linter.unusedVariables false
set_option maxRecDepth 100000

theorem must_ratio_yes (e : Int) (w : World) : Calls Tryz.prog 47 #[.bool true, .int .i64 e] w fun e' w' => e' = .returned (.tuple #[]) ∧ w' = w := by
  go_enter Tryz.func47, Tryz.ntmps47
  go_wp2
  go_end0
  exact ⟨rfl, rfl⟩
theorem must_ratio_no (e : Int) (w : World) : Calls Tryz.prog 47 #[.bool false, .int .i64 e] w fun e' w' => e' = givesUp e ∧ w' = w := by
  go_enter Tryz.func47, Tryz.ntmps47
  go_wp2
  exact ⟨rfl, rfl, rfl⟩
theorem caught_ratio_idle (p : Addr) (fv : Value) (w : World) :
    CallsD Tryz.prog 45 #[.pointer (some p), fv] .returning w fun e u' w' => e = .returned (.tuple #[]) ∧ u' = .returning ∧ w' = w := by
  refine callsD_of_wpS Tryz.func45 rfl fun c₀ cs hu => ?_
  apply wpS_seq
  apply wpS_region
  simp [wpOpsS, go_sem, recoverD, hu, Tryz.ntmps45, Exit.thenS]
  apply wpS_seq
  apply wpS_region
  simp [wpOpsS, go_sem, Exit.thenS]
  refine wpS_cond (t := false) (by simp [Act.eval, Array.replicate]) ?_
  simp only [Bool.false_eq_true, if_false]
  refine wpS_of_wp (wp_skip ?_)
  cases c₀
  simp_all [bodyPostS, results, Tryz.results45]
theorem caught_ratio_pan (pb : Nat) (x e : Int) (g : Nat) (caps : Array Value) (older : List PanicEntry) (w : World) (R : Ending → FrameMode → World → Prop) (hc : w.cell? ⟨pb, 0, none⟩ = some (.int .i64 x)) (hz : w.frozen? ⟨pb, 0, none⟩ = false)
    (eg : ∀ args w, (callFunc g args).run Tryz.prog w = .ok (.enter g args) w)
    (hg : Calls Tryz.prog g caps (w.setCell ⟨pb, 0, none⟩ (.int .i64 e)) fun e' w' => e' = .returned (.tuple #[]) ∧ R (.returned (.tuple #[])) (.panicking ({ v := .iface 37 (.int .i64 e), recovered := true } :: older)) w') :
    CallsD Tryz.prog 45 #[.pointer (some ⟨pb, 0, none⟩), .func (.func g) #[] caps] (.panicking ({ v := .iface 37 (.int .i64 e), recovered := false } :: older)) w R := by
  have hta : ∀ w, (Instr.typeAssert (.iface 37 (.int .i64 e)) 20 37 false).run Tryz.prog w = .ok (.int .i64 e) w := fun w => by kernel_rfl
  refine callsD_of_wpS Tryz.func45 rfl fun c₀ cs hu => ?_
  apply wpS_seq
  apply wpS_region
  simp [wpOpsS, go_sem, recoverD, hu, Tryz.ntmps45, Exit.thenS]
  apply wpS_seq
  apply wpS_region
  simp [wpOpsS, go_sem, Exit.thenS]
  refine wpS_cond (t := true) (by simp [Act.eval, Array.replicate]) ?_
  simp only [if_true]
  refine wpS_of_wp ?_
  go_wp2
  refine hg.mono ?_
  rintro e' w' ⟨rfl, hR⟩
  go_wp2
  simpa [bodyPostS, results, Tryz.results45] using hR
theorem leaves_ratio {fn : Func} {tmps : Array Value} {R : Ending → World → Prop} {p : Addr} {fv : Value} {w : World} (v : Value)
    (hr : (results fn tmps).run Tryz.prog w = .ok v w) (h : R (.returned v) w) :
    Leaves Tryz.prog fn tmps R [{ target := .fn (.func 45) #[], args := #[.pointer (some p), fv] }] .returning w := by
  refine leaves_cons (f := 45) (args := #[.pointer (some p), fv]) (by simp) (by simp [go_sem]) ?_
  refine (caught_ratio_idle _ _ _).mono ?_
  rintro e u' w'' ⟨rfl, rfl, rfl⟩
  simp only [Leaves, settle]
  exact ⟨v, hr, h⟩
theorem leaves_ratio_pan {fn : Func} {tmps : Array Value} {R : Ending → World → Prop} {pb : Nat} (x e : Int) (g : Nat) (caps : Array Value) {w : World}
    (hc : w.cell? ⟨pb, 0, none⟩ = some (.int .i64 x)) (hz : w.frozen? ⟨pb, 0, none⟩ = false)
    (eg : ∀ args w, (callFunc g args).run Tryz.prog w = .ok (.enter g args) w)
    (hg : Calls Tryz.prog g caps (w.setCell ⟨pb, 0, none⟩ (.int .i64 e)) fun e' w' => e' = .returned (.tuple #[]) ∧ ∃ v, (results fn tmps).run Tryz.prog w' = .ok v w' ∧ R (.returned v) w') :
    Leaves Tryz.prog fn tmps R [{ target := .fn (.func 45) #[], args := #[.pointer (some ⟨pb, 0, none⟩), .func (.func g) #[] caps] }] (.panicking [{ v := .iface 37 (.int .i64 e), recovered := false }]) w := by
  refine leaves_cons (f := 45) (args := #[.pointer (some ⟨pb, 0, none⟩), .func (.func g) #[] caps]) (by simp) (by simp [go_sem]) ?_
  refine caught_ratio_pan pb x e g _ [] _ _ hc hz eg (hg.mono ?_)
  rintro e' w' ⟨rfl, v, hr, h⟩
  refine ⟨rfl, ?_⟩
  simp only [Leaves, settle]
  exact ⟨v, hr, h⟩

end Go.Proofs.YtjkchmegnfbfoaaGreatDoor

namespace Go.Proofs.YtjkchmegnfbfoaaGreatDoor
open Go Go.RowKit
set_option linter.unusedSimpArgs false
set_option linter.unusedVariables false
set_option maxRecDepth 100000

set_option maxHeartbeats 4000000 in
theorem made_no1 (s : Bool) (n d : Nat) (hn : n < B9) (hd0 : 0 < d) (hd : 2 * d ≤ B9) (h1 : ¬ n / Nat.gcd n d < B4) (w : World) (hT : Tab w) :
    Calls Tryz.prog 50 #[sgnV s n, wideV d] w fun e w' => e = givesUp 110 ∧ Ext w w' := by
  have cg := gcd_any n d hn (by omega)
  have g0 : 0 < Nat.gcd n d := Nat.gcd_pos_of_pos_right _ hd0
  have gd : Nat.gcd n d ≤ d := Nat.le_of_dvd hd0 (Nat.gcd_dvd_right _ _)
  have b1 := by_any n (Nat.gcd n d) hn g0 (by omega)
  have b2 := by_any d (Nat.gcd n d) (by omega) g0 (by omega)
  have n1 := narrow_no _ s h1 (Nat.lt_of_le_of_lt (Nat.div_le_self _ _) hn)
  clear hn hd0 hd h1 g0 gd
  generalize n / Nat.gcd n d = x at *
  generalize d / Nat.gcd n d = y at *
  generalize Nat.gcd n d = g at *
  go_enter Tryz.func50, Tryz.ntmps50
  go_wp2_with (go_at_call 85; refine (cg _ (((hT.alloc _).alloc _).alloc _)).mono ?_; rintro e w' ⟨rfl, d1, rfl⟩)
  (first | refine wp_region_ksl' [0, 1, 2, 3, 4, 5, 7, 8] 6 _ [{ v := .iface 37 (.int .i64 110), recovered := false }] [.p, .r, .r, .r, .p, .r, .p, .r, .r, .p, .p, .p, .p] (by kernel_rfl) (by kernel_rfl) rfl ?hQ ?hS | refine wp_region_ksl [0, 1, 2, 3, 4, 5, 7, 8] 6 _ [{ v := .iface 37 (.int .i64 110), recovered := false }] [.p, .r, .r, .r, .p, .r, .p, .r, .r, .p, .p, .p, .p] (by kernel_rfl) (by kernel_rfl) rfl ?hQ ?hS); (case hS => (simp only [List.map_cons, List.map_nil, List.getD_cons_succ, List.getD_cons_zero]; (repeat (first | (refine wpK_p rfl (fun K hK => ?_); go_simp; refine hK _ _ ?_; clear hK K) | (refine wpK_r rfl (fun K hK => ?_); go_simp; refine hK _ _ ?_; clear hK K) | (refine wpK_r rfl (fun K hK => ?_); go_simp; apply Exists.intro; refine ⟨fun d => ?_, hK _ _ ?_⟩; (first | (with_reducible exact Calls.calm (b1 _)) | (with_reducible exact Calls.calm (b2 _))); clear hK K))); refine wpK_nil ?_; refine ⟨rfl, fun d => ?_⟩; go_simp; refine ⟨_, _, ⟨rfl, rfl⟩, ?_⟩; (with_reducible exact Calls.calmP (n1 _)))); intro a d hd hkept
  exact ⟨hd, rfl, (by repeat (first | (with_reducible exact Ext.refl _) | (with_reducible assumption) | (with_reducible apply Ext.grow) | (with_reducible apply Ext.alloc) | (with_reducible apply Ext.drew) | ((with_reducible apply Ext.set); (case hb => (first | omega | (simp; omega))))))⟩
set_option maxHeartbeats 4000000 in
theorem made_no2 (s : Bool) (n d : Nat) (hn : n < B9) (hd0 : 0 < d) (hd : 2 * d ≤ B9) (h1 : n / Nat.gcd n d < B4) (h2 : ¬ d / Nat.gcd n d < B4) (w : World) (hT : Tab w) :
    Calls Tryz.prog 50 #[sgnV s n, wideV d] w fun e w' => e = givesUp 110 ∧ Ext w w' := by
  have cg := gcd_any n d hn (by omega)
  have g0 : 0 < Nat.gcd n d := Nat.gcd_pos_of_pos_right _ hd0
  have gd : Nat.gcd n d ≤ d := Nat.le_of_dvd hd0 (Nat.gcd_dvd_right _ _)
  have b1 := by_any n (Nat.gcd n d) hn g0 (by omega)
  have b2 := by_any d (Nat.gcd n d) (by omega) g0 (by omega)
  have n1 := narrow_yes _ s h1
  have n2 := narrow_no _ false h2 (Nat.lt_of_le_of_lt (Nat.div_le_self _ _) (by omega))
  generalize (s && !decide (n / Nat.gcd n d = 0)) = z at *
  clear hn hd0 hd h1 h2 g0 gd
  generalize n / Nat.gcd n d = x at *
  generalize d / Nat.gcd n d = y at *
  generalize Nat.gcd n d = g at *
  go_enter Tryz.func50, Tryz.ntmps50
  go_wp2_with (go_at_call 85; refine (cg _ (((hT.alloc _).alloc _).alloc _)).mono ?_; rintro e w' ⟨rfl, d1, rfl⟩)
  (first | refine wp_region_ksl' [0, 1, 2, 3, 4, 5, 6, 7, 8, 9] 10 _ [{ v := .iface 37 (.int .i64 110), recovered := false }] [.p, .r, .r, .r, .p, .r, .r, .r, .r, .r, .p, .p, .p] (by kernel_rfl) (by kernel_rfl) rfl ?hQ ?hS | refine wp_region_ksl [0, 1, 2, 3, 4, 5, 6, 7, 8, 9] 10 _ [{ v := .iface 37 (.int .i64 110), recovered := false }] [.p, .r, .r, .r, .p, .r, .r, .r, .r, .r, .p, .p, .p] (by kernel_rfl) (by kernel_rfl) rfl ?hQ ?hS); (case hS => (simp only [List.map_cons, List.map_nil, List.getD_cons_succ, List.getD_cons_zero]; (repeat (first | (refine wpK_p rfl (fun K hK => ?_); go_simp; refine hK _ _ ?_; clear hK K) | (refine wpK_r rfl (fun K hK => ?_); go_simp; refine hK _ _ ?_; clear hK K) | (refine wpK_r rfl (fun K hK => ?_); go_simp; apply Exists.intro; refine ⟨fun d => ?_, hK _ _ ?_⟩; (first | (with_reducible exact Calls.calm (b1 _)) | (with_reducible exact Calls.calm (b2 _)) | (with_reducible exact Calls.calm (n1 _))); clear hK K))); refine wpK_nil ?_; refine ⟨rfl, fun d => ?_⟩; go_simp; refine ⟨_, _, ⟨rfl, rfl⟩, ?_⟩; (with_reducible exact Calls.calmP (n2 _)))); intro a d hd hkept
  exact ⟨hd, rfl, (by repeat (first | (with_reducible exact Ext.refl _) | (with_reducible assumption) | (with_reducible apply Ext.grow) | (with_reducible apply Ext.alloc) | (with_reducible apply Ext.drew) | ((with_reducible apply Ext.set); (case hb => (first | omega | (simp; omega))))))⟩
theorem made_q (s : Bool) (n d : Nat) (hn : n < B9) (hd0 : 0 < d) (hd : 2 * d ≤ B9) (hf : Fits (mkRat (sv s n) d)) (w : World) (hT : Tab w) :
    Calls Tryz.prog 50 #[sgnV s n, wideV d] w fun e w' => e = .returned (qV (mkRat (sv s n) d)) ∧ Ext w w' := by
  have ha := mk_abs (sv s n) d (by omega)
  have hp := (mk_parts (sv s n) d (by omega)).2
  have hs := mk_sign (sv s n) d (by omega)
  unfold Fits at hf
  rw [ha, hp] at hf
  simp only [qV, hs, ha, hp]
  rw [sv_natAbs] at *
  have := made_yes s n d hn hd0 hd hf.1 hf.2 w hT
  rw [sv_neg]
  have hz : (s && !decide (n / Nat.gcd n d = 0)) = ((s && !decide (n = 0)) && !decide (n / Nat.gcd n d = 0)) := by
    by_cases h : n = 0
    · simp [h]
    · cases s <;> simp [h]
  rw [hz] at this
  exact this
theorem made_qno (s : Bool) (n d : Nat) (hn : n < B9) (hd0 : 0 < d) (hd : 2 * d ≤ B9) (hf : ¬ Fits (mkRat (sv s n) d)) (w : World) (hT : Tab w) :
    Calls Tryz.prog 50 #[sgnV s n, wideV d] w fun e w' => e = givesUp 110 ∧ Ext w w' := by
  have ha := mk_abs (sv s n) d (by omega)
  have hp := (mk_parts (sv s n) d (by omega)).2
  unfold Fits at hf
  rw [ha, hp, sv_natAbs] at hf
  by_cases h1 : n / Nat.gcd n d < B4
  · exact made_no2 s n d hn hd0 hd h1 (fun h2 => hf ⟨h1, h2⟩) w hT
  · exact made_no1 s n d hn hd0 hd h1 w hT
end Go.Proofs.YtjkchmegnfbfoaaGreatDoor

namespace Go.Proofs.YtjkchmegnfbfoaaGreatDoor
open Go Go.RowKit
set_option linter.unusedSimpArgs false
set_option linter.unusedVariables false
set_option maxRecDepth 100000

theorem RatAt.of1 {w : World} {b : Nat} {r : Rt} {T : TypeId} (h : Blk w b r.c T) : RatAt w b 0 r :=
  ⟨h.lt, h.cell 0, h.cell 1, h.cell 2, h.cell 3, h.cell 4, h.cell 5, h.cell 6, h.cell 7, h.cell 8, h.cell 9⟩
abbrev rats2 (r1 r2 : Rt) : Array Value :=
  #[.bool r1.s, q64 (wn r1.m 0), q64 (wn r1.m 1), q64 (wn r1.m 2), q64 (wn r1.m 3), .bool r1.t, q64 (wn r1.k 0), q64 (wn r1.k 1), q64 (wn r1.k 2), q64 (wn r1.k 3),
    .bool r2.s, q64 (wn r2.m 0), q64 (wn r2.m 1), q64 (wn r2.m 2), q64 (wn r2.m 3), .bool r2.t, q64 (wn r2.k 0), q64 (wn r2.k 1), q64 (wn r2.k 2), q64 (wn r2.k 3)]
theorem RatAt.of2a {w : World} {b : Nat} {r1 r2 : Rt} {T : TypeId} (h : Blk w b (rats2 r1 r2) T) : RatAt w b 0 r1 :=
  ⟨h.lt, h.cell 0, h.cell 1, h.cell 2, h.cell 3, h.cell 4, h.cell 5, h.cell 6, h.cell 7, h.cell 8, h.cell 9⟩
theorem RatAt.of2b {w : World} {b : Nat} {r1 r2 : Rt} {T : TypeId} (h : Blk w b (rats2 r1 r2) T) : RatAt w b 10 r2 :=
  ⟨h.lt, h.cell 10, h.cell 11, h.cell 12, h.cell 13, h.cell 14, h.cell 15, h.cell 16, h.cell 17, h.cell 18, h.cell 19⟩
theorem all2_yes (r1 r2 : Rt) (h1 : r1.ok = true) (h2 : r2.ok = true) (w : World) (b cap : Nat) (T : TypeId) (h : Blk w b (rats2 r1 r2) T) :
    Calls Tryz.prog 60 #[.slice (some ⟨b, 0, none⟩) 2 cap] w fun e w' => e = .returned (.tuple #[]) ∧ Ext w w' := by
  refine all_yes 2 (fun i => if i = 0 then r1 else r2) w b 0 cap (by omega) h.lt (fun i hi => ?_) (fun i hi => ?_)
  · obtain rfl | rfl : i = 0 ∨ i = 1 := by omega
    · exact RatAt.of2a h
    · exact RatAt.of2b h
  · obtain rfl | rfl : i = 0 ∨ i = 1 := by omega
    · exact h1
    · exact h2
theorem all2_no (r1 r2 : Rt) (h1 : (r1.ok && r2.ok) = false) (w : World) (b cap : Nat) (T : TypeId) (h : Blk w b (rats2 r1 r2) T) :
    Calls Tryz.prog 60 #[.slice (some ⟨b, 0, none⟩) 2 cap] w fun e w' => e = givesUp 2 ∧ Ext w w' := by
  have hr : ∀ i, i < 2 → RatAt w b (0 + i * 10) (if i = 0 then r1 else r2) := fun i hi => by
    obtain rfl | rfl : i = 0 ∨ i = 1 := by omega
    · exact RatAt.of2a h
    · exact RatAt.of2b h
  cases e : r1.ok with
  | false => exact all_no 2 (fun i => if i = 0 then r1 else r2) w b 0 cap (by omega) h.lt hr 0 (by omega) (fun i hi => absurd hi (by omega)) e
  | true =>
    rw [e, Bool.true_and] at h1
    refine all_no 2 (fun i => if i = 0 then r1 else r2) w b 0 cap (by omega) h.lt hr 1 (by omega) (fun i hi => ?_) h1
    obtain rfl : i = 0 := by omega
    exact e

set_option maxHeartbeats 4000000 in
theorem Add_walk (r1 r2 : Rt) (h1 : r1.ok = true) (h2 : r2.ok = true) (rs : Bool) (rm rk : Nat) (w : World) (hT : Tab w)
    (cm : ∀ w, Tab w → Calls Tryz.prog 50 #[sgnV (splus (!(r1.s == r2.t)) (r1.m * r2.k) (!(r2.s == r1.t)) (r2.m * r1.k)).1 (splus (!(r1.s == r2.t)) (r1.m * r2.k) (!(r2.s == r1.t)) (r2.m * r1.k)).2, wideV (r1.k * r2.k)] w fun e w' => e = .returned (ratV rs rm false rk) ∧ Ext w w') :
    Calls Tryz.prog 21 #[r1.v, r2.v] w fun e w' => e = .returned (.tuple #[ratV rs rm false rk, .int .i64 0]) ∧ Ext w w' := by
  have hmf : ∀ (fn : Fn) (first cap : Array Value) (w : World), (Instr.makeFunc fn first cap).run Tryz.prog w = .ok (.func fn first cap) w := fun _ _ _ _ => rfl
  have ca := all2_yes r1 r2 h1 h2
  have t1 := times_any r1.s r1.m r2.t r2.k r1.hm r2.hk
  have t2 := times_any r2.s r2.m r1.t r1.k r2.hm r1.hk
  have m9 : ∀ {a b : Nat}, a < B4 → b < B4 → a * b < B9 := fun ha hb => Nat.lt_trans (Nat.mul_lt_mul'' ha hb) (by decide)
  have cp := plus_any (!(r1.s == r2.t)) (!(r2.s == r1.t)) _ _ (m9 r1.hm r2.hk) (m9 r2.hm r1.hk)
  have cd := product_any r1.t r2.t r1.k r2.k r1.hk r2.hk
  generalize (splus (!(r1.s == r2.t)) (r1.m * r2.k) (!(r2.s == r1.t)) (r2.m * r1.k)) = S at *
  generalize r1.m * r2.k = p1 at *
  generalize r2.m * r1.k = p2 at *
  generalize r1.k * r2.k = p3 at *
  clear m9
  obtain ⟨s1, m1, u1, k1, _, _⟩ := r1
  obtain ⟨s2, m2, u2, k2, _, _⟩ := r2
  go_enter_defers Tryz.func21, Tryz.ntmps21
  go_wp2_with (go_at_call 60; refine (ca _ _ _ 27 ?_).mono ?_; (· exact (by repeat (first | (with_reducible assumption) | ((with_reducible refine Blk.new _ _ _ ?_); (simp; done)) | (with_reducible apply Blk.alloc) | (with_reducible apply Blk.grow) | (with_reducible apply Blk.drew) | (with_reducible apply Blk.set10) | (with_reducible apply Blk.set5) | (with_reducible apply Blk.set4) | (with_reducible apply Blk.tail4) | (with_reducible apply Blk.set2) | (with_reducible apply Blk.set1) | ((with_reducible apply Blk.setOther); (case hne => omega))))); rintro e w' ⟨rfl, d, rfl⟩)
  refine wp_rebase fun v hv => ?_
  have hx : Ext w v := by rw [hv]; exact (by repeat (first | (with_reducible exact Ext.refl _) | (with_reducible assumption) | (with_reducible apply Ext.grow) | (with_reducible apply Ext.alloc) | (with_reducible apply Ext.drew) | ((with_reducible apply Ext.set); (case hb => (first | omega | (simp; omega))))))
  have hTv := hT.ext hx
  have BA : Blk v w.heap.size (ratsV s1 m1 u1 k1) 27 := by rw [hv]; exact (by repeat (first | (with_reducible assumption) | ((with_reducible refine Blk.new _ _ _ ?_); (simp; done)) | (with_reducible apply Blk.alloc) | (with_reducible apply Blk.grow) | (with_reducible apply Blk.drew) | (with_reducible apply Blk.set10) | (with_reducible apply Blk.set5) | (with_reducible apply Blk.set4) | (with_reducible apply Blk.tail4) | (with_reducible apply Blk.set2) | (with_reducible apply Blk.set1) | ((with_reducible apply Blk.setOther); (case hne => omega))))
  have BB : Blk v (w.heap.size + 1) (ratsV s2 m2 u2 k2) 27 := by rw [hv]; exact (by repeat (first | (with_reducible assumption) | ((with_reducible refine Blk.new _ _ _ ?_); (simp; done)) | (with_reducible apply Blk.alloc) | (with_reducible apply Blk.grow) | (with_reducible apply Blk.drew) | (with_reducible apply Blk.set10) | (with_reducible apply Blk.set5) | (with_reducible apply Blk.set4) | (with_reducible apply Blk.tail4) | (with_reducible apply Blk.set2) | (with_reducible apply Blk.set1) | ((with_reducible apply Blk.setOther); (case hne => omega))))
  have BO : Blk v (w.heap.size + 1 + 1) #[.bool false, .int .u64 0, .int .u64 0, .int .u64 0, .int .u64 0, .bool false, .int .u64 0, .int .u64 0, .int .u64 0, .int .u64 0] 27 := by rw [hv]; exact (by repeat (first | (with_reducible assumption) | ((with_reducible refine Blk.new _ _ _ ?_); (simp; done)) | (with_reducible apply Blk.alloc) | (with_reducible apply Blk.grow) | (with_reducible apply Blk.drew) | (with_reducible apply Blk.set10) | (with_reducible apply Blk.set5) | (with_reducible apply Blk.set4) | (with_reducible apply Blk.tail4) | (with_reducible apply Blk.set2) | (with_reducible apply Blk.set1) | ((with_reducible apply Blk.setOther); (case hne => omega))))
  have BE : Blk v (w.heap.size + 1 + 1 + 1) #[.int .i64 0] 37 := by rw [hv]; exact (by repeat (first | (with_reducible assumption) | ((with_reducible refine Blk.new _ _ _ ?_); (simp; done)) | (with_reducible apply Blk.alloc) | (with_reducible apply Blk.grow) | (with_reducible apply Blk.drew) | (with_reducible apply Blk.set10) | (with_reducible apply Blk.set5) | (with_reducible apply Blk.set4) | (with_reducible apply Blk.tail4) | (with_reducible apply Blk.set2) | (with_reducible apply Blk.set1) | ((with_reducible apply Blk.setOther); (case hne => omega))))
  clear hv
  have lBA := BA.lt; have cBA := BA.cell; have fBA := BA.frozen; have lBB := BB.lt; have cBB := BB.cell; have fBB := BB.frozen; have lBO := BO.lt; have cBO := BO.cell; have fBO := BO.frozen; have lBE := BE.lt; have cBE := BE.cell; have fBE := BE.frozen
  --s1
  (first | refine wp_region_k' [.p, .r, .p, .r, .r, .p, .r, .p, .r, .r, .r, .p, .r, .p, .r, .r, .r, .w, .w] (by kernel_rfl) (by kernel_rfl) ?_ | refine wp_region_k [.p, .r, .p, .r, .r, .p, .r, .p, .r, .r, .r, .p, .r, .p, .r, .r, .r, .w, .w] (by kernel_rfl) (by kernel_rfl) ?_); (repeat (first | (refine wpK_p rfl (fun K hK => ?_); go_simp; refine hK _ _ ?_; clear hK K) | (refine wpK_r rfl (fun K hK => ?_); go_simp; refine hK _ _ ?_; clear hK K) | (refine wpK_w rfl (fun K hK => ?_); go_simp; refine hK _ _ ?_; clear hK K) | (refine wpK_r rfl (fun K hK => ?_); go_simp; apply Exists.intro; refine ⟨fun d => ?_, hK _ _ ?_⟩; (first | (with_reducible exact Calls.calm (t1 _)) | (with_reducible exact Calls.calm (t2 _)) | (with_reducible exact Calls.calm (cp _)) | (with_reducible exact Calls.calm (cd _)) | (with_reducible exact Calls.calm (cm _ (hTv.grow _)))); clear hK K))); refine wpK_nil ?_; intro d
  go_wp2
  refine lv_rebase fun u hu => ?_
  have hy : Ext w u := by rw [hu]; exact (by repeat (first | (with_reducible exact Ext.refl _) | (with_reducible assumption) | (with_reducible apply Ext.grow) | (with_reducible apply Ext.alloc) | (with_reducible apply Ext.drew) | ((with_reducible apply Ext.set); (case hb => (first | omega | (simp; omega))))))
  have BF : Blk u (w.heap.size + 1 + 1) (ratsV rs rm false rk) 27 := by rw [hu]; exact (by repeat (first | (with_reducible assumption) | ((with_reducible refine Blk.new _ _ _ ?_); (simp; done)) | (with_reducible apply Blk.alloc) | (with_reducible apply Blk.grow) | (with_reducible apply Blk.drew) | (with_reducible apply Blk.set10) | (with_reducible apply Blk.set5) | (with_reducible apply Blk.set4) | (with_reducible apply Blk.tail4) | (with_reducible apply Blk.set2) | (with_reducible apply Blk.set1) | ((with_reducible apply Blk.setOther); (case hne => omega))))
  have BG : Blk u (w.heap.size + 1 + 1 + 1) #[.int .i64 0] 37 := by rw [hu]; exact (by repeat (first | (with_reducible assumption) | ((with_reducible refine Blk.new _ _ _ ?_); (simp; done)) | (with_reducible apply Blk.alloc) | (with_reducible apply Blk.grow) | (with_reducible apply Blk.drew) | (with_reducible apply Blk.set10) | (with_reducible apply Blk.set5) | (with_reducible apply Blk.set4) | (with_reducible apply Blk.tail4) | (with_reducible apply Blk.set2) | (with_reducible apply Blk.set1) | ((with_reducible apply Blk.setOther); (case hne => omega))))
  clear hu
  have lBF := BF.lt; have cBF := BF.cell; have fBF := BF.frozen; have lBG := BG.lt; have cBG := BG.cell; have fBG := BG.frozen; clear BF BG
  --s2
  exact leaves_ratio (.tuple #[ratV rs rm false rk, .int .i64 0]) (by simp [results, Tryz.results21, go_sem, cBF, cBG]) ⟨rfl, hy⟩
end Go.Proofs.YtjkchmegnfbfoaaGreatDoor

namespace Go.Proofs.YtjkchmegnfbfoaaGreatDoor
open Go Go.RowKit
set_option linter.unusedSimpArgs false
set_option linter.unusedVariables false
set_option maxRecDepth 100000

abbrev zeroR (W : World) (b : Nat) : World :=
  (((((((((W.setCell ⟨b, 0, none⟩ (.bool false)).setCell ⟨b, 1, none⟩ (.int .u64 0)).setCell ⟨b, 2, none⟩ (.int .u64 0)).setCell ⟨b, 3, none⟩ (.int .u64 0)).setCell ⟨b, 4, none⟩ (.int .u64 0)).setCell ⟨b, 5, none⟩ (.bool false)).setCell ⟨b, 6, none⟩ (.int .u64 0)).setCell ⟨b, 7, none⟩ (.int .u64 0)).setCell ⟨b, 8, none⟩ (.int .u64 0)).setCell ⟨b, 9, none⟩ (.int .u64 0)
theorem Add_clear (b : Nat) (W : World) (y0 y1 y2 y3 y4 y5 y6 y7 y8 y9 : Value) (h : Blk W b #[y0, y1, y2, y3, y4, y5, y6, y7, y8, y9] 27) :
    Calls Tryz.prog 59 #[.pointer (some ⟨b, 0, none⟩)] W fun e w' => e = .returned (.tuple #[]) ∧ w' = zeroR W b := by
  have lh := h.lt; have ch := h.cell; have fh := h.frozen; clear h
  go_enter Tryz.func59, Tryz.ntmps59
  go_wp2
  go_end0
  exact ⟨rfl, rfl⟩
set_option maxHeartbeats 4000000 in
theorem Add_over (r1 r2 : Rt) (h1 : r1.ok = true) (h2 : r2.ok = true) (w : World) (hT : Tab w)
    (cm : ∀ w, Tab w → Calls Tryz.prog 50 #[sgnV (splus (!(r1.s == r2.t)) (r1.m * r2.k) (!(r2.s == r1.t)) (r2.m * r1.k)).1 (splus (!(r1.s == r2.t)) (r1.m * r2.k) (!(r2.s == r1.t)) (r2.m * r1.k)).2, wideV (r1.k * r2.k)] w fun e w' => e = givesUp 110 ∧ Ext w w') :
    Calls Tryz.prog 21 #[r1.v, r2.v] w fun e w' => e = .returned (.tuple #[qZ, .int .i64 110]) ∧ Ext w w' := by
  have hmf : ∀ (fn : Fn) (first cap : Array Value) (w : World), (Instr.makeFunc fn first cap).run Tryz.prog w = .ok (.func fn first cap) w := fun _ _ _ _ => rfl
  have ca := all2_yes r1 r2 h1 h2
  have t1 := times_any r1.s r1.m r2.t r2.k r1.hm r2.hk
  have t2 := times_any r2.s r2.m r1.t r1.k r2.hm r1.hk
  have m9 : ∀ {a b : Nat}, a < B4 → b < B4 → a * b < B9 := fun ha hb => Nat.lt_trans (Nat.mul_lt_mul'' ha hb) (by decide)
  have cp := plus_any (!(r1.s == r2.t)) (!(r2.s == r1.t)) _ _ (m9 r1.hm r2.hk) (m9 r2.hm r1.hk)
  have cd := product_any r1.t r2.t r1.k r2.k r1.hk r2.hk
  generalize (splus (!(r1.s == r2.t)) (r1.m * r2.k) (!(r2.s == r1.t)) (r2.m * r1.k)) = S at *
  generalize r1.m * r2.k = p1 at *
  generalize r2.m * r1.k = p2 at *
  generalize r1.k * r2.k = p3 at *
  clear m9
  obtain ⟨s1, m1, u1, k1, _, _⟩ := r1
  obtain ⟨s2, m2, u2, k2, _, _⟩ := r2
  go_enter_defers Tryz.func21, Tryz.ntmps21
  go_wp2_with (go_at_call 60; refine (ca _ _ _ 27 ?_).mono ?_; (· exact (by repeat (first | (with_reducible assumption) | ((with_reducible refine Blk.new _ _ _ ?_); (simp; done)) | (with_reducible apply Blk.alloc) | (with_reducible apply Blk.grow) | (with_reducible apply Blk.drew) | (with_reducible apply Blk.set10) | (with_reducible apply Blk.set5) | (with_reducible apply Blk.set4) | (with_reducible apply Blk.tail4) | (with_reducible apply Blk.set2) | (with_reducible apply Blk.set1) | ((with_reducible apply Blk.setOther); (case hne => omega))))); rintro e w' ⟨rfl, d, rfl⟩)
  refine wp_rebase fun v hv => ?_
  have hx : Ext w v := by rw [hv]; exact (by repeat (first | (with_reducible exact Ext.refl _) | (with_reducible assumption) | (with_reducible apply Ext.grow) | (with_reducible apply Ext.alloc) | (with_reducible apply Ext.drew) | ((with_reducible apply Ext.set); (case hb => (first | omega | (simp; omega))))))
  have hTv := hT.ext hx
  have BA : Blk v w.heap.size (ratsV s1 m1 u1 k1) 27 := by rw [hv]; exact (by repeat (first | (with_reducible assumption) | ((with_reducible refine Blk.new _ _ _ ?_); (simp; done)) | (with_reducible apply Blk.alloc) | (with_reducible apply Blk.grow) | (with_reducible apply Blk.drew) | (with_reducible apply Blk.set10) | (with_reducible apply Blk.set5) | (with_reducible apply Blk.set4) | (with_reducible apply Blk.tail4) | (with_reducible apply Blk.set2) | (with_reducible apply Blk.set1) | ((with_reducible apply Blk.setOther); (case hne => omega))))
  have BB : Blk v (w.heap.size + 1) (ratsV s2 m2 u2 k2) 27 := by rw [hv]; exact (by repeat (first | (with_reducible assumption) | ((with_reducible refine Blk.new _ _ _ ?_); (simp; done)) | (with_reducible apply Blk.alloc) | (with_reducible apply Blk.grow) | (with_reducible apply Blk.drew) | (with_reducible apply Blk.set10) | (with_reducible apply Blk.set5) | (with_reducible apply Blk.set4) | (with_reducible apply Blk.tail4) | (with_reducible apply Blk.set2) | (with_reducible apply Blk.set1) | ((with_reducible apply Blk.setOther); (case hne => omega))))
  have BO : Blk v (w.heap.size + 1 + 1) #[.bool false, .int .u64 0, .int .u64 0, .int .u64 0, .int .u64 0, .bool false, .int .u64 0, .int .u64 0, .int .u64 0, .int .u64 0] 27 := by rw [hv]; exact (by repeat (first | (with_reducible assumption) | ((with_reducible refine Blk.new _ _ _ ?_); (simp; done)) | (with_reducible apply Blk.alloc) | (with_reducible apply Blk.grow) | (with_reducible apply Blk.drew) | (with_reducible apply Blk.set10) | (with_reducible apply Blk.set5) | (with_reducible apply Blk.set4) | (with_reducible apply Blk.tail4) | (with_reducible apply Blk.set2) | (with_reducible apply Blk.set1) | ((with_reducible apply Blk.setOther); (case hne => omega))))
  have BE : Blk v (w.heap.size + 1 + 1 + 1) #[.int .i64 0] 37 := by rw [hv]; exact (by repeat (first | (with_reducible assumption) | ((with_reducible refine Blk.new _ _ _ ?_); (simp; done)) | (with_reducible apply Blk.alloc) | (with_reducible apply Blk.grow) | (with_reducible apply Blk.drew) | (with_reducible apply Blk.set10) | (with_reducible apply Blk.set5) | (with_reducible apply Blk.set4) | (with_reducible apply Blk.tail4) | (with_reducible apply Blk.set2) | (with_reducible apply Blk.set1) | ((with_reducible apply Blk.setOther); (case hne => omega))))
  clear hv
  have lBA := BA.lt; have cBA := BA.cell; have fBA := BA.frozen; have lBB := BB.lt; have cBB := BB.cell; have fBB := BB.frozen; have lBO := BO.lt; have cBO := BO.cell; have fBO := BO.frozen; have lBE := BE.lt; have cBE := BE.cell; have fBE := BE.frozen
  (first | refine wp_region_ksl' [0, 1, 2, 3, 4, 5, 6, 7, 8, 9, 10, 11, 12, 13, 14, 15] 16 _ [{ v := .iface 37 (.int .i64 110), recovered := false }] [.p, .r, .p, .r, .r, .p, .r, .p, .r, .r, .r, .p, .r, .p, .r, .r, .p, .p, .p] (by kernel_rfl) (by kernel_rfl) rfl ?hQ ?hS | refine wp_region_ksl [0, 1, 2, 3, 4, 5, 6, 7, 8, 9, 10, 11, 12, 13, 14, 15] 16 _ [{ v := .iface 37 (.int .i64 110), recovered := false }] [.p, .r, .p, .r, .r, .p, .r, .p, .r, .r, .r, .p, .r, .p, .r, .r, .p, .p, .p] (by kernel_rfl) (by kernel_rfl) rfl ?hQ ?hS); (case hS => (simp only [List.map_cons, List.map_nil, List.getD_cons_succ, List.getD_cons_zero]; (repeat (first | (refine wpK_p rfl (fun K hK => ?_); go_simp; refine hK _ _ ?_; clear hK K) | (refine wpK_r rfl (fun K hK => ?_); go_simp; refine hK _ _ ?_; clear hK K) | (refine wpK_r rfl (fun K hK => ?_); go_simp; apply Exists.intro; refine ⟨fun d => ?_, hK _ _ ?_⟩; (first | (with_reducible exact Calls.calm (t1 _)) | (with_reducible exact Calls.calm (t2 _)) | (with_reducible exact Calls.calm (cp _)) | (with_reducible exact Calls.calm (cd _))); clear hK K))); refine wpK_nil ?_; refine ⟨rfl, fun d => ?_⟩; go_simp; refine ⟨_, _, ⟨rfl, rfl⟩, ?_⟩; (with_reducible exact Calls.calmP (cm _ (hTv.grow _))))); intro a d hd hkept
  have e4 := hkept 4 (by kernel_rfl)
  have e5 := hkept 5 (by kernel_rfl)
  simp at e4 e5
  show Leaves _ _ a.tmps _ a.defers _ _
  rw [hd]
  clear hkept hd
  refine leaves_ratio_pan 0 110 59 _ ((BE.grow _).cell 0) ((BE.grow _).frozen 0) (fun _ _ => by kernel_rfl) ?_
  refine (Add_clear _ _ _ _ _ _ _ _ _ _ _ _ ((BO.grow _).setOther (by omega))).mono ?_
  rintro e' u ⟨rfl, hu⟩
  simp only [zeroR] at hu
  have hy : Ext w u := by rw [hu]; exact (by repeat (first | (with_reducible exact Ext.refl _) | (with_reducible assumption) | (with_reducible apply Ext.grow) | (with_reducible apply Ext.alloc) | (with_reducible apply Ext.drew) | ((with_reducible apply Ext.set); (case hb => (first | omega | (simp; omega))))))
  have BF : Blk u (w.heap.size + 1 + 1) #[.bool false, .int .u64 0, .int .u64 0, .int .u64 0, .int .u64 0, .bool false, .int .u64 0, .int .u64 0, .int .u64 0, .int .u64 0] 27 := by rw [hu]; exact (by repeat (first | (with_reducible assumption) | ((with_reducible refine Blk.new _ _ _ ?_); (simp; done)) | (with_reducible apply Blk.alloc) | (with_reducible apply Blk.grow) | (with_reducible apply Blk.drew) | (with_reducible apply Blk.set10) | (with_reducible apply Blk.set5) | (with_reducible apply Blk.set4) | (with_reducible apply Blk.tail4) | (with_reducible apply Blk.set2) | (with_reducible apply Blk.set1) | ((with_reducible apply Blk.setOther); (case hne => omega))))
  have BG : Blk u (w.heap.size + 1 + 1 + 1) #[.int .i64 110] 37 := by rw [hu]; exact (by repeat (first | (with_reducible assumption) | ((with_reducible refine Blk.new _ _ _ ?_); (simp; done)) | (with_reducible apply Blk.alloc) | (with_reducible apply Blk.grow) | (with_reducible apply Blk.drew) | (with_reducible apply Blk.set10) | (with_reducible apply Blk.set5) | (with_reducible apply Blk.set4) | (with_reducible apply Blk.tail4) | (with_reducible apply Blk.set2) | (with_reducible apply Blk.set1) | ((with_reducible apply Blk.setOther); (case hne => omega))))
  clear hu
  have lBF := BF.lt; have cBF := BF.cell; have fBF := BF.frozen; have lBG := BG.lt; have cBG := BG.cell; have fBG := BG.frozen; clear BF BG
  exact ⟨rfl, .tuple #[qZ, .int .i64 110], by simp [results, Tryz.results21, go_sem, e4, e5, cBF, cBG], rfl, hy⟩
end Go.Proofs.YtjkchmegnfbfoaaGreatDoor
