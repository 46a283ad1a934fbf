/- The references' numbers: may an Int be; the number of an Int. Products digit by digit: plain arithmetic. The references' numbers: products. The references' numbers: products, the walk. Quotients digit by digit, and each digit bit by bit: plain arithmetic. The references' numbers: quotients digit by digit. The references' fractions: sums, products, quotients. -/
import Derived.Test.YtjkchmegnfbfoaaGreatDoorProg
import Derived.Test.YtjkchmegnfbfoaaGreatDoorQ07
import Derived.Test.YtjkchmegnfbfoaaGreatDoorQ04
import Derived.Test.YtjkchmegnfbfoaaGreatDoorQ06
import Derived.Deep.DeepCutAuto
import Derived.Laws.AppendOwnNone
import Derived.Test.YtjkchmegnfbfoaaGreatDoorQ08
namespace Go.Proofs.YtjkchmegnfbfoaaGreatDoor
open Go Go.RowKit
set_option linter.unusedSimpArgs false
set_option linter.unusedVariables false
set_option maxRecDepth 100000
set_option exponentiation.threshold 3000

set_option maxHeartbeats 4000000 in
theorem bRight (s : Bool) (m : Nat) (hm : m < B4) (w : World) :
    Calls Tryz.prog 15 #[intV s m] w fun e w' => e = .returned (.bool (!(badI s m))) ∧ Ext w w' := by
  have h0 := B4_pos
  cases s with
  | false =>
    rw [show (!(badI false m)) = true from rfl]
    go_enter Tryz.func15, Tryz.ntmps15
    go_wp2
    exact bodyPost_ret (v := .bool true) (by simp [results, Tryz.results15, go_sem]) rfl ⟨rfl, (by repeat (first | (with_reducible exact Ext.refl _) | (with_reducible assumption) | (with_reducible apply Ext.grow) | (with_reducible apply Ext.alloc) | (with_reducible apply Ext.drew) | ((with_reducible apply Ext.set); (case hb => (first | omega | (simp; omega))))))⟩
  | true =>
    rw [show badI true m = decide (m = 0) by simp [badI]]
    have he := fun w => run_eq_mag23z m hm w
    generalize decide (m = 0) = z at *
    go_enter Tryz.func15, Tryz.ntmps15
    go_wp2
    exact bodyPost_ret (v := .bool (!z)) (by simp [results, Tryz.results15, go_sem]) rfl ⟨rfl, (by repeat (first | (with_reducible exact Ext.refl _) | (with_reducible assumption) | (with_reducible apply Ext.grow) | (with_reducible apply Ext.alloc) | (with_reducible apply Ext.drew) | ((with_reducible apply Ext.set); (case hb => (first | omega | (simp; omega))))))⟩
theorem digit_of (m i k : Nat) (hk : k < 4) : wn m i / 65536 ^ k % 65536 = wnD m (4 * i + k) := by
  unfold wn wnD
  have e : D ^ (4 * i + k) = B ^ i * 65536 ^ k := by rw [← D4, ← Nat.pow_mul, Nat.pow_add, D_eq]
  have e2 : B = 65536 ^ k * 65536 ^ (4 - k) := by rw [← D4, D_eq, ← Nat.pow_add]; congr 1; omega
  rw [e, ← Nat.div_div_eq_div_mul]
  generalize m / B ^ i = x
  rw [D_eq]
  conv => lhs; rw [e2]
  rw [Nat.mod_mul_right_div_self]
  have h3 : (65536 : Nat) ^ (4 - k) = 65536 * 65536 ^ (3 - k) := by rw [Nat.mul_comm, ← Nat.pow_succ]; congr 1; omega
  rw [h3, Nat.mod_mul_right_mod]
set_option maxHeartbeats 4000000 in
theorem bFrom (s : Bool) (m : Nat) (hm : m < B4) (w : World) :
    Calls Tryz.prog 20 #[intV s m] w (RetB (fun W r => BigV W r (sv s m)) w) := by
  obtain ⟨i0, hi, hz0, hz1, hz2⟩ := info_parts info_i64
  have HM : Hid (m < 65536 ^ 16) := Lib.hid (by rw [← B4_D]; exact hm)
  clear hm
  go_enter Tryz.func20, Tryz.ntmps20
  go_wp2
  go_loopw [3, 4, 5] (fun out iv kv wr => ∃ i : Nat, i ≤ 4 ∧ iv = .int .i64 (i : Int) ∧ wr.ownsRow (w.heap.size + 1 + 1) 2 1 out (4 * i) ((dlist m (4 * i)).map i64) ∧ Below w.heap.size w wr ∧ Blk wr w.heap.size (ints1 s m) 25 ∧ Blk wr (w.heap.size + 1) #[.bool false, .slice none 0 0] 33) (fun _ iv _ _ => 4 - (intOf iv).toNat)
  case atStart => exact ⟨0, by omega, rfl, World.ownsRow_nil _ _ _ _, Below.alloc (Below.alloc (Below.refl _ w) (Nat.le_refl _) _) (by simp) _, (Blk.new _ _ _ rfl).alloc _, Blk.new _ _ _ (by simp)⟩
  case round =>
    obtain ⟨i, hi4, rfl, hown, hnx, BA, BO⟩ := hrel
    by_cases hlt : i < 4
    · have hi4' : (i : Int) < 4 := by omega
      go_wp2
      go_loopw [3, 5] (fun out kv wr => ∃ k : Nat, k ≤ 4 ∧ kv = .int .i64 (k : Int) ∧ wr.ownsRow (w.heap.size + 1 + 1) 2 1 out (4 * i + k) ((dlist m (4 * i + k)).map i64) ∧ Below w.heap.size w wr ∧ Blk wr w.heap.size (ints1 s m) 25 ∧ Blk wr (w.heap.size + 1) #[.bool false, .slice none 0 0] 33) (fun _ kv _ => 4 - (intOf kv).toNat)
      case atStart => exact ⟨0, by omega, rfl, hown, hnx, BA, BO⟩
      case round =>
        clear hown hnx BA BO
        obtain ⟨k, hk4, rfl, hown, hnx, BA, BO⟩ := hrel
        by_cases hk : k < 4
        · have hcell : wr.cell? ⟨w.heap.size, 1 + i, none⟩ = some (q64 (wn m i)) := by
            rw [BA.cell]
            rcases (by omega : i = 0 ∨ i = 1 ∨ i = 2 ∨ i = 3) with rfl | rfl | rfl | rfl <;> rfl
          have lBA := BA.lt
          have hv : wrap64 ((((wn m i : Nat) : Int) / 2 ^ (16 * k)).tmod 65536) = ((wnD m (4 * i + k) : Nat) : Int) := by
            have hd := wn_ltD m (4 * i + k)
            rw [D_eq] at hd
            have e1 : (((wn m i : Nat) : Int) / 2 ^ (16 * k)) = ((wn m i / 65536 ^ k : Nat) : Int) := by
              rw [show (2 : Int) ^ (16 * k) = ((65536 ^ k : Nat) : Int) by rw [Int.pow_mul, Int.natCast_pow]; rfl, Int.natCast_ediv]
            have hq := digit_of m i k hk
            rw [e1]
            generalize wn m i / 65536 ^ k = q at *
            rw [Int.tmod_eq_emod_of_nonneg (Int.natCast_nonneg _)]
            unfold wrap64; omega
          have HDS := Lib.hid (dlist_succ m (4 * i + k))
          have hlb := hown.lt
          have hbs : w.heap.size + 1 + 1 ≤ wr.heap.size := by have := BO.lt; omega
          --s2
          go_wp2_with (at_builtin; refine wpList_append_own _ rfl (.tmp 14) (.tmp 25) 31 rfl (w.heap.size + 1 + 1) 2 i0 (.int .i64 0) 1 8 Tryz.underlying31 hi hz0 hz1 hz2 rfl (by decide) _ _ _ rfl (hown.alloc _) ⟨wr.heap.size, 0, none⟩ 1 1 [i64 (wnD m (4 * i + k))] rfl rfl ?c1 ?c2 ?c3 ?c4 ?c5 ?_)
          case c1 =>
            intro t u h
            rcases t with _ | t
            · cases h; simp [go_sem]
            · cases h
          case c2 => intro u h; simp at h; subst h; rfl
          case c3 => unfold maxLen; omega
          case c4 => omega
          case c5 => simp; omega
          intro v' w1 hown1 hgrow1 _
          --s3
          go_wp2
          go_roundw
          case rel =>
            --s6
            refine ⟨k + 1, by omega, by go_num, ?_, (hnx.alloc hnx.size _).grown hgrow1 (by simp; have := hnx.size; omega) (fun b hb => by have := hlb b hb; omega), (BA.alloc _).grown hgrow1 (fun hb => by have := hlb _ hb.symm; omega), (BO.alloc _).grown hgrow1 (fun hb => by have := hlb _ hb.symm; omega)⟩
            rw [← Nat.add_assoc, HDS.out, List.map_append]; exact hown1
          case measure => simp [intOf]; omega
        · obtain rfl : k = 4 := by omega
          --s4
          go_wp2
          go_roundw
          case rel => exact ⟨i + 1, by omega, by go_num, hown, hnx, BA, BO⟩
          case measure => simp [intOf]; omega
    · obtain rfl : i = 4 := by omega
      have hfin := fun W (hx : Ext wr W) => of_ret s u3 (dlist m 16) (by rw [dlist_len]; omega) (dlist_digs _ _) W ((SlC.owned hown (by rw [dlist_len])).ext hx)
      rw [dlist_dval, Nat.mod_eq_of_lt HM.out] at hfin
      have hx : Ext w wr := Ext.of_below hnx
      have lBA := BA.lt; have cBA := BA.cell; have fBA := BA.frozen; have lBO := BO.lt; have cBO := BO.cell; have fBO := BO.frozen
      clear hown
      go_wp2_with (go_at_call 58; refine (hfin _ (Ext.refl _)).mono ?_; rintro e y1 ⟨r1, rfl, hr1, hx1⟩; obtain ⟨tr, ar, nr, cr, rfl, er, ks⟩ := hr1.opened; have hxn : Ext w y1 := hx.trans hx1; have BOn := BO.ext hx1; have lBOn := BOn.lt; have cBOn := BOn.cell; have fBOn := BOn.frozen)
      --s5
      refine bp_rebase fun u hu => ?_; have hy : Ext w u := (by rw [hu]; exact (by repeat (first | (with_reducible exact Ext.refl _) | (with_reducible assumption) | (with_reducible apply Ext.grow) | (with_reducible apply Ext.alloc) | (with_reducible apply Ext.drew) | ((with_reducible apply Ext.set); (case hb => (first | omega | (simp; omega))))))); have hsl := (ks.set (k := (w.heap.size + 1)) (j := 0) (x := .bool tr) BOn (by decide)).set (k := (w.heap.size + 1)) (j := 1) (x := .slice ar nr cr) BOn.setSame (by decide); rw [← hu] at hsl; have BF : Blk u (w.heap.size + 1) #[.bool tr, .slice ar nr cr] 33 := (by rw [hu]; exact (by repeat (first | (with_reducible assumption) | ((with_reducible refine Blk.new _ _ _ ?_); (simp; done)) | (with_reducible apply Blk.alloc) | (with_reducible apply Blk.grow) | (with_reducible apply Blk.drew) | (with_reducible apply Blk.set10) | (with_reducible apply Blk.set5) | (with_reducible apply Blk.set4) | (with_reducible apply Blk.tail4) | (with_reducible apply Blk.set2) | (with_reducible apply Blk.set1) | ((with_reducible apply Blk.setOther); (case hne => omega))))); clear hu; have lBF := BF.lt; have cBF := BF.cell; have fBF := BF.frozen; clear BF; exact bodyPost_ret (v := .agg #[.bool tr, .slice ar nr cr]) (by simp [results, Tryz.results20, go_sem, cBF]) rfl ⟨_, rfl, BigV.shut er hsl, hy⟩
end Go.Proofs.YtjkchmegnfbfoaaGreatDoor

namespace Go.Proofs.YtjkchmegnfbfoaaGreatDoor
set_option linter.unusedSimpArgs false
set_option linter.unusedVariables false

theorem wn_highD (m i : Nat) (h : m < D ^ i) : wnD m i = 0 := by unfold wnD; rw [Nat.div_eq_of_lt h]; rfl
/-- What has been added when i words of m are done; within word i, when k words of n are. -/
def xkD (m n i : Nat) : Nat := (m % D ^ i) * n
def tkD (m n i k : Nat) : Nat := xkD m n i + wnD m i * D ^ i * (n % D ^ k)
/-- The carry on the way. -/
def ckD (m n i k : Nat) : Nat := tkD m n i k / D ^ (i + k) - xkD m n i / D ^ (i + k)
theorem tk_zeroD (m n i : Nat) : tkD m n i 0 = xkD m n i := by simp [tkD, Nat.mod_one]
theorem ck_zeroD (m n i : Nat) : ckD m n i 0 = 0 := by simp [ckD, tk_zeroD]
theorem tk_topD (m n i k : Nat) (hn : n < D ^ k) : tkD m n i k = xkD m n (i + 1) := by
  unfold tkD xkD
  rw [Nat.mod_eq_of_lt hn, mod_succD, Nat.add_mul]; omega
theorem xk_zeroD (m n : Nat) : xkD m n 0 = 0 := by simp [xkD, Nat.mod_one]
theorem xk_topD (m n i : Nat) (hm : m < D ^ i) : xkD m n i = m * n := by unfold xkD; rw [Nat.mod_eq_of_lt hm]
theorem div_wnD (x j : Nat) : x / D ^ j = wnD x j + D * (x / D ^ (j + 1)) := by
  unfold wnD
  rw [Nat.pow_succ, ← Nat.div_div_eq_div_mul]
  exact (Nat.mod_add_div (x / D ^ j) D).symm
theorem xk_le_tkD (m n i k : Nat) : xkD m n i ≤ tkD m n i k := Nat.le_add_right _ _
theorem tk_succD (m n i k : Nat) : tkD m n i (k + 1) = tkD m n i k + wnD m i * wnD n k * D ^ (i + k) := by
  unfold tkD
  rw [mod_succD, Nat.mul_add, Nat.pow_add]
  have : wnD m i * D ^ i * (wnD n k * D ^ k) = wnD m i * wnD n k * (D ^ i * D ^ k) := by
    rw [Nat.mul_assoc, Nat.mul_assoc, Nat.mul_left_comm (D ^ i)]
  omega
/-- One word's step. -/
theorem step_divD (m n i k : Nat) : tkD m n i (k + 1) / D ^ (i + k) = (wnD m i * wnD n k + wnD (xkD m n i) (i + k) + ckD m n i k) + D * (xkD m n i / D ^ (i + k + 1)) := by
  have hp : 0 < D ^ (i + k) := Nat.pow_pos D_pos
  rw [tk_succD, Nat.add_mul_div_right _ _ hp]
  have h1 := div_wnD (xkD m n i) (i + k)
  have h2 : xkD m n i / D ^ (i + k) ≤ tkD m n i k / D ^ (i + k) := Nat.div_le_div_right (xk_le_tkD m n i k)
  have h3 : ckD m n i k = tkD m n i k / D ^ (i + k) - xkD m n i / D ^ (i + k) := rfl
  omega
theorem step_wordD (m n i k : Nat) : (wnD m i * wnD n k + wnD (xkD m n i) (i + k) + ckD m n i k) % D = wnD (tkD m n i (k + 1)) (i + k) := by
  show _ = tkD m n i (k + 1) / D ^ (i + k) % D
  rw [step_divD, Nat.add_mul_mod_self_left]
theorem step_carryD (m n i k : Nat) : (wnD m i * wnD n k + wnD (xkD m n i) (i + k) + ckD m n i k) / D = ckD m n i (k + 1) := by
  have e : ∀ x, x / D ^ (i + (k + 1)) = x / D ^ (i + k) / D := fun x => by
    rw [show i + (k + 1) = i + k + 1 from rfl, Nat.pow_succ, ← Nat.div_div_eq_div_mul]
  show _ = tkD m n i (k + 1) / D ^ (i + (k + 1)) - xkD m n i / D ^ (i + (k + 1))
  rw [e (tkD m n i (k + 1)), step_divD, Nat.add_mul_div_left _ _ D_pos]
  exact (Nat.add_sub_cancel _ _).symm
theorem tk_modD (m n i k d : Nat) : tkD m n i (k + d) % D ^ (i + k) = tkD m n i k % D ^ (i + k) := by
  induction d with
  | zero => rfl
  | succ d ih =>
    rw [show k + (d + 1) = (k + d) + 1 from rfl, tk_succD, show D ^ (i + (k + d)) = D ^ (i + k) * D ^ d by rw [← Nat.pow_add, Nat.add_assoc]]
    rw [show wnD m i * wnD n (k + d) * (D ^ (i + k) * D ^ d) = D ^ (i + k) * (wnD m i * wnD n (k + d) * D ^ d) by
      rw [Nat.mul_left_comm]]
    rw [Nat.add_mul_mod_self_left, ih]
/-- The word that is laid is the one that stays. -/
theorem step_word'D (m n i k K : Nat) (hk : k < K) (hn : n < D ^ K) : (wnD m i * wnD n k + wnD (xkD m n i) (i + k) + ckD m n i k) % D = wnD (xkD m n (i + 1)) (i + k) := by
  rw [step_wordD, ← tk_topD m n i K hn]
  obtain ⟨d, rfl⟩ : ∃ d, K = k + 1 + d := ⟨K - (k + 1), by omega⟩
  rw [← wn_of_modD (tkD m n i (k + 1)) (i + k) (i + (k + 1)) (by omega), ← wn_of_modD (tkD m n i (k + 1 + d)) (i + k) (i + (k + 1)) (by omega), tk_modD]
theorem ck_ltD (m n i k : Nat) : ckD m n i k < D := by
  induction k with
  | zero => rw [ck_zeroD]; exact D_pos
  | succ k ih =>
    rw [← step_carryD]
    have h1 := wn_ltD m i; have h2 := wn_ltD n k; have h3 := wn_ltD (xkD m n i) (i + k)
    have h4 : wnD m i * wnD n k ≤ (D - 1) * (D - 1) := Nat.mul_le_mul (by omega) (by omega)
    have h5 : (D - 1) * (D - 1) + (D - 1) + (D - 1) < D * D := by decide
    rw [Nat.div_lt_iff_lt_mul D_pos]
    omega
theorem xk_ltD (m n i K : Nat) (hn : n < D ^ K) : xkD m n i < D ^ (i + K) := by
  unfold xkD
  have hp : 0 < D ^ i := Nat.pow_pos D_pos
  have h1 := Nat.mod_lt m hp
  rw [Nat.pow_add]
  rcases Nat.eq_zero_or_pos n with h | h
  · subst h; simp; exact Nat.mul_pos hp (Nat.pow_pos D_pos)
  · calc m % D ^ i * n < D ^ i * n := Nat.mul_lt_mul_of_pos_right h1 h
      _ ≤ D ^ i * D ^ K := Nat.mul_le_mul_left _ (Nat.le_of_lt hn)
/-- The last carry is the word above. -/
theorem last_carryD (m n i K : Nat) (hn : n < D ^ K) : wnD (xkD m n i) (i + K) + ckD m n i K = wnD (xkD m n (i + 1)) (i + K) := by
  have h1 := xk_ltD m n i K hn
  have h2 := xk_ltD m n (i + 1) K hn
  have h3 : ckD m n i K = tkD m n i K / D ^ (i + K) - xkD m n i / D ^ (i + K) := rfl
  have h5 : xkD m n (i + 1) / D ^ (i + K) < D := by
    rw [Nat.div_lt_iff_lt_mul (Nat.pow_pos D_pos), Nat.mul_comm, ← Nat.pow_succ]
    have e : (i + K).succ = i + 1 + K := by omega
    rw [e]; exact h2
  rw [wn_highD _ _ h1, h3, tk_topD m n i K hn, Nat.div_eq_of_lt h1]
  unfold wnD
  rw [Nat.mod_eq_of_lt h5, Nat.zero_add, Nat.sub_zero]
/-- Words beyond and below stay. -/
theorem xk_lowD (m n i j : Nat) (hj : j < i) : wnD (xkD m n (i + 1)) j = wnD (xkD m n i) j := by
  rw [← wn_of_modD (xkD m n (i + 1)) j i hj, ← wn_of_modD (xkD m n i) j i hj]
  congr 1
  unfold xkD
  rw [mod_succD, Nat.add_mul, Nat.add_comm, Nat.mul_right_comm, Nat.mul_comm _ (D ^ i), Nat.add_mul_mod_self_left]
theorem xk_highD (m n i j K : Nat) (hn : n < D ^ K) (hj : i + K ≤ j) : wnD (xkD m n i) j = 0 :=
  wn_highD _ _ (Nat.lt_of_lt_of_le (xk_ltD m n i K hn) (Nat.pow_le_pow_right D_pos hj))
/-- The three sums of a step. -/
theorem step_sumsD (x y o c : Nat) (ho : o < D) (hc : c < D) (hx : x < D) (hy : y < D) :
    ((x * y % D + o) % D + c) % D = (x * y + o + c) % D ∧ x * y / D + (x * y % D + o) / D + ((x * y % D + o) % D + c) / D = (x * y + o + c) / D := by
  have h1 := Nat.div_add_mod (x * y) D
  have h2 := Nat.div_add_mod (x * y % D + o) D
  have h3 := Nat.div_add_mod ((x * y % D + o) % D + c) D
  have h4 := Nat.mod_lt ((x * y % D + o) % D + c) D_pos
  generalize x * y % D = p at *
  generalize x * y / D = q at *
  generalize (p + o) % D = r at *
  generalize (p + o) / D = s at *
  generalize (r + c) % D = t at *
  generalize (r + c) / D = u at *
  have e : x * y + o + c = t + D * (q + s + u) := by rw [Nat.mul_add, Nat.mul_add]; omega
  rw [e, Nat.add_mul_mod_self_left, Nat.add_mul_div_left _ _ D_pos, Nat.mod_eq_of_lt h4, Nat.div_eq_of_lt h4]
  omega
end Go.Proofs.YtjkchmegnfbfoaaGreatDoor

namespace Go.Proofs.YtjkchmegnfbfoaaGreatDoor
open Go Go.RowKit
set_option linter.unusedSimpArgs false
set_option linter.unusedVariables false
set_option maxRecDepth 100000
set_option exponentiation.threshold 3000

/-- A block of digits, known whole. -/
def OutAt (W : World) (g N : Nat) (f : Nat → Nat) : Prop := ∃ A, Blk W g A 2 ∧ A.size = N ∧ ∀ j, j < N → A[j]? = some (i64 (f j))
theorem OutAt.cell {W : World} {g N : Nat} {f : Nat → Nat} (h : OutAt W g N f) (j : Nat) (hj : j < N) : W.cell? ⟨g, j, none⟩ = some (i64 (f j)) := by
  obtain ⟨A, h1, h2, h3⟩ := h; rw [h1.cell, h3 j hj]
theorem OutAt.frozen {W : World} {g N : Nat} {f : Nat → Nat} (h : OutAt W g N f) (j : Nat) : W.frozen? ⟨g, j, none⟩ = false := by
  obtain ⟨A, h1, _⟩ := h; exact h1.frozen j
theorem OutAt.lt {W : World} {g N : Nat} {f : Nat → Nat} (h : OutAt W g N f) : g < W.heap.size := by
  obtain ⟨A, h1, _⟩ := h; exact h1.lt
theorem OutAt.ext {W W' : World} {g N : Nat} {f : Nat → Nat} (h : OutAt W g N f) (hx : Ext W W') : OutAt W' g N f := by
  obtain ⟨A, h1, h2, h3⟩ := h; exact ⟨A, h1.ext hx, h2, h3⟩
theorem OutAt.set {W : World} {g N : Nat} {f h : Nat → Nat} (ho : OutAt W g N f) (i x : Nat) (hx : i < N → h i = x) (hh : ∀ j, j < N → j ≠ i → h j = f j) : OutAt (W.setCell ⟨g, i, none⟩ (i64 x)) g N h := by
  obtain ⟨A, h1, h2, h3⟩ := ho
  refine ⟨A.setIfInBounds i (i64 x), h1.setSame, by simp [h2], fun j hj => ?_⟩
  by_cases e : j = i
  · subst e; rw [Array.getElem?_setIfInBounds_self_of_lt (by omega), hx hj]
  · rw [Array.getElem?_setIfInBounds_ne (by omega), h3 j hj, hh j hj e]
theorem OutAt.congr {W : World} {g N : Nat} {f h : Nat → Nat} (ho : OutAt W g N f) (hh : ∀ j, j < N → h j = f j) : OutAt W g N h := by
  obtain ⟨A, h1, h2, h3⟩ := ho
  exact ⟨A, h1, h2, fun j hj => by rw [h3 j hj, hh j hj]⟩
theorem OutAt.slc {W : World} {g N : Nat} {f : Nat → Nat} (h : OutAt W g N f) (ds : List Nat) (hl : ds.length = N) (hd : ∀ j, j < N → ds.getD j 0 = f j) : SlC W (.slice (some ⟨g, 0, none⟩) N N) ds := by
  obtain ⟨A, h1, h2, h3⟩ := h
  subst hl
  refine ⟨.inr ⟨g, 0, _, rfl, ⟨A, _, h1⟩, fun i hi => ?_⟩, fun a n c h => by cases h; exact Nat.le_refl _⟩
  rw [Nat.zero_add, h1.cell, h3 i hi, hd i hi]
/-- What a make leaves. -/
theorem out_made {W' : World} {base g n : Nat} (h : W'.ownsRow base 2 1 (.slice (some ⟨g, 0, none⟩) n n) n (madeCells #[Value.int .i64 0] n).toList) : OutAt W' g n (fun _ => 0) := by
  obtain ⟨h1, h2 | ⟨g', cap', cur, e, hb, hg, hn, hm, hs, ht⟩⟩ := h
  · obtain ⟨e, _⟩ := h2; cases e
  · cases e
    refine ⟨cur, hg, by omega, fun j hj => ?_⟩
    have h3 : cur.toList = (madeCells #[Value.int .i64 0] n).toList := by
      rw [← ht, List.take_of_length_le (by simp; omega)]
    have h4 : cur = madeCells #[Value.int .i64 0] n := by
      have := congrArg List.toArray h3; simpa using this
    rw [h4]
    simp [madeCells, hj, Nat.mod_one]
/-- The digits of a number that lies there. -/
theorem digits_at {w : World} {a : Option Addr} {n c m : Nat} (hs : SlC w (.slice a n c) (dg m)) (hn : n = (dg m).length) : ∀ W, Ext w W → ∀ k, k < n → ∃ b o, a = some ⟨b, o, none⟩ ∧ b < w.heap.size ∧ W.cell? ⟨b, o + k, none⟩ = some (i64 (wnD m k)) := by
  intro W hxW k hk
  rcases hs.1 with ⟨a, cap, he, e⟩ | ⟨b, o, cap, he, hc⟩
  · rw [hn, e] at hk; exact absurd hk (by simp)
  · cases he
    refine ⟨b, o, rfl, hc.lt, ?_⟩
    have := (hc.ext hxW).at' k (by omega)
    rwa [dg_digit] at this
theorem prod_small (x y o c : Nat) (hx : x < 65536) (hy : y < 65536) : x * y ≤ 4294836225 := Nat.mul_le_mul (show x ≤ 65535 by omega) (show y ≤ 65535 by omega)
end Go.Proofs.YtjkchmegnfbfoaaGreatDoor

namespace Go.Proofs.YtjkchmegnfbfoaaGreatDoor
open Go Go.RowKit
set_option linter.unusedSimpArgs false
set_option linter.unusedVariables false
set_option maxRecDepth 100000
set_option exponentiation.threshold 3000

set_option maxHeartbeats 8000000 in
theorem bMul (x y : Int) (v1 v2 : Value) (hx : (dg x.natAbs).length ≤ 100000) (hy : (dg y.natAbs).length ≤ 100000) (w : World) (h1 : BigV w v1 x) (h2 : BigV w v2 y) :
    Calls Tryz.prog 67 #[v1, v2] w (RetB (fun W r => BigV W r (x * y)) w) := by
  obtain ⟨s1, a1, n1, c1, rfl, e1, k1⟩ := h1.opened
  obtain ⟨s2, a2, n2, c2, rfl, e2, k2⟩ := h2.opened
  obtain ⟨hs1, hn1⟩ := e1.out
  obtain ⟨hs2, hn2⟩ := e2.out
  have HZ : Hid (sv (s1 != s2) (x.natAbs * y.natAbs) = x * y) := Lib.hid (by
    rw [show (s1 != s2) = !(s1 == s2) by cases s1 <;> cases s2 <;> rfl, hs1, hs2, sv_times, sv_of, sv_of])
  have K1 := Lib.hid (digits_at k1 hn1)
  have K2 := Lib.hid (digits_at k2 hn2)
  rw [← hn1] at hx
  rw [← hn2] at hy
  have HM : Hid (x.natAbs < D ^ n1) := Lib.hid (by rw [D_eq]; exact (dg_len_le _ _).1 (by omega))
  have HN : Hid (y.natAbs < D ^ n2) := Lib.hid (by rw [D_eq]; exact (dg_len_le _ _).1 (by omega))
  generalize x * y = z at *
  generalize x.natAbs = m at *
  generalize y.natAbs = n at *
  clear h1 h2 e1 e2 hs1 hs2 hn1 hn2 k1 k2 x y
  obtain ⟨i0, hi, hz0, hz1, hz2⟩ := info_parts info_i64
  go_enter Tryz.func67, Tryz.ntmps67
  go_wp2_with (at_make; refine wpList_make_full _ rfl _ _ 31 rfl (w.heap.size + 1 + 1 + 1) 2 i0 (.int .i64 0) 1 Tryz.underlying31 hi hz0 hz1 _ _ _ _ (n1 + n2 + 1) rfl rfl ?b0 ?b1 ?b2 ?b3 (by simp) ?_)
  case b0 => simp
  case b1 => simp
  case b2 => rw [hz2]; omega
  case b3 => unfold maxLen; omega
  intro w0 hown0 hgrow0
  have O0 := out_made hown0
  have hx0 : Ext w w0 := Ext.of_below ((Below.refl _ w).alloc (Nat.le_refl _) _ |>.alloc (by simp) _ |>.alloc (by simp; omega) _ |>.grown hgrow0 (by simp; omega) (fun k h => by cases h))
  have BA : Blk w0 w.heap.size (bigC s1 a1 n1 c1) 33 := Blk.grown (by repeat (first | (with_reducible assumption) | ((with_reducible refine Blk.new _ _ _ ?_); (simp; done)) | (with_reducible apply Blk.alloc) | (with_reducible apply Blk.grow) | (with_reducible apply Blk.drew) | (with_reducible apply Blk.set10) | (with_reducible apply Blk.set5) | (with_reducible apply Blk.set4) | (with_reducible apply Blk.tail4) | (with_reducible apply Blk.set2) | (with_reducible apply Blk.set1) | ((with_reducible apply Blk.setOther); (case hne => omega)))) hgrow0 (fun h => by cases h)
  have BB : Blk w0 (w.heap.size + 1) (bigC s2 a2 n2 c2) 33 := Blk.grown (by repeat (first | (with_reducible assumption) | ((with_reducible refine Blk.new _ _ _ ?_); (simp; done)) | (with_reducible apply Blk.alloc) | (with_reducible apply Blk.grow) | (with_reducible apply Blk.drew) | (with_reducible apply Blk.set10) | (with_reducible apply Blk.set5) | (with_reducible apply Blk.set4) | (with_reducible apply Blk.tail4) | (with_reducible apply Blk.set2) | (with_reducible apply Blk.set1) | ((with_reducible apply Blk.setOther); (case hne => omega)))) hgrow0 (fun h => by cases h)
  have BO : Blk w0 (w.heap.size + 1 + 1) #[.bool false, .slice none 0 0] 33 := Blk.grown (by repeat (first | (with_reducible assumption) | ((with_reducible refine Blk.new _ _ _ ?_); (simp; done)) | (with_reducible apply Blk.alloc) | (with_reducible apply Blk.grow) | (with_reducible apply Blk.drew) | (with_reducible apply Blk.set10) | (with_reducible apply Blk.set5) | (with_reducible apply Blk.set4) | (with_reducible apply Blk.tail4) | (with_reducible apply Blk.set2) | (with_reducible apply Blk.set1) | ((with_reducible apply Blk.setOther); (case hne => omega)))) hgrow0 (fun h => by cases h)
  clear hown0 hgrow0
  --s1
  go_wp2
  go_loopw [6, 7, 8, 9] (fun iv cv kv sv' wr => ∃ i : Nat, i ≤ n1 ∧ iv = .int .i64 (i : Int) ∧ Ext w wr ∧ OutAt wr (w.heap.size + 1 + 1 + 1) (n1 + n2 + 1) (wnD (xkD m n i)) ∧ Blk wr w.heap.size (bigC s1 a1 n1 c1) 33 ∧ Blk wr (w.heap.size + 1) (bigC s2 a2 n2 c2) 33 ∧ Blk wr (w.heap.size + 1 + 1) #[.bool false, .slice none 0 0] 33) (fun iv _ _ _ _ => n1 - (intOf iv).toNat)
  case atStart => exact ⟨0, by omega, rfl, hx0, O0.congr (fun j _ => by rw [xk_zeroD, wn_zeroD]), BA, BB, BO⟩
  case round =>
    clear hx0 O0 BA BB BO
    obtain ⟨i, hin, rfl, hxr, OA, BA, BB, BO⟩ := hrel
    by_cases hlt : i < n1
    · have hlt' : (i : Int) < (n1 : Int) := by omega
      have lBA := BA.lt; have cBA := BA.cell; have fBA := BA.frozen; have lBB := BB.lt; have cBB := BB.cell; have fBB := BB.frozen; have lBO := BO.lt; have cBO := BO.cell; have fBO := BO.frozen
      go_wp2
      go_loopw [7, 8, 9] (fun cv kv sv' wr => ∃ k : Nat, k ≤ n2 ∧ kv = .int .i64 (k : Int) ∧ cv = i64 (ckD m n i k) ∧ Ext w wr ∧ OutAt wr (w.heap.size + 1 + 1 + 1) (n1 + n2 + 1) (fun j => if j < i + k then wnD (xkD m n (i + 1)) j else wnD (xkD m n i) j) ∧ Blk wr w.heap.size (bigC s1 a1 n1 c1) 33 ∧ Blk wr (w.heap.size + 1) (bigC s2 a2 n2 c2) 33 ∧ Blk wr (w.heap.size + 1 + 1) #[.bool false, .slice none 0 0] 33) (fun _ kv _ _ => n2 - (intOf kv).toNat)
      case atStart => exact ⟨0, by omega, rfl, by rw [ck_zeroD]; rfl, hxr, OA.congr (fun j _ => by
        split
        · exact xk_lowD m n i j (by omega)
        · rfl), BA, BB, BO⟩
      case round =>
        clear hxr OA BA BB BO lBA cBA fBA lBB cBB fBB lBO cBO fBO
        obtain ⟨k, hkn, rfl, rfl, hxr, OA, BA, BB, BO⟩ := hrel
        have lBA := BA.lt; have cBA := BA.cell; have fBA := BA.frozen; have lBB := BB.lt; have cBB := BB.cell; have fBB := BB.frozen; have lBO := BO.lt; have cBO := BO.cell; have fBO := BO.frozen
        have lO := OA.lt
        have fO := OA.frozen
        by_cases hk : k < n2
        · have hk' : (k : Int) < (n2 : Int) := by omega
          have hcell := OA.cell (i + k) (by omega)
          rw [if_neg (by omega)] at hcell
          obtain ⟨b, o, rfl, hb, hca⟩ := K1.out wr hxr i hlt
          obtain ⟨b', o', rfl, hb', hcb⟩ := K2.out wr hxr k hk
          have hbl : b < wr.heap.size := by have := hxr.size; omega
          have hbl' : b' < wr.heap.size := by have := hxr.size; omega
          have hik : (i : Int) + (k : Int) < (n1 : Int) + (n2 : Int) + 1 := by omega
          have hXY := prod_small (wnD m i) (wnD n k) 0 0 (wn_ltD m i) (wn_ltD n k)
          have hO : wnD (xkD m n i) (i + k) < 65536 := wn_ltD _ _
          have hC : ckD m n i k < 65536 := ck_ltD m n i k
          have q1 := step_word'D m n i k n2 hk HN.out
          have q2 := step_carryD m n i k
          rw [D_eq] at q1 q2
          have hp : ((wnD m i : Nat) : Int) * ((wnD n k : Nat) : Int) = ((wnD m i * wnD n k : Nat) : Int) := (Int.natCast_mul _ _).symm
          obtain ⟨P, hP⟩ : ∃ P, P = wnD m i * wnD n k := ⟨_, rfl⟩
          rw [← hP] at hXY q1 q2 hp
          clear hP
          have w1 : IntKind.i64.wrap (P : Int) = (P : Int) := wrap_i64_in _ (by omega) (by omega)
          have w2 : IntKind.i64.wrap (((wnD (xkD m n i) (i + k) : Nat) : Int) + (P : Int)) = ((wnD (xkD m n i) (i + k) : Nat) : Int) + (P : Int) := wrap_i64_in _ (by omega) (by omega)
          have w3 : IntKind.i64.wrap (((wnD (xkD m n i) (i + k) : Nat) : Int) + (P : Int) + ((ckD m n i k : Nat) : Int)) = ((wnD (xkD m n i) (i + k) : Nat) : Int) + (P : Int) + ((ckD m n i k : Nat) : Int) := wrap_i64_in _ (by omega) (by omega)
          have m1 : (((wnD (xkD m n i) (i + k) : Nat) : Int) + (P : Int) + ((ckD m n i k : Nat) : Int)) % 65536 = ((wnD (xkD m n (i + 1)) (i + k) : Nat) : Int) := by omega
          have m2 : (((wnD (xkD m n i) (i + k) : Nat) : Int) + (P : Int) + ((ckD m n i k : Nat) : Int)) / 65536 = ((ckD m n i (k + 1) : Nat) : Int) := by omega
          have m3 : (((wnD (xkD m n i) (i + k) : Nat) : Int) + (P : Int) + ((ckD m n i k : Nat) : Int)).tmod 65536 = ((wnD (xkD m n (i + 1)) (i + k) : Nat) : Int) := by rw [Int.tmod_eq_emod_of_nonneg (by omega)]; exact m1
          have m4 : (((wnD (xkD m n i) (i + k) : Nat) : Int) + (P : Int) + ((ckD m n i k : Nat) : Int)).tdiv 65536 = ((ckD m n i (k + 1) : Nat) : Int) := by rw [Int.tdiv_eq_ediv_of_nonneg (by omega)]; exact m2
          have hC2 : ckD m n i (k + 1) < 65536 := ck_ltD m n i (k + 1)
          have hO2 : wnD (xkD m n (i + 1)) (i + k) < 65536 := wn_ltD _ _
          have w4 : IntKind.i64.wrap ((ckD m n i (k + 1) : Nat) : Int) = ((ckD m n i (k + 1) : Nat) : Int) := wrap_i64_in _ (by omega) (by omega)
          have w5 : IntKind.i64.wrap ((wnD (xkD m n (i + 1)) (i + k) : Nat) : Int) = ((wnD (xkD m n (i + 1)) (i + k) : Nat) : Int) := wrap_i64_in _ (by omega) (by omega)
          have wik : IntKind.i64.wrap ((i : Int) + (k : Int)) = (i : Int) + (k : Int) := wrap_i64_in _ (by omega) (by omega)
          have tik : ((i : Int) + (k : Int)).toNat = i + k := by omega
          have nik : 0 ≤ (i : Int) + (k : Int) := by omega
          clear q1 q2
          --s2
          go_wp2
          (first | refine wp_region_k' [.p, .p, .p, .p, .p, .r, .p, .r, .p, .p, .r, .p, .r, .p, .p, .r, .p, .p, .p, .p, .p] (by kernel_rfl) (by kernel_rfl) ?_ | refine wp_region_k [.p, .p, .p, .p, .p, .r, .p, .r, .p, .p, .r, .p, .r, .p, .p, .r, .p, .p, .p, .p, .p] (by kernel_rfl) (by kernel_rfl) ?_); (repeat (first | (refine wpK_p rfl (fun K hK => ?_); go_simp; refine hK _ _ ?_; clear hK K) | (refine wpK_r rfl (fun K hK => ?_); go_simp; refine hK _ _ ?_; clear hK K) | (refine wpK_w rfl (fun K hK => ?_); go_simp; refine hK _ _ ?_; clear hK K))); refine wpK_nil ?_; intro d
          --s3
          go_wp2
          --s4
          go_roundw
          case rel =>
            refine ⟨k + 1, by omega, by go_num, rfl, (hxr.set (by omega)).grow d, (OA.set (i + k) _ (fun _ => ?_) (fun j _ hj => ?_)).ext ⟨d, rfl⟩, (BA.setOther (by omega)).grow d, (BB.setOther (by omega)).grow d, (BO.setOther (by omega)).grow d⟩
            · rw [if_pos (by omega)]
            · by_cases h : j < i + k
              · rw [if_pos h, if_pos (by omega)]
              · rw [if_neg h, if_neg (by omega)]
          case measure => simp [intOf]; omega
        · obtain rfl : k = n2 := by omega
          have hcell := OA.cell (i + k) (by omega)
          rw [if_neg (by omega)] at hcell
          have hik : (i : Int) + (k : Int) < (n1 : Int) + (k : Int) + 1 := by omega
          have wik : IntKind.i64.wrap ((i : Int) + (k : Int)) = (i : Int) + (k : Int) := wrap_i64_in _ (by omega) (by omega)
          have tik : ((i : Int) + (k : Int)).toNat = i + k := by omega
          have nik : 0 ≤ (i : Int) + (k : Int) := by omega
          have hO2 : wnD (xkD m n (i + 1)) (i + k) < 65536 := wn_ltD _ _
          have lc : IntKind.i64.wrap (((wnD (xkD m n i) (i + k) : Nat) : Int) + ((ckD m n i k : Nat) : Int)) = ((wnD (xkD m n (i + 1)) (i + k) : Nat) : Int) := by
            have := last_carryD m n i k HN.out
            rw [wrap_i64_in _ (by omega) (by omega)]; omega
          --s5
          go_wp2
          (first | refine wp_region_k' [.p, .p, .p, .r, .r, .p, .p, .p, .p, .r, .r, .p, .p, .r, .p, .p, .p, .w] (by kernel_rfl) (by kernel_rfl) ?_ | refine wp_region_k [.p, .p, .p, .r, .r, .p, .p, .p, .p, .r, .r, .p, .p, .r, .p, .p, .p, .w] (by kernel_rfl) (by kernel_rfl) ?_); (repeat (first | (refine wpK_p rfl (fun K hK => ?_); go_simp; refine hK _ _ ?_; clear hK K) | (refine wpK_r rfl (fun K hK => ?_); go_simp; refine hK _ _ ?_; clear hK K) | (refine wpK_w rfl (fun K hK => ?_); go_simp; refine hK _ _ ?_; clear hK K))); refine wpK_nil ?_; intro d
          --s6
          go_wp2
          --s7
          go_roundw
          case rel =>
            refine ⟨i + 1, by omega, by go_num, (hxr.set (by omega)).grow d, (OA.set (i + k) _ (fun _ => rfl) (fun j _ hj => ?_)).ext ⟨d, rfl⟩, (BA.setOther (by omega)).grow d, (BB.setOther (by omega)).grow d, (BO.setOther (by omega)).grow d⟩
            by_cases h : j < i + k
            · rw [if_pos h]
            · rw [if_neg h, xk_highD m n i j k HN.out (by omega), xk_highD m n (i + 1) j k HN.out (by omega)]
          case measure => simp [intOf]; omega
    · obtain rfl : i = n1 := by omega
      rw [xk_topD m n i HM.out] at OA
      have hsl := OA.slc (dlist (m * n) (i + n2 + 1)) (dlist_len _ _) (fun j hj => by simp [dlist, List.getD_eq_getElem?_getD, hj])
      have hlt2 : m * n < 65536 ^ (i + n2 + 1) := by
        have h1 := Nat.mul_lt_mul'' HM.out HN.out
        rw [← Nat.pow_add, D_eq] at h1
        exact Nat.lt_of_lt_of_le h1 (Nat.pow_le_pow_right (by omega) (by omega))
      have hfin := fun W (hx : Ext wr W) => of_ret (s1 != s2) (.slice (some ⟨w.heap.size + 1 + 1 + 1, 0, none⟩) (i + n2 + 1) (i + n2 + 1)) (dlist (m * n) (i + n2 + 1)) (by rw [dlist_len]; omega) (dlist_digs _ _) W (hsl.ext hx)
      rw [dlist_dval, Nat.mod_eq_of_lt hlt2, HZ.out] at hfin
      have hx := hxr
      clear hsl OA hlt2 hlt K1 K2 HM HN HZ
      have lBA := BA.lt; have cBA := BA.cell; have fBA := BA.frozen; have lBB := BB.lt; have cBB := BB.cell; have fBB := BB.frozen; have lBO := BO.lt; have cBO := BO.cell; have fBO := BO.frozen
      --s8
      go_wp2_with (go_at_call 58; refine (hfin _ (Ext.refl _)).mono ?_; rintro e y1 ⟨r1, rfl, hr1, hx1⟩; obtain ⟨tr, ar, nr, cr, rfl, er, ks⟩ := hr1.opened; have hxn : Ext w y1 := hx.trans hx1; have BOn := BO.ext hx1; have lBOn := BOn.lt; have cBOn := BOn.cell; have fBOn := BOn.frozen)
      --s9
      refine bp_rebase fun u hu => ?_; have hy : Ext w u := (by rw [hu]; exact (by repeat (first | (with_reducible exact Ext.refl _) | (with_reducible assumption) | (with_reducible apply Ext.grow) | (with_reducible apply Ext.alloc) | (with_reducible apply Ext.drew) | ((with_reducible apply Ext.set); (case hb => (first | omega | (simp; omega))))))); have hsl := (ks.set (k := (w.heap.size + 1 + 1)) (j := 0) (x := .bool tr) BOn (by decide)).set (k := (w.heap.size + 1 + 1)) (j := 1) (x := .slice ar nr cr) BOn.setSame (by decide); rw [← hu] at hsl; have BF : Blk u (w.heap.size + 1 + 1) #[.bool tr, .slice ar nr cr] 33 := (by rw [hu]; exact (by repeat (first | (with_reducible assumption) | ((with_reducible refine Blk.new _ _ _ ?_); (simp; done)) | (with_reducible apply Blk.alloc) | (with_reducible apply Blk.grow) | (with_reducible apply Blk.drew) | (with_reducible apply Blk.set10) | (with_reducible apply Blk.set5) | (with_reducible apply Blk.set4) | (with_reducible apply Blk.tail4) | (with_reducible apply Blk.set2) | (with_reducible apply Blk.set1) | ((with_reducible apply Blk.setOther); (case hne => omega))))); clear hu; have lBF := BF.lt; have cBF := BF.cell; have fBF := BF.frozen; clear BF; exact bodyPost_ret (v := .agg #[.bool tr, .slice ar nr cr]) (by simp [results, Tryz.results67, go_sem, cBF]) rfl ⟨_, rfl, BigV.shut er hsl, hy⟩
end Go.Proofs.YtjkchmegnfbfoaaGreatDoor

namespace Go.Proofs.YtjkchmegnfbfoaaGreatDoor
set_option linter.unusedSimpArgs false
set_option linter.unusedVariables false

theorem div_stepD (m i : Nat) : m / D ^ i = m / D ^ (i + 1) * D + wnD m i := by
  unfold wnD
  rw [Nat.pow_succ, ← Nat.div_div_eq_div_mul, Nat.mul_comm]
  exact (Nat.div_add_mod (m / D ^ i) D).symm
/-- What the digit i is reckoned of. -/
def tdD (m n i : Nat) : Nat := m / D ^ (i + 1) % n * D + wnD m i
theorem td_lt (m n i : Nat) (hn : 0 < n) : tdD m n i < n * D := by
  unfold tdD
  have h1 := Nat.mod_lt (m / D ^ (i + 1)) hn
  have h2 := wn_ltD m i
  have h3 : (m / D ^ (i + 1) % n + 1) * D ≤ n * D := Nat.mul_le_mul_right _ h1
  rw [Nat.add_mul] at h3; omega
theorem td_split (m n i : Nat) : m / D ^ i = n * (m / D ^ (i + 1) / n * D) + tdD m n i := by
  unfold tdD
  rw [div_stepD]
  have h := Nat.div_add_mod (m / D ^ (i + 1)) n
  generalize m / D ^ (i + 1) / n = q at *
  generalize m / D ^ (i + 1) % n = r at *
  rw [← h, Nat.add_mul, Nat.mul_assoc]; omega
theorem td_mod (m n i : Nat) : tdD m n i % n = m / D ^ i % n := by
  rw [td_split m n i, Nat.mul_add_mod]
theorem td_div (m n i : Nat) (hn : 0 < n) : tdD m n i / n = wnD (m / n) i := by
  unfold wnD
  have hlt : tdD m n i / n < D := by rw [Nat.div_lt_iff_lt_mul hn, Nat.mul_comm]; exact td_lt m n i hn
  rw [Nat.div_div_eq_div_mul, Nat.mul_comm n, ← Nat.div_div_eq_div_mul, td_split m n i, Nat.mul_add_div hn, Nat.add_comm, Nat.add_mul_mod_self_right, Nat.mod_eq_of_lt hlt]
/-- What is left, what is found, when the bits from k on are. -/
def trD (T n k : Nat) : Nat := T % (n * 2 ^ k)
def tqD (T n k : Nat) : Nat := T / (n * 2 ^ k) * 2 ^ k
theorem tr_top (T n : Nat) (h : T < n * 65536) : trD T n 16 = T := Nat.mod_eq_of_lt h
theorem tq_top (T n : Nat) (h : T < n * 65536) : tqD T n 16 = 0 := by unfold tqD; rw [Nat.div_eq_of_lt h, Nat.zero_mul]
theorem tr_zero (T n : Nat) : trD T n 0 = T % n := by simp [trD]
theorem tq_zero (T n : Nat) : tqD T n 0 = T / n := by simp [tqD]
theorem two_step (T N : Nat) (hN : 0 < N) : (T % (2 * N) < N → T % N = T % (2 * N) ∧ T / N = 2 * (T / (2 * N))) ∧ (¬ T % (2 * N) < N → T % N = T % (2 * N) - N ∧ T / N = 2 * (T / (2 * N)) + 1) := by
  have h := Nat.div_add_mod T (2 * N)
  have hl := Nat.mod_lt T (show 0 < 2 * N by omega)
  generalize T / (2 * N) = q at *
  generalize T % (2 * N) = r at *
  have e : T = N * (2 * q) + r := by rw [← h, Nat.mul_comm 2 N, Nat.mul_assoc]
  refine ⟨fun hr => ⟨?_, ?_⟩, fun hr => ⟨?_, ?_⟩⟩
  · rw [e, Nat.mul_add_mod, Nat.mod_eq_of_lt hr]
  · rw [e, Nat.mul_add_div hN, Nat.div_eq_of_lt hr]; omega
  · rw [e, Nat.mul_add_mod, Nat.mod_eq_sub_mod (by omega), Nat.mod_eq_of_lt (by omega)]
  · rw [e, Nat.mul_add_div hN, Nat.div_eq_sub_div hN (by omega), Nat.div_eq_of_lt (by omega)]
theorem pow2_two (n k : Nat) : n * 2 ^ (k + 1) = 2 * (n * 2 ^ k) := by rw [Nat.pow_succ, ← Nat.mul_assoc, Nat.mul_comm]
theorem tr_lt (T n k : Nat) (hn : 0 < n) (h : trD T n (k + 1) < n * 2 ^ k) : trD T n k = trD T n (k + 1) ∧ tqD T n k = tqD T n (k + 1) := by
  unfold trD tqD at *
  rw [pow2_two] at *
  obtain ⟨h1, h2⟩ := (two_step T (n * 2 ^ k) (Nat.mul_pos hn (Nat.pow_pos (by omega)))).1 h
  refine ⟨h1, ?_⟩
  rw [h2, Nat.pow_succ, Nat.mul_comm 2, Nat.mul_assoc, Nat.mul_comm 2, Nat.mul_comm 2 (2 ^ k)]
theorem tr_ge (T n k : Nat) (hn : 0 < n) (h : ¬ trD T n (k + 1) < n * 2 ^ k) : trD T n k = trD T n (k + 1) - n * 2 ^ k ∧ tqD T n k = tqD T n (k + 1) + 2 ^ k := by
  unfold trD tqD at *
  rw [pow2_two] at *
  obtain ⟨h1, h2⟩ := (two_step T (n * 2 ^ k) (Nat.mul_pos hn (Nat.pow_pos (by omega)))).2 h
  refine ⟨h1, ?_⟩
  rw [h2, Nat.add_mul, Nat.one_mul, Nat.pow_succ, Nat.mul_comm 2 (T / _), Nat.mul_assoc, Nat.mul_comm 2, Nat.mul_comm 2 (2 ^ k)]
theorem tq_le (T n k : Nat) (hn : 0 < n) (h : T < n * 65536) : tqD T n k < 65536 := by
  unfold tqD
  have h1 : T / (n * 2 ^ k) * 2 ^ k ≤ T / n := by
    rw [← Nat.div_div_eq_div_mul]; exact Nat.div_mul_le_self _ _
  have h2 : T / n < 65536 := by rw [Nat.div_lt_iff_lt_mul hn, Nat.mul_comm]; exact h
  omega
end Go.Proofs.YtjkchmegnfbfoaaGreatDoor

namespace Go.Proofs.YtjkchmegnfbfoaaGreatDoor
open Go Go.RowKit
set_option linter.unusedSimpArgs false
set_option linter.unusedVariables false
set_option maxRecDepth 100000
set_option exponentiation.threshold 3000

theorem info_sl : (Tryz.prog.info? 31).map (fun i => (i.zero, i.size, i.bytes)) = some (some (.slice none 0 0), 1, 24) := by kernel_rfl
/-- The doubles of a number: a row of slices. -/
structure Dbls (W : World) (base : Nat) (v : Value) (n k : Nat) (xs : List Value) : Prop where
  own : W.ownsRow base 31 1 v k xs
  all : ∀ j, j < k → ∃ x, xs[j]? = some x ∧ SlC W x (dg (n * 2 ^ j))
theorem Dbls.len {W : World} {base n k : Nat} {v : Value} {xs : List Value} (h : Dbls W base v n k xs) : xs.length = k := by have := h.own.1; omega
theorem Dbls.at' {W : World} {base n k : Nat} {v : Value} {xs : List Value} (h : Dbls W base v n k xs) (j : Nat) (hj : j < k) : ∃ g cap x, v = .slice (some ⟨g, 0, none⟩) k cap ∧ base ≤ g ∧ g < W.heap.size ∧ W.cell? ⟨g, j, none⟩ = some x ∧ xs[j]? = some x ∧ SlC W x (dg (n * 2 ^ j)) := by
  obtain ⟨x, hx, hs⟩ := h.all j hj
  rcases h.own.2 with ⟨_, h0⟩ | ⟨g, cap, cur, rfl, hb, hg, _, _, _, ht⟩
  · omega
  · refine ⟨g, cap, x, rfl, hb, (Array.getElem?_eq_some_iff.1 hg).1, ?_, hx, hs⟩
    have h3 : cur.toList[j]? = some x := by
      have := congrArg (fun l => l[j]?) ht
      simp only [Nat.mul_one, List.getElem?_take, if_pos hj] at this
      rw [this, hx]
    rw [World.cell?, hg]
    simpa using h3
theorem _root_.Go.World.ownsRow.ext {w w' : World} {base : Nat} {e : TypeId} {size n : Nat} {v : Value} {xs : List Value} (h : w.ownsRow base e size v n xs) (hx : Ext w w') : w'.ownsRow base e size v n xs := by
  obtain ⟨d, rfl⟩ := hx; exact h.ext2 d
theorem CellsAt.grown {W W' : World} {b o : Nat} {ds : List Nat} {row : Option Nat} (h : CellsAt W b o ds) (hg : W.grownBy W' row) (hr : row ≠ some b) : CellsAt W' b o ds := by
  have hb := hg.block b h.lt hr.symm
  refine ⟨?_, fun i hi => ?_⟩
  · obtain ⟨cs, fr, h1⟩ := h.row; exact ⟨cs, fr, by rw [hb, h1]⟩
  · have h1 := h.at' i hi
    rw [World.cell?] at h1 ⊢
    rw [hb]; exact h1
theorem SlC.grown {W W' : World} {v : Value} {ds : List Nat} {row : Option Nat} (h : SlC W v ds) (hg : W.grownBy W' row) (hr : ∀ g, row = some g → ∃ cs T fr, W.heap[g]? = some (.cells cs T fr) ∧ T ≠ 2) : SlC W' v ds := by
  refine ⟨h.1.imp id ?_, h.2⟩
  rintro ⟨b, o, cap, h1, h2⟩
  refine ⟨b, o, cap, h1, h2.grown hg fun e => ?_⟩
  obtain ⟨cs, T, fr, h3, h4⟩ := hr b e
  obtain ⟨cs', fr', h5⟩ := h2.row
  rw [h3] at h5; cases h5; exact h4 rfl
theorem wrap_bit (Q k : Nat) (h : Q + 2 ^ k < 65536) : wrap64 ((Q : Int) + wrap64 ((2 : Int) ^ k)) = ((Q + 2 ^ k : Nat) : Int) := by
  have e : (2 : Int) ^ k = ((2 ^ k : Nat) : Int) := by rw [Int.natCast_pow]; rfl
  rw [e]
  generalize 2 ^ k = P at *
  unfold wrap64; omega
/-- What is left, on the way: a row that is not g. -/
def RemV (W : World) (g : Nat) (rv : Value) (R : Nat) : Prop := SlC W rv (dg R) ∧ (rv = .slice none 0 0 ∨ ∃ b l c, rv = .slice (some ⟨b, 0, none⟩) l c ∧ b ≠ g)
theorem RemV.ext {W W' : World} {g : Nat} {rv : Value} {R : Nat} (h : RemV W g rv R) (hx : Ext W W') : RemV W' g rv R := ⟨h.1.ext hx, h.2⟩
theorem RemV.set {W : World} {g i : Nat} {rv x : Value} {R : Nat} (h : RemV W g rv R) : RemV (W.setCell ⟨g, i, none⟩ x) g rv R := by
  refine ⟨⟨?_, h.1.2⟩, h.2⟩
  rcases h.1.1 with h1 | ⟨b, o, cap, rfl, hc⟩
  · exact .inl h1
  · rcases h.2 with e | ⟨b', l, c, e, hne⟩
    · cases e
    · cases e
      refine .inr ⟨b, 0, cap, rfl, ?_, fun i hi => ?_⟩
      · obtain ⟨cs, fr, h1⟩ := hc.row
        exact ⟨cs, fr, by simp only [World.setCell, Array.getElem?_modify, if_neg (Ne.symm hne), h1]⟩
      · rw [World.cell?_setCell_other _ _ _ _ (by intro e; cases e; exact hne rfl)]; exact hc.at' i hi
/-- A row of the call's own as a slice. -/
theorem row_slice {W : World} {base n : Nat} {v : Value} {xs : List Value} (h : W.ownsRow base 2 1 v n xs) (hn : 0 < n) : ∃ g cap, v = .slice (some ⟨g, 0, none⟩) n cap ∧ base ≤ g := by
  rcases h.2 with ⟨_, h0⟩ | ⟨g, cap, cur, e, hb, _⟩
  · omega
  · exact ⟨g, cap, e, hb⟩
set_option maxHeartbeats 8000000 in
theorem bQuo_long (x y : Int) (v1 v2 : Value) (hx : (dg x.natAbs).length ≤ 1000) (hy : (dg y.natAbs).length ≤ 1000) (hlong : ¬ ((dg x.natAbs).length ≤ 3 ∧ (dg y.natAbs).length ≤ 3)) (h0 : y ≠ 0) (w : World) (h1 : BigV w v1 x) (h2 : BigV w v2 y) :
    Calls Tryz.prog 57 #[v1, v2] w (RetQ x y w) := by
  obtain ⟨t1, a1, n1, c1, rfl, e1, k1⟩ := h1.opened
  obtain ⟨t2, a2, n2, c2, rfl, e2, k2⟩ := h2.opened
  have HQ1 := Lib.hid (tdiv_sv x y)
  have HQ2 := Lib.hid (tmod_sv x y)
  obtain ⟨ht1, hn1⟩ := e1.out
  obtain ⟨ht2, hn2⟩ := e2.out
  rw [← ht1, ← ht2] at HQ1
  rw [← ht1] at HQ2
  have K1 := Lib.hid (digits_at k1 hn1)
  rw [← hn1] at hx
  rw [← hn1, ← hn2] at hlong
  have hy2 := hy
  rw [← hn2] at hy2
  have hm0 : 0 < y.natAbs := by omega
  have HM : Hid (x.natAbs < 65536 ^ n1) := Lib.hid ((dg_len_le _ _).1 (by omega))
  unfold RetQ
  rw [HQ1.out, HQ2.out]
  clear HQ1 HQ2 h1 h2 h0 e1 e2 ht1 ht2 hn1 hn2 k1
  generalize x.natAbs = m at *
  generalize y.natAbs = n at *
  have small : ∀ j, j ≤ 16 → (dg (n * 2 ^ j)).length ≤ 2000 := fun j hj => (dg_len_le _ _).2 (by
    have h1 := (dg_len_le n 1000).1 hy
    have h2 : 2 ^ j ≤ 65536 := by rw [show 65536 = 2 ^ 16 from rfl]; exact Nat.pow_le_pow_right (by omega) hj
    have h3 := Nat.mul_lt_mul_of_lt_of_le h1 h2 (by omega)
    rw [← Nat.pow_succ] at h3
    exact Nat.lt_of_lt_of_le h3 (Nat.pow_le_pow_right (by omega) (by omega)))
  have HS := Lib.hid small
  clear small hy x y
  obtain ⟨i0, hi, iz0, iz1, iz2⟩ := info_parts info_sl
  obtain ⟨j0, hj, jz0, jz1, jz2⟩ := info_parts info_i64
  go_enter Tryz.func57, Tryz.ntmps57
  go_upto_region 1 with fail
  refine wp_rebase fun v0 hv => ?_
  have hx0v : Ext w v0 := by rw [hv]; exact (by repeat (first | (with_reducible exact Ext.refl _) | (with_reducible assumption) | (with_reducible apply Ext.grow) | (with_reducible apply Ext.alloc) | (with_reducible apply Ext.drew) | ((with_reducible apply Ext.set); (case hb => (first | omega | (simp; omega))))))
  have BA : Blk v0 w.heap.size (bigC t1 a1 n1 c1) 33 := by rw [hv]; exact (by repeat (first | (with_reducible assumption) | ((with_reducible refine Blk.new _ _ _ ?_); (simp; done)) | (with_reducible apply Blk.alloc) | (with_reducible apply Blk.grow) | (with_reducible apply Blk.drew) | (with_reducible apply Blk.set10) | (with_reducible apply Blk.set5) | (with_reducible apply Blk.set4) | (with_reducible apply Blk.tail4) | (with_reducible apply Blk.set2) | (with_reducible apply Blk.set1) | ((with_reducible apply Blk.setOther); (case hne => omega))))
  have BB : Blk v0 (w.heap.size + 1) (bigC t2 a2 n2 c2) 33 := by rw [hv]; exact (by repeat (first | (with_reducible assumption) | ((with_reducible refine Blk.new _ _ _ ?_); (simp; done)) | (with_reducible apply Blk.alloc) | (with_reducible apply Blk.grow) | (with_reducible apply Blk.drew) | (with_reducible apply Blk.set10) | (with_reducible apply Blk.set5) | (with_reducible apply Blk.set4) | (with_reducible apply Blk.tail4) | (with_reducible apply Blk.set2) | (with_reducible apply Blk.set1) | ((with_reducible apply Blk.setOther); (case hne => omega))))
  have BO : Blk v0 (w.heap.size + 1 + 1) #[.bool false, .slice none 0 0] 33 := by rw [hv]; exact (by repeat (first | (with_reducible assumption) | ((with_reducible refine Blk.new _ _ _ ?_); (simp; done)) | (with_reducible apply Blk.alloc) | (with_reducible apply Blk.grow) | (with_reducible apply Blk.drew) | (with_reducible apply Blk.set10) | (with_reducible apply Blk.set5) | (with_reducible apply Blk.set4) | (with_reducible apply Blk.tail4) | (with_reducible apply Blk.set2) | (with_reducible apply Blk.set1) | ((with_reducible apply Blk.setOther); (case hne => omega))))
  have BP : Blk v0 (w.heap.size + 1 + 1 + 1) #[.bool false, .slice none 0 0] 33 := by rw [hv]; exact (by repeat (first | (with_reducible assumption) | ((with_reducible refine Blk.new _ _ _ ?_); (simp; done)) | (with_reducible apply Blk.alloc) | (with_reducible apply Blk.grow) | (with_reducible apply Blk.drew) | (with_reducible apply Blk.set10) | (with_reducible apply Blk.set5) | (with_reducible apply Blk.set4) | (with_reducible apply Blk.tail4) | (with_reducible apply Blk.set2) | (with_reducible apply Blk.set1) | ((with_reducible apply Blk.setOther); (case hne => omega))))
  clear hv
  have lBA := BA.lt; have cBA := BA.cell; have fBA := BA.frozen; have lBB := BB.lt; have cBB := BB.cell; have fBB := BB.frozen; have lBO := BO.lt; have cBO := BO.cell; have fBO := BO.frozen; have lBP := BP.lt; have cBP := BP.cell; have fBP := BP.frozen
  go_cut [23] (fun s z => s = .bool false ∧ v0 = z)
  case first =>
    by_cases h3 : n1 ≤ 3
    · have h4 : ¬ n2 ≤ 3 := fun h => hlong ⟨h3, h⟩
      have h3' : ((n1 : Int) ≤ 3) := by omega
      have h4' : ¬ ((n2 : Int) ≤ 3) := by omega
      go_wp2
      go_meet
      case rel => exact ⟨by simp, rfl⟩
    · have h3' : ¬ ((n1 : Int) ≤ 3) := by omega
      go_wp2
      go_meet
      case rel => exact ⟨by simp, rfl⟩
  case rest =>
  obtain ⟨rfl, rfl⟩ := hcut
  clear hlong
  have D0 : Dbls (v0.alloc (.cells #[.slice a2 n2 c2] 31)) v0.heap.size (.slice (some ⟨v0.heap.size, 0, none⟩) 1 1) n 1 [.slice a2 n2 c2] := by
    refine ⟨World.ownsRow_lit v0 _ 1 (Nat.le_refl _) (by decide) rfl, fun j hj => ?_⟩
    obtain rfl : j = 0 := by omega
    exact ⟨_, rfl, by rw [Nat.pow_zero, Nat.mul_one]; exact (k2.ext (hx0v.alloc _))⟩
  --s1
  go_wp2
  go_loopw [8, 9] (fun dv kv wr => ∃ (k : Nat) (xs : List Value), k ≤ 15 ∧ kv = .int .i64 ((k : Int) + 1) ∧ Dbls wr v0.heap.size dv n (k + 1) xs ∧ Ext v0 wr) (fun _ kv _ => 16 - (intOf kv).toNat)
  case atStart => exact ⟨0, _, by omega, rfl, D0, (Ext.refl v0).alloc _⟩
  case round =>
    clear D0 lBA cBA fBA lBB cBB fBB lBO cBO fBO lBP cBP fBP
    obtain ⟨k, xs, hk, rfl, DB, hxw⟩ := hrel
    by_cases hlt : k < 15
    · have hlt' : ((k : Int) + 1 < 16) := by omega
      obtain ⟨g, cap, x, rfl, hbg, hgl, hcell, hxs, hsl⟩ := DB.at' k (by omega)
      have hN := HS.out k (by omega)
      have hk0 : 0 ≤ (k : Int) := by omega
      have hk1 : (k : Int) < (k : Int) + 1 := by omega
      have wk : IntKind.i64.wrap (k : Int) = (k : Int) := wrap_i64_in _ (by omega) (by omega)
      obtain ⟨v, rfl⟩ : ∃ v, v = wr := ⟨_, rfl⟩
      --s3
      go_wp2
      (first | refine wp_region_h' 13 [0, 1, 2, 3, 4, 5, 6, 7, 8, 9, 10] [11, 12] (by kernel_rfl) (by kernel_rfl) ?_ | refine wp_region_h 13 [0, 1, 2, 3, 4, 5, 6, 7, 8, 9, 10] [11, 12] (by kernel_rfl) (by kernel_rfl) ?_); simp only [List.map_cons, List.map_nil, List.getD_cons_succ, List.getD_cons_zero]; (repeat (refine wpHL_l (fun K hK => ?_); go_simp; refine hK _ ?_; clear hK K)); refine wpHL_nil ?_; intro d0; have hx0 : Ext v (grow v d0) := ⟨d0, rfl⟩; generalize grow v d0 = y0 at *; (refine wpT_c (fun K hK => ?_); go_simp; refine ⟨_, _, ⟨rfl, rfl⟩, ?_⟩; (with_reducible refine (plus_dg (n * 2 ^ k) (n * 2 ^ k) _ _ (by omega) (by omega) _ (hsl.ext hx0) (hsl.ext hx0)).mono ?_); rintro e y1 ⟨r1, rfl, hr1, hz1⟩; have hx1 : Ext v y1 := hx0.trans hz1; obtain ⟨b1, c1, rfl⟩ := hr1.len; refine ⟨_, rfl, hx1, hK _ _ ?_⟩; clear hK K); (refine wpT_n (fun K hK => ?_); go_simp; refine ⟨_, _, ⟨rfl, rfl⟩, hx1.alloc _, hK _ _ ?_⟩; clear hK K); refine wpT_nil ?_; simp only [List.drop_succ_cons, List.drop_zero]
      have hown' := (DB.own.ext hx1).ext ((Ext.refl y1).alloc (.cells #[.slice b1 (dg (n * 2 ^ k + n * 2 ^ k)).length c1] 31))
      have hsl1 := hr1.ext ((Ext.refl y1).alloc (.cells #[.slice b1 (dg (n * 2 ^ k + n * 2 ^ k)).length c1] 31))
      have hb0 : v0.heap.size ≤ y1.heap.size := (hxw.trans hx1).size
      have hbel : Below v0.heap.size v0 (y1.alloc (.cells #[.slice b1 (dg (n * 2 ^ k + n * 2 ^ k)).length c1] 31)) := (hxw.trans hx1).below.alloc hb0 _
      have hgT : ∃ cs T fr, (y1.alloc (.cells #[.slice b1 (dg (n * 2 ^ k + n * 2 ^ k)).length c1] 31)).heap[g]? = some (.cells cs T fr) ∧ T ≠ 2 := by
        rcases hown'.2 with ⟨e, _⟩ | ⟨g', cap', cur, e, _, hg', _⟩
        · cases e
        · cases e; exact ⟨cur, _, _, hg', by decide⟩
      have HE : Hid (n * 2 ^ k + n * 2 ^ k = n * 2 ^ (k + 1)) := Lib.hid (by rw [pow2_two]; omega)
      --s4
      (refine wpList_append_own _ rfl (.tmp 56) (.tmp 68) 126 rfl v0.heap.size 31 i0 (.slice none 0 0) 1 24 Tryz.underlying126 hi iz0 iz1 iz2 rfl (by decide) _ _ _ rfl hown' ⟨y1.heap.size, 0, none⟩ 1 1 [.slice b1 (dg (n * 2 ^ k + n * 2 ^ k)).length c1] rfl rfl ?c1 ?c2 ?c3 ?c4 ?c5 ?_)
      case c1 =>
        intro t u h
        rcases t with _ | t
        · cases h; simp [go_sem]
        · cases h
      case c2 => intro u h; simp at h; subst h; rfl
      case c3 => unfold maxLen; omega
      case c4 => omega
      case c5 => simp; omega
      intro v' w1 hown1 hgrow1 _
      --s5
      go_wp2
      go_roundw
      case rel =>
        refine ⟨k + 1, _, by omega, by go_num, ⟨hown1, fun j hj => ?_⟩, Ext.of_below (hbel.grown hgrow1 (by simp; omega) (fun b hb => by cases hb; exact hbg))⟩
        rcases (by omega : j < k + 1 ∨ j = k + 1) with h | rfl
        · obtain ⟨x', h1, h2⟩ := DB.all j h
          refine ⟨x', by rw [List.getElem?_append_left (by rw [DB.len]; exact h)]; exact h1, ((h2.ext hx1).ext ((Ext.refl y1).alloc _)).grown hgrow1 (fun g' e => by cases e; exact hgT)⟩
        · refine ⟨_, by rw [List.getElem?_append_right (by rw [DB.len]; omega), DB.len, Nat.sub_self]; rfl, ?_⟩
          rw [← HE.out]; exact hsl1.grown hgrow1 (fun g' e => by cases e; exact hgT)
      case measure => simp [intOf]; omega
    · obtain rfl : k = 15 := by omega
      obtain ⟨g, cap, x0, rfl, hbg, hgl, _⟩ := DB.at' 0 (by omega)
      have DC : ∀ j, j < 16 → ∃ x, wr.cell? ⟨g, j, none⟩ = some x ∧ SlC wr x (dg (n * 2 ^ j)) := fun j hj => by
        obtain ⟨g', cap', x, e, _, _, h1, _, h2⟩ := DB.at' j hj
        cases e; exact ⟨x, h1, h2⟩
      have HDC := Lib.hid DC
      clear DB DC
      replace BA := BA.ext hxw
      replace BB := BB.ext hxw
      replace BO := BO.ext hxw
      replace BP := BP.ext hxw
      have hxr : Ext w wr := hx0v.trans hxw
      have lwr : w.heap.size + 1 + 1 + 1 < wr.heap.size := BP.lt
      have lg : g < wr.heap.size := hgl
      clear hxw hx0v hbg
      have lBA := BA.lt; have cBA := BA.cell; have fBA := BA.frozen; have lBB := BB.lt; have cBB := BB.cell; have fBB := BB.frozen; have lBO := BO.lt; have cBO := BO.cell; have fBO := BO.frozen; have lBP := BP.lt; have cBP := BP.cell; have fBP := BP.frozen
      obtain ⟨v, rfl⟩ : ∃ v, v = wr := ⟨_, rfl⟩
      --s6
      go_wp2_with (at_make; refine wpList_make_full _ rfl _ _ 31 rfl v.heap.size 2 j0 (.int .i64 0) 1 Tryz.underlying31 hj jz0 jz1 _ _ _ _ n1 rfl rfl rfl rfl ?b2 ?b3 (Nat.le_refl _) ?_)
      case b2 => rw [jz2]; omega
      case b3 => unfold maxLen; omega
      intro w0 hown0 hgrow0
      have O0 := out_made hown0
      have hx0 : Ext v w0 := Ext.of_below ((Below.refl _ v).grown hgrow0 (Nat.le_refl _) (fun k h => by cases h))
      clear hown0 hgrow0
      clear lBA cBA fBA lBB cBB fBB lBO cBO fBO lBP cBP fBP
      have hin : IntKind.i64.wrap ((n1 : Int) - 1) = (n1 : Int) - 1 := wrap_i64_in _ (by omega) (by omega)
      have BA0 := BA.ext hx0
      have lBA0 := BA0.lt; have cBA0 := BA0.cell; have fBA0 := BA0.frozen
      --s7
      go_wp2
      go_loopw [11, 12, 13] (fun rv iv kv wr => ∃ j : Nat, j ≤ n1 ∧ iv = .int .i64 ((j : Int) - 1) ∧ RemV wr v.heap.size rv (m / D ^ j % n) ∧ OutAt wr v.heap.size n1 (fun t => if t < j then 0 else wnD (m / n) t) ∧ Ext v wr) (fun _ iv _ _ => ((intOf iv) + 1).toNat)
      case atStart => exact ⟨n1, Nat.le_refl _, rfl, by
          rw [Nat.div_eq_of_lt (by rw [D_eq]; exact HM.out), Nat.zero_mod]
          exact ⟨⟨.inl ⟨none, 0, rfl, dg_zero⟩, fun a n c h => by cases h; exact Nat.le_refl _⟩, .inl rfl⟩, O0.congr (fun j hj => by rw [if_pos hj]), hx0⟩
      case round =>
        clear O0 hx0 BA0 lBA0 cBA0 fBA0 hin
        obtain ⟨j, hjn, rfl, hrem, OA, hxw⟩ := hrel
        by_cases h0 : j = 0
        · subst h0
          rw [Nat.pow_zero, Nat.div_one] at hrem
          have hxt : Ext w wr := hxr.trans hxw
          replace BA := BA.ext hxw
          replace BB := BB.ext hxw
          replace BO := BO.ext hxw
          replace BP := BP.ext hxw
          have hsq := OA.slc (dlist (m / n) n1) (dlist_len _ _) (fun j hj => by rw [if_neg (by omega)]; simp [dlist, List.getD_eq_getElem?_getD, hj])
          have hsr := hrem.1
          generalize v.heap.size = gq at *
          have lrl : (dg (m % n)).length ≤ 1000000 := Nat.le_trans ((dg_len_le _ 2000).2 (by
            have h1 := (dg_len_le _ _).1 (HS.out 0 (by omega))
            rw [Nat.pow_zero, Nat.mul_one] at h1
            have h2 : m % n < n := Nat.mod_lt _ hm0
            omega)) (by omega)
          have hq1 : m / n < 65536 ^ n1 := Nat.lt_of_le_of_lt (Nat.div_le_self _ _) HM.out
          have OQ := fun w h => of_ret (!(t1 == t2)) (.slice (some ⟨gq, 0, none⟩) n1 n1) (dlist (m / n) n1) (by rw [dlist_len]; omega) (dlist_digs _ _) w h
          have OR := fun a n' c w h => of_ret t1 (.slice a n' c) (dg (m % n)) lrl (digs_dg _) w h
          rw [dlist_dval, Nat.mod_eq_of_lt hq1] at OQ
          simp only [dval_dg] at OR
          obtain ⟨ar, cr, hru⟩ := hsr.len
          rw [hru] at hsr ⊢
          clear hrem OA hxw HDC K1 HM HS lrl hq1 hru lg lwr hgl
          obtain ⟨v, rfl⟩ : ∃ v, v = wr := ⟨_, rfl⟩
          have lBA := BA.lt; have cBA := BA.cell; have fBA := BA.frozen; have lBB := BB.lt; have cBB := BB.cell; have fBB := BB.frozen; have lBO := BO.lt; have cBO := BO.cell; have fBO := BO.frozen; have lBP := BP.lt; have cBP := BP.cell; have fBP := BP.frozen
          --s9
          go_wp2
          (first | refine wp_region_h' 11 [0, 1, 2, 3, 4, 5, 7, 8, 9] [6, 10] (by kernel_rfl) (by kernel_rfl) ?_ | refine wp_region_h 11 [0, 1, 2, 3, 4, 5, 7, 8, 9] [6, 10] (by kernel_rfl) (by kernel_rfl) ?_); simp only [List.map_cons, List.map_nil, List.getD_cons_succ, List.getD_cons_zero]; (repeat (refine wpHL_l (fun K hK => ?_); go_simp; refine hK _ ?_; clear hK K)); refine wpHL_nil ?_; intro d0; have hx0 : Ext v (grow v d0) := ⟨d0, rfl⟩; generalize grow v d0 = y0 at *; (refine wpT_c (fun K hK => ?_); go_simp; refine ⟨_, _, ⟨rfl, rfl⟩, ?_⟩; (with_reducible refine (OQ _ (hsq.ext hx0)).mono ?_); rintro e y1 ⟨r1, rfl, hr1, hz1⟩; have hx1 : Ext v y1 := hx0.trans hz1; refine ⟨_, rfl, hx1, hK _ _ ?_⟩; clear hK K); (refine wpT_c (fun K hK => ?_); go_simp; refine ⟨_, _, ⟨rfl, rfl⟩, ?_⟩; (with_reducible refine (OR _ _ _ _ (hsr.ext hx1)).mono ?_); rintro e y2 ⟨r2, rfl, hr2, hz2⟩; have hx2 : Ext v y2 := hx1.trans hz2; refine ⟨_, rfl, hx2, hK _ _ ?_⟩; clear hK K); refine wpT_nil ?_; simp only [List.drop_succ_cons, List.drop_zero]
          --s21
          obtain ⟨sa, aa, na, ca, rfl, ea, ka⟩ := (hr1.ext hz2).opened
          obtain ⟨sb, ab, nb, cb, rfl, eb, kb⟩ := hr2.opened
          have BO4 := BO.ext hx2
          have BP4 := BP.ext hx2
          have hxn : Ext w y2 := hxt.trans hx2
          have lBO4 := BO4.lt; have cBO4 := BO4.cell; have fBO4 := BO4.frozen; have lBP4 := BP4.lt; have cBP4 := BP4.cell; have fBP4 := BP4.frozen
          go_wp2
          refine bp_rebase fun u hu => ?_
          have hy : Ext w u := by rw [hu]; exact (by repeat (first | (with_reducible exact Ext.refl _) | (with_reducible assumption) | (with_reducible apply Ext.grow) | (with_reducible apply Ext.alloc) | (with_reducible apply Ext.drew) | ((with_reducible apply Ext.set); (case hb => (first | omega | (simp; omega))))))
          have BF : Blk u (w.heap.size + 1 + 1) #[.bool sa, .slice aa na ca] 33 := by rw [hu]; exact (by repeat (first | (with_reducible assumption) | ((with_reducible refine Blk.new _ _ _ ?_); (simp; done)) | (with_reducible apply Blk.alloc) | (with_reducible apply Blk.grow) | (with_reducible apply Blk.drew) | (with_reducible apply Blk.set10) | (with_reducible apply Blk.set5) | (with_reducible apply Blk.set4) | (with_reducible apply Blk.tail4) | (with_reducible apply Blk.set2) | (with_reducible apply Blk.set1) | ((with_reducible apply Blk.setOther); (case hne => omega))))
          have BG : Blk u (w.heap.size + 1 + 1 + 1) #[.bool sb, .slice ab nb cb] 33 := by rw [hu]; exact (by repeat (first | (with_reducible assumption) | ((with_reducible refine Blk.new _ _ _ ?_); (simp; done)) | (with_reducible apply Blk.alloc) | (with_reducible apply Blk.grow) | (with_reducible apply Blk.drew) | (with_reducible apply Blk.set10) | (with_reducible apply Blk.set5) | (with_reducible apply Blk.set4) | (with_reducible apply Blk.tail4) | (with_reducible apply Blk.set2) | (with_reducible apply Blk.set1) | ((with_reducible apply Blk.setOther); (case hne => omega))))
          have BP5 : Blk ((y2.setCell ⟨w.heap.size + 1 + 1, 0, none⟩ (.bool sa)).setCell ⟨w.heap.size + 1 + 1, 1, none⟩ (.slice aa na ca)) (w.heap.size + 1 + 1 + 1) _ _ := (BP4.setOther (by omega)).setOther (by omega)
          have hsa := (((ka.set (j := 0) (x := .bool sa) BO4 (by decide)).set (j := 1) (x := .slice aa na ca) BO4.setSame (by decide)).set (j := 0) (x := .bool sb) BP5 (by decide)).set (j := 1) (x := .slice ab nb cb) BP5.setSame (by decide)
          have hsb := (((kb.set (j := 0) (x := .bool sa) BO4 (by decide)).set (j := 1) (x := .slice aa na ca) BO4.setSame (by decide)).set (j := 0) (x := .bool sb) BP5 (by decide)).set (j := 1) (x := .slice ab nb cb) BP5.setSame (by decide)
          rw [← hu] at hsa hsb
          clear hu
          have lBF := BF.lt; have cBF := BF.cell; have fBF := BF.frozen; have lBG := BG.lt; have cBG := BG.cell; have fBG := BG.frozen; clear BF BG
          exact bodyPost_ret (v := .tuple #[.agg #[.bool sa, .slice aa na ca], .agg #[.bool sb, .slice ab nb cb]]) (by simp [results, Tryz.results57, go_sem, cBF, cBG]) rfl ⟨_, _, rfl, BigV.shut ea hsa, BigV.shut eb hsb, hy⟩
        · obtain ⟨i, rfl⟩ : ∃ i, j = i + 1 := ⟨j - 1, by omega⟩
          have BA1 := BA.ext hxw
          have lBA1 := BA1.lt; have cBA1 := BA1.cell; have fBA1 := BA1.frozen
          have hge0 : (0 : Int) ≤ (i : Int) := by omega
          have hii : (i : Int) < (n1 : Int) := by omega
          have hc1 : ((i + 1 : Nat) : Int) - 1 = (i : Int) := by omega
          rw [hc1]
          --s8
          go_upto_region 14 with fail
          --s10
          go_cut [11] (fun rv z => Ext wr z ∧ RemV z v.heap.size rv (tdD m n i))
          case first =>
            obtain ⟨b, o, rfl, hb, hca⟩ := K1.out wr (hxr.trans hxw) i (by omega)
            have hbl : b < wr.heap.size := by have := hxw.size; omega
            obtain ⟨hsl, hv⟩ := hrem
            have hrow : (wr.alloc (.cells #[i64 (wnD m i)] 2)).ownsRow wr.heap.size 2 1 (.slice (some ⟨wr.heap.size, 0, none⟩) 1 1) 1 [i64 (wnD m i)] := World.ownsRow_lit wr _ 1 (Nat.le_refl _) (by decide) rfl
            have hvw : v.heap.size < wr.heap.size := OA.lt
            have hxa : Ext wr (wr.alloc (.cells #[i64 (wnD m i)] 2)) := (Ext.refl wr).alloc _
            have hdw := wn_ltD m i
            rw [D_eq] at hdw
            obtain ⟨R, hR⟩ : ∃ R, R = m / D ^ (i + 1) % n := ⟨_, rfl⟩
            have HT : Hid (trim (wnD m i :: dg R) = dg (tdD m n i)) := Lib.hid (by
              rw [trim_eq_dg _ (digs_cons.2 ⟨hdw, digs_dg R⟩)]
              congr 1
              show wnD m i + 65536 * dval (dg R) = _
              rw [dval_dg, tdD, ← hR, D_eq]; omega)
            have hRl : (dg R).length ≤ 2000 := (dg_len_le _ _).2 (by
              have h1 := (dg_len_le _ _).1 (HS.out 0 (by omega))
              rw [Nat.pow_zero, Nat.mul_one] at h1
              have h2 : R < n := by rw [hR]; exact Nat.mod_lt _ hm0
              omega)
            rw [← hR] at hsl
            clear hR hrow hdw
            have hrow : (wr.alloc (.cells #[i64 (wnD m i)] 2)).ownsRow wr.heap.size 2 1 (.slice (some ⟨wr.heap.size, 0, none⟩) 1 1) 1 [i64 (wnD m i)] := World.ownsRow_lit wr _ 1 (Nat.le_refl _) (by decide) rfl
            rcases hv with rfl | ⟨b', l, c', rfl, hne⟩
            · have hR0 : dg R = [] := by
                obtain ⟨a, cap, e⟩ := hsl.len
                have : 0 = (dg R).length := by injection e
                exact List.length_eq_zero_iff.1 this.symm
              have hfin := cut_own wr.heap.size 1 1 [wnD m i] (by simp) _ (SlC.own hrow (by simp)) (by simp)
              rw [hR0] at HT
              rw [HT.out] at hfin
              clear hsl hR0 HT hRl
              --s11
              go_wp2_with (first
                | (at_builtin; refine wpList_append_own_none rfl (.tmp 87) (.tmp 88) 31 rfl wr.heap.size 2 j0 1 Tryz.underlying31 hj _ 1 [i64 (wnD m i)] rfl hrow rfl ?_)
                | (go_at_call 93; (with_reducible refine hfin.mono ?_); rintro e z ⟨r, rfl, ⟨hr, l, c, rfl⟩, hz⟩))
              go_meet
              case rel => exact ⟨hxa.trans hz, hr, .inr ⟨_, _, _, rfl, by omega⟩⟩
            · have hll : l = (dg R).length := by
                obtain ⟨a, cap, e⟩ := hsl.len
                cases e; rfl
              subst hll
              have hnl : ((dg R).map i64).length = (dg R).length * 1 := by simp
              have hnews : ∀ t u, ((dg R).map i64)[t]? = some u → (wr.alloc (.cells #[i64 (wnD m i)] 2)).cell? ((⟨b', 0, none⟩ : Addr).add t) = some u := fun t u h => by
                have ht : t < (dg R).length := by
                  rcases Nat.lt_or_ge t (dg R).length with h1 | h1
                  · exact h1
                  · rw [List.getElem?_eq_none (by simpa using h1)] at h; cases h
                rcases hsl.1 with ⟨a, cap, e, e2⟩ | ⟨b2, o2, cap, e, hc⟩
                · rw [e2] at ht; simp at ht
                · cases e
                  have h2 := (hc.ext hxa).at' t ht
                  rw [List.getElem?_map, List.getElem?_eq_getElem ht] at h
                  simp [List.getD_eq_getElem?_getD, List.getElem?_eq_getElem ht] at h2 h
                  subst h
                  rw [show (⟨b', 0, none⟩ : Addr).add t = ⟨b', t, none⟩ by unfold Addr.add; split <;> simp_all]
                  exact h2
              have hone : ∀ u ∈ (dg R).map i64, u.oneCell' = true := fun u h => by
                obtain ⟨x, _, rfl⟩ := List.mem_map.1 h; rfl
              --s13
              go_wp2_with (at_builtin; refine wpList_append_own _ rfl (.tmp 87) (.tmp 88) 31 rfl wr.heap.size 2 j0 (.int .i64 0) 1 8 Tryz.underlying31 hj jz0 jz1 jz2 rfl (by decide) _ 1 _ rfl hrow ⟨b', 0, none⟩ (dg R).length c' ((dg R).map i64) rfl hnl hnews hone ?c3 ?c4 ?c5 ?_)
              case c3 => unfold maxLen; omega
              case c4 => omega
              case c5 => simp
              intro v' w1 hown1 hgrow1 _
              obtain ⟨g', cap', hv', hgb⟩ := row_slice hown1 (by omega)
              rw [hv'] at hown1
              rw [hv']
              have hx1 : Ext wr w1 := Ext.of_below (((Below.refl _ wr).alloc (Nat.le_refl _) _).grown hgrow1 (by simp) (fun k h => by cases h; exact Nat.le_refl _))
              have hown2 : w1.ownsRow wr.heap.size 2 1 (.slice (some ⟨g', 0, none⟩) (1 + (dg R).length) cap') (1 + (dg R).length) ((wnD m i :: dg R).map i64) := hown1
              have hfin := cut_own g' (1 + (dg R).length) cap' (wnD m i :: dg R) (by simp; omega) _ (SlC.own hown2 (by simp; omega)) (by simp; omega)
              rw [HT.out] at hfin
              clear hown1 hown2 hgrow1 hnews hsl hone hv'
              --s14
              go_wp2_with (go_at_call 93; (with_reducible refine hfin.mono ?_); rintro e z ⟨r, rfl, ⟨hr, l, c, rfl⟩, hz⟩)
              go_meet
              case rel => exact ⟨hx1.trans hz, hr, .inr ⟨_, _, _, rfl, by omega⟩⟩
          case rest =>
            obtain ⟨hxc, hremc⟩ := hcut
            have OC := OA.ext hxc
            have hxvc := hxw.trans hxc
            have hT := td_lt m n i hm0
            have HTm := Lib.hid (td_mod m n i)
            have HTd := Lib.hid (td_div m n i hm0)
            rw [D_eq] at hT
            clear hrem OA hxw hxc BA1 lBA1 cBA1 fBA1 hc1
            generalize tdD m n i = T at *
            have O1 : OutAt wc v.heap.size n1 (fun t => if t < i then 0 else if t = i then tqD T n 16 else wnD (m / n) t) := OC.congr (fun t ht => by
              rw [tq_top T n hT]
              by_cases h1 : t < i
              · rw [if_pos h1, if_pos (by omega)]
              · rw [if_neg h1]
                by_cases h2 : t = i
                · rw [if_pos h2, if_pos (by omega)]
                · rw [if_neg h2, if_neg (by omega)])
            rw [← tr_top T n hT] at hremc
            have hTl : ∀ X, X < n * 65536 → (dg X).length ≤ 2000 := fun X hX => (dg_len_le _ _).2 (by
              have h1 := (dg_len_le _ _).1 (HS.out 16 (by omega))
              rw [show (2 : Nat) ^ 16 = 65536 from rfl] at h1
              omega)
            --s12
            go_wp2
            go_loopw [11, 13] (fun rv kv wr => ∃ k : Nat, k ≤ 16 ∧ kv = .int .i64 ((k : Int) - 1) ∧ RemV wr v.heap.size rv (trD T n k) ∧ OutAt wr v.heap.size n1 (fun t => if t < i then 0 else if t = i then tqD T n k else wnD (m / n) t) ∧ Ext v wr) (fun _ kv _ => ((intOf kv) + 1).toNat)
            case atStart => exact ⟨16, by omega, rfl, hremc, O1, hxvc⟩
            case round =>
              clear hremc O1 hxvc OC
              obtain ⟨k, hk16, rfl, hrem, OA, hxw⟩ := hrel
              by_cases hk0 : k = 0
              · subst hk0
                rw [tq_zero, HTd.out] at OA
                rw [tr_zero, HTm.out] at hrem
                --s15
                go_wp2
                go_roundw
                case rel => exact ⟨i, by omega, rfl, hrem, OA.congr (fun t ht => by
                  by_cases h1 : t < i
                  · rw [if_pos h1, if_pos h1]
                  · rw [if_neg h1, if_neg h1]; split
                    · rename_i h2; rw [h2]
                    · rfl), hxw⟩
                case measure => (simp [intOf]; try omega)
              · obtain ⟨k, rfl⟩ : ∃ j, k = j + 1 := ⟨k - 1, by omega⟩
                have hc1 : ((k + 1 : Nat) : Int) - 1 = (k : Int) := by omega
                rw [hc1]
                obtain ⟨x, hxc, hsx⟩ := HDC.out k (by omega)
                have hge0 : (0 : Int) ≤ (k : Int) := by omega
                have hk16' : (k : Int) < 16 := by omega
                have hcell : wr.cell? ⟨g, k, none⟩ = some x := hxw.cell hxc
                have lgr : g < wr.heap.size := by have := hxw.size; omega
                have hN := HS.out k (by omega)
                have hTr : trD T n (k + 1) ≤ T := Nat.mod_le _ _
                have hTL := hTl (trD T n (k + 1)) (by omega)
                have cm := mags_dg (trD T n (k + 1)) (n * 2 ^ k) _ x (by omega) (by omega) wr hrem.1 (hsx.ext hxw)
                by_cases hlt : trD T n (k + 1) < n * 2 ^ k
                · have hc3 : cmp3 (trD T n (k + 1)) (n * 2 ^ k) = -1 := by unfold cmp3; rw [if_pos hlt]
                  rw [hc3] at cm
                  obtain ⟨er, eq⟩ := tr_lt T n k hm0 hlt
                  --s16
                  go_wp2_with (go_at_call 84; (with_reducible refine cm.mono ?_); rintro e z ⟨rfl, hz⟩)
                  --s17
                  go_roundw
                  case rel => exact ⟨k, by omega, rfl, by rw [er]; exact hrem.ext hz, (OA.ext hz).congr (fun t ht => by rw [eq]), hxw.trans hz⟩
                  case measure => (simp [intOf]; try omega)
                · have hc3 : 0 ≤ cmp3 (trD T n (k + 1)) (n * 2 ^ k) := by unfold cmp3; rw [if_neg hlt]; split <;> omega
                  obtain ⟨er, eq⟩ := tr_ge T n k hm0 hlt
                  have OI := OA.cell i (by omega)
                  rw [if_neg (by omega), if_pos rfl] at OI
                  have hgi : v.heap.size < wr.heap.size := OA.lt
                  have cl := fun z hz => less_at (trD T n (k + 1)) (n * 2 ^ k) (by omega) _ x (by omega) (by omega) z (hrem.1.ext hz) (hsx.ext (hxw.trans hz))
                  have hql := tq_le T n k hm0 hT
                  rw [eq] at hql
                  --s18
                  go_wp2_with (go_at_call 84; (with_reducible refine cm.mono ?_); rintro e z ⟨rfl, hz⟩; have hcz := hz.cell hcell; have lgz : g < z.heap.size := (by have := hz.size; omega))
                  --s19
                  go_wp2_with (go_at_call 94; (with_reducible refine (cl _ hz).mono ?_); rintro e z2 ⟨r2, rfl, ⟨hr2, l2, c2', rfl⟩, hz2⟩; have hzz := hz.trans hz2; have OI2 := hzz.cell OI; have hgi2 : v.heap.size < z2.heap.size := (by have := hzz.size; omega); have fO2 := (OA.ext hzz).frozen)
                  have hval : wrap64 (((tqD T n (k + 1) : Nat) : Int) + wrap64 ((2 : Int) ^ k)) = ((tqD T n k : Nat) : Int) := by
                    rw [eq]; exact wrap_bit _ k hql
                  rw [hval]
                  --s20
                  go_roundw
                  case rel =>
                    refine ⟨k, by omega, rfl, RemV.set ⟨by rw [er]; exact hr2, .inr ⟨_, _, _, rfl, by have := hz.size; omega⟩⟩, (OA.ext hzz).set i _ (fun _ => by rw [if_neg (by omega), if_pos rfl]) (fun t ht hne => by rw [if_neg hne, if_neg hne]), (hxw.trans hzz).set (Nat.le_refl _)⟩
                  case measure => (simp [intOf]; try omega)
end Go.Proofs.YtjkchmegnfbfoaaGreatDoor

namespace Go.Proofs.YtjkchmegnfbfoaaGreatDoor
open Go Go.RowKit
set_option linter.unusedSimpArgs false
set_option linter.unusedVariables false
set_option maxRecDepth 100000
set_option exponentiation.threshold 3000

theorem quo_all : QuoOK (2 ^ 520) := fun x y hx hy h0 v1 v2 w h1 h2 => by
  by_cases h : (dg x.natAbs).length ≤ 3 ∧ (dg y.natAbs).length ≤ 3
  · exact bQuo_short x y v1 v2 h.1 h.2 h0 w h1 h2
  · have hb : ∀ n, n < 2 ^ 520 → (dg n).length ≤ 1000 := fun n hn => Nat.le_trans ((dg_len_le n 100).2 (Nat.lt_of_lt_of_le hn (by decide))) (by omega)
    exact bQuo_long x y v1 v2 (hb _ hx) (hb _ hy) h h0 w h1 h2
theorem small_lt {x : Int} (h : x.natAbs < 2 ^ 520) : Small x := small_of (Nat.le_refl _) h
theorem len_lt {x : Int} (h : x.natAbs < 2 ^ 520) : (dg x.natAbs).length ≤ 100000 := small_lt h
theorem B4_520 : B4 < 2 ^ 520 := by decide
theorem B44_512 : B4 * B4 = 2 ^ 512 := by decide
theorem fit_lt {z : Int} (h : z.natAbs < B4) : z.natAbs < 2 ^ 520 := Nat.lt_trans h B4_520
theorem prod_lt {a b : Int} (ha : a.natAbs < B4) (hb : b.natAbs < B4) : (a * b).natAbs < 2 ^ 512 := by
  rw [Int.natAbs_mul, ← B44_512]; exact Nat.mul_lt_mul'' ha hb
theorem p512 : (2 : Nat) ^ 512 + 2 ^ 512 ≤ 2 ^ 520 := by decide
theorem prod_lt' {a b : Int} (ha : a.natAbs < B4) (hb : b.natAbs < B4) : (a * b).natAbs < 2 ^ 520 := Nat.lt_of_lt_of_le (prod_lt ha hb) (by decide)
theorem sum520 {a b : Int} (ha : a.natAbs < 2 ^ 512) (hb : b.natAbs < 2 ^ 512) : (a + b).natAbs < 2 ^ 520 := by have := p512; omega
theorem den_fit {x : Rat} (h : Fits x) : ((x.den : Int)).natAbs < B4 := by simpa using h.2
theorem add_div (x y : Rat) : Rat.divInt (x.num * y.den + y.num * x.den) ((x.den : Int) * y.den) = x + y := by
  rw [← Int.natCast_mul, Rat.divInt_ofNat, add_mk]
theorem mul_div (x y : Rat) : Rat.divInt (x.num * y.num) ((x.den : Int) * y.den) = x * y := by
  rw [← Int.natCast_mul, Rat.divInt_ofNat, mul_mk]
theorem div_div (x y : Rat) (h : y ≠ 0) : Rat.divInt (x.num * y.den) ((x.den : Int) * y.num) = x / y := by
  rw [Rat.div_def, Rat.inv_def, ← Rat.divInt_mul_divInt, Rat.num_divInt_den]
theorem den_prod_ne (x y : Rat) : ((x.den : Int) * y.den) ≠ 0 := Int.mul_ne_zero (by have := x.den_nz; omega) (by have := y.den_nz; omega)
set_option maxHeartbeats 8000000 in
theorem fAdd (x y : Rat) (v1 v2 : Value) (fx : Fits x) (fy : Fits y) (w : World) (h1 : FrQ w v1 x) (h2 : FrQ w v2 y) :
    Calls Tryz.prog 26 #[v1, v2] w (RetB (fun W r => FrQ W r (x + y)) w) := by
  have M1 := fun p q w h1 h2 => bMul x.num y.den p q (len_lt (fit_lt fx.1)) (len_lt (fit_lt (den_fit fy))) w h1 h2
  have M2 := fun p q w h1 h2 => bMul y.num x.den p q (len_lt (fit_lt fy.1)) (len_lt (fit_lt (den_fit fx))) w h1 h2
  have M3 := fun p q w h1 h2 => bMul x.den y.den p q (len_lt (fit_lt (den_fit fx))) (len_lt (fit_lt (den_fit fy))) w h1 h2
  have AD := fun p q w h1 h2 => bAdd (x.num * y.den) (y.num * x.den) p q (small_lt (prod_lt' fx.1 (den_fit fy))) (small_lt (prod_lt' fy.1 (den_fit fx))) w h1 h2
  have MK := fun p q w h1 h2 => fMake (2 ^ 520) (Nat.le_refl _) quo_all (x.num * y.den + y.num * x.den) ((x.den : Int) * y.den) p q (sum520 (prod_lt fx.1 (den_fit fy)) (prod_lt fy.1 (den_fit fx))) (prod_lt' (den_fit fx) (den_fit fy)) (den_prod_ne x y) w h1 h2
  rw [add_div] at MK
  generalize x + y = z at *
  obtain ⟨s11, a11, n11, c11, s12, a12, n12, c12, rfl, VA, VB⟩ := h1
  obtain ⟨s13, a13, n13, c13, s14, a14, n14, c14, rfl, VC, VD⟩ := h2
  generalize x.num = xn at *
  generalize y.num = yn at *
  generalize (x.den : Int) = xd at *
  generalize (y.den : Int) = yd at *
  go_enter Tryz.func26, Tryz.ntmps26
  go_wp2
  refine wp_rebase fun v hv => ?_
  have hx : Ext w v := by rw [hv]; exact (by repeat (first | (with_reducible exact Ext.refl _) | (with_reducible assumption) | (with_reducible apply Ext.grow) | (with_reducible apply Ext.alloc) | (with_reducible apply Ext.drew) | ((with_reducible apply Ext.set); (case hb => (first | omega | (simp; omega))))))
  have BA : Blk v w.heap.size #[.bool s11, .slice a11 n11 c11, .bool s12, .slice a12 n12 c12] 35 := by rw [hv]; exact (by repeat (first | (with_reducible assumption) | ((with_reducible refine Blk.new _ _ _ ?_); (simp; done)) | (with_reducible apply Blk.alloc) | (with_reducible apply Blk.grow) | (with_reducible apply Blk.drew) | (with_reducible apply Blk.set10) | (with_reducible apply Blk.set5) | (with_reducible apply Blk.set4) | (with_reducible apply Blk.tail4) | (with_reducible apply Blk.set2) | (with_reducible apply Blk.set1) | ((with_reducible apply Blk.setOther); (case hne => omega))))
  have BB : Blk v (w.heap.size + 1) #[.bool s13, .slice a13 n13 c13, .bool s14, .slice a14 n14 c14] 35 := by rw [hv]; exact (by repeat (first | (with_reducible assumption) | ((with_reducible refine Blk.new _ _ _ ?_); (simp; done)) | (with_reducible apply Blk.alloc) | (with_reducible apply Blk.grow) | (with_reducible apply Blk.drew) | (with_reducible apply Blk.set10) | (with_reducible apply Blk.set5) | (with_reducible apply Blk.set4) | (with_reducible apply Blk.tail4) | (with_reducible apply Blk.set2) | (with_reducible apply Blk.set1) | ((with_reducible apply Blk.setOther); (case hne => omega))))
  have BO : Blk v (w.heap.size + 1 + 1) #[.bool false, .slice none 0 0, .bool false, .slice none 0 0] 35 := by rw [hv]; exact (by repeat (first | (with_reducible assumption) | ((with_reducible refine Blk.new _ _ _ ?_); (simp; done)) | (with_reducible apply Blk.alloc) | (with_reducible apply Blk.grow) | (with_reducible apply Blk.drew) | (with_reducible apply Blk.set10) | (with_reducible apply Blk.set5) | (with_reducible apply Blk.set4) | (with_reducible apply Blk.tail4) | (with_reducible apply Blk.set2) | (with_reducible apply Blk.set1) | ((with_reducible apply Blk.setOther); (case hne => omega))))
  clear hv
  have lBA := BA.lt; have cBA := BA.cell; have fBA := BA.frozen; have lBB := BB.lt; have cBB := BB.cell; have fBB := BB.frozen; have lBO := BO.lt; have cBO := BO.cell; have fBO := BO.frozen
  replace VA := VA.ext hx; replace VB := VB.ext hx; replace VC := VC.ext hx; replace VD := VD.ext hx
  (first | refine wp_region_h' 17 [0, 1, 2, 3, 5, 6, 7, 8, 11, 12, 13, 14] [4, 9, 10, 15, 16] (by kernel_rfl) (by kernel_rfl) ?_ | refine wp_region_h 17 [0, 1, 2, 3, 5, 6, 7, 8, 11, 12, 13, 14] [4, 9, 10, 15, 16] (by kernel_rfl) (by kernel_rfl) ?_); simp only [List.map_cons, List.map_nil, List.getD_cons_succ, List.getD_cons_zero]; (repeat (refine wpHL_l (fun K hK => ?_); go_simp; refine hK _ ?_; clear hK K)); refine wpHL_nil ?_; intro d0; have hx0 : Ext v (grow v d0) := ⟨d0, rfl⟩; generalize grow v d0 = y0 at *; (refine wpT_c (fun K hK => ?_); go_simp; refine ⟨_, _, ⟨rfl, rfl⟩, ?_⟩; (with_reducible refine (M1 _ _ _ (VA.ext hx0) (VD.ext hx0)).mono ?_); rintro e y1 ⟨r1, rfl, hr1, hz1⟩; have hx1 : Ext v y1 := hx0.trans hz1; refine ⟨_, rfl, hx1, hK _ _ ?_⟩; clear hK K); (refine wpT_c (fun K hK => ?_); go_simp; refine ⟨_, _, ⟨rfl, rfl⟩, ?_⟩; (with_reducible refine (M2 _ _ _ (VC.ext hx1) (VB.ext hx1)).mono ?_); rintro e y2 ⟨r2, rfl, hr2, hz2⟩; have hx2 : Ext v y2 := hx1.trans hz2; refine ⟨_, rfl, hx2, hK _ _ ?_⟩; clear hK K); (refine wpT_c (fun K hK => ?_); go_simp; refine ⟨_, _, ⟨rfl, rfl⟩, ?_⟩; (with_reducible refine (AD _ _ _ (hr1.ext hz2) hr2).mono ?_); rintro e y3 ⟨r3, rfl, hr3, hz3⟩; have hx3 : Ext v y3 := hx2.trans hz3; refine ⟨_, rfl, hx3, hK _ _ ?_⟩; clear hK K); (refine wpT_c (fun K hK => ?_); go_simp; refine ⟨_, _, ⟨rfl, rfl⟩, ?_⟩; (with_reducible refine (M3 _ _ _ (VB.ext hx3) (VD.ext hx3)).mono ?_); rintro e y4 ⟨r4, rfl, hr4, hz4⟩; have hx4 : Ext v y4 := hx3.trans hz4; refine ⟨_, rfl, hx4, hK _ _ ?_⟩; clear hK K); (refine wpT_c (fun K hK => ?_); go_simp; refine ⟨_, _, ⟨rfl, rfl⟩, ?_⟩; (with_reducible refine (MK _ _ _ (hr3.ext hz4) hr4).mono ?_); rintro e y5 ⟨r5, rfl, hr5, hz5⟩; have hx5 : Ext v y5 := hx4.trans hz5; refine ⟨_, rfl, hx5, hK _ _ ?_⟩; clear hK K); refine wpT_nil ?_; simp only [List.drop_succ_cons, List.drop_zero]
  obtain ⟨s8, a8, n8, c8, s9, a9, n9, c9, rfl, W1, W2⟩ := hr5
  have BO2 := BO.ext hx5
  have hxw : Ext w y5 := hx.trans hx5
  have lBO2 := BO2.lt; have cBO2 := BO2.cell; have fBO2 := BO2.frozen
  go_wp2
  refine bp_rebase fun u hu => ?_
  have hy : Ext w u := by rw [hu]; exact (by repeat (first | (with_reducible exact Ext.refl _) | (with_reducible assumption) | (with_reducible apply Ext.grow) | (with_reducible apply Ext.alloc) | (with_reducible apply Ext.drew) | ((with_reducible apply Ext.set); (case hb => (first | omega | (simp; omega))))))
  replace W1 := W1.set4 (x0 := .bool s8) (x1 := .slice a8 n8 c8) (x2 := .bool s9) (x3 := .slice a9 n9 c9) BO2 (by decide)
  replace W2 := W2.set4 (x0 := .bool s8) (x1 := .slice a8 n8 c8) (x2 := .bool s9) (x3 := .slice a9 n9 c9) BO2 (by decide)
  rw [← hu] at W1 W2
  have BF : Blk u (w.heap.size + 1 + 1) #[.bool s8, .slice a8 n8 c8, .bool s9, .slice a9 n9 c9] 35 := by rw [hu]; exact BO2.set4
  clear hu BO2
  have lBF := BF.lt; have cBF := BF.cell; have fBF := BF.frozen; clear BF
  exact bodyPost_ret (v := .agg #[.bool s8, .slice a8 n8 c8, .bool s9, .slice a9 n9 c9]) (by simp [results, Tryz.results26, go_sem, cBF]) rfl ⟨_, rfl, ⟨_, _, _, _, _, _, _, _, rfl, W1, W2⟩, hy⟩
set_option maxHeartbeats 8000000 in
theorem fMul (x y : Rat) (v1 v2 : Value) (fx : Fits x) (fy : Fits y) (w : World) (h1 : FrQ w v1 x) (h2 : FrQ w v2 y) :
    Calls Tryz.prog 28 #[v1, v2] w (RetB (fun W r => FrQ W r (x * y)) w) := by
  have M1 := fun p q w h1 h2 => bMul x.num y.num p q (len_lt (fit_lt fx.1)) (len_lt (fit_lt fy.1)) w h1 h2
  have M3 := fun p q w h1 h2 => bMul x.den y.den p q (len_lt (fit_lt (den_fit fx))) (len_lt (fit_lt (den_fit fy))) w h1 h2
  have MK := fun p q w h1 h2 => fMake (2 ^ 520) (Nat.le_refl _) quo_all (x.num * y.num) ((x.den : Int) * y.den) p q (prod_lt' fx.1 fy.1) (prod_lt' (den_fit fx) (den_fit fy)) (den_prod_ne x y) w h1 h2
  rw [mul_div] at MK
  generalize x * y = z at *
  obtain ⟨s11, a11, n11, c11, s12, a12, n12, c12, rfl, VA, VB⟩ := h1
  obtain ⟨s13, a13, n13, c13, s14, a14, n14, c14, rfl, VC, VD⟩ := h2
  generalize x.num = xn at *
  generalize y.num = yn at *
  generalize (x.den : Int) = xd at *
  generalize (y.den : Int) = yd at *
  go_enter Tryz.func28, Tryz.ntmps28
  go_wp2
  refine wp_rebase fun v hv => ?_
  have hx : Ext w v := by rw [hv]; exact (by repeat (first | (with_reducible exact Ext.refl _) | (with_reducible assumption) | (with_reducible apply Ext.grow) | (with_reducible apply Ext.alloc) | (with_reducible apply Ext.drew) | ((with_reducible apply Ext.set); (case hb => (first | omega | (simp; omega))))))
  have BA : Blk v w.heap.size #[.bool s11, .slice a11 n11 c11, .bool s12, .slice a12 n12 c12] 35 := by rw [hv]; exact (by repeat (first | (with_reducible assumption) | ((with_reducible refine Blk.new _ _ _ ?_); (simp; done)) | (with_reducible apply Blk.alloc) | (with_reducible apply Blk.grow) | (with_reducible apply Blk.drew) | (with_reducible apply Blk.set10) | (with_reducible apply Blk.set5) | (with_reducible apply Blk.set4) | (with_reducible apply Blk.tail4) | (with_reducible apply Blk.set2) | (with_reducible apply Blk.set1) | ((with_reducible apply Blk.setOther); (case hne => omega))))
  have BB : Blk v (w.heap.size + 1) #[.bool s13, .slice a13 n13 c13, .bool s14, .slice a14 n14 c14] 35 := by rw [hv]; exact (by repeat (first | (with_reducible assumption) | ((with_reducible refine Blk.new _ _ _ ?_); (simp; done)) | (with_reducible apply Blk.alloc) | (with_reducible apply Blk.grow) | (with_reducible apply Blk.drew) | (with_reducible apply Blk.set10) | (with_reducible apply Blk.set5) | (with_reducible apply Blk.set4) | (with_reducible apply Blk.tail4) | (with_reducible apply Blk.set2) | (with_reducible apply Blk.set1) | ((with_reducible apply Blk.setOther); (case hne => omega))))
  have BO : Blk v (w.heap.size + 1 + 1) #[.bool false, .slice none 0 0, .bool false, .slice none 0 0] 35 := by rw [hv]; exact (by repeat (first | (with_reducible assumption) | ((with_reducible refine Blk.new _ _ _ ?_); (simp; done)) | (with_reducible apply Blk.alloc) | (with_reducible apply Blk.grow) | (with_reducible apply Blk.drew) | (with_reducible apply Blk.set10) | (with_reducible apply Blk.set5) | (with_reducible apply Blk.set4) | (with_reducible apply Blk.tail4) | (with_reducible apply Blk.set2) | (with_reducible apply Blk.set1) | ((with_reducible apply Blk.setOther); (case hne => omega))))
  clear hv
  have lBA := BA.lt; have cBA := BA.cell; have fBA := BA.frozen; have lBB := BB.lt; have cBB := BB.cell; have fBB := BB.frozen; have lBO := BO.lt; have cBO := BO.cell; have fBO := BO.frozen
  replace VA := VA.ext hx; replace VB := VB.ext hx; replace VC := VC.ext hx; replace VD := VD.ext hx
  (first | refine wp_region_h' 11 [0, 1, 2, 3, 5, 6, 7, 8] [4, 9, 10] (by kernel_rfl) (by kernel_rfl) ?_ | refine wp_region_h 11 [0, 1, 2, 3, 5, 6, 7, 8] [4, 9, 10] (by kernel_rfl) (by kernel_rfl) ?_); simp only [List.map_cons, List.map_nil, List.getD_cons_succ, List.getD_cons_zero]; (repeat (refine wpHL_l (fun K hK => ?_); go_simp; refine hK _ ?_; clear hK K)); refine wpHL_nil ?_; intro d0; have hx0 : Ext v (grow v d0) := ⟨d0, rfl⟩; generalize grow v d0 = y0 at *; (refine wpT_c (fun K hK => ?_); go_simp; refine ⟨_, _, ⟨rfl, rfl⟩, ?_⟩; (with_reducible refine (M1 _ _ _ (VA.ext hx0) (VC.ext hx0)).mono ?_); rintro e y1 ⟨r1, rfl, hr1, hz1⟩; have hx1 : Ext v y1 := hx0.trans hz1; refine ⟨_, rfl, hx1, hK _ _ ?_⟩; clear hK K); (refine wpT_c (fun K hK => ?_); go_simp; refine ⟨_, _, ⟨rfl, rfl⟩, ?_⟩; (with_reducible refine (M3 _ _ _ (VB.ext hx1) (VD.ext hx1)).mono ?_); rintro e y2 ⟨r2, rfl, hr2, hz2⟩; have hx2 : Ext v y2 := hx1.trans hz2; refine ⟨_, rfl, hx2, hK _ _ ?_⟩; clear hK K); (refine wpT_c (fun K hK => ?_); go_simp; refine ⟨_, _, ⟨rfl, rfl⟩, ?_⟩; (with_reducible refine (MK _ _ _ (hr1.ext hz2) hr2).mono ?_); rintro e y3 ⟨r3, rfl, hr3, hz3⟩; have hx3 : Ext v y3 := hx2.trans hz3; refine ⟨_, rfl, hx3, hK _ _ ?_⟩; clear hK K); refine wpT_nil ?_; simp only [List.drop_succ_cons, List.drop_zero]
  obtain ⟨s8, a8, n8, c8, s9, a9, n9, c9, rfl, W1, W2⟩ := hr3
  have BO2 := BO.ext hx3
  have hxw : Ext w y3 := hx.trans hx3
  have lBO2 := BO2.lt; have cBO2 := BO2.cell; have fBO2 := BO2.frozen
  go_wp2
  refine bp_rebase fun u hu => ?_
  have hy : Ext w u := by rw [hu]; exact (by repeat (first | (with_reducible exact Ext.refl _) | (with_reducible assumption) | (with_reducible apply Ext.grow) | (with_reducible apply Ext.alloc) | (with_reducible apply Ext.drew) | ((with_reducible apply Ext.set); (case hb => (first | omega | (simp; omega))))))
  replace W1 := W1.set4 (x0 := .bool s8) (x1 := .slice a8 n8 c8) (x2 := .bool s9) (x3 := .slice a9 n9 c9) BO2 (by decide)
  replace W2 := W2.set4 (x0 := .bool s8) (x1 := .slice a8 n8 c8) (x2 := .bool s9) (x3 := .slice a9 n9 c9) BO2 (by decide)
  rw [← hu] at W1 W2
  have BF : Blk u (w.heap.size + 1 + 1) #[.bool s8, .slice a8 n8 c8, .bool s9, .slice a9 n9 c9] 35 := by rw [hu]; exact BO2.set4
  clear hu BO2
  have lBF := BF.lt; have cBF := BF.cell; have fBF := BF.frozen; clear BF
  exact bodyPost_ret (v := .agg #[.bool s8, .slice a8 n8 c8, .bool s9, .slice a9 n9 c9]) (by simp [results, Tryz.results28, go_sem, cBF]) rfl ⟨_, rfl, ⟨_, _, _, _, _, _, _, _, rfl, W1, W2⟩, hy⟩
set_option maxHeartbeats 8000000 in
theorem fDiv (x y : Rat) (v1 v2 : Value) (fx : Fits x) (fy : Fits y) (h0 : y ≠ 0) (w : World) (h1 : FrQ w v1 x) (h2 : FrQ w v2 y) :
    Calls Tryz.prog 30 #[v1, v2] w (RetB (fun W r => FrQ W r (x / y)) w) := by
  have M1 := fun p q w h1 h2 => bMul x.num y.den p q (len_lt (fit_lt fx.1)) (len_lt (fit_lt (den_fit fy))) w h1 h2
  have M3 := fun p q w h1 h2 => bMul x.den y.num p q (len_lt (fit_lt (den_fit fx))) (len_lt (fit_lt fy.1)) w h1 h2
  have MK := fun p q w h1 h2 => fMake (2 ^ 520) (Nat.le_refl _) quo_all (x.num * y.den) ((x.den : Int) * y.num) p q (prod_lt' fx.1 (den_fit fy)) (prod_lt' (den_fit fx) fy.1) (Int.mul_ne_zero (by have := x.den_nz; omega) (by rw [ne_eq, Rat.num_eq_zero]; exact h0)) w h1 h2
  rw [div_div x y h0] at MK
  clear h0
  generalize x / y = z at *
  obtain ⟨s11, a11, n11, c11, s12, a12, n12, c12, rfl, VA, VB⟩ := h1
  obtain ⟨s13, a13, n13, c13, s14, a14, n14, c14, rfl, VC, VD⟩ := h2
  generalize x.num = xn at *
  generalize y.num = yn at *
  generalize (x.den : Int) = xd at *
  generalize (y.den : Int) = yd at *
  go_enter Tryz.func30, Tryz.ntmps30
  go_wp2
  refine wp_rebase fun v hv => ?_
  have hx : Ext w v := by rw [hv]; exact (by repeat (first | (with_reducible exact Ext.refl _) | (with_reducible assumption) | (with_reducible apply Ext.grow) | (with_reducible apply Ext.alloc) | (with_reducible apply Ext.drew) | ((with_reducible apply Ext.set); (case hb => (first | omega | (simp; omega))))))
  have BA : Blk v w.heap.size #[.bool s11, .slice a11 n11 c11, .bool s12, .slice a12 n12 c12] 35 := by rw [hv]; exact (by repeat (first | (with_reducible assumption) | ((with_reducible refine Blk.new _ _ _ ?_); (simp; done)) | (with_reducible apply Blk.alloc) | (with_reducible apply Blk.grow) | (with_reducible apply Blk.drew) | (with_reducible apply Blk.set10) | (with_reducible apply Blk.set5) | (with_reducible apply Blk.set4) | (with_reducible apply Blk.tail4) | (with_reducible apply Blk.set2) | (with_reducible apply Blk.set1) | ((with_reducible apply Blk.setOther); (case hne => omega))))
  have BB : Blk v (w.heap.size + 1) #[.bool s13, .slice a13 n13 c13, .bool s14, .slice a14 n14 c14] 35 := by rw [hv]; exact (by repeat (first | (with_reducible assumption) | ((with_reducible refine Blk.new _ _ _ ?_); (simp; done)) | (with_reducible apply Blk.alloc) | (with_reducible apply Blk.grow) | (with_reducible apply Blk.drew) | (with_reducible apply Blk.set10) | (with_reducible apply Blk.set5) | (with_reducible apply Blk.set4) | (with_reducible apply Blk.tail4) | (with_reducible apply Blk.set2) | (with_reducible apply Blk.set1) | ((with_reducible apply Blk.setOther); (case hne => omega))))
  have BO : Blk v (w.heap.size + 1 + 1) #[.bool false, .slice none 0 0, .bool false, .slice none 0 0] 35 := by rw [hv]; exact (by repeat (first | (with_reducible assumption) | ((with_reducible refine Blk.new _ _ _ ?_); (simp; done)) | (with_reducible apply Blk.alloc) | (with_reducible apply Blk.grow) | (with_reducible apply Blk.drew) | (with_reducible apply Blk.set10) | (with_reducible apply Blk.set5) | (with_reducible apply Blk.set4) | (with_reducible apply Blk.tail4) | (with_reducible apply Blk.set2) | (with_reducible apply Blk.set1) | ((with_reducible apply Blk.setOther); (case hne => omega))))
  clear hv
  have lBA := BA.lt; have cBA := BA.cell; have fBA := BA.frozen; have lBB := BB.lt; have cBB := BB.cell; have fBB := BB.frozen; have lBO := BO.lt; have cBO := BO.cell; have fBO := BO.frozen
  replace VA := VA.ext hx; replace VB := VB.ext hx; replace VC := VC.ext hx; replace VD := VD.ext hx
  (first | refine wp_region_h' 11 [0, 1, 2, 3, 5, 6, 7, 8] [4, 9, 10] (by kernel_rfl) (by kernel_rfl) ?_ | refine wp_region_h 11 [0, 1, 2, 3, 5, 6, 7, 8] [4, 9, 10] (by kernel_rfl) (by kernel_rfl) ?_); simp only [List.map_cons, List.map_nil, List.getD_cons_succ, List.getD_cons_zero]; (repeat (refine wpHL_l (fun K hK => ?_); go_simp; refine hK _ ?_; clear hK K)); refine wpHL_nil ?_; intro d0; have hx0 : Ext v (grow v d0) := ⟨d0, rfl⟩; generalize grow v d0 = y0 at *; (refine wpT_c (fun K hK => ?_); go_simp; refine ⟨_, _, ⟨rfl, rfl⟩, ?_⟩; (with_reducible refine (M1 _ _ _ (VA.ext hx0) (VD.ext hx0)).mono ?_); rintro e y1 ⟨r1, rfl, hr1, hz1⟩; have hx1 : Ext v y1 := hx0.trans hz1; refine ⟨_, rfl, hx1, hK _ _ ?_⟩; clear hK K); (refine wpT_c (fun K hK => ?_); go_simp; refine ⟨_, _, ⟨rfl, rfl⟩, ?_⟩; (with_reducible refine (M3 _ _ _ (VB.ext hx1) (VC.ext hx1)).mono ?_); rintro e y2 ⟨r2, rfl, hr2, hz2⟩; have hx2 : Ext v y2 := hx1.trans hz2; refine ⟨_, rfl, hx2, hK _ _ ?_⟩; clear hK K); (refine wpT_c (fun K hK => ?_); go_simp; refine ⟨_, _, ⟨rfl, rfl⟩, ?_⟩; (with_reducible refine (MK _ _ _ (hr1.ext hz2) hr2).mono ?_); rintro e y3 ⟨r3, rfl, hr3, hz3⟩; have hx3 : Ext v y3 := hx2.trans hz3; refine ⟨_, rfl, hx3, hK _ _ ?_⟩; clear hK K); refine wpT_nil ?_; simp only [List.drop_succ_cons, List.drop_zero]
  obtain ⟨s8, a8, n8, c8, s9, a9, n9, c9, rfl, W1, W2⟩ := hr3
  have BO2 := BO.ext hx3
  have hxw : Ext w y3 := hx.trans hx3
  have lBO2 := BO2.lt; have cBO2 := BO2.cell; have fBO2 := BO2.frozen
  go_wp2
  refine bp_rebase fun u hu => ?_
  have hy : Ext w u := by rw [hu]; exact (by repeat (first | (with_reducible exact Ext.refl _) | (with_reducible assumption) | (with_reducible apply Ext.grow) | (with_reducible apply Ext.alloc) | (with_reducible apply Ext.drew) | ((with_reducible apply Ext.set); (case hb => (first | omega | (simp; omega))))))
  replace W1 := W1.set4 (x0 := .bool s8) (x1 := .slice a8 n8 c8) (x2 := .bool s9) (x3 := .slice a9 n9 c9) BO2 (by decide)
  replace W2 := W2.set4 (x0 := .bool s8) (x1 := .slice a8 n8 c8) (x2 := .bool s9) (x3 := .slice a9 n9 c9) BO2 (by decide)
  rw [← hu] at W1 W2
  have BF : Blk u (w.heap.size + 1 + 1) #[.bool s8, .slice a8 n8 c8, .bool s9, .slice a9 n9 c9] 35 := by rw [hu]; exact BO2.set4
  clear hu BO2
  have lBF := BF.lt; have cBF := BF.cell; have fBF := BF.frozen; clear BF
  exact bodyPost_ret (v := .agg #[.bool s8, .slice a8 n8 c8, .bool s9, .slice a9 n9 c9]) (by simp [results, Tryz.results30, go_sem, cBF]) rfl ⟨_, rfl, ⟨_, _, _, _, _, _, _, _, rfl, W1, W2⟩, hy⟩
theorem cmp_prod (x y : Rat) : cmpI (x.num * y.den) (y.num * x.den) = cmpQ x y := by
  rw [cmpQ_eq]; unfold cmpI
  rcases Int.lt_trichotomy (x.num * y.den) (y.num * x.den) with h | h | h
  · rw [if_pos h, if_pos (by omega)]
  · rw [if_neg (by omega), if_neg (by omega), if_neg (by omega), if_pos (by omega)]
  · rw [if_neg (by omega), if_pos h, if_neg (by omega), if_neg (by omega)]
set_option maxHeartbeats 8000000 in
theorem fCmp (x y : Rat) (v1 v2 : Value) (fx : Fits x) (fy : Fits y) (w : World) (h1 : FrQ w v1 x) (h2 : FrQ w v2 y) :
    Calls Tryz.prog 33 #[v1, v2] w (fun e w' => e = .returned (.int .i64 (cmpQ x y)) ∧ Ext w w') := by
  have M1 := fun p q w h1 h2 => bMul x.num y.den p q (len_lt (fit_lt fx.1)) (len_lt (fit_lt (den_fit fy))) w h1 h2
  have M2 := fun p q w h1 h2 => bMul y.num x.den p q (len_lt (fit_lt fy.1)) (len_lt (fit_lt (den_fit fx))) w h1 h2
  have CC := fun p q w h1 h2 => bCmp (x.num * y.den) (y.num * x.den) p q (small_lt (prod_lt' fx.1 (den_fit fy))) (small_lt (prod_lt' fy.1 (den_fit fx))) w h1 h2
  rw [cmp_prod] at CC
  generalize cmpQ x y = z at *
  obtain ⟨s11, a11, n11, c11, s12, a12, n12, c12, rfl, VA, VB⟩ := h1
  obtain ⟨s13, a13, n13, c13, s14, a14, n14, c14, rfl, VC, VD⟩ := h2
  generalize x.num = xn at *
  generalize y.num = yn at *
  generalize (x.den : Int) = xd at *
  generalize (y.den : Int) = yd at *
  go_enter Tryz.func33, Tryz.ntmps33
  go_wp2
  refine wp_rebase fun v hv => ?_
  have hx : Ext w v := by rw [hv]; exact (by repeat (first | (with_reducible exact Ext.refl _) | (with_reducible assumption) | (with_reducible apply Ext.grow) | (with_reducible apply Ext.alloc) | (with_reducible apply Ext.drew) | ((with_reducible apply Ext.set); (case hb => (first | omega | (simp; omega))))))
  have BA : Blk v w.heap.size #[.bool s11, .slice a11 n11 c11, .bool s12, .slice a12 n12 c12] 35 := by rw [hv]; exact (by repeat (first | (with_reducible assumption) | ((with_reducible refine Blk.new _ _ _ ?_); (simp; done)) | (with_reducible apply Blk.alloc) | (with_reducible apply Blk.grow) | (with_reducible apply Blk.drew) | (with_reducible apply Blk.set10) | (with_reducible apply Blk.set5) | (with_reducible apply Blk.set4) | (with_reducible apply Blk.tail4) | (with_reducible apply Blk.set2) | (with_reducible apply Blk.set1) | ((with_reducible apply Blk.setOther); (case hne => omega))))
  have BB : Blk v (w.heap.size + 1) #[.bool s13, .slice a13 n13 c13, .bool s14, .slice a14 n14 c14] 35 := by rw [hv]; exact (by repeat (first | (with_reducible assumption) | ((with_reducible refine Blk.new _ _ _ ?_); (simp; done)) | (with_reducible apply Blk.alloc) | (with_reducible apply Blk.grow) | (with_reducible apply Blk.drew) | (with_reducible apply Blk.set10) | (with_reducible apply Blk.set5) | (with_reducible apply Blk.set4) | (with_reducible apply Blk.tail4) | (with_reducible apply Blk.set2) | (with_reducible apply Blk.set1) | ((with_reducible apply Blk.setOther); (case hne => omega))))
  clear hv
  have lBA := BA.lt; have cBA := BA.cell; have fBA := BA.frozen; have lBB := BB.lt; have cBB := BB.cell; have fBB := BB.frozen
  replace VA := VA.ext hx; replace VB := VB.ext hx; replace VC := VC.ext hx; replace VD := VD.ext hx
  (first | refine wp_region_h' 11 [0, 1, 2, 3, 5, 6, 7, 8] [4, 9, 10] (by kernel_rfl) (by kernel_rfl) ?_ | refine wp_region_h 11 [0, 1, 2, 3, 5, 6, 7, 8] [4, 9, 10] (by kernel_rfl) (by kernel_rfl) ?_); simp only [List.map_cons, List.map_nil, List.getD_cons_succ, List.getD_cons_zero]; (repeat (refine wpHL_l (fun K hK => ?_); go_simp; refine hK _ ?_; clear hK K)); refine wpHL_nil ?_; intro d0; have hx0 : Ext v (grow v d0) := ⟨d0, rfl⟩; generalize grow v d0 = y0 at *; (refine wpT_c (fun K hK => ?_); go_simp; refine ⟨_, _, ⟨rfl, rfl⟩, ?_⟩; (with_reducible refine (M1 _ _ _ (VA.ext hx0) (VD.ext hx0)).mono ?_); rintro e y1 ⟨r1, rfl, hr1, hz1⟩; have hx1 : Ext v y1 := hx0.trans hz1; refine ⟨_, rfl, hx1, hK _ _ ?_⟩; clear hK K); (refine wpT_c (fun K hK => ?_); go_simp; refine ⟨_, _, ⟨rfl, rfl⟩, ?_⟩; (with_reducible refine (M2 _ _ _ (VC.ext hx1) (VB.ext hx1)).mono ?_); rintro e y2 ⟨r2, rfl, hr2, hz2⟩; have hx2 : Ext v y2 := hx1.trans hz2; refine ⟨_, rfl, hx2, hK _ _ ?_⟩; clear hK K); (refine wpT_c (fun K hK => ?_); go_simp; refine ⟨_, _, ⟨rfl, rfl⟩, ?_⟩; (with_reducible refine (CC _ _ _ (hr1.ext hz2) hr2).mono ?_); rintro e y3 ⟨rfl, hz3⟩; have hx3 : Ext v y3 := hx2.trans hz3; refine ⟨_, rfl, hx3, hK _ _ ?_⟩; clear hK K); refine wpT_nil ?_; simp only [List.drop_succ_cons, List.drop_zero]
  go_wp2
  exact bodyPost_ret (v := .int .i64 z) (by simp [results, Tryz.results33, go_sem]) rfl ⟨rfl, hx.trans hx3⟩
end Go.Proofs.YtjkchmegnfbfoaaGreatDoor
