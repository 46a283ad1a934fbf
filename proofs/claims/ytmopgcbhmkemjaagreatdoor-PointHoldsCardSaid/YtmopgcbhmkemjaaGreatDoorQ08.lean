/- The references' numbers: the greatest common divisor. Products digit by digit: plain arithmetic. The references' numbers: products. The references' numbers: products, the walk. Quotients digit by digit, and each digit bit by bit: plain arithmetic. The references' numbers: quotients digit by digit. The references' fractions: n by d. The references: numbers and fractions as the program's. The references' fractions over rationals; of and whole of the laws. -/
import Derived.Test.YtmopgcbhmkemjaaGreatDoorProg
import Derived.Test.YtmopgcbhmkemjaaGreatDoorQ07
import Derived.Test.YtmopgcbhmkemjaaGreatDoorQ05
import Derived.Deep.DeepCutAuto
import Derived.Laws.AppendOwnNone
import Derived.Test.YtmopgcbhmkemjaaGreatDoorQ04
namespace Go.Proofs.YtmopgcbhmkemjaaGreatDoor
open Go Go.RowKit
set_option linter.unusedSimpArgs false
set_option linter.unusedVariables false
set_option maxRecDepth 100000
set_option exponentiation.threshold 3000

theorem two_mod (x y : Nat) (hy : 0 < y) (h : y ≤ x) : 2 * (x % y) ≤ x := by
  have h1 := Nat.mod_lt x hy
  have h2 := Nat.div_add_mod x y
  have h3 : 1 ≤ x / y := (Nat.one_le_div_iff hy).2 h
  have h4 : y ≤ y * (x / y) := Nat.le_mul_of_pos_right _ h3
  omega
/-- What bounds the rounds of Euclid's way. -/
def Euc (M k x y : Nat) : Prop := (k = 0 ∧ x * y ≤ M) ∨ (y < x ∧ x * y * 2 ^ k ≤ 2 * M)
theorem Euc.step {M k x y : Nat} (h : Euc M k x y) (hy : 0 < y) : Euc M (k + 1) y (x % y) := by
  refine .inr ⟨Nat.mod_lt _ hy, ?_⟩
  rcases h with ⟨rfl, h⟩ | ⟨h1, h2⟩
  · have : y * (x % y) ≤ x * y := by rw [Nat.mul_comm x y]; exact Nat.mul_le_mul_left _ (Nat.mod_le _ _)
    omega
  · have h3 := two_mod x y hy (by omega)
    have h4 : y * (x % y) * 2 ^ (k + 1) = y * (2 * (x % y)) * 2 ^ k := by
      rw [Nat.pow_succ]; simp only [Nat.mul_assoc, Nat.mul_comm, Nat.mul_left_comm]
    rw [h4]
    refine Nat.le_trans (Nat.mul_le_mul_right _ (Nat.mul_le_mul_left _ h3)) ?_
    rw [Nat.mul_comm y x]; exact h2
theorem Euc.bound {k x y : Nat} (h : Euc (2 ^ 1040) k x y) (hy : 0 < y) : k < 2000 := by
  rcases h with ⟨rfl, _⟩ | ⟨h1, h2⟩
  · omega
  · have h3 : 2 ^ k ≤ x * y * 2 ^ k := Nat.le_mul_of_pos_left _ (Nat.mul_pos (by omega) hy)
    have h4 : 2 ^ k ≤ 2 ^ 1041 := Nat.le_trans h3 (by rw [show (2 : Nat) ^ 1041 = 2 * 2 ^ 1040 by rw [Nat.pow_succ, Nat.mul_comm]]; exact h2)
    have := (Nat.pow_le_pow_iff_right (by omega : 1 < 2)).1 h4
    omega
theorem BigV.parts {W : World} {s : Bool} {a : Option Addr} {n c : Nat} {z : Int} (h : BigV W (.agg #[.bool s, .slice a n c]) z) : s = decide (z < 0) ∧ n = (dg z.natAbs).length ∧ SlC W (.slice a n c) (dg z.natAbs) := by
  obtain ⟨sl, e, ks⟩ := h
  have e1 : (#[.bool s, .slice a n c] : Array Value) = #[.bool (decide (z < 0)), sl] := by injection e
  have e2 : s = decide (z < 0) ∧ Value.slice a n c = sl := by simpa using e1
  obtain ⟨rfl, rfl⟩ := e2
  obtain ⟨a', cap, e3⟩ := ks.len
  cases e3
  exact ⟨rfl, rfl, ks⟩
theorem BigV.set {W : World} {v : Value} {z : Int} {k j : Nat} {cs : Array Value} {T : TypeId} {x : Value} (h : BigV W v z) (hB : Blk W k cs T) (hT : T ≠ 2) : BigV (W.setCell ⟨k, j, none⟩ x) v z := by
  obtain ⟨sl, h1, h2⟩ := h; exact ⟨sl, h1, h2.set hB hT⟩
abbrev bigC (s : Bool) (a : Option Addr) (n c : Nat) : Array Value := #[.bool s, .slice a n c]
set_option maxHeartbeats 8000000 in
theorem bGcd (N : Nat) (hN : N ≤ 2 ^ 520) (hQ : ∀ x y : Nat, x < N → y < N → y ≠ 0 → ∀ v1 v2 w, BigV w v1 (x : Int) → BigV w v2 (y : Int) → Calls Tryz.prog 87 #[v1, v2] w (RetQ x y w))
    (x y : Int) (v1 v2 : Value) (hx : x.natAbs < N) (hy : y.natAbs < N) (w : World) (h1 : BigV w v1 x) (h2 : BigV w v2 y) :
    Calls Tryz.prog 74 #[v1, v2] w (RetB (fun W r => BigV W r (Nat.gcd x.natAbs y.natAbs : Nat)) w) := by
  have small : ∀ m, m < N → (dg m).length ≤ 100 := fun m h => (dg_len_le m 100).2 (Nat.lt_of_lt_of_le (Nat.lt_of_lt_of_le h hN) (by decide))
  obtain ⟨t1, a1, n1, c1, rfl, e1, k1⟩ := h1.opened
  obtain ⟨t2, a2, n2, c2, rfl, e2, k2⟩ := h2.opened
  clear h1 h2 e1 e2
  generalize x.natAbs = m at *
  generalize y.natAbs = n at *
  have OA := fun w h => of_ret false (.slice a1 n1 c1) (dg m) (by have := small m hx; omega) (digs_dg _) w h
  have OB := fun w h => of_ret false (.slice a2 n2 c2) (dg n) (by have := small n hy; omega) (digs_dg _) w h
  simp only [dval_dg, sv_false] at OA OB
  have HE : Euc (2 ^ 1040) 0 m n := .inl ⟨rfl, by
    have : m * n ≤ 2 ^ 520 * 2 ^ 520 := Nat.mul_le_mul (by omega) (by omega)
    rw [show (2 : Nat) ^ 1040 = 2 ^ 520 * 2 ^ 520 by rw [← Nat.pow_add]]; exact this⟩
  have HE := Lib.hid HE
  have HX := Lib.hid hx
  have HY := Lib.hid hy
  have HS := Lib.hid small
  have HG : Hid (Nat.gcd m n = Nat.gcd m n) := Lib.hid rfl
  clear small hx hy hN x y
  go_enter Tryz.func74, Tryz.ntmps74
  go_wp2
  refine wp_rebase fun v hv => ?_
  have hx : Ext w v := by rw [hv]; exact ext_auto
  have BA : Blk v w.heap.size #[.bool t1, .slice a1 n1 c1] 42 := by rw [hv]; exact blk_auto
  have BB : Blk v (w.heap.size + 1) #[.bool t2, .slice a2 n2 c2] 42 := by rw [hv]; exact blk_auto
  have BO : Blk v (w.heap.size + 1 + 1) #[.bool false, .slice none 0 0] 42 := by rw [hv]; exact blk_auto
  clear hv
  have lBA := BA.lt; have cBA := BA.cell; have fBA := BA.frozen; have lBB := BB.lt; have cBB := BB.cell; have fBB := BB.frozen; have lBO := BO.lt; have cBO := BO.cell; have fBO := BO.frozen
  (first | refine wp_region_h' 6 [0, 1, 3, 4] [2, 5] (by kernel_rfl) (by kernel_rfl) ?_ | refine wp_region_h 6 [0, 1, 3, 4] [2, 5] (by kernel_rfl) (by kernel_rfl) ?_); simp only [List.map_cons, List.map_nil, List.getD_cons_succ, List.getD_cons_zero]; (repeat (refine wpHL_l (fun K hK => ?_); go_simp; refine hK _ ?_; clear hK K)); refine wpHL_nil ?_; intro d0; have hx0 : Ext v (grow v d0) := ⟨d0, rfl⟩; generalize grow v d0 = y0 at *; (refine wpT_c (fun K hK => ?_); go_simp; refine ⟨_, _, ⟨rfl, rfl⟩, ?_⟩; (with_reducible refine (OA _ (k1.ext (hx.trans hx0))).mono ?_); rintro e y1 ⟨r1, rfl, hr1, hz1⟩; have hx1 : Ext v y1 := hx0.trans hz1; refine ⟨_, rfl, hx1, hK _ _ ?_⟩; clear hK K); (refine wpT_c (fun K hK => ?_); go_simp; refine ⟨_, _, ⟨rfl, rfl⟩, ?_⟩; (with_reducible refine (OB _ (k2.ext (hx.trans hx1))).mono ?_); rintro e y2 ⟨r2, rfl, hr2, hz2⟩; have hx2 : Ext v y2 := hx1.trans hz2; refine ⟨_, rfl, hx2, hK _ _ ?_⟩; clear hK K); refine wpT_nil ?_; simp only [List.drop_succ_cons, List.drop_zero]
  obtain ⟨sa, aa, na, ca, rfl, ea, ka⟩ := (hr1.ext hz2).opened
  obtain ⟨sb, ab, nb, cb, rfl, eb, kb⟩ := hr2.opened
  have BA2 := BA.ext hx2
  have BB2 := BB.ext hx2
  have BO2 := BO.ext hx2
  have hxn : Ext w y2 := hx.trans hx2
  have lBA2 := BA2.lt; have cBA2 := BA2.cell; have fBA2 := BA2.frozen; have lBB2 := BB2.lt; have cBB2 := BB2.cell; have fBB2 := BB2.frozen; have lBO2 := BO2.lt; have cBO2 := BO2.cell; have fBO2 := BO2.frozen
  go_wp2
  refine wp_rebase fun v3 hv => ?_
  have hx3 : Ext w v3 := by rw [hv]; exact ext_auto
  have BA3 : Blk v3 w.heap.size #[.bool sa, .slice aa na ca] 42 := by rw [hv]; exact blk_auto
  have BB3 : Blk v3 (w.heap.size + 1) #[.bool sb, .slice ab nb cb] 42 := by rw [hv]; exact blk_auto
  have BO3 : Blk v3 (w.heap.size + 1 + 1) #[.bool false, .slice none 0 0] 42 := by rw [hv]; exact blk_auto
  have BB4 : Blk ((y2.setCell ⟨w.heap.size, 0, none⟩ (.bool sa)).setCell ⟨w.heap.size, 1, none⟩ (.slice aa na ca)) (w.heap.size + 1) _ _ := (BB2.setOther (by omega)).setOther (by omega)
  have VA := ((((BigV.shut ea ka).set (j := 0) (x := .bool sa) BA2 (by decide)).set (j := 1) (x := .slice aa na ca) BA2.setSame (by decide)).set (j := 0) (x := .bool sb) BB4 (by decide)).set (j := 1) (x := .slice ab nb cb) BB4.setSame (by decide)
  have VB := ((((BigV.shut eb kb).set (j := 0) (x := .bool sa) BA2 (by decide)).set (j := 1) (x := .slice aa na ca) BA2.setSame (by decide)).set (j := 0) (x := .bool sb) BB4 (by decide)).set (j := 1) (x := .slice ab nb cb) BB4.setSame (by decide)
  rw [← hv] at VA VB
  clear hv BB4 BA BB BO BA2 BB2 BO2 lBA cBA fBA lBB cBB fBB lBO cBO fBO lBA2 cBA2 fBA2 lBB2 cBB2 fBB2 lBO2 cBO2 fBO2 hr1 hr2 ka kb hx0 hx1 hx2 hz1 hz2 hxn hx OA OB k1 k2
  go_loopg [5] n (fun g iv wr => ∃ (k X Y : Nat) (s : Bool) (a : Option Addr) (p c : Nat) (s' : Bool) (a' : Option Addr) (p' c' : Nat), iv = .int .i64 k ∧ g = Y ∧ Hid (Euc (2 ^ 1040) k X Y ∧ X < N ∧ Y < N ∧ Nat.gcd X Y = Nat.gcd m n) ∧ Ext w wr ∧
      Blk wr w.heap.size (bigC s a p c) 42 ∧ Blk wr (w.heap.size + 1) (bigC s' a' p' c') 42 ∧ Blk wr (w.heap.size + 1 + 1) #[.bool false, .slice none 0 0] 42 ∧
      BigV wr (.agg (bigC s a p c)) X ∧ BigV wr (.agg (bigC s' a' p' c')) Y)
  case atStart => exact ⟨0, m, n, sa, aa, na, ca, sb, ab, nb, cb, rfl, rfl, Lib.hid ⟨HE.out, HX.out, HY.out, rfl⟩, hx3, BA3, BB3, BO3, VA, VB⟩
  case round =>
    clear VA VB BA3 BB3 BO3 hx3
    obtain ⟨k, X, Y, s, a, p, c, s', a', p', c', rfl, rfl, HI, hxr, BA, BB, BO, VA, VB⟩ := hrel
    obtain ⟨q1, q2, q3⟩ := VB.parts
    obtain ⟨q4, q5, q6⟩ := VA.parts
    by_cases h0 : gk = 0
    · subst h0
      have hp0 : p' = 0 := by rw [q2]; simp [dg_zero]
      subst hp0
      have hz : Hid ((X : Int) = ((Nat.gcd m n : Nat) : Int)) := by
        have := HI.out.2.2.2; rw [Nat.gcd_zero_right] at this; exact Lib.hid (by rw [this])
      have VA' : BigV wr (.agg (bigC s a p c)) ((Nat.gcd m n : Nat) : Int) := by rw [← hz.out]; exact VA
      clear q1 q2 q3 q4 q5 q6 VA VB hz HI HE HX HY HS HG hQ
      have lBA := BA.lt; have cBA := BA.cell; have fBA := BA.frozen; have lBB := BB.lt; have cBB := BB.cell; have fBB := BB.frozen; have lBO := BO.lt; have cBO := BO.cell; have fBO := BO.frozen
      go_wp2
      all_goals
        refine bp_rebase fun u hu => ?_
        have hy : Ext w u := by rw [hu]; exact ext_auto
        have VU := (VA'.set (j := 0) (x := .bool s) BO (by decide)).set (j := 1) (x := .slice a p c) BO.setSame (by decide)
        rw [← hu] at VU
        have BF : Blk u (w.heap.size + 1 + 1) #[.bool s, .slice a p c] 42 := by rw [hu]; exact blk_auto
        clear hu
        have lBF := BF.lt; have cBF := BF.cell; have fBF := BF.frozen; clear BF
        exact bodyPost_ret (v := .agg #[.bool s, .slice a p c]) (by simp [results, Tryz.results74, go_sem, cBF]) rfl ⟨_, rfl, VU, hy⟩
    · have hp0 : 0 < p' := by
        rw [q2]; have := dg_nil (gk : Int).natAbs
        have h1 : dg (gk : Int).natAbs ≠ [] := fun h => by have := this.1 h; omega
        exact List.length_pos_iff.2 h1
      have hp1 : p' ≤ 100 := by rw [q2]; exact HS.out _ (by simpa using HI.out.2.2.1)
      have hk2 : k < 2000 := HI.out.1.bound (by omega)
      have cq := fun w h1 h2 => hQ X gk HI.out.2.1 HI.out.2.2.1 h0 (.agg (bigC s a p c)) (.agg (bigC s' a' p' c')) w h1 h2
      have HR := Lib.hid (tmod_nat X gk)
      unfold RetQ at cq
      rw [HR.out] at cq
      have HI' : Hid (Euc (2 ^ 1040) (k + 1) gk (X % gk) ∧ gk < N ∧ X % gk < N ∧ Nat.gcd gk (X % gk) = Nat.gcd m n ∧ X % gk < gk) := Lib.hid ⟨HI.out.1.step (by omega), HI.out.2.2.1, Nat.lt_of_le_of_lt (Nat.mod_le _ _) HI.out.2.1, by
        have := HI.out.2.2.2; rw [← this, Nat.gcd_comm X gk, Nat.gcd_rec gk X, Nat.gcd_comm], Nat.mod_lt _ (by omega)⟩
      generalize X % gk = R at *
      clear q1 q2 q3 q4 q5 q6 HI HE HX HY HS HG hQ HR
      have lBA := BA.lt; have cBA := BA.cell; have fBA := BA.frozen; have lBB := BB.lt; have cBB := BB.cell; have fBB := BB.frozen; have lBO := BO.lt; have cBO := BO.cell; have fBO := BO.frozen
      go_wp2_with (go_at_call 87; refine (cq _ VA VB).mono ?_; rintro e z ⟨r1, r2, rfl, hr1, hr2, hz⟩; obtain ⟨sa2, aa2, na2, ca2, rfl, ea2, ka2⟩ := hr1.opened; obtain ⟨sb2, ab2, nb2, cb2, rfl, eb2, kb2⟩ := hr2.opened; have VZ := VB.ext hz; have BAz := BA.ext hz; have BBz := BB.ext hz; have BOz := BO.ext hz; have hxz := hxr.trans hz; have lBAz := BAz.lt; have cBAz := BAz.cell; have fBAz := BAz.frozen; have lBBz := BBz.lt; have cBBz := BBz.cell; have fBBz := BBz.frozen; have lBOz := BOz.lt; have cBOz := BOz.cell; have fBOz := BOz.frozen)
      refine wp_rebase fun v5 hv => ?_
      have hx5 : Ext w v5 := by rw [hv]; exact ext_auto
      have BA5 : Blk v5 w.heap.size #[.bool s, .slice a p c] 42 := by rw [hv]; exact blk_auto
      have BB5 : Blk v5 (w.heap.size + 1) #[.bool s', .slice a' p' c'] 42 := by rw [hv]; exact blk_auto
      have BO5 : Blk v5 (w.heap.size + 1 + 1) #[.bool false, .slice none 0 0] 42 := by rw [hv]; exact blk_auto
      have hzz : Ext z v5 := by rw [hv]; exact ext_auto
      have lz := BBz.lt
      have n1' : z.heap.size + 1 ≠ w.heap.size := by omega
      have n2' : z.heap.size + 1 ≠ w.heap.size + 1 := by omega
      have B75 : Blk v5 (z.heap.size + 1) #[.bool sb2, .slice ab2 nb2 cb2] 42 := by rw [hv]; exact blk_auto
      have V1 := VZ.ext hzz
      have V2 := (BigV.shut eb2 kb2).ext hzz
      clear hv hzz VZ hr1 hr2 ka2 kb2 ea2 eb2 BAz BBz BOz lBAz cBAz fBAz lBBz cBBz fBBz lBOz cBOz fBOz hz hxz lz
      generalize z.heap.size + 1 = b7 at *
      clear BA BB BO lBA cBA fBA lBB cBB fBB lBO cBO fBO VA VB cq hxr
      have n3' := n1'.symm
      have n4' := n2'.symm
      have lBA5 := BA5.lt; have cBA5 := BA5.cell; have fBA5 := BA5.frozen; have lBB5 := BB5.lt; have cBB5 := BB5.cell; have fBB5 := BB5.frozen; have lBO5 := BO5.lt; have cBO5 := BO5.cell; have fBO5 := BO5.frozen; have lB75 := B75.lt; have cB75 := B75.cell; have fB75 := B75.frozen
      go_region
      all_goals
        go_wp2
        have BB6 : Blk ((v5.setCell ⟨w.heap.size, 0, none⟩ (.bool s')).setCell ⟨w.heap.size, 1, none⟩ (.slice a' p' c')) (w.heap.size + 1) _ _ := (BB5.setOther (by omega)).setOther (by omega)
        have W1 := ((((V1.set (j := 0) (x := .bool s') BA5 (by decide)).set (j := 1) (x := .slice a' p' c') BA5.setSame (by decide)).set (j := 0) (x := .bool sb2) BB6 (by decide)).set (j := 1) (x := .slice ab2 nb2 cb2) BB6.setSame (by decide)).ext (Ext.refl _).drew
        have W2 := ((((V2.set (j := 0) (x := .bool s') BA5 (by decide)).set (j := 1) (x := .slice a' p' c') BA5.setSame (by decide)).set (j := 0) (x := .bool sb2) BB6 (by decide)).set (j := 1) (x := .slice ab2 nb2 cb2) BB6.setSame (by decide)).ext (Ext.refl _).drew
        go_roundg R
        case measure => exact HI'.out.2.2.2.2
        case rel =>
          refine ⟨k + 1, gk, R, s', a', p', c', sb2, ab2, nb2, cb2, by go_num, rfl, Lib.hid ⟨HI'.out.1, HI'.out.2.1, HI'.out.2.2.1, HI'.out.2.2.2.1⟩, ext_auto, blk_auto, blk_auto, blk_auto, W1, W2⟩
end Go.Proofs.YtmopgcbhmkemjaaGreatDoor

namespace Go.Proofs.YtmopgcbhmkemjaaGreatDoor
set_option linter.unusedSimpArgs false
set_option linter.unusedVariables false

theorem wn_highD (m i : Nat) (h : m < D ^ i) : wnD m i = 0 := by unfold wnD; rw [Nat.div_eq_of_lt h]; rfl
/-- What has been added when i words of m are done; within word i, when k words of n are. -/
def xkD (m n i : Nat) : Nat := (m % D ^ i) * n
def tkD (m n i k : Nat) : Nat := xkD m n i + wnD m i * D ^ i * (n % D ^ k)
/-- The carry on the way. -/
def ckD (m n i k : Nat) : Nat := tkD m n i k / D ^ (i + k) - xkD m n i / D ^ (i + k)
theorem tk_zeroD (m n i : Nat) : tkD m n i 0 = xkD m n i := by simp [tkD, Nat.mod_one]
theorem ck_zeroD (m n i : Nat) : ckD m n i 0 = 0 := by simp [ckD, tk_zeroD]
theorem tk_topD (m n i k : Nat) (hn : n < D ^ k) : tkD m n i k = xkD m n (i + 1) := by
  unfold tkD xkD
  rw [Nat.mod_eq_of_lt hn, mod_succD, Nat.add_mul]; omega
theorem xk_zeroD (m n : Nat) : xkD m n 0 = 0 := by simp [xkD, Nat.mod_one]
theorem xk_topD (m n i : Nat) (hm : m < D ^ i) : xkD m n i = m * n := by unfold xkD; rw [Nat.mod_eq_of_lt hm]
theorem div_wnD (x j : Nat) : x / D ^ j = wnD x j + D * (x / D ^ (j + 1)) := by
  unfold wnD
  rw [Nat.pow_succ, ← Nat.div_div_eq_div_mul]
  exact (Nat.mod_add_div (x / D ^ j) D).symm
theorem xk_le_tkD (m n i k : Nat) : xkD m n i ≤ tkD m n i k := Nat.le_add_right _ _
theorem tk_succD (m n i k : Nat) : tkD m n i (k + 1) = tkD m n i k + wnD m i * wnD n k * D ^ (i + k) := by
  unfold tkD
  rw [mod_succD, Nat.mul_add, Nat.pow_add]
  have : wnD m i * D ^ i * (wnD n k * D ^ k) = wnD m i * wnD n k * (D ^ i * D ^ k) := by
    rw [Nat.mul_assoc, Nat.mul_assoc, Nat.mul_left_comm (D ^ i)]
  omega
/-- One word's step. -/
theorem step_divD (m n i k : Nat) : tkD m n i (k + 1) / D ^ (i + k) = (wnD m i * wnD n k + wnD (xkD m n i) (i + k) + ckD m n i k) + D * (xkD m n i / D ^ (i + k + 1)) := by
  have hp : 0 < D ^ (i + k) := Nat.pow_pos D_pos
  rw [tk_succD, Nat.add_mul_div_right _ _ hp]
  have h1 := div_wnD (xkD m n i) (i + k)
  have h2 : xkD m n i / D ^ (i + k) ≤ tkD m n i k / D ^ (i + k) := Nat.div_le_div_right (xk_le_tkD m n i k)
  have h3 : ckD m n i k = tkD m n i k / D ^ (i + k) - xkD m n i / D ^ (i + k) := rfl
  omega
theorem step_wordD (m n i k : Nat) : (wnD m i * wnD n k + wnD (xkD m n i) (i + k) + ckD m n i k) % D = wnD (tkD m n i (k + 1)) (i + k) := by
  show _ = tkD m n i (k + 1) / D ^ (i + k) % D
  rw [step_divD, Nat.add_mul_mod_self_left]
theorem step_carryD (m n i k : Nat) : (wnD m i * wnD n k + wnD (xkD m n i) (i + k) + ckD m n i k) / D = ckD m n i (k + 1) := by
  have e : ∀ x, x / D ^ (i + (k + 1)) = x / D ^ (i + k) / D := fun x => by
    rw [show i + (k + 1) = i + k + 1 from rfl, Nat.pow_succ, ← Nat.div_div_eq_div_mul]
  show _ = tkD m n i (k + 1) / D ^ (i + (k + 1)) - xkD m n i / D ^ (i + (k + 1))
  rw [e (tkD m n i (k + 1)), step_divD, Nat.add_mul_div_left _ _ D_pos]
  exact (Nat.add_sub_cancel _ _).symm
theorem tk_modD (m n i k d : Nat) : tkD m n i (k + d) % D ^ (i + k) = tkD m n i k % D ^ (i + k) := by
  induction d with
  | zero => rfl
  | succ d ih =>
    rw [show k + (d + 1) = (k + d) + 1 from rfl, tk_succD, show D ^ (i + (k + d)) = D ^ (i + k) * D ^ d by rw [← Nat.pow_add, Nat.add_assoc]]
    rw [show wnD m i * wnD n (k + d) * (D ^ (i + k) * D ^ d) = D ^ (i + k) * (wnD m i * wnD n (k + d) * D ^ d) by
      rw [Nat.mul_left_comm]]
    rw [Nat.add_mul_mod_self_left, ih]
/-- The word that is laid is the one that stays. -/
theorem step_word'D (m n i k K : Nat) (hk : k < K) (hn : n < D ^ K) : (wnD m i * wnD n k + wnD (xkD m n i) (i + k) + ckD m n i k) % D = wnD (xkD m n (i + 1)) (i + k) := by
  rw [step_wordD, ← tk_topD m n i K hn]
  obtain ⟨d, rfl⟩ : ∃ d, K = k + 1 + d := ⟨K - (k + 1), by omega⟩
  rw [← wn_of_modD (tkD m n i (k + 1)) (i + k) (i + (k + 1)) (by omega), ← wn_of_modD (tkD m n i (k + 1 + d)) (i + k) (i + (k + 1)) (by omega), tk_modD]
theorem ck_ltD (m n i k : Nat) : ckD m n i k < D := by
  induction k with
  | zero => rw [ck_zeroD]; exact D_pos
  | succ k ih =>
    rw [← step_carryD]
    have h1 := wn_ltD m i; have h2 := wn_ltD n k; have h3 := wn_ltD (xkD m n i) (i + k)
    have h4 : wnD m i * wnD n k ≤ (D - 1) * (D - 1) := Nat.mul_le_mul (by omega) (by omega)
    have h5 : (D - 1) * (D - 1) + (D - 1) + (D - 1) < D * D := by decide
    rw [Nat.div_lt_iff_lt_mul D_pos]
    omega
theorem xk_ltD (m n i K : Nat) (hn : n < D ^ K) : xkD m n i < D ^ (i + K) := by
  unfold xkD
  have hp : 0 < D ^ i := Nat.pow_pos D_pos
  have h1 := Nat.mod_lt m hp
  rw [Nat.pow_add]
  rcases Nat.eq_zero_or_pos n with h | h
  · subst h; simp; exact Nat.mul_pos hp (Nat.pow_pos D_pos)
  · calc m % D ^ i * n < D ^ i * n := Nat.mul_lt_mul_of_pos_right h1 h
      _ ≤ D ^ i * D ^ K := Nat.mul_le_mul_left _ (Nat.le_of_lt hn)
/-- The last carry is the word above. -/
theorem last_carryD (m n i K : Nat) (hn : n < D ^ K) : wnD (xkD m n i) (i + K) + ckD m n i K = wnD (xkD m n (i + 1)) (i + K) := by
  have h1 := xk_ltD m n i K hn
  have h2 := xk_ltD m n (i + 1) K hn
  have h3 : ckD m n i K = tkD m n i K / D ^ (i + K) - xkD m n i / D ^ (i + K) := rfl
  have h5 : xkD m n (i + 1) / D ^ (i + K) < D := by
    rw [Nat.div_lt_iff_lt_mul (Nat.pow_pos D_pos), Nat.mul_comm, ← Nat.pow_succ]
    have e : (i + K).succ = i + 1 + K := by omega
    rw [e]; exact h2
  rw [wn_highD _ _ h1, h3, tk_topD m n i K hn, Nat.div_eq_of_lt h1]
  unfold wnD
  rw [Nat.mod_eq_of_lt h5, Nat.zero_add, Nat.sub_zero]
/-- Words beyond and below stay. -/
theorem xk_lowD (m n i j : Nat) (hj : j < i) : wnD (xkD m n (i + 1)) j = wnD (xkD m n i) j := by
  rw [← wn_of_modD (xkD m n (i + 1)) j i hj, ← wn_of_modD (xkD m n i) j i hj]
  congr 1
  unfold xkD
  rw [mod_succD, Nat.add_mul, Nat.add_comm, Nat.mul_right_comm, Nat.mul_comm _ (D ^ i), Nat.add_mul_mod_self_left]
theorem xk_highD (m n i j K : Nat) (hn : n < D ^ K) (hj : i + K ≤ j) : wnD (xkD m n i) j = 0 :=
  wn_highD _ _ (Nat.lt_of_lt_of_le (xk_ltD m n i K hn) (Nat.pow_le_pow_right D_pos hj))
/-- The three sums of a step. -/
theorem step_sumsD (x y o c : Nat) (ho : o < D) (hc : c < D) (hx : x < D) (hy : y < D) :
    ((x * y % D + o) % D + c) % D = (x * y + o + c) % D ∧ x * y / D + (x * y % D + o) / D + ((x * y % D + o) % D + c) / D = (x * y + o + c) / D := by
  have h1 := Nat.div_add_mod (x * y) D
  have h2 := Nat.div_add_mod (x * y % D + o) D
  have h3 := Nat.div_add_mod ((x * y % D + o) % D + c) D
  have h4 := Nat.mod_lt ((x * y % D + o) % D + c) D_pos
  generalize x * y % D = p at *
  generalize x * y / D = q at *
  generalize (p + o) % D = r at *
  generalize (p + o) / D = s at *
  generalize (r + c) % D = t at *
  generalize (r + c) / D = u at *
  have e : x * y + o + c = t + D * (q + s + u) := by rw [Nat.mul_add, Nat.mul_add]; omega
  rw [e, Nat.add_mul_mod_self_left, Nat.add_mul_div_left _ _ D_pos, Nat.mod_eq_of_lt h4, Nat.div_eq_of_lt h4]
  omega
end Go.Proofs.YtmopgcbhmkemjaaGreatDoor

namespace Go.Proofs.YtmopgcbhmkemjaaGreatDoor
open Go Go.RowKit
set_option linter.unusedSimpArgs false
set_option linter.unusedVariables false
set_option maxRecDepth 100000
set_option exponentiation.threshold 3000

/-- A block of digits, known whole. -/
def OutAt (W : World) (g N : Nat) (f : Nat → Nat) : Prop := ∃ A, Blk W g A 2 ∧ A.size = N ∧ ∀ j, j < N → A[j]? = some (i64 (f j))
theorem OutAt.cell {W : World} {g N : Nat} {f : Nat → Nat} (h : OutAt W g N f) (j : Nat) (hj : j < N) : W.cell? ⟨g, j, none⟩ = some (i64 (f j)) := by
  obtain ⟨A, h1, h2, h3⟩ := h; rw [h1.cell, h3 j hj]
theorem OutAt.frozen {W : World} {g N : Nat} {f : Nat → Nat} (h : OutAt W g N f) (j : Nat) : W.frozen? ⟨g, j, none⟩ = false := by
  obtain ⟨A, h1, _⟩ := h; exact h1.frozen j
theorem OutAt.lt {W : World} {g N : Nat} {f : Nat → Nat} (h : OutAt W g N f) : g < W.heap.size := by
  obtain ⟨A, h1, _⟩ := h; exact h1.lt
theorem OutAt.ext {W W' : World} {g N : Nat} {f : Nat → Nat} (h : OutAt W g N f) (hx : Ext W W') : OutAt W' g N f := by
  obtain ⟨A, h1, h2, h3⟩ := h; exact ⟨A, h1.ext hx, h2, h3⟩
theorem OutAt.set {W : World} {g N : Nat} {f h : Nat → Nat} (ho : OutAt W g N f) (i x : Nat) (hx : i < N → h i = x) (hh : ∀ j, j < N → j ≠ i → h j = f j) : OutAt (W.setCell ⟨g, i, none⟩ (i64 x)) g N h := by
  obtain ⟨A, h1, h2, h3⟩ := ho
  refine ⟨A.setIfInBounds i (i64 x), h1.setSame, by simp [h2], fun j hj => ?_⟩
  by_cases e : j = i
  · subst e; rw [Array.getElem?_setIfInBounds_self_of_lt (by omega), hx hj]
  · rw [Array.getElem?_setIfInBounds_ne (by omega), h3 j hj, hh j hj e]
theorem OutAt.congr {W : World} {g N : Nat} {f h : Nat → Nat} (ho : OutAt W g N f) (hh : ∀ j, j < N → h j = f j) : OutAt W g N h := by
  obtain ⟨A, h1, h2, h3⟩ := ho
  exact ⟨A, h1, h2, fun j hj => by rw [h3 j hj, hh j hj]⟩
theorem OutAt.slc {W : World} {g N : Nat} {f : Nat → Nat} (h : OutAt W g N f) (ds : List Nat) (hl : ds.length = N) (hd : ∀ j, j < N → ds.getD j 0 = f j) : SlC W (.slice (some ⟨g, 0, none⟩) N N) ds := by
  obtain ⟨A, h1, h2, h3⟩ := h
  subst hl
  refine ⟨.inr ⟨g, 0, _, rfl, ⟨A, _, h1⟩, fun i hi => ?_⟩, fun a n c h => by cases h; exact Nat.le_refl _⟩
  rw [Nat.zero_add, h1.cell, h3 i hi, hd i hi]
/-- What a make leaves. -/
theorem out_made {W' : World} {base g n : Nat} (h : W'.ownsRow base 2 1 (.slice (some ⟨g, 0, none⟩) n n) n (madeCells #[Value.int .i64 0] n).toList) : OutAt W' g n (fun _ => 0) := by
  obtain ⟨h1, h2 | ⟨g', cap', cur, e, hb, hg, hn, hm, hs, ht⟩⟩ := h
  · obtain ⟨e, _⟩ := h2; cases e
  · cases e
    refine ⟨cur, hg, by omega, fun j hj => ?_⟩
    have h3 : cur.toList = (madeCells #[Value.int .i64 0] n).toList := by
      rw [← ht, List.take_of_length_le (by simp; omega)]
    have h4 : cur = madeCells #[Value.int .i64 0] n := by
      have := congrArg List.toArray h3; simpa using this
    rw [h4]
    simp [madeCells, hj, Nat.mod_one]
/-- The digits of a number that lies there. -/
theorem digits_at {w : World} {a : Option Addr} {n c m : Nat} (hs : SlC w (.slice a n c) (dg m)) (hn : n = (dg m).length) : ∀ W, Ext w W → ∀ k, k < n → ∃ b o, a = some ⟨b, o, none⟩ ∧ b < w.heap.size ∧ W.cell? ⟨b, o + k, none⟩ = some (i64 (wnD m k)) := by
  intro W hxW k hk
  rcases hs.1 with ⟨a, cap, he, e⟩ | ⟨b, o, cap, he, hc⟩
  · rw [hn, e] at hk; exact absurd hk (by simp)
  · cases he
    refine ⟨b, o, rfl, hc.lt, ?_⟩
    have := (hc.ext hxW).at' k (by omega)
    rwa [dg_digit] at this
theorem prod_small (x y o c : Nat) (hx : x < 65536) (hy : y < 65536) : x * y ≤ 4294836225 := Nat.mul_le_mul (show x ≤ 65535 by omega) (show y ≤ 65535 by omega)
end Go.Proofs.YtmopgcbhmkemjaaGreatDoor

namespace Go.Proofs.YtmopgcbhmkemjaaGreatDoor
open Go Go.RowKit
set_option linter.unusedSimpArgs false
set_option linter.unusedVariables false
set_option maxRecDepth 100000
set_option exponentiation.threshold 3000

set_option maxHeartbeats 8000000 in
theorem bMul (x y : Int) (v1 v2 : Value) (hx : (dg x.natAbs).length ≤ 100000) (hy : (dg y.natAbs).length ≤ 100000) (w : World) (h1 : BigV w v1 x) (h2 : BigV w v2 y) :
    Calls Tryz.prog 56 #[v1, v2] w (RetB (fun W r => BigV W r (x * y)) w) := by
  obtain ⟨s1, a1, n1, c1, rfl, e1, k1⟩ := h1.opened
  obtain ⟨s2, a2, n2, c2, rfl, e2, k2⟩ := h2.opened
  obtain ⟨hs1, hn1⟩ := e1.out
  obtain ⟨hs2, hn2⟩ := e2.out
  have HZ : Hid (sv (s1 != s2) (x.natAbs * y.natAbs) = x * y) := Lib.hid (by
    rw [show (s1 != s2) = !(s1 == s2) by cases s1 <;> cases s2 <;> rfl, hs1, hs2, sv_times, sv_of, sv_of])
  have K1 := Lib.hid (digits_at k1 hn1)
  have K2 := Lib.hid (digits_at k2 hn2)
  rw [← hn1] at hx
  rw [← hn2] at hy
  have HM : Hid (x.natAbs < D ^ n1) := Lib.hid (by rw [D_eq]; exact (dg_len_le _ _).1 (by omega))
  have HN : Hid (y.natAbs < D ^ n2) := Lib.hid (by rw [D_eq]; exact (dg_len_le _ _).1 (by omega))
  generalize x * y = z at *
  generalize x.natAbs = m at *
  generalize y.natAbs = n at *
  clear h1 h2 e1 e2 hs1 hs2 hn1 hn2 k1 k2 x y
  obtain ⟨i0, hi, hz0, hz1, hz2⟩ := info_parts info_i64
  go_enter Tryz.func56, Tryz.ntmps56
  go_wp2_with (at_make; refine wpList_make_full _ rfl _ _ 40 rfl (w.heap.size + 1 + 1 + 1) 2 i0 (.int .i64 0) 1 Tryz.underlying40 hi hz0 hz1 _ _ _ _ (n1 + n2 + 1) rfl rfl ?b0 ?b1 ?b2 ?b3 (by simp) ?_)
  case b0 => simp
  case b1 => simp
  case b2 => rw [hz2]; omega
  case b3 => unfold maxLen; omega
  intro w0 hown0 hgrow0
  have O0 := out_made hown0
  have hx0 : Ext w w0 := Ext.of_below ((Below.refl _ w).alloc (Nat.le_refl _) _ |>.alloc (by simp) _ |>.alloc (by simp; omega) _ |>.grown hgrow0 (by simp; omega) (fun k h => by cases h))
  have BA : Blk w0 w.heap.size (bigC s1 a1 n1 c1) 42 := Blk.grown blk_auto hgrow0 (fun h => by cases h)
  have BB : Blk w0 (w.heap.size + 1) (bigC s2 a2 n2 c2) 42 := Blk.grown blk_auto hgrow0 (fun h => by cases h)
  have BO : Blk w0 (w.heap.size + 1 + 1) #[.bool false, .slice none 0 0] 42 := Blk.grown blk_auto hgrow0 (fun h => by cases h)
  clear hown0 hgrow0
  go_wp2
  go_loopw [6, 7, 8, 9] (fun iv cv kv sv' wr => ∃ i : Nat, i ≤ n1 ∧ iv = .int .i64 (i : Int) ∧ Ext w wr ∧ OutAt wr (w.heap.size + 1 + 1 + 1) (n1 + n2 + 1) (wnD (xkD m n i)) ∧ Blk wr w.heap.size (bigC s1 a1 n1 c1) 42 ∧ Blk wr (w.heap.size + 1) (bigC s2 a2 n2 c2) 42 ∧ Blk wr (w.heap.size + 1 + 1) #[.bool false, .slice none 0 0] 42) (fun iv _ _ _ _ => n1 - (intOf iv).toNat)
  case atStart => exact ⟨0, by omega, rfl, hx0, O0.congr (fun j _ => by rw [xk_zeroD, wn_zeroD]), BA, BB, BO⟩
  case round =>
    clear hx0 O0 BA BB BO
    obtain ⟨i, hin, rfl, hxr, OA, BA, BB, BO⟩ := hrel
    by_cases hlt : i < n1
    · have hlt' : (i : Int) < (n1 : Int) := by omega
      have lBA := BA.lt; have cBA := BA.cell; have fBA := BA.frozen; have lBB := BB.lt; have cBB := BB.cell; have fBB := BB.frozen; have lBO := BO.lt; have cBO := BO.cell; have fBO := BO.frozen
      go_wp2
      go_loopw [7, 8, 9] (fun cv kv sv' wr => ∃ k : Nat, k ≤ n2 ∧ kv = .int .i64 (k : Int) ∧ cv = i64 (ckD m n i k) ∧ Ext w wr ∧ OutAt wr (w.heap.size + 1 + 1 + 1) (n1 + n2 + 1) (fun j => if j < i + k then wnD (xkD m n (i + 1)) j else wnD (xkD m n i) j) ∧ Blk wr w.heap.size (bigC s1 a1 n1 c1) 42 ∧ Blk wr (w.heap.size + 1) (bigC s2 a2 n2 c2) 42 ∧ Blk wr (w.heap.size + 1 + 1) #[.bool false, .slice none 0 0] 42) (fun _ kv _ _ => n2 - (intOf kv).toNat)
      case atStart => exact ⟨0, by omega, rfl, by rw [ck_zeroD]; rfl, hxr, OA.congr (fun j _ => by
        split
        · exact xk_lowD m n i j (by omega)
        · rfl), BA, BB, BO⟩
      case round =>
        clear hxr OA BA BB BO lBA cBA fBA lBB cBB fBB lBO cBO fBO
        obtain ⟨k, hkn, rfl, rfl, hxr, OA, BA, BB, BO⟩ := hrel
        have lBA := BA.lt; have cBA := BA.cell; have fBA := BA.frozen; have lBB := BB.lt; have cBB := BB.cell; have fBB := BB.frozen; have lBO := BO.lt; have cBO := BO.cell; have fBO := BO.frozen
        have lO := OA.lt
        have fO := OA.frozen
        by_cases hk : k < n2
        · have hk' : (k : Int) < (n2 : Int) := by omega
          have hcell := OA.cell (i + k) (by omega)
          rw [if_neg (by omega)] at hcell
          obtain ⟨b, o, rfl, hb, hca⟩ := K1.out wr hxr i hlt
          obtain ⟨b', o', rfl, hb', hcb⟩ := K2.out wr hxr k hk
          have hbl : b < wr.heap.size := by have := hxr.size; omega
          have hbl' : b' < wr.heap.size := by have := hxr.size; omega
          have hik : (i : Int) + (k : Int) < (n1 : Int) + (n2 : Int) + 1 := by omega
          have hXY := prod_small (wnD m i) (wnD n k) 0 0 (wn_ltD m i) (wn_ltD n k)
          have hO : wnD (xkD m n i) (i + k) < 65536 := wn_ltD _ _
          have hC : ckD m n i k < 65536 := ck_ltD m n i k
          have q1 := step_word'D m n i k n2 hk HN.out
          have q2 := step_carryD m n i k
          rw [D_eq] at q1 q2
          have hp : ((wnD m i : Nat) : Int) * ((wnD n k : Nat) : Int) = ((wnD m i * wnD n k : Nat) : Int) := (Int.natCast_mul _ _).symm
          obtain ⟨P, hP⟩ : ∃ P, P = wnD m i * wnD n k := ⟨_, rfl⟩
          rw [← hP] at hXY q1 q2 hp
          clear hP
          have w1 : IntKind.i64.wrap (P : Int) = (P : Int) := wrap_i64_in _ (by omega) (by omega)
          have w2 : IntKind.i64.wrap (((wnD (xkD m n i) (i + k) : Nat) : Int) + (P : Int)) = ((wnD (xkD m n i) (i + k) : Nat) : Int) + (P : Int) := wrap_i64_in _ (by omega) (by omega)
          have w3 : IntKind.i64.wrap (((wnD (xkD m n i) (i + k) : Nat) : Int) + (P : Int) + ((ckD m n i k : Nat) : Int)) = ((wnD (xkD m n i) (i + k) : Nat) : Int) + (P : Int) + ((ckD m n i k : Nat) : Int) := wrap_i64_in _ (by omega) (by omega)
          have m1 : (((wnD (xkD m n i) (i + k) : Nat) : Int) + (P : Int) + ((ckD m n i k : Nat) : Int)) % 65536 = ((wnD (xkD m n (i + 1)) (i + k) : Nat) : Int) := by omega
          have m2 : (((wnD (xkD m n i) (i + k) : Nat) : Int) + (P : Int) + ((ckD m n i k : Nat) : Int)) / 65536 = ((ckD m n i (k + 1) : Nat) : Int) := by omega
          have m3 : (((wnD (xkD m n i) (i + k) : Nat) : Int) + (P : Int) + ((ckD m n i k : Nat) : Int)).tmod 65536 = ((wnD (xkD m n (i + 1)) (i + k) : Nat) : Int) := by rw [Int.tmod_eq_emod_of_nonneg (by omega)]; exact m1
          have m4 : (((wnD (xkD m n i) (i + k) : Nat) : Int) + (P : Int) + ((ckD m n i k : Nat) : Int)).tdiv 65536 = ((ckD m n i (k + 1) : Nat) : Int) := by rw [Int.tdiv_eq_ediv_of_nonneg (by omega)]; exact m2
          have hC2 : ckD m n i (k + 1) < 65536 := ck_ltD m n i (k + 1)
          have hO2 : wnD (xkD m n (i + 1)) (i + k) < 65536 := wn_ltD _ _
          have w4 : IntKind.i64.wrap ((ckD m n i (k + 1) : Nat) : Int) = ((ckD m n i (k + 1) : Nat) : Int) := wrap_i64_in _ (by omega) (by omega)
          have w5 : IntKind.i64.wrap ((wnD (xkD m n (i + 1)) (i + k) : Nat) : Int) = ((wnD (xkD m n (i + 1)) (i + k) : Nat) : Int) := wrap_i64_in _ (by omega) (by omega)
          have wik : IntKind.i64.wrap ((i : Int) + (k : Int)) = (i : Int) + (k : Int) := wrap_i64_in _ (by omega) (by omega)
          have tik : ((i : Int) + (k : Int)).toNat = i + k := by omega
          have nik : 0 ≤ (i : Int) + (k : Int) := by omega
          clear q1 q2
          go_wp2
          (first | refine wp_region_k' [.p, .p, .p, .p, .p, .r, .p, .r, .p, .p, .r, .p, .r, .p, .p, .r, .p, .p, .p, .p, .p] (by kernel_rfl) (by kernel_rfl) ?_ | refine wp_region_k [.p, .p, .p, .p, .p, .r, .p, .r, .p, .p, .r, .p, .r, .p, .p, .r, .p, .p, .p, .p, .p] (by kernel_rfl) (by kernel_rfl) ?_); (repeat (first | (refine wpK_p rfl (fun K hK => ?_); go_simp; refine hK _ _ ?_; clear hK K) | (refine wpK_r rfl (fun K hK => ?_); go_simp; refine hK _ _ ?_; clear hK K) | (refine wpK_w rfl (fun K hK => ?_); go_simp; refine hK _ _ ?_; clear hK K))); refine wpK_nil ?_; intro d
          go_wp2
          go_roundw
          case rel =>
            refine ⟨k + 1, by omega, by go_num, rfl, (hxr.set (by omega)).grow d, (OA.set (i + k) _ (fun _ => ?_) (fun j _ hj => ?_)).ext ⟨d, rfl⟩, (BA.setOther (by omega)).grow d, (BB.setOther (by omega)).grow d, (BO.setOther (by omega)).grow d⟩
            · rw [if_pos (by omega)]
            · by_cases h : j < i + k
              · rw [if_pos h, if_pos (by omega)]
              · rw [if_neg h, if_neg (by omega)]
          case measure => simp [intOf]; omega
        · obtain rfl : k = n2 := by omega
          have hcell := OA.cell (i + k) (by omega)
          rw [if_neg (by omega)] at hcell
          have hik : (i : Int) + (k : Int) < (n1 : Int) + (k : Int) + 1 := by omega
          have wik : IntKind.i64.wrap ((i : Int) + (k : Int)) = (i : Int) + (k : Int) := wrap_i64_in _ (by omega) (by omega)
          have tik : ((i : Int) + (k : Int)).toNat = i + k := by omega
          have nik : 0 ≤ (i : Int) + (k : Int) := by omega
          have hO2 : wnD (xkD m n (i + 1)) (i + k) < 65536 := wn_ltD _ _
          have lc : IntKind.i64.wrap (((wnD (xkD m n i) (i + k) : Nat) : Int) + ((ckD m n i k : Nat) : Int)) = ((wnD (xkD m n (i + 1)) (i + k) : Nat) : Int) := by
            have := last_carryD m n i k HN.out
            rw [wrap_i64_in _ (by omega) (by omega)]; omega
          go_wp2
          (first | refine wp_region_k' [.p, .p, .p, .r, .r, .p, .p, .p, .p, .r, .r, .p, .p, .r, .p, .p, .p, .w] (by kernel_rfl) (by kernel_rfl) ?_ | refine wp_region_k [.p, .p, .p, .r, .r, .p, .p, .p, .p, .r, .r, .p, .p, .r, .p, .p, .p, .w] (by kernel_rfl) (by kernel_rfl) ?_); (repeat (first | (refine wpK_p rfl (fun K hK => ?_); go_simp; refine hK _ _ ?_; clear hK K) | (refine wpK_r rfl (fun K hK => ?_); go_simp; refine hK _ _ ?_; clear hK K) | (refine wpK_w rfl (fun K hK => ?_); go_simp; refine hK _ _ ?_; clear hK K))); refine wpK_nil ?_; intro d
          go_wp2
          go_roundw
          case rel =>
            refine ⟨i + 1, by omega, by go_num, (hxr.set (by omega)).grow d, (OA.set (i + k) _ (fun _ => rfl) (fun j _ hj => ?_)).ext ⟨d, rfl⟩, (BA.setOther (by omega)).grow d, (BB.setOther (by omega)).grow d, (BO.setOther (by omega)).grow d⟩
            by_cases h : j < i + k
            · rw [if_pos h]
            · rw [if_neg h, xk_highD m n i j k HN.out (by omega), xk_highD m n (i + 1) j k HN.out (by omega)]
          case measure => simp [intOf]; omega
    · obtain rfl : i = n1 := by omega
      rw [xk_topD m n i HM.out] at OA
      have hsl := OA.slc (dlist (m * n) (i + n2 + 1)) (dlist_len _ _) (fun j hj => by simp [dlist, List.getD_eq_getElem?_getD, hj])
      have hlt2 : m * n < 65536 ^ (i + n2 + 1) := by
        have h1 := Nat.mul_lt_mul'' HM.out HN.out
        rw [← Nat.pow_add, D_eq] at h1
        exact Nat.lt_of_lt_of_le h1 (Nat.pow_le_pow_right (by omega) (by omega))
      have hfin := fun W (hx : Ext wr W) => of_ret (s1 != s2) (.slice (some ⟨w.heap.size + 1 + 1 + 1, 0, none⟩) (i + n2 + 1) (i + n2 + 1)) (dlist (m * n) (i + n2 + 1)) (by rw [dlist_len]; omega) (dlist_digs _ _) W (hsl.ext hx)
      rw [dlist_dval, Nat.mod_eq_of_lt hlt2, HZ.out] at hfin
      have hx := hxr
      clear hsl OA hlt2 hlt K1 K2 HM HN HZ
      have lBA := BA.lt; have cBA := BA.cell; have fBA := BA.frozen; have lBB := BB.lt; have cBB := BB.cell; have fBB := BB.frozen; have lBO := BO.lt; have cBO := BO.cell; have fBO := BO.frozen
      go_wp2_with (go_at_call 88; refine (hfin _ (Ext.refl _)).mono ?_; rintro e y1 ⟨r1, rfl, hr1, hx1⟩; obtain ⟨tr, ar, nr, cr, rfl, er, ks⟩ := hr1.opened; have hxn : Ext w y1 := hx.trans hx1; have BOn := BO.ext hx1; have lBOn := BOn.lt; have cBOn := BOn.cell; have fBOn := BOn.frozen)
      refine bp_rebase fun u hu => ?_; have hy : Ext w u := (by rw [hu]; exact ext_auto); have hsl := (ks.set (k := (w.heap.size + 1 + 1)) (j := 0) (x := .bool tr) BOn (by decide)).set (k := (w.heap.size + 1 + 1)) (j := 1) (x := .slice ar nr cr) BOn.setSame (by decide); rw [← hu] at hsl; have BF : Blk u (w.heap.size + 1 + 1) #[.bool tr, .slice ar nr cr] 42 := (by rw [hu]; exact blk_auto); clear hu; have lBF := BF.lt; have cBF := BF.cell; have fBF := BF.frozen; clear BF; exact bodyPost_ret (v := .agg #[.bool tr, .slice ar nr cr]) (by simp [results, Tryz.results56, go_sem, cBF]) rfl ⟨_, rfl, BigV.shut er hsl, hy⟩
end Go.Proofs.YtmopgcbhmkemjaaGreatDoor

namespace Go.Proofs.YtmopgcbhmkemjaaGreatDoor
set_option linter.unusedSimpArgs false
set_option linter.unusedVariables false

theorem div_stepD (m i : Nat) : m / D ^ i = m / D ^ (i + 1) * D + wnD m i := by
  unfold wnD
  rw [Nat.pow_succ, ← Nat.div_div_eq_div_mul, Nat.mul_comm]
  exact (Nat.div_add_mod (m / D ^ i) D).symm
/-- What the digit i is reckoned of. -/
def tdD (m n i : Nat) : Nat := m / D ^ (i + 1) % n * D + wnD m i
theorem td_lt (m n i : Nat) (hn : 0 < n) : tdD m n i < n * D := by
  unfold tdD
  have h1 := Nat.mod_lt (m / D ^ (i + 1)) hn
  have h2 := wn_ltD m i
  have h3 : (m / D ^ (i + 1) % n + 1) * D ≤ n * D := Nat.mul_le_mul_right _ h1
  rw [Nat.add_mul] at h3; omega
theorem td_split (m n i : Nat) : m / D ^ i = n * (m / D ^ (i + 1) / n * D) + tdD m n i := by
  unfold tdD
  rw [div_stepD]
  have h := Nat.div_add_mod (m / D ^ (i + 1)) n
  generalize m / D ^ (i + 1) / n = q at *
  generalize m / D ^ (i + 1) % n = r at *
  rw [← h, Nat.add_mul, Nat.mul_assoc]; omega
theorem td_mod (m n i : Nat) : tdD m n i % n = m / D ^ i % n := by
  rw [td_split m n i, Nat.mul_add_mod]
theorem td_div (m n i : Nat) (hn : 0 < n) : tdD m n i / n = wnD (m / n) i := by
  unfold wnD
  have hlt : tdD m n i / n < D := by rw [Nat.div_lt_iff_lt_mul hn, Nat.mul_comm]; exact td_lt m n i hn
  rw [Nat.div_div_eq_div_mul, Nat.mul_comm n, ← Nat.div_div_eq_div_mul, td_split m n i, Nat.mul_add_div hn, Nat.add_comm, Nat.add_mul_mod_self_right, Nat.mod_eq_of_lt hlt]
/-- What is left, what is found, when the bits from k on are. -/
def trD (T n k : Nat) : Nat := T % (n * 2 ^ k)
def tqD (T n k : Nat) : Nat := T / (n * 2 ^ k) * 2 ^ k
theorem tr_top (T n : Nat) (h : T < n * 65536) : trD T n 16 = T := Nat.mod_eq_of_lt h
theorem tq_top (T n : Nat) (h : T < n * 65536) : tqD T n 16 = 0 := by unfold tqD; rw [Nat.div_eq_of_lt h, Nat.zero_mul]
theorem tr_zero (T n : Nat) : trD T n 0 = T % n := by simp [trD]
theorem tq_zero (T n : Nat) : tqD T n 0 = T / n := by simp [tqD]
theorem two_step (T N : Nat) (hN : 0 < N) : (T % (2 * N) < N → T % N = T % (2 * N) ∧ T / N = 2 * (T / (2 * N))) ∧ (¬ T % (2 * N) < N → T % N = T % (2 * N) - N ∧ T / N = 2 * (T / (2 * N)) + 1) := by
  have h := Nat.div_add_mod T (2 * N)
  have hl := Nat.mod_lt T (show 0 < 2 * N by omega)
  generalize T / (2 * N) = q at *
  generalize T % (2 * N) = r at *
  have e : T = N * (2 * q) + r := by rw [← h, Nat.mul_comm 2 N, Nat.mul_assoc]
  refine ⟨fun hr => ⟨?_, ?_⟩, fun hr => ⟨?_, ?_⟩⟩
  · rw [e, Nat.mul_add_mod, Nat.mod_eq_of_lt hr]
  · rw [e, Nat.mul_add_div hN, Nat.div_eq_of_lt hr]; omega
  · rw [e, Nat.mul_add_mod, Nat.mod_eq_sub_mod (by omega), Nat.mod_eq_of_lt (by omega)]
  · rw [e, Nat.mul_add_div hN, Nat.div_eq_sub_div hN (by omega), Nat.div_eq_of_lt (by omega)]
theorem pow2_two (n k : Nat) : n * 2 ^ (k + 1) = 2 * (n * 2 ^ k) := by rw [Nat.pow_succ, ← Nat.mul_assoc, Nat.mul_comm]
theorem tr_lt (T n k : Nat) (hn : 0 < n) (h : trD T n (k + 1) < n * 2 ^ k) : trD T n k = trD T n (k + 1) ∧ tqD T n k = tqD T n (k + 1) := by
  unfold trD tqD at *
  rw [pow2_two] at *
  obtain ⟨h1, h2⟩ := (two_step T (n * 2 ^ k) (Nat.mul_pos hn (Nat.pow_pos (by omega)))).1 h
  refine ⟨h1, ?_⟩
  rw [h2, Nat.pow_succ, Nat.mul_comm 2, Nat.mul_assoc, Nat.mul_comm 2, Nat.mul_comm 2 (2 ^ k)]
theorem tr_ge (T n k : Nat) (hn : 0 < n) (h : ¬ trD T n (k + 1) < n * 2 ^ k) : trD T n k = trD T n (k + 1) - n * 2 ^ k ∧ tqD T n k = tqD T n (k + 1) + 2 ^ k := by
  unfold trD tqD at *
  rw [pow2_two] at *
  obtain ⟨h1, h2⟩ := (two_step T (n * 2 ^ k) (Nat.mul_pos hn (Nat.pow_pos (by omega)))).2 h
  refine ⟨h1, ?_⟩
  rw [h2, Nat.add_mul, Nat.one_mul, Nat.pow_succ, Nat.mul_comm 2 (T / _), Nat.mul_assoc, Nat.mul_comm 2, Nat.mul_comm 2 (2 ^ k)]
theorem tq_le (T n k : Nat) (hn : 0 < n) (h : T < n * 65536) : tqD T n k < 65536 := by
  unfold tqD
  have h1 : T / (n * 2 ^ k) * 2 ^ k ≤ T / n := by
    rw [← Nat.div_div_eq_div_mul]; exact Nat.div_mul_le_self _ _
  have h2 : T / n < 65536 := by rw [Nat.div_lt_iff_lt_mul hn, Nat.mul_comm]; exact h
  omega
end Go.Proofs.YtmopgcbhmkemjaaGreatDoor

namespace Go.Proofs.YtmopgcbhmkemjaaGreatDoor
open Go Go.RowKit
set_option linter.unusedSimpArgs false
set_option linter.unusedVariables false
set_option maxRecDepth 100000
set_option exponentiation.threshold 3000

theorem info_sl : (Tryz.prog.info? 40).map (fun i => (i.zero, i.size, i.bytes)) = some (some (.slice none 0 0), 1, 24) := by kernel_rfl
/-- The doubles of a number: a row of slices. -/
structure Dbls (W : World) (base : Nat) (v : Value) (n k : Nat) (xs : List Value) : Prop where
  own : W.ownsRow base 40 1 v k xs
  all : ∀ j, j < k → ∃ x, xs[j]? = some x ∧ SlC W x (dg (n * 2 ^ j))
theorem Dbls.len {W : World} {base n k : Nat} {v : Value} {xs : List Value} (h : Dbls W base v n k xs) : xs.length = k := by have := h.own.1; omega
theorem Dbls.at' {W : World} {base n k : Nat} {v : Value} {xs : List Value} (h : Dbls W base v n k xs) (j : Nat) (hj : j < k) : ∃ g cap x, v = .slice (some ⟨g, 0, none⟩) k cap ∧ base ≤ g ∧ g < W.heap.size ∧ W.cell? ⟨g, j, none⟩ = some x ∧ xs[j]? = some x ∧ SlC W x (dg (n * 2 ^ j)) := by
  obtain ⟨x, hx, hs⟩ := h.all j hj
  rcases h.own.2 with ⟨_, h0⟩ | ⟨g, cap, cur, rfl, hb, hg, _, _, _, ht⟩
  · omega
  · refine ⟨g, cap, x, rfl, hb, (Array.getElem?_eq_some_iff.1 hg).1, ?_, hx, hs⟩
    have h3 : cur.toList[j]? = some x := by
      have := congrArg (fun l => l[j]?) ht
      simp only [Nat.mul_one, List.getElem?_take, if_pos hj] at this
      rw [this, hx]
    rw [World.cell?, hg]
    simpa using h3
theorem _root_.Go.World.ownsRow.ext {w w' : World} {base : Nat} {e : TypeId} {size n : Nat} {v : Value} {xs : List Value} (h : w.ownsRow base e size v n xs) (hx : Ext w w') : w'.ownsRow base e size v n xs := by
  obtain ⟨d, rfl⟩ := hx; exact h.ext2 d
theorem CellsAt.grown {W W' : World} {b o : Nat} {ds : List Nat} {row : Option Nat} (h : CellsAt W b o ds) (hg : W.grownBy W' row) (hr : row ≠ some b) : CellsAt W' b o ds := by
  have hb := hg.block b h.lt hr.symm
  refine ⟨?_, fun i hi => ?_⟩
  · obtain ⟨cs, fr, h1⟩ := h.row; exact ⟨cs, fr, by rw [hb, h1]⟩
  · have h1 := h.at' i hi
    rw [World.cell?] at h1 ⊢
    rw [hb]; exact h1
theorem SlC.grown {W W' : World} {v : Value} {ds : List Nat} {row : Option Nat} (h : SlC W v ds) (hg : W.grownBy W' row) (hr : ∀ g, row = some g → ∃ cs T fr, W.heap[g]? = some (.cells cs T fr) ∧ T ≠ 2) : SlC W' v ds := by
  refine ⟨h.1.imp id ?_, h.2⟩
  rintro ⟨b, o, cap, h1, h2⟩
  refine ⟨b, o, cap, h1, h2.grown hg fun e => ?_⟩
  obtain ⟨cs, T, fr, h3, h4⟩ := hr b e
  obtain ⟨cs', fr', h5⟩ := h2.row
  rw [h3] at h5; cases h5; exact h4 rfl
theorem wrap_bit (Q k : Nat) (h : Q + 2 ^ k < 65536) : wrap64 ((Q : Int) + wrap64 ((2 : Int) ^ k)) = ((Q + 2 ^ k : Nat) : Int) := by
  have e : (2 : Int) ^ k = ((2 ^ k : Nat) : Int) := by rw [Int.natCast_pow]; rfl
  rw [e]
  generalize 2 ^ k = P at *
  unfold wrap64; omega
/-- What is left, on the way: a row that is not g. -/
def RemV (W : World) (g : Nat) (rv : Value) (R : Nat) : Prop := SlC W rv (dg R) ∧ (rv = .slice none 0 0 ∨ ∃ b l c, rv = .slice (some ⟨b, 0, none⟩) l c ∧ b ≠ g)
theorem RemV.ext {W W' : World} {g : Nat} {rv : Value} {R : Nat} (h : RemV W g rv R) (hx : Ext W W') : RemV W' g rv R := ⟨h.1.ext hx, h.2⟩
theorem RemV.set {W : World} {g i : Nat} {rv x : Value} {R : Nat} (h : RemV W g rv R) : RemV (W.setCell ⟨g, i, none⟩ x) g rv R := by
  refine ⟨⟨?_, h.1.2⟩, h.2⟩
  rcases h.1.1 with h1 | ⟨b, o, cap, rfl, hc⟩
  · exact .inl h1
  · rcases h.2 with e | ⟨b', l, c, e, hne⟩
    · cases e
    · cases e
      refine .inr ⟨b, 0, cap, rfl, ?_, fun i hi => ?_⟩
      · obtain ⟨cs, fr, h1⟩ := hc.row
        exact ⟨cs, fr, by simp only [World.setCell, Array.getElem?_modify, if_neg (Ne.symm hne), h1]⟩
      · rw [World.cell?_setCell_other _ _ _ _ (by intro e; cases e; exact hne rfl)]; exact hc.at' i hi
/-- A row of the call's own as a slice. -/
theorem row_slice {W : World} {base n : Nat} {v : Value} {xs : List Value} (h : W.ownsRow base 2 1 v n xs) (hn : 0 < n) : ∃ g cap, v = .slice (some ⟨g, 0, none⟩) n cap ∧ base ≤ g := by
  rcases h.2 with ⟨_, h0⟩ | ⟨g, cap, cur, e, hb, _⟩
  · omega
  · exact ⟨g, cap, e, hb⟩
set_option maxHeartbeats 8000000 in
theorem bQuo_long (x y : Int) (v1 v2 : Value) (hx : (dg x.natAbs).length ≤ 1000) (hy : (dg y.natAbs).length ≤ 1000) (hlong : ¬ ((dg x.natAbs).length ≤ 3 ∧ (dg y.natAbs).length ≤ 3)) (h0 : y ≠ 0) (w : World) (h1 : BigV w v1 x) (h2 : BigV w v2 y) :
    Calls Tryz.prog 87 #[v1, v2] w (RetQ x y w) := by
  obtain ⟨t1, a1, n1, c1, rfl, e1, k1⟩ := h1.opened
  obtain ⟨t2, a2, n2, c2, rfl, e2, k2⟩ := h2.opened
  have HQ1 := Lib.hid (tdiv_sv x y)
  have HQ2 := Lib.hid (tmod_sv x y)
  obtain ⟨ht1, hn1⟩ := e1.out
  obtain ⟨ht2, hn2⟩ := e2.out
  rw [← ht1, ← ht2] at HQ1
  rw [← ht1] at HQ2
  have K1 := Lib.hid (digits_at k1 hn1)
  rw [← hn1] at hx
  rw [← hn1, ← hn2] at hlong
  have hy2 := hy
  rw [← hn2] at hy2
  have hm0 : 0 < y.natAbs := by omega
  have HM : Hid (x.natAbs < 65536 ^ n1) := Lib.hid ((dg_len_le _ _).1 (by omega))
  unfold RetQ
  rw [HQ1.out, HQ2.out]
  clear HQ1 HQ2 h1 h2 h0 e1 e2 ht1 ht2 hn1 hn2 k1
  generalize x.natAbs = m at *
  generalize y.natAbs = n at *
  have small : ∀ j, j ≤ 16 → (dg (n * 2 ^ j)).length ≤ 2000 := fun j hj => (dg_len_le _ _).2 (by
    have h1 := (dg_len_le n 1000).1 hy
    have h2 : 2 ^ j ≤ 65536 := by rw [show 65536 = 2 ^ 16 from rfl]; exact Nat.pow_le_pow_right (by omega) hj
    have h3 := Nat.mul_lt_mul_of_lt_of_le h1 h2 (by omega)
    rw [← Nat.pow_succ] at h3
    exact Nat.lt_of_lt_of_le h3 (Nat.pow_le_pow_right (by omega) (by omega)))
  have HS := Lib.hid small
  clear small hy x y
  obtain ⟨i0, hi, iz0, iz1, iz2⟩ := info_parts info_sl
  obtain ⟨j0, hj, jz0, jz1, jz2⟩ := info_parts info_i64
  go_enter Tryz.func87, Tryz.ntmps87
  go_upto_region 1 with fail
  refine wp_rebase fun v0 hv => ?_
  have hx0v : Ext w v0 := by rw [hv]; exact ext_auto
  have BA : Blk v0 w.heap.size (bigC t1 a1 n1 c1) 42 := by rw [hv]; exact blk_auto
  have BB : Blk v0 (w.heap.size + 1) (bigC t2 a2 n2 c2) 42 := by rw [hv]; exact blk_auto
  have BO : Blk v0 (w.heap.size + 1 + 1) #[.bool false, .slice none 0 0] 42 := by rw [hv]; exact blk_auto
  have BP : Blk v0 (w.heap.size + 1 + 1 + 1) #[.bool false, .slice none 0 0] 42 := by rw [hv]; exact blk_auto
  clear hv
  have lBA := BA.lt; have cBA := BA.cell; have fBA := BA.frozen; have lBB := BB.lt; have cBB := BB.cell; have fBB := BB.frozen; have lBO := BO.lt; have cBO := BO.cell; have fBO := BO.frozen; have lBP := BP.lt; have cBP := BP.cell; have fBP := BP.frozen
  go_cut [23] (fun s z => s = .bool false ∧ v0 = z)
  case first =>
    by_cases h3 : n1 ≤ 3
    · have h4 : ¬ n2 ≤ 3 := fun h => hlong ⟨h3, h⟩
      have h3' : ((n1 : Int) ≤ 3) := by omega
      have h4' : ¬ ((n2 : Int) ≤ 3) := by omega
      go_wp2
      go_meet
      case rel => exact ⟨by simp, rfl⟩
    · have h3' : ¬ ((n1 : Int) ≤ 3) := by omega
      go_wp2
      go_meet
      case rel => exact ⟨by simp, rfl⟩
  case rest =>
  obtain ⟨rfl, rfl⟩ := hcut
  clear hlong
  have D0 : Dbls (v0.alloc (.cells #[.slice a2 n2 c2] 40)) v0.heap.size (.slice (some ⟨v0.heap.size, 0, none⟩) 1 1) n 1 [.slice a2 n2 c2] := by
    refine ⟨World.ownsRow_lit v0 _ 1 (Nat.le_refl _) (by decide) rfl, fun j hj => ?_⟩
    obtain rfl : j = 0 := by omega
    exact ⟨_, rfl, by rw [Nat.pow_zero, Nat.mul_one]; exact (k2.ext (hx0v.alloc _))⟩
  go_wp2
  go_loopw [8, 9] (fun dv kv wr => ∃ (k : Nat) (xs : List Value), k ≤ 15 ∧ kv = .int .i64 ((k : Int) + 1) ∧ Dbls wr v0.heap.size dv n (k + 1) xs ∧ Ext v0 wr) (fun _ kv _ => 16 - (intOf kv).toNat)
  case atStart => exact ⟨0, _, by omega, rfl, D0, (Ext.refl v0).alloc _⟩
  case round =>
    clear D0 lBA cBA fBA lBB cBB fBB lBO cBO fBO lBP cBP fBP
    obtain ⟨k, xs, hk, rfl, DB, hxw⟩ := hrel
    by_cases hlt : k < 15
    · have hlt' : ((k : Int) + 1 < 16) := by omega
      obtain ⟨g, cap, x, rfl, hbg, hgl, hcell, hxs, hsl⟩ := DB.at' k (by omega)
      have hN := HS.out k (by omega)
      have hk0 : 0 ≤ (k : Int) := by omega
      have hk1 : (k : Int) < (k : Int) + 1 := by omega
      have wk : IntKind.i64.wrap (k : Int) = (k : Int) := wrap_i64_in _ (by omega) (by omega)
      obtain ⟨v, rfl⟩ : ∃ v, v = wr := ⟨_, rfl⟩
      go_wp2
      (first | refine wp_region_h' 13 [0, 1, 2, 3, 4, 5, 6, 7, 8, 9, 10] [11, 12] (by kernel_rfl) (by kernel_rfl) ?_ | refine wp_region_h 13 [0, 1, 2, 3, 4, 5, 6, 7, 8, 9, 10] [11, 12] (by kernel_rfl) (by kernel_rfl) ?_); simp only [List.map_cons, List.map_nil, List.getD_cons_succ, List.getD_cons_zero]; (repeat (refine wpHL_l (fun K hK => ?_); go_simp; refine hK _ ?_; clear hK K)); refine wpHL_nil ?_; intro d0; have hx0 : Ext v (grow v d0) := ⟨d0, rfl⟩; generalize grow v d0 = y0 at *; (refine wpT_c (fun K hK => ?_); go_simp; refine ⟨_, _, ⟨rfl, rfl⟩, ?_⟩; (with_reducible refine (plus_dg (n * 2 ^ k) (n * 2 ^ k) _ _ (by omega) (by omega) _ (hsl.ext hx0) (hsl.ext hx0)).mono ?_); rintro e y1 ⟨r1, rfl, hr1, hz1⟩; have hx1 : Ext v y1 := hx0.trans hz1; obtain ⟨b1, c1, rfl⟩ := hr1.len; refine ⟨_, rfl, hx1, hK _ _ ?_⟩; clear hK K); (refine wpT_n (fun K hK => ?_); go_simp; refine ⟨_, _, ⟨rfl, rfl⟩, hx1.alloc _, hK _ _ ?_⟩; clear hK K); refine wpT_nil ?_; simp only [List.drop_succ_cons, List.drop_zero]
      have hown' := (DB.own.ext hx1).ext ((Ext.refl y1).alloc (.cells #[.slice b1 (dg (n * 2 ^ k + n * 2 ^ k)).length c1] 40))
      have hsl1 := hr1.ext ((Ext.refl y1).alloc (.cells #[.slice b1 (dg (n * 2 ^ k + n * 2 ^ k)).length c1] 40))
      have hb0 : v0.heap.size ≤ y1.heap.size := (hxw.trans hx1).size
      have hbel : Below v0.heap.size v0 (y1.alloc (.cells #[.slice b1 (dg (n * 2 ^ k + n * 2 ^ k)).length c1] 40)) := (hxw.trans hx1).below.alloc hb0 _
      have hgT : ∃ cs T fr, (y1.alloc (.cells #[.slice b1 (dg (n * 2 ^ k + n * 2 ^ k)).length c1] 40)).heap[g]? = some (.cells cs T fr) ∧ T ≠ 2 := by
        rcases hown'.2 with ⟨e, _⟩ | ⟨g', cap', cur, e, _, hg', _⟩
        · cases e
        · cases e; exact ⟨cur, _, _, hg', by decide⟩
      have HE : Hid (n * 2 ^ k + n * 2 ^ k = n * 2 ^ (k + 1)) := Lib.hid (by rw [pow2_two]; omega)
      (refine wpList_append_own _ rfl (.tmp 56) (.tmp 68) 172 rfl v0.heap.size 40 i0 (.slice none 0 0) 1 24 Tryz.underlying172 hi iz0 iz1 iz2 rfl (by decide) _ _ _ rfl hown' ⟨y1.heap.size, 0, none⟩ 1 1 [.slice b1 (dg (n * 2 ^ k + n * 2 ^ k)).length c1] rfl rfl ?c1 ?c2 ?c3 ?c4 ?c5 ?_)
      case c1 =>
        intro t u h
        rcases t with _ | t
        · cases h; simp [go_sem]
        · cases h
      case c2 => intro u h; simp at h; subst h; rfl
      case c3 => unfold maxLen; omega
      case c4 => omega
      case c5 => simp; omega
      intro v' w1 hown1 hgrow1 _
      go_wp2
      go_roundw
      case rel =>
        refine ⟨k + 1, _, by omega, by go_num, ⟨hown1, fun j hj => ?_⟩, Ext.of_below (hbel.grown hgrow1 (by simp; omega) (fun b hb => by cases hb; exact hbg))⟩
        rcases (by omega : j < k + 1 ∨ j = k + 1) with h | rfl
        · obtain ⟨x', h1, h2⟩ := DB.all j h
          refine ⟨x', by rw [List.getElem?_append_left (by rw [DB.len]; exact h)]; exact h1, ((h2.ext hx1).ext ((Ext.refl y1).alloc _)).grown hgrow1 (fun g' e => by cases e; exact hgT)⟩
        · refine ⟨_, by rw [List.getElem?_append_right (by rw [DB.len]; omega), DB.len, Nat.sub_self]; rfl, ?_⟩
          rw [← HE.out]; exact hsl1.grown hgrow1 (fun g' e => by cases e; exact hgT)
      case measure => simp [intOf]; omega
    · obtain rfl : k = 15 := by omega
      obtain ⟨g, cap, x0, rfl, hbg, hgl, _⟩ := DB.at' 0 (by omega)
      have DC : ∀ j, j < 16 → ∃ x, wr.cell? ⟨g, j, none⟩ = some x ∧ SlC wr x (dg (n * 2 ^ j)) := fun j hj => by
        obtain ⟨g', cap', x, e, _, _, h1, _, h2⟩ := DB.at' j hj
        cases e; exact ⟨x, h1, h2⟩
      have HDC := Lib.hid DC
      clear DB DC
      replace BA := BA.ext hxw
      replace BB := BB.ext hxw
      replace BO := BO.ext hxw
      replace BP := BP.ext hxw
      have hxr : Ext w wr := hx0v.trans hxw
      have lwr : w.heap.size + 1 + 1 + 1 < wr.heap.size := BP.lt
      have lg : g < wr.heap.size := hgl
      clear hxw hx0v hbg
      have lBA := BA.lt; have cBA := BA.cell; have fBA := BA.frozen; have lBB := BB.lt; have cBB := BB.cell; have fBB := BB.frozen; have lBO := BO.lt; have cBO := BO.cell; have fBO := BO.frozen; have lBP := BP.lt; have cBP := BP.cell; have fBP := BP.frozen
      obtain ⟨v, rfl⟩ : ∃ v, v = wr := ⟨_, rfl⟩
      go_wp2_with (at_make; refine wpList_make_full _ rfl _ _ 40 rfl v.heap.size 2 j0 (.int .i64 0) 1 Tryz.underlying40 hj jz0 jz1 _ _ _ _ n1 rfl rfl rfl rfl ?b2 ?b3 (Nat.le_refl _) ?_)
      case b2 => rw [jz2]; omega
      case b3 => unfold maxLen; omega
      intro w0 hown0 hgrow0
      have O0 := out_made hown0
      have hx0 : Ext v w0 := Ext.of_below ((Below.refl _ v).grown hgrow0 (Nat.le_refl _) (fun k h => by cases h))
      clear hown0 hgrow0
      clear lBA cBA fBA lBB cBB fBB lBO cBO fBO lBP cBP fBP
      have hin : IntKind.i64.wrap ((n1 : Int) - 1) = (n1 : Int) - 1 := wrap_i64_in _ (by omega) (by omega)
      have BA0 := BA.ext hx0
      have lBA0 := BA0.lt; have cBA0 := BA0.cell; have fBA0 := BA0.frozen
      go_wp2
      go_loopw [11, 12, 13] (fun rv iv kv wr => ∃ j : Nat, j ≤ n1 ∧ iv = .int .i64 ((j : Int) - 1) ∧ RemV wr v.heap.size rv (m / D ^ j % n) ∧ OutAt wr v.heap.size n1 (fun t => if t < j then 0 else wnD (m / n) t) ∧ Ext v wr) (fun _ iv _ _ => ((intOf iv) + 1).toNat)
      case atStart => exact ⟨n1, Nat.le_refl _, rfl, by
          rw [Nat.div_eq_of_lt (by rw [D_eq]; exact HM.out), Nat.zero_mod]
          exact ⟨⟨.inl ⟨none, 0, rfl, dg_zero⟩, fun a n c h => by cases h; exact Nat.le_refl _⟩, .inl rfl⟩, O0.congr (fun j hj => by rw [if_pos hj]), hx0⟩
      case round =>
        clear O0 hx0 BA0 lBA0 cBA0 fBA0 hin
        obtain ⟨j, hjn, rfl, hrem, OA, hxw⟩ := hrel
        by_cases h0 : j = 0
        · subst h0
          rw [Nat.pow_zero, Nat.div_one] at hrem
          have hxt : Ext w wr := hxr.trans hxw
          replace BA := BA.ext hxw
          replace BB := BB.ext hxw
          replace BO := BO.ext hxw
          replace BP := BP.ext hxw
          have hsq := OA.slc (dlist (m / n) n1) (dlist_len _ _) (fun j hj => by rw [if_neg (by omega)]; simp [dlist, List.getD_eq_getElem?_getD, hj])
          have hsr := hrem.1
          generalize v.heap.size = gq at *
          have lrl : (dg (m % n)).length ≤ 1000000 := Nat.le_trans ((dg_len_le _ 2000).2 (by
            have h1 := (dg_len_le _ _).1 (HS.out 0 (by omega))
            rw [Nat.pow_zero, Nat.mul_one] at h1
            have h2 : m % n < n := Nat.mod_lt _ hm0
            omega)) (by omega)
          have hq1 : m / n < 65536 ^ n1 := Nat.lt_of_le_of_lt (Nat.div_le_self _ _) HM.out
          have OQ := fun w h => of_ret (!(t1 == t2)) (.slice (some ⟨gq, 0, none⟩) n1 n1) (dlist (m / n) n1) (by rw [dlist_len]; omega) (dlist_digs _ _) w h
          have OR := fun a n' c w h => of_ret t1 (.slice a n' c) (dg (m % n)) lrl (digs_dg _) w h
          rw [dlist_dval, Nat.mod_eq_of_lt hq1] at OQ
          simp only [dval_dg] at OR
          obtain ⟨ar, cr, hru⟩ := hsr.len
          rw [hru] at hsr ⊢
          clear hrem OA hxw HDC K1 HM HS lrl hq1 hru lg lwr hgl
          obtain ⟨v, rfl⟩ : ∃ v, v = wr := ⟨_, rfl⟩
          have lBA := BA.lt; have cBA := BA.cell; have fBA := BA.frozen; have lBB := BB.lt; have cBB := BB.cell; have fBB := BB.frozen; have lBO := BO.lt; have cBO := BO.cell; have fBO := BO.frozen; have lBP := BP.lt; have cBP := BP.cell; have fBP := BP.frozen
          go_wp2
          (first | refine wp_region_h' 11 [0, 1, 2, 3, 4, 5, 7, 8, 9] [6, 10] (by kernel_rfl) (by kernel_rfl) ?_ | refine wp_region_h 11 [0, 1, 2, 3, 4, 5, 7, 8, 9] [6, 10] (by kernel_rfl) (by kernel_rfl) ?_); simp only [List.map_cons, List.map_nil, List.getD_cons_succ, List.getD_cons_zero]; (repeat (refine wpHL_l (fun K hK => ?_); go_simp; refine hK _ ?_; clear hK K)); refine wpHL_nil ?_; intro d0; have hx0 : Ext v (grow v d0) := ⟨d0, rfl⟩; generalize grow v d0 = y0 at *; (refine wpT_c (fun K hK => ?_); go_simp; refine ⟨_, _, ⟨rfl, rfl⟩, ?_⟩; (with_reducible refine (OQ _ (hsq.ext hx0)).mono ?_); rintro e y1 ⟨r1, rfl, hr1, hz1⟩; have hx1 : Ext v y1 := hx0.trans hz1; refine ⟨_, rfl, hx1, hK _ _ ?_⟩; clear hK K); (refine wpT_c (fun K hK => ?_); go_simp; refine ⟨_, _, ⟨rfl, rfl⟩, ?_⟩; (with_reducible refine (OR _ _ _ _ (hsr.ext hx1)).mono ?_); rintro e y2 ⟨r2, rfl, hr2, hz2⟩; have hx2 : Ext v y2 := hx1.trans hz2; refine ⟨_, rfl, hx2, hK _ _ ?_⟩; clear hK K); refine wpT_nil ?_; simp only [List.drop_succ_cons, List.drop_zero]
          obtain ⟨sa, aa, na, ca, rfl, ea, ka⟩ := (hr1.ext hz2).opened
          obtain ⟨sb, ab, nb, cb, rfl, eb, kb⟩ := hr2.opened
          have BO4 := BO.ext hx2
          have BP4 := BP.ext hx2
          have hxn : Ext w y2 := hxt.trans hx2
          have lBO4 := BO4.lt; have cBO4 := BO4.cell; have fBO4 := BO4.frozen; have lBP4 := BP4.lt; have cBP4 := BP4.cell; have fBP4 := BP4.frozen
          go_wp2
          refine bp_rebase fun u hu => ?_
          have hy : Ext w u := by rw [hu]; exact ext_auto
          have BF : Blk u (w.heap.size + 1 + 1) #[.bool sa, .slice aa na ca] 42 := by rw [hu]; exact blk_auto
          have BG : Blk u (w.heap.size + 1 + 1 + 1) #[.bool sb, .slice ab nb cb] 42 := by rw [hu]; exact blk_auto
          have BP5 : Blk ((y2.setCell ⟨w.heap.size + 1 + 1, 0, none⟩ (.bool sa)).setCell ⟨w.heap.size + 1 + 1, 1, none⟩ (.slice aa na ca)) (w.heap.size + 1 + 1 + 1) _ _ := (BP4.setOther (by omega)).setOther (by omega)
          have hsa := (((ka.set (j := 0) (x := .bool sa) BO4 (by decide)).set (j := 1) (x := .slice aa na ca) BO4.setSame (by decide)).set (j := 0) (x := .bool sb) BP5 (by decide)).set (j := 1) (x := .slice ab nb cb) BP5.setSame (by decide)
          have hsb := (((kb.set (j := 0) (x := .bool sa) BO4 (by decide)).set (j := 1) (x := .slice aa na ca) BO4.setSame (by decide)).set (j := 0) (x := .bool sb) BP5 (by decide)).set (j := 1) (x := .slice ab nb cb) BP5.setSame (by decide)
          rw [← hu] at hsa hsb
          clear hu
          have lBF := BF.lt; have cBF := BF.cell; have fBF := BF.frozen; have lBG := BG.lt; have cBG := BG.cell; have fBG := BG.frozen; clear BF BG
          exact bodyPost_ret (v := .tuple #[.agg #[.bool sa, .slice aa na ca], .agg #[.bool sb, .slice ab nb cb]]) (by simp [results, Tryz.results87, go_sem, cBF, cBG]) rfl ⟨_, _, rfl, BigV.shut ea hsa, BigV.shut eb hsb, hy⟩
        · obtain ⟨i, rfl⟩ : ∃ i, j = i + 1 := ⟨j - 1, by omega⟩
          have BA1 := BA.ext hxw
          have lBA1 := BA1.lt; have cBA1 := BA1.cell; have fBA1 := BA1.frozen
          have hge0 : (0 : Int) ≤ (i : Int) := by omega
          have hii : (i : Int) < (n1 : Int) := by omega
          have hc1 : ((i + 1 : Nat) : Int) - 1 = (i : Int) := by omega
          rw [hc1]
          go_upto_region 14 with fail
          go_cut [11] (fun rv z => Ext wr z ∧ RemV z v.heap.size rv (tdD m n i))
          case first =>
            obtain ⟨b, o, rfl, hb, hca⟩ := K1.out wr (hxr.trans hxw) i (by omega)
            have hbl : b < wr.heap.size := by have := hxw.size; omega
            obtain ⟨hsl, hv⟩ := hrem
            have hrow : (wr.alloc (.cells #[i64 (wnD m i)] 2)).ownsRow wr.heap.size 2 1 (.slice (some ⟨wr.heap.size, 0, none⟩) 1 1) 1 [i64 (wnD m i)] := World.ownsRow_lit wr _ 1 (Nat.le_refl _) (by decide) rfl
            have hvw : v.heap.size < wr.heap.size := OA.lt
            have hxa : Ext wr (wr.alloc (.cells #[i64 (wnD m i)] 2)) := (Ext.refl wr).alloc _
            have hdw := wn_ltD m i
            rw [D_eq] at hdw
            obtain ⟨R, hR⟩ : ∃ R, R = m / D ^ (i + 1) % n := ⟨_, rfl⟩
            have HT : Hid (trim (wnD m i :: dg R) = dg (tdD m n i)) := Lib.hid (by
              rw [trim_eq_dg _ (digs_cons.2 ⟨hdw, digs_dg R⟩)]
              congr 1
              show wnD m i + 65536 * dval (dg R) = _
              rw [dval_dg, tdD, ← hR, D_eq]; omega)
            have hRl : (dg R).length ≤ 2000 := (dg_len_le _ _).2 (by
              have h1 := (dg_len_le _ _).1 (HS.out 0 (by omega))
              rw [Nat.pow_zero, Nat.mul_one] at h1
              have h2 : R < n := by rw [hR]; exact Nat.mod_lt _ hm0
              omega)
            rw [← hR] at hsl
            clear hR hrow hdw
            have hrow : (wr.alloc (.cells #[i64 (wnD m i)] 2)).ownsRow wr.heap.size 2 1 (.slice (some ⟨wr.heap.size, 0, none⟩) 1 1) 1 [i64 (wnD m i)] := World.ownsRow_lit wr _ 1 (Nat.le_refl _) (by decide) rfl
            rcases hv with rfl | ⟨b', l, c', rfl, hne⟩
            · have hR0 : dg R = [] := by
                obtain ⟨a, cap, e⟩ := hsl.len
                have : 0 = (dg R).length := by injection e
                exact List.length_eq_zero_iff.1 this.symm
              have hfin := cut_own wr.heap.size 1 1 [wnD m i] (by simp) _ (SlC.own hrow (by simp)) (by simp)
              rw [hR0] at HT
              rw [HT.out] at hfin
              clear hsl hR0 HT hRl
              go_wp2_with (first
                | (at_builtin; refine wpList_append_own_none rfl (.tmp 87) (.tmp 88) 40 rfl wr.heap.size 2 j0 1 Tryz.underlying40 hj _ 1 [i64 (wnD m i)] rfl hrow rfl ?_)
                | (go_at_call 118; (with_reducible refine hfin.mono ?_); rintro e z ⟨r, rfl, ⟨hr, l, c, rfl⟩, hz⟩))
              go_meet
              case rel => exact ⟨hxa.trans hz, hr, .inr ⟨_, _, _, rfl, by omega⟩⟩
            · have hll : l = (dg R).length := by
                obtain ⟨a, cap, e⟩ := hsl.len
                cases e; rfl
              subst hll
              have hnl : ((dg R).map i64).length = (dg R).length * 1 := by simp
              have hnews : ∀ t u, ((dg R).map i64)[t]? = some u → (wr.alloc (.cells #[i64 (wnD m i)] 2)).cell? ((⟨b', 0, none⟩ : Addr).add t) = some u := fun t u h => by
                have ht : t < (dg R).length := by
                  rcases Nat.lt_or_ge t (dg R).length with h1 | h1
                  · exact h1
                  · rw [List.getElem?_eq_none (by simpa using h1)] at h; cases h
                rcases hsl.1 with ⟨a, cap, e, e2⟩ | ⟨b2, o2, cap, e, hc⟩
                · rw [e2] at ht; simp at ht
                · cases e
                  have h2 := (hc.ext hxa).at' t ht
                  rw [List.getElem?_map, List.getElem?_eq_getElem ht] at h
                  simp [List.getD_eq_getElem?_getD, List.getElem?_eq_getElem ht] at h2 h
                  subst h
                  rw [show (⟨b', 0, none⟩ : Addr).add t = ⟨b', t, none⟩ by unfold Addr.add; split <;> simp_all]
                  exact h2
              have hone : ∀ u ∈ (dg R).map i64, u.oneCell' = true := fun u h => by
                obtain ⟨x, _, rfl⟩ := List.mem_map.1 h; rfl
              go_wp2_with (at_builtin; refine wpList_append_own _ rfl (.tmp 87) (.tmp 88) 40 rfl wr.heap.size 2 j0 (.int .i64 0) 1 8 Tryz.underlying40 hj jz0 jz1 jz2 rfl (by decide) _ 1 _ rfl hrow ⟨b', 0, none⟩ (dg R).length c' ((dg R).map i64) rfl hnl hnews hone ?c3 ?c4 ?c5 ?_)
              case c3 => unfold maxLen; omega
              case c4 => omega
              case c5 => simp
              intro v' w1 hown1 hgrow1 _
              obtain ⟨g', cap', hv', hgb⟩ := row_slice hown1 (by omega)
              rw [hv'] at hown1
              rw [hv']
              have hx1 : Ext wr w1 := Ext.of_below (((Below.refl _ wr).alloc (Nat.le_refl _) _).grown hgrow1 (by simp) (fun k h => by cases h; exact Nat.le_refl _))
              have hown2 : w1.ownsRow wr.heap.size 2 1 (.slice (some ⟨g', 0, none⟩) (1 + (dg R).length) cap') (1 + (dg R).length) ((wnD m i :: dg R).map i64) := hown1
              have hfin := cut_own g' (1 + (dg R).length) cap' (wnD m i :: dg R) (by simp; omega) _ (SlC.own hown2 (by simp; omega)) (by simp; omega)
              rw [HT.out] at hfin
              clear hown1 hown2 hgrow1 hnews hsl hone hv'
              go_wp2_with (go_at_call 118; (with_reducible refine hfin.mono ?_); rintro e z ⟨r, rfl, ⟨hr, l, c, rfl⟩, hz⟩)
              go_meet
              case rel => exact ⟨hx1.trans hz, hr, .inr ⟨_, _, _, rfl, by omega⟩⟩
          case rest =>
            obtain ⟨hxc, hremc⟩ := hcut
            have OC := OA.ext hxc
            have hxvc := hxw.trans hxc
            have hT := td_lt m n i hm0
            have HTm := Lib.hid (td_mod m n i)
            have HTd := Lib.hid (td_div m n i hm0)
            rw [D_eq] at hT
            clear hrem OA hxw hxc BA1 lBA1 cBA1 fBA1 hc1
            generalize tdD m n i = T at *
            have O1 : OutAt wc v.heap.size n1 (fun t => if t < i then 0 else if t = i then tqD T n 16 else wnD (m / n) t) := OC.congr (fun t ht => by
              rw [tq_top T n hT]
              by_cases h1 : t < i
              · rw [if_pos h1, if_pos (by omega)]
              · rw [if_neg h1]
                by_cases h2 : t = i
                · rw [if_pos h2, if_pos (by omega)]
                · rw [if_neg h2, if_neg (by omega)])
            rw [← tr_top T n hT] at hremc
            have hTl : ∀ X, X < n * 65536 → (dg X).length ≤ 2000 := fun X hX => (dg_len_le _ _).2 (by
              have h1 := (dg_len_le _ _).1 (HS.out 16 (by omega))
              rw [show (2 : Nat) ^ 16 = 65536 from rfl] at h1
              omega)
            go_wp2
            go_loopw [11, 13] (fun rv kv wr => ∃ k : Nat, k ≤ 16 ∧ kv = .int .i64 ((k : Int) - 1) ∧ RemV wr v.heap.size rv (trD T n k) ∧ OutAt wr v.heap.size n1 (fun t => if t < i then 0 else if t = i then tqD T n k else wnD (m / n) t) ∧ Ext v wr) (fun _ kv _ => ((intOf kv) + 1).toNat)
            case atStart => exact ⟨16, by omega, rfl, hremc, O1, hxvc⟩
            case round =>
              clear hremc O1 hxvc OC
              obtain ⟨k, hk16, rfl, hrem, OA, hxw⟩ := hrel
              by_cases hk0 : k = 0
              · subst hk0
                rw [tq_zero, HTd.out] at OA
                rw [tr_zero, HTm.out] at hrem
                go_wp2
                go_roundw
                case rel => exact ⟨i, by omega, rfl, hrem, OA.congr (fun t ht => by
                  by_cases h1 : t < i
                  · rw [if_pos h1, if_pos h1]
                  · rw [if_neg h1, if_neg h1]; split
                    · rename_i h2; rw [h2]
                    · rfl), hxw⟩
                case measure => (simp [intOf]; try omega)
              · obtain ⟨k, rfl⟩ : ∃ j, k = j + 1 := ⟨k - 1, by omega⟩
                have hc1 : ((k + 1 : Nat) : Int) - 1 = (k : Int) := by omega
                rw [hc1]
                obtain ⟨x, hxc, hsx⟩ := HDC.out k (by omega)
                have hge0 : (0 : Int) ≤ (k : Int) := by omega
                have hk16' : (k : Int) < 16 := by omega
                have hcell : wr.cell? ⟨g, k, none⟩ = some x := hxw.cell hxc
                have lgr : g < wr.heap.size := by have := hxw.size; omega
                have hN := HS.out k (by omega)
                have hTr : trD T n (k + 1) ≤ T := Nat.mod_le _ _
                have hTL := hTl (trD T n (k + 1)) (by omega)
                have cm := mags_dg (trD T n (k + 1)) (n * 2 ^ k) _ x (by omega) (by omega) wr hrem.1 (hsx.ext hxw)
                by_cases hlt : trD T n (k + 1) < n * 2 ^ k
                · have hc3 : cmp3 (trD T n (k + 1)) (n * 2 ^ k) = -1 := by unfold cmp3; rw [if_pos hlt]
                  rw [hc3] at cm
                  obtain ⟨er, eq⟩ := tr_lt T n k hm0 hlt
                  go_wp2_with (go_at_call 90; (with_reducible refine cm.mono ?_); rintro e z ⟨rfl, hz⟩)
                  go_roundw
                  case rel => exact ⟨k, by omega, rfl, by rw [er]; exact hrem.ext hz, (OA.ext hz).congr (fun t ht => by rw [eq]), hxw.trans hz⟩
                  case measure => (simp [intOf]; try omega)
                · have hc3 : 0 ≤ cmp3 (trD T n (k + 1)) (n * 2 ^ k) := by unfold cmp3; rw [if_neg hlt]; split <;> omega
                  obtain ⟨er, eq⟩ := tr_ge T n k hm0 hlt
                  have OI := OA.cell i (by omega)
                  rw [if_neg (by omega), if_pos rfl] at OI
                  have hgi : v.heap.size < wr.heap.size := OA.lt
                  have cl := fun z hz => less_at (trD T n (k + 1)) (n * 2 ^ k) (by omega) _ x (by omega) (by omega) z (hrem.1.ext hz) (hsx.ext (hxw.trans hz))
                  have hql := tq_le T n k hm0 hT
                  rw [eq] at hql
                  go_wp2_with (go_at_call 90; (with_reducible refine cm.mono ?_); rintro e z ⟨rfl, hz⟩; have hcz := hz.cell hcell; have lgz : g < z.heap.size := (by have := hz.size; omega))
                  go_wp2_with (go_at_call 91; (with_reducible refine (cl _ hz).mono ?_); rintro e z2 ⟨r2, rfl, ⟨hr2, l2, c2', rfl⟩, hz2⟩; have hzz := hz.trans hz2; have OI2 := hzz.cell OI; have hgi2 : v.heap.size < z2.heap.size := (by have := hzz.size; omega); have fO2 := (OA.ext hzz).frozen)
                  have hval : wrap64 (((tqD T n (k + 1) : Nat) : Int) + wrap64 ((2 : Int) ^ k)) = ((tqD T n k : Nat) : Int) := by
                    rw [eq]; exact wrap_bit _ k hql
                  rw [hval]
                  go_roundw
                  case rel =>
                    refine ⟨k, by omega, rfl, RemV.set ⟨by rw [er]; exact hr2, .inr ⟨_, _, _, rfl, by have := hz.size; omega⟩⟩, (OA.ext hzz).set i _ (fun _ => by rw [if_neg (by omega), if_pos rfl]) (fun t ht hne => by rw [if_neg hne, if_neg hne]), (hxw.trans hzz).set (Nat.le_refl _)⟩
                  case measure => (simp [intOf]; try omega)
end Go.Proofs.YtmopgcbhmkemjaaGreatDoor

namespace Go.Proofs.YtmopgcbhmkemjaaGreatDoor
open Go Go.RowKit
set_option linter.unusedSimpArgs false
set_option linter.unusedVariables false
set_option maxRecDepth 100000
set_option exponentiation.threshold 3000

def QuoOK (N : Nat) : Prop := ∀ x y : Int, x.natAbs < N → y.natAbs < N → y ≠ 0 → ∀ v1 v2 w, BigV w v1 x → BigV w v2 y → Calls Tryz.prog 87 #[v1, v2] w (RetQ x y w)
theorem quo_three : QuoOK (65536 ^ 3) := fun x y hx hy h0 v1 v2 w h1 h2 => bQuo_short x y v1 v2 ((dg_len_le _ 3).2 hx) ((dg_len_le _ 3).2 hy) h0 w h1 h2
/-- A reference's fraction. -/
def FrV (W : World) (v : Value) (N D : Int) : Prop := ∃ s a n c s' a' n' c', v = .agg #[.bool s, .slice a n c, .bool s', .slice a' n' c'] ∧ BigV W (.agg (bigC s a n c)) N ∧ BigV W (.agg (bigC s' a' n' c')) D
theorem FrV.ext {W W' : World} {v : Value} {N D : Int} (h : FrV W v N D) (hx : Ext W W') : FrV W' v N D := by
  obtain ⟨s, a, n, c, s', a', n', c', h1, h2, h3⟩ := h; exact ⟨s, a, n, c, s', a', n', c', h1, h2.ext hx, h3.ext hx⟩
theorem small_of {x : Int} {N : Nat} (hN : N ≤ 2 ^ 520) (h : x.natAbs < N) : Small x := by
  unfold Small
  have : (dg x.natAbs).length ≤ 100 := (dg_len_le x.natAbs 100).2 (Nat.lt_of_lt_of_le (Nat.lt_of_lt_of_le h hN) (by decide))
  omega
theorem small_one : Small 1 := by unfold Small; rw [show (1 : Int).natAbs = 1 from rfl, dg_pos 1 (by omega), dg_zero]; simp
theorem cmpI_one (d : Int) : ((cmpI d 1 == 0) = true) ↔ d = 1 := by
  unfold cmpI
  rcases Int.lt_trichotomy d 1 with h | h | h
  · rw [if_pos h]; simp; omega
  · subst h; simp
  · rw [if_neg (by omega), if_pos h]; simp; omega
theorem Blk.set4R {W : World} {b : Nat} {T : TypeId} {x0 x1 x2 x3 y0 y1 y2 y3 : Value} (h : Blk W b #[y0, y1, y2, y3] T) : Blk ((((W.setCell ⟨b, 0, none⟩ x0).setCell ⟨b, 1, none⟩ x1).setCell ⟨b, 2, none⟩ x2).setCell ⟨b, 3, none⟩ x3) b #[x0, x1, x2, x3] T := h.set4
theorem BigV.set4 {W : World} {b : Nat} {T : TypeId} {x0 x1 x2 x3 y0 y1 y2 y3 v : Value} {z : Int} (h : BigV W v z) (hB : Blk W b #[y0, y1, y2, y3] T) (hT : T ≠ 2) : BigV ((((W.setCell ⟨b, 0, none⟩ x0).setCell ⟨b, 1, none⟩ x1).setCell ⟨b, 2, none⟩ x2).setCell ⟨b, 3, none⟩ x3) v z :=
  (((h.set hB hT).set (hB.setSame (o := 0)) hT).set ((hB.setSame (o := 0)).setSame (o := 1)) hT).set (((hB.setSame (o := 0)).setSame (o := 1)).setSame (o := 2)) hT
theorem make_one (n : Int) : (mkRat n 1).num = n ∧ (mkRat n 1).den = 1 := by
  have := mk_parts n 1 (by omega)
  rw [Nat.gcd_one_right] at this
  simpa using this
theorem make_num (n : Int) (d : Nat) (hd : d ≠ 0) : n.tdiv (Nat.gcd n.natAbs d : Nat) = (mkRat n d).num ∧ ((d : Int)).tdiv (Nat.gcd n.natAbs d : Nat) = ((mkRat n d).den : Int) := by
  have hp := mk_parts n d hd
  rw [hp.1, hp.2]
  refine ⟨?_, tdiv_nat _ _⟩
  rw [Int.tdiv_eq_ediv_of_dvd]
  exact Int.ofNat_dvd_left.2 (Nat.gcd_dvd_left _ _)
set_option maxHeartbeats 8000000 in
theorem fMake_pos (N : Nat) (hN : N ≤ 2 ^ 520) (hQ : QuoOK N) (x : Int) (d : Nat) (v1 v2 : Value) (hx : x.natAbs < N) (hd : d < N) (hd0 : 0 < d) (P : Int) (Q : Nat) (HP : Hid ((mkRat x d).num = P)) (HQ : Hid ((mkRat x d).den = Q)) (w : World) (h1 : BigV w v1 x) (h2 : BigV w v2 (d : Int)) :
    Calls Tryz.prog 54 #[v1, v2] w (RetB (fun W r => FrV W r P (Q : Int)) w) := by
  have NO : ∀ w, Calls Tryz.prog 57 #[.int .i64 1] w (RetB (fun W r => BigV W r 1) w) := fun w => Num_pos 1 (by decide) w
  have CC := fun r w h1 h2 => bCmp (d : Int) 1 v2 r (small_of hN (by simpa using hd)) small_one w h1 h2
  have VA := h1
  have VB := h2
  obtain ⟨t1, a1, n1, c1, rfl, e1, _⟩ := h1.opened
  obtain ⟨t2, a2, n2, c2, rfl, e2, _⟩ := h2.opened
  have ht2 : t2 = false := by rw [e2.out.1]; simp
  clear h1 h2 e1 e2
  subst ht2
  go_enter Tryz.func54, Tryz.ntmps54
  go_wp2
  refine wp_rebase fun v hv => ?_
  have hxv : Ext w v := by rw [hv]; exact ext_auto
  have BA : Blk v w.heap.size #[.bool t1, .slice a1 n1 c1] 42 := by rw [hv]; exact blk_auto
  have BB : Blk v (w.heap.size + 1) #[.bool false, .slice a2 n2 c2] 42 := by rw [hv]; exact blk_auto
  have BO : Blk v (w.heap.size + 1 + 1) #[.bool false, .slice none 0 0, .bool false, .slice none 0 0] 44 := by rw [hv]; exact blk_auto
  clear hv
  replace VA := VA.ext hxv
  replace VB := VB.ext hxv
  have lBA := BA.lt; have cBA := BA.cell; have fBA := BA.frozen; have lBB := BB.lt; have cBB := BB.cell; have fBB := BB.frozen; have lBO := BO.lt; have cBO := BO.cell; have fBO := BO.frozen
  (first | refine wp_region_h' 3 [0] [1, 2] (by kernel_rfl) (by kernel_rfl) ?_ | refine wp_region_h 3 [0] [1, 2] (by kernel_rfl) (by kernel_rfl) ?_); simp only [List.map_cons, List.map_nil, List.getD_cons_succ, List.getD_cons_zero]; (repeat (refine wpHL_l (fun K hK => ?_); go_simp; refine hK _ ?_; clear hK K)); refine wpHL_nil ?_; intro d0; have hx0 : Ext v (grow v d0) := ⟨d0, rfl⟩; generalize grow v d0 = y0 at *; (refine wpT_c (fun K hK => ?_); go_simp; refine ⟨_, _, ⟨rfl, rfl⟩, ?_⟩; (with_reducible refine (NO _).mono ?_); rintro e y1 ⟨r1, rfl, hr1, hz1⟩; have hx1 : Ext v y1 := hx0.trans hz1; refine ⟨_, rfl, hx1, hK _ _ ?_⟩; clear hK K); (refine wpT_c (fun K hK => ?_); go_simp; refine ⟨_, _, ⟨rfl, rfl⟩, ?_⟩; (with_reducible refine (CC _ _ (VB.ext hx1) hr1).mono ?_); rintro e y2 ⟨rfl, hz2⟩; have hx2 : Ext v y2 := hx1.trans hz2; refine ⟨_, rfl, hx2, hK _ _ ?_⟩; clear hK K); refine wpT_nil ?_; simp only [List.drop_succ_cons, List.drop_zero]
  have BA2 := BA.ext hx2
  have BB2 := BB.ext hx2
  have BO2 := BO.ext hx2
  have VA2 := VA.ext hx2
  have VB2 := VB.ext hx2
  have hxw : Ext w y2 := hxv.trans hx2
  have HD : Hid ((cmpI d 1 == 0) = true ↔ (d : Int) = 1) := Lib.hid (cmpI_one d)
  generalize cmpI d 1 = q at *
  clear BA BB BO VA VB lBA cBA fBA lBB cBB fBB lBO cBO fBO hr1 hx0 hx1 hx2 hz1 hz2 hxv CC NO y1 v
  have lBA2 := BA2.lt; have cBA2 := BA2.cell; have fBA2 := BA2.frozen; have lBB2 := BB2.lt; have cBB2 := BB2.cell; have fBB2 := BB2.frozen; have lBO2 := BO2.lt; have cBO2 := BO2.cell; have fBO2 := BO2.frozen
  by_cases h1 : (d : Int) = 1
  · have hq : (q == 0) = true := HD.out.2 h1
    have HM : Hid (x = P ∧ (d : Int) = Q) := Lib.hid (by
      rw [← HP.out, ← HQ.out]
      obtain rfl : d = 1 := by omega
      have := make_one x; exact ⟨this.1.symm, by rw [this.2]⟩)
    rw [HM.out.1] at VA2
    rw [HM.out.2] at VB2
    clear HD h1 HM hQ HP HQ
    go_wp2
    refine bp_rebase fun u hu => ?_
    have hy : Ext w u := by rw [hu]; exact ext_auto
    have W1 := VA2.set4 (x0 := .bool t1) (x1 := .slice a1 n1 c1) (x2 := .bool false) (x3 := .slice a2 n2 c2) BO2 (by decide)
    have W2 := VB2.set4 (x0 := .bool t1) (x1 := .slice a1 n1 c1) (x2 := .bool false) (x3 := .slice a2 n2 c2) BO2 (by decide)
    rw [← hu] at W1 W2
    have BF : Blk u (w.heap.size + 1 + 1) #[.bool t1, .slice a1 n1 c1, .bool false, .slice a2 n2 c2] 44 := by rw [hu]; exact BO2.set4
    clear hu VA2 VB2 BO2
    have lBF := BF.lt; have cBF := BF.cell; have fBF := BF.frozen; clear BF
    exact bodyPost_ret (v := .agg #[.bool t1, .slice a1 n1 c1, .bool false, .slice a2 n2 c2]) (by simp [results, Tryz.results54, go_sem, cBF]) rfl ⟨_, rfl, ⟨_, _, _, _, _, _, _, _, rfl, W1, W2⟩, hy⟩
  · have hq : (q == 0) = false := by
      cases h : (q == 0) with
      | false => rfl
      | true => exact absurd (HD.out.1 h) h1
    have CG := fun w h1 h2 => bGcd N hN (fun x y hx hy h0 => hQ x y (by simpa using hx) (by simpa using hy) (by omega)) x d (.agg (bigC t1 a1 n1 c1)) (.agg (bigC false a2 n2 c2)) hx (by simpa using hd) w h1 h2
    have hg1 : Nat.gcd x.natAbs d ≤ d := Nat.gcd_le_right _ hd0
    have hg0 : 0 < Nat.gcd x.natAbs d := Nat.gcd_pos_of_pos_right _ hd0
    have HN := Lib.hid (make_num x d (by omega))
    rw [HP.out, HQ.out] at HN
    rw [Int.natAbs_natCast] at CG
    generalize Nat.gcd x.natAbs d = g at *
    have C1 := fun v w h1 h2 => hQ x g hx (by simpa using (by omega : g < N)) (by omega) (.agg (bigC t1 a1 n1 c1)) v w h1 h2
    have C2 := fun v w h1 h2 => hQ d g (by simpa using hd) (by simpa using (by omega : g < N)) (by omega) (.agg (bigC false a2 n2 c2)) v w h1 h2
    unfold RetQ at C1 C2
    rw [HN.out.1] at C1
    rw [HN.out.2] at C2
    generalize x.tmod g = R1 at *
    generalize (d : Int).tmod g = R2 at *
    clear HP HQ HD HN hQ hg0 hg1 h1
    go_wp2_with (go_at_call 74; refine (CG _ VA2 VB2).mono ?_; rintro e z ⟨r, rfl, hr, hz⟩; obtain ⟨sg, ag, ng, cg, rfl, eg, kg⟩ := hr.opened; have BA3 := BA2.ext hz; have BB3 := BB2.ext hz; have BO3 := BO2.ext hz; have VA3 := VA2.ext hz; have VB3 := VB2.ext hz; have hxz := hxw.trans hz; have lBA3 := BA3.lt; have cBA3 := BA3.cell; have fBA3 := BA3.frozen; have lBB3 := BB3.lt; have cBB3 := BB3.cell; have fBB3 := BB3.frozen; have lBO3 := BO3.lt; have cBO3 := BO3.cell; have fBO3 := BO3.frozen)
    go_wp2_with (go_at_call 87; refine (C1 _ _ (VA3.ext ext_auto) ((BigV.shut eg kg).ext ext_auto)).mono ?_; clear C1; rintro e z4 ⟨r1, r2, rfl, hr1, hr2, hz4⟩; obtain ⟨s1, b1, m1, l1, rfl, e1, k1⟩ := hr1.opened; obtain ⟨s2, b2, m2, l2, rfl, e2, k2⟩ := hr2.opened; have hz' : Ext z z4 := Ext.trans ext_auto hz4; have BA4 := BA3.ext hz'; have BB4 := BB3.ext hz'; have BO4 := BO3.ext hz'; have VB4 := VB3.ext hz'; have VG4 := (BigV.shut eg kg).ext hz'; have hxz4 := hxz.trans hz'; have BG4 : Blk z4 z.heap.size #[.bool sg, .slice ag ng cg] 42 := Blk.ext (Blk.new _ _ _ rfl) hz4; have lBA4 := BA4.lt; have cBA4 := BA4.cell; have fBA4 := BA4.frozen; have lBB4 := BB4.lt; have cBB4 := BB4.cell; have fBB4 := BB4.frozen; have lBO4 := BO4.lt; have cBO4 := BO4.cell; have fBO4 := BO4.frozen; have lBG4 := BG4.lt; have cBG4 := BG4.cell; have fBG4 := BG4.frozen)
    go_wp2_with (go_at_call 87; refine (C2 _ _ (VB4.ext ext_auto) (VG4.ext ext_auto)).mono ?_; clear C2; rintro e z5 ⟨r1, r2, rfl, hr3, hr4, hz5⟩; obtain ⟨s3, b3, m3, l3, rfl, e3, k3⟩ := hr3.opened; obtain ⟨s4, b4, m4, l4, rfl, e4, k4⟩ := hr4.opened; have hz'' : Ext z4 z5 := Ext.trans ext_auto hz5; have BO5 := BO4.ext hz''; have VX5 := (BigV.shut e1 k1).ext hz''; have hxz5 := hxz4.trans hz''; have BX5 : Blk z5 z4.heap.size #[.bool s1, .slice b1 m1 l1] 42 := Blk.ext blk_auto hz5; have BO6 : Blk ((z5.alloc (.cells #[.bool s3, .slice b3 m3 l3] 42)).alloc (.cells #[.bool s4, .slice b4 m4 l4] 42)) (w.heap.size + 1 + 1) #[.bool false, .slice none 0 0, .bool false, .slice none 0 0] 44 := BO5.ext ext_auto; have lBO5 := BO5.lt; have cBO5 := BO5.cell; have fBO5 := BO5.frozen; have lBX5 := BX5.lt; have cBX5 := BX5.cell; have fBX5 := BX5.frozen; have lBO6 := BO6.lt; have cBO6 := BO6.cell; have fBO6 := BO6.frozen)
    refine bp_rebase fun u hu => ?_
    have hy : Ext w u := by rw [hu]; exact ext_auto
    have hzu : Ext z5 ((z5.alloc (.cells #[.bool s3, .slice b3 m3 l3] 42)).alloc (.cells #[.bool s4, .slice b4 m4 l4] 42)) := ext_auto
    have W1 := (VX5.ext hzu).set4 (x0 := .bool s1) (x1 := .slice b1 m1 l1) (x2 := .bool s3) (x3 := .slice b3 m3 l3) BO6 (by decide)
    have W2 := ((BigV.shut e3 k3).ext hzu).set4 (x0 := .bool s1) (x1 := .slice b1 m1 l1) (x2 := .bool s3) (x3 := .slice b3 m3 l3) BO6 (by decide)
    rw [← hu] at W1 W2
    have BF : Blk u (w.heap.size + 1 + 1) #[.bool s1, .slice b1 m1 l1, .bool s3, .slice b3 m3 l3] 44 := by rw [hu]; exact BO6.set4
    clear hu VX5 BO6 hzu
    have lBF := BF.lt; have cBF := BF.cell; have fBF := BF.frozen; clear BF
    exact bodyPost_ret (v := .agg #[.bool s1, .slice b1 m1 l1, .bool s3, .slice b3 m3 l3]) (by simp [results, Tryz.results54, go_sem, cBF]) rfl ⟨_, rfl, ⟨_, _, _, _, _, _, _, _, rfl, W1, W2⟩, hy⟩
set_option maxHeartbeats 8000000 in
theorem fMake_neg (N : Nat) (hN : N ≤ 2 ^ 520) (hQ : QuoOK N) (x0 y0 x : Int) (d : Nat) (e1 : -x0 = x) (e2 : -y0 = (d : Int)) (v1 v2 : Value) (hx : x.natAbs < N) (hd : d < N) (hd0 : 0 < d) (P : Int) (Q : Nat) (HP : Hid ((mkRat x d).num = P)) (HQ : Hid ((mkRat x d).den = Q)) (w : World) (h1 : BigV w v1 x0) (h2 : BigV w v2 y0) :
    Calls Tryz.prog 54 #[v1, v2] w (RetB (fun W r => FrV W r P (Q : Int)) w) := by
  have NO : ∀ w, Calls Tryz.prog 57 #[.int .i64 1] w (RetB (fun W r => BigV W r 1) w) := fun w => Num_pos 1 (by decide) w
  have CC := fun r' r w h1 h2 => bCmp (d : Int) 1 r' r (small_of hN (by simpa using hd)) small_one w h1 h2
  have N1 := fun w h => bNeg x0 v1 (small_of hN (by omega)) w h
  have N2 := fun w h => bNeg y0 v2 (small_of hN (by omega)) w h
  rw [e1] at N1
  rw [e2] at N2
  have VA0 := h1
  have VB0 := h2
  obtain ⟨u1, a8, n8, c8, rfl, e8, k8⟩ := h1.opened
  obtain ⟨u2, a9, n9, c9, rfl, e9, k9⟩ := h2.opened
  have hu2 : u2 = true := by rw [e9.out.1]; simp; omega
  clear h1 h2 e8 k8 k9 e9 e1 e2
  subst hu2
  go_enter Tryz.func54, Tryz.ntmps54
  go_wp2
  refine wp_rebase fun v hv => ?_
  have hxv : Ext w v := by rw [hv]; exact ext_auto
  have BA : Blk v w.heap.size #[.bool u1, .slice a8 n8 c8] 42 := by rw [hv]; exact blk_auto
  have BB : Blk v (w.heap.size + 1) #[.bool true, .slice a9 n9 c9] 42 := by rw [hv]; exact blk_auto
  have BO : Blk v (w.heap.size + 1 + 1) #[.bool false, .slice none 0 0, .bool false, .slice none 0 0] 44 := by rw [hv]; exact blk_auto
  clear hv
  replace VA0 := VA0.ext hxv
  replace VB0 := VB0.ext hxv
  have lBA := BA.lt; have cBA := BA.cell; have fBA := BA.frozen; have lBB := BB.lt; have cBB := BB.cell; have fBB := BB.frozen; have lBO := BO.lt; have cBO := BO.cell; have fBO := BO.frozen
  (first | refine wp_region_h' 4 [0, 2] [1, 3] (by kernel_rfl) (by kernel_rfl) ?_ | refine wp_region_h 4 [0, 2] [1, 3] (by kernel_rfl) (by kernel_rfl) ?_); simp only [List.map_cons, List.map_nil, List.getD_cons_succ, List.getD_cons_zero]; (repeat (refine wpHL_l (fun K hK => ?_); go_simp; refine hK _ ?_; clear hK K)); refine wpHL_nil ?_; intro d0; have hx0 : Ext v (grow v d0) := ⟨d0, rfl⟩; generalize grow v d0 = y0 at *; (refine wpT_c (fun K hK => ?_); go_simp; refine ⟨_, _, ⟨rfl, rfl⟩, ?_⟩; (with_reducible refine (N1 _ (VA0.ext hx0)).mono ?_); rintro e y1 ⟨r1, rfl, hr1, hz1⟩; have hx1 : Ext v y1 := hx0.trans hz1; refine ⟨_, rfl, hx1, hK _ _ ?_⟩; clear hK K); (refine wpT_c (fun K hK => ?_); go_simp; refine ⟨_, _, ⟨rfl, rfl⟩, ?_⟩; (with_reducible refine (N2 _ (VB0.ext hx1)).mono ?_); rintro e y2 ⟨r2, rfl, hr2, hz2⟩; have hx2 : Ext v y2 := hx1.trans hz2; refine ⟨_, rfl, hx2, hK _ _ ?_⟩; clear hK K); refine wpT_nil ?_; simp only [List.drop_succ_cons, List.drop_zero]
  obtain ⟨t1, a1, n1, c1, rfl, ea, ka⟩ := (hr1.ext hz2).opened
  obtain ⟨t2, a2, n2, c2, rfl, eb, kb⟩ := hr2.opened
  have ht2 : t2 = false := by rw [eb.out.1]; simp
  subst ht2
  have BA2 := BA.ext hx2
  have BB2 := BB.ext hx2
  have BO2 := BO.ext hx2
  have hxn : Ext w y2 := hxv.trans hx2
  have lBA2 := BA2.lt; have cBA2 := BA2.cell; have fBA2 := BA2.frozen; have lBB2 := BB2.lt; have cBB2 := BB2.cell; have fBB2 := BB2.frozen; have lBO2 := BO2.lt; have cBO2 := BO2.cell; have fBO2 := BO2.frozen
  go_wp2
  refine wp_rebase fun v3 hv => ?_
  have hx3 : Ext w v3 := by rw [hv]; exact ext_auto
  have BA3 : Blk v3 w.heap.size #[.bool t1, .slice a1 n1 c1] 42 := by rw [hv]; exact blk_auto
  have BB3 : Blk v3 (w.heap.size + 1) #[.bool false, .slice a2 n2 c2] 42 := by rw [hv]; exact blk_auto
  have BO3 : Blk v3 (w.heap.size + 1 + 1) #[.bool false, .slice none 0 0, .bool false, .slice none 0 0] 44 := by rw [hv]; exact blk_auto
  have BB4 : Blk ((y2.setCell ⟨w.heap.size, 0, none⟩ (.bool t1)).setCell ⟨w.heap.size, 1, none⟩ (.slice a1 n1 c1)) (w.heap.size + 1) _ _ := (BB2.setOther (by omega)).setOther (by omega)
  have VA := ((((BigV.shut ea ka).set (j := 0) (x := .bool t1) BA2 (by decide)).set (j := 1) (x := .slice a1 n1 c1) BA2.setSame (by decide)).set (j := 0) (x := .bool false) BB4 (by decide)).set (j := 1) (x := .slice a2 n2 c2) BB4.setSame (by decide)
  have VB := ((((BigV.shut eb kb).set (j := 0) (x := .bool t1) BA2 (by decide)).set (j := 1) (x := .slice a1 n1 c1) BA2.setSame (by decide)).set (j := 0) (x := .bool false) BB4 (by decide)).set (j := 1) (x := .slice a2 n2 c2) BB4.setSame (by decide)
  rw [← hv] at VA VB
  clear hv BB4 BA BB BO BA2 BB2 BO2 lBA cBA fBA lBB cBB fBB lBO cBO fBO lBA2 cBA2 fBA2 lBB2 cBB2 fBB2 lBO2 cBO2 fBO2 hr1 hr2 ka kb hx0 hx1 hx2 hz1 hz2 hxn hxv N1 N2 VA0 VB0 ea eb y0 x0
  clear y2 y1 v
  revert hx3 BA3 BB3 BO3 VA VB
  generalize v3 = v
  intro hxv BA BB BO VA VB
  replace CC := fun r w h1 h2 => CC (.agg (bigC false a2 n2 c2)) r w h1 h2
  have lBA := BA.lt; have cBA := BA.cell; have fBA := BA.frozen; have lBB := BB.lt; have cBB := BB.cell; have fBB := BB.frozen; have lBO := BO.lt; have cBO := BO.cell; have fBO := BO.frozen
  (first | refine wp_region_h' 3 [0] [1, 2] (by kernel_rfl) (by kernel_rfl) ?_ | refine wp_region_h 3 [0] [1, 2] (by kernel_rfl) (by kernel_rfl) ?_); simp only [List.map_cons, List.map_nil, List.getD_cons_succ, List.getD_cons_zero]; (repeat (refine wpHL_l (fun K hK => ?_); go_simp; refine hK _ ?_; clear hK K)); refine wpHL_nil ?_; intro d0; have hx0 : Ext v (grow v d0) := ⟨d0, rfl⟩; generalize grow v d0 = y0 at *; (refine wpT_c (fun K hK => ?_); go_simp; refine ⟨_, _, ⟨rfl, rfl⟩, ?_⟩; (with_reducible refine (NO _).mono ?_); rintro e y1 ⟨r1, rfl, hr1, hz1⟩; have hx1 : Ext v y1 := hx0.trans hz1; refine ⟨_, rfl, hx1, hK _ _ ?_⟩; clear hK K); (refine wpT_c (fun K hK => ?_); go_simp; refine ⟨_, _, ⟨rfl, rfl⟩, ?_⟩; (with_reducible refine (CC _ _ (VB.ext hx1) hr1).mono ?_); rintro e y2 ⟨rfl, hz2⟩; have hx2 : Ext v y2 := hx1.trans hz2; refine ⟨_, rfl, hx2, hK _ _ ?_⟩; clear hK K); refine wpT_nil ?_; simp only [List.drop_succ_cons, List.drop_zero]
  have BA2 := BA.ext hx2
  have BB2 := BB.ext hx2
  have BO2 := BO.ext hx2
  have VA2 := VA.ext hx2
  have VB2 := VB.ext hx2
  have hxw : Ext w y2 := hxv.trans hx2
  have HD : Hid ((cmpI d 1 == 0) = true ↔ (d : Int) = 1) := Lib.hid (cmpI_one d)
  generalize cmpI d 1 = q at *
  clear BA BB BO VA VB lBA cBA fBA lBB cBB fBB lBO cBO fBO hr1 hx0 hx1 hx2 hz1 hz2 hxv CC NO y1 v
  have lBA2 := BA2.lt; have cBA2 := BA2.cell; have fBA2 := BA2.frozen; have lBB2 := BB2.lt; have cBB2 := BB2.cell; have fBB2 := BB2.frozen; have lBO2 := BO2.lt; have cBO2 := BO2.cell; have fBO2 := BO2.frozen
  by_cases h1 : (d : Int) = 1
  · have hq : (q == 0) = true := HD.out.2 h1
    have HM : Hid (x = P ∧ (d : Int) = Q) := Lib.hid (by
      rw [← HP.out, ← HQ.out]
      obtain rfl : d = 1 := by omega
      have := make_one x; exact ⟨this.1.symm, by rw [this.2]⟩)
    rw [HM.out.1] at VA2
    rw [HM.out.2] at VB2
    clear HD h1 HM hQ HP HQ
    go_wp2
    refine bp_rebase fun u hu => ?_
    have hy : Ext w u := by rw [hu]; exact ext_auto
    have W1 := VA2.set4 (x0 := .bool t1) (x1 := .slice a1 n1 c1) (x2 := .bool false) (x3 := .slice a2 n2 c2) BO2 (by decide)
    have W2 := VB2.set4 (x0 := .bool t1) (x1 := .slice a1 n1 c1) (x2 := .bool false) (x3 := .slice a2 n2 c2) BO2 (by decide)
    rw [← hu] at W1 W2
    have BF : Blk u (w.heap.size + 1 + 1) #[.bool t1, .slice a1 n1 c1, .bool false, .slice a2 n2 c2] 44 := by rw [hu]; exact BO2.set4
    clear hu VA2 VB2 BO2
    have lBF := BF.lt; have cBF := BF.cell; have fBF := BF.frozen; clear BF
    exact bodyPost_ret (v := .agg #[.bool t1, .slice a1 n1 c1, .bool false, .slice a2 n2 c2]) (by simp [results, Tryz.results54, go_sem, cBF]) rfl ⟨_, rfl, ⟨_, _, _, _, _, _, _, _, rfl, W1, W2⟩, hy⟩
  · have hq : (q == 0) = false := by
      cases h : (q == 0) with
      | false => rfl
      | true => exact absurd (HD.out.1 h) h1
    have CG := fun w h1 h2 => bGcd N hN (fun x y hx hy h0 => hQ x y (by simpa using hx) (by simpa using hy) (by omega)) x d (.agg (bigC t1 a1 n1 c1)) (.agg (bigC false a2 n2 c2)) hx (by simpa using hd) w h1 h2
    have hg1 : Nat.gcd x.natAbs d ≤ d := Nat.gcd_le_right _ hd0
    have hg0 : 0 < Nat.gcd x.natAbs d := Nat.gcd_pos_of_pos_right _ hd0
    have HN := Lib.hid (make_num x d (by omega))
    rw [HP.out, HQ.out] at HN
    rw [Int.natAbs_natCast] at CG
    generalize Nat.gcd x.natAbs d = g at *
    have C1 := fun v w h1 h2 => hQ x g hx (by simpa using (by omega : g < N)) (by omega) (.agg (bigC t1 a1 n1 c1)) v w h1 h2
    have C2 := fun v w h1 h2 => hQ d g (by simpa using hd) (by simpa using (by omega : g < N)) (by omega) (.agg (bigC false a2 n2 c2)) v w h1 h2
    unfold RetQ at C1 C2
    rw [HN.out.1] at C1
    rw [HN.out.2] at C2
    generalize x.tmod g = R1 at *
    generalize (d : Int).tmod g = R2 at *
    clear HP HQ HD HN hQ hg0 hg1 h1
    go_wp2_with (go_at_call 74; refine (CG _ VA2 VB2).mono ?_; rintro e z ⟨r, rfl, hr, hz⟩; obtain ⟨sg, ag, ng, cg, rfl, eg, kg⟩ := hr.opened; have BA3 := BA2.ext hz; have BB3 := BB2.ext hz; have BO3 := BO2.ext hz; have VA3 := VA2.ext hz; have VB3 := VB2.ext hz; have hxz := hxw.trans hz; have lBA3 := BA3.lt; have cBA3 := BA3.cell; have fBA3 := BA3.frozen; have lBB3 := BB3.lt; have cBB3 := BB3.cell; have fBB3 := BB3.frozen; have lBO3 := BO3.lt; have cBO3 := BO3.cell; have fBO3 := BO3.frozen)
    go_wp2_with (go_at_call 87; refine (C1 _ _ (VA3.ext ext_auto) ((BigV.shut eg kg).ext ext_auto)).mono ?_; clear C1; rintro e z4 ⟨r1, r2, rfl, hr1, hr2, hz4⟩; obtain ⟨s1, b1, m1, l1, rfl, e1, k1⟩ := hr1.opened; obtain ⟨s2, b2, m2, l2, rfl, e2, k2⟩ := hr2.opened; have hz' : Ext z z4 := Ext.trans ext_auto hz4; have BA4 := BA3.ext hz'; have BB4 := BB3.ext hz'; have BO4 := BO3.ext hz'; have VB4 := VB3.ext hz'; have VG4 := (BigV.shut eg kg).ext hz'; have hxz4 := hxz.trans hz'; have BG4 : Blk z4 z.heap.size #[.bool sg, .slice ag ng cg] 42 := Blk.ext (Blk.new _ _ _ rfl) hz4; have lBA4 := BA4.lt; have cBA4 := BA4.cell; have fBA4 := BA4.frozen; have lBB4 := BB4.lt; have cBB4 := BB4.cell; have fBB4 := BB4.frozen; have lBO4 := BO4.lt; have cBO4 := BO4.cell; have fBO4 := BO4.frozen; have lBG4 := BG4.lt; have cBG4 := BG4.cell; have fBG4 := BG4.frozen)
    go_wp2_with (go_at_call 87; refine (C2 _ _ (VB4.ext ext_auto) (VG4.ext ext_auto)).mono ?_; clear C2; rintro e z5 ⟨r1, r2, rfl, hr3, hr4, hz5⟩; obtain ⟨s3, b3, m3, l3, rfl, e3, k3⟩ := hr3.opened; obtain ⟨s4, b4, m4, l4, rfl, e4, k4⟩ := hr4.opened; have hz'' : Ext z4 z5 := Ext.trans ext_auto hz5; have BO5 := BO4.ext hz''; have VX5 := (BigV.shut e1 k1).ext hz''; have hxz5 := hxz4.trans hz''; have BX5 : Blk z5 z4.heap.size #[.bool s1, .slice b1 m1 l1] 42 := Blk.ext blk_auto hz5; have BO6 : Blk ((z5.alloc (.cells #[.bool s3, .slice b3 m3 l3] 42)).alloc (.cells #[.bool s4, .slice b4 m4 l4] 42)) (w.heap.size + 1 + 1) #[.bool false, .slice none 0 0, .bool false, .slice none 0 0] 44 := BO5.ext ext_auto; have lBO5 := BO5.lt; have cBO5 := BO5.cell; have fBO5 := BO5.frozen; have lBX5 := BX5.lt; have cBX5 := BX5.cell; have fBX5 := BX5.frozen; have lBO6 := BO6.lt; have cBO6 := BO6.cell; have fBO6 := BO6.frozen)
    refine bp_rebase fun u hu => ?_
    have hy : Ext w u := by rw [hu]; exact ext_auto
    have hzu : Ext z5 ((z5.alloc (.cells #[.bool s3, .slice b3 m3 l3] 42)).alloc (.cells #[.bool s4, .slice b4 m4 l4] 42)) := ext_auto
    have W1 := (VX5.ext hzu).set4 (x0 := .bool s1) (x1 := .slice b1 m1 l1) (x2 := .bool s3) (x3 := .slice b3 m3 l3) BO6 (by decide)
    have W2 := ((BigV.shut e3 k3).ext hzu).set4 (x0 := .bool s1) (x1 := .slice b1 m1 l1) (x2 := .bool s3) (x3 := .slice b3 m3 l3) BO6 (by decide)
    rw [← hu] at W1 W2
    have BF : Blk u (w.heap.size + 1 + 1) #[.bool s1, .slice b1 m1 l1, .bool s3, .slice b3 m3 l3] 44 := by rw [hu]; exact BO6.set4
    clear hu VX5 BO6 hzu
    have lBF := BF.lt; have cBF := BF.cell; have fBF := BF.frozen; clear BF
    exact bodyPost_ret (v := .agg #[.bool s1, .slice b1 m1 l1, .bool s3, .slice b3 m3 l3]) (by simp [results, Tryz.results54, go_sem, cBF]) rfl ⟨_, rfl, ⟨_, _, _, _, _, _, _, _, rfl, W1, W2⟩, hy⟩
end Go.Proofs.YtmopgcbhmkemjaaGreatDoor

namespace Go.Proofs.YtmopgcbhmkemjaaGreatDoor
open Go Go.RowKit
set_option linter.unusedSimpArgs false
set_option linter.unusedVariables false
set_option maxRecDepth 100000
set_option exponentiation.threshold 3000

abbrev iZ : Value := .agg #[.bool false, .int .u64 0, .int .u64 0, .int .u64 0, .int .u64 0]
set_option maxHeartbeats 4000000 in
theorem bOut_yes (x : Int) (v1 : Value) (hx : x.natAbs < B4) (w : World) (h1 : BigV w v1 x) :
    Calls Tryz.prog 105 #[v1] w fun e w' => e = .returned (.tuple #[intV (decide (x < 0)) x.natAbs, .int .i64 0]) ∧ Ext w w' := by
  have CT := fun w h => bTo_yes x v1 hx w h
  have V1 := h1
  obtain ⟨t1, a1, n1, c1, rfl, e1, k1⟩ := h1.opened
  clear h1 e1 k1 hx
  generalize decide (x < 0) = s at *
  generalize x.natAbs = m at *
  go_enter Tryz.func105, Tryz.ntmps105
  go_wp2_with (go_at_call 145; refine (CT _ (V1.ext ext_auto)).mono ?_; rintro e z ⟨rfl, hz⟩; have BO : Blk z (w.heap.size + 1) #[.bool false, .int .u64 0, .int .u64 0, .int .u64 0, .int .u64 0] 27 := Blk.ext blk_auto hz; have hxz : Ext w z := Ext.trans ext_auto hz; have BO2 : Blk (z.alloc (.cells (ints1 s m) 27)) (w.heap.size + 1) #[.bool false, .int .u64 0, .int .u64 0, .int .u64 0, .int .u64 0] 27 := BO.ext ext_auto; have lBO := BO.lt; have cBO := BO.cell; have fBO := BO.frozen; have lBO2 := BO2.lt; have cBO2 := BO2.cell; have fBO2 := BO2.frozen)
  refine bp_rebase fun u hu => ?_
  have hy : Ext w u := by rw [hu]; exact ext_auto
  have BF : Blk u (w.heap.size + 1) (ints1 s m) 27 := by rw [hu]; exact blk_auto
  clear hu
  have lBF := BF.lt; have cBF := BF.cell; have fBF := BF.frozen; clear BF
  exact bodyPost_ret (v := .tuple #[intV s m, .int .i64 0]) (by simp [results, Tryz.results105, go_sem, cBF]) rfl ⟨rfl, hy⟩
set_option maxHeartbeats 4000000 in
theorem bOut_no (x : Int) (v1 : Value) (hx : ¬ x.natAbs < B4) (hs : Small x) (w : World) (h1 : BigV w v1 x) :
    Calls Tryz.prog 105 #[v1] w fun e w' => e = .returned (.tuple #[iZ, .int .i64 110]) ∧ Ext w w' := by
  have CT := fun w h => bTo_no x v1 hx hs w h
  have V1 := h1
  obtain ⟨t1, a1, n1, c1, rfl, e1, k1⟩ := h1.opened
  clear h1 e1 k1 hx hs
  go_enter Tryz.func105, Tryz.ntmps105
  go_wp2_with (go_at_call 145; refine (CT _ (V1.ext ext_auto)).mono ?_; rintro e z ⟨rfl, hz⟩; have BO : Blk z (w.heap.size + 1) #[.bool false, .int .u64 0, .int .u64 0, .int .u64 0, .int .u64 0] 27 := Blk.ext blk_auto hz; have hxz : Ext w z := Ext.trans ext_auto hz; have BO2 : Blk (z.alloc (.cells #[.bool false, .int .u64 0, .int .u64 0, .int .u64 0, .int .u64 0] 27)) (w.heap.size + 1) #[.bool false, .int .u64 0, .int .u64 0, .int .u64 0, .int .u64 0] 27 := BO.ext ext_auto; have lBO := BO.lt; have cBO := BO.cell; have fBO := BO.frozen; have lBO2 := BO2.lt; have cBO2 := BO2.cell; have fBO2 := BO2.frozen)
  refine bp_rebase fun u hu => ?_
  have hy : Ext w u := by rw [hu]; exact ext_auto
  have BF : Blk u (w.heap.size + 1) #[.bool false, .int .u64 0, .int .u64 0, .int .u64 0, .int .u64 0] 27 := by rw [hu]; exact blk_auto
  clear hu
  have lBF := BF.lt; have cBF := BF.cell; have fBF := BF.frozen; clear BF
  exact bodyPost_ret (v := .tuple #[iZ, .int .i64 110]) (by simp [results, Tryz.results105, go_sem, cBF]) rfl ⟨rfl, hy⟩
set_option maxHeartbeats 8000000 in
theorem fOut_yes (N D : Int) (v1 : Value) (s : Bool) (m : Nat) (t : Bool) (k : Nat) (w : World) (h1 : FrV w v1 N D)
    (c1 : ∀ v w, BigV w v N → Calls Tryz.prog 105 #[v] w fun e w' => e = .returned (.tuple #[intV s m, .int .i64 0]) ∧ Ext w w')
    (c2 : ∀ v w, BigV w v D → Calls Tryz.prog 105 #[v] w fun e w' => e = .returned (.tuple #[intV t k, .int .i64 0]) ∧ Ext w w') :
    Calls Tryz.prog 76 #[v1] w fun e w' => e = .returned (.tuple #[ratV s m t k, .int .i64 0]) ∧ Ext w w' := by
  obtain ⟨s1, a1, n1, l1, s2, a2, n2, l2, rfl, VA, VB⟩ := h1
  go_enter Tryz.func76, Tryz.ntmps76
  go_wp2_with (go_at_call 105; refine (c1 _ _ (VA.ext ext_auto)).mono ?_; clear c1; rintro e z ⟨rfl, hz⟩; have BI : Blk z w.heap.size #[.bool s1, .slice a1 n1 l1, .bool s2, .slice a2 n2 l2] 44 := Blk.ext blk_auto hz; have BO : Blk z (w.heap.size + 1) #[.bool false, .int .u64 0, .int .u64 0, .int .u64 0, .int .u64 0, .bool false, .int .u64 0, .int .u64 0, .int .u64 0, .int .u64 0] 29 := Blk.ext blk_auto hz; have hxz : Ext w z := Ext.trans ext_auto hz; have lBI := BI.lt; have cBI := BI.cell; have fBI := BI.frozen; have lBO := BO.lt; have cBO := BO.cell; have fBO := BO.frozen)
  go_wp2_with (go_at_call 105; refine (c2 _ _ (VB.ext (hxz.trans ext_auto))).mono ?_; clear c2; rintro e z2 ⟨rfl, hz2⟩; have hzz : Ext z z2 := Ext.trans ext_auto hz2; have BN : Blk z2 z.heap.size (ints1 s m) 27 := Blk.ext blk_auto hz2; have BO2 : Blk z2 (w.heap.size + 1) #[.bool false, .int .u64 0, .int .u64 0, .int .u64 0, .int .u64 0, .bool false, .int .u64 0, .int .u64 0, .int .u64 0, .int .u64 0] 29 := BO.ext hzz; have hxz2 : Ext w z2 := hxz.trans hzz; have BO3 : Blk (z2.alloc (.cells (ints1 t k) 27)) (w.heap.size + 1) #[.bool false, .int .u64 0, .int .u64 0, .int .u64 0, .int .u64 0, .bool false, .int .u64 0, .int .u64 0, .int .u64 0, .int .u64 0] 29 := BO2.ext ext_auto; have lBN := BN.lt; have cBN := BN.cell; have fBN := BN.frozen; have lBO2 := BO2.lt; have cBO2 := BO2.cell; have fBO2 := BO2.frozen; have lBO3 := BO3.lt; have cBO3 := BO3.cell; have fBO3 := BO3.frozen)
  refine bp_rebase fun u hu => ?_
  have hy : Ext w u := by rw [hu]; exact ext_auto
  have BF : Blk u (w.heap.size + 1) #[.bool s, q64 (wn m 0), q64 (wn m 1), q64 (wn m 2), q64 (wn m 3), .bool t, q64 (wn k 0), q64 (wn k 1), q64 (wn k 2), q64 (wn k 3)] 29 := by rw [hu]; exact blk_auto
  clear hu
  have lBF := BF.lt; have cBF := BF.cell; have fBF := BF.frozen; clear BF
  exact bodyPost_ret (v := .tuple #[ratV s m t k, .int .i64 0]) (by simp [results, Tryz.results76, go_sem, cBF]) rfl ⟨rfl, hy⟩
set_option maxHeartbeats 8000000 in
theorem fOut_no1 (N D : Int) (v1 : Value) (s : Bool) (m : Nat) (t : Bool) (k : Nat) (g : Int) (w : World) (h1 : FrV w v1 N D)
    (c1 : ∀ v w, BigV w v N → Calls Tryz.prog 105 #[v] w fun e w' => e = .returned (.tuple #[intV s m, .int .i64 110]) ∧ Ext w w')
    (c2 : ∀ v w, BigV w v D → Calls Tryz.prog 105 #[v] w fun e w' => e = .returned (.tuple #[intV t k, .int .i64 g]) ∧ Ext w w') :
    Calls Tryz.prog 76 #[v1] w fun e w' => e = .returned (.tuple #[qZ, .int .i64 110]) ∧ Ext w w' := by
  obtain ⟨s1, a1, n1, l1, s2, a2, n2, l2, rfl, VA, VB⟩ := h1
  go_enter Tryz.func76, Tryz.ntmps76
  go_wp2_with (go_at_call 105; refine (c1 _ _ (VA.ext ext_auto)).mono ?_; clear c1; rintro e z ⟨rfl, hz⟩; have BI : Blk z w.heap.size #[.bool s1, .slice a1 n1 l1, .bool s2, .slice a2 n2 l2] 44 := Blk.ext blk_auto hz; have BO : Blk z (w.heap.size + 1) #[.bool false, .int .u64 0, .int .u64 0, .int .u64 0, .int .u64 0, .bool false, .int .u64 0, .int .u64 0, .int .u64 0, .int .u64 0] 29 := Blk.ext blk_auto hz; have hxz : Ext w z := Ext.trans ext_auto hz; have lBI := BI.lt; have cBI := BI.cell; have fBI := BI.frozen; have lBO := BO.lt; have cBO := BO.cell; have fBO := BO.frozen)
  go_wp2_with (go_at_call 105; refine (c2 _ _ (VB.ext (hxz.trans ext_auto))).mono ?_; clear c2; rintro e z2 ⟨rfl, hz2⟩; have hzz : Ext z z2 := Ext.trans ext_auto hz2; have BN : Blk z2 z.heap.size (ints1 s m) 27 := Blk.ext blk_auto hz2; have BO2 : Blk z2 (w.heap.size + 1) #[.bool false, .int .u64 0, .int .u64 0, .int .u64 0, .int .u64 0, .bool false, .int .u64 0, .int .u64 0, .int .u64 0, .int .u64 0] 29 := BO.ext hzz; have hxz2 : Ext w z2 := hxz.trans hzz; have BO3 : Blk (z2.alloc (.cells (ints1 t k) 27)) (w.heap.size + 1) #[.bool false, .int .u64 0, .int .u64 0, .int .u64 0, .int .u64 0, .bool false, .int .u64 0, .int .u64 0, .int .u64 0, .int .u64 0] 29 := BO2.ext ext_auto; have lBN := BN.lt; have cBN := BN.cell; have fBN := BN.frozen; have lBO2 := BO2.lt; have cBO2 := BO2.cell; have fBO2 := BO2.frozen; have lBO3 := BO3.lt; have cBO3 := BO3.cell; have fBO3 := BO3.frozen)
  refine bp_rebase fun u hu => ?_
  have hy : Ext w u := by rw [hu]; exact ext_auto
  have BF : Blk u (w.heap.size + 1) #[.bool false, .int .u64 0, .int .u64 0, .int .u64 0, .int .u64 0, .bool false, .int .u64 0, .int .u64 0, .int .u64 0, .int .u64 0] 29 := by rw [hu]; exact blk_auto
  clear hu
  have lBF := BF.lt; have cBF := BF.cell; have fBF := BF.frozen; clear BF
  exact bodyPost_ret (v := .tuple #[qZ, .int .i64 110]) (by simp [results, Tryz.results76, go_sem, cBF]) rfl ⟨rfl, hy⟩
set_option maxHeartbeats 8000000 in
theorem fOut_no2 (N D : Int) (v1 : Value) (s : Bool) (m : Nat) (t : Bool) (k : Nat) (w : World) (h1 : FrV w v1 N D)
    (c1 : ∀ v w, BigV w v N → Calls Tryz.prog 105 #[v] w fun e w' => e = .returned (.tuple #[intV s m, .int .i64 0]) ∧ Ext w w')
    (c2 : ∀ v w, BigV w v D → Calls Tryz.prog 105 #[v] w fun e w' => e = .returned (.tuple #[intV t k, .int .i64 110]) ∧ Ext w w') :
    Calls Tryz.prog 76 #[v1] w fun e w' => e = .returned (.tuple #[qZ, .int .i64 110]) ∧ Ext w w' := by
  obtain ⟨s1, a1, n1, l1, s2, a2, n2, l2, rfl, VA, VB⟩ := h1
  go_enter Tryz.func76, Tryz.ntmps76
  go_wp2_with (go_at_call 105; refine (c1 _ _ (VA.ext ext_auto)).mono ?_; clear c1; rintro e z ⟨rfl, hz⟩; have BI : Blk z w.heap.size #[.bool s1, .slice a1 n1 l1, .bool s2, .slice a2 n2 l2] 44 := Blk.ext blk_auto hz; have BO : Blk z (w.heap.size + 1) #[.bool false, .int .u64 0, .int .u64 0, .int .u64 0, .int .u64 0, .bool false, .int .u64 0, .int .u64 0, .int .u64 0, .int .u64 0] 29 := Blk.ext blk_auto hz; have hxz : Ext w z := Ext.trans ext_auto hz; have lBI := BI.lt; have cBI := BI.cell; have fBI := BI.frozen; have lBO := BO.lt; have cBO := BO.cell; have fBO := BO.frozen)
  go_wp2_with (go_at_call 105; refine (c2 _ _ (VB.ext (hxz.trans ext_auto))).mono ?_; clear c2; rintro e z2 ⟨rfl, hz2⟩; have hzz : Ext z z2 := Ext.trans ext_auto hz2; have BN : Blk z2 z.heap.size (ints1 s m) 27 := Blk.ext blk_auto hz2; have BO2 : Blk z2 (w.heap.size + 1) #[.bool false, .int .u64 0, .int .u64 0, .int .u64 0, .int .u64 0, .bool false, .int .u64 0, .int .u64 0, .int .u64 0, .int .u64 0] 29 := BO.ext hzz; have hxz2 : Ext w z2 := hxz.trans hzz; have BO3 : Blk (z2.alloc (.cells (ints1 t k) 27)) (w.heap.size + 1) #[.bool false, .int .u64 0, .int .u64 0, .int .u64 0, .int .u64 0, .bool false, .int .u64 0, .int .u64 0, .int .u64 0, .int .u64 0] 29 := BO2.ext ext_auto; have lBN := BN.lt; have cBN := BN.cell; have fBN := BN.frozen; have lBO2 := BO2.lt; have cBO2 := BO2.cell; have fBO2 := BO2.frozen; have lBO3 := BO3.lt; have cBO3 := BO3.cell; have fBO3 := BO3.frozen)
  refine bp_rebase fun u hu => ?_
  have hy : Ext w u := by rw [hu]; exact ext_auto
  have BF : Blk u (w.heap.size + 1) #[.bool false, .int .u64 0, .int .u64 0, .int .u64 0, .int .u64 0, .bool false, .int .u64 0, .int .u64 0, .int .u64 0, .int .u64 0] 29 := by rw [hu]; exact blk_auto
  clear hu
  have lBF := BF.lt; have cBF := BF.cell; have fBF := BF.frozen; clear BF
  exact bodyPost_ret (v := .tuple #[qZ, .int .i64 110]) (by simp [results, Tryz.results76, go_sem, cBF]) rfl ⟨rfl, hy⟩
end Go.Proofs.YtmopgcbhmkemjaaGreatDoor

namespace Go.Proofs.YtmopgcbhmkemjaaGreatDoor
open Go Go.RowKit
set_option linter.unusedSimpArgs false
set_option linter.unusedVariables false
set_option maxRecDepth 100000
set_option exponentiation.threshold 3000

/-- A reference's fraction is that of a rational. -/
abbrev FrQ (W : World) (v : Value) (q : Rat) : Prop := FrV W v q.num (q.den : Int)
theorem divInt_neg' (x : Int) (d : Nat) : Rat.divInt x (-(d : Int)) = mkRat (-x) d := by
  rw [← Rat.divInt_ofNat, Rat.divInt_neg']
theorem fMake (N : Nat) (hN : N ≤ 2 ^ 520) (hQ : QuoOK N) (x y : Int) (v1 v2 : Value) (hx : x.natAbs < N) (hy : y.natAbs < N) (h0 : y ≠ 0) (w : World) (h1 : BigV w v1 x) (h2 : BigV w v2 y) :
    Calls Tryz.prog 54 #[v1, v2] w (RetB (fun W r => FrQ W r (Rat.divInt x y)) w) := by
  rcases Int.lt_or_gt_of_ne h0 with h | h
  · obtain ⟨d, rfl⟩ : ∃ d : Nat, y = -(d : Int) := ⟨y.natAbs, by omega⟩
    rw [divInt_neg']
    exact fMake_neg N hN hQ x (-(d : Int)) (-x) d rfl (Int.neg_neg _) v1 v2 (by simpa using hx) (by simpa using hy) (by omega) _ _ (Lib.hid rfl) (Lib.hid rfl) w h1 h2
  · obtain ⟨d, rfl⟩ : ∃ d : Nat, y = (d : Int) := ⟨y.toNat, by omega⟩
    rw [Rat.divInt_ofNat]
    exact fMake_pos N hN hQ x d v1 v2 hx (by simpa using hy) (by omega) _ _ (Lib.hid rfl) (Lib.hid rfl) w h1 h2
theorem fOut_fits (q : Rat) (v1 : Value) (hq : Fits q) (w : World) (h1 : FrQ w v1 q) :
    Calls Tryz.prog 76 #[v1] w fun e w' => e = .returned (.tuple #[qV q, .int .i64 0]) ∧ Ext w w' := by
  have c2 := fun v w h => bOut_yes (q.den : Int) v (by simpa using hq.2) w h
  rw [show decide ((q.den : Int) < 0) = false by simp, Int.natAbs_natCast] at c2
  exact fOut_yes q.num q.den v1 _ _ _ _ w h1 (fun v w h => bOut_yes q.num v hq.1 w h) c2
theorem fOut_over (q : Rat) (v1 : Value) (hq : ¬ Fits q) (s1 : Small q.num) (s2 : Small q.den) (w : World) (h1 : FrQ w v1 q) :
    Calls Tryz.prog 76 #[v1] w fun e w' => e = .returned (.tuple #[qZ, .int .i64 110]) ∧ Ext w w' := by
  have c2 : ¬ q.den < B4 → ∀ v w, BigV w v (q.den : Int) → Calls Tryz.prog 105 #[v] w fun e w' => e = .returned (.tuple #[intV false 0, .int .i64 110]) ∧ Ext w w' := fun hd v w h => by
    have := bOut_no (q.den : Int) v (by simpa using hd) s2 w h
    rwa [show iZ = intV false 0 from iZ_eq] at this
  have c2' : q.den < B4 → ∀ v w, BigV w v (q.den : Int) → Calls Tryz.prog 105 #[v] w fun e w' => e = .returned (.tuple #[intV false q.den, .int .i64 0]) ∧ Ext w w' := fun hd v w h => by
    have := bOut_yes (q.den : Int) v (by simpa using hd) w h
    rwa [show decide ((q.den : Int) < 0) = false by simp, Int.natAbs_natCast] at this
  by_cases hn : q.num.natAbs < B4
  · have hd : ¬ q.den < B4 := fun hd => hq ⟨hn, hd⟩
    exact fOut_no2 q.num q.den v1 _ _ _ _ w h1 (fun v w h => bOut_yes q.num v hn w h) (c2 hd)
  · have c1 : ∀ v w, BigV w v q.num → Calls Tryz.prog 105 #[v] w fun e w' => e = .returned (.tuple #[intV false 0, .int .i64 110]) ∧ Ext w w' := fun v w h => by
      have := bOut_no q.num v hn s1 w h
      rwa [show iZ = intV false 0 from iZ_eq] at this
    by_cases hd : q.den < B4
    · exact fOut_no1 q.num q.den v1 _ _ _ _ 0 w h1 c1 (c2' hd)
    · exact fOut_no1 q.num q.den v1 _ _ _ _ 110 w h1 c1 (c2 hd)
end Go.Proofs.YtmopgcbhmkemjaaGreatDoor
