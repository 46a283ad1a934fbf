/- Arguments by their types: points, nodes. Whether two points are the same. limb.Text: put. A row of bytes turned round. The decimal digits of a number, from the last. A row of digits that a slice owns. limb.Text: the digits. The point of a text. A text cut at the blank; the points of the texts that the laws ask. The rows of the points' chapter. The chapter's rows of point hold. point.each, of two: one is too great. -/
import Derived.Test.YtmopgcbhmkemjaaGreatDoorTie
import Derived.Test.YtmopgcbhmkemjaaGreatDoorQ10
import Derived.Test.YtmopgcbhmkemjaaGreatDoorQ04
import Derived.Test.YtmopgcbhmkemjaaGreatDoorProg
import Derived.Test.YtmopgcbhmkemjaaGreatDoorQ07
import Derived.Test.YtmopgcbhmkemjaaGreatDoorQ03
import Derived.RangeFuncBox
import Derived.Deep.DeepCutAuto
import Derived.Test.YtmopgcbhmkemjaaGreatDoorQ09
import Derived.Test.YtmopgcbhmkemjaaGreatDoorQ06
import Derived.OwnWalkIn
namespace Go.Proofs.YtmopgcbhmkemjaaGreatDoor
open Go Go.ChangeShapes Go.WideShapes Go.RowKit
set_option linter.unusedSimpArgs false
set_option linter.unusedVariables false
set_option maxRecDepth 100000

theorem arr20 {α : Type} {cs : Array α} (h : cs.size = 20) : ∃ c0 c1 c2 c3 c4 c5 c6 c7 c8 c9 c10 c11 c12 c13 c14 c15 c16 c17 c18 c19, cs = #[c0, c1, c2, c3, c4, c5, c6, c7, c8, c9, c10, c11, c12, c13, c14, c15, c16, c17, c18, c19] := by
  obtain ⟨l⟩ := cs
  match l, h with
  | [c0, c1, c2, c3, c4, c5, c6, c7, c8, c9, c10, c11, c12, c13, c14, c15, c16, c17, c18, c19], _ => exact ⟨_, _, _, _, _, _, _, _, _, _, _, _, _, _, _, _, _, _, _, _, rfl⟩
theorem point_arg {W : World} {b : Nat} {v : Value} (h : Value.okWide Tryz.prog W .any b 31 v) : ∃ r q : Rt, v = pV r q := by
  have hu : ∃ fs, Tryz.prog.underlying 31 = some (.struct fs) := ⟨_, Tryz.underlying31⟩
  obtain ⟨fs, hu⟩ := hu
  simp only [Value.okWide, hu] at h
  obtain ⟨cs, rfl, hsz, ts, hts, _, hall⟩ := h
  obtain rfl := Option.some.inj ((show Tryz.prog.cellTypes Tryz.prog.depth 31 = some [4, 24, 24, 24, 24, 4, 24, 24, 24, 24, 4, 24, 24, 24, 24, 4, 24, 24, 24, 24] by kernel_rfl).symm.trans hts)
  obtain ⟨c0, c1, c2, c3, c4, c5, c6, c7, c8, c9, c10, c11, c12, c13, c14, c15, c16, c17, c18, c19, rfl⟩ := arr20 (hsz.trans (show Tryz.prog.cellsOf 31 = 20 by kernel_rfl))
  obtain ⟨s0, rfl⟩ := cell_bool (at_row hall 0 _ _ (by simp) rfl rfl)
  obtain ⟨x00, b00, rfl⟩ := cell_u64 (at_row hall 1 _ _ (by simp) rfl rfl)
  obtain ⟨x01, b01, rfl⟩ := cell_u64 (at_row hall 2 _ _ (by simp) rfl rfl)
  obtain ⟨x02, b02, rfl⟩ := cell_u64 (at_row hall 3 _ _ (by simp) rfl rfl)
  obtain ⟨x03, b03, rfl⟩ := cell_u64 (at_row hall 4 _ _ (by simp) rfl rfl)
  obtain ⟨m0, hm0, rfl, rfl, rfl, rfl⟩ := mag_of b00 b01 b02 b03
  obtain ⟨s1, rfl⟩ := cell_bool (at_row hall 5 _ _ (by simp) rfl rfl)
  obtain ⟨x10, b10, rfl⟩ := cell_u64 (at_row hall 6 _ _ (by simp) rfl rfl)
  obtain ⟨x11, b11, rfl⟩ := cell_u64 (at_row hall 7 _ _ (by simp) rfl rfl)
  obtain ⟨x12, b12, rfl⟩ := cell_u64 (at_row hall 8 _ _ (by simp) rfl rfl)
  obtain ⟨x13, b13, rfl⟩ := cell_u64 (at_row hall 9 _ _ (by simp) rfl rfl)
  obtain ⟨m1, hm1, rfl, rfl, rfl, rfl⟩ := mag_of b10 b11 b12 b13
  obtain ⟨s2, rfl⟩ := cell_bool (at_row hall 10 _ _ (by simp) rfl rfl)
  obtain ⟨x20, b20, rfl⟩ := cell_u64 (at_row hall 11 _ _ (by simp) rfl rfl)
  obtain ⟨x21, b21, rfl⟩ := cell_u64 (at_row hall 12 _ _ (by simp) rfl rfl)
  obtain ⟨x22, b22, rfl⟩ := cell_u64 (at_row hall 13 _ _ (by simp) rfl rfl)
  obtain ⟨x23, b23, rfl⟩ := cell_u64 (at_row hall 14 _ _ (by simp) rfl rfl)
  obtain ⟨m2, hm2, rfl, rfl, rfl, rfl⟩ := mag_of b20 b21 b22 b23
  obtain ⟨s3, rfl⟩ := cell_bool (at_row hall 15 _ _ (by simp) rfl rfl)
  obtain ⟨x30, b30, rfl⟩ := cell_u64 (at_row hall 16 _ _ (by simp) rfl rfl)
  obtain ⟨x31, b31, rfl⟩ := cell_u64 (at_row hall 17 _ _ (by simp) rfl rfl)
  obtain ⟨x32, b32, rfl⟩ := cell_u64 (at_row hall 18 _ _ (by simp) rfl rfl)
  obtain ⟨x33, b33, rfl⟩ := cell_u64 (at_row hall 19 _ _ (by simp) rfl rfl)
  obtain ⟨m3, hm3, rfl, rfl, rfl, rfl⟩ := mag_of b30 b31 b32 b33
  exact ⟨⟨s0, m0, s1, m1, hm0, hm1⟩, ⟨s2, m2, s3, m3, hm2, hm3⟩, rfl⟩
theorem arr2 {α : Type} {cs : Array α} (h : cs.size = 2) : ∃ c0 c1, cs = #[c0, c1] := by
  obtain ⟨l⟩ := cs
  match l, h with
  | [c0, c1], _ => exact ⟨_, _, rfl⟩
theorem node_arg {W : World} {b : Nat} {v : Value} (h : Value.okWide Tryz.prog W .any b 23 v) : ∃ x y : Int, -9223372036854775808 ≤ x ∧ x ≤ 9223372036854775807 ∧ -9223372036854775808 ≤ y ∧ y ≤ 9223372036854775807 ∧ v = ndV x y := by
  have hu : ∃ fs, Tryz.prog.underlying 23 = some (.struct fs) := ⟨_, Tryz.underlying23⟩
  obtain ⟨fs, hu⟩ := hu
  simp only [Value.okWide, hu] at h
  obtain ⟨cs, rfl, hsz, ts, hts, _, hall⟩ := h
  obtain rfl := Option.some.inj ((show Tryz.prog.cellTypes Tryz.prog.depth 23 = some [2, 2] by kernel_rfl).symm.trans hts)
  obtain ⟨c0, c1, rfl⟩ := arr2 (hsz.trans (show Tryz.prog.cellsOf 23 = 2 by kernel_rfl))
  obtain ⟨x, h1, h2, rfl⟩ := cell_i64 (at_row hall 0 _ _ (by simp) rfl rfl)
  obtain ⟨y, h3, h4, rfl⟩ := cell_i64 (at_row hall 1 _ _ (by simp) rfl rfl)
  exact ⟨x, y, h1, h2, h3, h4, rfl⟩
end Go.Proofs.YtmopgcbhmkemjaaGreatDoor

namespace Go.Proofs.YtmopgcbhmkemjaaGreatDoor
open Go Go.RowKit
set_option linter.unusedSimpArgs false
set_option linter.unusedVariables false
set_option maxRecDepth 100000

theorem run_eq_pt_at (n : Nat) (a b a' b' : Rt) (w : World) :
    (Op.equalIn (n + 5) 31 (pV a b) (pV a' b')).run Tryz.prog w = .ok ((decide (a.s = a'.s ∧ a.m = a'.m) && decide (a.t = a'.t ∧ a.k = a'.k)) && (decide (b.s = b'.s ∧ b.m = b'.m) && decide (b.t = b'.t ∧ b.k = b'.k))) w := by
  rw [run_equalIn_struct (P := Tryz.prog) w (n + 4) 31 _ _ (by kernel_rfl) (by kernel_rfl)]
  rw [show (Tryz.prog.fieldsOf 31).toList = [⟨"X", 29, 0, false, "", "", 0⟩, ⟨"Y", 29, 10, false, "", "", 80⟩] by kernel_rfl]
  rw [run_eqFields_cons _ _ _ _ _ a.v a'.v _ w (by decide) (by kernel_rfl) (by kernel_rfl) (run_eq_rat_at n a.s a.m a.t a.k a'.s a'.m a'.t a'.k a.hm a.hk a'.hm a'.hk w)]
  rw [run_eqFields_cons _ _ _ _ _ b.v b'.v _ w (by decide) (by kernel_rfl) (by kernel_rfl) (run_eq_rat_at n b.s b.m b.t b.k b'.s b'.m b'.t b'.k b.hm b.hk b'.hm b'.hk w)]
  generalize (decide (a.s = a'.s ∧ a.m = a'.m) && decide (a.t = a'.t ∧ a.k = a'.k)) = p
  generalize (decide (b.s = b'.s ∧ b.m = b'.m) && decide (b.t = b'.t ∧ b.k = b'.k)) = q
  cases p <;> cases q <;> simp [Op.eqFields]
theorem run_eq_pt (a b a' b' : Rt) (w : World) :
    (Op.equalIn 10000 31 (pV a b) (pV a' b')).run Tryz.prog w = .ok ((decide (a.s = a'.s ∧ a.m = a'.m) && decide (a.t = a'.t ∧ a.k = a'.k)) && (decide (b.s = b'.s ∧ b.m = b'.m) && decide (b.t = b'.t ∧ b.k = b'.k))) w := run_eq_pt_at 9995 a b a' b' w
theorem eqT_pt (a b : Rt) : EqT 31 (pV a b) (pV a b) := fun w => by rw [run_eq_pt]; simp
theorem Blk.head10 {W : World} {b : Nat} {T : TypeId} {x0 x1 x2 x3 x4 x5 x6 x7 x8 x9 y0 y1 y2 y3 y4 y5 y6 y7 y8 y9 y10 y11 y12 y13 y14 y15 y16 y17 y18 y19 : Value} (h : Blk W b #[y0, y1, y2, y3, y4, y5, y6, y7, y8, y9, y10, y11, y12, y13, y14, y15, y16, y17, y18, y19] T) : Blk ((((((((((W.setCell ⟨b, 0, none⟩ x0).setCell ⟨b, 1, none⟩ x1).setCell ⟨b, 2, none⟩ x2).setCell ⟨b, 3, none⟩ x3).setCell ⟨b, 4, none⟩ x4).setCell ⟨b, 5, none⟩ x5).setCell ⟨b, 6, none⟩ x6).setCell ⟨b, 7, none⟩ x7).setCell ⟨b, 8, none⟩ x8).setCell ⟨b, 9, none⟩ x9) b #[x0, x1, x2, x3, x4, x5, x6, x7, x8, x9, y10, y11, y12, y13, y14, y15, y16, y17, y18, y19] T := by
  have h1 := (((((((((h.setSame (o := 0) (v := x0)).setSame (o := 1) (v := x1)).setSame (o := 2) (v := x2)).setSame (o := 3) (v := x3)).setSame (o := 4) (v := x4)).setSame (o := 5) (v := x5)).setSame (o := 6) (v := x6)).setSame (o := 7) (v := x7)).setSame (o := 8) (v := x8)).setSame (o := 9) (v := x9)
  simp only [List.setIfInBounds_toArray, List.set_cons_succ, List.set_cons_zero] at h1
  exact h1
end Go.Proofs.YtmopgcbhmkemjaaGreatDoor

namespace Go.Proofs.YtmopgcbhmkemjaaGreatDoor
open Go Go.RowKit
set_option linter.unusedSimpArgs false
set_option linter.unusedVariables false
set_option maxRecDepth 100000

theorem info_u8 : (Tryz.prog.info? 5).map (fun i => (i.zero, i.size, i.bytes)) = some (some (.int .u8 0), 1, 1) := by kernel_rfl
abbrev by8 (c : Nat) : Value := .int .u8 (c : Int)
theorem blk_type {W : World} {b : Nat} {cs cur : Array Value} {T T' : TypeId} {fr : Nat × Nat} (h : Blk W b cs T) (hg : W.heap[b]? = some (.cells cur T' fr)) : T = T' := by
  have h1 : W.heap[b]? = _ := h
  rw [h1] at hg
  cases hg; rfl
set_option maxHeartbeats 4000000 in
theorem put_one (c : Nat) (Bx base k : Nat) (v : Value) (xs : List Value) (w : World) (hb : Boxed w Bx 175 v) (ho : w.ownsRow base 5 1 v k xs) (hk : k ≤ 1000) (h1 : base ≤ Bx) (h2 : base ≤ w.heap.size) :
    Calls Tryz.prog 120 #[by8 c, .pointer (some ⟨Bx, 0, none⟩)] w fun e w' => e = .returned (.tuple #[]) ∧ ∃ v', Boxed w' Bx 175 v' ∧ w'.ownsRow base 5 1 v' (k + 1) (xs ++ [by8 c]) ∧ Below base w w' ∧ ∀ b cs T, b ≠ Bx → T ≠ 5 → Blk w b cs T → Blk w' b cs T := by
  obtain ⟨i0, hi, hz0, hz1, hz2⟩ := info_parts info_u8
  have hc := hb.cell
  have hf := hb.frozen
  go_enter Tryz.func120, Tryz.ntmps120
  go_wp2_with (at_builtin; refine wpList_append_own _ rfl (.tmp 3) (.tmp 5) 175 rfl base 5 i0 (.int .u8 0) 1 1 Tryz.underlying175 hi hz0 hz1 hz2 rfl (by decide) v k xs rfl (ho.alloc _) ⟨w.heap.size, 0, none⟩ 1 1 [by8 c] rfl rfl ?c1 ?c2 ?c3 ?c4 ?c5 ?_)
  case c1 =>
    intro t u h
    rcases t with _ | t
    · cases h; simp [go_sem]
    · cases h
  case c2 => intro u h; simp at h; subst h; rfl
  case c3 => unfold maxLen; omega
  case c4 => omega
  case c5 => simp; omega
  intro v' w1 hown1 hgrow1 _
  obtain ⟨q1, q2, q3, _, q5⟩ := hb.appended (by decide) ho h2 h1 hown1 hgrow1
  obtain ⟨g, cap, rfl⟩ := ownsRow_succ hown1
  have hc1 := q1.cell
  have hf1 := q1.frozen
  go_wp2
  go_end0
  refine ⟨rfl, _, q2, q3, q5, fun b cs T h1 h2 h3 => ?_⟩
  refine Blk.setOther (Blk.grown (h3.alloc _) hgrow1 ?_) (by first | exact h1 | exact Ne.symm h1)
  rcases ho.2 with ⟨rfl, _⟩ | ⟨g', cap', cur, rfl, _, hg', _⟩
  · simp [Value.ownBlock]
  · intro e
    obtain rfl : b = g' := by simpa [Value.ownBlock] using e
    exact h2 (blk_type h3 hg')
end Go.Proofs.YtmopgcbhmkemjaaGreatDoor

namespace Go.Proofs.YtmopgcbhmkemjaaGreatDoor
open Go Go.RowKit
set_option linter.unusedSimpArgs false
set_option linter.unusedVariables false
set_option maxRecDepth 100000

/-- A row of bytes. -/
def RowB (W : World) (g n : Nat) (f : Nat → Nat) : Prop := ∃ A, Blk W g A 5 ∧ n ≤ A.size ∧ ∀ j, j < n → A[j]? = some (by8 (f j))
theorem RowB.cell {W : World} {g n : Nat} {f : Nat → Nat} (h : RowB W g n f) (j : Nat) (hj : j < n) : W.cell? ⟨g, j, none⟩ = some (by8 (f j)) := by
  obtain ⟨A, h1, h2, h3⟩ := h; rw [h1.cell, h3 j hj]
theorem RowB.frozen {W : World} {g n : Nat} {f : Nat → Nat} (h : RowB W g n f) (j : Nat) : W.frozen? ⟨g, j, none⟩ = false := by
  obtain ⟨A, h1, _⟩ := h; exact h1.frozen j
theorem RowB.lt {W : World} {g n : Nat} {f : Nat → Nat} (h : RowB W g n f) : g < W.heap.size := by
  obtain ⟨A, h1, _⟩ := h; exact h1.lt
theorem RowB.grow {W : World} {g n : Nat} {f : Nat → Nat} (h : RowB W g n f) (d : Gr) : RowB (grow W d) g n f := by
  obtain ⟨A, h1, h2, h3⟩ := h; exact ⟨A, h1.grow d, h2, h3⟩
theorem RowB.congr {W : World} {g n : Nat} {f h : Nat → Nat} (ho : RowB W g n f) (hh : ∀ j, j < n → h j = f j) : RowB W g n h := by
  obtain ⟨A, h1, h2, h3⟩ := ho
  exact ⟨A, h1, h2, fun j hj => by rw [h3 j hj, hh j hj]⟩
theorem RowB.set {W : World} {g n : Nat} {f : Nat → Nat} (ho : RowB W g n f) (i x : Nat) (hi : i < n) : RowB (W.setCell ⟨g, i, none⟩ (by8 x)) g n (fun j => if j = i then x else f j) := by
  obtain ⟨A, h1, h2, h3⟩ := ho
  refine ⟨A.setIfInBounds i (by8 x), h1.setSame, by simp [h2], fun j hj => ?_⟩
  by_cases e : j = i
  · subst e; rw [Array.getElem?_setIfInBounds_self_of_lt (by omega)]; simp
  · rw [Array.getElem?_setIfInBounds_ne (by omega), h3 j hj]; simp [e]
set_option maxHeartbeats 8000000 in
theorem reverse_row (g n cap base : Nat) (f : Nat → Nat) (w : World) (hn0 : 0 < n) (hn : n ≤ 1000) (h : RowB w g n f) (hb : base ≤ g) :
    Calls Tryz.prog 122 #[.slice (some ⟨g, 0, none⟩) n cap] w fun e w' => e = .returned (.tuple #[]) ∧ RowB w' g n (fun j => f (n - 1 - j)) ∧ Below base w w' := by
  go_enter Tryz.func122, Tryz.ntmps122
  go_wp2
  go_loopg [2, 3] n (fun u i j wr => ∃ (k q : Nat), u = n - k ∧ k + q + 1 = n ∧ 2 * k ≤ n ∧ i = .int .i64 k ∧ j = .int .i64 q ∧ RowB wr g n (fun j => if j < k ∨ q < j then f (n - 1 - j) else f j) ∧ Below base w wr)
  case atStart => exact ⟨0, n - 1, rfl, by omega, by omega, rfl, by go_num, h.congr fun j hj => by rw [if_neg (by omega)], Below.refl _ _⟩
  case round =>
    obtain ⟨k, q, hg, hq, hk, rfl, rfl, hR, hB⟩ := hrel
    by_cases hlt : k < q
    · have c1 := hR.cell k (by omega)
      have c2 := hR.cell q (by omega)
      have f1 := hR.frozen k
      have hl := hR.lt
      rw [if_neg (by omega)] at c1 c2
      have hS := (hR.set k (f q) (by omega)).set q (f k) (by omega)
      have hBS := (hB.setCell (p := ⟨g, k, none⟩) hb (by8 (f q))).setCell (p := ⟨g, q, none⟩) hb (by8 (f k))
      have f3 := (hR.set k (f q) (by omega)).frozen q
      have c3 := (hR.set k (f q) (by omega)).cell q (by omega)
      clear hR hB
      have hkn : k < n := by omega
      have hqn : q < n := by omega
      go_wp2
      (first | refine wp_region_k' [.p, .p, .p, .p, .p, .p, .p, .r, .p, .p, .p, .r, .p, .w, .p, .w] (by kernel_rfl) (by kernel_rfl) ?_ | refine wp_region_k [.p, .p, .p, .p, .p, .p, .p, .r, .p, .p, .p, .r, .p, .w, .p, .w] (by kernel_rfl) (by kernel_rfl) ?_); (repeat (first | (refine wpK_p rfl (fun K hK => ?_); go_simp; refine hK _ _ ?_; clear hK K) | (refine wpK_r rfl (fun K hK => ?_); go_simp; refine hK _ _ ?_; clear hK K) | (refine wpK_w rfl (fun K hK => ?_); go_simp; refine hK _ _ ?_; clear hK K))); refine wpK_nil ?_; intro d
      have hS2 : RowB (((wr.setCell ⟨g, k, none⟩ (by8 (f q))).setCell ⟨g, q, none⟩ (by8 (f k)))) g n (fun j => if j < k + 1 ∨ q - 1 < j then f (n - 1 - j) else f j) := hS.congr fun j hj => by
        by_cases ha : j = q
        · subst ha; rw [if_pos (by omega), if_pos rfl]; congr 1; omega
        · rw [if_neg ha]
          by_cases hb' : j = k
          · subst hb'; rw [if_pos (by omega), if_pos rfl]; congr 1; omega
          · rw [if_neg hb']
            by_cases hc' : j < k ∨ q < j
            · rw [if_pos hc', if_pos (by omega)]
            · rw [if_neg hc', if_neg (by omega)]
      have hgs : base ≤ ((wr.setCell ⟨g, k, none⟩ (by8 (f q))).setCell ⟨g, q, none⟩ (by8 (f k))).heap.size := Nat.le_trans (Nat.le_of_lt (Nat.lt_of_le_of_lt hb hl)) (by simp)
      go_wp2
      go_roundg (n - (k + 1))
      case measure => omega
      case rel => exact ⟨k + 1, q - 1, rfl, by omega, by omega, by go_num, by go_num, hS2.grow _, hBS.trans (Below.mono (Ext.below ⟨d, rfl⟩) hgs)⟩
    · clear h
      go_wp2
      go_end0
      refine ⟨rfl, hR.congr fun j hj => ?_, hB⟩
      by_cases hj2 : j < k ∨ q < j
      · rw [if_pos hj2]
      · rw [if_neg hj2]; congr 1; omega
end Go.Proofs.YtmopgcbhmkemjaaGreatDoor

namespace Go.Proofs.YtmopgcbhmkemjaaGreatDoor
open Go Go.RowKit
set_option linter.unusedSimpArgs false
set_option linter.unusedVariables false
set_option maxRecDepth 100000
set_option exponentiation.threshold 3000

def rdg (m : Nat) : List Nat := m % 10 :: (if h : m / 10 = 0 then [] else rdg (m / 10))
termination_by m
decreasing_by omega
theorem rdg_eq (m : Nat) : rdg m = m % 10 :: (if m / 10 = 0 then [] else rdg (m / 10)) := by
  rw [rdg]; split <;> rfl
theorem rdg_val (m : Nat) : ofDec (rdg m).reverse = m := by
  induction m using Nat.strongRecOn with
  | ind m ih =>
    rw [rdg_eq]
    by_cases h : m / 10 = 0
    · rw [if_pos h]; simp [ofDec]; omega
    · rw [if_neg h, List.reverse_cons, ofDec_snoc, ih (m / 10) (by omega)]; omega
theorem rdg_len (n : Nat) : ∀ m, m < 10 ^ (n + 1) → (rdg m).length ≤ n + 1 := by
  induction n with
  | zero => intro m h; rw [rdg_eq, if_pos (by omega)]; simp
  | succ n ih =>
    intro m h
    rw [rdg_eq]
    split
    · simp
    · have := ih (m / 10) (by rw [Nat.pow_succ] at h; omega)
      simp; omega
theorem rdg_pos (m : Nat) : 0 < (rdg m).length := by rw [rdg_eq]; simp
theorem rdg_lt (m : Nat) : ∀ d ∈ rdg m, d < 10 := by
  induction m using Nat.strongRecOn with
  | ind m ih =>
    rw [rdg_eq]
    intro d hd
    rcases List.mem_cons.1 hd with rfl | hd
    · omega
    · by_cases h : m / 10 = 0
      · rw [if_pos h] at hd; cases hd
      · rw [if_neg h] at hd; exact ih (m / 10) (by omega) d hd
theorem rdg_decs (m : Nat) : Decs (rdg m).reverse := fun i => by
  rw [List.getD_eq_getElem?_getD]
  cases h : (rdg m).reverse[i]? with
  | none => simp
  | some d => exact rdg_lt m d (by simpa using List.mem_of_getElem? h)
/-- The digit in front is not 0, unless it is the only one. -/
theorem rdg_top (m : Nat) : (rdg m).reverse.getD 0 0 ≠ 0 ∨ (rdg m).length = 1 := by
  induction m using Nat.strongRecOn with
  | ind m ih =>
    rw [rdg_eq]
    by_cases h : m / 10 = 0
    · rw [if_pos h]; right; rfl
    · rw [if_neg h]
      left
      have hp := rdg_pos (m / 10)
      have hv : (rdg (m / 10)).reverse.getD 0 0 ≠ 0 := by
        rcases ih (m / 10) (by omega) with h1 | h1
        · exact h1
        · have h2 : m / 10 / 10 = 0 := by
            by_cases h3 : m / 10 / 10 = 0
            · exact h3
            · rw [rdg_eq, if_neg h3] at h1
              have := rdg_pos (m / 10 / 10)
              simp at h1; simp [h1] at this
          rw [rdg_eq, if_pos h2]
          simp; omega
      rw [List.reverse_cons, List.getD_eq_getElem?_getD, List.getElem?_append_left (by simpa using hp), ← List.getD_eq_getElem?_getD]
      exact hv
theorem rdg_B4 (m : Nat) (h : m < B4) : (rdg m).length ≤ 78 := rdg_len 77 m (Nat.lt_of_lt_of_le h (by decide))
end Go.Proofs.YtmopgcbhmkemjaaGreatDoor

namespace Go.Proofs.YtmopgcbhmkemjaaGreatDoor
open Go Go.RowKit
set_option linter.unusedSimpArgs false
set_option linter.unusedVariables false
set_option maxRecDepth 100000

theorem row_owned {W : World} {base g n cap : Nat} {ds : List Nat} (hl : ds.length = n) (h : W.ownsRow base 5 1 (.slice (some ⟨g, 0, none⟩) n cap) n (ds.map by8)) : RowB W g n (fun j => ds.getD j 0) ∧ base ≤ g := by
  obtain ⟨h1, h2 | ⟨g', cap', cur, e, hb, hg, hn, hm, hs, ht⟩⟩ := h
  · obtain ⟨e, _⟩ := h2; cases e
  · cases e
    refine ⟨⟨cur, hg, by omega, fun j hj => ?_⟩, hb⟩
    have h3 : (cur.toList.take (n * 1))[j]? = (ds.map by8)[j]? := by rw [ht]
    rw [List.getElem?_take_of_lt (by omega), List.getElem?_map] at h3
    have hjd : j < ds.length := by omega
    rw [List.getElem?_eq_getElem hjd] at h3
    show cur[j]? = some (by8 (ds.getD j 0))
    rw [List.getD_eq_getElem?_getD, List.getElem?_eq_getElem hjd]
    simpa using h3
/-- The bytes of an Int's text, from the last. -/
def cods (s : Bool) (m : Nat) : List Nat := ((rdg m).map fun d => 48 + d) ++ (if s then [45] else [])
theorem cods_lt (s : Bool) (m : Nat) : ∀ c ∈ cods s m, c < 256 := by
  intro c hc
  rcases List.mem_append.1 hc with h | h
  · obtain ⟨d, hd, rfl⟩ := List.mem_map.1 h
    have := rdg_lt m d hd
    omega
  · cases s with
    | false => cases h
    | true => simp at h; omega
/-- An Int's text. -/
def textB (s : Bool) (m : Nat) : ByteArray := ⟨((cods s m).reverse.map UInt8.ofNat).toArray⟩
theorem row_text (W : World) (g cap : Nat) (cs : List Nat) (h : ∀ c ∈ cs, c < 256) (hR : RowB W g cs.length (fun j => cs.getD (cs.length - 1 - j) 0)) :
    (convert 175 9 (.slice (some ⟨g, 0, none⟩) cs.length cap)).run Tryz.prog W = .ok (.string ⟨(cs.reverse.map UInt8.ofNat).toArray⟩) W := by
  have hl : (cs.reverse.map UInt8.ofNat).length = cs.length := by simp
  have := run_convert_bytes_back (P := Tryz.prog) W 175 9 5 ⟨g, 0, none⟩ cap (cs.reverse.map UInt8.ofNat) Tryz.underlying175 Tryz.underlying5 Tryz.underlying9 (fun j hj => by
    rw [hl] at hj
    have h1 := hR.cell j hj
    rw [show (⟨g, 0, none⟩ : Addr).add j = ⟨g, j, none⟩ by (simp [Addr.add]; try exact fun h => h.symm), h1]
    have hj2 : cs.length - 1 - j < cs.length := by omega
    have hc := h _ (List.getElem_mem hj2)
    rw [List.getD_eq_getElem?_getD, List.getElem?_eq_getElem hj2]
    simp only [Option.getD_some, List.getElem_map, List.getElem_reverse]
    rw [UInt8.toNat_ofNat', Nat.mod_eq_of_lt (by omega)])
  rw [hl] at this
  exact this
end Go.Proofs.YtmopgcbhmkemjaaGreatDoor

namespace Go.Proofs.YtmopgcbhmkemjaaGreatDoor
open Go Go.RowKit
set_option linter.unusedSimpArgs false
set_option linter.unusedVariables false
set_option maxRecDepth 100000
set_option exponentiation.threshold 3000

abbrev magA (m : Nat) : Array Value := #[q64 (wn m 0), q64 (wn m 1), q64 (wn m 2), q64 (wn m 3)]
theorem wn_dig (d : Nat) (h : d < 11) : wn d 0 = d ∧ wn d 1 = 0 ∧ wn d 2 = 0 ∧ wn d 3 = 0 := by
  have h0 : ∀ d : Nat, d < 11 → (wn d 0 = d ∧ wn d 1 = 0 ∧ wn d 2 = 0 ∧ wn d 3 = 0) := by decide +kernel
  exact h0 d h
theorem parts_ten (a : Nat) (ha : a < B4) (w : World) :
    Calls Tryz.prog 121 #[magV a, .agg #[.int .u64 10, .int .u64 0, .int .u64 0, .int .u64 0]] w fun e w' => e = .returned (.tuple #[magV (a / 10), .agg #[q64 (a % 10), .int .u64 0, .int .u64 0, .int .u64 0]]) ∧ Ext w w' := by
  have h10 : (magV 10 : Value) = .agg #[.int .u64 10, .int .u64 0, .int .u64 0, .int .u64 0] := by
    obtain ⟨e0, e1, e2, e3⟩ := wn_dig 10 (by omega)
    show (Value.agg #[q64 (wn 10 0), q64 (wn 10 1), q64 (wn 10 2), q64 (wn 10 3)]) = _
    rw [e0, e1, e2, e3]; rfl
  have := parts_any a 10 ha (by omega) (Nat.lt_of_lt_of_le (by omega : 10 < 11) (by decide)) w
  rw [h10] at this
  obtain ⟨e0, e1, e2, e3⟩ := wn_dig (a % 10) (by omega)
  have hd : (magV (a % 10) : Value) = .agg #[q64 (a % 10), .int .u64 0, .int .u64 0, .int .u64 0] := by
    show (Value.agg #[q64 (wn (a % 10) 0), q64 (wn (a % 10) 1), q64 (wn (a % 10) 2), q64 (wn (a % 10) 3)]) = _
    rw [e0, e1, e2, e3]; rfl
  rwa [hd] at this
theorem owns_set {W : World} {base : Nat} {e : TypeId} {size : Nat} {v : Value} {n : Nat} {xs : List Value} (h : W.ownsRow base e size v n xs) {b j : Nat} {cs : Array Value} {T : TypeId} {x : Value} (hB : Blk W b cs T) (hT : T ≠ e) : (W.setCell ⟨b, j, none⟩ x).ownsRow base e size v n xs := by
  refine ⟨h.1, ?_⟩
  rcases h.2 with h' | ⟨g, cap, cur, rfl, hb, hg, r⟩
  · exact .inl h'
  · refine .inr ⟨g, cap, cur, rfl, hb, ?_, r⟩
    rw [Below.heap_setCell _ _ _ g (fun e => by
      obtain rfl : g = b := e
      exact hT (blk_type hB hg))]
    exact hg
theorem owns_set4 {W : World} {base : Nat} {e : TypeId} {size : Nat} {v : Value} {n : Nat} {xs : List Value} (h : W.ownsRow base e size v n xs) {b : Nat} {T : TypeId} {x0 x1 x2 x3 y0 y1 y2 y3 : Value} (hB : Blk W b #[y0, y1, y2, y3] T) (hT : T ≠ e) :
    ((((W.setCell ⟨b, 0, none⟩ x0).setCell ⟨b, 1, none⟩ x1).setCell ⟨b, 2, none⟩ x2).setCell ⟨b, 3, none⟩ x3).ownsRow base e size v n xs :=
  owns_set (owns_set (owns_set (owns_set h hB hT) hB.setSame hT) (hB.setSame (o := 0)).setSame hT) ((hB.setSame (o := 0)).setSame (o := 1)).setSame hT
theorem below_set4 {B : Nat} {a w : World} (h : Below B a w) {b : Nat} (hb : B ≤ b) (x0 x1 x2 x3 : Value) : Below B a ((((w.setCell ⟨b, 0, none⟩ x0).setCell ⟨b, 1, none⟩ x1).setCell ⟨b, 2, none⟩ x2).setCell ⟨b, 3, none⟩ x3) :=
  (((h.setCell (p := ⟨b, 0, none⟩) hb x0).setCell (p := ⟨b, 1, none⟩) hb x1).setCell (p := ⟨b, 2, none⟩) hb x2).setCell (p := ⟨b, 3, none⟩) hb x3
set_option maxHeartbeats 8000000 in
theorem Text_walk (s : Bool) (m : Nat) (hm : m < B4) (hb : badI s m = false) (w : World) :
    Calls Tryz.prog 92 #[intV s m] w fun e w' => e = .returned (.tuple #[.string (textB s m), .int .i64 0]) ∧ Ext w w' := by
  have hmf : ∀ (fn : Fn) (first cap : Array Value) (w : World), (Instr.makeFunc fn first cap).run Tryz.prog w = .ok (.func fn first cap) w := fun _ _ _ _ => rfl
  have ck := check_yes s m hm hb
  go_enter Tryz.func92, Tryz.ntmps92
  go_wp2_with (go_at_call 69; (with_reducible refine (ck _).mono ?_); rintro e y1 ⟨rfl, hz⟩; have hx : Ext w y1 := Ext.trans ext_auto hz; have BA : Blk y1 w.heap.size (ints1 s m) 27 := Blk.ext blk_auto hz; have lBA := BA.lt; have cBA := BA.cell; have fBA := BA.frozen)
  refine wp_rebase fun v hv => ?_
  have hxv : Ext w v := by rw [hv]; exact ext_auto
  have hxy1 : Ext y1 v := by rw [hv]; exact ext_auto
  have BA2 : Blk v w.heap.size (ints1 s m) 27 := by rw [hv]; exact blk_auto
  have BO : Blk v y1.heap.size #[.slice none 0 0] 175 := by rw [hv]; exact blk_auto
  have BM : Blk v (y1.heap.size + 1) (magA m) 156 := by rw [hv]; exact blk_auto
  clear hv
  clear ck lBA cBA fBA
  have hxy : Below y1.heap.size y1 v := hxy1.below
  go_loopg [7] 80 (fun u p wr => ∃ (mb cur k : Nat) (pre : List Nat) (ov : Value), u = 80 - k ∧ k < 78 ∧ p = .pointer (some ⟨mb, 0, none⟩) ∧ y1.heap.size < mb ∧ rdg m = pre ++ rdg cur ∧ pre.length = k ∧ cur < B4 ∧
      Blk wr mb (magA cur) 156 ∧ Boxed wr y1.heap.size 175 ov ∧ wr.ownsRow y1.heap.size 5 1 ov k (pre.map fun d => by8 (48 + d)) ∧ Below y1.heap.size y1 wr)
  case atStart => exact ⟨y1.heap.size + 1, m, 0, [], .slice none 0 0, rfl, by omega, rfl, by omega, rfl, rfl, hm, BM, BO, World.ownsRow_nil _ _ _ _, hxy⟩
  case round =>
    clear hxy BM BO
    obtain ⟨mb, cur, k, pre, ov, hg, hk, rfl, hmb, hpre, hlen, hcur, BM, BO, hown, hB⟩ := hrel
    have hxw : Ext wr wr := Ext.refl wr
    have CP := parts_ten cur hcur
    have hd : cur % 10 < 10 := by omega
    have hrd := rdg_eq cur
    generalize hdd : cur % 10 = dd at *
    generalize hq : cur / 10 = qq at *
    have lBM := BM.lt; have cBM := BM.cell; have fBM := BM.frozen
    go_upto_region 8 with (go_at_call 121; (with_reducible refine (CP _).mono ?_); rintro e y2 ⟨rfl, hz⟩; have hxz : Ext wr y2 := Ext.trans ext_auto hz)
    refine wp_rebase fun v2 hv2 => ?_
    have hx2 : Ext wr v2 := by rw [hv2]; exact ext_auto
    have BQ : Blk v2 y2.heap.size (magA qq) 156 := by rw [hv2]; exact blk_auto
    have BR : Blk v2 (y2.heap.size + 1) #[q64 dd, .int .u64 0, .int .u64 0, .int .u64 0] 156 := by rw [hv2]; exact blk_auto
    have hs2 := hxz.size
    have hwm := BM.lt
    clear hv2 lBM cBM fBM
    have BM2 := BM.ext hx2
    have BO2 : Boxed v2 y1.heap.size 175 ov := Blk.ext BO hx2
    have hown2 : v2.ownsRow y1.heap.size 5 1 ov k (pre.map fun d => by8 (48 + d)) := by obtain ⟨d, rfl⟩ := hx2; exact hown.ext2 d
    have hB2 : Below y1.heap.size y1 v2 := hB.trans (Below.mono hx2.below (by have := BO.lt; omega))
    have hbs : y1.heap.size ≤ v2.heap.size := hB2.size
    have lBR := BR.lt; have cBR := BR.cell; have fBR := BR.frozen
    have PO := put_one (48 + dd) _ y1.heap.size k ov _ _ BO2 hown2 (by omega) (Nat.le_refl _) hbs
    rw [show by8 (48 + dd) = Value.int .u8 (48 + (dd : Int)) by simp [by8]] at PO
    go_upto_region 9 with (go_at_call 120; (with_reducible refine PO.mono ?_); rintro e y3 ⟨rfl, ov', BO3, hown3, hB3, hkeep⟩)
    have BM3 := hkeep _ _ _ (by omega) (by decide) BM2
    have BQ3 := hkeep _ _ _ (by omega) (by decide) BQ
    clear PO BR lBR cBR fBR BM2 BO2 hown2 BQ
    have lBM3 := BM3.lt; have cBM3 := BM3.cell; have fBM3 := BM3.frozen; have lBQ3 := BQ3.lt; have cBQ3 := BQ3.cell; have fBQ3 := BQ3.frozen
    have hqB : qq < B4 := by omega
    have EM : ∀ w, (Op.equalIn 10000 156 (magV qq) (.agg #[.int .u64 0, .int .u64 0, .int .u64 0, .int .u64 0])).run Tryz.prog w = .ok (decide (qq = 0)) w := fun w => by
      have h0 : (magV 0 : Value) = .agg #[.int .u64 0, .int .u64 0, .int .u64 0, .int .u64 0] := by simp [wn_zero]
      rw [← h0]
      exact run_eq_mag_at 156 Tryz.underlying156 _ qq 0 hqB B4_pos w
    have hB3' : Below y1.heap.size y1 y3 := hB2.trans hB3
    have hs3 := hB3.size
    clear CP hkeep hB hB2 hB3 hxz hx2 hxw
    by_cases hq0 : qq = 0
    · rw [decide_eq_true hq0] at EM
      have hmm : rdg m = pre ++ [dd] := by rw [hpre, hrd, if_pos hq0]
      have hlm : k + 1 = (rdg m).length := by rw [hmm]; simp [hlen]
      have hown4 : y3.ownsRow y1.heap.size 5 1 ov' (k + 1) (((rdg m).map fun d => 48 + d).map by8) := by
        rw [hmm]; simpa [by8, Function.comp_def] using hown3
      have hk78 := rdg_B4 m hm
      have BA3 : Blk y3 w.heap.size (ints1 s m) 27 := (hB3'.block _ BA.lt).trans BA
      have hmb3 := BM3.lt
      have hbx := BO3.lt
      have BOb : Blk y3 y1.heap.size #[ov'] 175 := BO3
      have hmA : w.heap.size < y1.heap.size := BA.lt
      clear hown3 hmm hpre hrd BA hq0
      go_upto_region 13 with fail
      refine wp_rebase fun v4 hv4 => ?_
      have BA4 : Blk v4 w.heap.size (ints1 s m) 27 := by rw [hv4]; exact blk_auto
      have BO4 : Boxed v4 y1.heap.size 175 ov' := by show Blk v4 y1.heap.size #[ov'] 175; rw [hv4]; exact blk_auto
      have hown5 : v4.ownsRow y1.heap.size 5 1 ov' (k + 1) (((rdg m).map fun d => 48 + d).map by8) := by rw [hv4]; exact owns_set4 hown4 BM3 (by decide)
      have hB4 : Below y1.heap.size y1 v4 := by rw [hv4]; exact below_set4 hB3' (by omega) _ _ _ _
      clear hv4 BA3 BO3 BOb hown4 hB3' BM3 lBM3 cBM3 fBM3 BQ3 lBQ3 cBQ3 fBQ3 hmb hmb3 hbx EM
      cases s with
      | false =>
        have hlc : k + 1 = (cods false m).length := by simp [cods, hlm]
        have hown5' : v4.ownsRow y1.heap.size 5 1 ov' (k + 1) ((cods false m).map by8) := by simpa [cods] using hown5
        obtain ⟨g, cap, rfl⟩ := ownsRow_succ hown5
        obtain ⟨hR, hg⟩ := row_owned hlc.symm hown5'
        have hg1 : y1.heap.size + 1 ≤ g := by
          have hne : g ≠ y1.heap.size := by
            rintro rfl
            obtain ⟨A, hA, _⟩ := hR
            have hBx : Blk v4 y1.heap.size #[.slice (some ⟨y1.heap.size, 0, none⟩) (k + 1) cap] 175 := BO4
            exact absurd (blk_type hA hBx) (by decide)
          omega
        have cR := fun z h => reverse_row g (k + 1) cap (y1.heap.size + 1) (fun j => (cods false m).getD j 0) z (by omega) (by omega) h hg1
        have CV : ∀ W, RowB W g (k + 1) (fun j => (cods false m).getD (k + 1 - 1 - j) 0) → (convert 175 9 (.slice (some ⟨g, 0, none⟩) (k + 1) cap)).run Tryz.prog W = .ok (.string (textB false m)) W := fun W h => by
          rw [hlc] at h ⊢
          exact row_text W g cap (cods false m) (cods_lt false m) h
        clear hlc hown5' hown5 hlm
        have lBA4 := BA4.lt; have cBA4 := BA4.cell; have fBA4 := BA4.frozen
        have cBO := BO4.cell
        have fBO := BO4.frozen
        have hBlt := BO4.lt
        have hgl := hR.lt
        go_wp2_with (go_at_call 122; (with_reducible refine (cR _ hR).mono ?_); rintro e y5 ⟨rfl, hR5, hB5⟩; have CV5 := CV _ hR5; have cBO5 : y5.cell? ⟨y1.heap.size, 0, none⟩ = some (.slice (some ⟨g, 0, none⟩) (k + 1) cap) := (hB5.cell (by show y1.heap.size < y1.heap.size + 1; omega)).trans cBO; clear cR CV)
        have hBf : Below y1.heap.size y1 y5 := hB4.trans (hB5.mono (by omega))
        exact bodyPost_ret (v := .tuple #[.string (textB false m), .int .i64 0]) (by simp [results, Tryz.results92, go_sem]) rfl ⟨rfl, Ext.of_below (hx.below.trans (hBf.mono hx.size))⟩
      | true =>
        have hlc : k + 1 + 1 = (cods true m).length := by simp [cods, hlm]
        have PO := put_one 45 _ y1.heap.size (k + 1) ov' _ _ BO4 hown5 (by omega) (Nat.le_refl _) hB4.size
        rw [show by8 45 = Value.int .u8 45 by simp [by8]] at PO
        have lBA4 := BA4.lt; have cBA4 := BA4.cell; have fBA4 := BA4.frozen
        go_upto_region 15 with (go_at_call 120; (with_reducible refine PO.mono ?_); rintro e y4 ⟨rfl, ov2, BO5, hown6, hB5, _⟩)
        have hown5' : y4.ownsRow y1.heap.size 5 1 ov2 (k + 1 + 1) ((cods true m).map by8) := by
          rw [cods, if_pos rfl, List.map_append]; simpa [by8] using hown6
        clear PO lBA4 cBA4 fBA4 hown5 hown6
        obtain ⟨g, cap, rfl⟩ := ownsRow_succ hown5'
        obtain ⟨hR, hg⟩ := row_owned hlc.symm hown5'
        have hg1 : y1.heap.size + 1 ≤ g := by
          have hne : g ≠ y1.heap.size := by
            rintro rfl
            obtain ⟨A, hA, _⟩ := hR
            have hBx : Blk y4 y1.heap.size #[.slice (some ⟨y1.heap.size, 0, none⟩) (k + 1 + 1) cap] 175 := BO5
            exact absurd (blk_type hA hBx) (by decide)
          omega
        have cR := fun z h => reverse_row g (k + 1 + 1) cap (y1.heap.size + 1) (fun j => (cods true m).getD j 0) z (by omega) (by omega) h hg1
        have CV : ∀ W, RowB W g (k + 1 + 1) (fun j => (cods true m).getD (k + 1 + 1 - 1 - j) 0) → (convert 175 9 (.slice (some ⟨g, 0, none⟩) (k + 1 + 1) cap)).run Tryz.prog W = .ok (.string (textB true m)) W := fun W h => by
          rw [hlc] at h ⊢
          exact row_text W g cap (cods true m) (cods_lt true m) h
        clear hlc hown5' hlm
        have cBO := BO5.cell
        have fBO := BO5.frozen
        have hBlt := BO5.lt
        have hgl := hR.lt
        go_wp2_with (go_at_call 122; (with_reducible refine (cR _ hR).mono ?_); rintro e y5 ⟨rfl, hR5, hB6⟩; have CV5 := CV _ hR5; have cBO5 : y5.cell? ⟨y1.heap.size, 0, none⟩ = some (.slice (some ⟨g, 0, none⟩) (k + 1 + 1) cap) := (hB6.cell (by show y1.heap.size < y1.heap.size + 1; omega)).trans cBO; clear cR CV)
        have hBf : Below y1.heap.size y1 y5 := (hB4.trans hB5).trans (hB6.mono (by omega))
        exact bodyPost_ret (v := .tuple #[.string (textB true m), .int .i64 0]) (by simp [results, Tryz.results92, go_sem]) rfl ⟨rfl, Ext.of_below (hx.below.trans (hBf.mono hx.size))⟩
    · rw [decide_eq_false hq0] at EM
      go_wp2
      go_roundg (80 - (k + 1))
      case measure => omega
      case rel =>
        rw [if_neg hq0] at hrd
        have hl78 := rdg_B4 m hm
        have hlq := rdg_pos qq
        have hpre' : rdg m = (pre ++ [dd]) ++ rdg qq := by rw [hpre, hrd]; simp
        rw [hpre'] at hl78
        simp only [List.length_append, List.length_singleton, hlen] at hl78
        have hys := hB3'.size
        have hmb3 := BM3.lt
        have hbx := BO3.lt
        refine ⟨y3.heap.size, qq, k + 1, pre ++ [dd], ov', rfl, by omega, rfl, by omega, hpre', by simp [hlen], hqB, blk_auto, ?_, ?_, ?_⟩
        · have BOb : Blk y3 y1.heap.size #[ov'] 175 := BO3
          show Blk _ y1.heap.size #[ov'] 175
          exact blk_auto
        · have ho' : y3.ownsRow y1.heap.size 5 1 ov' (k + 1) ((pre ++ [dd]).map fun d => by8 (48 + d)) := by
            rw [List.map_append]; simpa [by8] using hown3
          exact (owns_set4 ho' BM3 (by decide)).alloc _
        · exact (below_set4 hB3' (by omega) _ _ _ _).alloc (by simp; omega) _
end Go.Proofs.YtmopgcbhmkemjaaGreatDoor

namespace Go.Proofs.YtmopgcbhmkemjaaGreatDoor
open Go Go.RowKit Go.Shelf
set_option linter.unusedSimpArgs false
set_option linter.unusedVariables false
set_option maxRecDepth 100000
attribute [local go_sem] Oper.semAt_some undef

abbrev zP : Array Value := #[.bool false, .int .u64 0, .int .u64 0, .int .u64 0, .int .u64 0, .bool false, .int .u64 0, .int .u64 0, .int .u64 0, .int .u64 0, .bool false, .int .u64 0, .int .u64 0, .int .u64 0, .int .u64 0, .bool false, .int .u64 0, .int .u64 0, .int .u64 0, .int .u64 0]
def rowsR (R : Fin 2 → Rt) (pre : List (Fin 2)) : List Value := pre.flatMap fun x => (R x).c.toList
theorem keepsRow {B b : Nat} {cs : Array Value} {W W' : World} (h : KeepsFrom B W W') (hb : b < B) : KeepsFrom B W (W'.setRow b cs) :=
  ⟨by simpa using h.size, fun k x hB hk hx => (setRow_other W' b k cs (by omega)).trans (h.same k x hB hk hx)⟩
attribute [local go_sem ↓] storeP_eq storeE_eq
attribute [local go_sem] storeP_zero storeE_0
set_option maxHeartbeats 4000000 in
theorem pParse_in (n : Nat) (hn : 4 ≤ n) (s a b : ByteArray) (is : Bool) (hcut : ∀ w, Calls Tryz.prog 95 #[.string s, .string ⟨#[32]⟩] w fun e w' => e = .returned (.tuple #[.string a, .string b, .bool is]) ∧ Ext w w')
    (R : Fin 2 → Rt) (E : Fin 2 → Int) (hE : ∀ x, E x = 0 ∨ E x = 120) (hf : ∀ x, E x = 0 → (R x).pf = true)
    (cp : ∀ x : Fin 2, ∀ w, Calls Tryz.prog 62 #[prt a b x.1] w fun e w' => e = .returned (.tuple #[(R x).v, .int .i64 (E x)]) ∧ Ext w w')
    (rv : Value) (re : Int) (hres : (E 0 = 0 ∧ E 1 = 0 ∧ rv = pV (R 0) (R 1) ∧ re = 0) ∨ ((E 0 = 120 ∨ E 1 = 120) ∧ rv = pZ ∧ re = 130)) (w : World) :
    CallsIn Fence.wide n Tryz.prog 29 #[.string s] w fun e w' => e = .returned (.tuple #[rv, .int .i64 re]) ∧ Below w.heap.size w w' := by
  refine callsIn_of_wp_marks Tryz.func29 rfl trivial ?_ rfl
  simp only [Tryz.ntmps29, List.size_toArray, List.length_cons, List.length_nil, Nat.reduceAdd, Nat.reduceSub, Array.replicate_succ, Array.replicate_zero, List.push_toArray, List.append_toArray, List.nil_append, List.cons_append]
  gi_wp2_with (refine ⟨trivial, (fun _ => by omega), ?_⟩; gi_at_call 61; refine (pparts_in (n - 1) _ _).mono ?_; rintro e w' ⟨rfl, rfl⟩)
  refine wpIn_rebase fun v hv => ?_
  have hx : Ext w v := by rw [hv]; exact ext_auto
  have B2 : Blk v w.heap.size zP 31 := by rw [hv]; exact blk_auto
  have B3 : Blk v (w.heap.size + 1) #[.int .i64 0] 33 := by rw [hv]; exact blk_auto
  have BL : Boxed v (w.heap.size + 1 + 1) 95 (.slice none 0 0) := by show Blk v _ #[.slice none 0 0] _; rw [hv]; exact blk_auto
  have BV : Blk v (w.heap.size + 1 + 1 + 1) #[.bool false] 4 := by rw [hv]; exact blk_auto
  have BS : Blk v (w.heap.size + 1 + 1 + 1 + 1) #[.string s] 9 := by rw [hv]; exact blk_auto
  clear hv
  have lS := BS.lt
  have hst := pparts_stops (n - 1) (by omega) (w.heap.size + 1 + 1 + 1 + 1) w.heap.size s a b is hcut v (BS.cell 0) BS.lt
  have hB0 : Below w.heap.size w v := hx.below
  refine wpIn_rangeFunc_ownG rfl (by omega) (gf := 94) (lb := #[.pointer (some ⟨w.heap.size + 1 + 1 + 1 + 1, 0, none⟩)]) rfl trivial (enters_of Tryz.func94 (by kernel_rfl) rfl)
    hst belowK_t (belowK_b (by omega)) (Below.refl _ _) (fun _ => rfl)
    (fun pre W => (∀ x ∈ pre, E x = 0) ∧ ((∃ u, Boxed W (w.heap.size + 1 + 1) 95 u ∧ W.ownsRow w.heap.size 29 10 u pre.length (rowsR R pre) ∧ True) ∧ Blk W (w.heap.size + 1 + 1 + 1) #[.bool false] 4 ∧ Blk W w.heap.size zP 31 ∧ Blk W (w.heap.size + 1) #[.int .i64 0] 33) ∧ Below w.heap.size w W)
    (fun c pre W => c = .ret ∧ (∃ x, E x = 120) ∧ (Blk W w.heap.size zP 31 ∧ Blk W (w.heap.size + 1) #[.int .i64 130] 33) ∧ Below w.heap.size w W)
    (OwnFrom.and (fun _ _ _ _ h _ _ => h) (OwnFrom.and (OwnFrom.and ((holdsRow_own w.heap.size (w.heap.size + 1 + 1) 95 29 10 (fun pre : List (Fin 2) => pre.length) (rowsR R) (fun _ _ => True)).from _) (OwnFrom.and ((own_blk _ (fun _ => _) _).from _) (OwnFrom.and ((own_blk _ (fun _ => _) _).from _) ((own_blk _ (fun _ => _) _).from _)))) (ownFrom_below (Nat.le_refl _) (by omega))))
    (fun c => OwnFrom.and (fun _ _ _ _ h _ _ => h) (OwnFrom.and (fun _ _ _ _ h _ _ => h) (OwnFrom.and (OwnFrom.and ((own_blk _ (fun _ => _) _).from _) ((own_blk _ (fun _ => _) _).from _)) (ownFrom_below (Nat.le_refl _) (by omega)))))
    ⟨(fun _ h => by cases h), ⟨⟨_, BL, World.ownsRow_nil _ _ _ _, trivial⟩, BV, B2, B3⟩, hB0⟩
    (fun x => { tmps := #[.string s, undef, .pointer (some ⟨w.heap.size, 0, none⟩), .pointer (some ⟨w.heap.size + 1, 0, none⟩), .pointer (some ⟨w.heap.size + 1 + 1, 0, none⟩), .pointer (some ⟨w.heap.size + 1 + 1 + 1, 0, none⟩), prt a b x.1, undef, undef, .string s, .func (.func 94) #[] #[.pointer (some ⟨w.heap.size + 1 + 1 + 1 + 1, 0, none⟩)], prt a b x.1, undef, undef, undef, undef, undef, undef, undef, undef, undef, undef, undef, undef, undef, undef, undef, undef, undef, undef, undef, undef, undef, undef, undef, undef, undef, undef, undef, undef, undef, undef, undef], defers := [] }) ?assign ?body ?done ?stop
  case assign =>
    intro l x W K hK
    gi_wp2
    exact hK
  case stop =>
    rintro D c pre W hD _ ⟨rfl, ⟨x, hx120⟩, ⟨B2, B3⟩, hB⟩ hK
    gi_wp2
    rcases hres with ⟨h0, h1, _⟩ | ⟨_, rfl, rfl⟩
    · have hx2 : x = 0 ∨ x = 1 := by omega
      rcases hx2 with rfl | rfl
      · rw [h0] at hx120; cases hx120
      · rw [h1] at hx120; cases hx120
    have BF5 := own_blk (β := Unit) w.heap.size (fun _ => _) _ () W _ (some D) B2 (grownBy_putObj' W D (.deferred none)) (fun r e => by cases e; exact ⟨_, hK, rfl⟩)
    have BE5 := own_blk (β := Unit) (w.heap.size + 1) (fun _ => _) _ () W _ (some D) B3 (grownBy_putObj' W D (.deferred none)) (fun r e => by cases e; exact ⟨_, hK, rfl⟩)
    refine ⟨by simp, .inl ⟨_, _, rfl, run_takeDeferred hK, ?_⟩⟩
    refine ⟨.tuple #[pZ, .int .i64 130], ?_, ?_⟩
    · exact results_pt_err Tryz.results29 rfl rfl BF5 rfl BE5
    · exact ⟨by simp, hB.trans (belowK_b (w := w) (Nat.le_refl _) W D _ _ (by omega) hK rfl rfl)⟩
  case body =>
    rintro l pre x W ⟨hall, ⟨⟨u, BL, hown, _⟩, BV, B2, B3⟩, hB⟩ hlen
    have c1 := cp x
    rcases hE x with h0 | h120
    · rw [h0] at c1
      have c2 := fits_any (R x)
      rw [hf x h0] at c2
      generalize hR : R x = r at *
      obtain ⟨s1, m1, t1, k1, _, _⟩ := r
      have cBL := BL.cell
      have fBL := BL.frozen
      have lBL := BL.lt
      have lBV := BV.lt; have cBV := BV.cell; have fBV := BV.frozen
      obtain ⟨i0, hi, hz0, hz1, hz2⟩ := info_parts info_rat
      have hwW := hB.size
      have BLb : Blk W (w.heap.size + 1 + 1) #[u] 95 := BL
      gi_wp2_with (refine ⟨trivial, (fun _ => by omega), ?_⟩; gi_at_call 62; refine (CallsIn.inRound l (callsIn_wide.2 (c1 _))).mono ?_; rintro e w' ⟨rfl, hx⟩; have BV' := BV.ext hx; have BX : Blk (w'.alloc (.cells #[.bool s1, q64 (wn m1 0), q64 (wn m1 1), q64 (wn m1 2), q64 (wn m1 3), .bool t1, q64 (wn k1 0), q64 (wn k1 1), q64 (wn k1 2), q64 (wn k1 3)] 29)) w'.heap.size #[.bool s1, q64 (wn m1 0), q64 (wn m1 1), q64 (wn m1 2), q64 (wn m1 3), .bool t1, q64 (wn k1 0), q64 (wn k1 1), q64 (wn k1 2), q64 (wn k1 3)] 29 := Blk.new _ _ _ rfl; have lBV' := BV'.lt; have cBV' := BV'.cell; have fBV' := BV'.frozen)
      refine ⟨trivial, (fun _ => by omega), ?_⟩
      gi_at_call 41
      refine (CallsIn.inRound l (callsIn_wide.2 (c2 _))).mono ?_
      rintro e y ⟨rfl, hxy⟩
      have hWy : Ext W y := hx.trans (Ext.trans ((Ext.refl w').alloc _) hxy)
      have BXy := BX.ext hxy
      have BVy := BV.ext hWy
      have BLy := BLb.ext hWy
      have B2y := B2.ext hWy
      have B3y := B3.ext hWy
      have hol := hown.ext2
      have hoy : y.ownsRow w.heap.size 29 10 u pre.length (rowsR R pre) := by obtain ⟨d, rfl⟩ := hWy; exact hown.ext2 d
      clear lBV' cBV' fBV' BV' hol
      have lBXy := BXy.lt; have cBXy := BXy.cell; have fBXy := BXy.frozen; have lBVy := BVy.lt; have cBVy := BVy.cell; have fBVy := BVy.frozen; have lBLy := BLy.lt; have cBLy := BLy.cell; have fBLy := BLy.frozen
      have hsx := hx.size
      have lV := BV.lt
      have hsy := hxy.size
      have BXz : Blk (y.setCell ⟨w.heap.size + 1 + 1 + 1, 0, none⟩ (.bool false)) w'.heap.size #[.bool s1, q64 (wn m1 0), q64 (wn m1 1), q64 (wn m1 2), q64 (wn m1 3), .bool t1, q64 (wn k1 0), q64 (wn k1 1), q64 (wn k1 2), q64 (wn k1 3)] 29 := BXy.setOther (by omega)
      have BLz : Blk (y.setCell ⟨w.heap.size + 1 + 1 + 1, 0, none⟩ (.bool false)) (w.heap.size + 1 + 1) #[u] 95 := BLy.setOther (by omega)
      have BVz : Blk (y.setCell ⟨w.heap.size + 1 + 1 + 1, 0, none⟩ (.bool false)) (w.heap.size + 1 + 1 + 1) #[.bool false] 4 := BVy.set1
      have B2z : Blk (y.setCell ⟨w.heap.size + 1 + 1 + 1, 0, none⟩ (.bool false)) w.heap.size zP 31 := B2y.setOther (by omega)
      have B3z : Blk (y.setCell ⟨w.heap.size + 1 + 1 + 1, 0, none⟩ (.bool false)) (w.heap.size + 1) #[.int .i64 0] 33 := B3y.setOther (by omega)
      have hoz : (y.setCell ⟨w.heap.size + 1 + 1 + 1, 0, none⟩ (.bool false)).ownsRow w.heap.size 29 10 u pre.length (rowsR R pre) := owns_set hoy BVy (by decide)
      have hkz : KeepsFrom v.heap.size W (y.setCell ⟨w.heap.size + 1 + 1 + 1, 0, none⟩ (.bool false)) := keepsCell (keeps_ext hWy) (by omega)
      have hbz : Below w.heap.size W (y.setCell ⟨w.heap.size + 1 + 1 + 1, 0, none⟩ (.bool false)) := belowCell (hWy.below.mono hB.size) (by omega)
      clear hoy BXy BVy BLy B2y B3y lBXy cBXy fBXy lBLy cBLy fBLy
      have lBXz := BXz.lt; have cBXz := BXz.cell; have fBXz := BXz.frozen; have lBLz := BLz.lt; have cBLz := BLz.cell; have fBLz := BLz.frozen
      gi_wp2_with (gi_at_builtin; refine wpListIn_append_own _ rfl (.tmp 30) (.tmp 32) 95 rfl w.heap.size 29 i0 zRv 10 80 Tryz.underlying95 hi hz0 hz1 hz2 rfl (by decide) u pre.length (rowsR R pre) rfl (hoz.alloc _) ⟨y.heap.size, 0, none⟩ 1 1 [.bool s1, q64 (wn m1 0), q64 (wn m1 1), q64 (wn m1 2), q64 (wn m1 3), .bool t1, q64 (wn k1 0), q64 (wn k1 1), q64 (wn k1 2), q64 (wn k1 3)] rfl rfl ?c1 ?c2 ?c3 ?c4 ?c5 ?_)
      case c1 =>
        intro j u' h
        have hadd : (⟨y.heap.size, 0, none⟩ : Addr).add j = ⟨(y.setCell ⟨w.heap.size + 1 + 1 + 1, 0, none⟩ (.bool false)).heap.size, j, none⟩ := by unfold Addr.add; split <;> simp_all
        rw [hadd, cell_new_any]
        simpa using h
      case c2 => intro u' h; simp only [List.mem_cons, List.not_mem_nil, or_false] at h; rcases h with rfl | rfl | rfl | rfl | rfl | rfl | rfl | rfl | rfl | rfl <;> rfl
      case c3 => unfold maxLen; omega
      case c4 => omega
      case c5 => simp; omega
      intro u2 w1 hown1 hgrow1 _
      have hBz : Boxed (y.setCell ⟨w.heap.size + 1 + 1 + 1, 0, none⟩ (.bool false)) (w.heap.size + 1 + 1) 95 u := BLz
      obtain ⟨q1, q2, q3, q4, q5⟩ := hBz.appended (by decide) hoz (by simp; omega) (by omega) hown1 hgrow1
      obtain ⟨g, cap, rfl⟩ := ownsRow_succ hown1
      have hc1 := q1.cell
      have hf1 := q1.frozen
      have hl1 := q1.lt
      clear lBXz cBXz fBXz lBLz cBLz fBLz BXz
      have hne : ∀ b' cs T, T ≠ 29 → Blk (y.setCell ⟨w.heap.size + 1 + 1 + 1, 0, none⟩ (.bool false)) b' cs T → some b' ≠ u.ownBlock := fun b' cs T hT' hB' e => by
        rcases hoz.2 with ⟨rfl, _⟩ | ⟨g', _, cur, rfl, _, hg', _⟩
        · simp [Value.ownBlock] at e
        · obtain rfl : b' = g' := by simpa [Value.ownBlock] using e
          exact hT' (blk_type hB' hg')
      have BVf := Blk.setOther (o := 0) (v := .slice (some ⟨g, 0, none⟩) (pre.length + 1) cap) (b' := w.heap.size + 1 + 1) (Blk.grown (BVz.alloc _) hgrow1 (hne _ _ _ (by decide) BVz)) (by omega)
      have B2f := Blk.setOther (o := 0) (v := .slice (some ⟨g, 0, none⟩) (pre.length + 1) cap) (b' := w.heap.size + 1 + 1) (Blk.grown (B2z.alloc _) hgrow1 (hne _ _ _ (by decide) B2z)) (by omega)
      have B3f := Blk.setOther (o := 0) (v := .slice (some ⟨g, 0, none⟩) (pre.length + 1) cap) (b' := w.heap.size + 1 + 1) (Blk.grown (B3z.alloc _) hgrow1 (hne _ _ _ (by decide) B3z)) (by omega)
      gi_wp2
      refine ⟨hkz.trans (q4.from _), hbz.trans q5, fun z hz => ?_, ⟨⟨_, q2, ?_, trivial⟩, BVf, B2f, B3f⟩, hB.trans (hbz.trans q5)⟩
      · rcases List.mem_append.1 hz with h | h
        · exact hall z h
        · obtain rfl : z = x := by simpa using h
          exact h0
      · have e1 : (pre ++ [x]).length = pre.length + 1 := by simp
        have e2 : rowsR R (pre ++ [x]) = rowsR R pre ++ [.bool s1, q64 (wn m1 0), q64 (wn m1 1), q64 (wn m1 2), q64 (wn m1 3), .bool t1, q64 (wn k1 0), q64 (wn k1 1), q64 (wn k1 2), q64 (wn k1 3)] := by simp [rowsR, hR]
        rw [e1, e2]; exact q3
    · rw [h120] at c1
      generalize hR : R x = r at *
      obtain ⟨s1, m1, t1, k1, _, _⟩ := r
      have lBV := BV.lt; have cBV := BV.cell; have fBV := BV.frozen; have lB3 := B3.lt; have cB3 := B3.cell; have fB3 := B3.frozen
      gi_wp2_with (refine ⟨trivial, (fun _ => by omega), ?_⟩; gi_at_call 62; refine (CallsIn.inRound l (callsIn_wide.2 (c1 _))).mono ?_; rintro e w' ⟨rfl, hx⟩; have B2' := B2.ext hx; have B3' := B3.ext hx; have hIP : ∀ o, IsP (w'.alloc o) w.heap.size := fun o => ⟨_, B2'.alloc o, rfl⟩; have hIE : ∀ o, IsE ((w'.alloc o).setRow w.heap.size zPt) (w.heap.size + 1) := fun o => IsE.setRow (by omega) ⟨_, B3'.alloc o⟩)
      have hbW : Below w.heap.size W w' := hx.below.mono hB.size
      have lw := B2.lt
      refine ⟨?_, rfl, ⟨x, h120⟩, ⟨?_, ?_⟩, ?_⟩
      · exact keepsCell (keepsRow (keeps_ext (hx.alloc _)) (by omega)) (by omega)
      · exact Blk.setOther (Blk.setRowSame (B2'.alloc _)) (by omega)
      · exact (Blk.setRowOther (B3'.alloc _) (by omega)).set1
      · exact belowCell (below_setRow ((hB.trans hbW).alloc (by have := hx.size; omega) _) (Nat.le_refl _) _) (by omega)
  case done =>
    rintro D ys W hD rfl ⟨hall, ⟨⟨u, BL, hown, _⟩, BV, B2, B3⟩, hB⟩ hK
    have h00 : E 0 = 0 := hall 0 (by simp)
    have h11 : E 1 = 0 := hall 1 (by simp)
    rcases hres with ⟨_, _, rfl, rfl⟩ | ⟨h1 | h1, _⟩
    · have hown2 : W.ownsRow w.heap.size 29 10 u 2 (rowsR R [0, 1]) := hown
      obtain ⟨g, cap, rfl⟩ := ownsRow_succ hown2
      obtain ⟨r1, r2⟩ := rat_owned hown2 (R 0) (R 1) (by simp [rowsR])
      generalize hS1 : R 0 = S1 at *
      generalize hS2 : R 1 = S2 at *
      obtain ⟨s5, m5, t5, k5, _, _⟩ := S1
      obtain ⟨s6, m6, t6, k6, _, _⟩ := S2
      obtain ⟨lg, p0, p1, p2, p3, p4, p5, p6, p7, p8, p9⟩ := r1
      obtain ⟨_, q0, q1, q2, q3, q4, q5, q6, q7, q8, q9⟩ := r2
      simp only [Nat.zero_add, Nat.reduceAdd] at p0 p1 p2 p3 p4 p5 p6 p7 p8 p9 q0 q1 q2 q3 q4 q5 q6 q7 q8 q9
      have cBL := BL.cell
      have fBL := BL.frozen
      have lBL := BL.lt
      have lBV := BV.lt; have cBV := BV.cell; have fBV := BV.frozen
      gi_wp2
      refine wpIn_wide.2 ?_
      obtain ⟨W1, rfl⟩ : ∃ W', W' = W := ⟨_, rfl⟩
      (first | refine wp_region_kt' 6 [.r, .p, .r, .r, .p, .r] (by kernel_rfl) (by kernel_rfl) ?_ | refine wp_region_kt 6 [.r, .p, .r, .r, .p, .r] (by kernel_rfl) (by kernel_rfl) ?_); simp only [List.take_succ_cons, List.take_zero, List.drop_succ_cons, List.drop_zero]; (repeat (first | (refine wpK_w rfl (fun K hK => ?_); (with_reducible apply wp_store_row info_point); (case hs => exact rfl); (case hv => exact rfl); (case hB => exact blk_auto); (case hy => rfl); (case hc => rfl); (case h1 => rfl); refine hK _ _ ?_; clear hK K) | (refine wpK_p rfl (fun K hK => ?_); go_simp; refine hK _ _ ?_; clear hK K) | (refine wpK_r rfl (fun K hK => ?_); go_simp; refine hK _ _ ?_; clear hK K) | (refine wpK_w rfl (fun K hK => ?_); go_simp; refine hK _ _ ?_; clear hK K) | (refine wpK_r rfl (fun K hK => ?_); go_simp; apply Exists.intro; refine ⟨fun d => ?_, hK _ _ ?_⟩; (fail); clear hK K))); refine wpK_nil ?_; intro d
      have hIE : ∀ cs, IsE ((grow W1 d).setRow w.heap.size cs) (w.heap.size + 1) := fun cs => IsE.setRow (by omega) ⟨_, B3.grow d⟩
      go_wp2_with ((with_reducible apply wpList_store_row info_point); (case hs => exact rfl); (case hv => exact rfl); (case hB => exact blk_auto); (case hy => rfl); (case hc => rfl); (case h1 => rfl))
      gi_wp2
      refine bpM_rebase fun r hr => ?_
      have hKD : KeepsFrom v.heap.size W1 r := by
        rw [hr]; exact keepsCell (keepsRow (keeps_ext ⟨d, rfl⟩) (by omega)) (by omega)
      have hK' := hKD.same D _ hD hK rfl
      have BF : Blk r w.heap.size (ptsV s5 m5 t5 k5 s6 m6 t6 k6) 31 := by rw [hr]; exact Blk.setOther (Blk.setRowSame (B2.grow d)) (by omega)
      have BE : Blk r (w.heap.size + 1) #[.int .i64 0] 33 := by rw [hr]; exact (Blk.setRowOther (B3.grow d) (by omega)).set1
      have hBr : Below w.heap.size w r := by
        rw [hr]; exact belowCell (below_setRow (belowGrow hB (by have := B2.lt; omega)) (Nat.le_refl _) _) (by omega)
      clear hr
      have BF5 := own_blk (β := Unit) w.heap.size (fun _ => _) _ () r _ (some D) BF (grownBy_putObj' r D (.deferred none)) (fun r e => by cases e; exact ⟨_, hK', rfl⟩)
      have BE5 := own_blk (β := Unit) (w.heap.size + 1) (fun _ => _) _ () r _ (some D) BE (grownBy_putObj' r D (.deferred none)) (fun r e => by cases e; exact ⟨_, hK', rfl⟩)
      refine ⟨by simp, .inl ⟨_, _, rfl, run_takeDeferred hK', ?_⟩⟩
      refine ⟨.tuple #[ptV s5 m5 t5 k5 s6 m6 t6 k6, .int .i64 0], ?_, ?_⟩
      · exact results_pt_err Tryz.results29 rfl rfl BF5 rfl BE5
      · exact ⟨by rw [hS1, hS2], hBr.trans (belowK_b (w := w) (Nat.le_refl _) r D _ _ (by omega) hK' rfl rfl)⟩
    · rw [h00] at h1; cases h1
    · rw [h11] at h1; cases h1
end Go.Proofs.YtmopgcbhmkemjaaGreatDoor

namespace Go.Proofs.YtmopgcbhmkemjaaGreatDoor
open Go Go.RowKit
set_option linter.unusedSimpArgs false
set_option linter.unusedVariables false
set_option maxRecDepth 100000
set_option exponentiation.threshold 3000

theorem scut32_at (s : ByteArray) (i : Nat) (hi : i < s.size) (hs : s.size < 1000000) (hx : Lib.indexByte s.data.toList 32 = (i : Int)) (w : World) :
    Calls Tryz.prog 123 #[.string s, .string ⟨#[32]⟩] w fun e w' => e = .returned (.tuple #[.string (s.extract 0 i), .string (s.extract (i + 1) s.size), .bool true]) ∧ Ext w w' := by
  have hc := fun w => Tryz.stringslite_Index_one s 32 w
  rw [hx] at hc
  have h1 : decide ((i : Int) ≥ 0) = true := by simp
  have hii : (i : Int) < s.size := by omega
  have hi1 : (i : Int) + 1 ≤ s.size := by omega
  have hw1 : IntKind.i64.wrap ((i : Int) + 1) = (i : Int) + 1 := by rw [IntKind.wrap_i64]; omega
  have hw2 : ((i : Int) + 1).toNat = i + 1 := by omega
  have hw3 : 0 ≤ (i : Int) + 1 := by omega
  have hi2 : i ≤ s.size := by omega
  have hi3 : i + 1 ≤ s.size := by omega
  go_enter Tryz.func123, Tryz.ntmps123
  go_wp2_with (go_at_call 154; refine (hc _).mono ?_; rintro e w' ⟨rfl, rfl⟩)
  (first | refine wp_region_k' [.p, .p, .p, .p, .p, .p, .r, .p, .p, .p, .p, .p] (by kernel_rfl) (by kernel_rfl) ?_ | refine wp_region_k [.p, .p, .p, .p, .p, .p, .r, .p, .p, .p, .p, .p] (by kernel_rfl) (by kernel_rfl) ?_); (repeat (first | (refine wpK_p rfl (fun K hK => ?_); go_simp; refine hK _ _ ?_; clear hK K) | (refine wpK_r rfl (fun K hK => ?_); go_simp; refine hK _ _ ?_; clear hK K) | (refine wpK_w rfl (fun K hK => ?_); go_simp; refine hK _ _ ?_; clear hK K) | (refine wpK_r rfl (fun K hK => ?_); go_simp; apply Exists.intro; refine ⟨fun d => ?_, hK _ _ ?_⟩; (fail); clear hK K))); refine wpK_nil ?_; intro d
  go_wp2
  exact bodyPost_ret (v := .tuple #[.string (s.extract 0 i), .string (s.extract (i + 1) s.size), .bool true]) (by simp [results, Tryz.results123, go_sem]) rfl ⟨rfl, ext_auto⟩
theorem cCut32_at (s : ByteArray) (i : Nat) (hi : i < s.size) (hs : s.size < 1000000) (hx : Lib.indexByte s.data.toList 32 = (i : Int)) (w : World) :
    Calls Tryz.prog 95 #[.string s, .string ⟨#[32]⟩] w fun e w' => e = .returned (.tuple #[.string (s.extract 0 i), .string (s.extract (i + 1) s.size), .bool true]) ∧ Ext w w' := by
  have hc := scut32_at s i hi hs hx
  go_enter Tryz.func95, Tryz.ntmps95
  go_wp2_with (go_at_call 123; refine (hc _).mono ?_; rintro e w' ⟨rfl, d, rfl⟩)
  exact bodyPost_ret (v := .tuple #[.string (s.extract 0 i), .string (s.extract (i + 1) s.size), .bool true]) (by simp [results, Tryz.results95, go_sem]) rfl ⟨rfl, ext_auto⟩
theorem scut32_no (s : ByteArray) (hx : Lib.indexByte s.data.toList 32 = -1) (w : World) :
    Calls Tryz.prog 123 #[.string s, .string ⟨#[32]⟩] w fun e w' => e = .returned (.tuple #[.string s, .string ⟨#[]⟩, .bool false]) ∧ Ext w w' := by
  have hc := fun w => Tryz.stringslite_Index_one s 32 w
  rw [hx] at hc
  go_enter Tryz.func123, Tryz.ntmps123
  go_wp2_with (go_at_call 154; refine (hc _).mono ?_; rintro e w' ⟨rfl, rfl⟩)
  exact bodyPost_ret (v := .tuple #[.string s, .string ⟨#[]⟩, .bool false]) (by simp [results, Tryz.results123, go_sem]) rfl ⟨rfl, ext_auto⟩
theorem cCut32_no (s : ByteArray) (hx : Lib.indexByte s.data.toList 32 = -1) (w : World) :
    Calls Tryz.prog 95 #[.string s, .string ⟨#[32]⟩] w fun e w' => e = .returned (.tuple #[.string s, .string ⟨#[]⟩, .bool false]) ∧ Ext w w' := by
  have hc := scut32_no s hx
  go_enter Tryz.func95, Tryz.ntmps95
  go_wp2_with (go_at_call 123; refine (hc _).mono ?_; rintro e w' ⟨rfl, d, rfl⟩)
  exact bodyPost_ret (v := .tuple #[.string s, .string ⟨#[]⟩, .bool false]) (by simp [results, Tryz.results95, go_sem]) rfl ⟨rfl, ext_auto⟩
theorem rP_calls {s : ByteArray} {v : Value} {w : World} (h : CallsIn Fence.wide 3 Tryz.prog 62 #[.string s] w fun e w' => e = .returned v ∧ Below w.heap.size w w') :
    Calls Tryz.prog 62 #[.string s] w fun e w' => e = .returned v ∧ Ext w w' :=
  (callsIn_wide.1 h).mono fun e w' ⟨h1, h2⟩ => ⟨h1, Ext.of_below h2⟩
theorem pP_calls (s a b : ByteArray) (is : Bool) (hcut : ∀ w, Calls Tryz.prog 95 #[.string s, .string ⟨#[32]⟩] w fun e w' => e = .returned (.tuple #[.string a, .string b, .bool is]) ∧ Ext w w')
    (A C : Rt) (ea ec : Int) (h1 : ea = 0 ∨ ea = 120) (h2 : ec = 0 ∨ ec = 120) (f1 : ea = 0 → A.pf = true) (f2 : ec = 0 → C.pf = true)
    (PA : Ans 62 #[.string a] (.tuple #[A.v, .int .i64 ea])) (PC : Ans 62 #[.string b] (.tuple #[C.v, .int .i64 ec])) (rv : Value) (re : Int)
    (hres : (ea = 0 ∧ ec = 0 ∧ rv = pV A C ∧ re = 0) ∨ ((ea = 120 ∨ ec = 120) ∧ rv = pZ ∧ re = 130)) : Ans 29 #[.string s] (.tuple #[rv, .int .i64 re]) := fun w => by
  have h := pParse_in 4 (by omega) s a b is hcut (fun x => if x = 0 then A else C) (fun x => if x = 0 then ea else ec)
    (fun x => by
      by_cases hx : x = 0
      · rw [if_pos hx]; exact h1
      · rw [if_neg hx]; exact h2) (fun x => by
      by_cases hx : x = 0
      · rw [if_pos hx, if_pos hx]; exact f1
      · rw [if_neg hx, if_neg hx]; exact f2) (fun x w => by
      have hx : x = 0 ∨ x = 1 := by omega
      rcases hx with rfl | rfl
      · exact PA w
      · exact PC w) rv re hres w
  exact (callsIn_wide.1 h).mono fun e w' ⟨h1, h2⟩ => ⟨h1, Ext.of_below h2⟩
abbrev P1 : ByteArray := ⟨#[49, 47, 50, 32, 45, 51]⟩
abbrev P2 : ByteArray := ⟨#[49, 44, 50]⟩
abbrev P3 : ByteArray := ⟨#[49, 32, 50, 32, 51]⟩
def rHalf : Rt := ⟨false, 1, false, 2, by decide, by decide⟩
def rM3 : Rt := ⟨true, 3, false, 1, by decide, by decide⟩
def r1 : Rt := ⟨false, 1, false, 1, by decide, by decide⟩
theorem rParse_half (s : ByteArray) (hs : s = ⟨#[49, 47, 50]⟩) : Ans 62 #[.string s] (.tuple #[rHalf.v, .int .i64 0]) := fun w => by
  subst hs
  have hcut := cCut_at ⟨#[49, 47, 50]⟩ 1 (by decide) (by decide) (by decide)
  have ca := parse_one 1 1 ((⟨#[49, 47, 50]⟩ : ByteArray).extract 0 1) (by decide) (by decide)
  have cb := parse_one 2 2 ((⟨#[49, 47, 50]⟩ : ByteArray).extract 2 3) (by decide) (by decide)
  have ch := hasPrefix_no ((⟨#[49, 47, 50]⟩ : ByteArray).extract 2 3) (by decide) (by decide) (by rw [toList_data]; decide)
  exact rP_calls (rParse_in 3 (by decide) _ _ _ hcut false 1 2 (by decide) (by decide) ca cb (by rw [toList_data]; decide) (by rw [toList_data]; decide) ch (ratV false 1 false 2) 0 (.inl ⟨by decide, rfl, rfl⟩) w)
theorem rParse_m3 (s : ByteArray) (hs : s = ⟨#[45, 51]⟩) : Ans 62 #[.string s] (.tuple #[rM3.v, .int .i64 0]) := fun w => by
  subst hs
  exact rP_calls (rParse_one 3 (by omega) ⟨#[45, 51]⟩ ⟨#[45, 51]⟩ ⟨#[]⟩ (cCut_no _ (by decide)) true 3 (by decide) (parse_mone 3 ⟨#[45, 51]⟩ rfl (by decide) (by decide)) _ 0 (.inl ⟨by decide, rfl, rfl⟩) w)
theorem rParse_1 (s : ByteArray) (hs : s = ⟨#[49]⟩) : Ans 62 #[.string s] (.tuple #[r1.v, .int .i64 0]) := fun w => by
  subst hs
  exact rP_calls (rParse_one 3 (by omega) ⟨#[49]⟩ ⟨#[49]⟩ ⟨#[]⟩ (cCut_no _ (by decide)) false 1 (by decide) (parse_one 1 1 ⟨#[49]⟩ rfl (by decide)) _ 0 (.inl ⟨by decide, rfl, rfl⟩) w)
theorem noR_v : qZ = noR.v := qZ_eq
theorem rParse_bad (s : ByteArray) (n c0 c1 : Nat) (hz : s.size = n) (hn : 2 ≤ n) (hn2 : n ≤ 1000) (h0 : 49 ≤ c0) (h9 : c0 ≤ 57) (h1 : c1 < 48) (b0 : s.data[0]? = some (UInt8.ofNat c0)) (b1 : s.data[1]? = some (UInt8.ofNat c1)) (hx : Lib.indexByte s.data.toList 47 = -1) :
    Ans 62 #[.string s] (.tuple #[noR.v, .int .i64 120]) := fun w => by
  rw [← noR_v]
  exact rP_calls (rParse_none 3 (by omega) s (cCut_no s hx) (fun w => Parse_none s n c0 c1 hz hn hn2 h0 h9 h1 b0 b1 w) w)
theorem rParse_e : Ans 62 #[.string ⟨#[]⟩] (.tuple #[noR.v, .int .i64 120]) := fun w => by
  rw [← noR_v]
  exact rP_calls (rParse_empty 3 (by omega) w)
theorem pParse_1 : Ans 29 #[.string P1] (.tuple #[pV rHalf rM3, .int .i64 0]) :=
  pP_calls P1 _ _ true (cCut32_at P1 3 (by decide) (by decide) (by decide)) rHalf rM3 0 0 (.inl rfl) (.inl rfl) (fun _ => by decide) (fun _ => by decide) (rParse_half _ (by decide)) (rParse_m3 _ (by decide)) _ _ (.inl ⟨rfl, rfl, rfl, rfl⟩)
theorem pParse_2 : Ans 29 #[.string P2] (.tuple #[pZ, .int .i64 130]) :=
  pP_calls P2 _ _ false (cCut32_no P2 (by decide)) noR noR 120 120 (.inr rfl) (.inr rfl) (fun h => by cases h) (fun h => by cases h) (rParse_bad P2 3 49 44 rfl (by omega) (by omega) (by omega) (by omega) (by omega) rfl rfl (by decide)) rParse_e _ _ (.inr ⟨.inl rfl, rfl, rfl⟩)
theorem pParse_3 : Ans 29 #[.string P3] (.tuple #[pZ, .int .i64 130]) :=
  pP_calls P3 _ _ true (cCut32_at P3 1 (by decide) (by decide) (by decide)) r1 noR 0 120 (.inl rfl) (.inr rfl) (fun _ => by decide) (fun h => by cases h) (rParse_1 _ (by decide)) (rParse_bad _ 3 50 32 (by decide) (by omega) (by omega) (by omega) (by omega) (by omega) (by decide) (by decide) (by decide)) _ _ (.inr ⟨.inr rfl, rfl, rfl⟩)
end Go.Proofs.YtmopgcbhmkemjaaGreatDoor

namespace Go.Proofs.YtmopgcbhmkemjaaGreatDoor
open Go Go.RowKit
set_option linter.unusedSimpArgs false
set_option linter.unusedVariables false
set_option maxRecDepth 100000
set_option exponentiation.threshold 3000

theorem num_p (z : Int) (w : World) : Calls Tryz.prog 14 #[.int .i64 z] w fun e w' => e = .returned (.int .i64 z) ∧ w' = w := by
  go_enter Tryz.func14, Tryz.ntmps14
  go_wp2
  go_ret
  exact ⟨rfl, rfl⟩
set_option maxHeartbeats 16000000 in
theorem worksP_walk (Z0 Y0 O1 T2 HH N1 Z1 N2 PA PB Z2 M3 : Rt) (a00 : Ans 30 #[.int .i64 0, .int .i64 0] (pV Z0 Y0)) (a12 : Ans 30 #[.int .i64 1, .int .i64 2] (pV O1 T2))
    (MD : AnsT 22 #[pV Z0 Y0, pV O1 T2] (.tuple #[pV HH N1, .int .i64 0])) (a01 : Ans 30 #[.int .i64 0, .int .i64 1] (pV Z1 N2)) (HF : Ans 42 #[] HH.v)
    (Q1 : Ans 29 #[.string ⟨#[49, 47, 50, 32, 45, 51]⟩] (.tuple #[pV PA PB, .int .i64 0])) (a03 : Ans 30 #[.int .i64 0, .int .i64 (-3)] (pV Z2 M3))
    (Q2 : Ans 29 #[.string ⟨#[49, 44, 50]⟩] (.tuple #[pZ, .int .i64 130])) (Q3 : Ans 29 #[.string ⟨#[49, 32, 50, 32, 51]⟩] (.tuple #[pZ, .int .i64 130]))
    (K1 : Ans 15 #[ndV 67108864 (-67108864)] (.int .i64 0)) (K2 : Ans 15 #[ndV 67108865 0] (.int .i64 2))
    (e1 : EqT 31 (pV HH N1) (pV HH N2)) (e2 : EqT 31 (pV PA PB) (pV HH M3)) (w : World) (hT : Tab w) :
    Calls Tryz.prog 18 #[] w fun e w' => e = .returned (.bool true) ∧ Ext w w' := by
  have hx : Ext w w := Ext.refl w
  obtain ⟨s0, m0, t0, k0, _, _⟩ := Z0
  obtain ⟨s1, m1, t1, k1, _, _⟩ := Y0
  obtain ⟨s2, m2, t2, k2, _, _⟩ := O1
  obtain ⟨s3, m3, t3, k3, _, _⟩ := T2
  obtain ⟨s4, m4, t4, k4, _, _⟩ := HH
  obtain ⟨s5, m5, t5, k5, _, _⟩ := N1
  obtain ⟨s6, m6, t6, k6, _, _⟩ := Z1
  obtain ⟨s7, m7, t7, k7, _, _⟩ := N2
  obtain ⟨s8, m8, t8, k8, _, _⟩ := PA
  obtain ⟨s9, m9, t9, k9, _, _⟩ := PB
  obtain ⟨s10, m10, t10, k10, _, _⟩ := Z2
  obtain ⟨s11, m11, t11, k11, _, _⟩ := M3
  go_enter Tryz.func18, Tryz.ntmps18
  go_wp2_with (go_at_call 30; (with_reducible refine (a00 _).mono ?_); rintro e y1 ⟨rfl, hz_⟩; have hzz_ : Ext w y1 := Ext.trans ext_auto hz_; replace hx := hx.trans hzz_; clear hz_ hzz_)
  go_wp2_with (go_at_call 30; (with_reducible refine (a12 _).mono ?_); rintro e y2 ⟨rfl, hz_⟩; have hzz_ : Ext y1 y2 := Ext.trans ext_auto hz_; replace hx := hx.trans hzz_; clear hz_ hzz_)
  clear a00 a12
  go_upto_region 2 with (first | ((with_reducible apply wpList_store_row info_point); (case hs => exact rfl); (case hv => exact rfl); (case hB => exact blk_auto); (case hy => rfl); (case hc => rfl); (case h1 => rfl)) | (go_at_call 22; (with_reducible refine (MD _ (hT.ext (hx.trans ext_auto))).mono ?_); rintro e y3 ⟨rfl, hz_⟩; have hzz_ : Ext y2 y3 := Ext.trans ext_auto hz_))
  refine wp_rebase fun v hv => ?_
  have hzv : Ext y3 v := by rw [hv]; exact Ext.setRow ext_auto (Nat.le_refl _)
  have B1 : Blk v y3.heap.size (ptsV s4 m4 t4 k4 s5 m5 t5 k5) 31 := by rw [hv]; exact Blk.setRowSame (Blk.new _ _ _ rfl)
  clear hv
  have hWB1 := (hx.trans hzz_).size
  replace hx := (hx.trans hzz_).trans hzv
  clear hzz_ hzv hz_
  have lB1 := B1.lt; have cB1 := B1.cell; have fB1 := B1.frozen
  clear MD
  go_upto_region 3 with (first | ((with_reducible apply wpList_store_row info_point); (case hs => exact rfl); (case hv => exact rfl); (case hB => exact blk_auto); (case hy => rfl); (case hc => rfl); (case h1 => rfl)) | (go_at_call 30; (with_reducible refine (a01 _).mono ?_); rintro e y4 ⟨rfl, hz_⟩; have hzz_ : Ext v y4 := Ext.trans ext_auto hz_))
  refine wp_rebase fun v hv => ?_
  have hzv : Ext y4 v := by rw [hv]; exact Ext.setRow ext_auto (Nat.le_refl _)
  have B3 : Blk v y4.heap.size (ptsV s6 m6 t6 k6 s7 m7 t7 k7) 31 := by rw [hv]; exact Blk.setRowSame (Blk.new _ _ _ rfl)
  clear hv
  have gB1y4 : y3.heap.size < y4.heap.size := Nat.lt_of_lt_of_le B1.lt hzz_.size
  replace B1 := (B1.ext hzz_).ext hzv; clear lB1 cB1 fB1
  have hWB3 := (hx.trans hzz_).size
  replace hx := (hx.trans hzz_).trans hzv
  clear hzz_ hzv hz_
  have lB1 := B1.lt; have cB1 := B1.cell; have fB1 := B1.frozen; have lB3 := B3.lt; have cB3 := B3.cell; have fB3 := B3.frozen
  clear a01
  go_upto_region 4 with (go_at_call 42; (with_reducible refine (HF _).mono ?_); rintro e y5 ⟨rfl, hz_⟩; have hzz_ : Ext v y5 := Ext.trans ext_auto hz_; replace B3 := B3.ext hzz_; clear lB3 cB3 fB3; have lB3 := B3.lt; have cB3 := B3.cell; have fB3 := B3.frozen)
  refine wp_rebase fun v1 hv => ?_
  have hws := hx.size
  have B11 := B1.ext hzz_
  have B12 : Blk v1 y3.heap.size (ptsV s4 m4 t4 k4 s5 m5 t5 k5) 31 := by rw [hv]; exact ((((((((((B11.setOther (by omega)).setOther (by omega)).setOther (by omega)).setOther (by omega)).setOther (by omega)).setOther (by omega)).setOther (by omega)).setOther (by omega)).setOther (by omega)).setOther (by omega))
  have B32 : Blk v1 y4.heap.size (ptsV s4 m4 t4 k4 s7 m7 t7 k7) 31 := by rw [hv]; exact B3.head10
  have hx2 : Ext w v1 := by
    have h0 : Ext w y5 := hx.trans hzz_
    rw [hv]; exact ext_auto
  clear hv
  clear lB1 cB1 fB1
  clear lB3 cB3 fB3
  clear B1 B11 B3 hx hzz_ hz_ hws
  obtain ⟨v, rfl⟩ : ∃ v', v' = v1 := ⟨_, rfl⟩
  have hx := hx2
  clear hx2
  have B1 := B12
  clear B12
  have B3 := B32
  clear B32
  have lB1 := B1.lt; have cB1 := B1.cell; have fB1 := B1.frozen; have lB3 := B3.lt; have cB3 := B3.cell; have fB3 := B3.frozen
  go_upto_region 5 with (first | ((with_reducible apply wpList_store_row info_point); (case hs => exact rfl); (case hv => exact rfl); (case hB => exact blk_auto); (case hy => rfl); (case hc => rfl); (case h1 => rfl)) | (go_at_call 29; (with_reducible refine (Q1 _).mono ?_); rintro e y6 ⟨rfl, hz_⟩; have hzz_ : Ext v y6 := Ext.trans ext_auto hz_))
  refine wp_rebase fun v hv => ?_
  have hzv : Ext y6 v := by rw [hv]; exact Ext.setRow ext_auto (Nat.le_refl _)
  have B4 : Blk v y6.heap.size (ptsV s8 m8 t8 k8 s9 m9 t9 k9) 31 := by rw [hv]; exact Blk.setRowSame (Blk.new _ _ _ rfl)
  clear hv
  have gB1y6 : y3.heap.size < y6.heap.size := Nat.lt_of_lt_of_le B1.lt hzz_.size
  replace B1 := (B1.ext hzz_).ext hzv; clear lB1 cB1 fB1
  have gB3y6 : y4.heap.size < y6.heap.size := Nat.lt_of_lt_of_le B3.lt hzz_.size
  replace B3 := (B3.ext hzz_).ext hzv; clear lB3 cB3 fB3
  have hWB4 := (hx.trans hzz_).size
  replace hx := (hx.trans hzz_).trans hzv
  clear hzz_ hzv hz_
  have lB1 := B1.lt; have cB1 := B1.cell; have fB1 := B1.frozen; have lB3 := B3.lt; have cB3 := B3.cell; have fB3 := B3.frozen; have lB4 := B4.lt; have cB4 := B4.cell; have fB4 := B4.frozen
  clear Q1
  go_upto_region 6 with (first | ((with_reducible apply wpList_store_row info_point); (case hs => exact rfl); (case hv => exact rfl); (case hB => exact blk_auto); (case hy => rfl); (case hc => rfl); (case h1 => rfl)) | (go_at_call 30; (with_reducible refine (a03 _).mono ?_); rintro e y7 ⟨rfl, hz_⟩; have hzz_ : Ext v y7 := Ext.trans ext_auto hz_))
  refine wp_rebase fun v hv => ?_
  have hzv : Ext y7 v := by rw [hv]; exact Ext.setRow ext_auto (Nat.le_refl _)
  have B6 : Blk v y7.heap.size (ptsV s10 m10 t10 k10 s11 m11 t11 k11) 31 := by rw [hv]; exact Blk.setRowSame (Blk.new _ _ _ rfl)
  clear hv
  have gB1y7 : y3.heap.size < y7.heap.size := Nat.lt_of_lt_of_le B1.lt hzz_.size
  replace B1 := (B1.ext hzz_).ext hzv; clear lB1 cB1 fB1
  have gB3y7 : y4.heap.size < y7.heap.size := Nat.lt_of_lt_of_le B3.lt hzz_.size
  replace B3 := (B3.ext hzz_).ext hzv; clear lB3 cB3 fB3
  have gB4y7 : y6.heap.size < y7.heap.size := Nat.lt_of_lt_of_le B4.lt hzz_.size
  replace B4 := (B4.ext hzz_).ext hzv; clear lB4 cB4 fB4
  have hWB6 := (hx.trans hzz_).size
  replace hx := (hx.trans hzz_).trans hzv
  clear hzz_ hzv hz_
  have lB1 := B1.lt; have cB1 := B1.cell; have fB1 := B1.frozen; have lB3 := B3.lt; have cB3 := B3.cell; have fB3 := B3.frozen; have lB4 := B4.lt; have cB4 := B4.cell; have fB4 := B4.frozen; have lB6 := B6.lt; have cB6 := B6.cell; have fB6 := B6.frozen
  clear a03
  go_upto_region 7 with (go_at_call 42; (with_reducible refine (HF _).mono ?_); rintro e y8 ⟨rfl, hz_⟩; have hzz_ : Ext v y8 := Ext.trans ext_auto hz_; replace B6 := B6.ext hzz_; clear lB6 cB6 fB6; have lB6 := B6.lt; have cB6 := B6.cell; have fB6 := B6.frozen)
  refine wp_rebase fun v1 hv => ?_
  have hws := hx.size
  have B11 := B1.ext hzz_
  have B12 : Blk v1 y3.heap.size (ptsV s4 m4 t4 k4 s5 m5 t5 k5) 31 := by rw [hv]; exact ((((((((((B11.setOther (by omega)).setOther (by omega)).setOther (by omega)).setOther (by omega)).setOther (by omega)).setOther (by omega)).setOther (by omega)).setOther (by omega)).setOther (by omega)).setOther (by omega))
  have B31 := B3.ext hzz_
  have B32 : Blk v1 y4.heap.size (ptsV s4 m4 t4 k4 s7 m7 t7 k7) 31 := by rw [hv]; exact ((((((((((B31.setOther (by omega)).setOther (by omega)).setOther (by omega)).setOther (by omega)).setOther (by omega)).setOther (by omega)).setOther (by omega)).setOther (by omega)).setOther (by omega)).setOther (by omega))
  have B41 := B4.ext hzz_
  have B42 : Blk v1 y6.heap.size (ptsV s8 m8 t8 k8 s9 m9 t9 k9) 31 := by rw [hv]; exact ((((((((((B41.setOther (by omega)).setOther (by omega)).setOther (by omega)).setOther (by omega)).setOther (by omega)).setOther (by omega)).setOther (by omega)).setOther (by omega)).setOther (by omega)).setOther (by omega))
  have B62 : Blk v1 y7.heap.size (ptsV s4 m4 t4 k4 s11 m11 t11 k11) 31 := by rw [hv]; exact B6.head10
  have hx2 : Ext w v1 := by
    have h0 : Ext w y8 := hx.trans hzz_
    rw [hv]; exact ext_auto
  clear hv
  clear lB1 cB1 fB1
  clear lB3 cB3 fB3
  clear lB4 cB4 fB4
  clear lB6 cB6 fB6
  clear B1 B11 B3 B31 B4 B41 B6 hx hzz_ hz_ hws
  obtain ⟨v, rfl⟩ : ∃ v', v' = v1 := ⟨_, rfl⟩
  have hx := hx2
  clear hx2
  have B1 := B12
  clear B12
  have B3 := B32
  clear B32
  have B4 := B42
  clear B42
  have B6 := B62
  clear B62
  have lB1 := B1.lt; have cB1 := B1.cell; have fB1 := B1.frozen; have lB3 := B3.lt; have cB3 := B3.cell; have fB3 := B3.frozen; have lB4 := B4.lt; have cB4 := B4.cell; have fB4 := B4.frozen; have lB6 := B6.lt; have cB6 := B6.cell; have fB6 := B6.frozen
  go_upto_region 8 with (first | ((with_reducible apply wpList_store_row info_point); (case hs => exact rfl); (case hv => exact rfl); (case hB => exact blk_auto); (case hy => rfl); (case hc => rfl); (case h1 => rfl)) | (go_at_call 29; (with_reducible refine (Q2 _).mono ?_); rintro e y9 ⟨rfl, hz_⟩; have hzz_ : Ext v y9 := Ext.trans ext_auto hz_))
  refine wp_rebase fun v hv => ?_
  have hzv : Ext y9 v := by rw [hv]; exact Ext.setRow ext_auto (Nat.le_refl _)
  clear hv
  have gB1y9 : y3.heap.size < y9.heap.size := Nat.lt_of_lt_of_le B1.lt hzz_.size
  replace B1 := (B1.ext hzz_).ext hzv; clear lB1 cB1 fB1
  have gB3y9 : y4.heap.size < y9.heap.size := Nat.lt_of_lt_of_le B3.lt hzz_.size
  replace B3 := (B3.ext hzz_).ext hzv; clear lB3 cB3 fB3
  have gB4y9 : y6.heap.size < y9.heap.size := Nat.lt_of_lt_of_le B4.lt hzz_.size
  replace B4 := (B4.ext hzz_).ext hzv; clear lB4 cB4 fB4
  have gB6y9 : y7.heap.size < y9.heap.size := Nat.lt_of_lt_of_le B6.lt hzz_.size
  replace B6 := (B6.ext hzz_).ext hzv; clear lB6 cB6 fB6
  replace hx := (hx.trans hzz_).trans hzv
  clear hzz_ hzv hz_
  have lB1 := B1.lt; have cB1 := B1.cell; have fB1 := B1.frozen; have lB3 := B3.lt; have cB3 := B3.cell; have fB3 := B3.frozen; have lB4 := B4.lt; have cB4 := B4.cell; have fB4 := B4.frozen; have lB6 := B6.lt; have cB6 := B6.cell; have fB6 := B6.frozen
  clear Q2
  go_upto_region 9 with (first | ((with_reducible apply wpList_store_row info_point); (case hs => exact rfl); (case hv => exact rfl); (case hB => exact blk_auto); (case hy => rfl); (case hc => rfl); (case h1 => rfl)) | (go_at_call 29; (with_reducible refine (Q3 _).mono ?_); rintro e y10 ⟨rfl, hz_⟩; have hzz_ : Ext v y10 := Ext.trans ext_auto hz_))
  refine wp_rebase fun v hv => ?_
  have hzv : Ext y10 v := by rw [hv]; exact Ext.setRow ext_auto (Nat.le_refl _)
  clear hv
  have gB1y10 : y3.heap.size < y10.heap.size := Nat.lt_of_lt_of_le B1.lt hzz_.size
  replace B1 := (B1.ext hzz_).ext hzv; clear lB1 cB1 fB1
  have gB3y10 : y4.heap.size < y10.heap.size := Nat.lt_of_lt_of_le B3.lt hzz_.size
  replace B3 := (B3.ext hzz_).ext hzv; clear lB3 cB3 fB3
  have gB4y10 : y6.heap.size < y10.heap.size := Nat.lt_of_lt_of_le B4.lt hzz_.size
  replace B4 := (B4.ext hzz_).ext hzv; clear lB4 cB4 fB4
  have gB6y10 : y7.heap.size < y10.heap.size := Nat.lt_of_lt_of_le B6.lt hzz_.size
  replace B6 := (B6.ext hzz_).ext hzv; clear lB6 cB6 fB6
  replace hx := (hx.trans hzz_).trans hzv
  clear hzz_ hzv hz_
  have lB1 := B1.lt; have cB1 := B1.cell; have fB1 := B1.frozen; have lB3 := B3.lt; have cB3 := B3.cell; have fB3 := B3.frozen; have lB4 := B4.lt; have cB4 := B4.cell; have fB4 := B4.frozen; have lB6 := B6.lt; have cB6 := B6.cell; have fB6 := B6.frozen
  clear Q3
  go_wp2_with (first
    | ((with_reducible apply wpList_load_row Tryz.isAgg31 Tryz.sizeOf31); (case hw => (simp [go_sem, Region.wanted, yielded]; done)); (case hs => exact rfl); (case hB => exact blk_auto); (case hc => rfl))
    | (go_at_call 14; (with_reducible refine (num_p _ _).mono ?_); rintro e w2 ⟨rfl, h2_⟩; subst w2)
    | (go_at_call 15; (with_reducible refine (K1 _).mono ?_); clear K1; rintro e y11 ⟨rfl, hz_⟩; have hzz_ : Ext v y11 := Ext.trans ext_auto hz_; replace B1 := B1.ext hzz_; clear lB1 cB1 fB1; have lB1 := B1.lt; have cB1 := B1.cell; have fB1 := B1.frozen; replace B3 := B3.ext hzz_; clear lB3 cB3 fB3; have lB3 := B3.lt; have cB3 := B3.cell; have fB3 := B3.frozen; replace B4 := B4.ext hzz_; clear lB4 cB4 fB4; have lB4 := B4.lt; have cB4 := B4.cell; have fB4 := B4.frozen; replace B6 := B6.ext hzz_; clear lB6 cB6 fB6; have lB6 := B6.lt; have cB6 := B6.cell; have fB6 := B6.frozen; replace hx := hx.trans hzz_; clear hz_ hzz_)
    | (go_at_call 15; (with_reducible refine (K2 _).mono ?_); clear K2; rintro e y12 ⟨rfl, hz_⟩; have hzz_ : Ext y11 y12 := Ext.trans ext_auto hz_; replace B1 := B1.ext hzz_; clear lB1 cB1 fB1; have lB1 := B1.lt; have cB1 := B1.cell; have fB1 := B1.frozen; replace B3 := B3.ext hzz_; clear lB3 cB3 fB3; have lB3 := B3.lt; have cB3 := B3.cell; have fB3 := B3.frozen; replace B4 := B4.ext hzz_; clear lB4 cB4 fB4; have lB4 := B4.lt; have cB4 := B4.cell; have fB4 := B4.frozen; replace B6 := B6.ext hzz_; clear lB6 cB6 fB6; have lB6 := B6.lt; have cB6 := B6.cell; have fB6 := B6.frozen; replace hx := hx.trans hzz_; clear hz_ hzz_))
  exact bodyPost_ret (v := .bool true) (by simp [results, Tryz.results18, go_sem]) rfl ⟨rfl, ext_auto⟩
end Go.Proofs.YtmopgcbhmkemjaaGreatDoor

namespace Go.Proofs.YtmopgcbhmkemjaaGreatDoor
open Go Go.RowKit
set_option linter.unusedSimpArgs false
set_option linter.unusedVariables false
set_option maxRecDepth 100000
set_option exponentiation.threshold 3000

abbrev rI (z : Int) (h : z.natAbs ≤ 9223372036854775808) : Rt := rt (z : Rat) (pfits_fits (int_q z h))
theorem rI_pok (z : Int) (h : z.natAbs ≤ 9223372036854775808) : (rI z h).pok = true := rt_pok _ (int_q z h)
theorem rI_pf (z : Int) (h : z.natAbs ≤ 9223372036854775808) : (rI z h).pf = true := ((rI z h).pok_iff.1 (rI_pok z h)).2 |> fun h => by unfold Rt.pf; simp [h.1, h.2]
theorem rI_v (z : Int) (h : z.natAbs ≤ 9223372036854775808) : (rI z h).v = ratV (decide (z < 0)) z.natAbs false 1 := (rt_v _ (pfits_fits (int_q z h))).trans (qV_word z)
theorem rOf_I (z : Int) (h1 : -9223372036854775808 ≤ z) (h2 : z ≤ 9223372036854775807) : Ans 33 #[.int .i64 z] (rI z (by omega)).v := by
  rw [rI_v]; exact rOf_word z h1 h2
theorem mid_half (x y : Int) (hx : x.natAbs < 1000) (hy : y.natAbs < 1000) (M : Rt) (hM : qV (((x : Rat) + (y : Rat)) / ((2 : Int) : Rat)) = M.v) (hf : Fits (((x : Rat) + (y : Rat)) / ((2 : Int) : Rat))) :
    AnsT 50 #[pV (rI x (by omega)) (rI y (by omega))] (.tuple #[M.v, .int .i64 0]) := by
  have hs : Fits ((x : Rat) + (y : Rat)) := by rw [← Rat.intCast_add]; exact pfits_fits (int_q _ (by omega))
  refine mid_any _ _ (rt _ hs) (rI 2 (by omega)) M 0 (fun w hT => cAdd_yes (x : Rat) (y : Rat) (pfits_fits (int_q x (by omega))) (pfits_fits (int_q y (by omega))) hs w hT) (rOf_I 2 (by omega) (by omega)) (fun w hT => ?_)
  have h := cDiv_yes ((x : Rat) + (y : Rat)) ((2 : Int) : Rat) hs (pfits_fits (int_q 2 (by omega))) (by decide) hf w hT
  rw [hM] at h
  exact h
theorem worksP_true (w : World) (hT : Tab w) : Calls Tryz.prog 18 #[] w fun e w' => e = .returned (.bool true) ∧ Ext w w' := by
  have at_ : ∀ (x y : Int) (h1 : x.natAbs < 1000) (h2 : y.natAbs < 1000), Ans 30 #[.int .i64 x, .int .i64 y] (pV (rI x (by omega)) (rI y (by omega))) := fun x y h1 h2 =>
    atP_any x y (by omega) (by omega) (by omega) (by omega) (int_q x (by omega)) (int_q y (by omega))
  have q1 : (((0 : Int) : Rat) + ((1 : Int) : Rat)) / ((2 : Int) : Rat) = Rat.divInt 1 2 := by rw [Rat.divInt_eq_div, show ((0 : Int) : Rat) = 0 from rfl, Rat.zero_add]
  have q2 : (((0 : Int) : Rat) + ((2 : Int) : Rat)) / ((2 : Int) : Rat) = Rat.divInt 2 2 := by rw [Rat.divInt_eq_div, show ((0 : Int) : Rat) = 0 from rfl, Rat.zero_add]
  have M1 := mid_half 0 1 (by omega) (by omega) rHalf (by rw [q1]; exact qV_of _ false 1 2 (by decide) (by decide) (by decide)) (by rw [q1]; exact Fits.small (by decide) (by decide))
  have M2 := mid_half 0 2 (by omega) (by omega) (rI 1 (by omega)) (by rw [q2, rI_v]; exact qV_of _ false 1 1 (by decide) (by decide) (by decide)) (by rw [q2]; exact Fits.small (by decide) (by decide))
  refine worksP_walk (rI 0 (by omega)) (rI 0 (by omega)) (rI 1 (by omega)) (rI 2 (by omega)) rHalf (rI 1 (by omega)) (rI 0 (by omega)) (rI 1 (by omega)) rHalf rM3 (rI 0 (by omega)) (rI (-3) (by omega))
    (at_ 0 0 (by omega) (by omega)) (at_ 1 2 (by omega) (by omega)) ?_ (at_ 0 1 (by omega) (by omega)) half_any pParse_1 (at_ 0 (-3) (by omega) (by omega)) pParse_2 pParse_3 ?_ ?_ (eqT_pt _ _) ?_ w hT
  · exact Mid_yes _ _ _ _ (rI_pok _ _) (rI_pok _ _) (rI_pok _ _) (rI_pok _ _) rHalf (rI 1 (by omega)) (by decide) (rI_pf _ _) M1 M2
  · intro w; have := pcheck_any 67108864 (-67108864) w; rwa [show (if inC 67108864 && inC (-67108864) then (0 : Int) else 2) = 0 by decide] at this
  · intro w; have := pcheck_any 67108865 0 w; rwa [show (if inC 67108865 && inC 0 then (0 : Int) else 2) = 2 by decide] at this
  · intro w
    rw [run_eq_pt]
    have h2 : (rM3.s = (rI (-3) (by omega)).s ∧ rM3.m = (rI (-3) (by omega)).m) ∧ rM3.t = (rI (-3) (by omega)).t ∧ rM3.k = (rI (-3) (by omega)).k := by
      show (true = decide (((-3 : Int) : Rat).num < 0) ∧ 3 = ((-3 : Int) : Rat).num.natAbs) ∧ false = false ∧ 1 = ((-3 : Int) : Rat).den
      rw [Rat.num_intCast, Rat.den_intCast]; decide
    simpa using h2
end Go.Proofs.YtmopgcbhmkemjaaGreatDoor

namespace Go.Proofs.YtmopgcbhmkemjaaGreatDoor
open Go Go.RowKit
set_option linter.unusedSimpArgs false
set_option linter.unusedVariables false
set_option maxRecDepth 100000
set_option exponentiation.threshold 3000

set_option maxHeartbeats 16000000 in
theorem each_sum_1 (a1 d1 a2 d2 S1 S2 : Rt) (f1 : S1.pf = false) (c1 : AnsT 52 #[pV a1 d1] (.tuple #[S1.v, .int .i64 0]))
    (b T : Nat) (w : World) (hT : Tab w) (BP0 : Blk w b #[.bool a1.s, q64 (wn a1.m 0), q64 (wn a1.m 1), q64 (wn a1.m 2), q64 (wn a1.m 3), .bool a1.t, q64 (wn a1.k 0), q64 (wn a1.k 1), q64 (wn a1.k 2), q64 (wn a1.k 3), .bool d1.s, q64 (wn d1.m 0), q64 (wn d1.m 1), q64 (wn d1.m 2), q64 (wn d1.m 3), .bool d1.t, q64 (wn d1.k 0), q64 (wn d1.k 1), q64 (wn d1.k 2), q64 (wn d1.k 3), .bool a2.s, q64 (wn a2.m 0), q64 (wn a2.m 1), q64 (wn a2.m 2), q64 (wn a2.m 3), .bool a2.t, q64 (wn a2.k 0), q64 (wn a2.k 1), q64 (wn a2.k 2), q64 (wn a2.k 3), .bool d2.s, q64 (wn d2.m 0), q64 (wn d2.m 1), q64 (wn d2.m 2), q64 (wn d2.m 3), .bool d2.t, q64 (wn d2.k 0), q64 (wn d2.k 1), q64 (wn d2.k 2), q64 (wn d2.k 3)] T) :
    Calls Tryz.prog 49 #[.func (.func 52) #[] #[], .slice (some ⟨b, 0, none⟩) 2 2] w fun e w' => e = givesUp 110 ∧ Ext w w' := by
  have hx : Ext w w := Ext.refl w
  have e1 := fits_any S1
  have e2 := fits_any S2
  rw [f1] at e1
  clear f1
  obtain ⟨i0, hi, hz0, hz1, hz2⟩ := info_parts info_rat
  obtain ⟨s1, m1, t1, k1, _, _⟩ := a1
  obtain ⟨s2, m2, t2, k2, _, _⟩ := d1
  obtain ⟨s3, m3, t3, k3, _, _⟩ := a2
  obtain ⟨s4, m4, t4, k4, _, _⟩ := d2
  obtain ⟨s5, m5, t5, k5, _, _⟩ := S1
  obtain ⟨s6, m6, t6, k6, _, _⟩ := S2
  dsimp only at BP0
  have BP := BP0
  have hown := World.ownsRow_nil w w.heap.size 29 10
  have lBP := BP.lt; have cBP := BP.cell; have fBP := BP.frozen
  go_enter Tryz.func49, Tryz.ntmps49
  go_wp2
  refine wp_loop_rounds 3 ?_
  rw [rounds_succ]
  go_upto_region 3 with fail
  go_upto_region 4 with (first | ((with_reducible apply wpList_load_at Tryz.isAgg31 Tryz.sizeOf31 #[.bool s1, q64 (wn m1 0), q64 (wn m1 1), q64 (wn m1 2), q64 (wn m1 3), .bool t1, q64 (wn k1 0), q64 (wn k1 1), q64 (wn k1 2), q64 (wn k1 3), .bool s2, q64 (wn m2 0), q64 (wn m2 1), q64 (wn m2 2), q64 (wn m2 3), .bool t2, q64 (wn k2 0), q64 (wn k2 1), q64 (wn k2 2), q64 (wn k2 3)]); (case hw => (simp [go_sem, Region.wanted, yielded]; done)); (case hs => exact rfl); (case hB => exact blk_auto); (case hv => rfl); (case hc => rfl)) | ((with_reducible apply wpList_store_row info_point); (case hs => exact rfl); (case hv => exact rfl); (case hB => exact blk_auto); (case hy => rfl); (case hc => rfl); (case h1 => rfl)))
  refine wp_rebase fun v1 hv => ?_
  have hx1 : Ext w v1 := by rw [hv]; exact Ext.setRow ext_auto (by first | exact Nat.le_refl _ | simp)
  have BX : Blk v1 w.heap.size #[.bool s1, q64 (wn m1 0), q64 (wn m1 1), q64 (wn m1 2), q64 (wn m1 3), .bool t1, q64 (wn k1 0), q64 (wn k1 1), q64 (wn k1 2), q64 (wn k1 3), .bool s2, q64 (wn m2 0), q64 (wn m2 1), q64 (wn m2 2), q64 (wn m2 3), .bool t2, q64 (wn k2 0), q64 (wn k2 1), q64 (wn k2 2), q64 (wn k2 3)] 31 := by rw [hv]; exact Blk.setRowSame (Blk.new _ _ _ rfl)
  clear hv lBP cBP fBP
  replace hx := hx.trans hx1
  replace BP := BP.ext hx1
  replace hown : v1.ownsRow w.heap.size 29 10 (.slice none 0 0) 0 [] := by obtain ⟨d, rfl⟩ := hx1; exact hown.ext2 d
  clear hx1
  have lBX := BX.lt; have cBX := BX.cell; have fBX := BX.frozen
  go_upto_region 5 with (first | ((with_reducible apply wpList_load_row Tryz.isAgg31 Tryz.sizeOf31); (case hw => (simp [go_sem, Region.wanted, yielded]; done)); (case hs => exact rfl); (case hB => exact blk_auto); (case hc => rfl)) | (go_at_call 52; (with_reducible refine (c1 _ (hT.ext (hx.trans ext_auto))).mono ?_); rintro e y ⟨rfl, hz_⟩; have hxy : Ext v1 y := Ext.trans ext_auto hz_))
  refine wp_rebase fun v2 hv => ?_
  have hx2 : Ext y v2 := by rw [hv]; exact ext_auto
  have BY : Blk v2 y.heap.size #[.bool s5, q64 (wn m5 0), q64 (wn m5 1), q64 (wn m5 2), q64 (wn m5 3), .bool t5, q64 (wn k5 0), q64 (wn k5 1), q64 (wn k5 2), q64 (wn k5 3)] 29 := by rw [hv]; exact blk_auto
  clear hv lBX cBX fBX BX
  replace hx := hx.trans (hxy.trans hx2)
  replace BP := BP.ext (hxy.trans hx2)
  replace hown : v2.ownsRow w.heap.size 29 10 (.slice none 0 0) 0 [] := by obtain ⟨d, rfl⟩ := hxy.trans hx2; exact hown.ext2 d
  clear hxy hx2 hz_
  have lBY := BY.lt; have cBY := BY.cell; have fBY := BY.frozen
  go_wp2_with (first
    | (go_at_call 46; (with_reducible refine (must_point_yes _ _).mono ?_); rintro e w2 ⟨rfl, h2_⟩; subst w2)
    | (go_at_call 41; (with_reducible refine (e1 _).mono ?_); rintro e yf ⟨rfl, hz_⟩; have hxf : Ext v2 yf := Ext.trans ext_auto hz_)
    | (go_at_call 46; (with_reducible refine (must_point_no _ _).mono ?_); rintro e w2 ⟨rfl, h2_⟩; subst w2))
  exact ⟨rfl, rfl, hx.trans hxf⟩
set_option maxHeartbeats 16000000 in
theorem each_sum_2 (a1 d1 a2 d2 S1 S2 : Rt) (f1 : S1.pf = true) (f2 : S2.pf = false) (c1 : AnsT 52 #[pV a1 d1] (.tuple #[S1.v, .int .i64 0])) (c2 : AnsT 52 #[pV a2 d2] (.tuple #[S2.v, .int .i64 0]))
    (b T : Nat) (w : World) (hT : Tab w) (BP0 : Blk w b #[.bool a1.s, q64 (wn a1.m 0), q64 (wn a1.m 1), q64 (wn a1.m 2), q64 (wn a1.m 3), .bool a1.t, q64 (wn a1.k 0), q64 (wn a1.k 1), q64 (wn a1.k 2), q64 (wn a1.k 3), .bool d1.s, q64 (wn d1.m 0), q64 (wn d1.m 1), q64 (wn d1.m 2), q64 (wn d1.m 3), .bool d1.t, q64 (wn d1.k 0), q64 (wn d1.k 1), q64 (wn d1.k 2), q64 (wn d1.k 3), .bool a2.s, q64 (wn a2.m 0), q64 (wn a2.m 1), q64 (wn a2.m 2), q64 (wn a2.m 3), .bool a2.t, q64 (wn a2.k 0), q64 (wn a2.k 1), q64 (wn a2.k 2), q64 (wn a2.k 3), .bool d2.s, q64 (wn d2.m 0), q64 (wn d2.m 1), q64 (wn d2.m 2), q64 (wn d2.m 3), .bool d2.t, q64 (wn d2.k 0), q64 (wn d2.k 1), q64 (wn d2.k 2), q64 (wn d2.k 3)] T) :
    Calls Tryz.prog 49 #[.func (.func 52) #[] #[], .slice (some ⟨b, 0, none⟩) 2 2] w fun e w' => e = givesUp 110 ∧ Ext w w' := by
  have hx : Ext w w := Ext.refl w
  have e1 := fits_any S1
  have e2 := fits_any S2
  rw [f1] at e1; rw [f2] at e2
  clear f1 f2
  obtain ⟨i0, hi, hz0, hz1, hz2⟩ := info_parts info_rat
  obtain ⟨s1, m1, t1, k1, _, _⟩ := a1
  obtain ⟨s2, m2, t2, k2, _, _⟩ := d1
  obtain ⟨s3, m3, t3, k3, _, _⟩ := a2
  obtain ⟨s4, m4, t4, k4, _, _⟩ := d2
  obtain ⟨s5, m5, t5, k5, _, _⟩ := S1
  obtain ⟨s6, m6, t6, k6, _, _⟩ := S2
  dsimp only at BP0
  have BP := BP0
  have hown := World.ownsRow_nil w w.heap.size 29 10
  have lBP := BP.lt; have cBP := BP.cell; have fBP := BP.frozen
  go_enter Tryz.func49, Tryz.ntmps49
  go_wp2
  refine wp_loop_rounds 3 ?_
  rw [rounds_succ]
  go_upto_region 3 with fail
  go_upto_region 4 with (first | ((with_reducible apply wpList_load_at Tryz.isAgg31 Tryz.sizeOf31 #[.bool s1, q64 (wn m1 0), q64 (wn m1 1), q64 (wn m1 2), q64 (wn m1 3), .bool t1, q64 (wn k1 0), q64 (wn k1 1), q64 (wn k1 2), q64 (wn k1 3), .bool s2, q64 (wn m2 0), q64 (wn m2 1), q64 (wn m2 2), q64 (wn m2 3), .bool t2, q64 (wn k2 0), q64 (wn k2 1), q64 (wn k2 2), q64 (wn k2 3)]); (case hw => (simp [go_sem, Region.wanted, yielded]; done)); (case hs => exact rfl); (case hB => exact blk_auto); (case hv => rfl); (case hc => rfl)) | ((with_reducible apply wpList_store_row info_point); (case hs => exact rfl); (case hv => exact rfl); (case hB => exact blk_auto); (case hy => rfl); (case hc => rfl); (case h1 => rfl)))
  refine wp_rebase fun v1 hv => ?_
  have hx1 : Ext w v1 := by rw [hv]; exact Ext.setRow ext_auto (by first | exact Nat.le_refl _ | simp)
  have BX : Blk v1 w.heap.size #[.bool s1, q64 (wn m1 0), q64 (wn m1 1), q64 (wn m1 2), q64 (wn m1 3), .bool t1, q64 (wn k1 0), q64 (wn k1 1), q64 (wn k1 2), q64 (wn k1 3), .bool s2, q64 (wn m2 0), q64 (wn m2 1), q64 (wn m2 2), q64 (wn m2 3), .bool t2, q64 (wn k2 0), q64 (wn k2 1), q64 (wn k2 2), q64 (wn k2 3)] 31 := by rw [hv]; exact Blk.setRowSame (Blk.new _ _ _ rfl)
  clear hv lBP cBP fBP
  replace hx := hx.trans hx1
  replace BP := BP.ext hx1
  replace hown : v1.ownsRow w.heap.size 29 10 (.slice none 0 0) 0 [] := by obtain ⟨d, rfl⟩ := hx1; exact hown.ext2 d
  clear hx1
  have lBX := BX.lt; have cBX := BX.cell; have fBX := BX.frozen
  go_upto_region 5 with (first | ((with_reducible apply wpList_load_row Tryz.isAgg31 Tryz.sizeOf31); (case hw => (simp [go_sem, Region.wanted, yielded]; done)); (case hs => exact rfl); (case hB => exact blk_auto); (case hc => rfl)) | (go_at_call 52; (with_reducible refine (c1 _ (hT.ext (hx.trans ext_auto))).mono ?_); rintro e y ⟨rfl, hz_⟩; have hxy : Ext v1 y := Ext.trans ext_auto hz_))
  refine wp_rebase fun v2 hv => ?_
  have hx2 : Ext y v2 := by rw [hv]; exact ext_auto
  have BY : Blk v2 y.heap.size #[.bool s5, q64 (wn m5 0), q64 (wn m5 1), q64 (wn m5 2), q64 (wn m5 3), .bool t5, q64 (wn k5 0), q64 (wn k5 1), q64 (wn k5 2), q64 (wn k5 3)] 29 := by rw [hv]; exact blk_auto
  clear hv lBX cBX fBX BX
  replace hx := hx.trans (hxy.trans hx2)
  replace BP := BP.ext (hxy.trans hx2)
  replace hown : v2.ownsRow w.heap.size 29 10 (.slice none 0 0) 0 [] := by obtain ⟨d, rfl⟩ := hxy.trans hx2; exact hown.ext2 d
  clear hxy hx2 hz_
  have lBY := BY.lt; have cBY := BY.cell; have fBY := BY.frozen
  go_upto_region 7 with (first
    | (go_at_call 46; (with_reducible refine (must_point_yes _ _).mono ?_); rintro e w2 ⟨rfl, h2_⟩; subst w2)
    | (go_at_call 41; (with_reducible refine (e1 _).mono ?_); rintro e yf ⟨rfl, hz_⟩; have hxf : Ext v2 yf := Ext.trans ext_auto hz_; replace BY := BY.ext hxf; clear lBY cBY fBY; have lBY := BY.lt; have cBY := BY.cell; have fBY := BY.frozen))
  refine wp_rebase fun v3 hv => ?_
  have hx3 : Ext yf v3 := by rw [hv]; exact ext_auto
  clear hv
  replace hx := hx.trans (hxf.trans hx3)
  replace BP := BP.ext (hxf.trans hx3)
  replace BY := BY.ext hx3
  replace hown : v3.ownsRow w.heap.size 29 10 (.slice none 0 0) 0 [] := by obtain ⟨d, rfl⟩ := hxf.trans hx3; exact hown.ext2 d
  have hws := hx.size
  clear hxf hx3 hz_ lBY cBY fBY
  have lBY := BY.lt; have cBY := BY.cell; have fBY := BY.frozen
  go_wp2_with (at_builtin; refine wpList_append_own _ rfl (.tmp 28) (.tmp 30) 95 rfl w.heap.size 29 i0 zRv 10 80 Tryz.underlying95 hi hz0 hz1 hz2 rfl (by decide) (.slice none 0 0) 0 [] rfl (hown.alloc _) ⟨v3.heap.size, 0, none⟩ 1 1 [.bool s5, q64 (wn m5 0), q64 (wn m5 1), q64 (wn m5 2), q64 (wn m5 3), .bool t5, q64 (wn k5 0), q64 (wn k5 1), q64 (wn k5 2), q64 (wn k5 3)] rfl rfl ?c1 ?c2 ?c3 ?c4 ?c5 ?_)
  case c1 =>
    intro j u h
    have hj : j < 10 := by
      rcases Nat.lt_or_ge j 10 with h' | h'
      · exact h'
      · rw [List.getElem?_eq_none (by simpa using h')] at h; cases h
    have hadd : (⟨v3.heap.size, 0, none⟩ : Addr).add j = ⟨v3.heap.size, j, none⟩ := by unfold Addr.add; split <;> simp_all
    rw [hadd, cell_new_any]
    simpa using h
  case c2 => intro u h; simp only [List.mem_cons, List.not_mem_nil, or_false] at h; rcases h with rfl | rfl | rfl | rfl | rfl | rfl | rfl | rfl | rfl | rfl <;> rfl
  case c3 => unfold maxLen; omega
  case c4 => omega
  case c5 => simp; omega
  intro u0 v4 hown4 hgrow4 _
  have hx4 : Ext w v4 := Ext.of_below ((hx.below.alloc hws _).grown hgrow4 (by simp; omega) (fun k hk => by
    rcases hown.2 with ⟨h1, _⟩ | ⟨g, cap, cur, h1, hb, _⟩
    · rw [h1] at hk; cases hk
    · rw [h1] at hk; obtain rfl : g = k := by simpa [Value.ownBlock] using hk
      exact hb))
  replace hx := hx4
  replace BP := BP0.ext hx
  replace hown := hown4
  clear hown4 hgrow4 hx4 BY lBY cBY fBY hws
  have lBP := BP.lt; have cBP := BP.cell; have fBP := BP.frozen
  go_wp2
  rw [rounds_succ]
  go_upto_region 3 with fail
  go_upto_region 4 with (first | ((with_reducible apply wpList_load_at Tryz.isAgg31 Tryz.sizeOf31 #[.bool s3, q64 (wn m3 0), q64 (wn m3 1), q64 (wn m3 2), q64 (wn m3 3), .bool t3, q64 (wn k3 0), q64 (wn k3 1), q64 (wn k3 2), q64 (wn k3 3), .bool s4, q64 (wn m4 0), q64 (wn m4 1), q64 (wn m4 2), q64 (wn m4 3), .bool t4, q64 (wn k4 0), q64 (wn k4 1), q64 (wn k4 2), q64 (wn k4 3)]); (case hw => (simp [go_sem, Region.wanted, yielded]; done)); (case hs => exact rfl); (case hB => exact blk_auto); (case hv => rfl); (case hc => rfl)) | ((with_reducible apply wpList_store_row info_point); (case hs => exact rfl); (case hv => exact rfl); (case hB => exact blk_auto); (case hy => rfl); (case hc => rfl); (case h1 => rfl)))
  refine wp_rebase fun v1 hv => ?_
  have hx1 : Ext v4 v1 := by rw [hv]; exact Ext.setRow ext_auto (by first | exact Nat.le_refl _ | simp)
  have BX : Blk v1 v4.heap.size #[.bool s3, q64 (wn m3 0), q64 (wn m3 1), q64 (wn m3 2), q64 (wn m3 3), .bool t3, q64 (wn k3 0), q64 (wn k3 1), q64 (wn k3 2), q64 (wn k3 3), .bool s4, q64 (wn m4 0), q64 (wn m4 1), q64 (wn m4 2), q64 (wn m4 3), .bool t4, q64 (wn k4 0), q64 (wn k4 1), q64 (wn k4 2), q64 (wn k4 3)] 31 := by rw [hv]; exact Blk.setRowSame (Blk.new _ _ _ rfl)
  clear hv lBP cBP fBP
  replace hx := hx.trans hx1
  replace BP := BP.ext hx1
  replace hown : v1.ownsRow w.heap.size 29 10 u0 1 ([] ++ [.bool s5, q64 (wn m5 0), q64 (wn m5 1), q64 (wn m5 2), q64 (wn m5 3), .bool t5, q64 (wn k5 0), q64 (wn k5 1), q64 (wn k5 2), q64 (wn k5 3)]) := by obtain ⟨d, rfl⟩ := hx1; exact hown.ext2 d
  clear hx1
  have lBX := BX.lt; have cBX := BX.cell; have fBX := BX.frozen
  go_upto_region 5 with (first | ((with_reducible apply wpList_load_row Tryz.isAgg31 Tryz.sizeOf31); (case hw => (simp [go_sem, Region.wanted, yielded]; done)); (case hs => exact rfl); (case hB => exact blk_auto); (case hc => rfl)) | (go_at_call 52; (with_reducible refine (c2 _ (hT.ext (hx.trans ext_auto))).mono ?_); rintro e y ⟨rfl, hz_⟩; have hxy : Ext v1 y := Ext.trans ext_auto hz_))
  refine wp_rebase fun v2 hv => ?_
  have hx2 : Ext y v2 := by rw [hv]; exact ext_auto
  have BY : Blk v2 y.heap.size #[.bool s6, q64 (wn m6 0), q64 (wn m6 1), q64 (wn m6 2), q64 (wn m6 3), .bool t6, q64 (wn k6 0), q64 (wn k6 1), q64 (wn k6 2), q64 (wn k6 3)] 29 := by rw [hv]; exact blk_auto
  clear hv lBX cBX fBX BX
  replace hx := hx.trans (hxy.trans hx2)
  replace BP := BP.ext (hxy.trans hx2)
  replace hown : v2.ownsRow w.heap.size 29 10 u0 1 ([] ++ [.bool s5, q64 (wn m5 0), q64 (wn m5 1), q64 (wn m5 2), q64 (wn m5 3), .bool t5, q64 (wn k5 0), q64 (wn k5 1), q64 (wn k5 2), q64 (wn k5 3)]) := by obtain ⟨d, rfl⟩ := hxy.trans hx2; exact hown.ext2 d
  clear hxy hx2 hz_
  have lBY := BY.lt; have cBY := BY.cell; have fBY := BY.frozen
  go_wp2_with (first
    | (go_at_call 46; (with_reducible refine (must_point_yes _ _).mono ?_); rintro e w2 ⟨rfl, h2_⟩; subst w2)
    | (go_at_call 41; (with_reducible refine (e2 _).mono ?_); rintro e yf ⟨rfl, hz_⟩; have hxf : Ext v2 yf := Ext.trans ext_auto hz_)
    | (go_at_call 46; (with_reducible refine (must_point_no _ _).mono ?_); rintro e w2 ⟨rfl, h2_⟩; subst w2))
  exact ⟨rfl, rfl, hx.trans hxf⟩
set_option maxHeartbeats 16000000 in
theorem each_mid_1 (a1 d1 a2 d2 S1 S2 : Rt) (f1 : S1.pf = false) (c1 : AnsT 50 #[pV a1 d1] (.tuple #[S1.v, .int .i64 0]))
    (b T : Nat) (w : World) (hT : Tab w) (BP0 : Blk w b #[.bool a1.s, q64 (wn a1.m 0), q64 (wn a1.m 1), q64 (wn a1.m 2), q64 (wn a1.m 3), .bool a1.t, q64 (wn a1.k 0), q64 (wn a1.k 1), q64 (wn a1.k 2), q64 (wn a1.k 3), .bool d1.s, q64 (wn d1.m 0), q64 (wn d1.m 1), q64 (wn d1.m 2), q64 (wn d1.m 3), .bool d1.t, q64 (wn d1.k 0), q64 (wn d1.k 1), q64 (wn d1.k 2), q64 (wn d1.k 3), .bool a2.s, q64 (wn a2.m 0), q64 (wn a2.m 1), q64 (wn a2.m 2), q64 (wn a2.m 3), .bool a2.t, q64 (wn a2.k 0), q64 (wn a2.k 1), q64 (wn a2.k 2), q64 (wn a2.k 3), .bool d2.s, q64 (wn d2.m 0), q64 (wn d2.m 1), q64 (wn d2.m 2), q64 (wn d2.m 3), .bool d2.t, q64 (wn d2.k 0), q64 (wn d2.k 1), q64 (wn d2.k 2), q64 (wn d2.k 3)] T) :
    Calls Tryz.prog 49 #[.func (.func 50) #[] #[], .slice (some ⟨b, 0, none⟩) 2 2] w fun e w' => e = givesUp 110 ∧ Ext w w' := by
  have hx : Ext w w := Ext.refl w
  have e1 := fits_any S1
  have e2 := fits_any S2
  rw [f1] at e1
  clear f1
  obtain ⟨i0, hi, hz0, hz1, hz2⟩ := info_parts info_rat
  obtain ⟨s1, m1, t1, k1, _, _⟩ := a1
  obtain ⟨s2, m2, t2, k2, _, _⟩ := d1
  obtain ⟨s3, m3, t3, k3, _, _⟩ := a2
  obtain ⟨s4, m4, t4, k4, _, _⟩ := d2
  obtain ⟨s5, m5, t5, k5, _, _⟩ := S1
  obtain ⟨s6, m6, t6, k6, _, _⟩ := S2
  dsimp only at BP0
  have BP := BP0
  have hown := World.ownsRow_nil w w.heap.size 29 10
  have lBP := BP.lt; have cBP := BP.cell; have fBP := BP.frozen
  go_enter Tryz.func49, Tryz.ntmps49
  go_wp2
  refine wp_loop_rounds 3 ?_
  rw [rounds_succ]
  go_upto_region 3 with fail
  go_upto_region 4 with (first | ((with_reducible apply wpList_load_at Tryz.isAgg31 Tryz.sizeOf31 #[.bool s1, q64 (wn m1 0), q64 (wn m1 1), q64 (wn m1 2), q64 (wn m1 3), .bool t1, q64 (wn k1 0), q64 (wn k1 1), q64 (wn k1 2), q64 (wn k1 3), .bool s2, q64 (wn m2 0), q64 (wn m2 1), q64 (wn m2 2), q64 (wn m2 3), .bool t2, q64 (wn k2 0), q64 (wn k2 1), q64 (wn k2 2), q64 (wn k2 3)]); (case hw => (simp [go_sem, Region.wanted, yielded]; done)); (case hs => exact rfl); (case hB => exact blk_auto); (case hv => rfl); (case hc => rfl)) | ((with_reducible apply wpList_store_row info_point); (case hs => exact rfl); (case hv => exact rfl); (case hB => exact blk_auto); (case hy => rfl); (case hc => rfl); (case h1 => rfl)))
  refine wp_rebase fun v1 hv => ?_
  have hx1 : Ext w v1 := by rw [hv]; exact Ext.setRow ext_auto (by first | exact Nat.le_refl _ | simp)
  have BX : Blk v1 w.heap.size #[.bool s1, q64 (wn m1 0), q64 (wn m1 1), q64 (wn m1 2), q64 (wn m1 3), .bool t1, q64 (wn k1 0), q64 (wn k1 1), q64 (wn k1 2), q64 (wn k1 3), .bool s2, q64 (wn m2 0), q64 (wn m2 1), q64 (wn m2 2), q64 (wn m2 3), .bool t2, q64 (wn k2 0), q64 (wn k2 1), q64 (wn k2 2), q64 (wn k2 3)] 31 := by rw [hv]; exact Blk.setRowSame (Blk.new _ _ _ rfl)
  clear hv lBP cBP fBP
  replace hx := hx.trans hx1
  replace BP := BP.ext hx1
  replace hown : v1.ownsRow w.heap.size 29 10 (.slice none 0 0) 0 [] := by obtain ⟨d, rfl⟩ := hx1; exact hown.ext2 d
  clear hx1
  have lBX := BX.lt; have cBX := BX.cell; have fBX := BX.frozen
  go_upto_region 5 with (first | ((with_reducible apply wpList_load_row Tryz.isAgg31 Tryz.sizeOf31); (case hw => (simp [go_sem, Region.wanted, yielded]; done)); (case hs => exact rfl); (case hB => exact blk_auto); (case hc => rfl)) | (go_at_call 50; (with_reducible refine (c1 _ (hT.ext (hx.trans ext_auto))).mono ?_); rintro e y ⟨rfl, hz_⟩; have hxy : Ext v1 y := Ext.trans ext_auto hz_))
  refine wp_rebase fun v2 hv => ?_
  have hx2 : Ext y v2 := by rw [hv]; exact ext_auto
  have BY : Blk v2 y.heap.size #[.bool s5, q64 (wn m5 0), q64 (wn m5 1), q64 (wn m5 2), q64 (wn m5 3), .bool t5, q64 (wn k5 0), q64 (wn k5 1), q64 (wn k5 2), q64 (wn k5 3)] 29 := by rw [hv]; exact blk_auto
  clear hv lBX cBX fBX BX
  replace hx := hx.trans (hxy.trans hx2)
  replace BP := BP.ext (hxy.trans hx2)
  replace hown : v2.ownsRow w.heap.size 29 10 (.slice none 0 0) 0 [] := by obtain ⟨d, rfl⟩ := hxy.trans hx2; exact hown.ext2 d
  clear hxy hx2 hz_
  have lBY := BY.lt; have cBY := BY.cell; have fBY := BY.frozen
  go_wp2_with (first
    | (go_at_call 46; (with_reducible refine (must_point_yes _ _).mono ?_); rintro e w2 ⟨rfl, h2_⟩; subst w2)
    | (go_at_call 41; (with_reducible refine (e1 _).mono ?_); rintro e yf ⟨rfl, hz_⟩; have hxf : Ext v2 yf := Ext.trans ext_auto hz_)
    | (go_at_call 46; (with_reducible refine (must_point_no _ _).mono ?_); rintro e w2 ⟨rfl, h2_⟩; subst w2))
  exact ⟨rfl, rfl, hx.trans hxf⟩
set_option maxHeartbeats 16000000 in
theorem each_mid_2 (a1 d1 a2 d2 S1 S2 : Rt) (f1 : S1.pf = true) (f2 : S2.pf = false) (c1 : AnsT 50 #[pV a1 d1] (.tuple #[S1.v, .int .i64 0])) (c2 : AnsT 50 #[pV a2 d2] (.tuple #[S2.v, .int .i64 0]))
    (b T : Nat) (w : World) (hT : Tab w) (BP0 : Blk w b #[.bool a1.s, q64 (wn a1.m 0), q64 (wn a1.m 1), q64 (wn a1.m 2), q64 (wn a1.m 3), .bool a1.t, q64 (wn a1.k 0), q64 (wn a1.k 1), q64 (wn a1.k 2), q64 (wn a1.k 3), .bool d1.s, q64 (wn d1.m 0), q64 (wn d1.m 1), q64 (wn d1.m 2), q64 (wn d1.m 3), .bool d1.t, q64 (wn d1.k 0), q64 (wn d1.k 1), q64 (wn d1.k 2), q64 (wn d1.k 3), .bool a2.s, q64 (wn a2.m 0), q64 (wn a2.m 1), q64 (wn a2.m 2), q64 (wn a2.m 3), .bool a2.t, q64 (wn a2.k 0), q64 (wn a2.k 1), q64 (wn a2.k 2), q64 (wn a2.k 3), .bool d2.s, q64 (wn d2.m 0), q64 (wn d2.m 1), q64 (wn d2.m 2), q64 (wn d2.m 3), .bool d2.t, q64 (wn d2.k 0), q64 (wn d2.k 1), q64 (wn d2.k 2), q64 (wn d2.k 3)] T) :
    Calls Tryz.prog 49 #[.func (.func 50) #[] #[], .slice (some ⟨b, 0, none⟩) 2 2] w fun e w' => e = givesUp 110 ∧ Ext w w' := by
  have hx : Ext w w := Ext.refl w
  have e1 := fits_any S1
  have e2 := fits_any S2
  rw [f1] at e1; rw [f2] at e2
  clear f1 f2
  obtain ⟨i0, hi, hz0, hz1, hz2⟩ := info_parts info_rat
  obtain ⟨s1, m1, t1, k1, _, _⟩ := a1
  obtain ⟨s2, m2, t2, k2, _, _⟩ := d1
  obtain ⟨s3, m3, t3, k3, _, _⟩ := a2
  obtain ⟨s4, m4, t4, k4, _, _⟩ := d2
  obtain ⟨s5, m5, t5, k5, _, _⟩ := S1
  obtain ⟨s6, m6, t6, k6, _, _⟩ := S2
  dsimp only at BP0
  have BP := BP0
  have hown := World.ownsRow_nil w w.heap.size 29 10
  have lBP := BP.lt; have cBP := BP.cell; have fBP := BP.frozen
  go_enter Tryz.func49, Tryz.ntmps49
  go_wp2
  refine wp_loop_rounds 3 ?_
  rw [rounds_succ]
  go_upto_region 3 with fail
  go_upto_region 4 with (first | ((with_reducible apply wpList_load_at Tryz.isAgg31 Tryz.sizeOf31 #[.bool s1, q64 (wn m1 0), q64 (wn m1 1), q64 (wn m1 2), q64 (wn m1 3), .bool t1, q64 (wn k1 0), q64 (wn k1 1), q64 (wn k1 2), q64 (wn k1 3), .bool s2, q64 (wn m2 0), q64 (wn m2 1), q64 (wn m2 2), q64 (wn m2 3), .bool t2, q64 (wn k2 0), q64 (wn k2 1), q64 (wn k2 2), q64 (wn k2 3)]); (case hw => (simp [go_sem, Region.wanted, yielded]; done)); (case hs => exact rfl); (case hB => exact blk_auto); (case hv => rfl); (case hc => rfl)) | ((with_reducible apply wpList_store_row info_point); (case hs => exact rfl); (case hv => exact rfl); (case hB => exact blk_auto); (case hy => rfl); (case hc => rfl); (case h1 => rfl)))
  refine wp_rebase fun v1 hv => ?_
  have hx1 : Ext w v1 := by rw [hv]; exact Ext.setRow ext_auto (by first | exact Nat.le_refl _ | simp)
  have BX : Blk v1 w.heap.size #[.bool s1, q64 (wn m1 0), q64 (wn m1 1), q64 (wn m1 2), q64 (wn m1 3), .bool t1, q64 (wn k1 0), q64 (wn k1 1), q64 (wn k1 2), q64 (wn k1 3), .bool s2, q64 (wn m2 0), q64 (wn m2 1), q64 (wn m2 2), q64 (wn m2 3), .bool t2, q64 (wn k2 0), q64 (wn k2 1), q64 (wn k2 2), q64 (wn k2 3)] 31 := by rw [hv]; exact Blk.setRowSame (Blk.new _ _ _ rfl)
  clear hv lBP cBP fBP
  replace hx := hx.trans hx1
  replace BP := BP.ext hx1
  replace hown : v1.ownsRow w.heap.size 29 10 (.slice none 0 0) 0 [] := by obtain ⟨d, rfl⟩ := hx1; exact hown.ext2 d
  clear hx1
  have lBX := BX.lt; have cBX := BX.cell; have fBX := BX.frozen
  go_upto_region 5 with (first | ((with_reducible apply wpList_load_row Tryz.isAgg31 Tryz.sizeOf31); (case hw => (simp [go_sem, Region.wanted, yielded]; done)); (case hs => exact rfl); (case hB => exact blk_auto); (case hc => rfl)) | (go_at_call 50; (with_reducible refine (c1 _ (hT.ext (hx.trans ext_auto))).mono ?_); rintro e y ⟨rfl, hz_⟩; have hxy : Ext v1 y := Ext.trans ext_auto hz_))
  refine wp_rebase fun v2 hv => ?_
  have hx2 : Ext y v2 := by rw [hv]; exact ext_auto
  have BY : Blk v2 y.heap.size #[.bool s5, q64 (wn m5 0), q64 (wn m5 1), q64 (wn m5 2), q64 (wn m5 3), .bool t5, q64 (wn k5 0), q64 (wn k5 1), q64 (wn k5 2), q64 (wn k5 3)] 29 := by rw [hv]; exact blk_auto
  clear hv lBX cBX fBX BX
  replace hx := hx.trans (hxy.trans hx2)
  replace BP := BP.ext (hxy.trans hx2)
  replace hown : v2.ownsRow w.heap.size 29 10 (.slice none 0 0) 0 [] := by obtain ⟨d, rfl⟩ := hxy.trans hx2; exact hown.ext2 d
  clear hxy hx2 hz_
  have lBY := BY.lt; have cBY := BY.cell; have fBY := BY.frozen
  go_upto_region 7 with (first
    | (go_at_call 46; (with_reducible refine (must_point_yes _ _).mono ?_); rintro e w2 ⟨rfl, h2_⟩; subst w2)
    | (go_at_call 41; (with_reducible refine (e1 _).mono ?_); rintro e yf ⟨rfl, hz_⟩; have hxf : Ext v2 yf := Ext.trans ext_auto hz_; replace BY := BY.ext hxf; clear lBY cBY fBY; have lBY := BY.lt; have cBY := BY.cell; have fBY := BY.frozen))
  refine wp_rebase fun v3 hv => ?_
  have hx3 : Ext yf v3 := by rw [hv]; exact ext_auto
  clear hv
  replace hx := hx.trans (hxf.trans hx3)
  replace BP := BP.ext (hxf.trans hx3)
  replace BY := BY.ext hx3
  replace hown : v3.ownsRow w.heap.size 29 10 (.slice none 0 0) 0 [] := by obtain ⟨d, rfl⟩ := hxf.trans hx3; exact hown.ext2 d
  have hws := hx.size
  clear hxf hx3 hz_ lBY cBY fBY
  have lBY := BY.lt; have cBY := BY.cell; have fBY := BY.frozen
  go_wp2_with (at_builtin; refine wpList_append_own _ rfl (.tmp 28) (.tmp 30) 95 rfl w.heap.size 29 i0 zRv 10 80 Tryz.underlying95 hi hz0 hz1 hz2 rfl (by decide) (.slice none 0 0) 0 [] rfl (hown.alloc _) ⟨v3.heap.size, 0, none⟩ 1 1 [.bool s5, q64 (wn m5 0), q64 (wn m5 1), q64 (wn m5 2), q64 (wn m5 3), .bool t5, q64 (wn k5 0), q64 (wn k5 1), q64 (wn k5 2), q64 (wn k5 3)] rfl rfl ?c1 ?c2 ?c3 ?c4 ?c5 ?_)
  case c1 =>
    intro j u h
    have hj : j < 10 := by
      rcases Nat.lt_or_ge j 10 with h' | h'
      · exact h'
      · rw [List.getElem?_eq_none (by simpa using h')] at h; cases h
    have hadd : (⟨v3.heap.size, 0, none⟩ : Addr).add j = ⟨v3.heap.size, j, none⟩ := by unfold Addr.add; split <;> simp_all
    rw [hadd, cell_new_any]
    simpa using h
  case c2 => intro u h; simp only [List.mem_cons, List.not_mem_nil, or_false] at h; rcases h with rfl | rfl | rfl | rfl | rfl | rfl | rfl | rfl | rfl | rfl <;> rfl
  case c3 => unfold maxLen; omega
  case c4 => omega
  case c5 => simp; omega
  intro u0 v4 hown4 hgrow4 _
  have hx4 : Ext w v4 := Ext.of_below ((hx.below.alloc hws _).grown hgrow4 (by simp; omega) (fun k hk => by
    rcases hown.2 with ⟨h1, _⟩ | ⟨g, cap, cur, h1, hb, _⟩
    · rw [h1] at hk; cases hk
    · rw [h1] at hk; obtain rfl : g = k := by simpa [Value.ownBlock] using hk
      exact hb))
  replace hx := hx4
  replace BP := BP0.ext hx
  replace hown := hown4
  clear hown4 hgrow4 hx4 BY lBY cBY fBY hws
  have lBP := BP.lt; have cBP := BP.cell; have fBP := BP.frozen
  go_wp2
  rw [rounds_succ]
  go_upto_region 3 with fail
  go_upto_region 4 with (first | ((with_reducible apply wpList_load_at Tryz.isAgg31 Tryz.sizeOf31 #[.bool s3, q64 (wn m3 0), q64 (wn m3 1), q64 (wn m3 2), q64 (wn m3 3), .bool t3, q64 (wn k3 0), q64 (wn k3 1), q64 (wn k3 2), q64 (wn k3 3), .bool s4, q64 (wn m4 0), q64 (wn m4 1), q64 (wn m4 2), q64 (wn m4 3), .bool t4, q64 (wn k4 0), q64 (wn k4 1), q64 (wn k4 2), q64 (wn k4 3)]); (case hw => (simp [go_sem, Region.wanted, yielded]; done)); (case hs => exact rfl); (case hB => exact blk_auto); (case hv => rfl); (case hc => rfl)) | ((with_reducible apply wpList_store_row info_point); (case hs => exact rfl); (case hv => exact rfl); (case hB => exact blk_auto); (case hy => rfl); (case hc => rfl); (case h1 => rfl)))
  refine wp_rebase fun v1 hv => ?_
  have hx1 : Ext v4 v1 := by rw [hv]; exact Ext.setRow ext_auto (by first | exact Nat.le_refl _ | simp)
  have BX : Blk v1 v4.heap.size #[.bool s3, q64 (wn m3 0), q64 (wn m3 1), q64 (wn m3 2), q64 (wn m3 3), .bool t3, q64 (wn k3 0), q64 (wn k3 1), q64 (wn k3 2), q64 (wn k3 3), .bool s4, q64 (wn m4 0), q64 (wn m4 1), q64 (wn m4 2), q64 (wn m4 3), .bool t4, q64 (wn k4 0), q64 (wn k4 1), q64 (wn k4 2), q64 (wn k4 3)] 31 := by rw [hv]; exact Blk.setRowSame (Blk.new _ _ _ rfl)
  clear hv lBP cBP fBP
  replace hx := hx.trans hx1
  replace BP := BP.ext hx1
  replace hown : v1.ownsRow w.heap.size 29 10 u0 1 ([] ++ [.bool s5, q64 (wn m5 0), q64 (wn m5 1), q64 (wn m5 2), q64 (wn m5 3), .bool t5, q64 (wn k5 0), q64 (wn k5 1), q64 (wn k5 2), q64 (wn k5 3)]) := by obtain ⟨d, rfl⟩ := hx1; exact hown.ext2 d
  clear hx1
  have lBX := BX.lt; have cBX := BX.cell; have fBX := BX.frozen
  go_upto_region 5 with (first | ((with_reducible apply wpList_load_row Tryz.isAgg31 Tryz.sizeOf31); (case hw => (simp [go_sem, Region.wanted, yielded]; done)); (case hs => exact rfl); (case hB => exact blk_auto); (case hc => rfl)) | (go_at_call 50; (with_reducible refine (c2 _ (hT.ext (hx.trans ext_auto))).mono ?_); rintro e y ⟨rfl, hz_⟩; have hxy : Ext v1 y := Ext.trans ext_auto hz_))
  refine wp_rebase fun v2 hv => ?_
  have hx2 : Ext y v2 := by rw [hv]; exact ext_auto
  have BY : Blk v2 y.heap.size #[.bool s6, q64 (wn m6 0), q64 (wn m6 1), q64 (wn m6 2), q64 (wn m6 3), .bool t6, q64 (wn k6 0), q64 (wn k6 1), q64 (wn k6 2), q64 (wn k6 3)] 29 := by rw [hv]; exact blk_auto
  clear hv lBX cBX fBX BX
  replace hx := hx.trans (hxy.trans hx2)
  replace BP := BP.ext (hxy.trans hx2)
  replace hown : v2.ownsRow w.heap.size 29 10 u0 1 ([] ++ [.bool s5, q64 (wn m5 0), q64 (wn m5 1), q64 (wn m5 2), q64 (wn m5 3), .bool t5, q64 (wn k5 0), q64 (wn k5 1), q64 (wn k5 2), q64 (wn k5 3)]) := by obtain ⟨d, rfl⟩ := hxy.trans hx2; exact hown.ext2 d
  clear hxy hx2 hz_
  have lBY := BY.lt; have cBY := BY.cell; have fBY := BY.frozen
  go_wp2_with (first
    | (go_at_call 46; (with_reducible refine (must_point_yes _ _).mono ?_); rintro e w2 ⟨rfl, h2_⟩; subst w2)
    | (go_at_call 41; (with_reducible refine (e2 _).mono ?_); rintro e yf ⟨rfl, hz_⟩; have hxf : Ext v2 yf := Ext.trans ext_auto hz_)
    | (go_at_call 46; (with_reducible refine (must_point_no _ _).mono ?_); rintro e w2 ⟨rfl, h2_⟩; subst w2))
  exact ⟨rfl, rfl, hx.trans hxf⟩
end Go.Proofs.YtmopgcbhmkemjaaGreatDoor
