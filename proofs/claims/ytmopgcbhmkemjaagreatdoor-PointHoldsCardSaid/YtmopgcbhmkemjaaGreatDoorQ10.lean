/- No Int's text: a byte that is no digit behind the first. What the conditions give: the table's cells; arguments by their types. Arguments by their types: words. -/
import Derived.Test.YtmopgcbhmkemjaaGreatDoorProg
import Derived.Test.YtmopgcbhmkemjaaGreatDoorQ09
import Derived.Test.YtmopgcbhmkemjaaGreatDoorTie
import Derived.Test.YtmopgcbhmkemjaaGreatDoorQ03
import Derived.Test.YtmopgcbhmkemjaaGreatDoorQ01
import Derived.ProofKit
import Derived.LaidMore
import Derived.OpenShut
import Derived.OpenVars
import Derived.MakeChecks
import Derived.Stop.Joined
namespace Go.Proofs.YtmopgcbhmkemjaaGreatDoor
open Go Go.RowKit
set_option linter.unusedSimpArgs false
set_option linter.unusedVariables false
set_option maxRecDepth 100000

theorem conv_raw (bs : ByteArray) (n : Nat) (hz : bs.size = n) (w : World) :
    ∃ cap W, (convert 9 175 (.string bs)).run Tryz.prog w = .ok (.slice (some ⟨w.heap.size, 0, none⟩) n cap) W ∧ Ext w W ∧ (∀ i c, bs.data[i]? = some c → W.cell? ⟨w.heap.size, i, none⟩ = some (.int .u8 (c.toNat : Int))) ∧ W.heap.size = w.heap.size + 1 ∧ n ≤ cap := by
  have hcap := grownCap_ge w n 0 5
  have h := run_bytes_of_string (P := Tryz.prog) w 9 175 5 bs Tryz.underlying9 Tryz.underlying175 Tryz.underlying5
  rw [hz] at h
  generalize grownCap w n 0 5 = cap at *
  have hrow : ∀ (i : Nat) (c : UInt8), bs.data[i]? = some c → (bytesRow bs cap)[i]? = some (Value.int .u8 (c.toNat : Int)) := fun i c hc => by
    have hi : i < bs.data.size := by
      rcases Nat.lt_or_ge i bs.data.size with h | h
      · exact h
      · rw [Array.getElem?_eq_none h] at hc; cases hc
    unfold bytesRow
    rw [Array.getElem?_append_left (by simpa using hi), Array.getElem?_map, hc]; rfl
  refine ⟨cap, _, h, Ext.of_below (Below.alloc (Below.drew (Below.refl _ w)) (Nat.le_refl _) _), fun i c hc => (cell_new_any w.drew _ _ _ _).trans (hrow i c hc), by simp [World.alloc], hcap⟩
theorem isdig_yes (c : Nat) (h1 : c < 48) (w : World) :
    Calls Tryz.prog 129 #[.int .u8 (c : Int)] w fun e w' => e = .returned (.bool true) ∧ w' = w := by
  have e1 : decide ((c : Int) < 48) = true := by simp; omega
  go_enter Tryz.func129, Tryz.ntmps129
  go_wp2
  go_ret
  exact ⟨rfl, rfl⟩
set_option maxHeartbeats 4000000 in
theorem indexFunc_at1 (b cap n c0 c1 : Nat) (hn : 2 ≤ n) (hn2 : n ≤ 1000) (h0 : 48 ≤ c0) (h9 : c0 ≤ 57) (h1 : c1 < 48) (w : World) (hb : b < w.heap.size) (hc0 : w.cell? ⟨b, 0, none⟩ = some (.int .u8 (c0 : Int))) (hc1 : w.cell? ⟨b, 1, none⟩ = some (.int .u8 (c1 : Int))) :
    Calls Tryz.prog 155 #[.slice (some ⟨b, 0, none⟩) n cap, .func (.func 129) #[] #[]] w fun e w' => e = .returned (.int .i64 1) ∧ w' = w := by
  have q0 := isdig_no c0 h0 h9
  have q1 := isdig_yes c1 h1
  have hi0 : (0 : Int) < n := by omega
  have hi1 : (1 : Int) < n := by omega
  have hn0 : 0 < n := by omega
  have hn1 : 1 < n := by omega
  clear h0 h9 h1
  go_enter Tryz.func155, Tryz.ntmps155
  go_wp2
  refine wp_loop_rounds 2 ?_
  iterate 2
    rw [rounds_succ]
    go_wp2_with (first | (go_at_call 129; (with_reducible refine (q0 _).mono ?_); rintro e w' ⟨rfl, rfl⟩) | (go_at_call 129; (with_reducible refine (q1 _).mono ?_); rintro e w' ⟨rfl, rfl⟩))
  go_ret
  exact ⟨rfl, rfl⟩
theorem contains_at1 (b cap n c0 c1 : Nat) (hn : 2 ≤ n) (hn2 : n ≤ 1000) (h0 : 48 ≤ c0) (h9 : c0 ≤ 57) (h1 : c1 < 48) (w : World) (hb : b < w.heap.size) (hc0 : w.cell? ⟨b, 0, none⟩ = some (.int .u8 (c0 : Int))) (hc1 : w.cell? ⟨b, 1, none⟩ = some (.int .u8 (c1 : Int))) :
    Calls Tryz.prog 128 #[.slice (some ⟨b, 0, none⟩) n cap, .func (.func 129) #[] #[]] w fun e w' => e = .returned (.bool true) ∧ w' = w := by
  have c := indexFunc_at1 b cap n c0 c1 hn hn2 h0 h9 h1 w hb hc0 hc1
  go_enter Tryz.func128, Tryz.ntmps128
  go_wp2_with (go_at_call 155; refine c.mono ?_; rintro e w' ⟨rfl, rfl⟩)
  go_ret
  exact ⟨rfl, rfl⟩
set_option maxHeartbeats 4000000 in
/-- A text that begins by a digit other than 0, and goes on by what is none. -/
theorem Parse_none (bs : ByteArray) (n c0 c1 : Nat) (hz : bs.size = n) (hn : 2 ≤ n) (hn2 : n ≤ 1000) (h0 : 49 ≤ c0) (h9 : c0 ≤ 57) (h1 : c1 < 48) (b0 : bs.data[0]? = some (UInt8.ofNat c0)) (b1 : bs.data[1]? = some (UInt8.ofNat c1)) (w : World) :
    Calls Tryz.prog 97 #[.string bs] w fun e w' => e = .returned (.tuple #[intV false 0, .int .i64 111]) ∧ Ext w w' := by
  have hmf : ∀ (fn : Fn) (first cap : Array Value) (w : World), (Instr.makeFunc fn first cap).run Tryz.prog w = .ok (.func fn first cap) w := fun _ _ _ _ => rfl
  obtain ⟨cap, W, hcv, hxW, HD, hsz, _⟩ := conv_raw bs n hz ((w.alloc (.cells #[.bool false, .int .u64 0, .int .u64 0, .int .u64 0, .int .u64 0] 27)).alloc (.cells #[.int .i64 0] 33))
  have BO : Blk W w.heap.size #[.bool false, .int .u64 0, .int .u64 0, .int .u64 0, .int .u64 0] 27 := Blk.ext blk_auto hxW
  have BE : Blk W (w.heap.size + 1) #[.int .i64 0] 33 := Blk.ext blk_auto hxW
  have hx : Ext w W := Ext.trans ext_auto hxW
  have hc0 := HD 0 _ b0
  have hc1 := HD 1 _ b1
  rw [show ((UInt8.ofNat c0).toNat : Int) = (c0 : Int) by rw [UInt8.toNat_ofNat']; omega] at hc0
  rw [show ((UInt8.ofNat c1).toNat : Int) = (c1 : Int) by rw [UInt8.toNat_ofNat']; omega] at hc1
  simp only [World.size_alloc] at hcv hc0 hc1 hsz
  have hb : w.heap.size + 1 + 1 < W.heap.size := by omega
  have CN := fun (h : w.heap.size + 1 + 1 < W.heap.size) => contains_at1 (w.heap.size + 1 + 1) cap n c0 c1 hn hn2 (by omega) h9 h1 W h hc0 hc1
  have e1 : ((c0 : Int) == 45) = false := by simp only [beq_eq_false_iff_ne]; omega
  have e2 : ((c0 : Int) != 48) = true := by simp only [bne_iff_ne]; omega
  have hn1 : 0 < (n : Int) := by omega
  have hnn : (n : Int) ≤ 1000 := by omega
  have HB := Lib.hid hn2
  clear hn2 hz
  generalize (c0 : Int) = x0 at *
  clear HD hc1 h0 h9 h1 b0 b1 hn
  have lBO := BO.lt; have cBO := BO.cell; have fBO := BO.frozen; have lBE := BE.lt; have cBE := BE.cell; have fBE := BE.frozen
  go_enter_defers Tryz.func97, Tryz.ntmps97
  go_wp2_with (first | (go_at_call 127; (with_reducible refine (must_yes _ _).mono ?_); rintro e w' ⟨rfl, rfl⟩) | (go_at_call 128; (with_reducible refine (CN hb).mono ?_); rintro e w' ⟨rfl, rfl⟩) | (go_at_call 127; (with_reducible refine (must_no _ _).mono ?_); rintro e w' ⟨rfl, rfl⟩))
  refine leaves_limb_pan 0 111 126 _ (by simp [cBE, BE.cell]) (BE.frozen 0) (fun _ _ => by kernel_rfl) ?_
  refine (Parse_clear _ _ _ _ _ _ _ (BO.setOther (by omega))).mono ?_
  rintro e' u ⟨rfl, hu⟩
  have hy : Ext w u := by rw [hu]; exact ext_auto
  have BF : Blk u w.heap.size #[.bool false, .int .u64 0, .int .u64 0, .int .u64 0, .int .u64 0] 27 := by rw [hu]; exact blk_auto
  have BG : Blk u (w.heap.size + 1) #[.int .i64 111] 33 := by rw [hu]; exact blk_auto
  clear hu
  have lBF := BF.lt; have cBF := BF.cell; have fBF := BF.frozen; have lBG := BG.lt; have cBG := BG.cell; have fBG := BG.frozen; clear BF BG
  have e0 : intV false 0 = .agg #[.bool false, .int .u64 0, .int .u64 0, .int .u64 0, .int .u64 0] := by simp [wn_zero]
  refine ⟨rfl, .tuple #[intV false 0, .int .i64 111], ?_, rfl, hy⟩
  rw [e0]
  simp [results, Tryz.results97, go_sem, cBF, cBG]
end Go.Proofs.YtmopgcbhmkemjaaGreatDoor

namespace Go.Proofs.YtmopgcbhmkemjaaGreatDoor
open Go Go.ChangeShapes Go.WideShapes Go.RowKit
set_option linter.unusedSimpArgs false
set_option linter.unusedVariables false
set_option maxRecDepth 100000

theorem law_own : ownKnob Tryz.prog.godebug = none := by kernel_rfl
theorem law_laidOut : laidOutB Tryz.prog = true := by kernel_rfl
theorem law_gTab : Tryz.prog.globalNamed "math/bits.deBruijn64tab" = some 1 := by kernel_rfl
abbrev lawLaid : List (String × DataW Unit) := [("math/bits.deBruijn64tab", Rows.laid_math_bits_deBruijn64tab)]
theorem door_met (os : Os) (args : Array Value) : laidMetH Tryz.prog lawLaid ((World.doorLaid Tryz.prog 400 os).forCall (fun _ _ => 0) ⟨#[], args, []⟩).memory :=
  laidMetH_of_parts3 (fuel := 8) (laidMet_of_run' 8 (by kernel_rfl) (by kernel_rfl)) (by kernel_rfl) (by kernel_rfl)
theorem tabType : ∃ e, Tryz.prog.underlying ((Tryz.prog.globals[1]?).map (·.type) |>.getD 0) = some (.array 64 e) ∧ Tryz.prog.underlying e = some (.int .u8) ∧ Tryz.prog.cellsOf e = 1 := ⟨5, by kernel_rfl, by kernel_rfl, by kernel_rfl⟩
theorem datum_tab : (Rows.laid_math_bits_deBruijn64tab : DataW Unit) = .agg (Lib.deBruijn64tab.map fun (n : Nat) => .lit (.int .u8 (n : Int))) := by
  simp [Rows.laid_math_bits_deBruijn64tab, Lib.deBruijn64tab]
theorem tab_of_laid {W : World} (h : laidMetH Tryz.prog lawLaid W) : Tab W := by
  rw [MakeChecks.laidMetH_plain _ _ _ (by kernel_rfl)] at h
  obtain ⟨ps, ⟨g0, t0, cs0, f0, p0, q0, hg0, ht0, hv0, hd0, _⟩, _, _⟩ := h
  obtain rfl := Option.some.inj (law_gTab.symm.trans hg0)
  obtain ⟨e, he, hu, hc⟩ := tabType
  rw [ht0, Option.getD_some] at he
  obtain ⟨xs, m, rfl, hx, hlen, hn, hel⟩ := DataW.trod_array he hd0
  rw [datum_tab] at hx
  simp only [Prod.mk.injEq, DataW.agg.injEq] at hx
  intro j hj
  have hj64 : j < 64 := hj
  have h1 := hel j hj64
  rw [hc, Nat.mul_one] at h1
  have hjx : j < xs.length := by omega
  rw [List.getElem?_eq_getElem hjx] at h1
  obtain ⟨k, e1, e2, _⟩ := DataW.trod_int hu h1
  have h3 : (Lib.deBruijn64tab.map fun (n : Nat) => (DataW.lit (.int .u8 (n : Int)) : DataW Unit))[j]? = some (xs[j].1) := by
    rw [hx.1, List.getElem?_map, List.getElem?_eq_getElem hjx]; rfl
  have hcell := World.var?_cell hg0 hv0 j
  have h4 : cs0.toList[j]? = some (.int .u8 k) := by
    have := congrArg (·[0]?) e1
    simpa [List.getElem?_take, List.getElem?_drop] using this
  rw [e2] at h3
  have hjt : j < Lib.deBruijn64tab.length := hj
  rw [List.getElem?_map, List.getElem?_eq_getElem hjt] at h3
  have h5 : ((Lib.deBruijn64tab[j] : Nat) : Int) = k := by simpa using h3
  rw [hcell]
  have h6 : cs0[j]? = some (.int .u8 k) := by simpa using h4
  rw [h6, ← h5]
  simp [List.getD_eq_getElem?_getD, hjt]
theorem cell_u64 {W : World} {b : Nat} {v : Value} (h : Cell.okWide Tryz.prog W .any b 24 v) : ∃ n : Nat, n < B ∧ v = q64 n := by
  simp only [Cell.okWide, Tryz.underlying24] at h
  cases v <;> simp only [Cell.ok, Tryz.underlying24] at h
  rename_i k n
  obtain ⟨rfl, h1, h2⟩ := h
  refine ⟨n.toNat, ?_, ?_⟩
  · rw [B_eq]; rw [show IntKind.u64.min = 0 by decide] at h1; rw [show IntKind.u64.max = 18446744073709551615 by decide] at h2; omega
  · rw [show IntKind.u64.min = 0 by decide] at h1; simp [q64]; omega
theorem cell_i64 {W : World} {b : Nat} {v : Value} (h : Cell.okWide Tryz.prog W .any b 2 v) : ∃ n : Int, -9223372036854775808 ≤ n ∧ n ≤ 9223372036854775807 ∧ v = .int .i64 n := by
  simp only [Cell.okWide, Tryz.underlying2] at h
  cases v <;> simp only [Cell.ok, Tryz.underlying2] at h
  rename_i k n
  obtain ⟨rfl, h1, h2⟩ := h
  rw [show IntKind.i64.min = -9223372036854775808 by decide] at h1
  rw [show IntKind.i64.max = 9223372036854775807 by decide] at h2
  exact ⟨n, h1, h2, rfl⟩
theorem cell_bool {W : World} {b : Nat} {v : Value} (h : Cell.okWide Tryz.prog W .any b 4 v) : ∃ s : Bool, v = .bool s := by
  simp only [Cell.okWide, Tryz.underlying4] at h
  cases v <;> simp only [Cell.ok, Tryz.underlying4] at h
  exact ⟨_, rfl⟩
theorem mag_of {x0 x1 x2 x3 : Nat} (h0 : x0 < B) (h1 : x1 < B) (h2 : x2 < B) (h3 : x3 < B) : ∃ m, m < B4 ∧ x0 = wn m 0 ∧ x1 = wn m 1 ∧ x2 = wn m 2 ∧ x3 = wn m 3 := by
  obtain ⟨e0, e1, e2, e3⟩ := wn_num4 h0 h1 h2 h3
  exact ⟨num4 x0 x1 x2 x3, num4_lt h0 h1 h2 h3, e0.symm, e1.symm, e2.symm, e3.symm⟩
theorem arr10 {cs : Array Value} (h : cs.size = 10) : ∃ c0 c1 c2 c3 c4 c5 c6 c7 c8 c9, cs = #[c0, c1, c2, c3, c4, c5, c6, c7, c8, c9] := by
  obtain ⟨l⟩ := cs
  match l, h with
  | [c0, c1, c2, c3, c4, c5, c6, c7, c8, c9], _ => exact ⟨_, _, _, _, _, _, _, _, _, _, rfl⟩
theorem arr5 {cs : Array Value} (h : cs.size = 5) : ∃ c0 c1 c2 c3 c4, cs = #[c0, c1, c2, c3, c4] := by
  obtain ⟨l⟩ := cs
  match l, h with
  | [c0, c1, c2, c3, c4], _ => exact ⟨_, _, _, _, _, rfl⟩
theorem at_row {W : World} {b : Nat} {ts : List TypeId} {cs : Array Value} (h : ∀ i v, cs[i]? = some v → ∃ u, ts[i % ts.length]? = some u ∧ Cell.okWide Tryz.prog W .any b u v) (i : Nat) (u : TypeId) (v : Value) (hi : i < ts.length) (ht : ts[i]? = some u) (hv : cs[i]? = some v) : Cell.okWide Tryz.prog W .any b u v := by
  obtain ⟨u', h1, h2⟩ := h i v hv
  rw [Nat.mod_eq_of_lt hi, ht] at h1
  cases h1; exact h2
theorem rat_arg {W : World} {b : Nat} {v : Value} (h : Value.okWide Tryz.prog W .any b 29 v) : ∃ r : Rt, v = r.v := by
  have hu : ∃ fs, Tryz.prog.underlying 29 = some (.struct fs) := ⟨_, Tryz.underlying29⟩
  obtain ⟨fs, hu⟩ := hu
  simp only [Value.okWide, hu] at h
  obtain ⟨cs, rfl, hsz, ts, hts, _, hall⟩ := h
  obtain rfl := Option.some.inj ((show Tryz.prog.cellTypes Tryz.prog.depth 29 = some [4, 24, 24, 24, 24, 4, 24, 24, 24, 24] by kernel_rfl).symm.trans hts)
  obtain ⟨c0, c1, c2, c3, c4, c5, c6, c7, c8, c9, rfl⟩ := arr10 (hsz.trans (show Tryz.prog.cellsOf 29 = 10 by kernel_rfl))
  obtain ⟨s, rfl⟩ := cell_bool (at_row hall 0 _ _ (by simp) rfl rfl)
  obtain ⟨x0, b0, rfl⟩ := cell_u64 (at_row hall 1 _ _ (by simp) rfl rfl)
  obtain ⟨x1, b1, rfl⟩ := cell_u64 (at_row hall 2 _ _ (by simp) rfl rfl)
  obtain ⟨x2, b2, rfl⟩ := cell_u64 (at_row hall 3 _ _ (by simp) rfl rfl)
  obtain ⟨x3, b3, rfl⟩ := cell_u64 (at_row hall 4 _ _ (by simp) rfl rfl)
  obtain ⟨t, rfl⟩ := cell_bool (at_row hall 5 _ _ (by simp) rfl rfl)
  obtain ⟨y0, d0, rfl⟩ := cell_u64 (at_row hall 6 _ _ (by simp) rfl rfl)
  obtain ⟨y1, d1, rfl⟩ := cell_u64 (at_row hall 7 _ _ (by simp) rfl rfl)
  obtain ⟨y2, d2, rfl⟩ := cell_u64 (at_row hall 8 _ _ (by simp) rfl rfl)
  obtain ⟨y3, d3, rfl⟩ := cell_u64 (at_row hall 9 _ _ (by simp) rfl rfl)
  obtain ⟨m, hm, rfl, rfl, rfl, rfl⟩ := mag_of b0 b1 b2 b3
  obtain ⟨k, hk, rfl, rfl, rfl, rfl⟩ := mag_of d0 d1 d2 d3
  exact ⟨⟨s, m, t, k, hm, hk⟩, rfl⟩
theorem int_arg {W : World} {b : Nat} {v : Value} (h : Value.okWide Tryz.prog W .any b 27 v) : ∃ s m, m < B4 ∧ v = intV s m := by
  have hu : ∃ fs, Tryz.prog.underlying 27 = some (.struct fs) := ⟨_, Tryz.underlying27⟩
  obtain ⟨fs, hu⟩ := hu
  simp only [Value.okWide, hu] at h
  obtain ⟨cs, rfl, hsz, ts, hts, _, hall⟩ := h
  obtain rfl := Option.some.inj ((show Tryz.prog.cellTypes Tryz.prog.depth 27 = some [4, 24, 24, 24, 24] by kernel_rfl).symm.trans hts)
  obtain ⟨c0, c1, c2, c3, c4, rfl⟩ := arr5 (hsz.trans (show Tryz.prog.cellsOf 27 = 5 by kernel_rfl))
  obtain ⟨s, rfl⟩ := cell_bool (at_row hall 0 _ _ (by simp) rfl rfl)
  obtain ⟨x0, b0, rfl⟩ := cell_u64 (at_row hall 1 _ _ (by simp) rfl rfl)
  obtain ⟨x1, b1, rfl⟩ := cell_u64 (at_row hall 2 _ _ (by simp) rfl rfl)
  obtain ⟨x2, b2, rfl⟩ := cell_u64 (at_row hall 3 _ _ (by simp) rfl rfl)
  obtain ⟨x3, b3, rfl⟩ := cell_u64 (at_row hall 4 _ _ (by simp) rfl rfl)
  obtain ⟨m, hm, rfl, rfl, rfl, rfl⟩ := mag_of b0 b1 b2 b3
  exact ⟨s, m, hm, rfl⟩
end Go.Proofs.YtmopgcbhmkemjaaGreatDoor

namespace Go.Proofs.YtmopgcbhmkemjaaGreatDoor
open Go Go.ChangeShapes Go.WideShapes Go.RowKit
set_option linter.unusedSimpArgs false
set_option linter.unusedVariables false
set_option maxRecDepth 100000

theorem i64_arg {W : World} {b : Nat} {v : Value} (h : Value.okWide Tryz.prog W .any b 2 v) : ∃ z : Int, -9223372036854775808 ≤ z ∧ z ≤ 9223372036854775807 ∧ v = .int .i64 z := by
  simp only [Value.okWide, Tryz.underlying2] at h
  exact cell_i64 h
end Go.Proofs.YtmopgcbhmkemjaaGreatDoor
