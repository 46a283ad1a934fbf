/- A wide struct loaded in one step. point.Cmp. Digits to the base 2^16, the lowest ahead; plain. The references' numbers: slices of digits; at, cut, of. The references' numbers: which magnitude is less. Regions that draw their order: loads and plain operations beside a chain of calls that make memory. The loads' values do not hang on when they are made. The rule for such regions, and its steps. The references' numbers: the order, the sign, the other sign. Digits to the base 2^16: sums and differences; plain (as Num, to another base). The references' numbers: sums and differences of magnitudes. -/
import Derived.Test.YtmopgcbhmkemjaaGreatDoorProg
import Derived.Test.YtmopgcbhmkemjaaGreatDoorQ02
import Derived.Laws.Cells
import Derived.Laws.Tables
import Derived.Laws.CopyOwn
import Derived.Test.YtmopgcbhmkemjaaGreatDoorQ04
import Derived.Test.YtmopgcbhmkemjaaGreatDoorQ03
import Derived.OwnWalk
namespace Go.Proofs.YtmopgcbhmkemjaaGreatDoor
open Go Go.RowKit
set_option linter.unusedSimpArgs false
set_option linter.unusedVariables false

theorem Blk.loads {P : Program} {W : World} {b : Nat} {cs : Array Value} {T : TypeId} (h : Blk W b cs T) : (loadCells ⟨b, 0, none⟩ cs.size).run P W = .ok cs W := by
  have := run_loadCells_list (P := P) W ⟨b, 0, none⟩ cs.toList (fun j v hj => by
    have hadd : (⟨b, 0, none⟩ : Addr).add j = ⟨b, j, none⟩ := by unfold Addr.add; split <;> simp_all
    rw [hadd, h.cell]; simpa using hj)
  simpa using this
theorem wpList_load_row {P : Program} {ops : Array Oper} {rest : List Oper} {d : Option Tmp} {ty t : TypeId} {pos : String} {af : Array Edge} {a : Act} {Q : Exit → Act → World → Prop} {W : World} {k : Tmp} {b : Nat} {cs : Array Value} {T : TypeId} {n : Nat}
    {gd : Option (Nat × Bool)} (hA : ∀ w, (isAgg t).run P w = .ok true w) (hS : ∀ w, (sizeOf t).run P w = .ok n w)
    (hw : Region.wanted { dst := d, op := .load t (.tmp k), type := ty, pos := pos, after := af, guard := gd } (yielded ops a.tmps) = true) (hs : a.eval (.tmp k) = .pointer (some ⟨b, 0, none⟩)) (hB : Blk W b cs T) (hc : cs.size = n) (h : wpList P ops Q rest (a.put d (.agg cs)) W) :
    wpList P ops Q ({ dst := d, op := .load t (.tmp k), type := ty, pos := pos, after := af, guard := gd } :: rest) a W := by
  refine wpList_step fun K hK => ?_
  rw [if_pos hw]
  have hL := hB.loads (P := P)
  rw [hc] at hL
  unfold Oper.wp execOp
  simp only [hs, Instr.loadAt, Instr.sureAddr, loadVar, Sem.run_bind, Sem.run_pure, Result.andThen_ok, hA, hS, hL, if_true, Oper.upon_value]
  exact hK _ _ h
theorem Blk.setRowSame {W : World} {b : Nat} {ys cs : Array Value} {T : TypeId} (h : Blk W b ys T) : Blk (W.setRow b cs) b cs T := setRow_heap W b ys cs T (0, 0) h
theorem Blk.setRowOther {W : World} {b b' : Nat} {ys cs : Array Value} {T : TypeId} (h : Blk W b ys T) (hne : b ≠ b') : Blk (W.setRow b' cs) b ys T := (setRow_other W b' b cs hne).trans h
theorem Ext.setRow {w W : World} {b : Nat} {cs : Array Value} (h : Ext w W) (hb : w.heap.size ≤ b) : Ext w (W.setRow b cs) := Ext.of_below (below_setRow h.below hb cs)
theorem wp_store_row {P : Program} {d : Option Tmp} {ty t : TypeId} {pos : String} {af : Array Edge} {gd : Option (Nat × Bool)} {a : Act} {K : Act → World → Prop} {Q : Exit → Act → World → Prop} {W : World} {k : Tmp} {x : Operand} {b n : Nat} {ys cs : Array Value} {T : TypeId}
    (hi : (P.info? t).map (·.size) = some n) (hs : a.eval (.tmp k) = .pointer (some ⟨b, 0, none⟩)) (hv : a.eval x = .agg cs) (hB : Blk W b ys T) (hy : ys.size = n) (hc : cs.size = n) (h1 : cs.toList.all (·.oneCell') = true)
    (h : K (a.put d undef) (W.setRow b cs)) :
    ({ dst := d, op := .store t (.tmp k) x, type := ty, pos := pos, after := af, guard := gd } : Oper).wp P a W K Q := by
  have hL := run_storeVar_row (P := P) W b T t ys cs hB (by rw [hc]; exact hi) (by omega) (by rw [← Array.all_toList]; exact h1)
  unfold Oper.wp execOp
  simp only [hs, hv, Instr.storeAt, Instr.sureAddr, Sem.run_bind, Sem.run_pure, Result.andThen_ok, hL, Oper.upon_skip]
  exact h
theorem wp_load_row {P : Program} {d : Option Tmp} {ty t : TypeId} {pos : String} {af : Array Edge} {gd : Option (Nat × Bool)} {a : Act} {K : Act → World → Prop} {Q : Exit → Act → World → Prop} {W : World} {k : Tmp} {b : Nat} {cs : Array Value} {T : TypeId} {n : Nat}
    (hA : ∀ w, (isAgg t).run P w = .ok true w) (hS : ∀ w, (sizeOf t).run P w = .ok n w) (hs : a.eval (.tmp k) = .pointer (some ⟨b, 0, none⟩)) (hB : Blk W b cs T) (hc : cs.size = n) (h : K (a.put d (.agg cs)) W) :
    ({ dst := d, op := .load t (.tmp k), type := ty, pos := pos, after := af, guard := gd } : Oper).wp P a W K Q := by
  have hL := hB.loads (P := P)
  rw [hc] at hL
  unfold Oper.wp execOp
  simp only [hs, Instr.loadAt, Instr.sureAddr, loadVar, Sem.run_bind, Sem.run_pure, Result.andThen_ok, hA, hS, hL, if_true, Oper.upon_value]
  exact h
theorem wpList_store_row {P : Program} {ops : Array Oper} {rest : List Oper} {d : Option Tmp} {ty t : TypeId} {pos : String} {af : Array Edge} {a : Act} {Q : Exit → Act → World → Prop} {W : World} {k : Tmp} {x : Operand} {b n : Nat} {ys cs : Array Value} {T : TypeId}
    (hi : (P.info? t).map (·.size) = some n) (hs : a.eval (.tmp k) = .pointer (some ⟨b, 0, none⟩)) (hv : a.eval x = .agg cs) (hB : Blk W b ys T) (hy : ys.size = n) (hc : cs.size = n) (h1 : cs.toList.all (·.oneCell') = true)
    (h : wpList P ops Q rest (a.put d undef) (W.setRow b cs)) :
    wpList P ops Q ({ dst := d, op := .store t (.tmp k) x, type := ty, pos := pos, after := af, guard := none } :: rest) a W := by
  refine wpList_plain rfl fun K hK => ?_
  have hL := run_storeVar_row (P := P) W b T t ys cs hB (by rw [hc]; exact hi) (by omega) (by rw [← Array.all_toList]; exact h1)
  unfold Oper.wp execOp
  simp only [hs, hv, Instr.storeAt, Instr.sureAddr, Sem.run_bind, Sem.run_pure, Result.andThen_ok, hL, Oper.upon_skip]
  exact hK _ _ h
/-- The same from a place within a block. -/
theorem wpList_load_at {P : Program} {ops : Array Oper} {rest : List Oper} {d : Option Tmp} {ty t : TypeId} {pos : String} {af : Array Edge} {a : Act} {Q : Exit → Act → World → Prop} {W : World} {k : Tmp} {b o : Nat} {cs : Array Value} {T : TypeId} {n : Nat}
    {gd : Option (Nat × Bool)} (hA : ∀ w, (isAgg t).run P w = .ok true w) (hS : ∀ w, (sizeOf t).run P w = .ok n w) (vs : Array Value)
    (hw : Region.wanted { dst := d, op := .load t (.tmp k), type := ty, pos := pos, after := af, guard := gd } (yielded ops a.tmps) = true) (hs : a.eval (.tmp k) = .pointer (some ⟨b, o, none⟩)) (hB : Blk W b cs T) (hv : (cs.toList.drop o).take n = vs.toList) (hc : vs.size = n) (h : wpList P ops Q rest (a.put d (.agg vs)) W) :
    wpList P ops Q ({ dst := d, op := .load t (.tmp k), type := ty, pos := pos, after := af, guard := gd } :: rest) a W := by
  refine wpList_step fun K hK => ?_
  rw [if_pos hw]
  have hL := run_loadCells_list (P := P) W ⟨b, o, none⟩ vs.toList (fun j v hj => by
    have hadd : (⟨b, o, none⟩ : Addr).add j = ⟨b, o + j, none⟩ := by unfold Addr.add; split <;> simp_all
    rw [hadd, hB.cell]
    rw [← hv] at hj
    have hj2 : j < n := by
      rcases Nat.lt_or_ge j n with h | h
      · exact h
      · rw [List.getElem?_take, if_neg (by omega)] at hj; cases hj
    rw [List.getElem?_take_of_lt hj2, List.getElem?_drop] at hj
    simpa using hj)
  simp only [Array.length_toList, Array.toArray_toList, hc] at hL
  unfold Oper.wp execOp
  simp only [hs, Instr.loadAt, Instr.sureAddr, loadVar, Sem.run_bind, Sem.run_pure, Result.andThen_ok, hA, hS, hL, if_true, Oper.upon_value]
  exact hK _ _ h
theorem info_point : (Tryz.prog.info? 31).map (·.size) = some 20 := by kernel_rfl
/-- A block that holds a Point; a Point stored, in one step (for regions that draw their order). -/
def IsP (W : World) (b : Nat) : Prop := ∃ ys, Blk W b ys 31 ∧ ys.size = 20
def storeP (p v : Value) : Sem Unit := Instr.storeAt 31 p v
theorem storeP_eq (p v : Value) : Instr.storeAt 31 p v = storeP p v := rfl
abbrev zPt : Array Value := #[.bool false, .int .u64 0, .int .u64 0, .int .u64 0, .int .u64 0, .bool false, .int .u64 0, .int .u64 0, .int .u64 0, .int .u64 0, .bool false, .int .u64 0, .int .u64 0, .int .u64 0, .int .u64 0, .bool false, .int .u64 0, .int .u64 0, .int .u64 0, .int .u64 0]
theorem storeP_zero {W : World} {b : Nat} (h : IsP W b) : (storeP (.pointer (some ⟨b, 0, none⟩)) (.agg #[.bool false, .int .u64 0, .int .u64 0, .int .u64 0, .int .u64 0, .bool false, .int .u64 0, .int .u64 0, .int .u64 0, .int .u64 0, .bool false, .int .u64 0, .int .u64 0, .int .u64 0, .int .u64 0, .bool false, .int .u64 0, .int .u64 0, .int .u64 0, .int .u64 0])).run Tryz.prog W = .ok () (W.setRow b zPt) := by
  obtain ⟨ys, hB, hy⟩ := h
  have hL := run_storeVar_row (P := Tryz.prog) W b 31 31 ys zPt hB info_point (by rw [hy]; rfl) (by rw [← Array.all_toList]; rfl)
  simp only [storeP, Instr.storeAt, Instr.sureAddr, Sem.run_bind, Sem.run_pure, Result.andThen_ok]
  exact hL
theorem cell_setRow_z {W : World} {b j : Nat} (h : IsP W b) : (W.setRow b zPt).cell? ⟨b, j, none⟩ = zPt[j]? := by
  obtain ⟨ys, hB, _⟩ := h
  exact (Blk.setRowSame hB).cell j
theorem frozen_setRow_z {W : World} {b j : Nat} (h : IsP W b) : (W.setRow b zPt).frozen? ⟨b, j, none⟩ = false := by
  obtain ⟨ys, hB, _⟩ := h
  exact (Blk.setRowSame (cs := zPt) hB).frozen j
theorem cell_setRow_far {W : World} {b g j : Nat} {cs : Array Value} (h : g ≠ b) : (W.setRow b cs).cell? ⟨g, j, none⟩ = W.cell? ⟨g, j, none⟩ := by
  unfold World.cell?
  rw [setRow_other W b g cs h]
theorem IsP.drew {W : World} {b : Nat} (h : IsP W b) : IsP W.drew b := by obtain ⟨ys, hB, hy⟩ := h; exact ⟨ys, hB.drew, hy⟩
theorem IsP.setRow {W : World} {b : Nat} (h : IsP W b) : IsP (W.setRow b zPt) b := by obtain ⟨ys, hB, hy⟩ := h; exact ⟨_, Blk.setRowSame hB, rfl⟩
theorem IsP.setCell {W : World} {b c o : Nat} {x : Value} (h : IsP W b) : IsP (W.setCell ⟨c, o, none⟩ x) b := by
  obtain ⟨ys, hB, hy⟩ := h
  by_cases e : c = b
  · subst e; exact ⟨_, hB.setSame, by simp [hy]⟩
  · exact ⟨ys, hB.setOther e, hy⟩
def storeR (p v : Value) : Sem Unit := Instr.storeAt 29 p v
theorem storeR_eq (p v : Value) : Instr.storeAt 29 p v = storeR p v := rfl
theorem IsP.cellSome {W : World} {b : Nat} (h : IsP W b) (j : Nat) (hj : j < 20) : ∃ v, W.cell? ⟨b, j, none⟩ = some v := by
  obtain ⟨ys, hB, hy⟩ := h
  exact ⟨ys[j], by rw [hB.cell, Array.getElem?_eq_getElem (by omega)]⟩
theorem IsP.frozen {W : World} {b : Nat} (h : IsP W b) (j : Nat) : W.frozen? ⟨b, j, none⟩ = false := by
  obtain ⟨ys, hB, hy⟩ := h; exact hB.frozen j
theorem run_store_p {W : World} {b j : Nat} {v : Value} (h : IsP W b) (hj : j < 20) (hv : v.oneCell' = true) : (store ⟨b, j, none⟩ v).run Tryz.prog W = .ok () (W.setCell ⟨b, j, none⟩ v) := by
  obtain ⟨x, hx⟩ := h.cellSome j hj
  rw [run_store _ _ _ _ _ hv, hx]
  simp only [h.frozen j, Bool.false_eq_true, if_false]
theorem storeR_0 {W : World} {b : Nat} {s t : Bool} {n0 n1 n2 n3 m0 m1 m2 m3 : Int} (h : IsP W b) :
    (storeR (.pointer (some ⟨b, 0, none⟩)) (.agg #[.bool s, .int .u64 n0, .int .u64 n1, .int .u64 n2, .int .u64 n3, .bool t, .int .u64 m0, .int .u64 m1, .int .u64 m2, .int .u64 m3])).run Tryz.prog W = .ok () ((((((((((W.setCell ⟨b, 0, none⟩ (.bool s)).setCell ⟨b, 1, none⟩ (.int .u64 n0)).setCell ⟨b, 2, none⟩ (.int .u64 n1)).setCell ⟨b, 3, none⟩ (.int .u64 n2)).setCell ⟨b, 4, none⟩ (.int .u64 n3)).setCell ⟨b, 5, none⟩ (.bool t)).setCell ⟨b, 6, none⟩ (.int .u64 m0)).setCell ⟨b, 7, none⟩ (.int .u64 m1)).setCell ⟨b, 8, none⟩ (.int .u64 m2)).setCell ⟨b, 9, none⟩ (.int .u64 m3)) := by
  simp only [storeR, Instr.storeAt, Instr.sureAddr, storeVar, Sem.run_bind, Sem.run_pure, Result.andThen_ok, Tryz.sizeOf29]
  have hc : (Value.agg #[.bool s, .int .u64 n0, .int .u64 n1, .int .u64 n2, .int .u64 n3, .bool t, .int .u64 m0, .int .u64 m1, .int .u64 m2, .int .u64 m3]).cells = #[.bool s, .int .u64 n0, .int .u64 n1, .int .u64 n2, .int .u64 n3, .bool t, .int .u64 m0, .int .u64 m1, .int .u64 m2, .int .u64 m3] := rfl
  rw [hc, if_neg (by simp)]
  simp only [storeCells, Addr.add, Sem.run_bind, Nat.zero_add, Nat.reduceAdd, Nat.reduceEqDiff, if_false, if_true, Nat.add_eq_zero_iff, Nat.one_ne_zero, and_false, false_and]
  iterate 10 (rw [run_store_p (by repeat (with_reducible first | exact h | apply IsP.setCell)) (by omega) rfl]; simp only [Result.andThen_ok])
  rfl
theorem storeR_10 {W : World} {b : Nat} {s t : Bool} {n0 n1 n2 n3 m0 m1 m2 m3 : Int} (h : IsP W b) :
    (storeR (.pointer (some ⟨b, 10, none⟩)) (.agg #[.bool s, .int .u64 n0, .int .u64 n1, .int .u64 n2, .int .u64 n3, .bool t, .int .u64 m0, .int .u64 m1, .int .u64 m2, .int .u64 m3])).run Tryz.prog W = .ok () ((((((((((W.setCell ⟨b, 10, none⟩ (.bool s)).setCell ⟨b, 11, none⟩ (.int .u64 n0)).setCell ⟨b, 12, none⟩ (.int .u64 n1)).setCell ⟨b, 13, none⟩ (.int .u64 n2)).setCell ⟨b, 14, none⟩ (.int .u64 n3)).setCell ⟨b, 15, none⟩ (.bool t)).setCell ⟨b, 16, none⟩ (.int .u64 m0)).setCell ⟨b, 17, none⟩ (.int .u64 m1)).setCell ⟨b, 18, none⟩ (.int .u64 m2)).setCell ⟨b, 19, none⟩ (.int .u64 m3)) := by
  simp only [storeR, Instr.storeAt, Instr.sureAddr, storeVar, Sem.run_bind, Sem.run_pure, Result.andThen_ok, Tryz.sizeOf29]
  have hc : (Value.agg #[.bool s, .int .u64 n0, .int .u64 n1, .int .u64 n2, .int .u64 n3, .bool t, .int .u64 m0, .int .u64 m1, .int .u64 m2, .int .u64 m3]).cells = #[.bool s, .int .u64 n0, .int .u64 n1, .int .u64 n2, .int .u64 n3, .bool t, .int .u64 m0, .int .u64 m1, .int .u64 m2, .int .u64 m3] := rfl
  rw [hc, if_neg (by simp)]
  simp only [storeCells, Addr.add, Sem.run_bind, Nat.zero_add, Nat.reduceAdd, Nat.reduceEqDiff, if_false, if_true, Nat.add_eq_zero_iff, Nat.one_ne_zero, and_false, false_and]
  iterate 10 (rw [run_store_p (by repeat (with_reducible first | exact h | apply IsP.setCell)) (by omega) rfl]; simp only [Result.andThen_ok])
  rfl
/-- A block that holds an Errno. -/
def IsE (W : World) (b : Nat) : Prop := ∃ v, Blk W b #[v] 33
theorem IsE.drew {W : World} {b : Nat} (h : IsE W b) : IsE W.drew b := by obtain ⟨v, hB⟩ := h; exact ⟨v, hB.drew⟩
theorem IsE.setCell {W : World} {b c o : Nat} {x : Value} (h : IsE W b) : IsE (W.setCell ⟨c, o, none⟩ x) b := by
  obtain ⟨v, hB⟩ := h
  by_cases e : c = b
  · subst e
    cases o with
    | zero => exact ⟨x, hB.set1⟩
    | succ o => exact ⟨v, by have := hB.setSame (o := o + 1) (v := x); simpa using this⟩
  · exact ⟨v, hB.setOther e⟩
theorem IsE.setRow {W : World} {b c : Nat} {cs : Array Value} (hne : b ≠ c) (h : IsE W b) : IsE (W.setRow c cs) b := by obtain ⟨v, hB⟩ := h; exact ⟨v, hB.setRowOther hne⟩
def storeE (p v : Value) : Sem Unit := Instr.storeAt 33 p v
theorem storeE_eq (p v : Value) : Instr.storeAt 33 p v = storeE p v := rfl
theorem storeE_0 {W : World} {b : Nat} {z : Int} (h : IsE W b) : (storeE (.pointer (some ⟨b, 0, none⟩)) (.int .i64 z)).run Tryz.prog W = .ok () (W.setCell ⟨b, 0, none⟩ (.int .i64 z)) := by
  obtain ⟨v, hB⟩ := h
  have hc := hB.cell 0
  have hf := hB.frozen 0
  simp only [storeE]
  simp [go_sem, hc, hf]
theorem results_pt_err {fn : Func} {tmps : Array Value} {W : World} {i j b be : Nat} {cs : Array Value} {z : Value} {T T' : TypeId} (hr : fn.results = #[.cell i 31, .cell j 33])
    (h1 : tmps[i]?.getD undef = .pointer (some ⟨b, 0, none⟩)) (h2 : tmps[j]?.getD undef = .pointer (some ⟨be, 0, none⟩)) (hB : Blk W b cs T) (hc : cs.size = 20) (hE : Blk W be #[z] T') :
    (results fn tmps).run Tryz.prog W = .ok (.tuple #[.agg cs, z]) W := by
  have hL := hB.loads (P := Tryz.prog)
  rw [hc] at hL
  have hz := hE.cell 0
  have hV1 : (loadVar 31 ⟨b, 0, none⟩).run Tryz.prog W = .ok (.agg cs) W := by
    simp only [loadVar, Sem.run_bind, Tryz.isAgg31, Tryz.sizeOf31, Result.andThen_ok, if_true, hL, Sem.run_pure]
  have hV2 : (loadVar 33 ⟨be, 0, none⟩).run Tryz.prog W = .ok z W := by
    simp [loadVar, Tryz.isAgg33, hz, Result.andThen]
  simp [results, hr, h1, h2, asAddr, hV1, hV2, Result.andThen]
end Go.Proofs.YtmopgcbhmkemjaaGreatDoor

namespace Go.Proofs.YtmopgcbhmkemjaaGreatDoor
open Go Go.RowKit
set_option linter.unusedSimpArgs false
set_option linter.unusedVariables false
set_option maxRecDepth 100000
set_option exponentiation.threshold 3000

theorem must_point_yes (e : Int) (w : World) : Calls Tryz.prog 46 #[.bool true, .int .i64 e] w fun e' w' => e' = .returned (.tuple #[]) ∧ w' = w := by
  go_enter Tryz.func46, Tryz.ntmps46
  go_wp2
  go_end0
  exact ⟨rfl, rfl⟩
theorem must_point_no (e : Int) (w : World) : Calls Tryz.prog 46 #[.bool false, .int .i64 e] w fun e' w' => e' = givesUp e ∧ w' = w := by
  go_enter Tryz.func46, Tryz.ntmps46
  go_wp2
  exact ⟨rfl, rfl, rfl⟩
theorem caught_point_idle (p : Addr) (fv : Value) (w : World) :
    CallsD Tryz.prog 44 #[.pointer (some p), fv] .returning w fun e u' w' => e = .returned (.tuple #[]) ∧ u' = .returning ∧ w' = w := by
  refine callsD_of_wpS Tryz.func44 rfl fun c₀ cs hu => ?_
  apply wpS_seq
  apply wpS_region
  simp [wpOpsS, go_sem, recoverD, hu, Tryz.ntmps44, Exit.thenS]
  apply wpS_seq
  apply wpS_region
  simp [wpOpsS, go_sem, Exit.thenS]
  refine wpS_cond (t := false) (by simp [Act.eval, Array.replicate]) ?_
  simp only [Bool.false_eq_true, if_false]
  refine wpS_of_wp (wp_skip ?_)
  cases c₀
  simp_all [bodyPostS, results, Tryz.results44]
theorem caught_point_pan (pb : Nat) (x e : Int) (g : Nat) (caps : Array Value) (older : List PanicEntry) (w : World) (R : Ending → FrameMode → World → Prop) (hc : w.cell? ⟨pb, 0, none⟩ = some (.int .i64 x)) (hz : w.frozen? ⟨pb, 0, none⟩ = false)
    (eg : ∀ args w, (callFunc g args).run Tryz.prog w = .ok (.enter g args) w)
    (hg : Calls Tryz.prog g caps (w.setCell ⟨pb, 0, none⟩ (.int .i64 e)) fun e' w' => e' = .returned (.tuple #[]) ∧ R (.returned (.tuple #[])) (.panicking ({ v := .iface 33 (.int .i64 e), recovered := true } :: older)) w') :
    CallsD Tryz.prog 44 #[.pointer (some ⟨pb, 0, none⟩), .func (.func g) #[] caps] (.panicking ({ v := .iface 33 (.int .i64 e), recovered := false } :: older)) w R := by
  have hta : ∀ w, (Instr.typeAssert (.iface 33 (.int .i64 e)) 20 33 false).run Tryz.prog w = .ok (.int .i64 e) w := fun w => by kernel_rfl
  refine callsD_of_wpS Tryz.func44 rfl fun c₀ cs hu => ?_
  apply wpS_seq
  apply wpS_region
  simp [wpOpsS, go_sem, recoverD, hu, Tryz.ntmps44, Exit.thenS]
  apply wpS_seq
  apply wpS_region
  simp [wpOpsS, go_sem, Exit.thenS]
  refine wpS_cond (t := true) (by simp [Act.eval, Array.replicate]) ?_
  simp only [if_true]
  refine wpS_of_wp ?_
  go_wp2
  refine hg.mono ?_
  rintro e' w' ⟨rfl, hR⟩
  go_wp2
  simpa [bodyPostS, results, Tryz.results44] using hR
theorem leaves_point {fn : Func} {tmps : Array Value} {R : Ending → World → Prop} {p : Addr} {fv : Value} {w : World} (v : Value)
    (hr : (results fn tmps).run Tryz.prog w = .ok v w) (h : R (.returned v) w) :
    Leaves Tryz.prog fn tmps R [{ target := .fn (.func 44) #[], args := #[.pointer (some p), fv] }] .returning w := by
  refine leaves_cons (f := 44) (args := #[.pointer (some p), fv]) (by simp) (by simp [go_sem]) ?_
  refine (caught_point_idle _ _ _).mono ?_
  rintro e u' w'' ⟨rfl, rfl, rfl⟩
  simp only [Leaves, settle]
  exact ⟨v, hr, h⟩
theorem leaves_point_pan {fn : Func} {tmps : Array Value} {R : Ending → World → Prop} {pb : Nat} (x e : Int) (g : Nat) (caps : Array Value) {w : World}
    (hc : w.cell? ⟨pb, 0, none⟩ = some (.int .i64 x)) (hz : w.frozen? ⟨pb, 0, none⟩ = false)
    (eg : ∀ args w, (callFunc g args).run Tryz.prog w = .ok (.enter g args) w)
    (hg : Calls Tryz.prog g caps (w.setCell ⟨pb, 0, none⟩ (.int .i64 e)) fun e' w' => e' = .returned (.tuple #[]) ∧ ∃ v, (results fn tmps).run Tryz.prog w' = .ok v w' ∧ R (.returned v) w') :
    Leaves Tryz.prog fn tmps R [{ target := .fn (.func 44) #[], args := #[.pointer (some ⟨pb, 0, none⟩), .func (.func g) #[] caps] }] (.panicking [{ v := .iface 33 (.int .i64 e), recovered := false }]) w := by
  refine leaves_cons (f := 44) (args := #[.pointer (some ⟨pb, 0, none⟩), .func (.func g) #[] caps]) (by simp) (by simp [go_sem]) ?_
  refine caught_point_pan pb x e g _ [] _ _ hc hz eg (hg.mono ?_)
  rintro e' w' ⟨rfl, v, hr, h⟩
  refine ⟨rfl, ?_⟩
  simp only [Leaves, settle]
  exact ⟨v, hr, h⟩

set_option maxHeartbeats 8000000 in
theorem place_cmp (a b c d : Rt) (x y : Int) (C1 : Ans 77 #[a.v, c.v] (.tuple #[.int .i64 x, .int .i64 0])) (C2 : Ans 77 #[b.v, d.v] (.tuple #[.int .i64 y, .int .i64 0])) :
    Ans 47 #[pV a b, pV c d] (.int .i64 (if x = 0 then y else x)) := fun w => by
  have hx : Ext w w := Ext.refl w
  obtain ⟨s1, m1, t1, k1, _, _⟩ := a
  obtain ⟨s2, m2, t2, k2, _, _⟩ := b
  obtain ⟨s3, m3, t3, k3, _, _⟩ := c
  obtain ⟨s4, m4, t4, k4, _, _⟩ := d
  
  by_cases h0 : x = 0
  · have h0' : (x == 0) = true := by simp [h0]
    rw [if_pos h0]
    go_enter Tryz.func47, Tryz.ntmps47
    go_wp2_with (first | (go_at_call 46; (with_reducible refine (must_point_yes _ _).mono ?_); rintro e w2 ⟨rfl, h2_⟩; subst w2) | (go_at_call 77; (with_reducible refine (C1 _).mono ?_); rintro e y1 ⟨rfl, hz_⟩; have hzz_ : Ext w y1 := Ext.trans ext_auto hz_; have BA : Blk y1 w.heap.size (ptsV s1 m1 t1 k1 s2 m2 t2 k2) 93 := Blk.ext blk_auto hz_; have BB : Blk y1 (w.heap.size + 1) (ptsV s3 m3 t3 k3 s4 m4 t4 k4) 93 := Blk.ext blk_auto hz_; replace hx := hx.trans hzz_; clear hz_ hzz_; have lBA := BA.lt; have cBA := BA.cell; have fBA := BA.frozen; have lBB := BB.lt; have cBB := BB.cell; have fBB := BB.frozen))
    go_wp2_with (first | (go_at_call 46; (with_reducible refine (must_point_yes _ _).mono ?_); rintro e w2 ⟨rfl, h2_⟩; subst w2) | (go_at_call 77; (with_reducible refine (C2 _).mono ?_); rintro e y2 ⟨rfl, hz_⟩; have hzz_ : Ext y1 y2 := Ext.trans ext_auto hz_; replace BA := BA.ext hzz_; clear lBA cBA fBA; replace BB := BB.ext hzz_; clear lBB cBB fBB; replace hx := hx.trans hzz_; clear hz_ hzz_; have lBA := BA.lt; have cBA := BA.cell; have fBA := BA.frozen; have lBB := BB.lt; have cBB := BB.cell; have fBB := BB.frozen))
    exact bodyPost_ret (v := .int .i64 y) (by simp [results, Tryz.results47, go_sem]) rfl ⟨rfl, ext_auto⟩
  · have h0' : (x == 0) = false := by simp [h0]
    rw [if_neg h0]
    go_enter Tryz.func47, Tryz.ntmps47
    go_wp2_with (first | (go_at_call 46; (with_reducible refine (must_point_yes _ _).mono ?_); rintro e w2 ⟨rfl, h2_⟩; subst w2) | (go_at_call 77; (with_reducible refine (C1 _).mono ?_); rintro e y1 ⟨rfl, hz_⟩; have hzz_ : Ext w y1 := Ext.trans ext_auto hz_; have BA : Blk y1 w.heap.size (ptsV s1 m1 t1 k1 s2 m2 t2 k2) 93 := Blk.ext blk_auto hz_; have BB : Blk y1 (w.heap.size + 1) (ptsV s3 m3 t3 k3 s4 m4 t4 k4) 93 := Blk.ext blk_auto hz_; replace hx := hx.trans hzz_; clear hz_ hzz_; have lBA := BA.lt; have cBA := BA.cell; have fBA := BA.frozen; have lBB := BB.lt; have cBB := BB.cell; have fBB := BB.frozen))
    go_wp2_with (first | (go_at_call 46; (with_reducible refine (must_point_yes _ _).mono ?_); rintro e w2 ⟨rfl, h2_⟩; subst w2) | (go_at_call 77; (with_reducible refine (C2 _).mono ?_); rintro e y2 ⟨rfl, hz_⟩; have hzz_ : Ext y1 y2 := Ext.trans ext_auto hz_; replace BA := BA.ext hzz_; clear lBA cBA fBA; replace BB := BB.ext hzz_; clear lBB cBB fBB; replace hx := hx.trans hzz_; clear hz_ hzz_; have lBA := BA.lt; have cBA := BA.cell; have fBA := BA.frozen; have lBB := BB.lt; have cBB := BB.cell; have fBB := BB.frozen))
    exact bodyPost_ret (v := .int .i64 x) (by simp [results, Tryz.results47, go_sem]) rfl ⟨rfl, ext_auto⟩
set_option maxHeartbeats 8000000 in
theorem ptCmp_yes (a b c d : Rt) (ha : a.pok = true) (hb : b.pok = true) (hc : c.pok = true) (hd : d.pok = true) (x : Int) (PC : Ans 47 #[pV a b, pV c d] (.int .i64 x)) :
    Ans 21 #[pV a b, pV c d] (.tuple #[.int .i64 x, .int .i64 0]) := fun w => by
  have hmf : ∀ (fn : Fn) (first cap : Array Value) (w : World), (Instr.makeFunc fn first cap).run Tryz.prog w = .ok (.func fn first cap) w := fun _ _ _ _ => rfl
  have hx : Ext w w := Ext.refl w
  have P1 := pright_yes a b ha hb
  have P2 := pright_yes c d hc hd
  clear ha hb hc hd
  obtain ⟨s1, m1, t1, k1, _, _⟩ := a
  obtain ⟨s2, m2, t2, k2, _, _⟩ := b
  obtain ⟨s3, m3, t3, k3, _, _⟩ := c
  obtain ⟨s4, m4, t4, k4, _, _⟩ := d
  dsimp only [pV, ptV] at P1 P2 PC ⊢
  generalize wn m1 0 = m1_0 at *
  generalize wn m1 1 = m1_1 at *
  generalize wn m1 2 = m1_2 at *
  generalize wn m1 3 = m1_3 at *
  generalize wn k1 0 = k1_0 at *
  generalize wn k1 1 = k1_1 at *
  generalize wn k1 2 = k1_2 at *
  generalize wn k1 3 = k1_3 at *
  generalize wn m2 0 = m2_0 at *
  generalize wn m2 1 = m2_1 at *
  generalize wn m2 2 = m2_2 at *
  generalize wn m2 3 = m2_3 at *
  generalize wn k2 0 = k2_0 at *
  generalize wn k2 1 = k2_1 at *
  generalize wn k2 2 = k2_2 at *
  generalize wn k2 3 = k2_3 at *
  generalize wn m3 0 = m3_0 at *
  generalize wn m3 1 = m3_1 at *
  generalize wn m3 2 = m3_2 at *
  generalize wn m3 3 = m3_3 at *
  generalize wn k3 0 = k3_0 at *
  generalize wn k3 1 = k3_1 at *
  generalize wn k3 2 = k3_2 at *
  generalize wn k3 3 = k3_3 at *
  generalize wn m4 0 = m4_0 at *
  generalize wn m4 1 = m4_1 at *
  generalize wn m4 2 = m4_2 at *
  generalize wn m4 3 = m4_3 at *
  generalize wn k4 0 = k4_0 at *
  generalize wn k4 1 = k4_1 at *
  generalize wn k4 2 = k4_2 at *
  generalize wn k4 3 = k4_3 at *
  
  go_enter_defers Tryz.func21, Tryz.ntmps21
  go_upto_region 1 with fail
  refine wp_rebase fun v hv => ?_
  replace hx : Ext w v := by rw [hv]; exact ext_auto
  have BA : Blk v w.heap.size #[.bool s1, q64 m1_0, q64 m1_1, q64 m1_2, q64 m1_3, .bool t1, q64 k1_0, q64 k1_1, q64 k1_2, q64 k1_3, .bool s2, q64 m2_0, q64 m2_1, q64 m2_2, q64 m2_3, .bool t2, q64 k2_0, q64 k2_1, q64 k2_2, q64 k2_3] 31 := by rw [hv]; exact blk_auto
  have BB : Blk v (w.heap.size + 1) #[.bool s3, q64 m3_0, q64 m3_1, q64 m3_2, q64 m3_3, .bool t3, q64 k3_0, q64 k3_1, q64 k3_2, q64 k3_3, .bool s4, q64 m4_0, q64 m4_1, q64 m4_2, q64 m4_3, .bool t4, q64 k4_0, q64 k4_1, q64 k4_2, q64 k4_3] 31 := by rw [hv]; exact blk_auto
  have BO : Blk v (w.heap.size + 1 + 1) #[.int .i64 0] 3 := by rw [hv]; exact blk_auto
  have BE : Blk v (w.heap.size + 1 + 1 + 1) #[.int .i64 0] 33 := by rw [hv]; exact blk_auto
  clear hv
  have lBA := BA.lt; have cBA := BA.cell; have fBA := BA.frozen; have lBB := BB.lt; have cBB := BB.cell; have fBB := BB.frozen; have lBO := BO.lt; have cBO := BO.cell; have fBO := BO.frozen; have lBE := BE.lt; have cBE := BE.cell; have fBE := BE.frozen
  go_wp2_with (first | (go_at_call 46; (with_reducible refine (must_point_yes _ _).mono ?_); rintro e w2 ⟨rfl, h2_⟩; subst w2) | ((with_reducible apply wpList_load_row Tryz.isAgg31 Tryz.sizeOf31); (case hw => (simp [go_sem, Region.wanted, yielded]; done)); (case hs => exact rfl); (case hB => exact blk_auto); (case hc => rfl)) | (go_at_call 16; (with_reducible refine (P1 _).mono ?_); rintro e y1 ⟨rfl, hz_⟩; have hzz_ : Ext v y1 := Ext.trans ext_auto hz_; replace BA := BA.ext hzz_; clear lBA cBA fBA; replace BB := BB.ext hzz_; clear lBB cBB fBB; replace BO := BO.ext hzz_; clear lBO cBO fBO; replace BE := BE.ext hzz_; clear lBE cBE fBE; replace hx := hx.trans hzz_; clear hz_ hzz_; have lBA := BA.lt; have cBA := BA.cell; have fBA := BA.frozen; have lBB := BB.lt; have cBB := BB.cell; have fBB := BB.frozen; have lBO := BO.lt; have cBO := BO.cell; have fBO := BO.frozen; have lBE := BE.lt; have cBE := BE.cell; have fBE := BE.frozen))
  go_wp2_with (first | (go_at_call 46; (with_reducible refine (must_point_yes _ _).mono ?_); rintro e w2 ⟨rfl, h2_⟩; subst w2) | ((with_reducible apply wpList_load_row Tryz.isAgg31 Tryz.sizeOf31); (case hw => (simp [go_sem, Region.wanted, yielded]; done)); (case hs => exact rfl); (case hB => exact blk_auto); (case hc => rfl)) | (go_at_call 16; (with_reducible refine (P2 _).mono ?_); rintro e y2 ⟨rfl, hz_⟩; have hzz_ : Ext y1 y2 := Ext.trans ext_auto hz_; replace BA := BA.ext hzz_; clear lBA cBA fBA; replace BB := BB.ext hzz_; clear lBB cBB fBB; replace BO := BO.ext hzz_; clear lBO cBO fBO; replace BE := BE.ext hzz_; clear lBE cBE fBE; replace hx := hx.trans hzz_; clear hz_ hzz_; have lBA := BA.lt; have cBA := BA.cell; have fBA := BA.frozen; have lBB := BB.lt; have cBB := BB.cell; have fBB := BB.frozen; have lBO := BO.lt; have cBO := BO.cell; have fBO := BO.frozen; have lBE := BE.lt; have cBE := BE.cell; have fBE := BE.frozen))
  go_wp2_with (first | (go_at_call 46; (with_reducible refine (must_point_yes _ _).mono ?_); rintro e w2 ⟨rfl, h2_⟩; subst w2) | ((with_reducible apply wpList_load_row Tryz.isAgg31 Tryz.sizeOf31); (case hw => (simp [go_sem, Region.wanted, yielded]; done)); (case hs => exact rfl); (case hB => exact blk_auto); (case hc => rfl)) | (go_at_call 47; (with_reducible refine (PC _).mono ?_); rintro e y3 ⟨rfl, hz_⟩; have hzz_ : Ext y2 y3 := Ext.trans ext_auto hz_; replace BA := BA.ext hzz_; clear lBA cBA fBA; replace BB := BB.ext hzz_; clear lBB cBB fBB; replace BO := BO.ext hzz_; clear lBO cBO fBO; replace BE := BE.ext hzz_; clear lBE cBE fBE; replace hx := hx.trans hzz_; clear hz_ hzz_; have lBA := BA.lt; have cBA := BA.cell; have fBA := BA.frozen; have lBB := BB.lt; have cBB := BB.cell; have fBB := BB.frozen; have lBO := BO.lt; have cBO := BO.cell; have fBO := BO.frozen; have lBE := BE.lt; have cBE := BE.cell; have fBE := BE.frozen))
  refine lv_rebase fun u hu => ?_
  have hy : Ext w u := by rw [hu]; exact ext_auto
  have BF : Blk u (w.heap.size + 1 + 1) #[.int .i64 x] 3 := by rw [hu]; exact blk_auto
  have BG : Blk u (w.heap.size + 1 + 1 + 1) #[.int .i64 0] 33 := by rw [hu]; exact blk_auto
  clear hu
  have lBF := BF.lt; have cBF := BF.cell; have fBF := BF.frozen; have lBG := BG.lt; have cBG := BG.cell; have fBG := BG.frozen; clear BF BG
  exact leaves_point (.tuple #[.int .i64 x, .int .i64 0]) (by simp [results, Tryz.results21, go_sem, cBF, cBG]) ⟨rfl, hy⟩
/-- The order of two points. -/
def cmpP (x y x' y' : Rat) : Int := if cmpQ x x' = 0 then cmpQ y y' else cmpQ x x'
theorem ptCmp_q (a b c d : Rt) (ha : a.pok = true) (hb : b.pok = true) (hc : c.pok = true) (hd : d.pok = true) :
    Ans 21 #[pV a b, pV c d] (.tuple #[.int .i64 (cmpP a.q b.q c.q d.q), .int .i64 0]) := by
  have oa := (a.pok_iff.1 ha).1
  have ob := (b.pok_iff.1 hb).1
  have oc := (c.pok_iff.1 hc).1
  have od := (d.pok_iff.1 hd).1
  refine ptCmp_yes a b c d ha hb hc hd _ (place_cmp a b c d (cmpQ a.q c.q) (cmpQ b.q d.q) ?_ ?_)
  · have := cCmp a.q c.q (a.q_fits oa) (c.q_fits oc)
    rwa [← a.v_q oa, ← c.v_q oc] at this
  · have := cCmp b.q d.q (b.q_fits ob) (d.q_fits od)
    rwa [← b.v_q ob, ← d.v_q od] at this
end Go.Proofs.YtmopgcbhmkemjaaGreatDoor

namespace Go.Proofs.YtmopgcbhmkemjaaGreatDoor
set_option linter.unusedSimpArgs false
set_option linter.unusedVariables false

def dval : List Nat → Nat
  | [] => 0
  | d :: ds => d + 65536 * dval ds
def Digs (ds : List Nat) : Prop := ∀ d ∈ ds, d < 65536
/-- Without noughts behind. -/
def trim (ds : List Nat) : List Nat := (ds.reverse.dropWhile (· == 0)).reverse
theorem trim_nil : trim [] = [] := rfl
theorem trim_zero (l : List Nat) : trim (l ++ [0]) = trim l := by simp [trim, List.dropWhile_cons]
theorem trim_ne (l : List Nat) (x : Nat) (h : x ≠ 0) : trim (l ++ [x]) = l ++ [x] := by
  have : ¬ (x == 0) = true := by simpa using h
  simp [trim, List.dropWhile_cons, this, h]
theorem list_snoc {α : Type} (l : List α) (h : l ≠ []) : ∃ i x, l = i ++ [x] := ⟨l.dropLast, l.getLast h, (List.dropLast_concat_getLast h).symm⟩
theorem dval_append (a b : List Nat) : dval (a ++ b) = dval a + 65536 ^ a.length * dval b := by
  induction a with
  | nil => simp [dval]
  | cons x a ih => simp only [List.cons_append, dval, ih, List.length_cons, Nat.pow_succ]; rw [Nat.mul_add, ← Nat.mul_assoc, Nat.add_assoc, Nat.mul_comm 65536 (65536 ^ a.length)]
theorem trim_spec : ∀ (n : Nat) (ds : List Nat), ds.length = n → ∃ k, ds = trim ds ++ List.replicate k 0 ∧ (trim ds = [] ∨ ∃ i x, x ≠ 0 ∧ trim ds = i ++ [x])
  | 0, ds, h => by obtain rfl := List.length_eq_zero_iff.1 h; exact ⟨0, by simp [trim], .inl rfl⟩
  | n + 1, ds, h => by
    obtain ⟨i, x, rfl⟩ := list_snoc ds (by intro e; subst e; cases h)
    by_cases hx : x = 0
    · subst hx
      obtain ⟨k, h1, h2⟩ := trim_spec n i (by simpa using h)
      rw [trim_zero]
      refine ⟨k + 1, ?_, h2⟩
      conv => lhs; rw [h1]
      rw [List.append_assoc, List.replicate_succ']
    · rw [trim_ne _ _ hx]
      exact ⟨0, by simp, .inr ⟨i, x, hx, rfl⟩⟩
theorem dval_zeros (k : Nat) : dval (List.replicate k 0) = 0 := by
  induction k with
  | zero => rfl
  | succ k ih => simp [List.replicate_succ, dval, ih]
theorem dval_trim (ds : List Nat) : dval (trim ds) = dval ds := by
  obtain ⟨k, h, _⟩ := trim_spec _ ds rfl
  conv => rhs; rw [h]
  rw [dval_append, dval_zeros]; simp
theorem trim_le (ds : List Nat) : (trim ds).length ≤ ds.length := by
  obtain ⟨k, h, _⟩ := trim_spec _ ds rfl
  have := congrArg List.length h
  simp at this; omega
theorem trim_take (ds : List Nat) : trim ds = ds.take (trim ds).length := by
  obtain ⟨k, h, _⟩ := trim_spec _ ds rfl
  conv => rhs; arg 2; rw [h]
  simp
theorem trim_trim (ds : List Nat) : trim (trim ds) = trim ds := by
  obtain ⟨k, _, h | ⟨i, x, hx, h⟩⟩ := trim_spec _ ds rfl
  · rw [h]; rfl
  · rw [h, trim_ne _ _ hx]
theorem digs_trim {ds : List Nat} (h : Digs ds) : Digs (trim ds) := fun d hd => by
  rw [trim_take] at hd; exact h d (List.mem_of_mem_take hd)
theorem digs_cons {d : Nat} {ds : List Nat} : Digs (d :: ds) ↔ d < 65536 ∧ Digs ds := by simp [Digs]
theorem digs_append {a b : List Nat} : Digs (a ++ b) ↔ Digs a ∧ Digs b := by
  simp only [Digs, List.mem_append]
  exact ⟨fun h => ⟨fun d hd => h d (.inl hd), fun d hd => h d (.inr hd)⟩, fun ⟨h1, h2⟩ d hd => hd.elim (h1 d) (h2 d)⟩
theorem dval_lt {ds : List Nat} (h : Digs ds) : dval ds < 65536 ^ ds.length := by
  induction ds with
  | nil => simp [dval]
  | cons d ds ih =>
    obtain ⟨h1, h2⟩ := digs_cons.1 h
    have := ih h2
    simp only [dval, List.length_cons, Nat.pow_succ]; omega
/-- The digits of a number. -/
def dg (n : Nat) : List Nat := if h : n = 0 then [] else n % 65536 :: dg (n / 65536)
decreasing_by omega
theorem dg_zero : dg 0 = [] := by unfold dg; simp
theorem dg_pos (n : Nat) (h : n ≠ 0) : dg n = n % 65536 :: dg (n / 65536) := by
  conv => lhs; unfold dg
  rw [dif_neg h]
theorem trim_cons (d : Nat) (ds : List Nat) : trim (d :: ds) = if trim ds = [] then (if d = 0 then [] else [d]) else d :: trim ds := by
  obtain ⟨k, h, h2⟩ := trim_spec _ ds rfl
  rcases h2 with h2 | ⟨i, x, hx, h2⟩
  · rw [if_pos h2]
    rw [h2, List.nil_append] at h
    rw [h]
    clear h h2
    induction k with
    | zero =>
      by_cases hd : d = 0
      · subst hd; rfl
      · have := trim_ne [] d hd; rw [if_neg hd]; exact this
    | succ k ih => rw [List.replicate_succ', ← List.cons_append, trim_zero, ih]
  · rw [if_neg (by rw [h2]; simp)]
    rw [h2] at h ⊢
    rw [h]
    clear h h2
    induction k with
    | zero => rw [List.replicate_zero, List.append_nil, ← List.cons_append, trim_ne _ _ hx, List.cons_append]
    | succ k ih => rw [List.replicate_succ', ← List.append_assoc, ← List.cons_append, trim_zero, ih]
theorem dval_eq_zero {ds : List Nat} (h : dval ds = 0) : trim ds = [] := by
  induction ds with
  | nil => rfl
  | cons d ds ih =>
    simp only [dval] at h
    rw [trim_cons, if_pos (ih (by omega)), if_pos (by omega)]
/-- What reads as n, without noughts behind, are its digits. -/
theorem trim_eq_dg : ∀ (ds : List Nat), Digs ds → trim ds = dg (dval ds)
  | [], _ => by simp [dval, dg_zero, trim]
  | d :: ds, h => by
    obtain ⟨h1, h2⟩ := digs_cons.1 h
    have ih := trim_eq_dg ds h2
    rw [trim_cons]
    by_cases hz : dval (d :: ds) = 0
    · have : dval ds = 0 := by simp only [dval] at hz; omega
      have : d = 0 := by simp only [dval] at hz; omega
      rw [hz, dg_zero, if_pos (dval_eq_zero ‹_›), if_pos this]
    · rw [dg_pos _ hz]
      have e1 : dval (d :: ds) % 65536 = d := by simp only [dval]; omega
      have e2 : dval (d :: ds) / 65536 = dval ds := by simp only [dval]; omega
      rw [e1, e2, ← ih]
      split
      · rename_i h0
        have hd : dval ds = 0 := by rw [← dval_trim, h0]; rfl
        rw [if_neg (by intro e; apply hz; simp only [dval]; omega), h0]
      · rfl
theorem dval_dg (n : Nat) : dval (dg n) = n := by
  induction n using Nat.strongRecOn with
  | _ n ih =>
    by_cases h : n = 0
    · subst h; rw [dg_zero]; rfl
    · rw [dg_pos n h]; simp only [dval]; rw [ih (n / 65536) (by omega)]; omega
theorem digs_dg (n : Nat) : Digs (dg n) := by
  induction n using Nat.strongRecOn with
  | _ n ih =>
    by_cases h : n = 0
    · subst h; rw [dg_zero]; intro d hd; cases hd
    · rw [dg_pos n h, digs_cons]; exact ⟨Nat.mod_lt _ (by omega), ih _ (by omega)⟩
theorem trim_dg (n : Nat) : trim (dg n) = dg n := by rw [trim_eq_dg _ (digs_dg n), dval_dg]
theorem dg_len_le (n k : Nat) : (dg n).length ≤ k ↔ n < 65536 ^ k := by
  induction k generalizing n with
  | zero =>
    by_cases h : n = 0
    · subst h; simp [dg_zero]
    · rw [dg_pos n h]; simp; omega
  | succ k ih =>
    by_cases h : n = 0
    · subst h; simp [dg_zero]; exact Nat.pow_pos (by omega)
    · rw [dg_pos n h]
      simp only [List.length_cons, Nat.add_le_add_iff_right, ih, Nat.pow_succ]
      exact Nat.div_lt_iff_lt_mul (by omega)
theorem dg_nil (n : Nat) : dg n = [] ↔ n = 0 := by
  constructor
  · intro h; have := dval_dg n; rw [h] at this; exact this.symm
  · rintro rfl; exact dg_zero
theorem dval_getD (ds : List Nat) (h : Digs ds) (i : Nat) : ds.getD i 0 = dval ds / 65536 ^ i % 65536 := by
  induction ds generalizing i with
  | nil => simp [dval]
  | cons d ds ih =>
    obtain ⟨h1, h2⟩ := digs_cons.1 h
    cases i with
    | zero => simp only [List.getD_cons_zero, dval, Nat.pow_zero, Nat.div_one]; omega
    | succ i =>
      rw [List.getD_cons_succ, ih h2]
      simp only [dval]
      rw [Nat.pow_succ', ← Nat.div_div_eq_div_mul]
      congr 2; omega
theorem dg_getD (n i : Nat) : (dg n).getD i 0 = n / 65536 ^ i % 65536 := by rw [dval_getD _ (digs_dg n), dval_dg]
end Go.Proofs.YtmopgcbhmkemjaaGreatDoor

namespace Go.Proofs.YtmopgcbhmkemjaaGreatDoor
open Go Go.RowKit
set_option linter.unusedSimpArgs false
set_option linter.unusedVariables false
set_option maxRecDepth 100000

abbrev i64 (n : Nat) : Value := .int .i64 (n : Int)
/-- Digits lie in a block from a cell on. -/
structure CellsAt (W : World) (b o : Nat) (ds : List Nat) : Prop where
  row : ∃ cs fr, W.heap[b]? = some (.cells cs 2 fr)
  at' : ∀ i, i < ds.length → W.cell? ⟨b, o + i, none⟩ = some (i64 (ds.getD i 0))
theorem CellsAt.lt {W : World} {b o : Nat} {ds : List Nat} (h : CellsAt W b o ds) : b < W.heap.size := by
  obtain ⟨cs, fr, h⟩ := h.row
  rcases Nat.lt_or_ge b W.heap.size with h1 | h1
  · exact h1
  · rw [Array.getElem?_eq_none h1] at h; cases h
theorem CellsAt.away {W : World} {b o k : Nat} {ds : List Nat} {cs : Array Value} {T : TypeId} (h : CellsAt W b o ds) (hB : Blk W k cs T) (hT : T ≠ 2) : k ≠ b := by
  rintro rfl
  obtain ⟨cs', fr, h⟩ := h.row
  unfold Blk at hB
  rw [hB] at h
  cases h; exact hT rfl
/-- A slice that reads as digits. -/
def SlV (W : World) (v : Value) (ds : List Nat) : Prop :=
  (∃ a cap, v = .slice a 0 cap ∧ ds = []) ∨ ∃ b o cap, v = .slice (some ⟨b, o, none⟩) ds.length cap ∧ CellsAt W b o ds
theorem CellsAt.ext {W W' : World} {b o : Nat} {ds : List Nat} (h : CellsAt W b o ds) (hx : Ext W W') : CellsAt W' b o ds :=
  ⟨by obtain ⟨cs, fr, h1⟩ := h.row; exact ⟨cs, fr, by rw [hx.block _ h.lt, h1]⟩, fun i hi => hx.cell (h.at' i hi)⟩
theorem CellsAt.set {W : World} {b o k j : Nat} {ds : List Nat} {cs : Array Value} {T : TypeId} {v : Value} (h : CellsAt W b o ds) (hB : Blk W k cs T) (hT : T ≠ 2) : CellsAt (W.setCell ⟨k, j, none⟩ v) b o ds := by
  have hne := h.away hB hT
  refine ⟨?_, fun i hi => ?_⟩
  · obtain ⟨cs, fr, h1⟩ := h.row
    exact ⟨cs, fr, by simp only [World.setCell, Array.getElem?_modify, if_neg hne, h1]⟩
  · rw [World.cell?_setCell_other _ _ _ _ (by intro e; cases e; exact hne rfl)]; exact h.at' i hi
theorem SlV.ext {W W' : World} {v : Value} {ds : List Nat} (h : SlV W v ds) (hx : Ext W W') : SlV W' v ds :=
  h.imp id fun ⟨b, o, cap, h1, h2⟩ => ⟨b, o, cap, h1, h2.ext hx⟩
theorem CellsAt.take {W : World} {b o : Nat} {ds : List Nat} (h : CellsAt W b o ds) (k : Nat) : CellsAt W b o (ds.take k) := ⟨h.row, fun i hi => by
  have hi' : i < k ∧ i < ds.length := by rw [List.length_take] at hi; omega
  have e : (ds.take k).getD i 0 = ds.getD i 0 := by simp [List.getD_eq_getElem?_getD, List.getElem?_take, hi'.1]
  rw [h.at' i hi'.2, e]⟩

/-! at -/
theorem at_in (b o cap i : Nat) (ds : List Nat) (hn : ds.length ≤ 1000000) (w : World) (h : CellsAt w b o ds) (hi : i < ds.length) :
    Calls Tryz.prog 119 #[.slice (some ⟨b, o, none⟩) ds.length cap, .int .i64 (i : Int)] w fun e w' => e = .returned (i64 (ds.getD i 0)) ∧ w' = w := by
  have hc := h.at' i hi
  generalize ds.getD i 0 = x at *
  generalize ds.length = n at *
  clear h
  go_enter Tryz.func119, Tryz.ntmps119
  go_wp2
  go_ret
  exact ⟨rfl, rfl⟩
theorem at_out (a : Option Addr) (n cap i : Nat) (hn : n ≤ 1000000) (w : World) (hi : n ≤ i) (h6 : i ≤ 1000000) :
    Calls Tryz.prog 119 #[.slice a n cap, .int .i64 (i : Int)] w fun e w' => e = .returned (.int .i64 0) ∧ w' = w := by
  have hc : ¬ i < n := by omega
  go_enter Tryz.func119, Tryz.ntmps119
  go_wp2
  go_ret
  exact ⟨rfl, rfl⟩
/-- A digit, or nought. -/
theorem at_any (v : Value) (ds : List Nat) (hn : ds.length ≤ 1000000) (i : Nat) (hi : i ≤ 1000000) (w : World) (h : SlV w v ds) :
    Calls Tryz.prog 119 #[v, .int .i64 (i : Int)] w fun e w' => e = .returned (i64 (ds.getD i 0)) ∧ w' = w := by
  rcases h with ⟨a, cap, rfl, rfl⟩ | ⟨b, o, cap, rfl, hc⟩
  · exact at_out a 0 cap i (by omega) w (by omega) hi
  · by_cases h : i < ds.length
    · exact at_in b o cap i ds hn w hc h
    · have := at_out (some ⟨b, o, none⟩) ds.length cap i hn w (by omega) hi
      rw [show ds.getD i 0 = 0 by simp [List.getD_eq_getElem?_getD, List.getElem?_eq_none (by omega : ds.length ≤ i)]]
      exact this

/-! cut -/
theorem cut_none (a : Option Addr) (cap : Nat) (w : World) :
    Calls Tryz.prog 118 #[.slice a 0 cap] w fun e w' => e = .returned (.slice a 0 cap) ∧ w' = w := by
  go_enter Tryz.func118, Tryz.ntmps118
  go_wp2
  refine wp_loop_rounds 1 ?_
  rw [rounds_succ]
  go_wp2
  go_ret
  exact ⟨rfl, rfl⟩
set_option maxHeartbeats 4000000 in
theorem cut_at (b o cap : Nat) (ds : List Nat) (hn : ds.length ≤ 1000000) (hcap : ds.length ≤ cap) (w : World) (h : CellsAt w b o ds) :
    Calls Tryz.prog 118 #[.slice (some ⟨b, o, none⟩) ds.length cap] w fun e w' => e = .returned (.slice (some ⟨b, o, none⟩) (trim ds).length cap) ∧ w' = w := by
  have HT : Hid (trim ds = trim ds) := Lib.hid rfl
  go_enter Tryz.func118, Tryz.ntmps118
  go_wp2
  go_loop [0] (fun v => ∃ k : Nat, k ≤ ds.length ∧ Hid (trim (ds.take k) = trim ds) ∧ v = .slice (some ⟨b, o, none⟩) k cap) (fun v => match v with | .slice _ n _ => n | _ => 0)
  case atStart => exact ⟨ds.length, Nat.le_refl _, Lib.hid (by rw [List.take_length]), rfl⟩
  case round =>
    obtain ⟨k, hk, HK, rfl⟩ := hrel
    by_cases h0 : k = 0
    · subst h0
      have e : (trim ds).length = 0 := by rw [← HK.out]; rfl
      have E := Lib.hid e
      clear HK h HT e
      go_wp2
      go_ret
      exact ⟨by rw [E.out]; rfl, rfl⟩
    · obtain ⟨j, rfl⟩ : ∃ j, k = j + 1 := ⟨k - 1, by omega⟩
      have hc := h.at' j (by omega)
      have e : ds.take (j + 1) = ds.take j ++ [ds.getD j 0] := by
        rw [List.take_succ_eq_append_getElem (by omega : j < ds.length)]; simp [List.getD_eq_getElem?_getD, List.getElem?_eq_getElem (by omega : j < ds.length)]
      by_cases hx : ds.getD j 0 = 0
      · have HK' : Hid (trim (ds.take j) = trim ds) := by have := HK.out; rw [e, hx, trim_zero] at this; exact Lib.hid this
        rw [hx] at hc
        clear HK h HT e hx
        go_wp2
        go_round
        case rel => exact ⟨j, by omega, HK', rfl⟩
        case measure => simp
      · have HK' : Hid ((trim ds).length = j + 1) := by have := HK.out; rw [e, trim_ne _ _ hx] at this; rw [← this]; exact Lib.hid (by simp; omega)
        have hx' : (((ds.getD j 0 : Nat) : Int) == 0) = false := by
          cases hb : (((ds.getD j 0 : Nat) : Int) == 0) with
          | false => rfl
          | true => exact absurd (by simpa using hb) hx
        generalize ds.getD j 0 = x at *
        clear HK h HT e hx
        go_wp2
        go_ret
        exact ⟨by rw [HK'.out]; rfl, rfl⟩
theorem SlV.set {W : World} {v : Value} {ds : List Nat} {k j : Nat} {cs : Array Value} {T : TypeId} {x : Value} (h : SlV W v ds) (hB : Blk W k cs T) (hT : T ≠ 2) : SlV (W.setCell ⟨k, j, none⟩ x) v ds :=
  h.imp id fun ⟨b, o, cap, h1, h2⟩ => ⟨b, o, cap, h1, h2.set hB hT⟩
def RetB (P : World → Value → Prop) (w : World) (e : Ending) (w' : World) : Prop := ∃ v, e = .returned v ∧ P w' v ∧ Ext w w'
/-- A slice of digits that is not longer than its room. -/
def SlC (W : World) (v : Value) (ds : List Nat) : Prop := SlV W v ds ∧ ∀ a n cap, v = .slice a n cap → n ≤ cap
theorem SlC.ext {W W' : World} {v : Value} {ds : List Nat} (h : SlC W v ds) (hx : Ext W W') : SlC W' v ds := ⟨h.1.ext hx, h.2⟩
theorem cut_ret (v : Value) (ds : List Nat) (hn : ds.length ≤ 1000000) (w : World) (h : SlC w v ds) :
    Calls Tryz.prog 118 #[v] w (RetB (fun W r => SlC W r (trim ds)) w) := by
  obtain ⟨h, hcap⟩ := h
  rcases h with ⟨a, cap, rfl, rfl⟩ | ⟨b, o, cap, rfl, hc⟩
  · exact (cut_none a cap w).mono fun e w' ⟨he, hw⟩ => ⟨_, he, by subst hw; exact ⟨.inl ⟨a, cap, rfl, rfl⟩, hcap⟩, by subst hw; exact Ext.refl _⟩
  · refine (cut_at b o cap ds hn (hcap _ _ _ rfl) w hc).mono fun e w' ⟨he, hw⟩ => ⟨_, he, ?_, by subst hw; exact Ext.refl _⟩
    subst hw
    refine ⟨.inr ⟨b, o, cap, rfl, ?_⟩, fun a n c h => ?_⟩
    · rw [trim_take]; exact hc.take _
    · cases h; exact Nat.le_trans (trim_le ds) (hcap _ _ _ rfl)
theorem SlC.len {W : World} {v : Value} {ds : List Nat} (h : SlC W v ds) : ∃ a cap, v = .slice a ds.length cap := by
  rcases h.1 with ⟨a, cap, rfl, rfl⟩ | ⟨b, o, cap, rfl, hc⟩
  · exact ⟨a, cap, rfl⟩
  · exact ⟨_, cap, rfl⟩
/-- A reference's number. -/
def BigV (W : World) (v : Value) (z : Int) : Prop := ∃ sl, v = .agg #[.bool (decide (z < 0)), sl] ∧ SlC W sl (dg z.natAbs)
theorem BigV.ext {W W' : World} {v : Value} {z : Int} (h : BigV W v z) (hx : Ext W W') : BigV W' v z := by
  obtain ⟨sl, h1, h2⟩ := h; exact ⟨sl, h1, h2.ext hx⟩
theorem BigV.mk {W : World} {sl : Value} {s : Bool} {n : Nat} (h : SlC W sl (dg n)) (hs : s = true → n ≠ 0) : BigV W (.agg #[.bool s, sl]) (sv s n) := by
  refine ⟨sl, ?_, by rw [sv_natAbs]; exact h⟩
  rw [sv_neg]
  cases s with
  | false => rfl
  | true => simp [hs rfl]
set_option maxHeartbeats 4000000 in
/-- A number of a sign and digits. -/
theorem of_ret (s : Bool) (v : Value) (ds : List Nat) (hn : ds.length ≤ 1000000) (hd : Digs ds) (w : World) (h : SlC w v ds) :
    Calls Tryz.prog 88 #[.bool s, v] w (RetB (fun W r => BigV W r (sv s (dval ds))) w) := by
  have cc := fun w h => cut_ret v ds hn w h
  have ht := trim_eq_dg ds hd
  have hl := Nat.le_trans (trim_le ds) hn
  have hnil := dg_nil (dval ds)
  rw [← ht] at hnil
  go_enter Tryz.func88, Tryz.ntmps88
  cases s
  all_goals
    go_wp2_with (go_at_call 118; refine (cc _ (h.ext ext_auto)).mono ?_; rintro e v1 ⟨r, rfl, hr, hz⟩; have hx1 : Ext w v1 := Ext.trans ext_auto hz; have BO : Blk v1 w.heap.size #[.bool false, .slice none 0 0] 42 := Blk.ext blk_auto hz; clear hz; have lBO := BO.lt; have cBO := BO.cell; have fBO := BO.frozen; obtain ⟨a, cap, rfl⟩ := hr.len)
    refine bp_rebase fun u hu => ?_
    have hy : Ext w u := by rw [hu]; exact ext_auto
    have hs : SlC u (.slice a (dg (dval ds)).length cap) (dg (dval ds)) := by
      rw [ht] at hr
      rw [hu]; exact ⟨(hr.1.set BO (by decide)).set (BO.setSame) (by decide), hr.2⟩
  · have BF : Blk u w.heap.size #[.bool false, .slice a (dg (dval ds)).length cap] 42 := by rw [hu]; exact blk_auto
    clear hu
    have lBF := BF.lt; have cBF := BF.cell; have fBF := BF.frozen; clear BF
    refine bodyPost_ret (v := .agg #[.bool false, .slice a (dg (dval ds)).length cap]) (by simp [results, Tryz.results88, go_sem, cBF]) rfl ⟨_, rfl, ?_, hy⟩
    exact BigV.mk hs (by intro h; cases h)
  · have BF : Blk u w.heap.size #[.bool (decide (0 < (dg (dval ds)).length)), .slice a (dg (dval ds)).length cap] 42 := by rw [hu]; exact blk_auto
    clear hu
    have lBF := BF.lt; have cBF := BF.cell; have fBF := BF.frozen; clear BF
    refine bodyPost_ret (v := .agg #[.bool (decide (0 < (dg (dval ds)).length)), .slice a (dg (dval ds)).length cap]) (by simp [results, Tryz.results88, go_sem, cBF]) rfl ⟨_, rfl, ?_, hy⟩
    refine ⟨_, ?_, by rw [sv_natAbs]; exact hs⟩
    have e : decide (0 < (dg (dval ds)).length) = decide (sv true (dval ds) < 0) := by
      rw [sv_neg, Bool.true_and]
      have := dg_nil (dval ds)
      by_cases h0 : dval ds = 0
      · simp [h0, dg_zero]
      · have h1 : dg (dval ds) ≠ [] := fun h => h0 (this.1 h)
        have := List.length_pos_iff.2 h1
        simp [h0, this]
    rw [e]
end Go.Proofs.YtmopgcbhmkemjaaGreatDoor

namespace Go.Proofs.YtmopgcbhmkemjaaGreatDoor
open Go Go.RowKit
set_option linter.unusedSimpArgs false
set_option linter.unusedVariables false
set_option maxRecDepth 100000

theorem dg_len_lt (m n : Nat) (h : (dg m).length < (dg n).length) : m < n := by
  have h1 := (dg_len_le m (dg m).length).1 (Nat.le_refl _)
  rcases Nat.lt_or_ge m n with h2 | h2
  · exact h2
  · have := (dg_len_le n (dg m).length).2 (Nat.lt_of_le_of_lt h2 h1)
    omega
theorem div_step (m i : Nat) : m / 65536 ^ i = 65536 * (m / 65536 ^ (i + 1)) + m / 65536 ^ i % 65536 := by
  rw [Nat.pow_succ, ← Nat.div_div_eq_div_mul]; omega
theorem lt_of_div {m n k : Nat} (h : m / k < n / k) : m < n := by
  rcases Nat.lt_or_ge m n with h2 | h2
  · exact h2
  · have := Nat.div_le_div_right (c := k) h2; omega
theorem mags_len (a b : Option Addr) (n1 n2 c1 c2 : Nat) (h1 : n1 ≤ 1000000) (h2 : n2 ≤ 1000000) (hne : n1 ≠ n2) (w : World) :
    Calls Tryz.prog 90 #[.slice a n1 c1, .slice b n2 c2] w fun e w' => e = .returned (.int .i64 (cmp3 n1 n2)) ∧ w' = w := by
  have hb : (((n1 : Int) != (n2 : Int))) = true := by simp; omega
  unfold cmp3
  by_cases h : n1 < n2
  · rw [if_pos h]
    go_enter Tryz.func90, Tryz.ntmps90
    go_wp2
    go_ret
    exact ⟨rfl, rfl⟩
  · have h' : n2 < n1 := by omega
    rw [if_neg h, if_pos h']
    go_enter Tryz.func90, Tryz.ntmps90
    go_wp2
    go_ret
    exact ⟨rfl, rfl⟩
set_option maxHeartbeats 4000000 in
theorem mags_same (m n b1 o1 c1 b2 o2 c2 L : Nat) (hL : L ≤ 1000000) (e1 : (dg m).length = L) (e2 : (dg n).length = L) (w : World) (k1 : L ≠ 0 → CellsAt w b1 o1 (dg m)) (k2 : L ≠ 0 → CellsAt w b2 o2 (dg n)) (a1 a2 : Option Addr) (p1 : L ≠ 0 → a1 = some ⟨b1, o1, none⟩) (p2 : L ≠ 0 → a2 = some ⟨b2, o2, none⟩) :
    Calls Tryz.prog 90 #[.slice a1 L c1, .slice a2 L c2] w fun e w' => e = .returned (.int .i64 (cmp3 m n)) ∧ Ext w w' := by
  have hb : (((L : Int) != (L : Int))) = false := by simp
  have q1 := (dg_len_le m L).1 (by omega)
  have q2 := (dg_len_le n L).1 (by omega)
  have P1 := Lib.hid p1
  have P2 := Lib.hid p2
  have E1 := Lib.hid e1
  have E2 := Lib.hid e2
  clear p1 p2 e1 e2
  have Q0 : Hid (m / 65536 ^ L = n / 65536 ^ L) := Lib.hid (by rw [Nat.div_eq_of_lt q1, Nat.div_eq_of_lt q2])
  clear q1 q2
  go_enter Tryz.func90, Tryz.ntmps90
  go_wp2
  go_loopg [5] (L + 1) (fun g i wr => ∃ (k : Nat) (d : Gr), g = k + 1 ∧ k ≤ L ∧ Hid (m / 65536 ^ k = n / 65536 ^ k) ∧ i = .int .i64 ((k : Int) - 1) ∧ wr = grow w d)
  case atStart => exact ⟨L, ⟨#[], fun k => k⟩, rfl, Nat.le_refl _, Q0, rfl, (grow_none _).symm⟩
  case round =>
    obtain ⟨k, d, hg, hk, HK, rfl, rfl⟩ := hrel
    rcases k with _ | j
    · have HM : Hid (m = n) := by have := HK.out; simp at this; exact Lib.hid this
      have hc : cmp3 m n = 0 := by rw [HM.out]; simp [cmp3]
      have HC := Lib.hid hc
      clear HK hc k1 k2
      go_wp2
      go_ret
      exact ⟨by rw [HC.out]; rfl, ext_auto⟩
    · have hL0 : L ≠ 0 := by omega
      have hjL : j < L := by omega
      have g1 := (k1 hL0).at' j (by rw [E1.out]; omega)
      have g2 := (k2 hL0).at' j (by rw [E2.out]; omega)
      have l1 := (k1 hL0).lt
      have l2 := (k2 hL0).lt
      have r1 := P1.out hL0
      have r2 := P2.out hL0
      rw [dg_getD] at g1 g2
      have S1 := Lib.hid (div_step m j)
      have S2 := Lib.hid (div_step n j)
      subst r1 r2
      generalize hx1 : m / 65536 ^ j % 65536 = x1 at *
      generalize hx2 : n / 65536 ^ j % 65536 = x2 at *
      have X1 := Lib.hid hx1
      have X2 := Lib.hid hx2
      clear hx1 hx2 k1 k2
      by_cases hlt : x1 < x2
      · have HC : Hid (cmp3 m n = -1) := by
          have h1 := S1.out; have h2 := S2.out; have h3 := HK.out
          have : m / 65536 ^ j < n / 65536 ^ j := by omega
          exact Lib.hid (by rw [cmp3, if_pos (lt_of_div this)])
        clear HK S1 S2
        go_wp2
        (first | refine wp_region_k' [.p, .p, .p, .r, .p, .p, .p, .r, .p] (by kernel_rfl) (by kernel_rfl) ?_ | refine wp_region_k [.p, .p, .p, .r, .p, .p, .p, .r, .p] (by kernel_rfl) (by kernel_rfl) ?_); (repeat (first | (refine wpK_p rfl (fun K hK => ?_); go_simp; refine hK _ _ ?_; clear hK K) | (refine wpK_r rfl (fun K hK => ?_); go_simp; refine hK _ _ ?_; clear hK K) | (refine wpK_w rfl (fun K hK => ?_); go_simp; refine hK _ _ ?_; clear hK K))); refine wpK_nil ?_; intro d
        go_wp2
        go_ret
        exact ⟨by rw [HC.out]; rfl, ext_auto⟩
      · by_cases hgt : x2 < x1
        · have HC : Hid (cmp3 m n = 1) := by
            have h1 := S1.out; have h2 := S2.out; have h3 := HK.out
            have : n / 65536 ^ j < m / 65536 ^ j := by omega
            have := lt_of_div this
            exact Lib.hid (by rw [cmp3, if_neg (by omega), if_pos this])
          clear HK S1 S2
          go_wp2
          (first | refine wp_region_k' [.p, .p, .p, .r, .p, .p, .p, .r, .p] (by kernel_rfl) (by kernel_rfl) ?_ | refine wp_region_k [.p, .p, .p, .r, .p, .p, .p, .r, .p] (by kernel_rfl) (by kernel_rfl) ?_); (repeat (first | (refine wpK_p rfl (fun K hK => ?_); go_simp; refine hK _ _ ?_; clear hK K) | (refine wpK_r rfl (fun K hK => ?_); go_simp; refine hK _ _ ?_; clear hK K) | (refine wpK_w rfl (fun K hK => ?_); go_simp; refine hK _ _ ?_; clear hK K))); refine wpK_nil ?_; intro d
          go_wp2
          (first | refine wp_region_k' [.p, .p, .p, .r, .p, .p, .p, .r, .p] (by kernel_rfl) (by kernel_rfl) ?_ | refine wp_region_k [.p, .p, .p, .r, .p, .p, .p, .r, .p] (by kernel_rfl) (by kernel_rfl) ?_); (repeat (first | (refine wpK_p rfl (fun K hK => ?_); go_simp; refine hK _ _ ?_; clear hK K) | (refine wpK_r rfl (fun K hK => ?_); go_simp; refine hK _ _ ?_; clear hK K) | (refine wpK_w rfl (fun K hK => ?_); go_simp; refine hK _ _ ?_; clear hK K))); refine wpK_nil ?_; intro d
          go_wp2
          go_ret
          exact ⟨by rw [HC.out]; rfl, ext_auto⟩
        · have HK' : Hid (m / 65536 ^ j = n / 65536 ^ j) := by
            have h1 := S1.out; have h2 := S2.out; have h3 := HK.out
            exact Lib.hid (by omega)
          clear HK S1 S2
          go_wp2
          (first | refine wp_region_k' [.p, .p, .p, .r, .p, .p, .p, .r, .p] (by kernel_rfl) (by kernel_rfl) ?_ | refine wp_region_k [.p, .p, .p, .r, .p, .p, .p, .r, .p] (by kernel_rfl) (by kernel_rfl) ?_); (repeat (first | (refine wpK_p rfl (fun K hK => ?_); go_simp; refine hK _ _ ?_; clear hK K) | (refine wpK_r rfl (fun K hK => ?_); go_simp; refine hK _ _ ?_; clear hK K) | (refine wpK_w rfl (fun K hK => ?_); go_simp; refine hK _ _ ?_; clear hK K))); refine wpK_nil ?_; intro d
          go_wp2
          (first | refine wp_region_k' [.p, .p, .p, .r, .p, .p, .p, .r, .p] (by kernel_rfl) (by kernel_rfl) ?_ | refine wp_region_k [.p, .p, .p, .r, .p, .p, .p, .r, .p] (by kernel_rfl) (by kernel_rfl) ?_); (repeat (first | (refine wpK_p rfl (fun K hK => ?_); go_simp; refine hK _ _ ?_; clear hK K) | (refine wpK_r rfl (fun K hK => ?_); go_simp; refine hK _ _ ?_; clear hK K) | (refine wpK_w rfl (fun K hK => ?_); go_simp; refine hK _ _ ?_; clear hK K))); refine wpK_nil ?_; intro d
          go_wp2
          go_roundg (j + 1)
          case measure => omega
          case rel => exact ⟨j, _, rfl, by omega, HK', by go_num, rfl⟩
theorem cmp3_len (m n : Nat) (h : (dg m).length ≠ (dg n).length) : cmp3 (dg m).length (dg n).length = cmp3 m n := by
  unfold cmp3
  rcases Nat.lt_or_gt_of_ne h with h1 | h1
  · rw [if_pos h1, if_pos (dg_len_lt m n h1)]
  · rw [if_neg (by omega), if_pos h1, if_neg (by have := dg_len_lt n m h1; omega), if_pos (dg_len_lt n m h1)]
/-- Magnitudes are compared. -/
theorem mags_dg (m n : Nat) (v1 v2 : Value) (h1 : (dg m).length ≤ 1000000) (h2 : (dg n).length ≤ 1000000) (w : World) (s1 : SlC w v1 (dg m)) (s2 : SlC w v2 (dg n)) :
    Calls Tryz.prog 90 #[v1, v2] w fun e w' => e = .returned (.int .i64 (cmp3 m n)) ∧ Ext w w' := by
  by_cases hne : (dg m).length = (dg n).length
  · have hfst : ∀ {v ds}, SlV w v ds → ∃ a b o c, v = .slice a ds.length c ∧ (ds.length ≠ 0 → CellsAt w b o ds) ∧ (ds.length ≠ 0 → a = some ⟨b, o, none⟩) := fun {v ds} h => by
      rcases h with ⟨a, cap, rfl, rfl⟩ | ⟨b, o, cap, rfl, hc⟩
      · exact ⟨a, 0, 0, cap, rfl, fun h => absurd rfl h, fun h => absurd rfl h⟩
      · exact ⟨_, b, o, cap, rfl, fun _ => hc, fun _ => rfl⟩
    obtain ⟨a1, b1, o1, c1, rfl, k1, p1⟩ := hfst s1.1
    obtain ⟨a2, b2, o2, c2, rfl, k2, p2⟩ := hfst s2.1
    rw [← hne]
    exact mags_same m n b1 o1 c1 b2 o2 c2 (dg m).length h1 rfl hne.symm w k1 (by rw [hne]; exact k2) a1 a2 p1 (by rw [hne]; exact p2)
  · obtain ⟨a1, c1, rfl⟩ := s1.len
    obtain ⟨a2, c2, rfl⟩ := s2.len
    rw [← cmp3_len m n hne]
    exact (mags_len a1 a2 _ _ c1 c2 h1 h2 hne w).mono fun e w' ⟨he, hw⟩ => ⟨he, by subst hw; exact Ext.refl _⟩
end Go.Proofs.YtmopgcbhmkemjaaGreatDoor

namespace Go.Proofs.YtmopgcbhmkemjaaGreatDoor
open Go Go.RowKit
set_option linter.unusedSimpArgs false
set_option linter.unusedVariables false
set_option linter.constructorNameAsVariable false
section
variable {P : Program} {ops : Array Oper} {md : Region.Mode}

/-- The loads in the text's order, in whatever world has grown from W. -/
def wpHL (P : Program) (W : World) : List Oper → Act → (Act → Prop) → Prop
  | [], a, F => F a
  | o :: l, a, F => ∃ v, (∀ d, (execOp a.eval o).run P (grow W d) = .ok (.value v) (grow W d)) ∧ wpHL P W l (a.put o.dst v) F
/-- The chain behind them. -/
def wpT (P : Program) (W : World) (E : Act → World → Prop) : List Oper → Act → World → Prop
  | [], a, w => E a w
  | o :: l, a, w => (∃ v, (execOp a.eval o).run P w = .ok (.value v) w ∧ wpT P W E l (a.put o.dst v) w) ∨
    (∃ v w', (execOp a.eval o).run P w = .ok (.value v) w' ∧ Ext W w' ∧ wpT P W E l (a.put o.dst v) w') ∨
    (∃ f args, (execOp a.eval o).run P w = .ok (.enter f args) w ∧ Calls P f args w fun e w' => ∃ v, e = .returned v ∧ Ext W w' ∧ wpT P W E l (a.put o.dst v) w')

def opAt (ops : Array Oper) (i : Nat) : Oper := ops.getD i default
theorem opAt_eq {i : Nat} {o : Oper} (h : ops[i]? = some o) : opAt ops i = o := by simp [opAt, Array.getD_eq_getD_getElem?, h]
def fill (ops : Array Oper) (val : Nat → Value) : List Nat → Act → Act
  | [], a => a
  | h :: hs, a => fill ops val hs (a.put (opAt ops h).dst (val h))

def dstsB (ops : Array Oper) (n : Nat) : Bool :=
  (List.range n).all fun i => (List.range n).all fun j => i == j || (match (opAt ops i).dst, (opAt ops j).dst with | some x, some y => x != y | _, _ => true)
theorem dstsB_spec {n : Nat} (h : dstsB ops n = true) {i j : Nat} (hi : i < n) (hj : j < n) (hne : i ≠ j) : ∀ d, (opAt ops i).dst = some d → (opAt ops j).dst ≠ some d := by
  intro d hd hd'
  have h1 := List.all_eq_true.1 (List.all_eq_true.1 h i (List.mem_range.2 hi)) j (List.mem_range.2 hj)
  rw [hd, hd'] at h1
  simp [hne] at h1
def looksB (md : Region.Mode) (ops : Array Oper) (n : Nat) : Bool :=
  (List.range n).all fun i => (List.range n).all fun j => Region.waitsFor md ops i j || (match (opAt ops j).dst with | some d => !((opAt ops i).looksAt ops).contains d | none => true)
theorem looksB_spec {n : Nat} (h : looksB md ops n = true) {i j : Nat} (hi : i < n) (hj : j < n) (hw : Region.waitsFor md ops i j = false) : ∀ d, (opAt ops j).dst = some d → d ∉ (opAt ops i).looksAt ops := by
  intro d hd
  have h1 := List.all_eq_true.1 (List.all_eq_true.1 h i (List.mem_range.2 hi)) j (List.mem_range.2 hj)
  rw [hw, hd] at h1
  simpa using h1

theorem fill_put {val : Nat → Value} {n : Nat} (hd : dstsB ops n = true) {i : Nat} (hi : i < n) (v : Value) : ∀ (hs : List Nat) (a : Act), (∀ h ∈ hs, h < n ∧ h ≠ i) → fill ops val hs (a.put (opAt ops i).dst v) = (fill ops val hs a).put (opAt ops i).dst v
  | [], a, _ => rfl
  | h :: hs, a, H => by
    simp only [fill]
    rw [Act.put_comm a v (val h) (dstsB_spec hd hi (H h (by simp)).1 (Ne.symm (H h (by simp)).2))]
    exact fill_put hd hi v hs _ (fun k hk => H k (by simp [hk]))
theorem fill_erase {val : Nat → Value} {n : Nat} (hd : dstsB ops n = true) {i : Nat} (hi : i < n) : ∀ (hs : List Nat) (a : Act), (∀ h ∈ hs, h < n) → i ∈ hs → fill ops val (hs.erase i) (a.put (opAt ops i).dst (val i)) = fill ops val hs a
  | [], a, _, h => by cases h
  | h :: hs, a, H, hm => by
    by_cases e : h = i
    · subst e; simp [fill]
    · rw [List.erase_cons_tail (by simpa using e)]
      simp only [fill]
      rw [Act.put_comm a (val i) (val h) (dstsB_spec hd hi (H h (by simp)) (Ne.symm e))]
      refine fill_erase hd hi hs _ (fun k hk => H k (by simp [hk])) ?_
      rcases List.mem_cons.1 hm with h1 | h1
      · exact absurd h1.symm e
      · exact h1
theorem exec_fill {val : Nat → Value} {o : Oper} (hs' : ∀ cs b, o.op ≠ .select cs b) : ∀ (hs : List Nat) (a : Act), (∀ h ∈ hs, ∀ d, (opAt ops h).dst = some d → d ∉ o.looksAt ops) → execOp (fill ops val hs a).eval o = execOp a.eval o
  | [], a, _ => rfl
  | h :: hs, a, H => by
    simp only [fill]
    rw [exec_fill hs' hs _ (fun k hk => H k (by simp [hk])), execOp_put o hs' a _ _ (H h (by simp))]

theorem wpHL_fill {n : Nat} (hsel : ∀ i cs b, (opAt ops i).op ≠ .select cs b) (hl : looksB md ops n = true) {W : World} {F : Act → Prop} :
    ∀ (hs : List Nat) (a : Act), hs.Nodup → (∀ h ∈ hs, h < n) → hs.Pairwise (fun h j => Region.waitsFor md ops h j = false) → (∀ h ∈ hs, Region.waitsFor md ops h h = false) → wpHL P W (hs.map (opAt ops)) a F →
      ∃ val, F (fill ops val hs a) ∧ ∀ h ∈ hs, ∀ d, (execOp (fill ops val hs a).eval (opAt ops h)).run P (grow W d) = .ok (.value (val h)) (grow W d)
  | [], a, _, _, _, _, h => ⟨fun _ => undef, h, fun h hh => by cases hh⟩
  | h :: hs, a, hnd, hn, hp, hself, H => by
    simp only [List.map_cons, wpHL] at H
    obtain ⟨v, hv, H⟩ := H
    obtain ⟨hnm, hnd'⟩ := List.nodup_cons.1 hnd
    obtain ⟨hp1, hp'⟩ := List.pairwise_cons.1 hp
    obtain ⟨val', h1, h2⟩ := wpHL_fill hsel hl hs _ hnd' (fun k hk => hn k (by simp [hk])) hp' (fun k hk => hself k (by simp [hk])) H
    have hfe : ∀ (l : List Nat) (b : Act), h ∉ l → fill ops (fun k => if k = h then v else val' k) l b = fill ops val' l b := by
      intro l
      induction l with
      | nil => intro b _; rfl
      | cons k l ih =>
        intro b hb
        simp only [List.mem_cons, not_or] at hb
        simp only [fill, if_neg (Ne.symm hb.1)]
        exact ih _ hb.2
    refine ⟨fun k => if k = h then v else val' k, ?_, ?_⟩
    · simp only [fill, if_true]
      rw [hfe hs _ hnm]; exact h1
    · intro k hk d
      simp only [fill, if_true]
      rw [hfe hs _ hnm]
      by_cases e : k = h
      · subst e
        rw [if_pos rfl]
        rw [exec_fill (hsel k) hs _ (fun j hj => looksB_spec hl (hn k (by simp)) (hn j (by simp [hj])) (hp1 j hj)), execOp_put _ (hsel k) a _ _ (looksB_spec hl (hn k (by simp)) (hn k (by simp)) (hself k (by simp)))]
        exact hv d
      · rw [if_neg e]
        refine h2 k ?_ d
        rcases List.mem_cons.1 hk with h3 | h3
        · exact absurd h3 e
        · exact h3

/-- What is asked of a region: the loads H, the chain C, the end behind n. -/
def hcB (md : Region.Mode) (ops : Array Oper) (n : Nat) (H C : List Nat) : Bool :=
  Region.noSelect ops && decide (n ≤ ops.size) && dstsB ops n && looksB md ops n && (List.range ops.size).all (fun t => decide (t < n) || (List.range n).all fun i => anc md ops 6 t i) &&
  (List.range n).all (fun i => (opAt ops i).guard.isNone && (H.contains i != C.contains i)) && H.all (· < n) && C.all (· < n) &&
  H.all (fun h => (opAt ops h).after.all fun e => !Region.binds md e || (H.contains e.on && decide (e.on < h))) &&
  (List.range C.length).all (fun k => (opAt ops (C.getD k 0)).after.all fun e => !Region.binds md e || H.contains e.on || (C.take k).contains e.on) &&
  (List.range (C.length - 1)).all (fun k => Region.waitsFor md ops (C.getD (k + 1) 0) (C.getD k 0)) &&
  decide (H.Pairwise (· < ·)) && decide C.Nodup &&
  Region.seqB md ops (ops.size - n) n ((Array.range ops.size).map fun i => decide (i < n))

structure Inv7 (md : Region.Mode) (ops : Array Oper) (n : Nat) (H C : List Nat) (listed : Array Bool) (pend mid : List Nat) : Prop where
  size : listed.size = ops.size
  low : ∀ i, i < n → (listed.getD i false = false ↔ i ∈ pend ∨ i ∈ mid)
  high : ∀ i, n ≤ i → listed.getD i false = false
  ph : ∀ h ∈ pend, h ∈ H
  pp : pend.Pairwise (· < ·)
  mc : ∃ k, mid = C.drop k
  clo : Clo md ops listed
structure HC (md : Region.Mode) (ops : Array Oper) (n : Nat) (H C : List Nat) : Prop where
  sel : ∀ i cs b, (opAt ops i).op ≠ .select cs b
  nsz : n ≤ ops.size
  ds : dstsB ops n = true
  lk : looksB md ops n = true
  aw : ∀ t, t < ops.size → n ≤ t → ∀ i, i < n → anc md ops 6 t i = true
  gd : ∀ i, i < n → (opAt ops i).guard = none
  part : ∀ i, i ∈ H → i ∈ C → False
  hn : ∀ h ∈ H, h < n
  cn : ∀ c ∈ C, c < n
  all : ∀ i, i < n → i ∈ H ∨ i ∈ C
  hcl : ∀ h ∈ H, ∀ e ∈ (opAt ops h).after, Region.binds md e = true → e.on ∈ H ∧ e.on < h
  ccl : ∀ k, k < C.length → ∀ e ∈ (opAt ops (C.getD k 0)).after, Region.binds md e = true → e.on ∈ H ∨ e.on ∈ C.take k
  chain : ∀ k, k + 1 < C.length → Region.waitsFor md ops (C.getD (k + 1) 0) (C.getD k 0) = true
  hp : H.Pairwise (· < ·)
  cnd : C.Nodup
  seq : Region.seqB md ops (ops.size - n) n ((Array.range ops.size).map fun i => decide (i < n)) = true
theorem hcB_spec {n : Nat} {H C : List Nat} (h : hcB md ops n H C = true) : HC md ops n H C := by
  simp only [hcB, Bool.and_eq_true, decide_eq_true_eq, List.all_eq_true, List.mem_range, Array.all_eq_true', Bool.or_eq_true, Bool.not_eq_true', bne_iff_ne, ne_eq, Option.isNone_iff_eq_none, List.contains_iff_mem] at h
  obtain ⟨⟨⟨⟨⟨⟨⟨⟨⟨⟨⟨⟨⟨h1, h2⟩, h3⟩, h4⟩, h5⟩, h6⟩, h7⟩, h8⟩, h9⟩, h10⟩, h11⟩, h12⟩, h13⟩, h14⟩ := h
  have hpart : ∀ i, i ∈ H → i ∈ C → False := fun i hi hc => (h6 i (h7 i hi)).2 (by simp [List.contains_iff_mem, hi, hc])
  refine ⟨fun i cs b => ?_, h2, h3, h4, fun t ht hn i hi => ((h5 t ht).resolve_left (by omega)) i hi, fun i hi => (h6 i hi).1, hpart, h7, h8, fun i hi => ?_, fun x hx e he hb => ?_, fun k hk e he hb => ?_, fun k hk => h11 k (by omega), h12, h13, h14⟩
  · cases ho : ops[i]? with
    | none => simp [opAt, Array.getD_eq_getD_getElem?, ho, default, instInhabitedOper.default, instInhabitedOp.default]
    | some o => rw [opAt_eq ho]; exact Region.noSelect_spec h1 i o cs b ho
  · have := (h6 i hi).2
    by_cases hH : i ∈ H
    · exact .inl hH
    · right
      by_cases hC : i ∈ C
      · exact hC
      · exact absurd (by simp [hH, hC]) this
  · rcases h9 x hx e he with h | h
    · rw [hb] at h; cases h
    · exact h
  · rcases h10 k hk e he with (h | h) | h
    · rw [hb] at h; cases h
    · exact .inl h
    · exact .inr h

theorem waits_listed {listed : Array Bool} {i j : Nat} (hr : i ∈ Region.ready md ops listed) (hw : Region.waitsFor md ops i j = true) : listed.getD j false = true := by
  obtain ⟨_, o, ho, hall⟩ := mem_ready.1 hr
  obtain ⟨o', ho', e, he, hb, hon⟩ := Region.waitsFor_spec hw
  obtain rfl : o' = o := Option.some.inj (ho'.symm.trans ho)
  rw [← hon]; exact hall e he hb
theorem waitsFor_of {i : Nat} {e : Edge} (hi : i < ops.size) {j : Nat} (hw : Region.waitsFor md ops i j = true) : ∃ e ∈ (opAt ops i).after, Region.binds md e = true ∧ e.on = j := by
  obtain ⟨o, ho, h⟩ := Region.waitsFor_spec hw
  rw [opAt_eq ho]; exact h
theorem getD_set_same {listed : Array Bool} {i : Nat} (hi : i < listed.size) : (listed.setIfInBounds i true).getD i false = true := by
  simp [Array.getD_eq_getD_getElem?, Array.getElem?_setIfInBounds, hi]
theorem getD_false_true {listed : Array Bool} {i : Nat} (hi : i < listed.size) (h : listed.getD i true = false) : listed.getD i false = false := by
  simp [hi] at h ⊢; exact h

theorem wpAny_of_hc {n : Nat} {H C : List Nat} (hB : HC md ops n H C) {W : World} {val : Nat → Value} {Q : Exit → Act → World → Prop} {E : Act → World → Prop} (hE : ∀ a w, E a w → wpList P ops Q (ops.toList.drop n) a w) :
    ∀ (f : Nat) (pend mid : List Nat) (listed : Array Bool) (a A : Act) (w : World), f = pend.length + mid.length → Inv7 md ops n H C listed pend mid → A = fill ops val pend a →
      (∀ h ∈ pend, ∀ d, (execOp A.eval (opAt ops h)).run P (grow W d) = .ok (.value (val h)) (grow W d)) → Ext W w → wpT P W E (mid.map (opAt ops)) A w → wpAny P md ops Q (f + (ops.size - n)) listed a w := by
  intro f
  have hop : ∀ i, i < n → ops[i]? = some (opAt ops i) := fun i hi => by
    have : i < ops.size := Nat.lt_of_lt_of_le hi hB.nsz
    simp [opAt, Array.getD_eq_getD_getElem?, this]
  have hwt : ∀ i, i < n → ∀ a : Act, Region.wanted (opAt ops i) (yielded ops a.tmps) = true := fun i hi a => by simp [Region.wanted, hB.gd i hi]
  induction f with
  | zero =>
    intro pend mid listed a A w hf inv hA _ _ hT
    obtain rfl : pend = [] := List.length_eq_zero_iff.1 (by omega)
    obtain rfl : mid = [] := List.length_eq_zero_iff.1 (by omega)
    simp only [fill] at hA
    subst hA
    have hl : listed = (Array.range ops.size).map fun i => decide (i < n) := by
      apply Array.ext
      · simp [inv.size]
      · intro i h1 h2
        have hi : i < ops.size := by simpa using h2
        simp only [Array.getElem_map, Array.getElem_range]
        by_cases hin : i < n
        · have := inv.low i hin
          simp [h1] at this
          simp [hin, this]
        · have := inv.high i (by omega)
          simp [h1] at this
          simp [hin, this]
    have := wpAny_of_seq (md := md) (Q' := Q) (ops.toList.drop n) n listed A w (fun j => by simp [List.getElem?_drop]) (by rw [hl]; simpa using hB.seq) (hE _ _ hT)
    simpa using this
  | succ f ih =>
    intro pend mid listed a A w hf inv hA hV hx hT
    rw [show f + 1 + (ops.size - n) = (f + (ops.size - n)) + 1 by omega]
    obtain ⟨k, hmid⟩ := inv.mc
    have hmC : ∀ x ∈ mid, x ∈ C := fun x hx => by rw [hmid] at hx; exact List.mem_of_mem_drop hx
    have hpd : pend.Nodup := inv.pp.imp (fun h => Nat.ne_of_lt h)
    have unl : ∀ j, j < n → (j ∈ pend ∨ j ∈ mid) → listed.getD j true = false := fun j hj h => getD_in (by rw [inv.size]; exact Nat.lt_of_lt_of_le hj hB.nsz) ((inv.low j hj).2 h)
    -- somebody is left
    have hsome : ∃ j, j < n ∧ listed.getD j true = false := by
      cases pend with
      | cons h ps => exact ⟨h, hB.hn h (inv.ph h (by simp)), unl h (hB.hn h (inv.ph h (by simp))) (by simp)⟩
      | nil =>
        cases mid with
        | cons t ms => exact ⟨t, hB.cn t (hmC t (by simp)), unl t (hB.cn t (hmC t (by simp))) (by simp)⟩
        | nil => simp at hf
    refine ⟨fun h0 => ?_, fun i hi => ?_⟩
    · exfalso
      cases pend with
      | cons h ps =>
        have hH := inv.ph h (by simp)
        have hhn := hB.hn h hH
        have : h ∈ Region.ready md ops listed := mem_ready.2 ⟨unl h hhn (by simp), opAt ops h, hop h hhn, fun e he hb => by
          obtain ⟨h1, h2⟩ := hB.hcl h hH e he hb
          cases hg : listed.getD e.on false with
          | true => rfl
          | false =>
            rcases (inv.low e.on (by omega)).1 hg with h3 | h3
            · rcases List.mem_cons.1 h3 with h4 | h4
              · omega
              · have := (List.pairwise_cons.1 inv.pp).1 _ h4; omega
            · exact (hB.part _ h1 (hmC _ h3)).elim⟩
        rw [h0] at this; cases this
      | nil =>
        cases mid with
        | nil => simp at hf
        | cons t ms =>
          have htn := hB.cn t (hmC t (by simp))
          have hkl : k < C.length := by
            rcases Nat.lt_or_ge k C.length with h | h
            · exact h
            · rw [List.drop_eq_nil_of_le h] at hmid; cases hmid
          have htk : C.getD k 0 = t := by
            have := congrArg (fun l => l[0]?) hmid
            simp [List.getElem?_drop] at this
            simp [List.getD_eq_getElem?_getD, ← this]
          have : t ∈ Region.ready md ops listed := mem_ready.2 ⟨unl t htn (by simp), opAt ops t, hop t htn, fun e he hb => by
            have h1 := hB.ccl k hkl e (by rw [htk]; exact he) hb
            have hen : e.on < n := h1.elim (hB.hn _) (fun h => hB.cn _ (List.mem_of_mem_take h))
            cases hg : listed.getD e.on false with
            | true => rfl
            | false =>
              rcases (inv.low e.on hen).1 hg with h3 | h3
              · cases h3
              · rcases h1 with h1 | h1
                · exact (hB.part _ h1 (hmC _ h3)).elim
                · rw [hmid] at h3
                  have := hB.cnd
                  rw [← List.take_append_drop k C, List.nodup_append] at this
                  exact (this.2.2 _ h1 _ h3 rfl).elim⟩
          rw [h0] at this; cases this
    · have hir := mem_ready.1 hi
      have hin : i < n := by
        rcases Nat.lt_or_ge i n with h | h
        · exact h
        · obtain ⟨j, hj, hu⟩ := hsome
          have hsz : i < ops.size := (Array.getElem?_eq_some_iff.1 hir.2.choose_spec.1).1
          have h1 := hB.aw i hsz h j hj
          rw [anc_ready inv.clo hi hu] at h1; cases h1
      have hisz : i < listed.size := by rw [inv.size]; exact Nat.lt_of_lt_of_le hin hB.nsz
      have hlook : ∀ h ∈ pend, ∀ d, (opAt ops h).dst = some d → d ∉ (opAt ops i).looksAt ops := fun h hh => looksB_spec hB.lk hin (hB.hn h (inv.ph h hh)) (by
        cases hw : Region.waitsFor md ops i h with
        | false => rfl
        | true =>
          have := waits_listed hi hw
          have h2 := (inv.low h (hB.hn h (inv.ph h hh))).2 (.inl hh)
          rw [h2] at this; cases this)
      have hex : execOp A.eval (opAt ops i) = execOp a.eval (opAt ops i) := by rw [hA]; exact exec_fill (hB.sel i) pend a hlook
      have hcase := (inv.low i hin).1 (getD_false_true hisz hir.1)
      unfold wpOp
      rw [hop i hin]
      simp only
      rw [if_pos (hwt i hin a)]
      refine .inl ?_
      unfold Oper.wp
      rcases hcase with hp | hm
      · -- a load
        obtain ⟨d, hd⟩ := hx
        have hv := hV i hp d
        rw [← hex, hd, hv]
        refine ih (pend.erase i) mid _ _ A _ ?_ ⟨by simp [inv.size], fun j hj => ?_, fun j hj => ?_, fun h hh => inv.ph h (List.mem_of_mem_erase hh), inv.pp.sublist List.erase_sublist, ⟨k, hmid⟩, inv.clo.set hi⟩ ?_ (fun h hh => hV h (List.mem_of_mem_erase hh)) ⟨d, rfl⟩ (by rw [hd] at hT; exact hT)
        · rw [List.length_erase_of_mem hp]
          have := List.length_pos_of_mem hp
          omega
        · by_cases hji : j = i
          · subst hji
            rw [getD_set_same hisz]
            simp only [Bool.true_eq_false, false_iff, not_or]
            exact ⟨List.Nodup.not_mem_erase hpd, fun h => hB.part _ (inv.ph _ hp) (hmC _ h)⟩
          · rw [getD_set_ne false (Ne.symm hji), inv.low j hj, List.mem_erase_of_ne hji]
        · rw [getD_set_ne false (by omega)]; exact inv.high j hj
        · rw [hA]; exact (fill_erase hB.ds hin pend a (fun h hh => hB.hn h (inv.ph h hh)) hp).symm
      · -- the chain
        cases mid with
        | nil => cases hm
        | cons t ms =>
          have hkl : k < C.length := by
            rcases Nat.lt_or_ge k C.length with h | h
            · exact h
            · rw [List.drop_eq_nil_of_le h] at hmid; cases hmid
          obtain rfl : i = t := by
            rcases List.mem_cons.1 hm with h | h
            · exact h
            · exfalso
              obtain ⟨m, hml, hmi⟩ := List.mem_iff_getElem.1 h
              have e1 : C[k + 1 + m]? = some i := by
                have := congrArg (fun l => l[m + 1]?) hmid
                simp only [List.getElem?_cons_succ, List.getElem?_drop] at this
                rw [List.getElem?_eq_getElem hml, hmi] at this
                rw [show k + 1 + m = k + (m + 1) by omega]; exact this.symm
              have e2 : ∃ x, C[k + m]? = some x ∧ x ∈ t :: ms := by
                have := congrArg (fun l => l[m]?) hmid
                simp only [List.getElem?_drop] at this
                have hml' : m < (t :: ms).length := by simp; omega
                rw [List.getElem?_eq_getElem hml'] at this
                exact ⟨_, this.symm, List.getElem_mem _⟩
              obtain ⟨x, hx1, hx2⟩ := e2
              have hl := (List.getElem?_eq_some_iff.1 e1).1
              have hch := hB.chain (k + m) (by omega)
              rw [show k + m + 1 = k + 1 + m by omega] at hch
              simp only [List.getD_eq_getElem?_getD, e1, hx1, Option.getD_some] at hch
              have h1 := waits_listed hi hch
              have h2 := (inv.low x (hB.cn x (hmC x hx2))).2 (.inr hx2)
              rw [h2] at h1; cases h1
          have hms : ms = C.drop (k + 1) := by
            have := congrArg List.tail hmid
            simpa using this
          have hnd : (i :: ms).Nodup := by rw [hmid]; exact hB.cnd.sublist (List.drop_sublist _ _)
          have hcontrol : ∀ (v : Value) (w' : World), Ext W w' → wpT P W E (ms.map (opAt ops)) (A.put (opAt ops i).dst v) w' → wpAny P md ops Q (f + (ops.size - n)) (listed.setIfInBounds i true) (a.put (opAt ops i).dst v) w' := fun v w' hx' hT' => by
            refine ih pend ms _ _ (A.put (opAt ops i).dst v) w' (by simp at hf; omega) ⟨by simp [inv.size], fun j hj => ?_, fun j hj => ?_, inv.ph, inv.pp, ⟨k + 1, hms⟩, inv.clo.set hi⟩ ?_ (fun h hh d => ?_) hx' hT'
            · by_cases hji : j = i
              · subst hji
                rw [getD_set_same hisz]
                simp only [Bool.true_eq_false, false_iff, not_or]
                exact ⟨fun h => hB.part _ (inv.ph _ h) (hmC _ (by simp)), (List.nodup_cons.1 hnd).1⟩
              · rw [getD_set_ne false (Ne.symm hji), inv.low j hj, List.mem_cons]
                simp [hji]
            · rw [getD_set_ne false (by omega)]; exact inv.high j hj
            · rw [hA]
              exact (fill_put hB.ds hin v pend a (fun h hh => ⟨hB.hn h (inv.ph h hh), fun e => hB.part _ (inv.ph h hh) (by rw [e]; exact hmC _ (by simp))⟩)).symm
            · rw [execOp_put (opAt ops h) (hB.sel h) A _ _ (looksB_spec hB.lk (hB.hn h (inv.ph h hh)) hin (by
                cases hw : Region.waitsFor md ops h i with
                | false => rfl
                | true =>
                  obtain ⟨e, he, hb, hon⟩ := waitsFor_of (md := md) (e := default) (Nat.lt_of_lt_of_le (hB.hn h (inv.ph h hh)) hB.nsz) hw
                  have := (hB.hcl h (inv.ph h hh) e he hb).1
                  rw [hon] at this
                  exact (hB.part _ this (hmC _ (by simp))).elim))]
              exact hV h hh d
          simp only [List.map_cons, wpT] at hT
          rw [hex] at hT
          rcases hT with ⟨v, h1, h2⟩ | ⟨v, w', h1, hx', h2⟩ | ⟨fn, args, h1, hc⟩
          · rw [h1]; exact hcontrol v w hx h2
          · rw [h1]; exact hcontrol v w' hx' h2
          · rw [h1]
            exact hc.mono fun e w' ⟨v, he, hx', h2⟩ => by subst he; exact hcontrol v w' hx' h2
end
end Go.Proofs.YtmopgcbhmkemjaaGreatDoor

namespace Go.Proofs.YtmopgcbhmkemjaaGreatDoor
open Go Go.RowKit
set_option linter.unusedSimpArgs false
set_option linter.unusedVariables false
section
variable {P : Program}
theorem wp_region_h' {id : Nat} {Q : Exit → Act → World → Prop} {a : Act} {w : World} {e : Gr} {l : List Oper} (n : Nat) (H C : List Nat) (hm : P.follows .mixedOrders = true) (hB : hcB .any l.toArray n H C = true)
    (h : wpHL P w (H.map fun i => l.getD i default) a (fun A => ∀ d, wpT P w (fun a' w' => wpList P l.toArray Q (l.drop n) a' w') (C.map fun i => l.getD i default) A (grow w d))) : (Code.region id l.toArray true).wp P Q a (grow w e) := by
  have hc := hcB_spec hB
  have hgd : ∀ i, opAt l.toArray i = l.getD i default := fun i => by simp [opAt, Array.getD_eq_getD_getElem?, List.getD_eq_getElem?_getD]
  have hm1 : ∀ L : List Nat, (L.map fun i => l.getD i default) = L.map (opAt l.toArray) := fun L => List.map_congr_left fun i _ => (hgd i).symm
  rw [hm1] at h
  simp only [hm1 C] at h
  have hself : ∀ h ∈ H, ∀ j, h ≤ j → Region.waitsFor .any l.toArray h j = false := fun x hx j hj => by
    cases hw : Region.waitsFor .any l.toArray x j with
    | false => rfl
    | true =>
      obtain ⟨e, he, hb, hon⟩ := waitsFor_of (md := .any) (e := default) (Nat.lt_of_lt_of_le (hc.hn x hx) hc.nsz) hw
      have := (hc.hcl x hx e he hb).2
      omega
  obtain ⟨val, h1, h2⟩ := wpHL_fill hc.sel hc.lk H a (hc.hp.imp fun h => Nat.ne_of_lt h) hc.hn (hc.hp.imp_of_mem fun ha _ hl => hself _ ha _ (by omega)) (fun x hx => hself x hx x (Nat.le_refl _)) h
  refine wp_region_any hm ?_
  have hlen : H.length + C.length = n := by
    have hnd : (H ++ C).Nodup := List.nodup_append.2 ⟨hc.hp.imp fun h => Nat.ne_of_lt h, hc.cnd, fun x hx y hy hxy => hc.part x hx (hxy ▸ hy)⟩
    have hp : (H ++ C).Perm (List.range n) := (List.perm_ext_iff_of_nodup hnd List.nodup_range).2 fun x => by
      rw [List.mem_append, List.mem_range]
      exact ⟨fun h => h.elim (hc.hn x) (hc.cn x), hc.all x⟩
    have := hp.length_eq
    simpa using this
  have := wpAny_of_hc (Q := Q) hc (fun a w h => by simpa using h) (H.length + C.length) H C (Array.replicate l.toArray.size false) a _ { grow w e with drawn := (grow w e).drawn + 1 } rfl
    ⟨by simp, fun i hi => by rw [getD_replicate_false]; simpa using hc.all i hi, fun i _ => getD_replicate_false _ _, fun _ h => h, hc.hp, ⟨0, rfl⟩, Clo.init _⟩ rfl h2 (Ext.drew ⟨e, rfl⟩) (h1 ⟨e.obs, fun k => e.n k + 1⟩)
  rw [hlen, show n + (l.toArray.size - n) = l.toArray.size by have := hc.nsz; omega] at this
  exact this
theorem wp_region_h {id : Nat} {Q : Exit → Act → World → Prop} {a : Act} {w : World} {l : List Oper} (n : Nat) (H C : List Nat) (hm : P.follows .mixedOrders = true) (hB : hcB .any l.toArray n H C = true)
    (h : wpHL P w (H.map fun i => l.getD i default) a (fun A => ∀ d, wpT P w (fun a' w' => wpList P l.toArray Q (l.drop n) a' w') (C.map fun i => l.getD i default) A (grow w d))) : (Code.region id l.toArray true).wp P Q a w := by
  have := wp_region_h' (id := id) (e := ⟨#[], fun k => k⟩) n H C hm hB h
  simpa [grow] using this

theorem wpHL_nil {W : World} {a : Act} {F : Act → Prop} (h : F a) : wpHL P W [] a F := h
theorem wpHL_l {W : World} {o : Oper} {l : List Oper} {a : Act} {F : Act → Prop}
    (h : ∀ K : Act → Prop, (∀ a, wpHL P W l a F → K a) → ∃ v, (∀ d, (execOp a.eval o).run P (grow W d) = .ok (.value v) (grow W d)) ∧ K (a.put o.dst v)) : wpHL P W (o :: l) a F := by
  obtain ⟨v, h1, h2⟩ := h _ (fun _ h => h)
  exact ⟨v, h1, h2⟩
theorem wpT_nil {W : World} {E : Act → World → Prop} {a : Act} {w : World} (h : E a w) : wpT P W E [] a w := h
theorem wpT_v {W : World} {E : Act → World → Prop} {o : Oper} {l : List Oper} {a : Act} {w : World}
    (h : ∀ K : Act → World → Prop, (∀ a w, wpT P W E l a w → K a w) → ∃ v, (execOp a.eval o).run P w = .ok (.value v) w ∧ K (a.put o.dst v) w) : wpT P W E (o :: l) a w := by
  obtain ⟨v, h1, h2⟩ := h _ (fun _ _ h => h)
  exact .inl ⟨v, h1, h2⟩
theorem wpT_n {W : World} {E : Act → World → Prop} {o : Oper} {l : List Oper} {a : Act} {w : World}
    (h : ∀ K : Act → World → Prop, (∀ a w, wpT P W E l a w → K a w) → ∃ v w', (execOp a.eval o).run P w = .ok (.value v) w' ∧ Ext W w' ∧ K (a.put o.dst v) w') : wpT P W E (o :: l) a w := by
  obtain ⟨v, w', h1, hx, h2⟩ := h _ (fun _ _ h => h)
  exact .inr (.inl ⟨v, w', h1, hx, h2⟩)
theorem wpT_c {W : World} {E : Act → World → Prop} {o : Oper} {l : List Oper} {a : Act} {w : World}
    (h : ∀ K : Act → World → Prop, (∀ a w, wpT P W E l a w → K a w) → ∃ f args, (execOp a.eval o).run P w = .ok (.enter f args) w ∧ Calls P f args w fun e w' => ∃ v, e = .returned v ∧ Ext W w' ∧ K (a.put o.dst v) w') : wpT P W E (o :: l) a w := by
  obtain ⟨f, args, h1, h2⟩ := h _ (fun _ _ h => h)
  exact .inr (.inr ⟨f, args, h1, h2⟩)
end
end Go.Proofs.YtmopgcbhmkemjaaGreatDoor

namespace Go.Proofs.YtmopgcbhmkemjaaGreatDoor
open Go Go.RowKit
set_option linter.unusedSimpArgs false
set_option linter.unusedVariables false
set_option maxRecDepth 100000

/-- The order of whole numbers. -/
def cmpI (x y : Int) : Int := if x < y then -1 else if y < x then 1 else 0
theorem cmpI_neg (x y : Int) (a : x < 0) (b : y < 0) : cmpI x y = cmp3 y.natAbs x.natAbs := by
  unfold cmpI cmp3
  rcases Int.lt_trichotomy x y with h | h | h
  · rw [if_pos h, if_pos (by omega)]
  · subst h; simp
  · rw [if_neg (by omega), if_pos h, if_neg (by omega), if_pos (by omega)]
theorem cmpI_pos (x y : Int) (a : ¬ x < 0) (b : ¬ y < 0) : cmpI x y = cmp3 x.natAbs y.natAbs := by
  unfold cmpI cmp3
  rcases Int.lt_trichotomy x y with h | h | h
  · rw [if_pos h, if_pos (by omega)]
  · subst h; simp
  · rw [if_neg (by omega), if_pos h, if_neg (by omega), if_pos (by omega)]
def Small (z : Int) : Prop := (dg z.natAbs).length ≤ 100000
set_option maxHeartbeats 4000000 in
theorem bCmp (x y : Int) (v1 v2 : Value) (hx : Small x) (hy : Small y) (w : World) (h1 : BigV w v1 x) (h2 : BigV w v2 y) :
    Calls Tryz.prog 73 #[v1, v2] w fun e w' => e = .returned (.int .i64 (cmpI x y)) ∧ Ext w w' := by
  obtain ⟨l1, rfl, k1⟩ := h1
  obtain ⟨l2, rfl, k2⟩ := h2
  have hx' : (dg x.natAbs).length ≤ 1000000 := Nat.le_trans hx (by omega)
  have hy' : (dg y.natAbs).length ≤ 1000000 := Nat.le_trans hy (by omega)
  by_cases a : x < 0 <;> by_cases b : y < 0
  · have HC : Hid (cmpI x y = cmp3 y.natAbs x.natAbs) := Lib.hid (cmpI_neg x y a b)
    have cm := fun w h1 h2 => mags_dg y.natAbs x.natAbs l2 l1 hy' hx' w h1 h2
    rw [HC.out]
    simp only [decide_eq_true a, decide_eq_true b]
    generalize cmp3 y.natAbs x.natAbs = c at *
    clear HC hx hy hx' hy' a b
    go_enter Tryz.func73, Tryz.ntmps73
    go_wp2_with (go_at_call 90; refine (cm _ (k2.ext ext_auto) (k1.ext ext_auto)).mono ?_; rintro e w' ⟨rfl, d, rfl⟩)
    go_ret
    exact ⟨rfl, ext_auto⟩
  · have HC : cmpI x y = -1 := by unfold cmpI; rw [if_pos (by omega)]
    rw [HC]
    simp only [decide_eq_true a, decide_eq_false b]
    clear HC hx hy hx' hy' a b k1 k2
    go_enter Tryz.func73, Tryz.ntmps73
    go_wp2
    go_ret
    exact ⟨rfl, ext_auto⟩
  · have HC : cmpI x y = 1 := by unfold cmpI; rw [if_neg (by omega), if_pos (by omega)]
    rw [HC]
    simp only [decide_eq_false a, decide_eq_true b]
    clear HC hx hy hx' hy' a b k1 k2
    go_enter Tryz.func73, Tryz.ntmps73
    go_wp2
    go_ret
    exact ⟨rfl, ext_auto⟩
  · have HC : Hid (cmpI x y = cmp3 x.natAbs y.natAbs) := Lib.hid (cmpI_pos x y a b)
    have cm := fun w h1 h2 => mags_dg x.natAbs y.natAbs l1 l2 hx' hy' w h1 h2
    rw [HC.out]
    simp only [decide_eq_false a, decide_eq_false b]
    generalize cmp3 x.natAbs y.natAbs = c at *
    clear HC hx hy hx' hy' a b
    go_enter Tryz.func73, Tryz.ntmps73
    go_wp2_with (go_at_call 90; refine (cm _ (k1.ext ext_auto) (k2.ext ext_auto)).mono ?_; rintro e w' ⟨rfl, d, rfl⟩)
    go_ret
    exact ⟨rfl, ext_auto⟩
theorem big_zero (w : World) : BigV w (.agg #[.bool false, .slice none 0 0]) 0 :=
  ⟨_, by simp, .inl ⟨none, 0, rfl, dg_zero⟩, fun a n cap h => by cases h; exact Nat.le_refl _⟩
theorem small_zero : Small 0 := by simp [Small, dg_zero]
set_option maxHeartbeats 4000000 in
theorem bSign (x : Int) (v1 : Value) (hx : Small x) (w : World) (h1 : BigV w v1 x) :
    Calls Tryz.prog 72 #[v1] w fun e w' => e = .returned (.int .i64 (cmpI x 0)) ∧ Ext w w' := by
  have cc := fun w h1 => bCmp x 0 v1 _ hx small_zero w h1 (big_zero w)
  have hb := h1
  obtain ⟨l1, rfl, k1⟩ := h1
  generalize decide (x < 0) = s at *
  generalize cmpI x 0 = c at *
  clear hx k1
  go_enter Tryz.func72, Tryz.ntmps72
  go_wp2_with (go_at_call 73; refine (cc _ ?_).mono ?_; (· exact hb.ext ext_auto); rintro e w' ⟨rfl, d, rfl⟩)
  go_ret
  exact ⟨rfl, ext_auto⟩
theorem BigV.opened {W : World} {v : Value} {z : Int} (h : BigV W v z) : ∃ s a n cap, v = .agg #[.bool s, .slice a n cap] ∧ Hid (s = decide (z < 0) ∧ n = (dg z.natAbs).length) ∧ SlC W (.slice a n cap) (dg z.natAbs) := by
  obtain ⟨sl, rfl, ks⟩ := h
  obtain ⟨a, cap, rfl⟩ := ks.len
  exact ⟨_, a, _, cap, rfl, Lib.hid ⟨rfl, rfl⟩, ks⟩
theorem BigV.shut {W : World} {z : Int} {s : Bool} {a : Option Addr} {n cap : Nat} (h : Hid (s = decide (z < 0) ∧ n = (dg z.natAbs).length)) (ks : SlC W (.slice a n cap) (dg z.natAbs)) : BigV W (.agg #[.bool s, .slice a n cap]) z :=
  ⟨_, by rw [h.out.1], ks⟩
theorem SlC.set {W : World} {v : Value} {ds : List Nat} {k j : Nat} {cs : Array Value} {T : TypeId} {x : Value} (h : SlC W v ds) (hB : Blk W k cs T) (hT : T ≠ 2) : SlC (W.setCell ⟨k, j, none⟩ x) v ds := ⟨h.1.set hB hT, h.2⟩
set_option maxHeartbeats 4000000 in
theorem bNeg (x : Int) (v1 : Value) (hx : Small x) (w : World) (h1 : BigV w v1 x) :
    Calls Tryz.prog 86 #[v1] w (RetB (fun W r => BigV W r (-x)) w) := by
  obtain ⟨l1, rfl, k1⟩ := h1
  have co := fun w h => of_ret (!(decide (x < 0))) l1 (dg x.natAbs) (Nat.le_trans hx (by omega)) (digs_dg _) w h
  have HZ : Hid (sv (!(decide (x < 0))) (dval (dg x.natAbs)) = -x) := Lib.hid (by rw [dval_dg, sv_not, sv_of])
  rw [HZ.out] at co
  generalize decide (x < 0) = s at *
  clear hx HZ
  go_enter Tryz.func86, Tryz.ntmps86
  go_wp2_with (go_at_call 88; refine (co _ (k1.ext ext_auto)).mono ?_; rintro e v ⟨r, rfl, hr, hz⟩; have hx1 : Ext w v := Ext.trans ext_auto hz; have BO : Blk v (w.heap.size + 1) #[.bool false, .slice none 0 0] 42 := Blk.ext blk_auto hz; clear hz; have lBO := BO.lt; have cBO := BO.cell; have fBO := BO.frozen; obtain ⟨t, a, n, cap, rfl, hn, ks⟩ := hr.opened)
  refine bp_rebase fun u hu => ?_
  have hy : Ext w u := by rw [hu]; exact ext_auto
  have hs : SlC u (.slice a n cap) (dg (-x).natAbs) := by rw [hu]; exact (ks.set BO (by decide)).set BO.setSame (by decide)
  have BF : Blk u (w.heap.size + 1) #[.bool t, .slice a n cap] 42 := by rw [hu]; exact blk_auto
  clear hu
  have lBF := BF.lt; have cBF := BF.cell; have fBF := BF.frozen; clear BF
  exact bodyPost_ret (v := .agg #[.bool t, .slice a n cap]) (by simp [results, Tryz.results86, go_sem, cBF]) rfl ⟨_, rfl, BigV.shut hn hs, hy⟩
end Go.Proofs.YtmopgcbhmkemjaaGreatDoor

namespace Go.Proofs.YtmopgcbhmkemjaaGreatDoor
set_option linter.unusedSimpArgs false
set_option linter.unusedVariables false

def D : Nat := 65536
theorem D_eq : D = 65536 := rfl
theorem D_pos : 0 < D := by decide
def wnD (m i : Nat) : Nat := m / D ^ i % D
theorem wn_ltD (m i : Nat) : wnD m i < D := Nat.mod_lt _ D_pos
theorem wn_zeroD (i : Nat) : wnD 0 i = 0 := by simp [wnD]

/-- The carry into word i. -/
def cyD (a b i : Nat) : Nat := (a % D ^ i + b % D ^ i) / D ^ i
theorem cy_zeroD (a b : Nat) : cyD a b 0 = 0 := by simp [cyD, Nat.mod_one]
theorem cy_leD (a b i : Nat) : cyD a b i ≤ 1 := by
  unfold cyD
  have hp : 0 < D ^ i := Nat.pow_pos D_pos
  have h1 := Nat.mod_lt a hp
  have h2 := Nat.mod_lt b hp
  have : (a % D ^ i + b % D ^ i) / D ^ i < 2 := by rw [Nat.div_lt_iff_lt_mul hp]; omega
  omega
theorem mod_succD (a i : Nat) : a % D ^ (i + 1) = wnD a i * D ^ i + a % D ^ i := by
  unfold wnD
  rw [Nat.pow_succ, Nat.mod_mul, Nat.mul_comm (D ^ i)]; omega
theorem wn_of_modD (a i n : Nat) (h : i < n) : wnD (a % D ^ n) i = wnD a i := by
  unfold wnD
  obtain ⟨k, rfl⟩ : ∃ k, n = i + 1 + k := ⟨n - (i + 1), by omega⟩
  rw [Nat.pow_add, Nat.pow_succ]
  rw [Nat.mul_assoc, Nat.mod_mul_right_div_self, Nat.mod_mul_right_mod]
theorem cy_succD (a b i : Nat) : (wnD a i + wnD b i + cyD a b i) / D = cyD a b (i + 1) := by
  have hp : 0 < D ^ i := Nat.pow_pos D_pos
  have e : a % D ^ (i + 1) + b % D ^ (i + 1) = (wnD a i + wnD b i) * D ^ i + (a % D ^ i + b % D ^ i) := by
    rw [mod_succD, mod_succD, Nat.add_mul]; omega
  show _ = (a % D ^ (i + 1) + b % D ^ (i + 1)) / D ^ (i + 1)
  rw [e, Nat.pow_succ, ← Nat.div_div_eq_div_mul, Nat.add_comm ((wnD a i + wnD b i) * D ^ i), Nat.add_mul_div_right _ _ hp]
  unfold cyD; rw [Nat.add_comm]
theorem wn_addD (a b i : Nat) : (wnD a i + wnD b i + cyD a b i) % D = wnD (a + b) i := by
  have hp : 0 < D ^ i := Nat.pow_pos D_pos
  have e : a + b = (a / D ^ i + b / D ^ i) * D ^ i + (a % D ^ i + b % D ^ i) := by
    have h1 := Nat.div_add_mod a (D ^ i); have h2 := Nat.div_add_mod b (D ^ i)
    rw [Nat.add_mul, Nat.mul_comm (a / _), Nat.mul_comm (b / _)]; omega
  show _ = (a + b) / D ^ i % D
  have : (a + b) / D ^ i = a / D ^ i + b / D ^ i + cyD a b i := by
    rw [e, Nat.add_comm, Nat.add_mul_div_right _ _ hp]; unfold cyD; omega
  rw [this]; unfold wnD
  rw [Nat.add_mod, Nat.add_mod (a / D ^ i % D), Nat.add_mod (a / D ^ i + b / D ^ i), Nat.add_mod (a / D ^ i)]
  simp
theorem cy_topD (a b n : Nat) (ha : a < D ^ n) (hb : b < D ^ n) : cyD a b n = (a + b) / D ^ n := by
  unfold cyD; rw [Nat.mod_eq_of_lt ha, Nat.mod_eq_of_lt hb]

/-- The borrow out of the words below i. -/
def bwD (a b i : Nat) : Nat := if a % D ^ i < b % D ^ i then 1 else 0
theorem bw_zeroD (a b : Nat) : bwD a b 0 = 0 := by simp [bwD, Nat.mod_one]
theorem bw_leD (a b i : Nat) : bwD a b i ≤ 1 := by unfold bwD; split <;> omega
theorem bw_succD (a b i : Nat) : (if wnD a i < wnD b i + bwD a b i then 1 else 0) = bwD a b (i + 1) := by
  have hp : 0 < D ^ i := Nat.pow_pos D_pos
  have h1 := Nat.mod_lt a hp
  have h2 := Nat.mod_lt b hp
  unfold bwD
  rw [mod_succD, mod_succD]
  generalize wnD a i = x at *
  generalize wnD b i = y at *
  generalize a % D ^ i = p at *
  generalize b % D ^ i = q at *
  generalize D ^ i = s at *
  by_cases hpq : p < q
  · rw [if_pos hpq]
    by_cases hxy : x < y + 1
    · rw [if_pos hxy, if_pos]
      have : x * s ≤ y * s := Nat.mul_le_mul_right _ (by omega)
      omega
    · rw [if_neg hxy, if_neg]
      have : (y + 1) * s ≤ x * s := Nat.mul_le_mul_right _ (by omega)
      rw [Nat.add_mul] at this; omega
  · rw [if_neg hpq]
    by_cases hxy : x < y + 0
    · rw [if_pos hxy, if_pos]
      have : (x + 1) * s ≤ y * s := Nat.mul_le_mul_right _ (by omega)
      rw [Nat.add_mul] at this; omega
    · rw [if_neg hxy, if_neg]
      have : y * s ≤ x * s := Nat.mul_le_mul_right _ (by omega)
      omega
/-- The i-th word of the difference, modulo D^n. -/
theorem wn_subD (a b i n : Nat) (hi : i < n) (ha : a < D ^ n) (hb : b < D ^ n) : (wnD a i + D - wnD b i - bwD a b i) % D = wnD ((a + D ^ n - b) % D ^ n) i := by
  rw [wn_of_modD _ _ _ hi]
  have hx := wn_ltD a i
  have hy := wn_ltD b i
  have hbl := bw_leD a b i
  have hB : 1 < D := by decide
  have hp : 0 < D ^ i := Nat.pow_pos D_pos
  -- d = a + D^n - b;  d + b = a + D^n
  generalize hd : a + D ^ n - b = d
  have hdb : d + b = a + D ^ n := by omega
  have hw : wnD (d + b) i = wnD a i := by
    rw [hdb]
    obtain ⟨k, rfl⟩ : ∃ k, n = i + 1 + k := ⟨n - (i + 1), by omega⟩
    unfold wnD
    rw [show D ^ (i + 1 + k) = D ^ i * (D * D ^ k) by rw [Nat.pow_add, Nat.pow_succ, Nat.mul_assoc], Nat.add_mul_div_left _ _ hp, Nat.add_mul_mod_self_left]
  have hadd := wn_addD d b i
  rw [hw] at hadd
  -- cyD d b i = bwD a b i
  have hmod : (d + b) % D ^ i = a % D ^ i := by
    rw [hdb]
    obtain ⟨k, rfl⟩ : ∃ k, n = i + 1 + k := ⟨n - (i + 1), by omega⟩
    rw [show D ^ (i + 1 + k) = D ^ i * (D * D ^ k) by rw [Nat.pow_add, Nat.pow_succ, Nat.mul_assoc], Nat.add_mul_mod_self_left]
  have hcb : cyD d b i = bwD a b i := by
    have h1 := Nat.mod_lt d hp
    have h2 := Nat.mod_lt b hp
    have h3 := cy_leD d b i
    unfold bwD
    rw [← hmod, Nat.add_mod]
    unfold cyD at *
    generalize d % D ^ i = p at *
    generalize b % D ^ i = q at *
    generalize D ^ i = s at *
    by_cases hs : p + q < s
    · rw [Nat.mod_eq_of_lt hs, Nat.div_eq_of_lt hs, if_neg (by omega)]
    · have e : p + q = (p + q - s) + s := by omega
      rw [e, Nat.add_mod_right, Nat.mod_eq_of_lt (by omega), Nat.add_div_right _ hp, Nat.div_eq_of_lt (by omega), if_pos (by omega)]
  rw [hcb] at hadd
  have hz := wn_ltD d i
  generalize wnD a i = x at *
  generalize wnD b i = y at *
  generalize wnD d i = z at *
  generalize bwD a b i = c at *
  -- (z + y + c) % D = x ; show (x + D - y - c) % D = z
  by_cases h : z + y + c < D
  · rw [Nat.mod_eq_of_lt h] at hadd
    rw [show x + D - y - c = z + D by omega, Nat.add_mod_right, Nat.mod_eq_of_lt hz]
  · have e : (z + y + c) % D = z + y + c - D := by
      rw [show z + y + c = (z + y + c - D) + D by omega, Nat.add_mod_right, Nat.mod_eq_of_lt (by omega)]; omega
    rw [e] at hadd
    rw [show x + D - y - c = z by omega, Nat.mod_eq_of_lt hz]
theorem bw_topD (a b n : Nat) (ha : a < D ^ n) (hb : b < D ^ n) : bwD a b n = if a < b then 1 else 0 := by
  unfold bwD; rw [Nat.mod_eq_of_lt ha, Nat.mod_eq_of_lt hb]
theorem sub_topD (a b n : Nat) (ha : a < D ^ n) (h : b ≤ a) : (a + D ^ n - b) % D ^ n = a - b := by
  rw [show a + D ^ n - b = (a - b) + D ^ n by omega, Nat.add_mod_right, Nat.mod_eq_of_lt (by omega)]


/-- The first k digits of a number. -/
def dlist (m k : Nat) : List Nat := (List.range k).map (wnD m)
theorem dlist_len (m k : Nat) : (dlist m k).length = k := by simp [dlist]
theorem dlist_succ (m k : Nat) : dlist m (k + 1) = dlist m k ++ [wnD m k] := by simp [dlist, List.range_succ]
theorem dlist_digs (m k : Nat) : Digs (dlist m k) := fun d hd => by
  simp only [dlist, List.mem_map] at hd
  obtain ⟨i, _, rfl⟩ := hd
  exact wn_ltD m i
theorem dlist_dval (m k : Nat) : dval (dlist m k) = m % 65536 ^ k := by
  induction k with
  | zero => simp [dlist, dval, Nat.mod_one]
  | succ k ih =>
    rw [dlist_succ, dval_append, ih, dlist_len]
    have := mod_succD m k
    rw [D_eq] at this
    simp only [dval]; rw [this, Nat.mul_comm]; simp; omega
/-- Enough digits of a number, without noughts behind, are its digits. -/
theorem dlist_trim (m k : Nat) (h : m < 65536 ^ k) : trim (dlist m k) = dg m := by
  rw [trim_eq_dg _ (dlist_digs m k), dlist_dval, Nat.mod_eq_of_lt h]
theorem dg_digit (n i : Nat) : (dg n).getD i 0 = wnD n i := by rw [dg_getD]; rfl
end Go.Proofs.YtmopgcbhmkemjaaGreatDoor

namespace Go.Proofs.YtmopgcbhmkemjaaGreatDoor
open Go Go.RowKit
set_option linter.unusedSimpArgs false
set_option linter.unusedVariables false
set_option maxRecDepth 100000

theorem info_i64 : (Tryz.prog.info? 2).map (fun i => (i.zero, i.size, i.bytes)) = some (some (.int .i64 0), 1, 8) := by kernel_rfl
/-- A row of the call's own that holds digits. -/
theorem SlC.own {W : World} {base g k cap : Nat} {ds : List Nat} (h : W.ownsRow base 2 1 (.slice (some ⟨g, 0, none⟩) k cap) k (ds.map i64)) (hk : k = ds.length) : SlC W (.slice (some ⟨g, 0, none⟩) k cap) ds := by
  subst hk
  obtain ⟨h1, h2 | ⟨g', cap', cur, e, hb, hg, hn, hm, hs, ht⟩⟩ := h
  · obtain ⟨e, _⟩ := h2; cases e
  · cases e
    refine ⟨.inr ⟨g, 0, cap, rfl, ⟨cur, _, hg⟩, fun i hi => ?_⟩, fun a n c h => by cases h; exact hn⟩
    rw [World.cell?, hg]
    simp only [Option.isSome_none, Bool.false_eq_true, if_false, Nat.zero_add]
    have h3 : cur.toList[i]? = some (i64 (ds.getD i 0)) := by
      have := congrArg (fun l => l[i]?) ht
      simp only [Nat.mul_one, List.getElem?_take, if_pos hi, List.getElem?_map] at this
      rw [this, List.getElem?_eq_getElem hi]; simp [List.getD_eq_getElem?_getD, List.getElem?_eq_getElem hi]
    simpa using h3
theorem at_dg (m : Nat) (v : Value) (hn : (dg m).length ≤ 1000000) (i : Nat) (hi : i ≤ 1000000) (w : World) (h : SlC w v (dg m)) :
    Calls Tryz.prog 119 #[v, .int .i64 (i : Int)] w fun e w' => e = .returned (i64 (wnD m i)) ∧ w = w' := by
  have := at_any v (dg m) hn i hi w h.1
  rw [dg_digit] at this
  exact this.mono fun e w' ⟨he, hw⟩ => ⟨he, hw.symm⟩
set_option maxHeartbeats 4000000 in
theorem plus_dg (m n : Nat) (v1 v2 : Value) (h1 : (dg m).length ≤ 900000) (h2 : (dg n).length ≤ 900000) (w : World) (s1 : SlC w v1 (dg m)) (s2 : SlC w v2 (dg n)) :
    Calls Tryz.prog 89 #[v1, v2] w (RetB (fun W r => SlC W r (dg (m + n))) w) := by
  obtain ⟨L, hmax, hL, hLm, hLn⟩ : ∃ L : Nat, max ((dg m).length : Int) ((dg n).length : Int) = (L : Int) ∧ L ≤ 900000 ∧ (dg m).length ≤ L ∧ (dg n).length ≤ L := ⟨max (dg m).length (dg n).length, by omega, by omega, by omega, by omega⟩
  have HS : Hid (m + n < 65536 ^ (L + 1)) := by
    have a := (dg_len_le m L).1 hLm
    have b := (dg_len_le n L).1 hLn
    rw [Nat.pow_succ]
    exact Lib.hid (by omega)
  have t1 := fun w' (hx : Ext w w') i hi => at_dg m v1 (by omega) i hi w' (s1.ext hx)
  have t2 := fun w' (hx : Ext w w') i hi => at_dg n v2 (by omega) i hi w' (s2.ext hx)
  obtain ⟨a1, c1, rfl⟩ := s1.len
  obtain ⟨a2, c2, rfl⟩ := s2.len
  generalize (dg m).length = n1 at *
  generalize (dg n).length = n2 at *
  clear s1 s2 hLm hLn
  obtain ⟨i0, hi, hz0, hz1, hz2⟩ := info_parts info_i64
  go_enter Tryz.func89, Tryz.ntmps89
  go_wp2_with (at_make; refine wpList_make_own _ rfl _ _ 40 rfl w.heap.size 2 i0 (.int .i64 0) 1 Tryz.underlying40 hi hz0 hz1 _ _ _ (L + 1) rfl rfl (by omega) ?b2 ?b3 (Nat.le_refl _) ?_)
  case b2 => rw [hz2]; omega
  case b3 => unfold maxLen; omega
  intro w0 hown0 hgrow0
  go_wp2
  go_loopw [5, 6, 7] (fun out sc si wr => ∃ k : Nat, k ≤ L + 1 ∧ si = .int .i64 k ∧ sc = i64 (cyD m n k) ∧ out = .slice (some ⟨w.heap.size, 0, none⟩) k (L + 1) ∧
      wr.ownsRow w.heap.size 2 1 (.slice (some ⟨w.heap.size, 0, none⟩) k (L + 1)) k ((dlist (m + n) k).map i64) ∧ Below w.heap.size w wr) (fun _ _ si _ => L + 1 - (intOf si).toNat)
  case atStart => exact ⟨0, Nat.zero_le _, rfl, by rw [cy_zeroD]; rfl, rfl, hown0, (Below.refl _ _).grown hgrow0 (Nat.le_refl _) (fun k h => by cases h)⟩
  case round =>
    obtain ⟨k, hk, rfl, rfl, rfl, hown, hnx⟩ := hrel
    by_cases hlt : k < L + 1
    · have u1 := t1 wr (Ext.of_below hnx) k (by omega)
      have u2 := t2 wr (Ext.of_below hnx) k (by omega)
      have hm1 : (((wnD m k : Nat) : Int) + ((wnD n k : Nat) : Int) + ((cyD m n k : Nat) : Int)) % 65536 = ((wnD (m + n) k : Nat) : Int) := by
        have := wn_addD m n k; rw [D_eq] at this; omega
      have hm2 : (((wnD m k : Nat) : Int) + ((wnD n k : Nat) : Int) + ((cyD m n k : Nat) : Int)) / 65536 = ((cyD m n (k + 1) : Nat) : Int) := by
        have := cy_succD m n k; rw [D_eq] at this; omega
      have b1 : wnD m k < 65536 := wn_ltD m k
      have b2 : wnD n k < 65536 := wn_ltD n k
      have b3 := cy_leD m n k
      have hds := dlist_succ (m + n) k
      clear t1 t2
      have HDS := Lib.hid hds
      clear hds
      have hkc : (k : Int) < (L : Int) + 1 := by omega
      go_wp2_with (first
        | (go_at_call 119; (first | (with_reducible refine u1.mono ?_) | (with_reducible refine u2.mono ?_)); rintro e w' ⟨rfl, rfl⟩)
        | (at_builtin; refine wpList_append_fits _ rfl (.tmp 35) (.tmp 38) 40 rfl w.heap.size 2 i0 1 Tryz.underlying40 hi hz1 w.heap.size k (L + 1) _ rfl (hown.alloc _) ⟨wr.heap.size, 0, none⟩ 1 1 [i64 (wnD (m + n) k)] rfl rfl ?c1 ?c2 (by omega) ?_))
      case c1 =>
        intro t u h
        rcases t with _ | t
        · cases h; simp [go_sem]
        · cases h
      case c2 => intro u h; simp at h; subst h; rfl
      intro w1 hown1 hgrow1
      go_wp2
      go_roundw
      case rel =>
        refine ⟨k + 1, by omega, by go_num, by rw [hm2], rfl, ?_, (hnx.alloc hnx.size _).grown hgrow1 (by simp; have := hnx.size; omega) (fun k h => by cases h; exact Nat.le_refl _)⟩
        rw [HDS.out, List.map_append]; exact hown1
      case measure => simp [intOf]; omega
    · obtain rfl : k = L + 1 := by omega
      have hfin := cut_ret (.slice (some ⟨w.heap.size, 0, none⟩) (L + 1) (L + 1)) (dlist (m + n) (L + 1)) (by rw [dlist_len]; omega) wr (SlC.own hown (by rw [dlist_len]))
      rw [dlist_trim _ _ HS.out] at hfin
      clear t1 t2 hown
      go_wp2_with (go_at_call 118; refine hfin.mono ?_; rintro e w2 ⟨r, rfl, hr, hz⟩)
      go_ret
      exact ⟨_, rfl, hr, (Ext.of_below hnx).trans hz⟩
end Go.Proofs.YtmopgcbhmkemjaaGreatDoor
