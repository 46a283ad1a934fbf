/- Arguments by their types: some Rats. ratio: the least of some. ratio: best, of some that all may be. ratio.Least. The law's least. The law's least, of some that all may be. RatioOrders: the walk. RatioOrders answers true. -/
import Derived.Test.YtjkchmegnfbfoaaGreatDoorTie
import Derived.Test.YtjkchmegnfbfoaaGreatDoorQ15
import Derived.Test.YtjkchmegnfbfoaaGreatDoorQ04
import Derived.Deep.Slices
import Derived.Test.YtjkchmegnfbfoaaGreatDoorProg
import Derived.Test.YtjkchmegnfbfoaaGreatDoorQ13
import Derived.Test.YtjkchmegnfbfoaaGreatDoorQ10
namespace Go.Proofs.YtjkchmegnfbfoaaGreatDoor
open Go Go.ChangeShapes Go.WideShapes Go.RowKit
set_option linter.unusedSimpArgs false
set_option linter.unusedVariables false
set_option maxRecDepth 100000

section
variable {H : Type} {enc : TypeId × Value → H} {W : World} {base : Nat} {sp : Nat → Bool} {held : Bool} {fuel : Nat} {cs : List Value} {x : DataW H × List MemPlace}
theorem u64_cell {k : Nat} {c : Value} {y : DataW H × List MemPlace} (h : DataW.trod enc Tryz.prog W base sp held k 22 [c] = some y) : ∃ n : Nat, n < B ∧ c = q64 n := by
  obtain ⟨n, h1, _, h3⟩ := DataW.trod_int Tryz.underlying22 h
  obtain rfl : c = .int .u64 n := by simpa using h1
  simp [Lit.wf, IntKind.has] at h3
  rw [show IntKind.u64.min = 0 by decide, show IntKind.u64.max = 18446744073709551615 by decide] at h3
  refine ⟨n.toNat, by rw [B_eq]; omega, ?_⟩
  simp [q64]; omega
theorem arr_cells (h : DataW.trod enc Tryz.prog W base sp held fuel 23 cs = some x) : ∃ m, m < B4 ∧ cs = [q64 (wn m 0), q64 (wn m 1), q64 (wn m 2), q64 (wn m 3)] := by
  have hcu : Tryz.prog.cellsOf 22 = 1 := by kernel_rfl
  obtain ⟨xs, k, _, _, hl, hlen, hel⟩ := DataW.trod_array Tryz.underlying23 h
  rw [show Tryz.prog.cellsOf 23 = 4 by kernel_rfl] at hl
  match cs, hl, xs, hlen with
  | [c1, c2, c3, c4], _, [y1, y2, y3, y4], _ =>
    have f1 := hel 0 (by omega)
    have f2 := hel 1 (by omega)
    have f3 := hel 2 (by omega)
    have f4 := hel 3 (by omega)
    simp only [hcu, Nat.mul_one, List.drop_zero, List.drop_succ_cons, List.take_succ_cons, List.take_zero, List.getElem?_cons_zero, List.getElem?_cons_succ] at f1 f2 f3 f4
    obtain ⟨x0, b0, rfl⟩ := u64_cell f1
    obtain ⟨x1, b1, rfl⟩ := u64_cell f2
    obtain ⟨x2, b2, rfl⟩ := u64_cell f3
    obtain ⟨x3, b3, rfl⟩ := u64_cell f4
    obtain ⟨m, hm, rfl, rfl, rfl, rfl⟩ := mag_of b0 b1 b2 b3
    exact ⟨m, hm, rfl⟩
theorem int_cells (h : DataW.trod enc Tryz.prog W base sp held fuel 25 cs = some x) : ∃ s m, m < B4 ∧ cs = [.bool s, q64 (wn m 0), q64 (wn m 1), q64 (wn m 2), q64 (wn m 3)] := by
  have hcb : Tryz.prog.cellsOf 4 = 1 := by kernel_rfl
  have hca : Tryz.prog.cellsOf 23 = 4 := by kernel_rfl
  obtain ⟨xs, n, _, _, hl, hlen, hf⟩ := DataW.trod_struct Tryz.underlying25 h
  rw [show Tryz.prog.cellsOf 25 = 5 by kernel_rfl] at hl
  match cs, hl, xs, hlen with
  | [c0, c1, c2, c3, c4], _, [y0, y1], _ =>
    have f0 : DataW.trod enc Tryz.prog W base sp held n 4 (List.take (Tryz.prog.cellsOf 4) (List.drop 0 [c0, c1, c2, c3, c4])) = some y0 := hf 0 _ rfl
    have f1 : DataW.trod enc Tryz.prog W base sp held n 23 (List.take (Tryz.prog.cellsOf 23) (List.drop 1 [c0, c1, c2, c3, c4])) = some y1 := hf 1 _ rfl
    simp only [hcb, hca, List.drop_zero, List.drop_succ_cons, List.take_succ_cons, List.take_zero, List.getElem?_cons_zero, List.getElem?_cons_succ] at f0 f1
    obtain ⟨s, hs, _⟩ := DataW.trod_bool Tryz.underlying4 f0
    obtain rfl : c0 = .bool s := by simpa using hs
    obtain ⟨m, hm, e⟩ := arr_cells f1
    simp only [List.cons.injEq, and_true] at e
    obtain ⟨rfl, rfl, rfl, rfl⟩ := e
    exact ⟨s, m, hm, rfl⟩
theorem rat_cells (h : DataW.trod enc Tryz.prog W base sp held fuel 27 cs = some x) : ∃ r : Rt, cs = r.c.toList := by
  have hci : Tryz.prog.cellsOf 25 = 5 := by kernel_rfl
  obtain ⟨xs, n, _, _, hl, hlen, hf⟩ := DataW.trod_struct Tryz.underlying27 h
  rw [show Tryz.prog.cellsOf 27 = 10 by kernel_rfl] at hl
  match cs, hl, xs, hlen with
  | [c0, c1, c2, c3, c4, c5, c6, c7, c8, c9], _, [y0, y1], _ =>
    have f0 : DataW.trod enc Tryz.prog W base sp held n 25 (List.take (Tryz.prog.cellsOf 25) (List.drop 0 [c0, c1, c2, c3, c4, c5, c6, c7, c8, c9])) = some y0 := hf 0 _ rfl
    have f1 : DataW.trod enc Tryz.prog W base sp held n 25 (List.take (Tryz.prog.cellsOf 25) (List.drop 5 [c0, c1, c2, c3, c4, c5, c6, c7, c8, c9])) = some y1 := hf 1 _ rfl
    rw [hci] at f0 f1
    simp only [List.drop_zero, List.drop_succ_cons, List.take_succ_cons, List.take_zero, List.getElem?_cons_zero, List.getElem?_cons_succ] at f0 f1
    obtain ⟨s, m, hm, e0⟩ := int_cells f0
    obtain ⟨t, k, hk, e1⟩ := int_cells f1
    simp only [List.cons.injEq, and_true] at e0 e1
    obtain ⟨rfl, rfl, rfl, rfl, rfl⟩ := e0
    obtain ⟨rfl, rfl, rfl, rfl, rfl⟩ := e1
    exact ⟨⟨s, m, t, k, hm, hk⟩, rfl⟩
end
theorem rats_arg {H : Type} {enc : TypeId × Value → H} {W : World} {b : Nat} {v : Value} {d : DataW H} {ps : List MemPlace} (hv : Value.okWide Tryz.prog W .any b 55 v) (h : DataW.Trod enc Tryz.prog W 0 (fun _ => true) true 55 v d ps) :
    ∃ (a : Option Addr) (n cap : Nat) (f : Nat → Rt) (bb o : Nat), v = .slice a n cap ∧ (0 < n → a = some ⟨bb, o, none⟩) ∧ (0 < n → bb < W.heap.size) ∧ ∀ i, i < n → RatAt W bb (o + i * 10) (f i) := by
  obtain ⟨a, n, cap, rfl⟩ := okWide_slice Tryz.underlying55 hv
  obtain ⟨fuel, hf⟩ := h
  rcases Go.Deep.open_slice Tryz.underlying55 hf with ⟨h0, _⟩ | ⟨a', len, cap', m, k, D, Pl, hcs, _, hle, _, hm, _, hel⟩
  · have : Value.slice a n cap = .slice none 0 0 := by simpa [Value.cells] using h0
    simp only [Value.slice.injEq] at this
    obtain ⟨rfl, rfl, rfl⟩ := this
    exact ⟨none, 0, 0, fun _ => ⟨false, 0, false, 0, B4_pos, B4_pos⟩, 0, 0, rfl, fun h => absurd h (by omega), fun h => absurd h (by omega), fun i h => absurd h (by omega)⟩
  · have : Value.slice a n cap = .slice (some a') len cap' := by simpa [Value.cells] using hcs
    simp only [Value.slice.injEq] at this
    obtain ⟨rfl, rfl, rfl⟩ := this
    have hsp : a'.spot = none := by
      simp only [Value.okWide, Tryz.underlying55, Cell.okWide, Cell.ok, World.has] at hv
      exact hv.2.2.2.1
    obtain ⟨bb, o, sp⟩ := a'
    dsimp only at hsp
    subst hsp
    have hnm : n ≤ m := by rw [hm]; simp [hle]
    have key : ∀ i, i < n → ∃ r : Rt, RatAt W bb (o + i * 10) r := fun i hi => by
      obtain ⟨cs', h1, h2⟩ := hel i (by omega)
      rw [show Tryz.prog.cellsOf 27 = 10 by kernel_rfl] at h1
      obtain ⟨r, rfl⟩ := rat_cells h2
      have hb := World.cells?_block h1 (by omega)
      obtain ⟨_, _, hc⟩ := World.cells?_some h1
      have hc' : ∀ j, j < 10 → W.cell? ⟨bb, o + i * 10 + j, none⟩ = r.c.toList[j]? := fun j hj => by
        have := hc j hj
        rw [Go.Deep.add_add] at this
        rw [← this]
        congr 1
        unfold Addr.add
        split
        · rename_i h; simp <;> omega
        · simp <;> omega
      refine ⟨r, ?_, hc' 0 (by omega), hc' 1 (by omega), hc' 2 (by omega), hc' 3 (by omega), hc' 4 (by omega), hc' 5 (by omega), hc' 6 (by omega), hc' 7 (by omega), hc' 8 (by omega), hc' 9 (by omega)⟩
      have hb2 : ((Addr.mk bb o none).add (i * 10)).block = bb := by unfold Addr.add; split <;> rfl
      rwa [hb2] at hb
    have : Inhabited Rt := ⟨⟨false, 0, false, 0, B4_pos, B4_pos⟩⟩
    obtain ⟨f, hf⟩ := Go.Deep.choose_lt key
    refine ⟨some ⟨bb, o, none⟩, n, cap, f, bb, o, rfl, fun _ => rfl, fun h => (hf 0 h).lt, hf⟩
end Go.Proofs.YtjkchmegnfbfoaaGreatDoor

namespace Go.Proofs.YtjkchmegnfbfoaaGreatDoor
open Go Go.RowKit
set_option linter.unusedSimpArgs false
set_option linter.unusedVariables false
set_option maxRecDepth 100000

/-- Is the one less than the other? -/
def lessQ (x y : Rt) : Bool := decide (cmpQ x.q y.q < 0)
theorem Least_clear (b : Nat) (W : World) (y0 y1 y2 y3 y4 y5 y6 y7 y8 y9 : Value) (h : Blk W b #[y0, y1, y2, y3, y4, y5, y6, y7, y8, y9] 27) :
    Calls Tryz.prog 101 #[.pointer (some ⟨b, 0, none⟩)] W fun e w' => e = .returned (.tuple #[]) ∧ w' = ((((((((((W.setCell ⟨b, 0, none⟩ (.bool false)).setCell ⟨b, 1, none⟩ (.int .u64 0)).setCell ⟨b, 2, none⟩ (.int .u64 0)).setCell ⟨b, 3, none⟩ (.int .u64 0)).setCell ⟨b, 4, none⟩ (.int .u64 0)).setCell ⟨b, 5, none⟩ (.bool false)).setCell ⟨b, 6, none⟩ (.int .u64 0)).setCell ⟨b, 7, none⟩ (.int .u64 0)).setCell ⟨b, 8, none⟩ (.int .u64 0)).setCell ⟨b, 9, none⟩ (.int .u64 0)) := by
  have lh := h.lt; have ch := h.cell; have fh := h.frozen; clear h
  go_enter Tryz.func101, Tryz.ntmps101
  go_wp2
  go_end0
  exact ⟨rfl, rfl⟩
theorem ahead_any (x y : Rt) (h1 : x.ok = true) (h2 : y.ok = true) (w : World) :
    Calls Tryz.prog 103 #[x.v, y.v] w fun e w' => e = .returned (.bool (lessQ x y)) ∧ Ext w w' := by
  have cc := cCmp x.q y.q (Rt.q_fits x h1) (Rt.q_fits y h2)
  rw [← Rt.v_q x h1, ← Rt.v_q y h2] at cc
  unfold lessQ
  generalize cmpQ x.q y.q = c at *
  obtain ⟨s1, m1, t1', k1, _, _⟩ := x
  obtain ⟨s2, m2, t2', k2, _, _⟩ := y
  go_enter Tryz.func103, Tryz.ntmps103
  go_wp2_with (go_at_call 31; (with_reducible refine (cc _).mono ?_); rintro e y1 ⟨rfl, hz⟩; have hx : Ext w y1 := Ext.trans (by repeat (first | (with_reducible exact Ext.refl _) | (with_reducible assumption) | (with_reducible apply Ext.grow) | (with_reducible apply Ext.alloc) | (with_reducible apply Ext.drew) | ((with_reducible apply Ext.set); (case hb => (first | omega | (simp; omega)))))) hz)
  go_ret
  exact ⟨rfl, hx⟩
/-- The least of the first k. -/
def bst (f : Nat → Rt) : Nat → Rt
  | 0 => ⟨false, 0, false, 0, B4_pos, B4_pos⟩
  | k + 1 => if k = 0 then f 0 else if lessQ (f k) (bst f k) then f k else bst f k
theorem bst_ok (f : Nat → Rt) (n : Nat) (hok : ∀ i, i < n → (f i).ok = true) : ∀ k, 0 < k → k ≤ n → (bst f k).ok = true := by
  intro k h0 hk
  induction k with
  | zero => omega
  | succ k ih =>
    unfold bst
    by_cases h : k = 0
    · rw [if_pos h]; exact hok 0 (by omega)
    · rw [if_neg h]
      split
      · exact hok k (by omega)
      · exact ih (by omega) (by omega)
end Go.Proofs.YtjkchmegnfbfoaaGreatDoor

namespace Go.Proofs.YtjkchmegnfbfoaaGreatDoor
open Go Go.RowKit
set_option linter.unusedSimpArgs false
set_option linter.unusedVariables false
set_option maxRecDepth 100000

set_option maxHeartbeats 8000000 in
theorem best_good (n : Nat) (f : Nat → Rt) (w : World) (b o cap : Nat) (hn : n ≤ 1000000) (hb : b < w.heap.size) (hr : ∀ i, i < n → RatAt w b (o + i * 10) (f i)) (hok : ∀ i, i < n → (f i).ok = true) :
    Calls Tryz.prog 102 #[.slice (some ⟨b, o, none⟩) n cap, .func (.func 103) #[] #[]] w fun e w' => e = .returned (bst f n).v ∧ Ext w w' := by
  have AH : ∀ k, k < n → k ≠ 0 → ∀ w, Calls Tryz.prog 103 #[(f k).v, (bst f k).v] w fun e w' => e = .returned (.bool (lessQ (f k) (bst f k))) ∧ Ext w w' := fun k hk h0 w => ahead_any _ _ (hok k hk) (bst_ok f n hok k (by omega) (by omega)) w
  have BS : ∀ k, bst f (k + 1) = if k = 0 then f 0 else if lessQ (f k) (bst f k) then f k else bst f k := fun k => by rw [bst]
  have B0 : bst f 0 = ⟨false, 0, false, 0, B4_pos, B4_pos⟩ := by rw [bst]
  clear hok
  generalize bst f = g at *
  go_enter Tryz.func102, Tryz.ntmps102
  go_wp2
  refine wp_rebase fun v hv => ?_
  have hx : Ext w v := by rw [hv]; exact (by repeat (first | (with_reducible exact Ext.refl _) | (with_reducible assumption) | (with_reducible apply Ext.grow) | (with_reducible apply Ext.alloc) | (with_reducible apply Ext.drew) | ((with_reducible apply Ext.set); (case hb => (first | omega | (simp; omega))))))
  have BZ : Blk v w.heap.size #[.bool false, .int .u64 0, .int .u64 0, .int .u64 0, .int .u64 0, .bool false, .int .u64 0, .int .u64 0, .int .u64 0, .int .u64 0] 27 := by rw [hv]; exact (by repeat (first | (with_reducible assumption) | ((with_reducible refine Blk.new _ _ _ ?_); (simp; done)) | (with_reducible apply Blk.alloc) | (with_reducible apply Blk.grow) | (with_reducible apply Blk.drew) | (with_reducible apply Blk.set10) | (with_reducible apply Blk.set5) | (with_reducible apply Blk.set4) | (with_reducible apply Blk.tail4) | (with_reducible apply Blk.set2) | (with_reducible apply Blk.set1) | ((with_reducible apply Blk.setOther); (case hne => omega))))
  have BO : Blk v w.heap.size (g 0).c 27 := by rw [show (#[.bool false, .int .u64 0, .int .u64 0, .int .u64 0, .int .u64 0, .bool false, .int .u64 0, .int .u64 0, .int .u64 0, .int .u64 0] : Array Value) = ratsV false 0 false 0 by simp [wn_zero]] at BZ; rw [B0]; exact BZ
  clear hv B0 BZ
  --s1
  go_loopg [9] n (fun q i wr => ∃ (k : Nat), q = n - k ∧ k ≤ n ∧ i = .int .i64 k ∧ Ext w wr ∧ Blk wr w.heap.size (g k).c 27)
  case atStart => exact ⟨0, rfl, by omega, rfl, hx, BO⟩
  case round =>
    clear hx BO
    obtain ⟨k, hg, hk, rfl, hx, BO⟩ := hrel
    by_cases hlt : k < n
    · obtain ⟨hb', c0, c1, c2, c3, c4, c5, c6, c7, c8, c9⟩ := (hr k hlt).ext hx
      have AK := AH k hlt
      have BK := BS k
      clear hr AH BS
      by_cases h0 : k = 0
      · subst h0
        simp only [Nat.zero_mul, Nat.add_zero] at c0 c1 c2 c3 c4 c5 c6 c7 c8 c9
        rw [if_pos rfl] at BK
        clear AK
        generalize f 0 = x0 at *
        have lBO := BO.lt; have cBO := BO.cell; have fBO := BO.frozen
        go_wp2
        --s2
        go_roundg (n - (0 + 1))
        case measure => omega
        case rel =>
          refine ⟨0 + 1, rfl, by omega, by go_num, (by repeat (first | (with_reducible exact Ext.refl _) | (with_reducible assumption) | (with_reducible apply Ext.grow) | (with_reducible apply Ext.alloc) | (with_reducible apply Ext.drew) | ((with_reducible apply Ext.set); (case hb => (first | omega | (simp; omega)))))), ?_⟩
          rw [BK]
          exact (by repeat (first | (with_reducible assumption) | ((with_reducible refine Blk.new _ _ _ ?_); (simp; done)) | (with_reducible apply Blk.alloc) | (with_reducible apply Blk.grow) | (with_reducible apply Blk.drew) | (with_reducible apply Blk.set10) | (with_reducible apply Blk.set5) | (with_reducible apply Blk.set4) | (with_reducible apply Blk.tail4) | (with_reducible apply Blk.set2) | (with_reducible apply Blk.set1) | ((with_reducible apply Blk.setOther); (case hne => omega))))
      · replace AK := AK h0
        rw [if_neg h0] at BK
        cases hl : lessQ (f k) (g k) with
        | true =>
          rw [hl] at AK
          rw [hl, if_pos rfl] at BK
          generalize f k = xk at *
          generalize g k = yk at *
          have lBO := BO.lt; have cBO := BO.cell; have fBO := BO.frozen
          go_wp2_with (go_at_call 103; (with_reducible refine (AK _).mono ?_); rintro e z ⟨rfl, hz⟩; have hzz : Ext wr z := Ext.trans (by repeat (first | (with_reducible exact Ext.refl _) | (with_reducible assumption) | (with_reducible apply Ext.grow) | (with_reducible apply Ext.alloc) | (with_reducible apply Ext.drew) | ((with_reducible apply Ext.set); (case hb => (first | omega | (simp; omega)))))) hz; have hxz : Ext w z := hx.trans hzz; have BX : Blk z wr.heap.size xk.c 27 := Blk.ext (by repeat (first | (with_reducible assumption) | ((with_reducible refine Blk.new _ _ _ ?_); (simp; done)) | (with_reducible apply Blk.alloc) | (with_reducible apply Blk.grow) | (with_reducible apply Blk.drew) | (with_reducible apply Blk.set10) | (with_reducible apply Blk.set5) | (with_reducible apply Blk.set4) | (with_reducible apply Blk.tail4) | (with_reducible apply Blk.set2) | (with_reducible apply Blk.set1) | ((with_reducible apply Blk.setOther); (case hne => omega)))) hz; have BO2 := BO.ext hzz; have lBX := BX.lt; have cBX := BX.cell; have fBX := BX.frozen; have lBO2 := BO2.lt; have cBO2 := BO2.cell; have fBO2 := BO2.frozen)
          --s4
          go_roundg (n - (k + 1))
          case measure => omega
          case rel =>
            refine ⟨k + 1, rfl, by omega, by go_num, (by repeat (first | (with_reducible exact Ext.refl _) | (with_reducible assumption) | (with_reducible apply Ext.grow) | (with_reducible apply Ext.alloc) | (with_reducible apply Ext.drew) | ((with_reducible apply Ext.set); (case hb => (first | omega | (simp; omega)))))), ?_⟩
            rw [BK]
            exact (by repeat (first | (with_reducible assumption) | ((with_reducible refine Blk.new _ _ _ ?_); (simp; done)) | (with_reducible apply Blk.alloc) | (with_reducible apply Blk.grow) | (with_reducible apply Blk.drew) | (with_reducible apply Blk.set10) | (with_reducible apply Blk.set5) | (with_reducible apply Blk.set4) | (with_reducible apply Blk.tail4) | (with_reducible apply Blk.set2) | (with_reducible apply Blk.set1) | ((with_reducible apply Blk.setOther); (case hne => omega))))
        | false =>
          rw [hl] at AK
          rw [hl] at BK
          replace BK : g (k + 1) = g k := by simpa using BK
          generalize f k = xk at *
          generalize hgk : g k = yk at *
          have lBO := BO.lt; have cBO := BO.cell; have fBO := BO.frozen
          go_wp2_with (go_at_call 103; (with_reducible refine (AK _).mono ?_); rintro e z ⟨rfl, hz⟩; have hzz : Ext wr z := Ext.trans (by repeat (first | (with_reducible exact Ext.refl _) | (with_reducible assumption) | (with_reducible apply Ext.grow) | (with_reducible apply Ext.alloc) | (with_reducible apply Ext.drew) | ((with_reducible apply Ext.set); (case hb => (first | omega | (simp; omega)))))) hz; have hxz : Ext w z := hx.trans hzz; have BO2 := BO.ext hzz)
          --s5
          go_roundg (n - (k + 1))
          case measure => omega
          case rel =>
            refine ⟨k + 1, rfl, by omega, by go_num, (by repeat (first | (with_reducible exact Ext.refl _) | (with_reducible assumption) | (with_reducible apply Ext.grow) | (with_reducible apply Ext.alloc) | (with_reducible apply Ext.drew) | ((with_reducible apply Ext.set); (case hb => (first | omega | (simp; omega)))))), ?_⟩
            rw [BK]
            exact (by repeat (first | (with_reducible assumption) | ((with_reducible refine Blk.new _ _ _ ?_); (simp; done)) | (with_reducible apply Blk.alloc) | (with_reducible apply Blk.grow) | (with_reducible apply Blk.drew) | (with_reducible apply Blk.set10) | (with_reducible apply Blk.set5) | (with_reducible apply Blk.set4) | (with_reducible apply Blk.tail4) | (with_reducible apply Blk.set2) | (with_reducible apply Blk.set1) | ((with_reducible apply Blk.setOther); (case hne => omega))))
    · obtain rfl : k = n := by omega
      clear hr AH BS
      have lBO := BO.lt; have cBO := BO.cell; have fBO := BO.frozen
      go_wp2
      --s3
      refine bp_rebase fun u hu => ?_
      have hy : Ext w u := by rw [hu]; exact (by repeat (first | (with_reducible exact Ext.refl _) | (with_reducible assumption) | (with_reducible apply Ext.grow) | (with_reducible apply Ext.alloc) | (with_reducible apply Ext.drew) | ((with_reducible apply Ext.set); (case hb => (first | omega | (simp; omega))))))
      have BF : Blk u w.heap.size (g k).c 27 := by rw [hu]; exact (by repeat (first | (with_reducible assumption) | ((with_reducible refine Blk.new _ _ _ ?_); (simp; done)) | (with_reducible apply Blk.alloc) | (with_reducible apply Blk.grow) | (with_reducible apply Blk.drew) | (with_reducible apply Blk.set10) | (with_reducible apply Blk.set5) | (with_reducible apply Blk.set4) | (with_reducible apply Blk.tail4) | (with_reducible apply Blk.set2) | (with_reducible apply Blk.set1) | ((with_reducible apply Blk.setOther); (case hne => omega))))
      clear hu
      have lBF := BF.lt; have cBF := BF.cell; have fBF := BF.frozen; clear BF
      exact bodyPost_ret (v := (g k).v) (by simp [results, Tryz.results102, go_sem, cBF]) rfl ⟨rfl, hy⟩
end Go.Proofs.YtjkchmegnfbfoaaGreatDoor

namespace Go.Proofs.YtjkchmegnfbfoaaGreatDoor
open Go Go.RowKit
set_option linter.unusedSimpArgs false
set_option linter.unusedVariables false
set_option maxRecDepth 100000

set_option maxHeartbeats 4000000 in
theorem Least_good (n : Nat) (f : Nat → Rt) (w : World) (b o cap : Nat) (hn : n ≤ 1000000) (h0 : 0 < n) (hb : b < w.heap.size) (hr : ∀ i, i < n → RatAt w b (o + i * 10) (f i)) (hok : ∀ i, i < n → (f i).ok = true) :
    Calls Tryz.prog 74 #[.slice (some ⟨b, o, none⟩) n cap] w fun e w' => e = .returned (.tuple #[(bst f n).v, .int .i64 0]) ∧ Ext w w' := by
  have hmf : ∀ (fn : Fn) (first cap : Array Value) (w : World), (Instr.makeFunc fn first cap).run Tryz.prog w = .ok (.func fn first cap) w := fun _ _ _ _ => rfl
  have CA := fun z (hz : Ext w z) => all_yes n f z b o cap hn (Nat.lt_of_lt_of_le hb hz.size) (fun i hi => (hr i hi).ext hz) hok
  have CB := fun z (hz : Ext w z) => best_good n f z b o cap hn (Nat.lt_of_lt_of_le hb hz.size) (fun i hi => (hr i hi).ext hz) hok
  have hp : decide (((n : Nat) : Int) > 0) = true := by simpa using h0
  clear hr hok
  generalize bst f n = r at *
  go_enter_defers Tryz.func74, Tryz.ntmps74
  go_wp2_with (first
    | (go_at_call 47; refine (rmust_yes _ _).mono ?_; rintro e w' ⟨rfl, rfl⟩)
    | (go_at_call 60; (with_reducible refine (CA _ (by repeat (first | (with_reducible exact Ext.refl _) | (with_reducible assumption) | (with_reducible apply Ext.grow) | (with_reducible apply Ext.alloc) | (with_reducible apply Ext.drew) | ((with_reducible apply Ext.set); (case hb => (first | omega | (simp; omega))))))).mono ?_); rintro e w' ⟨rfl, d, rfl⟩)
    | (go_at_call 102; (with_reducible refine (CB _ (by repeat (first | (with_reducible exact Ext.refl _) | (with_reducible assumption) | (with_reducible apply Ext.grow) | (with_reducible apply Ext.alloc) | (with_reducible apply Ext.drew) | ((with_reducible apply Ext.set); (case hb => (first | omega | (simp; omega))))))).mono ?_); rintro e w' ⟨rfl, d2, rfl⟩))
  --s1
  refine lv_rebase fun u hu => ?_
  have hy : Ext w u := by rw [hu]; exact (by repeat (first | (with_reducible exact Ext.refl _) | (with_reducible assumption) | (with_reducible apply Ext.grow) | (with_reducible apply Ext.alloc) | (with_reducible apply Ext.drew) | ((with_reducible apply Ext.set); (case hb => (first | omega | (simp; omega))))))
  have BF : Blk u w.heap.size r.c 27 := by rw [hu]; exact (by repeat (first | (with_reducible assumption) | ((with_reducible refine Blk.new _ _ _ ?_); (simp; done)) | (with_reducible apply Blk.alloc) | (with_reducible apply Blk.grow) | (with_reducible apply Blk.drew) | (with_reducible apply Blk.set10) | (with_reducible apply Blk.set5) | (with_reducible apply Blk.set4) | (with_reducible apply Blk.tail4) | (with_reducible apply Blk.set2) | (with_reducible apply Blk.set1) | ((with_reducible apply Blk.setOther); (case hne => omega))))
  have BG : Blk u (w.heap.size + 1) #[.int .i64 0] 37 := by rw [hu]; exact (by repeat (first | (with_reducible assumption) | ((with_reducible refine Blk.new _ _ _ ?_); (simp; done)) | (with_reducible apply Blk.alloc) | (with_reducible apply Blk.grow) | (with_reducible apply Blk.drew) | (with_reducible apply Blk.set10) | (with_reducible apply Blk.set5) | (with_reducible apply Blk.set4) | (with_reducible apply Blk.tail4) | (with_reducible apply Blk.set2) | (with_reducible apply Blk.set1) | ((with_reducible apply Blk.setOther); (case hne => omega))))
  clear hu
  have lBF := BF.lt; have cBF := BF.cell; have fBF := BF.frozen; have lBG := BG.lt; have cBG := BG.cell; have fBG := BG.frozen; clear BF BG
  exact leaves_ratio (.tuple #[r.v, .int .i64 0]) (by simp [results, Tryz.results74, go_sem, cBF, cBG]) ⟨rfl, hy⟩
set_option maxHeartbeats 4000000 in
theorem Least_empty (a : Option Addr) (cap : Nat) (w : World) :
    Calls Tryz.prog 74 #[.slice a 0 cap] w fun e w' => e = .returned (.tuple #[qZ, .int .i64 2]) ∧ Ext w w' := by
  have hmf : ∀ (fn : Fn) (first cap : Array Value) (w : World), (Instr.makeFunc fn first cap).run Tryz.prog w = .ok (.func fn first cap) w := fun _ _ _ _ => rfl
  go_enter_defers Tryz.func74, Tryz.ntmps74
  go_wp2_with (first
    | (go_at_call 47; refine (rmust_no _ _).mono ?_; rintro e w' ⟨rfl, rfl⟩))
  --b1
  refine lv_rebase fun v hv => ?_
  have hx : Ext w v := by rw [hv]; exact (by repeat (first | (with_reducible exact Ext.refl _) | (with_reducible assumption) | (with_reducible apply Ext.grow) | (with_reducible apply Ext.alloc) | (with_reducible apply Ext.drew) | ((with_reducible apply Ext.set); (case hb => (first | omega | (simp; omega))))))
  have BO : Blk v w.heap.size #[.bool false, .int .u64 0, .int .u64 0, .int .u64 0, .int .u64 0, .bool false, .int .u64 0, .int .u64 0, .int .u64 0, .int .u64 0] 27 := by rw [hv]; exact (by repeat (first | (with_reducible assumption) | ((with_reducible refine Blk.new _ _ _ ?_); (simp; done)) | (with_reducible apply Blk.alloc) | (with_reducible apply Blk.grow) | (with_reducible apply Blk.drew) | (with_reducible apply Blk.set10) | (with_reducible apply Blk.set5) | (with_reducible apply Blk.set4) | (with_reducible apply Blk.tail4) | (with_reducible apply Blk.set2) | (with_reducible apply Blk.set1) | ((with_reducible apply Blk.setOther); (case hne => omega))))
  have BE : Blk v (w.heap.size + 1) #[.int .i64 0] 37 := by rw [hv]; exact (by repeat (first | (with_reducible assumption) | ((with_reducible refine Blk.new _ _ _ ?_); (simp; done)) | (with_reducible apply Blk.alloc) | (with_reducible apply Blk.grow) | (with_reducible apply Blk.drew) | (with_reducible apply Blk.set10) | (with_reducible apply Blk.set5) | (with_reducible apply Blk.set4) | (with_reducible apply Blk.tail4) | (with_reducible apply Blk.set2) | (with_reducible apply Blk.set1) | ((with_reducible apply Blk.setOther); (case hne => omega))))
  clear hv
  refine leaves_ratio_pan 0 2 101 _ (BE.cell 0) (BE.frozen 0) (fun _ _ => by kernel_rfl) ?_
  refine (Least_clear _ _ _ _ _ _ _ _ _ _ _ _ (BO.setOther (by omega))).mono ?_
  rintro e' z ⟨rfl, hz⟩
  have hy : Ext w z := by rw [hz]; exact (by repeat (first | (with_reducible exact Ext.refl _) | (with_reducible assumption) | (with_reducible apply Ext.grow) | (with_reducible apply Ext.alloc) | (with_reducible apply Ext.drew) | ((with_reducible apply Ext.set); (case hb => (first | omega | (simp; omega))))))
  have BF : Blk z w.heap.size #[.bool false, .int .u64 0, .int .u64 0, .int .u64 0, .int .u64 0, .bool false, .int .u64 0, .int .u64 0, .int .u64 0, .int .u64 0] 27 := by rw [hz]; exact (by repeat (first | (with_reducible assumption) | ((with_reducible refine Blk.new _ _ _ ?_); (simp; done)) | (with_reducible apply Blk.alloc) | (with_reducible apply Blk.grow) | (with_reducible apply Blk.drew) | (with_reducible apply Blk.set10) | (with_reducible apply Blk.set5) | (with_reducible apply Blk.set4) | (with_reducible apply Blk.tail4) | (with_reducible apply Blk.set2) | (with_reducible apply Blk.set1) | ((with_reducible apply Blk.setOther); (case hne => omega))))
  have BG : Blk z (w.heap.size + 1) #[.int .i64 2] 37 := by rw [hz]; exact (by repeat (first | (with_reducible assumption) | ((with_reducible refine Blk.new _ _ _ ?_); (simp; done)) | (with_reducible apply Blk.alloc) | (with_reducible apply Blk.grow) | (with_reducible apply Blk.drew) | (with_reducible apply Blk.set10) | (with_reducible apply Blk.set5) | (with_reducible apply Blk.set4) | (with_reducible apply Blk.tail4) | (with_reducible apply Blk.set2) | (with_reducible apply Blk.set1) | ((with_reducible apply Blk.setOther); (case hne => omega))))
  clear hz
  have lBF := BF.lt; have cBF := BF.cell; have fBF := BF.frozen; have lBG := BG.lt; have cBG := BG.cell; have fBG := BG.frozen; clear BF BG
  exact ⟨rfl, .tuple #[qZ, .int .i64 2], by simp [results, Tryz.results74, go_sem, cBF, cBG], rfl, hy⟩
set_option maxHeartbeats 4000000 in
theorem Least_bad (n : Nat) (f : Nat → Rt) (w : World) (b o cap : Nat) (hn : n ≤ 1000000) (hb : b < w.heap.size) (hr : ∀ i, i < n → RatAt w b (o + i * 10) (f i)) (j : Nat) (hj : j < n) (hok : ∀ i, i < j → (f i).ok = true) (hno : (f j).ok = false) :
    Calls Tryz.prog 74 #[.slice (some ⟨b, o, none⟩) n cap] w fun e w' => e = .returned (.tuple #[qZ, .int .i64 2]) ∧ Ext w w' := by
  have hmf : ∀ (fn : Fn) (first cap : Array Value) (w : World), (Instr.makeFunc fn first cap).run Tryz.prog w = .ok (.func fn first cap) w := fun _ _ _ _ => rfl
  have CA := fun z (hz : Ext w z) => all_no n f z b o cap hn (Nat.lt_of_lt_of_le hb hz.size) (fun i hi => (hr i hi).ext hz) j hj hok hno
  have h0 : 0 < n := by omega
  have hp : decide (((n : Nat) : Int) > 0) = true := by simpa using h0
  clear hr hok hno hj
  go_enter_defers Tryz.func74, Tryz.ntmps74
  go_wp2_with (first
    | (go_at_call 47; refine (rmust_yes _ _).mono ?_; rintro e w' ⟨rfl, rfl⟩)
    | (go_at_call 60; (with_reducible refine (CA _ (by repeat (first | (with_reducible exact Ext.refl _) | (with_reducible assumption) | (with_reducible apply Ext.grow) | (with_reducible apply Ext.alloc) | (with_reducible apply Ext.drew) | ((with_reducible apply Ext.set); (case hb => (first | omega | (simp; omega))))))).mono ?_); rintro e w' ⟨rfl, d, rfl⟩))
  --b1
  refine lv_rebase fun v hv => ?_
  have hx : Ext w v := by rw [hv]; exact (by repeat (first | (with_reducible exact Ext.refl _) | (with_reducible assumption) | (with_reducible apply Ext.grow) | (with_reducible apply Ext.alloc) | (with_reducible apply Ext.drew) | ((with_reducible apply Ext.set); (case hb => (first | omega | (simp; omega))))))
  have BO : Blk v w.heap.size #[.bool false, .int .u64 0, .int .u64 0, .int .u64 0, .int .u64 0, .bool false, .int .u64 0, .int .u64 0, .int .u64 0, .int .u64 0] 27 := by rw [hv]; exact (by repeat (first | (with_reducible assumption) | ((with_reducible refine Blk.new _ _ _ ?_); (simp; done)) | (with_reducible apply Blk.alloc) | (with_reducible apply Blk.grow) | (with_reducible apply Blk.drew) | (with_reducible apply Blk.set10) | (with_reducible apply Blk.set5) | (with_reducible apply Blk.set4) | (with_reducible apply Blk.tail4) | (with_reducible apply Blk.set2) | (with_reducible apply Blk.set1) | ((with_reducible apply Blk.setOther); (case hne => omega))))
  have BE : Blk v (w.heap.size + 1) #[.int .i64 0] 37 := by rw [hv]; exact (by repeat (first | (with_reducible assumption) | ((with_reducible refine Blk.new _ _ _ ?_); (simp; done)) | (with_reducible apply Blk.alloc) | (with_reducible apply Blk.grow) | (with_reducible apply Blk.drew) | (with_reducible apply Blk.set10) | (with_reducible apply Blk.set5) | (with_reducible apply Blk.set4) | (with_reducible apply Blk.tail4) | (with_reducible apply Blk.set2) | (with_reducible apply Blk.set1) | ((with_reducible apply Blk.setOther); (case hne => omega))))
  clear hv
  refine leaves_ratio_pan 0 2 101 _ (BE.cell 0) (BE.frozen 0) (fun _ _ => by kernel_rfl) ?_
  refine (Least_clear _ _ _ _ _ _ _ _ _ _ _ _ (BO.setOther (by omega))).mono ?_
  rintro e' z ⟨rfl, hz⟩
  have hy : Ext w z := by rw [hz]; exact (by repeat (first | (with_reducible exact Ext.refl _) | (with_reducible assumption) | (with_reducible apply Ext.grow) | (with_reducible apply Ext.alloc) | (with_reducible apply Ext.drew) | ((with_reducible apply Ext.set); (case hb => (first | omega | (simp; omega))))))
  have BF : Blk z w.heap.size #[.bool false, .int .u64 0, .int .u64 0, .int .u64 0, .int .u64 0, .bool false, .int .u64 0, .int .u64 0, .int .u64 0, .int .u64 0] 27 := by rw [hz]; exact (by repeat (first | (with_reducible assumption) | ((with_reducible refine Blk.new _ _ _ ?_); (simp; done)) | (with_reducible apply Blk.alloc) | (with_reducible apply Blk.grow) | (with_reducible apply Blk.drew) | (with_reducible apply Blk.set10) | (with_reducible apply Blk.set5) | (with_reducible apply Blk.set4) | (with_reducible apply Blk.tail4) | (with_reducible apply Blk.set2) | (with_reducible apply Blk.set1) | ((with_reducible apply Blk.setOther); (case hne => omega))))
  have BG : Blk z (w.heap.size + 1) #[.int .i64 2] 37 := by rw [hz]; exact (by repeat (first | (with_reducible assumption) | ((with_reducible refine Blk.new _ _ _ ?_); (simp; done)) | (with_reducible apply Blk.alloc) | (with_reducible apply Blk.grow) | (with_reducible apply Blk.drew) | (with_reducible apply Blk.set10) | (with_reducible apply Blk.set5) | (with_reducible apply Blk.set4) | (with_reducible apply Blk.tail4) | (with_reducible apply Blk.set2) | (with_reducible apply Blk.set1) | ((with_reducible apply Blk.setOther); (case hne => omega))))
  clear hz
  have lBF := BF.lt; have cBF := BF.cell; have fBF := BF.frozen; have lBG := BG.lt; have cBG := BG.cell; have fBG := BG.frozen; clear BF BG
  exact ⟨rfl, .tuple #[qZ, .int .i64 2], by simp [results, Tryz.results74, go_sem, cBF, cBG], rfl, hy⟩
end Go.Proofs.YtjkchmegnfbfoaaGreatDoor

namespace Go.Proofs.YtjkchmegnfbfoaaGreatDoor
open Go Go.RowKit
set_option linter.unusedSimpArgs false
set_option linter.unusedVariables false
set_option maxRecDepth 100000
set_option exponentiation.threshold 3000

set_option maxHeartbeats 8000000 in
theorem least_bad (a : Option Addr) (n cap : Nat) (f : Nat → Rt) (b o : Nat) (w : World) (hn : n ≤ 1000000) (ha : 0 < n → a = some ⟨b, o, none⟩) (hb : 0 < n → b < w.heap.size) (hr : ∀ i, i < n → RatAt w b (o + i * 10) (f i)) (j : Nat) (hj : j ≤ n) (hok : ∀ i, i < j → (f i).ok = true) (hno : j < n → (f j).ok = false) (hz0 : j = n → n = 0)
    (CL : ∀ z, Ext w z → Calls Tryz.prog 74 #[.slice a n cap] z fun e w' => e = .returned (.tuple #[ratV false 0 false 0, .int .i64 2]) ∧ Ext z w') :
    Calls Tryz.prog 36 #[.slice a n cap] w fun e w' => e = .returned (.bool true) ∧ Ext w w' := by
  have hx : Ext w w := Ext.refl w
  have RF := refused_true
  go_enter Tryz.func36, Tryz.ntmps36
  go_wp2_with (go_at_call 74; (with_reducible refine (CL _ (hx.trans (by repeat (first | (with_reducible exact Ext.refl _) | (with_reducible assumption) | (with_reducible apply Ext.grow) | (with_reducible apply Ext.alloc) | (with_reducible apply Ext.drew) | ((with_reducible apply Ext.set); (case hb => (first | omega | (simp; omega)))))))).mono ?_); rintro e y1 ⟨rfl, hz_⟩; have hzz_ : Ext w y1 := Ext.trans (by repeat (first | (with_reducible exact Ext.refl _) | (with_reducible assumption) | (with_reducible apply Ext.grow) | (with_reducible apply Ext.alloc) | (with_reducible apply Ext.drew) | ((with_reducible apply Ext.set); (case hb => (first | omega | (simp; omega)))))) hz_; replace hx := hx.trans hzz_; clear hz_ hzz_)
  refine wp_rebase fun v hv => ?_
  have hxv : Ext w v := by rw [hv]; exact (by repeat (first | (with_reducible exact Ext.refl _) | (with_reducible assumption) | (with_reducible apply Ext.grow) | (with_reducible apply Ext.alloc) | (with_reducible apply Ext.drew) | ((with_reducible apply Ext.set); (case hb => (first | omega | (simp; omega))))))
  have BX : Blk v y1.heap.size (ratsV false 0 false 0) 27 := by rw [hv]; exact (by repeat (first | (with_reducible assumption) | ((with_reducible refine Blk.new _ _ _ ?_); (simp; done)) | (with_reducible apply Blk.alloc) | (with_reducible apply Blk.grow) | (with_reducible apply Blk.drew) | (with_reducible apply Blk.set10) | (with_reducible apply Blk.set5) | (with_reducible apply Blk.set4) | (with_reducible apply Blk.tail4) | (with_reducible apply Blk.set2) | (with_reducible apply Blk.set1) | ((with_reducible apply Blk.setOther); (case hne => omega))))
  clear hv hx CL
  --s1
  go_loopg [5] n (fun q i wr => ∃ (k : Nat), q = n - k ∧ k ≤ j ∧ i = .int .i64 k ∧ Ext w wr ∧ Blk wr y1.heap.size (ratsV false 0 false 0) 27)
  case atStart => exact ⟨0, rfl, by omega, rfl, hxv, BX⟩
  case round =>
    clear hxv BX
    obtain ⟨k, hg, hk, rfl, hx, BX⟩ := hrel
    by_cases hlt : k < n
    · obtain ⟨hb', c0, c1, c2, c3, c4, c5, c6, c7, c8, c9⟩ := (hr k hlt).ext hx
      obtain rfl := ha (by omega)
      have RR := fRight (f k)
      by_cases hkj : k = j
      · subst hkj
        rw [hno hlt] at RR
        clear hr hok hno ha hb hz0
        generalize f k = x0 at *
        have lBX := BX.lt; have cBX := BX.cell; have fBX := BX.frozen
        go_wp2_with (first
          | (go_at_call 8; (with_reducible refine (RR _).mono ?_); rintro e z ⟨rfl, hz⟩; have hxz : Ext w z := hx.trans hz; have BX2 := BX.ext hz; have lBX2 := BX2.lt; have cBX2 := BX2.cell; have fBX2 := BX2.frozen)
          | (go_at_call 16; (with_reducible refine (RF _).mono ?_); rintro e z2 ⟨rfl, hz2⟩; have hxz2 : Ext w z2 := hxz.trans hz2))
        --s2
        exact bodyPost_ret (v := .bool true) (by simp [results, Tryz.results36, go_sem]) rfl ⟨rfl, hxz2⟩
      · rw [hok k (by omega)] at RR
        clear hr hok hno ha hb hz0
        generalize f k = x0 at *
        go_wp2_with (go_at_call 8; (with_reducible refine (RR _).mono ?_); rintro e z ⟨rfl, hz⟩; have hxz : Ext w z := hx.trans hz; have BX2 := BX.ext hz)
        go_roundg (n - (k + 1))
        case measure => omega
        case rel => exact ⟨k + 1, rfl, by omega, by go_num, (by repeat (first | (with_reducible exact Ext.refl _) | (with_reducible assumption) | (with_reducible apply Ext.grow) | (with_reducible apply Ext.alloc) | (with_reducible apply Ext.drew) | ((with_reducible apply Ext.set); (case hb => (first | omega | (simp; omega)))))), (by repeat (first | (with_reducible assumption) | ((with_reducible refine Blk.new _ _ _ ?_); (simp; done)) | (with_reducible apply Blk.alloc) | (with_reducible apply Blk.grow) | (with_reducible apply Blk.drew) | (with_reducible apply Blk.set10) | (with_reducible apply Blk.set5) | (with_reducible apply Blk.set4) | (with_reducible apply Blk.tail4) | (with_reducible apply Blk.set2) | (with_reducible apply Blk.set1) | ((with_reducible apply Blk.setOther); (case hne => omega))))⟩
    · have hn0 : n = 0 := hz0 (by omega)
      subst hn0
      obtain rfl : k = 0 := by omega
      clear hr hok hno ha hb hz0
      have lBX := BX.lt; have cBX := BX.cell; have fBX := BX.frozen
      go_wp2_with (go_at_call 16; (with_reducible refine (RF _).mono ?_); rintro e z2 ⟨rfl, hz2⟩; have hxz2 : Ext w z2 := hx.trans hz2)
      --s3
      exact bodyPost_ret (v := .bool true) (by simp [results, Tryz.results36, go_sem]) rfl ⟨rfl, hxz2⟩
end Go.Proofs.YtjkchmegnfbfoaaGreatDoor

namespace Go.Proofs.YtjkchmegnfbfoaaGreatDoor
open Go Go.RowKit
set_option linter.unusedSimpArgs false
set_option linter.unusedVariables false
set_option maxRecDepth 100000
set_option exponentiation.threshold 3000

/-- The least of the first k, or the first. -/
def wnt (f : Nat → Rt) (k : Nat) : Rt := if k = 0 then f 0 else bst f k
theorem lessQ_self (x : Rt) : lessQ x x = false := by unfold lessQ cmpQ; simp [Rat.lt_irrefl]
theorem wnt_succ (f : Nat → Rt) (k : Nat) : wnt f (k + 1) = if lessQ (f k) (wnt f k) then f k else wnt f k := by
  unfold wnt
  rw [if_neg (by omega), bst]
  by_cases h : k = 0
  · subst h; simp [lessQ_self]
  · rw [if_neg h, if_neg h]
theorem wnt_ok (f : Nat → Rt) (n : Nat) (hok : ∀ i, i < n → (f i).ok = true) (k : Nat) (hk : k < n) : (wnt f k).ok = true := by
  unfold wnt
  split
  · exact hok 0 (by omega)
  · exact bst_ok f n hok k (by omega) (by omega)
set_option maxHeartbeats 8000000 in
theorem least_good (n cap : Nat) (f : Nat → Rt) (b o : Nat) (w : World) (hn : n ≤ 1000000) (h0 : 0 < n) (hb : b < w.heap.size) (hr : ∀ i, i < n → RatAt w b (o + i * 10) (f i)) (hok : ∀ i, i < n → (f i).ok = true) :
    Calls Tryz.prog 36 #[.slice (some ⟨b, o, none⟩) n cap] w fun e w' => e = .returned (.bool true) ∧ Ext w w' := by
  have hx : Ext w w := Ext.refl w
  have CL := fun z (hz : Ext w z) => Least_good n f z b o cap hn h0 (Nat.lt_of_lt_of_le hb hz.size) (fun i hi => (hr i hi).ext hz) hok
  have W0 : wnt f 0 = f 0 := by unfold wnt; rw [if_pos rfl]
  have WS := wnt_succ f
  have WN : wnt f n = bst f n := by unfold wnt; rw [if_neg (by omega)]
  have WK := wnt_ok f n hok
  rw [← WN] at CL
  clear WN
  generalize wnt f = g at *
  have EQ : EqT 27 (g n).v (g n).v := fun w => by rw [run_eq_rat _ _ _ _ _ _ _ _ (g n).hm (g n).hk (g n).hm (g n).hk]; simp
  go_enter Tryz.func36, Tryz.ntmps36
  go_wp2_with (go_at_call 74; (with_reducible refine (CL _ (hx.trans (by repeat (first | (with_reducible exact Ext.refl _) | (with_reducible assumption) | (with_reducible apply Ext.grow) | (with_reducible apply Ext.alloc) | (with_reducible apply Ext.drew) | ((with_reducible apply Ext.set); (case hb => (first | omega | (simp; omega)))))))).mono ?_); rintro e y1 ⟨rfl, hz_⟩; have hzz_ : Ext w y1 := Ext.trans (by repeat (first | (with_reducible exact Ext.refl _) | (with_reducible assumption) | (with_reducible apply Ext.grow) | (with_reducible apply Ext.alloc) | (with_reducible apply Ext.drew) | ((with_reducible apply Ext.set); (case hb => (first | omega | (simp; omega)))))) hz_; replace hx := hx.trans hzz_; clear hz_ hzz_)
  refine wp_rebase fun v hv => ?_
  have hxv : Ext w v := by rw [hv]; exact (by repeat (first | (with_reducible exact Ext.refl _) | (with_reducible assumption) | (with_reducible apply Ext.grow) | (with_reducible apply Ext.alloc) | (with_reducible apply Ext.drew) | ((with_reducible apply Ext.set); (case hb => (first | omega | (simp; omega))))))
  have BX : Blk v y1.heap.size (g n).c 27 := by rw [hv]; exact (by repeat (first | (with_reducible assumption) | ((with_reducible refine Blk.new _ _ _ ?_); (simp; done)) | (with_reducible apply Blk.alloc) | (with_reducible apply Blk.grow) | (with_reducible apply Blk.drew) | (with_reducible apply Blk.set10) | (with_reducible apply Blk.set5) | (with_reducible apply Blk.set4) | (with_reducible apply Blk.tail4) | (with_reducible apply Blk.set2) | (with_reducible apply Blk.set1) | ((with_reducible apply Blk.setOther); (case hne => omega))))
  clear hv hx CL
  go_loopg [5] n (fun q i wr => ∃ (k : Nat), q = n - k ∧ k ≤ n ∧ i = .int .i64 k ∧ Ext w wr ∧ Blk wr y1.heap.size (g n).c 27)
  case atStart => exact ⟨0, rfl, by omega, rfl, hxv, BX⟩
  case round =>
    clear hxv BX
    obtain ⟨k, hg, hk, rfl, hx, BX⟩ := hrel
    by_cases hlt : k < n
    · obtain ⟨hb', c0, c1, c2, c3, c4, c5, c6, c7, c8, c9⟩ := (hr k hlt).ext hx
      have RR := fRight (f k)
      rw [hok k hlt] at RR
      clear hr hok WS WK W0 EQ
      generalize f k = x0 at *
      go_wp2_with (go_at_call 8; (with_reducible refine (RR _).mono ?_); rintro e z ⟨rfl, hz⟩; have hxz : Ext w z := hx.trans hz; have BX2 := BX.ext hz)
      go_roundg (n - (k + 1))
      case measure => omega
      case rel => exact ⟨k + 1, rfl, by omega, by go_num, (by repeat (first | (with_reducible exact Ext.refl _) | (with_reducible assumption) | (with_reducible apply Ext.grow) | (with_reducible apply Ext.alloc) | (with_reducible apply Ext.drew) | ((with_reducible apply Ext.set); (case hb => (first | omega | (simp; omega)))))), (by repeat (first | (with_reducible assumption) | ((with_reducible refine Blk.new _ _ _ ?_); (simp; done)) | (with_reducible apply Blk.alloc) | (with_reducible apply Blk.grow) | (with_reducible apply Blk.drew) | (with_reducible apply Blk.set10) | (with_reducible apply Blk.set5) | (with_reducible apply Blk.set4) | (with_reducible apply Blk.tail4) | (with_reducible apply Blk.set2) | (with_reducible apply Blk.set1) | ((with_reducible apply Blk.setOther); (case hne => omega))))⟩
    · obtain rfl : k = n := by omega
      have hnz : (((k : Nat) : Int) == 0) = false := by simp; omega
      obtain ⟨hb', c0, c1, c2, c3, c4, c5, c6, c7, c8, c9⟩ := (hr 0 h0).ext hx
      simp only [Nat.zero_mul, Nat.add_zero] at c0 c1 c2 c3 c4 c5 c6 c7 c8 c9
      have lBX := BX.lt; have cBX := BX.cell; have fBX := BX.frozen
      go_wp2
      --s1
      have hq1 := hx.size
      have hq2 := BX.lt
      refine wp_rebase fun v2 hv2 => ?_
      have hxv : Ext w v2 := by rw [hv2]; exact (by repeat (first | (with_reducible exact Ext.refl _) | (with_reducible assumption) | (with_reducible apply Ext.grow) | (with_reducible apply Ext.alloc) | (with_reducible apply Ext.drew) | ((with_reducible apply Ext.set); (case hb => (first | omega | (simp; omega))))))
      have BX2 : Blk v2 y1.heap.size (g k).c 27 := by rw [hv2]; exact (by repeat (first | (with_reducible assumption) | ((with_reducible refine Blk.new _ _ _ ?_); (simp; done)) | (with_reducible apply Blk.alloc) | (with_reducible apply Blk.grow) | (with_reducible apply Blk.drew) | (with_reducible apply Blk.set10) | (with_reducible apply Blk.set5) | (with_reducible apply Blk.set4) | (with_reducible apply Blk.tail4) | (with_reducible apply Blk.set2) | (with_reducible apply Blk.set1) | ((with_reducible apply Blk.setOther); (case hne => omega))))
      have BW : Blk v2 wr.heap.size (g 0).c 27 := by rw [hv2, W0]; exact (by repeat (first | (with_reducible assumption) | ((with_reducible refine Blk.new _ _ _ ?_); (simp; done)) | (with_reducible apply Blk.alloc) | (with_reducible apply Blk.grow) | (with_reducible apply Blk.drew) | (with_reducible apply Blk.set10) | (with_reducible apply Blk.set5) | (with_reducible apply Blk.set4) | (with_reducible apply Blk.tail4) | (with_reducible apply Blk.set2) | (with_reducible apply Blk.set1) | ((with_reducible apply Blk.setOther); (case hne => omega))))
      clear hv2 hx BX lBX cBX fBX c0 c1 c2 c3 c4 c5 c6 c7 c8 c9 hb'
      go_loopg [7] k (fun q i wr2 => ∃ (m : Nat), q = k - m ∧ m ≤ k ∧ i = .int .i64 m ∧ Ext w wr2 ∧ Blk wr2 y1.heap.size (g k).c 27 ∧ Blk wr2 wr.heap.size (g m).c 27)
      case atStart => exact ⟨0, rfl, by omega, rfl, hxv, BX2, BW⟩
      case round =>
        clear hxv BX2 BW
        obtain ⟨m, hg2, hm, rfl, hx, BX, BW⟩ := hrel
        by_cases hlt2 : m < k
        · have RM := hr m hlt2
          obtain ⟨hb', c0, c1, c2, c3, c4, c5, c6, c7, c8, c9⟩ := RM.ext hx
          have FA := fFrom_ok (f m) (hok m hlt2)
          have FB := fFrom_ok (g m) (WK m hlt2)
          have FC := fun v1 v2 w h1 h2 => fCmp (f m).q (g m).q v1 v2 (Rt.q_fits _ (hok m hlt2)) (Rt.q_fits _ (WK m hlt2)) w h1 h2
          have WM := WS m
          clear hr hok WS WK W0 EQ
          cases hl : decide (cmpQ (f m).q (g m).q < 0) with
          | true =>
            replace WM : g (m + 1) = f m := by rw [WM, show lessQ (f m) (g m) = true from hl]; rfl
            generalize cmpQ (f m).q (g m).q = c at *
            generalize f m = x0 at *
            generalize hgm : g m = y0 at *
            generalize hgk : g k = z0 at *
            obtain ⟨v, rfl⟩ : ∃ v', v' = wr := ⟨_, rfl⟩
            have lBX := BX.lt; have cBX := BX.cell; have fBX := BX.frozen; have lBW := BW.lt; have cBW := BW.cell; have fBW := BW.frozen
            go_upto_region 13 with fail
            (first | refine wp_region_p (by kernel_rfl) ?_ | refine wp_region_p' (by kernel_rfl) ?_); refine wpAny_ph 0 9 [0, 1, 2, 3, 5] [4, 6, 7, 8] [] (fun _ => .cells #[] 0) (by decide) (by kernel_rfl) (clo_first (Nat.le_of_ble_eq_true (by kernel_rfl)) (by kernel_rfl)) (fun j hj => by cases hj) ?_; simp only [List.map_cons, List.map_nil, List.getD_cons_succ, List.getD_cons_zero]; (refine wpG_l rfl (fun K hK => ?_); go_simp; refine hK _ ?_; clear hK K); (refine wpG_l rfl (fun K hK => ?_); go_simp; refine hK _ ?_; clear hK K); (refine wpG_l rfl (fun K hK => ?_); go_simp; refine hK _ ?_; clear hK K); (refine wpG_l rfl (fun K hK => ?_); go_simp; refine hK _ ?_; clear hK K); (refine wpG_l rfl (fun K hK => ?_); go_simp; refine hK _ ?_; clear hK K); refine wpG_nil ?_; intro d0; have hx0 : Ext v (grow v d0) := ⟨d0, rfl⟩; generalize grow v d0 = y0 at *; (refine wpX_c rfl (fun t0 ht K hK => ?_); have hx0 := hx0.trans ht; go_simp; refine ⟨_, _, ⟨rfl, rfl⟩, ?_⟩; (with_reducible refine (FA _).mono ?_); rintro e y1 ⟨r1, rfl, hr1, hz1⟩; have hx1 : Ext v y1 := hx0.trans hz1; refine ⟨_, rfl, hz1, hK _ _ ?_⟩; clear hK K); (refine wpX_c rfl (fun t1 ht K hK => ?_); have hx1 := hx1.trans ht; have hr1 := hr1.ext ht; go_simp; refine ⟨_, _, ⟨rfl, rfl⟩, ?_⟩; (with_reducible refine (FB _).mono ?_); rintro e y2 ⟨r2, rfl, hr2, hz2⟩; have hx2 : Ext v y2 := hx1.trans hz2; have hr1 := hr1.ext hz2; refine ⟨_, rfl, hz2, hK _ _ ?_⟩; clear hK K); (refine wpX_c rfl (fun t2 ht K hK => ?_); have hx2 := hx2.trans ht; have hr1 := hr1.ext ht; have hr2 := hr2.ext ht; go_simp; refine ⟨_, _, ⟨rfl, rfl⟩, ?_⟩; (with_reducible refine (FC _ _ _ hr1 hr2).mono ?_); rintro e y3 ⟨rfl, hz3⟩; have hx3 : Ext v y3 := hx2.trans hz3; have hr1 := hr1.ext hz3; have hr2 := hr2.ext hz3; refine ⟨_, rfl, hz3, hK _ _ ?_⟩; clear hK K); (refine wpX_v rfl (fun t3 ht K hK => ?_); have hx3 := hx3.trans ht; have hr1 := hr1.ext ht; have hr2 := hr2.ext ht; go_simp; refine ⟨_, _, ⟨rfl, rfl⟩, Ext.refl _, hK _ _ ?_⟩; clear hK K); refine wpX_nil (fun y ht b hb => ?_); have hxv := hx3.trans ht; have hx := hx.trans hxv; have hr1 := hr1.ext ht; have hr2 := hr2.ext ht; simp only [fill]; clear hb; replace BX := BX.ext hxv; clear lBX cBX fBX; replace BW := BW.ext hxv; clear lBW cBW fBW; clear hxv ht b; obtain ⟨v, rfl⟩ : ∃ v', v' = y := ⟨_, rfl⟩; have lBX := BX.lt; have cBX := BX.cell; have fBX := BX.frozen; have lBW := BW.lt; have cBW := BW.cell; have fBW := BW.frozen; refine wpAny_done (by kernel_rfl) ?_; simp only [List.drop_succ_cons, List.drop_zero, List.drop_nil]
            clear c0 c1 c2 c3 c4 c5 c6 c7 c8 c9 hb'
            obtain ⟨hb', c0, c1, c2, c3, c4, c5, c6, c7, c8, c9⟩ := RM.ext hx
            go_wp2
            go_roundg (k - (m + 1))
            case measure => omega
            case rel => exact ⟨m + 1, rfl, by omega, by go_num, (by repeat (first | (with_reducible exact Ext.refl _) | (with_reducible assumption) | (with_reducible apply Ext.grow) | (with_reducible apply Ext.alloc) | (with_reducible apply Ext.drew) | ((with_reducible apply Ext.set); (case hb => (first | omega | (simp; omega)))))), (by repeat (first | (with_reducible assumption) | ((with_reducible refine Blk.new _ _ _ ?_); (simp; done)) | (with_reducible apply Blk.alloc) | (with_reducible apply Blk.grow) | (with_reducible apply Blk.drew) | (with_reducible apply Blk.set10) | (with_reducible apply Blk.set5) | (with_reducible apply Blk.set4) | (with_reducible apply Blk.tail4) | (with_reducible apply Blk.set2) | (with_reducible apply Blk.set1) | ((with_reducible apply Blk.setOther); (case hne => omega)))), by rw [WM]; exact (by repeat (first | (with_reducible assumption) | ((with_reducible refine Blk.new _ _ _ ?_); (simp; done)) | (with_reducible apply Blk.alloc) | (with_reducible apply Blk.grow) | (with_reducible apply Blk.drew) | (with_reducible apply Blk.set10) | (with_reducible apply Blk.set5) | (with_reducible apply Blk.set4) | (with_reducible apply Blk.tail4) | (with_reducible apply Blk.set2) | (with_reducible apply Blk.set1) | ((with_reducible apply Blk.setOther); (case hne => omega))))⟩
          | false =>
            replace WM : g (m + 1) = g m := by rw [WM, show lessQ (f m) (g m) = false from hl]; rfl
            generalize cmpQ (f m).q (g m).q = c at *
            generalize f m = x0 at *
            generalize hgm : g m = y0 at *
            generalize hgk : g k = z0 at *
            obtain ⟨v, rfl⟩ : ∃ v', v' = wr := ⟨_, rfl⟩
            have lBX := BX.lt; have cBX := BX.cell; have fBX := BX.frozen; have lBW := BW.lt; have cBW := BW.cell; have fBW := BW.frozen
            go_upto_region 13 with fail
            (first | refine wp_region_p (by kernel_rfl) ?_ | refine wp_region_p' (by kernel_rfl) ?_); refine wpAny_ph 0 9 [0, 1, 2, 3, 5] [4, 6, 7, 8] [] (fun _ => .cells #[] 0) (by decide) (by kernel_rfl) (clo_first (Nat.le_of_ble_eq_true (by kernel_rfl)) (by kernel_rfl)) (fun j hj => by cases hj) ?_; simp only [List.map_cons, List.map_nil, List.getD_cons_succ, List.getD_cons_zero]; (refine wpG_l rfl (fun K hK => ?_); go_simp; refine hK _ ?_; clear hK K); (refine wpG_l rfl (fun K hK => ?_); go_simp; refine hK _ ?_; clear hK K); (refine wpG_l rfl (fun K hK => ?_); go_simp; refine hK _ ?_; clear hK K); (refine wpG_l rfl (fun K hK => ?_); go_simp; refine hK _ ?_; clear hK K); (refine wpG_l rfl (fun K hK => ?_); go_simp; refine hK _ ?_; clear hK K); refine wpG_nil ?_; intro d0; have hx0 : Ext v (grow v d0) := ⟨d0, rfl⟩; generalize grow v d0 = y0 at *; (refine wpX_c rfl (fun t0 ht K hK => ?_); have hx0 := hx0.trans ht; go_simp; refine ⟨_, _, ⟨rfl, rfl⟩, ?_⟩; (with_reducible refine (FA _).mono ?_); rintro e y1 ⟨r1, rfl, hr1, hz1⟩; have hx1 : Ext v y1 := hx0.trans hz1; refine ⟨_, rfl, hz1, hK _ _ ?_⟩; clear hK K); (refine wpX_c rfl (fun t1 ht K hK => ?_); have hx1 := hx1.trans ht; have hr1 := hr1.ext ht; go_simp; refine ⟨_, _, ⟨rfl, rfl⟩, ?_⟩; (with_reducible refine (FB _).mono ?_); rintro e y2 ⟨r2, rfl, hr2, hz2⟩; have hx2 : Ext v y2 := hx1.trans hz2; have hr1 := hr1.ext hz2; refine ⟨_, rfl, hz2, hK _ _ ?_⟩; clear hK K); (refine wpX_c rfl (fun t2 ht K hK => ?_); have hx2 := hx2.trans ht; have hr1 := hr1.ext ht; have hr2 := hr2.ext ht; go_simp; refine ⟨_, _, ⟨rfl, rfl⟩, ?_⟩; (with_reducible refine (FC _ _ _ hr1 hr2).mono ?_); rintro e y3 ⟨rfl, hz3⟩; have hx3 : Ext v y3 := hx2.trans hz3; have hr1 := hr1.ext hz3; have hr2 := hr2.ext hz3; refine ⟨_, rfl, hz3, hK _ _ ?_⟩; clear hK K); (refine wpX_v rfl (fun t3 ht K hK => ?_); have hx3 := hx3.trans ht; have hr1 := hr1.ext ht; have hr2 := hr2.ext ht; go_simp; refine ⟨_, _, ⟨rfl, rfl⟩, Ext.refl _, hK _ _ ?_⟩; clear hK K); refine wpX_nil (fun y ht b hb => ?_); have hxv := hx3.trans ht; have hx := hx.trans hxv; have hr1 := hr1.ext ht; have hr2 := hr2.ext ht; simp only [fill]; clear hb; replace BX := BX.ext hxv; clear lBX cBX fBX; replace BW := BW.ext hxv; clear lBW cBW fBW; clear hxv ht b; obtain ⟨v, rfl⟩ : ∃ v', v' = y := ⟨_, rfl⟩; have lBX := BX.lt; have cBX := BX.cell; have fBX := BX.frozen; have lBW := BW.lt; have cBW := BW.cell; have fBW := BW.frozen; refine wpAny_done (by kernel_rfl) ?_; simp only [List.drop_succ_cons, List.drop_zero, List.drop_nil]
            --s4false
            go_wp2
            go_roundg (k - (m + 1))
            case measure => omega
            case rel => exact ⟨m + 1, rfl, by omega, by go_num, (by repeat (first | (with_reducible exact Ext.refl _) | (with_reducible assumption) | (with_reducible apply Ext.grow) | (with_reducible apply Ext.alloc) | (with_reducible apply Ext.drew) | ((with_reducible apply Ext.set); (case hb => (first | omega | (simp; omega)))))), (by repeat (first | (with_reducible assumption) | ((with_reducible refine Blk.new _ _ _ ?_); (simp; done)) | (with_reducible apply Blk.alloc) | (with_reducible apply Blk.grow) | (with_reducible apply Blk.drew) | (with_reducible apply Blk.set10) | (with_reducible apply Blk.set5) | (with_reducible apply Blk.set4) | (with_reducible apply Blk.tail4) | (with_reducible apply Blk.set2) | (with_reducible apply Blk.set1) | ((with_reducible apply Blk.setOther); (case hne => omega)))), by rw [WM]; exact (by repeat (first | (with_reducible assumption) | ((with_reducible refine Blk.new _ _ _ ?_); (simp; done)) | (with_reducible apply Blk.alloc) | (with_reducible apply Blk.grow) | (with_reducible apply Blk.drew) | (with_reducible apply Blk.set10) | (with_reducible apply Blk.set5) | (with_reducible apply Blk.set4) | (with_reducible apply Blk.tail4) | (with_reducible apply Blk.set2) | (with_reducible apply Blk.set1) | ((with_reducible apply Blk.setOther); (case hne => omega))))⟩
        · obtain rfl : m = k := by omega
          clear hr hok WS WK W0
          have lBX := BX.lt; have cBX := BX.cell; have fBX := BX.frozen; have lBW := BW.lt; have cBW := BW.cell; have fBW := BW.frozen
          --s3
          go_wp2_with (go_at_call 12; (with_reducible refine (num_law _ _).mono ?_); rintro e w2 ⟨rfl, h2_⟩; subst w2)
          exact bodyPost_ret (v := .bool true) (by simp [results, Tryz.results36, go_sem]) rfl ⟨rfl, (by repeat (first | (with_reducible exact Ext.refl _) | (with_reducible assumption) | (with_reducible apply Ext.grow) | (with_reducible apply Ext.alloc) | (with_reducible apply Ext.drew) | ((with_reducible apply Ext.set); (case hb => (first | omega | (simp; omega))))))⟩
end Go.Proofs.YtjkchmegnfbfoaaGreatDoor

namespace Go.Proofs.YtjkchmegnfbfoaaGreatDoor
open Go Go.RowKit
set_option linter.unusedSimpArgs false
set_option linter.unusedVariables false
set_option maxRecDepth 100000
set_option exponentiation.threshold 3000

set_option maxHeartbeats 16000000 in
theorem Orders_walk (x y : Rt) (a : Option Addr) (n cap : Nat) (oa ob : Bool) (c ec : Int) (sf : Bool) (mf : Nat) (ef : Int) (p q : Rat) (F : Int)
    (CC : Ans 31 #[x.v, y.v] (.tuple #[.int .i64 c, .int .i64 ec])) (CF : Ans 32 #[x.v] (.tuple #[intV sf mf, .int .i64 ef]))
    (RA : Ans 8 #[x.v] (.bool oa)) (RB : Ans 8 #[y.v] (.bool ob))
    (FA : oa = true → ∀ w, Calls Tryz.prog 25 #[x.v] w (RetB (fun W r => FrQ W r p) w)) (FB : ob = true → ∀ w, Calls Tryz.prog 25 #[y.v] w (RetB (fun W r => FrQ W r q) w))
    (FC : oa = true → ob = true → ∀ v1 v2 w, FrQ w v1 p → FrQ w v2 q → Calls Tryz.prog 33 #[v1, v2] w fun e w' => e = .returned (.int .i64 c) ∧ Ext w w')
    (g1 : oa = true → ob = true → ec = 0) (g2 : (oa && ob) = false → c = 0 ∧ ec = 2)
    (FL : oa = true → ∀ v w, FrQ w v p → Calls Tryz.prog 35 #[v] w (RetB (fun W r => BigV W r F) w)) (OU : oa = true → ∀ v w, BigV w v F → Calls Tryz.prog 34 #[v] w fun e w' => e = .returned (.tuple #[intV sf mf, .int .i64 0]) ∧ Ext w w')
    (g3 : oa = true → ef = 0) (g4 : oa = false → ef = 2) (EI : oa = true → EqT 25 (intV sf mf) (intV sf mf)) (EZ : oa = false → EqT 25 (intV sf mf) iZ)
    (w : World) (hT : Tab w) (LE : n ≤ 6 → ∀ z, Ext w z → Calls Tryz.prog 36 #[.slice a n cap] z fun e w' => e = .returned (.bool true) ∧ Ext z w') :
    Calls Tryz.prog 5 #[x.v, y.v, .slice a n cap] w fun e w' => e = .returned (.bool true) ∧ Ext w w' := by
  have hx : Ext w w := Ext.refl w
  have cw := works_true
  obtain ⟨s1, m1, u1, k1, _, _⟩ := x
  obtain ⟨s2, m2, u2, k2, _, _⟩ := y
  by_cases hn : n ≤ 6
  · replace LE := LE hn
    have hn' : decide (((n : Nat) : Int) > 6) = false := by simp; omega
    go_enter Tryz.func5, Tryz.ntmps5
    go_wp2_with (go_at_call 31; (with_reducible refine (CC _).mono ?_); rintro e y1 ⟨rfl, hz_⟩; have hzz_ : Ext w y1 := Ext.trans (by repeat (first | (with_reducible exact Ext.refl _) | (with_reducible assumption) | (with_reducible apply Ext.grow) | (with_reducible apply Ext.alloc) | (with_reducible apply Ext.drew) | ((with_reducible apply Ext.set); (case hb => (first | omega | (simp; omega)))))) hz_; have BA : Blk y1 w.heap.size (ratsV s1 m1 u1 k1) 27 := Blk.ext (by repeat (first | (with_reducible assumption) | ((with_reducible refine Blk.new _ _ _ ?_); (simp; done)) | (with_reducible apply Blk.alloc) | (with_reducible apply Blk.grow) | (with_reducible apply Blk.drew) | (with_reducible apply Blk.set10) | (with_reducible apply Blk.set5) | (with_reducible apply Blk.set4) | (with_reducible apply Blk.tail4) | (with_reducible apply Blk.set2) | (with_reducible apply Blk.set1) | ((with_reducible apply Blk.setOther); (case hne => omega)))) hz_; have BB : Blk y1 (w.heap.size + 1) (ratsV s2 m2 u2 k2) 27 := Blk.ext (by repeat (first | (with_reducible assumption) | ((with_reducible refine Blk.new _ _ _ ?_); (simp; done)) | (with_reducible apply Blk.alloc) | (with_reducible apply Blk.grow) | (with_reducible apply Blk.drew) | (with_reducible apply Blk.set10) | (with_reducible apply Blk.set5) | (with_reducible apply Blk.set4) | (with_reducible apply Blk.tail4) | (with_reducible apply Blk.set2) | (with_reducible apply Blk.set1) | ((with_reducible apply Blk.setOther); (case hne => omega)))) hz_; replace hx := hx.trans hzz_; clear hz_ hzz_; have lBA := BA.lt; have cBA := BA.cell; have fBA := BA.frozen; have lBB := BB.lt; have cBB := BB.cell; have fBB := BB.frozen)
    --s1
    clear CC
    go_upto_region 5 with (go_at_call 32; (with_reducible refine (CF _).mono ?_); rintro e y2 ⟨rfl, hz_⟩; have hzz_ : Ext y1 y2 := Ext.trans (by repeat (first | (with_reducible exact Ext.refl _) | (with_reducible assumption) | (with_reducible apply Ext.grow) | (with_reducible apply Ext.alloc) | (with_reducible apply Ext.drew) | ((with_reducible apply Ext.set); (case hb => (first | omega | (simp; omega)))))) hz_)
    refine wp_rebase fun v hv => ?_
    have hzv : Ext y2 v := by rw [hv]; exact (by repeat (first | (with_reducible exact Ext.refl _) | (with_reducible assumption) | (with_reducible apply Ext.grow) | (with_reducible apply Ext.alloc) | (with_reducible apply Ext.drew) | ((with_reducible apply Ext.set); (case hb => (first | omega | (simp; omega))))))
    have BN : Blk v y2.heap.size (ints1 sf mf) 25 := by rw [hv]; exact (by repeat (first | (with_reducible assumption) | ((with_reducible refine Blk.new _ _ _ ?_); (simp; done)) | (with_reducible apply Blk.alloc) | (with_reducible apply Blk.grow) | (with_reducible apply Blk.drew) | (with_reducible apply Blk.set10) | (with_reducible apply Blk.set5) | (with_reducible apply Blk.set4) | (with_reducible apply Blk.tail4) | (with_reducible apply Blk.set2) | (with_reducible apply Blk.set1) | ((with_reducible apply Blk.setOther); (case hne => omega))))
    clear hv CF
    replace BA := (BA.ext hzz_).ext hzv; replace BB := (BB.ext hzz_).ext hzv; replace hx := (hx.trans hzz_).trans hzv
    clear hzz_ hzv hz_ lBA cBA fBA lBB cBB fBB
    have lBA := BA.lt; have cBA := BA.cell; have fBA := BA.frozen; have lBB := BB.lt; have cBB := BB.cell; have fBB := BB.frozen; have lBN := BN.lt; have cBN := BN.cell; have fBN := BN.frozen
    --s2
    go_cut [33] (fun s z => s = .bool (oa && ob) ∧ Ext v z)
    case first =>
      clear FA FB FC g1 g2 FL OU g3 g4 EI EZ
      cases oa with
      | false =>
        go_wp2_with (go_at_call 8; (with_reducible refine (RA _).mono ?_); rintro e z ⟨rfl, hz⟩)
        go_meet
        case rel => exact ⟨by simp, hz⟩
      | true =>
        go_wp2_with (first
          | (go_at_call 8; (with_reducible refine (RA _).mono ?_); rintro e z ⟨rfl, hz⟩; have BB2 := BB.ext hz; have lBB2 := BB2.lt; have cBB2 := BB2.cell; have fBB2 := BB2.frozen)
          | (go_at_call 8; (with_reducible refine (RB _).mono ?_); rintro e z2 ⟨rfl, hz2⟩))
        go_meet
        case rel => exact ⟨by simp, hz.trans hz2⟩
    case rest =>
    obtain ⟨rfl, hz⟩ := hcut
    replace BA := BA.ext hz; replace BB := BB.ext hz; replace BN := BN.ext hz; replace hx := hx.trans hz
    clear hz lBA cBA fBA lBB cBB fBB lBN cBN fBN RB
    have lBA := BA.lt; have cBA := BA.cell; have fBA := BA.frozen; have lBB := BB.lt; have cBB := BB.cell; have fBB := BB.frozen; have lBN := BN.lt; have cBN := BN.cell; have fBN := BN.frozen
    --s3
    go_upto_if 33 with fail
    go_cut [] (fun z => Ext wc z)
    case first =>
      cases hab : oa && ob with
      | false =>
        obtain ⟨rfl, rfl⟩ := g2 hab
        clear FA FB FC g1 g2 FL OU g3 g4 EI EZ
        go_wp2_with (go_at_call 12; (with_reducible refine (num_law _ _).mono ?_); rintro e w2 ⟨rfl, h2_⟩; subst w2)
        go_meet
        case rel => exact (by repeat (first | (with_reducible exact Ext.refl _) | (with_reducible assumption) | (with_reducible apply Ext.grow) | (with_reducible apply Ext.alloc) | (with_reducible apply Ext.drew) | ((with_reducible apply Ext.set); (case hb => (first | omega | (simp; omega))))))
      | true =>
        obtain ⟨rfl, rfl⟩ : oa = true ∧ ob = true := by simpa using hab
        obtain rfl := g1 rfl rfl
        replace FA := FA rfl; replace FB := FB rfl; replace FC := FC rfl rfl
        clear g1 g2 FL OU g3 g4 EI EZ LE hT RA hab
        obtain ⟨v, rfl⟩ : ∃ v', v' = wc := ⟨_, rfl⟩
        have hx0 := Ext.refl v
        replace hx := hx0
        clear hx0
        go_upto_region 6 with fail
        (first | refine wp_region_p (by kernel_rfl) ?_ | refine wp_region_p' (by kernel_rfl) ?_); refine wpAny_ph 0 12 [0, 1, 3] [2, 4, 5, 6, 7, 8, 9, 10, 11] [] (fun _ => .cells #[] 0) (by decide) (by kernel_rfl) (clo_first (Nat.le_of_ble_eq_true (by kernel_rfl)) (by kernel_rfl)) (fun j hj => by cases hj) ?_; simp only [List.map_cons, List.map_nil, List.getD_cons_succ, List.getD_cons_zero]; (refine wpG_l rfl (fun K hK => ?_); go_simp; refine hK _ ?_; clear hK K); (refine wpG_l rfl (fun K hK => ?_); go_simp; refine hK _ ?_; clear hK K); (refine wpG_l rfl (fun K hK => ?_); go_simp; refine hK _ ?_; clear hK K); refine wpG_nil ?_; intro d0; have hx0 : Ext v (grow v d0) := ⟨d0, rfl⟩; generalize grow v d0 = y0 at *; (refine wpX_c rfl (fun t0 ht K hK => ?_); have hx0 := hx0.trans ht; go_simp; refine ⟨_, _, ⟨rfl, rfl⟩, ?_⟩; (with_reducible refine (FA _).mono ?_); rintro e y1 ⟨r1, rfl, hr1, hz1⟩; have hx1 : Ext v y1 := hx0.trans hz1; refine ⟨_, rfl, hz1, hK _ _ ?_⟩; clear hK K); (refine wpX_c rfl (fun t1 ht K hK => ?_); have hx1 := hx1.trans ht; have hr1 := hr1.ext ht; go_simp; refine ⟨_, _, ⟨rfl, rfl⟩, ?_⟩; (with_reducible refine (FB _).mono ?_); rintro e y2 ⟨r2, rfl, hr2, hz2⟩; have hx2 : Ext v y2 := hx1.trans hz2; have hr1 := hr1.ext hz2; refine ⟨_, rfl, hz2, hK _ _ ?_⟩; clear hK K); (refine wpX_c rfl (fun t2 ht K hK => ?_); have hx2 := hx2.trans ht; have hr1 := hr1.ext ht; have hr2 := hr2.ext ht; go_simp; refine ⟨_, _, ⟨rfl, rfl⟩, ?_⟩; (with_reducible refine (FC _ _ _ hr1 hr2).mono ?_); rintro e y3 ⟨rfl, hz3⟩; have hx3 : Ext v y3 := hx2.trans hz3; have hr1 := hr1.ext hz3; have hr2 := hr2.ext hz3; refine ⟨_, rfl, hz3, hK _ _ ?_⟩; clear hK K); (refine wpX_v rfl (fun t3 ht K hK => ?_); have hx3 := hx3.trans ht; have hr1 := hr1.ext ht; have hr2 := hr2.ext ht; go_simp; refine ⟨_, _, ⟨rfl, rfl⟩, Ext.refl _, hK _ _ ?_⟩; clear hK K); (refine wpX_v rfl (fun t3 ht K hK => ?_); have hx3 := hx3.trans ht; have hr1 := hr1.ext ht; have hr2 := hr2.ext ht; go_simp; refine ⟨_, _, ⟨rfl, rfl⟩, Ext.refl _, hK _ _ ?_⟩; clear hK K); (first | (refine wpX_v ?_ (fun t3 ht K hK => ?_); (· (simp [go_sem, Region.wanted, yielded]; done)); have hx3 := hx3.trans ht; have hr1 := hr1.ext ht; have hr2 := hr2.ext ht; go_simp; refine ⟨_, _, ⟨rfl, rfl⟩, Ext.refl _, hK _ _ ?_⟩; clear hK K) | (refine wpX_s ?_ (fun t3 ht => ?_); (· (simp [go_sem, Region.wanted, yielded]; done)); have hx3 := hx3.trans ht; have hr1 := hr1.ext ht; have hr2 := hr2.ext ht)); (refine wpX_c ?_ (fun t3 ht K hK => ?_); (· (simp [go_sem, Region.wanted, yielded]; done)); have hx3 := hx3.trans ht; have hr1 := hr1.ext ht; have hr2 := hr2.ext ht; go_simp; refine ⟨_, _, ⟨rfl, rfl⟩, ?_⟩; (with_reducible refine (num_law _ _).mono ?_); rintro e y4 ⟨rfl, hz4⟩; have hz4 := Ext.of_eq hz4; have hx4 : Ext v y4 := hx3.trans hz4; have hr1 := hr1.ext hz4; have hr2 := hr2.ext hz4; refine ⟨_, rfl, hz4, hK _ _ ?_⟩; clear hK K); (first | (refine wpX_v ?_ (fun t4 ht K hK => ?_); (· (simp [go_sem, Region.wanted, yielded]; done)); have hx4 := hx4.trans ht; have hr1 := hr1.ext ht; have hr2 := hr2.ext ht; go_simp; refine ⟨_, _, ⟨rfl, rfl⟩, Ext.refl _, hK _ _ ?_⟩; clear hK K) | (refine wpX_s ?_ (fun t4 ht => ?_); (· (simp [go_sem, Region.wanted, yielded]; done)); have hx4 := hx4.trans ht; have hr1 := hr1.ext ht; have hr2 := hr2.ext ht)); (refine wpX_v rfl (fun t4 ht K hK => ?_); have hx4 := hx4.trans ht; have hr1 := hr1.ext ht; have hr2 := hr2.ext ht; go_simp; refine ⟨_, _, ⟨rfl, rfl⟩, Ext.refl _, hK _ _ ?_⟩; clear hK K); refine wpX_nil (fun y ht b hb => ?_); have hxv := hx4.trans ht; have hx := hx.trans hxv; have hr1 := hr1.ext ht; have hr2 := hr2.ext ht; simp only [fill]; clear hb; replace BA := BA.ext hxv; clear lBA cBA fBA; replace BB := BB.ext hxv; clear lBB cBB fBB; clear hxv ht b; obtain ⟨v, rfl⟩ : ∃ v', v' = y := ⟨_, rfl⟩; have lBA := BA.lt; have cBA := BA.cell; have fBA := BA.frozen; have lBB := BB.lt; have cBB := BB.cell; have fBB := BB.frozen; refine wpAny_done (by kernel_rfl) ?_; simp only [List.drop_succ_cons, List.drop_zero, List.drop_nil]
        --s4
        go_wp2
        go_meet
        case rel => exact hx
    case rest =>
    replace BA := BA.ext hcut; replace BN := BN.ext hcut; replace hx := hx.trans hcut
    clear hcut FB FC g1 g2 BB lBA cBA fBA lBB cBB fBB lBN cBN fBN
    have lBA := BA.lt; have cBA := BA.cell; have fBA := BA.frozen; have lBN := BN.lt; have cBN := BN.cell; have fBN := BN.frozen
    --s5
    go_upto_if 54 with (go_at_call 8; (with_reducible refine (RA _).mono ?_); rintro e z ⟨rfl, hz⟩)
    replace BA := BA.ext hz; replace BN := BN.ext hz; replace hx := hx.trans hz
    clear hz lBA cBA fBA lBN cBN fBN RA
    have lBA := BA.lt; have cBA := BA.cell; have fBA := BA.frozen; have lBN := BN.lt; have cBN := BN.cell; have fBN := BN.frozen
    go_cut [] (fun z' => Ext z z')
    case first =>
      cases oa with
      | false =>
        obtain rfl := g4 rfl
        replace EZ := EZ rfl
        clear FA FL OU g3 g4 EI
        go_wp2_with (go_at_call 12; (with_reducible refine (num_law _ _).mono ?_); rintro e w2 ⟨rfl, h2_⟩; subst w2)
        go_meet
        case rel => exact (by repeat (first | (with_reducible exact Ext.refl _) | (with_reducible assumption) | (with_reducible apply Ext.grow) | (with_reducible apply Ext.alloc) | (with_reducible apply Ext.drew) | ((with_reducible apply Ext.set); (case hb => (first | omega | (simp; omega))))))
      | true =>
        obtain rfl := g3 rfl
        replace FA := FA rfl; replace FL := FL rfl; replace OU := OU rfl; replace EI := EI rfl
        clear g3 g4 EZ LE
        go_wp2_with (first
          | (go_at_call 25; (with_reducible refine (FA _).mono ?_); rintro e z2 ⟨r2, rfl, hr2, hz2⟩; have hxz2 := hz2)
          | (go_at_call 35; (with_reducible refine (FL _ _ hr2).mono ?_); rintro e z3 ⟨r3, rfl, hr3, hz3⟩; have hxz3 := hxz2.trans hz3)
          | (go_at_call 34; (with_reducible refine (OU _ _ hr3).mono ?_); rintro e z4 ⟨rfl, hz4⟩; have hxz4 := hxz3.trans hz4; have BN2 := BN.ext hxz4; have lBN2 := BN2.lt; have cBN2 := BN2.cell; have fBN2 := BN2.frozen)
          | (go_at_call 12; (with_reducible refine (num_law _ _).mono ?_); rintro e w2 ⟨rfl, h2_⟩; subst w2))
        --s6
        go_meet
        case rel => exact (by repeat (first | (with_reducible exact Ext.refl _) | (with_reducible assumption) | (with_reducible apply Ext.grow) | (with_reducible apply Ext.alloc) | (with_reducible apply Ext.drew) | ((with_reducible apply Ext.set); (case hb => (first | omega | (simp; omega))))))
    case rest =>
    replace hx := hx.trans hcut
    clear hcut FA FL OU g3 g4 EI EZ BA BN lBA cBA fBA lBN cBN fBN
    go_wp2_with (go_at_call 36; (with_reducible refine (LE _ (hx.trans (by repeat (first | (with_reducible exact Ext.refl _) | (with_reducible assumption) | (with_reducible apply Ext.grow) | (with_reducible apply Ext.alloc) | (with_reducible apply Ext.drew) | ((with_reducible apply Ext.set); (case hb => (first | omega | (simp; omega)))))))).mono ?_); rintro e x1 ⟨rfl, hz_⟩; have hzz_ : Ext wc x1 := Ext.trans (by repeat (first | (with_reducible exact Ext.refl _) | (with_reducible assumption) | (with_reducible apply Ext.grow) | (with_reducible apply Ext.alloc) | (with_reducible apply Ext.drew) | ((with_reducible apply Ext.set); (case hb => (first | omega | (simp; omega)))))) hz_; replace hx := hx.trans hzz_; clear hz_ hzz_)
    go_wp2_with (go_at_call 17; (with_reducible refine (cw _ (hT.ext (hx.trans (by repeat (first | (with_reducible exact Ext.refl _) | (with_reducible assumption) | (with_reducible apply Ext.grow) | (with_reducible apply Ext.alloc) | (with_reducible apply Ext.drew) | ((with_reducible apply Ext.set); (case hb => (first | omega | (simp; omega))))))))).mono ?_); rintro e x2 ⟨rfl, hz_⟩; have hzz_ : Ext x1 x2 := Ext.trans (by repeat (first | (with_reducible exact Ext.refl _) | (with_reducible assumption) | (with_reducible apply Ext.grow) | (with_reducible apply Ext.alloc) | (with_reducible apply Ext.drew) | ((with_reducible apply Ext.set); (case hb => (first | omega | (simp; omega)))))) hz_; replace hx := hx.trans hzz_; clear hz_ hzz_)
    exact bodyPost_ret (v := .bool true) (by simp [results, Tryz.results5, go_sem]) rfl ⟨rfl, hx⟩
  · have hn' : decide (((n : Nat) : Int) > 6) = true := by simp; omega
    have hn2 : 6 < n := by omega
    go_enter Tryz.func5, Tryz.ntmps5
    go_wp2_with (go_at_call 17; (with_reducible refine (cw _ (hT.ext (hx.trans (by repeat (first | (with_reducible exact Ext.refl _) | (with_reducible assumption) | (with_reducible apply Ext.grow) | (with_reducible apply Ext.alloc) | (with_reducible apply Ext.drew) | ((with_reducible apply Ext.set); (case hb => (first | omega | (simp; omega))))))))).mono ?_); rintro e y1 ⟨rfl, hz_⟩; have hzz_ : Ext w y1 := Ext.trans (by repeat (first | (with_reducible exact Ext.refl _) | (with_reducible assumption) | (with_reducible apply Ext.grow) | (with_reducible apply Ext.alloc) | (with_reducible apply Ext.drew) | ((with_reducible apply Ext.set); (case hb => (first | omega | (simp; omega)))))) hz_; replace hx := hx.trans hzz_; clear hz_ hzz_)
    exact bodyPost_ret (v := .bool true) (by simp [results, Tryz.results5, go_sem]) rfl ⟨rfl, hx⟩
end Go.Proofs.YtjkchmegnfbfoaaGreatDoor

namespace Go.Proofs.YtjkchmegnfbfoaaGreatDoor
open Go Go.RowKit
set_option linter.unusedSimpArgs false
set_option linter.unusedVariables false
set_option maxRecDepth 100000
set_option exponentiation.threshold 3000

theorem least_true (a : Option Addr) (n cap : Nat) (f : Nat → Rt) (b o : Nat) (w : World) (hn : n ≤ 6) (ha : 0 < n → a = some ⟨b, o, none⟩) (hb : 0 < n → b < w.heap.size) (hr : ∀ i, i < n → RatAt w b (o + i * 10) (f i)) :
    Calls Tryz.prog 36 #[.slice a n cap] w fun e w' => e = .returned (.bool true) ∧ Ext w w' := by
  have hz : ratV false 0 false 0 = qZ := qZ_eq.symm
  by_cases h0 : n = 0
  · subst h0
    exact least_bad a 0 cap f b o w (by omega) ha hb hr 0 (by omega) (fun i h => absurd h (by omega)) (fun h => absurd h (by omega)) (fun _ => rfl) (fun z _ => by rw [hz]; exact Least_empty a cap z)
  · obtain rfl := ha (by omega)
    have hb' := hb (by omega)
    rcases first_no n (fun i => (f i).ok) with h | ⟨j, hj, h1, h2⟩
    · exact least_good n cap f b o w (by omega) (by omega) hb' hr h
    · exact least_bad _ n cap f b o w (by omega) ha hb hr j (by omega) h2 (fun _ => h1) (fun h => absurd h (by omega)) (fun z hz' => by rw [hz]; exact Least_bad n f z b o cap (by omega) (Nat.lt_of_lt_of_le hb' hz'.size) (fun i hi => (hr i hi).ext hz') j hj h2 h1)
theorem floor_abs (x : Rat) (fx : Fits x) : (floorQ x).natAbs < B4 := Nat.lt_of_le_of_lt (floor_le x) fx.1
theorem orders_true (x y : Rt) (a : Option Addr) (n cap : Nat) (f : Nat → Rt) (b o : Nat) (ha : 0 < n → a = some ⟨b, o, none⟩) (w : World) (hb : 0 < n → b < w.heap.size) (hr : ∀ i, i < n → RatAt w b (o + i * 10) (f i)) (hT : Tab w) :
    Calls Tryz.prog 5 #[x.v, y.v, .slice a n cap] w fun e w' => e = .returned (.bool true) ∧ Ext w w' := by
  have LE : n ≤ 6 → ∀ z, Ext w z → Calls Tryz.prog 36 #[.slice a n cap] z fun e w' => e = .returned (.bool true) ∧ Ext z w' := fun hn z hz => least_true a n cap f b o z hn ha (fun h => Nat.lt_of_lt_of_le (hb h) hz.size) (fun i hi => (hr i hi).ext hz)
  have RA := fun w => fRight x w
  have RB := fun w => fRight y w
  have CC : Ans 31 #[x.v, y.v] (.tuple #[.int .i64 (if x.ok && y.ok then cmpQ x.q y.q else 0), .int .i64 (if x.ok && y.ok then 0 else 2)]) := fun w => by
    cases h : x.ok && y.ok with
    | false => exact Cmp_bad x y w h
    | true =>
      obtain ⟨h1, h2⟩ : x.ok = true ∧ y.ok = true := by simpa using h
      have := cCmp x.q y.q (Rt.q_fits x h1) (Rt.q_fits y h2) w
      rwa [← Rt.v_q x h1, ← Rt.v_q y h2] at this
  have FC : x.ok = true → y.ok = true → ∀ v1 v2 w, FrQ w v1 x.q → FrQ w v2 y.q → Calls Tryz.prog 33 #[v1, v2] w fun e w' => e = .returned (.int .i64 (if x.ok && y.ok then cmpQ x.q y.q else 0)) ∧ Ext w w' := fun h1 h2 v1 v2 w k1 k2 => by
    rw [h1, h2]; exact fCmp x.q y.q v1 v2 (Rt.q_fits x h1) (Rt.q_fits y h2) w k1 k2
  cases hx : x.ok with
  | false =>
    refine Orders_walk x y a n cap x.ok y.ok _ _ false 0 2 x.q y.q 0 CC (fun w => Floor_bad x hx w) RA RB (fun h => fFrom_ok x h) (fun h => fFrom_ok y h) FC (fun h1 h2 => by rw [h1, h2]; rfl) (fun h => by rw [h]; exact ⟨rfl, rfl⟩) (fun h => by rw [hx] at h; cases h) (fun h => by rw [hx] at h; cases h) (fun h => by rw [hx] at h; cases h) (fun _ => rfl) (fun h => by rw [hx] at h; cases h) (fun _ w => ?_) w hT LE
    rw [show iZ = intV false 0 from iZ_eq, run_eq_int false 0 false 0 B4_pos B4_pos w]; simp
  | true =>
    have fx := Rt.q_fits x hx
    have fl := floor_abs x.q fx
    refine Orders_walk x y a n cap x.ok y.ok _ _ (decide (floorQ x.q < 0)) (floorQ x.q).natAbs 0 x.q y.q (floorQ x.q) CC (fun w => ?_) RA RB (fun h => fFrom_ok x h) (fun h => fFrom_ok y h) FC (fun h1 h2 => by rw [h1, h2]; rfl) (fun h => by rw [h]; exact ⟨rfl, rfl⟩) (fun _ v w h => fFloor x.q v fx w h) (fun _ v w h => bOut_yes (floorQ x.q) v fl w h) (fun _ => rfl) (fun h => by rw [hx] at h; cases h) (fun _ w => ?_) (fun h => by rw [hx] at h; cases h) w hT LE
    · have := cFloor x.q fx w
      rwa [← Rt.v_q x hx] at this
    · rw [run_eq_int _ _ _ _ fl fl w]; simp
end Go.Proofs.YtjkchmegnfbfoaaGreatDoor
