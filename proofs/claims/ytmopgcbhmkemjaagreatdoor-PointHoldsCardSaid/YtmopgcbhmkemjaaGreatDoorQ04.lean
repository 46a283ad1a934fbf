/- ratio: sums. ratio: sums that are too great, or of what may not be. ratio: sums of what may not be; products. ratio: quotients. ratio: the Rat of two Ints. ratio: which is less. ratio: differences; the greatest whole number that is not greater. ratio over rationals: sums, differences, products, quotients, the order. Rationals that a point's parts can be; plain. The words of a Rat that is not too great for a point; plain. The equality of Rats; Of. Walk of limb's product of two magnitudes. Decimal digits in a row of bytes; that all are digits. The Int of a text. The Int of a text with a sign. What a call answers; small texts and numbers. point: which nodes and points may be. point.Right. -/
import Derived.Test.YtmopgcbhmkemjaaGreatDoorProg
import Derived.Test.YtmopgcbhmkemjaaGreatDoorQ03
import Derived.Laws.Bits64b
import Derived.Test.YtmopgcbhmkemjaaGreatDoorQ01
import Derived.Test.YtmopgcbhmkemjaaGreatDoorQ02
import Derived.Deep.DeepCutAuto
namespace Go.Proofs.YtmopgcbhmkemjaaGreatDoor
open Go Go.RowKit
set_option linter.unusedSimpArgs false
set_option linter.unusedVariables false
set_option maxRecDepth 100000

theorem RatAt.of1 {w : World} {b : Nat} {r : Rt} {T : TypeId} (h : Blk w b r.c T) : RatAt w b 0 r :=
  ⟨h.lt, h.cell 0, h.cell 1, h.cell 2, h.cell 3, h.cell 4, h.cell 5, h.cell 6, h.cell 7, h.cell 8, h.cell 9⟩
abbrev rats2 (r1 r2 : Rt) : Array Value :=
  #[.bool r1.s, q64 (wn r1.m 0), q64 (wn r1.m 1), q64 (wn r1.m 2), q64 (wn r1.m 3), .bool r1.t, q64 (wn r1.k 0), q64 (wn r1.k 1), q64 (wn r1.k 2), q64 (wn r1.k 3),
    .bool r2.s, q64 (wn r2.m 0), q64 (wn r2.m 1), q64 (wn r2.m 2), q64 (wn r2.m 3), .bool r2.t, q64 (wn r2.k 0), q64 (wn r2.k 1), q64 (wn r2.k 2), q64 (wn r2.k 3)]
theorem RatAt.of2a {w : World} {b : Nat} {r1 r2 : Rt} {T : TypeId} (h : Blk w b (rats2 r1 r2) T) : RatAt w b 0 r1 :=
  ⟨h.lt, h.cell 0, h.cell 1, h.cell 2, h.cell 3, h.cell 4, h.cell 5, h.cell 6, h.cell 7, h.cell 8, h.cell 9⟩
theorem RatAt.of2b {w : World} {b : Nat} {r1 r2 : Rt} {T : TypeId} (h : Blk w b (rats2 r1 r2) T) : RatAt w b 10 r2 :=
  ⟨h.lt, h.cell 10, h.cell 11, h.cell 12, h.cell 13, h.cell 14, h.cell 15, h.cell 16, h.cell 17, h.cell 18, h.cell 19⟩
theorem all2_yes (r1 r2 : Rt) (h1 : r1.ok = true) (h2 : r2.ok = true) (w : World) (b cap : Nat) (T : TypeId) (h : Blk w b (rats2 r1 r2) T) :
    Calls Tryz.prog 81 #[.slice (some ⟨b, 0, none⟩) 2 cap] w fun e w' => e = .returned (.tuple #[]) ∧ Ext w w' := by
  refine all_yes 2 (fun i => if i = 0 then r1 else r2) w b 0 cap (by omega) h.lt (fun i hi => ?_) (fun i hi => ?_)
  · obtain rfl | rfl : i = 0 ∨ i = 1 := by omega
    · exact RatAt.of2a h
    · exact RatAt.of2b h
  · obtain rfl | rfl : i = 0 ∨ i = 1 := by omega
    · exact h1
    · exact h2
theorem all2_no (r1 r2 : Rt) (h1 : (r1.ok && r2.ok) = false) (w : World) (b cap : Nat) (T : TypeId) (h : Blk w b (rats2 r1 r2) T) :
    Calls Tryz.prog 81 #[.slice (some ⟨b, 0, none⟩) 2 cap] w fun e w' => e = givesUp 2 ∧ Ext w w' := by
  have hr : ∀ i, i < 2 → RatAt w b (0 + i * 10) (if i = 0 then r1 else r2) := fun i hi => by
    obtain rfl | rfl : i = 0 ∨ i = 1 := by omega
    · exact RatAt.of2a h
    · exact RatAt.of2b h
  cases e : r1.ok with
  | false => exact all_no 2 (fun i => if i = 0 then r1 else r2) w b 0 cap (by omega) h.lt hr 0 (by omega) (fun i hi => absurd hi (by omega)) e
  | true =>
    rw [e, Bool.true_and] at h1
    refine all_no 2 (fun i => if i = 0 then r1 else r2) w b 0 cap (by omega) h.lt hr 1 (by omega) (fun i hi => ?_) h1
    obtain rfl : i = 0 := by omega
    exact e

set_option maxHeartbeats 4000000 in
theorem Add_walk (r1 r2 : Rt) (h1 : r1.ok = true) (h2 : r2.ok = true) (rs : Bool) (rm rk : Nat) (w : World) (hT : Tab w)
    (cm : ∀ w, Tab w → Calls Tryz.prog 82 #[sgnV (splus (!(r1.s == r2.t)) (r1.m * r2.k) (!(r2.s == r1.t)) (r2.m * r1.k)).1 (splus (!(r1.s == r2.t)) (r1.m * r2.k) (!(r2.s == r1.t)) (r2.m * r1.k)).2, wideV (r1.k * r2.k)] w fun e w' => e = .returned (ratV rs rm false rk) ∧ Ext w w') :
    Calls Tryz.prog 53 #[r1.v, r2.v] w fun e w' => e = .returned (.tuple #[ratV rs rm false rk, .int .i64 0]) ∧ Ext w w' := by
  have hmf : ∀ (fn : Fn) (first cap : Array Value) (w : World), (Instr.makeFunc fn first cap).run Tryz.prog w = .ok (.func fn first cap) w := fun _ _ _ _ => rfl
  have ca := all2_yes r1 r2 h1 h2
  have t1 := times_any r1.s r1.m r2.t r2.k r1.hm r2.hk
  have t2 := times_any r2.s r2.m r1.t r1.k r2.hm r1.hk
  have m9 : ∀ {a b : Nat}, a < B4 → b < B4 → a * b < B9 := fun ha hb => Nat.lt_trans (Nat.mul_lt_mul'' ha hb) (by decide)
  have cp := plus_any (!(r1.s == r2.t)) (!(r2.s == r1.t)) _ _ (m9 r1.hm r2.hk) (m9 r2.hm r1.hk)
  have cd := product_any r1.t r2.t r1.k r2.k r1.hk r2.hk
  generalize (splus (!(r1.s == r2.t)) (r1.m * r2.k) (!(r2.s == r1.t)) (r2.m * r1.k)) = S at *
  generalize r1.m * r2.k = p1 at *
  generalize r2.m * r1.k = p2 at *
  generalize r1.k * r2.k = p3 at *
  clear m9
  obtain ⟨s1, m1, u1, k1, _, _⟩ := r1
  obtain ⟨s2, m2, u2, k2, _, _⟩ := r2
  go_enter_defers Tryz.func53, Tryz.ntmps53
  go_wp2_with (go_at_call 81; refine (ca _ _ _ 29 ?_).mono ?_; (· exact blk_auto); rintro e w' ⟨rfl, d, rfl⟩)
  refine wp_rebase fun v hv => ?_
  have hx : Ext w v := by rw [hv]; exact ext_auto
  have hTv := hT.ext hx
  have BA : Blk v w.heap.size (ratsV s1 m1 u1 k1) 29 := by rw [hv]; exact blk_auto
  have BB : Blk v (w.heap.size + 1) (ratsV s2 m2 u2 k2) 29 := by rw [hv]; exact blk_auto
  have BO : Blk v (w.heap.size + 1 + 1) #[.bool false, .int .u64 0, .int .u64 0, .int .u64 0, .int .u64 0, .bool false, .int .u64 0, .int .u64 0, .int .u64 0, .int .u64 0] 29 := by rw [hv]; exact blk_auto
  have BE : Blk v (w.heap.size + 1 + 1 + 1) #[.int .i64 0] 33 := by rw [hv]; exact blk_auto
  clear hv
  have lBA := BA.lt; have cBA := BA.cell; have fBA := BA.frozen; have lBB := BB.lt; have cBB := BB.cell; have fBB := BB.frozen; have lBO := BO.lt; have cBO := BO.cell; have fBO := BO.frozen; have lBE := BE.lt; have cBE := BE.cell; have fBE := BE.frozen
  (first | refine wp_region_k' [.p, .r, .p, .r, .r, .p, .r, .p, .r, .r, .r, .p, .r, .p, .r, .r, .r, .w, .w] (by kernel_rfl) (by kernel_rfl) ?_ | refine wp_region_k [.p, .r, .p, .r, .r, .p, .r, .p, .r, .r, .r, .p, .r, .p, .r, .r, .r, .w, .w] (by kernel_rfl) (by kernel_rfl) ?_); (repeat (first | (refine wpK_p rfl (fun K hK => ?_); go_simp; refine hK _ _ ?_; clear hK K) | (refine wpK_r rfl (fun K hK => ?_); go_simp; refine hK _ _ ?_; clear hK K) | (refine wpK_w rfl (fun K hK => ?_); go_simp; refine hK _ _ ?_; clear hK K) | (refine wpK_r rfl (fun K hK => ?_); go_simp; apply Exists.intro; refine ⟨fun d => ?_, hK _ _ ?_⟩; (first | (with_reducible exact Calls.calm (t1 _)) | (with_reducible exact Calls.calm (t2 _)) | (with_reducible exact Calls.calm (cp _)) | (with_reducible exact Calls.calm (cd _)) | (with_reducible exact Calls.calm (cm _ (hTv.grow _)))); clear hK K))); refine wpK_nil ?_; intro d
  go_wp2
  refine lv_rebase fun u hu => ?_
  have hy : Ext w u := by rw [hu]; exact ext_auto
  have BF : Blk u (w.heap.size + 1 + 1) (ratsV rs rm false rk) 29 := by rw [hu]; exact blk_auto
  have BG : Blk u (w.heap.size + 1 + 1 + 1) #[.int .i64 0] 33 := by rw [hu]; exact blk_auto
  clear hu
  have lBF := BF.lt; have cBF := BF.cell; have fBF := BF.frozen; have lBG := BG.lt; have cBG := BG.cell; have fBG := BG.frozen; clear BF BG
  exact leaves_ratio (.tuple #[ratV rs rm false rk, .int .i64 0]) (by simp [results, Tryz.results53, go_sem, cBF, cBG]) ⟨rfl, hy⟩
end Go.Proofs.YtmopgcbhmkemjaaGreatDoor

namespace Go.Proofs.YtmopgcbhmkemjaaGreatDoor
open Go Go.RowKit
set_option linter.unusedSimpArgs false
set_option linter.unusedVariables false
set_option maxRecDepth 100000

abbrev zeroR (W : World) (b : Nat) : World :=
  (((((((((W.setCell ⟨b, 0, none⟩ (.bool false)).setCell ⟨b, 1, none⟩ (.int .u64 0)).setCell ⟨b, 2, none⟩ (.int .u64 0)).setCell ⟨b, 3, none⟩ (.int .u64 0)).setCell ⟨b, 4, none⟩ (.int .u64 0)).setCell ⟨b, 5, none⟩ (.bool false)).setCell ⟨b, 6, none⟩ (.int .u64 0)).setCell ⟨b, 7, none⟩ (.int .u64 0)).setCell ⟨b, 8, none⟩ (.int .u64 0)).setCell ⟨b, 9, none⟩ (.int .u64 0)
theorem Add_clear (b : Nat) (W : World) (y0 y1 y2 y3 y4 y5 y6 y7 y8 y9 : Value) (h : Blk W b #[y0, y1, y2, y3, y4, y5, y6, y7, y8, y9] 29) :
    Calls Tryz.prog 80 #[.pointer (some ⟨b, 0, none⟩)] W fun e w' => e = .returned (.tuple #[]) ∧ w' = zeroR W b := by
  have lh := h.lt; have ch := h.cell; have fh := h.frozen; clear h
  go_enter Tryz.func80, Tryz.ntmps80
  go_wp2
  go_end0
  exact ⟨rfl, rfl⟩
set_option maxHeartbeats 4000000 in
theorem Add_over (r1 r2 : Rt) (h1 : r1.ok = true) (h2 : r2.ok = true) (w : World) (hT : Tab w)
    (cm : ∀ w, Tab w → Calls Tryz.prog 82 #[sgnV (splus (!(r1.s == r2.t)) (r1.m * r2.k) (!(r2.s == r1.t)) (r2.m * r1.k)).1 (splus (!(r1.s == r2.t)) (r1.m * r2.k) (!(r2.s == r1.t)) (r2.m * r1.k)).2, wideV (r1.k * r2.k)] w fun e w' => e = givesUp 110 ∧ Ext w w') :
    Calls Tryz.prog 53 #[r1.v, r2.v] w fun e w' => e = .returned (.tuple #[qZ, .int .i64 110]) ∧ Ext w w' := by
  have hmf : ∀ (fn : Fn) (first cap : Array Value) (w : World), (Instr.makeFunc fn first cap).run Tryz.prog w = .ok (.func fn first cap) w := fun _ _ _ _ => rfl
  have ca := all2_yes r1 r2 h1 h2
  have t1 := times_any r1.s r1.m r2.t r2.k r1.hm r2.hk
  have t2 := times_any r2.s r2.m r1.t r1.k r2.hm r1.hk
  have m9 : ∀ {a b : Nat}, a < B4 → b < B4 → a * b < B9 := fun ha hb => Nat.lt_trans (Nat.mul_lt_mul'' ha hb) (by decide)
  have cp := plus_any (!(r1.s == r2.t)) (!(r2.s == r1.t)) _ _ (m9 r1.hm r2.hk) (m9 r2.hm r1.hk)
  have cd := product_any r1.t r2.t r1.k r2.k r1.hk r2.hk
  generalize (splus (!(r1.s == r2.t)) (r1.m * r2.k) (!(r2.s == r1.t)) (r2.m * r1.k)) = S at *
  generalize r1.m * r2.k = p1 at *
  generalize r2.m * r1.k = p2 at *
  generalize r1.k * r2.k = p3 at *
  clear m9
  obtain ⟨s1, m1, u1, k1, _, _⟩ := r1
  obtain ⟨s2, m2, u2, k2, _, _⟩ := r2
  go_enter_defers Tryz.func53, Tryz.ntmps53
  go_wp2_with (go_at_call 81; refine (ca _ _ _ 29 ?_).mono ?_; (· exact blk_auto); rintro e w' ⟨rfl, d, rfl⟩)
  refine wp_rebase fun v hv => ?_
  have hx : Ext w v := by rw [hv]; exact ext_auto
  have hTv := hT.ext hx
  have BA : Blk v w.heap.size (ratsV s1 m1 u1 k1) 29 := by rw [hv]; exact blk_auto
  have BB : Blk v (w.heap.size + 1) (ratsV s2 m2 u2 k2) 29 := by rw [hv]; exact blk_auto
  have BO : Blk v (w.heap.size + 1 + 1) #[.bool false, .int .u64 0, .int .u64 0, .int .u64 0, .int .u64 0, .bool false, .int .u64 0, .int .u64 0, .int .u64 0, .int .u64 0] 29 := by rw [hv]; exact blk_auto
  have BE : Blk v (w.heap.size + 1 + 1 + 1) #[.int .i64 0] 33 := by rw [hv]; exact blk_auto
  clear hv
  have lBA := BA.lt; have cBA := BA.cell; have fBA := BA.frozen; have lBB := BB.lt; have cBB := BB.cell; have fBB := BB.frozen; have lBO := BO.lt; have cBO := BO.cell; have fBO := BO.frozen; have lBE := BE.lt; have cBE := BE.cell; have fBE := BE.frozen
  (first | refine wp_region_ksl' [0, 1, 2, 3, 4, 5, 6, 7, 8, 9, 10, 11, 12, 13, 14, 15] 16 _ [{ v := .iface 33 (.int .i64 110), recovered := false }] [.p, .r, .p, .r, .r, .p, .r, .p, .r, .r, .r, .p, .r, .p, .r, .r, .p, .p, .p] (by kernel_rfl) (by kernel_rfl) rfl ?hQ ?hS | refine wp_region_ksl [0, 1, 2, 3, 4, 5, 6, 7, 8, 9, 10, 11, 12, 13, 14, 15] 16 _ [{ v := .iface 33 (.int .i64 110), recovered := false }] [.p, .r, .p, .r, .r, .p, .r, .p, .r, .r, .r, .p, .r, .p, .r, .r, .p, .p, .p] (by kernel_rfl) (by kernel_rfl) rfl ?hQ ?hS); (case hS => (simp only [List.map_cons, List.map_nil, List.getD_cons_succ, List.getD_cons_zero]; (repeat (first | (refine wpK_p rfl (fun K hK => ?_); go_simp; refine hK _ _ ?_; clear hK K) | (refine wpK_r rfl (fun K hK => ?_); go_simp; refine hK _ _ ?_; clear hK K) | (refine wpK_r rfl (fun K hK => ?_); go_simp; apply Exists.intro; refine ⟨fun d => ?_, hK _ _ ?_⟩; (first | (with_reducible exact Calls.calm (t1 _)) | (with_reducible exact Calls.calm (t2 _)) | (with_reducible exact Calls.calm (cp _)) | (with_reducible exact Calls.calm (cd _))); clear hK K))); refine wpK_nil ?_; refine ⟨rfl, fun d => ?_⟩; go_simp; refine ⟨_, _, ⟨rfl, rfl⟩, ?_⟩; (with_reducible exact Calls.calmP (cm _ (hTv.grow _))))); intro a d hd hkept
  have e4 := hkept 4 (by kernel_rfl)
  have e5 := hkept 5 (by kernel_rfl)
  simp at e4 e5
  show Leaves _ _ a.tmps _ a.defers _ _
  rw [hd]
  clear hkept hd
  refine leaves_ratio_pan 0 110 80 _ ((BE.grow _).cell 0) ((BE.grow _).frozen 0) (fun _ _ => by kernel_rfl) ?_
  refine (Add_clear _ _ _ _ _ _ _ _ _ _ _ _ ((BO.grow _).setOther (by omega))).mono ?_
  rintro e' u ⟨rfl, hu⟩
  simp only [zeroR] at hu
  have hy : Ext w u := by rw [hu]; exact ext_auto
  have BF : Blk u (w.heap.size + 1 + 1) #[.bool false, .int .u64 0, .int .u64 0, .int .u64 0, .int .u64 0, .bool false, .int .u64 0, .int .u64 0, .int .u64 0, .int .u64 0] 29 := by rw [hu]; exact blk_auto
  have BG : Blk u (w.heap.size + 1 + 1 + 1) #[.int .i64 110] 33 := by rw [hu]; exact blk_auto
  clear hu
  have lBF := BF.lt; have cBF := BF.cell; have fBF := BF.frozen; have lBG := BG.lt; have cBG := BG.cell; have fBG := BG.frozen; clear BF BG
  exact ⟨rfl, .tuple #[qZ, .int .i64 110], by simp [results, Tryz.results53, go_sem, e4, e5, cBF, cBG], rfl, hy⟩
end Go.Proofs.YtmopgcbhmkemjaaGreatDoor

namespace Go.Proofs.YtmopgcbhmkemjaaGreatDoor
open Go Go.RowKit
set_option linter.unusedSimpArgs false
set_option linter.unusedVariables false
set_option maxRecDepth 100000

set_option maxHeartbeats 4000000 in
theorem Add_bad (r1 r2 : Rt) (w : World) (hT : Tab w) (h : (r1.ok && r2.ok) = false) :
    Calls Tryz.prog 53 #[r1.v, r2.v] w fun e w' => e = .returned (.tuple #[qZ, .int .i64 2]) ∧ Ext w w' := by
  have hmf : ∀ (fn : Fn) (first cap : Array Value) (w : World), (Instr.makeFunc fn first cap).run Tryz.prog w = .ok (.func fn first cap) w := fun _ _ _ _ => rfl
  have ca := all2_no r1 r2 h
  clear h
  obtain ⟨s1, m1, u1, k1, _, _⟩ := r1
  obtain ⟨s2, m2, u2, k2, _, _⟩ := r2
  go_enter_defers Tryz.func53, Tryz.ntmps53
  go_wp2_with (go_at_call 81; refine (ca _ _ _ 29 ?_).mono ?_; (· exact blk_auto); rintro e w' ⟨rfl, d, rfl⟩)
  refine lv_rebase fun v hv => ?_
  have hx : Ext w v := by rw [hv]; exact ext_auto
  have BO : Blk v (w.heap.size + 1 + 1) #[.bool false, .int .u64 0, .int .u64 0, .int .u64 0, .int .u64 0, .bool false, .int .u64 0, .int .u64 0, .int .u64 0, .int .u64 0] 29 := by rw [hv]; exact blk_auto
  have BE : Blk v (w.heap.size + 1 + 1 + 1) #[.int .i64 0] 33 := by rw [hv]; exact blk_auto
  clear hv
  refine leaves_ratio_pan 0 2 80 _ (BE.cell 0) (BE.frozen 0) (fun _ _ => by kernel_rfl) ?_
  refine (Add_clear _ _ _ _ _ _ _ _ _ _ _ _ (BO.setOther (by omega))).mono ?_
  rintro e' z ⟨rfl, hz⟩
  have hy : Ext w z := by rw [hz]; exact ext_auto
  have BF : Blk z (w.heap.size + 1 + 1) #[.bool false, .int .u64 0, .int .u64 0, .int .u64 0, .int .u64 0, .bool false, .int .u64 0, .int .u64 0, .int .u64 0, .int .u64 0] 29 := by rw [hz]; exact blk_auto
  have BG : Blk z (w.heap.size + 1 + 1 + 1) #[.int .i64 2] 33 := by rw [hz]; exact blk_auto
  clear hz
  have lBF := BF.lt; have cBF := BF.cell; have fBF := BF.frozen; have lBG := BG.lt; have cBG := BG.cell; have fBG := BG.frozen; clear BF BG
  exact ⟨rfl, .tuple #[qZ, .int .i64 2], by simp [results, Tryz.results53, go_sem, cBF, cBG], rfl, hy⟩
end Go.Proofs.YtmopgcbhmkemjaaGreatDoor

namespace Go.Proofs.YtmopgcbhmkemjaaGreatDoor
open Go Go.RowKit
set_option linter.unusedSimpArgs false
set_option linter.unusedVariables false
set_option maxRecDepth 100000

theorem Div_clear (b : Nat) (W : World) (y0 y1 y2 y3 y4 y5 y6 y7 y8 y9 : Value) (h : Blk W b #[y0, y1, y2, y3, y4, y5, y6, y7, y8, y9] 29) :
    Calls Tryz.prog 108 #[.pointer (some ⟨b, 0, none⟩)] W fun e w' => e = .returned (.tuple #[]) ∧ w' = ((((((((((W.setCell ⟨b, 0, none⟩ (.bool false)).setCell ⟨b, 1, none⟩ (.int .u64 0)).setCell ⟨b, 2, none⟩ (.int .u64 0)).setCell ⟨b, 3, none⟩ (.int .u64 0)).setCell ⟨b, 4, none⟩ (.int .u64 0)).setCell ⟨b, 5, none⟩ (.bool false)).setCell ⟨b, 6, none⟩ (.int .u64 0)).setCell ⟨b, 7, none⟩ (.int .u64 0)).setCell ⟨b, 8, none⟩ (.int .u64 0)).setCell ⟨b, 9, none⟩ (.int .u64 0)) := by
  have lh := h.lt; have ch := h.cell; have fh := h.frozen; clear h
  go_enter Tryz.func108, Tryz.ntmps108
  go_wp2
  go_end0
  exact ⟨rfl, rfl⟩
set_option maxHeartbeats 4000000 in
theorem Div_walk (r1 r2 : Rt) (w : World) (hT : Tab w) (h1 : r1.ok = true) (h2 : r2.ok = true) (h0 : r2.m ≠ 0) (rs : Bool) (rm rk : Nat) (cm : ∀ w, Tab w → Calls Tryz.prog 82 #[sgnV (!(r1.s == r2.s)) (r1.m * r2.k), wideV (r1.k * r2.m)] w fun e w' => e = .returned (ratV rs rm false rk) ∧ Ext w w') :
    Calls Tryz.prog 78 #[r1.v, r2.v] w fun e w' => e = .returned (.tuple #[ratV rs rm false rk, .int .i64 0]) ∧ Ext w w' := by
  have hmf : ∀ (fn : Fn) (first cap : Array Value) (w : World), (Instr.makeFunc fn first cap).run Tryz.prog w = .ok (.func fn first cap) w := fun _ _ _ _ => rfl
  have ca := all2_yes r1 r2 h1 h2
  have cs := sign_any r2.s r2.m r2.hm
  have hc : (sgn r2.s r2.m != 0) = true := by cases r2.s <;> simp [sgn, h0]
  have cn := product_any r1.s r2.t r1.m r2.k r1.hm r2.hk
  have cd := product_any r1.t r2.s r1.k r2.m r1.hk r2.hm
  clear h0
  generalize sgn r2.s r2.m = c at *
  generalize r1.m * r2.k = p1 at *
  generalize r1.k * r2.m = p3 at *
  obtain ⟨s1, m1, u1, k1, _, _⟩ := r1
  obtain ⟨s2, m2, u2, k2, _, _⟩ := r2
  go_enter_defers Tryz.func78, Tryz.ntmps78
  go_wp2_with (first
    | (go_at_call 81; refine (ca _ _ _ 29 ?_).mono ?_; (· exact blk_auto); rintro e w' ⟨rfl, d, rfl⟩)
    | (go_at_call 104; (with_reducible refine (cs _).mono ?_); rintro e w' ⟨rfl, d, rfl⟩)
    | (go_at_call 109; refine (rmust_yes _ _).mono ?_; rintro e w' ⟨rfl, rfl⟩))
  refine wp_rebase fun v hv => ?_
  have hx : Ext w v := by rw [hv]; exact ext_auto
  have hTv := hT.ext hx
  have BA : Blk v w.heap.size (ratsV s1 m1 u1 k1) 29 := by rw [hv]; exact blk_auto
  have BB : Blk v (w.heap.size + 1) (ratsV s2 m2 u2 k2) 29 := by rw [hv]; exact blk_auto
  have BO : Blk v (w.heap.size + 1 + 1) #[.bool false, .int .u64 0, .int .u64 0, .int .u64 0, .int .u64 0, .bool false, .int .u64 0, .int .u64 0, .int .u64 0, .int .u64 0] 29 := by rw [hv]; exact blk_auto
  have BE : Blk v (w.heap.size + 1 + 1 + 1) #[.int .i64 0] 33 := by rw [hv]; exact blk_auto
  clear hv
  have lBA := BA.lt; have cBA := BA.cell; have fBA := BA.frozen; have lBB := BB.lt; have cBB := BB.cell; have fBB := BB.frozen; have lBO := BO.lt; have cBO := BO.cell; have fBO := BO.frozen; have lBE := BE.lt; have cBE := BE.cell; have fBE := BE.frozen
  (first | refine wp_region_k' [.p, .r, .p, .r, .r, .p, .p, .r, .p, .p, .r, .p, .p, .p, .r, .p, .r, .r, .r, .w, .w] (by kernel_rfl) (by kernel_rfl) ?_ | refine wp_region_k [.p, .r, .p, .r, .r, .p, .p, .r, .p, .p, .r, .p, .p, .p, .r, .p, .r, .r, .r, .w, .w] (by kernel_rfl) (by kernel_rfl) ?_); (repeat (first | (refine wpK_p rfl (fun K hK => ?_); go_simp; refine hK _ _ ?_; clear hK K) | (refine wpK_r rfl (fun K hK => ?_); go_simp; refine hK _ _ ?_; clear hK K) | (refine wpK_w rfl (fun K hK => ?_); go_simp; refine hK _ _ ?_; clear hK K) | (refine wpK_r rfl (fun K hK => ?_); go_simp; apply Exists.intro; refine ⟨fun d => ?_, hK _ _ ?_⟩; (first | (with_reducible exact Calls.calm (cn _)) | (with_reducible exact Calls.calm (cd _)) | (with_reducible exact Calls.calm (cm _ (hTv.grow _)))); clear hK K))); refine wpK_nil ?_; intro d
  go_wp2
  refine lv_rebase fun u hu => ?_
  have hy : Ext w u := by rw [hu]; exact ext_auto
  have BF : Blk u (w.heap.size + 1 + 1) (ratsV rs rm false rk) 29 := by rw [hu]; exact blk_auto
  have BG : Blk u (w.heap.size + 1 + 1 + 1) #[.int .i64 0] 33 := by rw [hu]; exact blk_auto
  clear hu
  have lBF := BF.lt; have cBF := BF.cell; have fBF := BF.frozen; have lBG := BG.lt; have cBG := BG.cell; have fBG := BG.frozen; clear BF BG
  exact leaves_ratio (.tuple #[ratV rs rm false rk, .int .i64 0]) (by simp [results, Tryz.results78, go_sem, cBF, cBG]) ⟨rfl, hy⟩
set_option maxHeartbeats 4000000 in
theorem Div_over (r1 r2 : Rt) (w : World) (hT : Tab w) (h1 : r1.ok = true) (h2 : r2.ok = true) (h0 : r2.m ≠ 0) (cm : ∀ w, Tab w → Calls Tryz.prog 82 #[sgnV (!(r1.s == r2.s)) (r1.m * r2.k), wideV (r1.k * r2.m)] w fun e w' => e = givesUp 110 ∧ Ext w w') :
    Calls Tryz.prog 78 #[r1.v, r2.v] w fun e w' => e = .returned (.tuple #[qZ, .int .i64 110]) ∧ Ext w w' := by
  have hmf : ∀ (fn : Fn) (first cap : Array Value) (w : World), (Instr.makeFunc fn first cap).run Tryz.prog w = .ok (.func fn first cap) w := fun _ _ _ _ => rfl
  have ca := all2_yes r1 r2 h1 h2
  have cs := sign_any r2.s r2.m r2.hm
  have hc : (sgn r2.s r2.m != 0) = true := by cases r2.s <;> simp [sgn, h0]
  have cn := product_any r1.s r2.t r1.m r2.k r1.hm r2.hk
  have cd := product_any r1.t r2.s r1.k r2.m r1.hk r2.hm
  clear h0
  generalize sgn r2.s r2.m = c at *
  generalize r1.m * r2.k = p1 at *
  generalize r1.k * r2.m = p3 at *
  obtain ⟨s1, m1, u1, k1, _, _⟩ := r1
  obtain ⟨s2, m2, u2, k2, _, _⟩ := r2
  go_enter_defers Tryz.func78, Tryz.ntmps78
  go_wp2_with (first
    | (go_at_call 81; refine (ca _ _ _ 29 ?_).mono ?_; (· exact blk_auto); rintro e w' ⟨rfl, d, rfl⟩)
    | (go_at_call 104; (with_reducible refine (cs _).mono ?_); rintro e w' ⟨rfl, d, rfl⟩)
    | (go_at_call 109; refine (rmust_yes _ _).mono ?_; rintro e w' ⟨rfl, rfl⟩))
  refine wp_rebase fun v hv => ?_
  have hx : Ext w v := by rw [hv]; exact ext_auto
  have hTv := hT.ext hx
  have BA : Blk v w.heap.size (ratsV s1 m1 u1 k1) 29 := by rw [hv]; exact blk_auto
  have BB : Blk v (w.heap.size + 1) (ratsV s2 m2 u2 k2) 29 := by rw [hv]; exact blk_auto
  have BO : Blk v (w.heap.size + 1 + 1) #[.bool false, .int .u64 0, .int .u64 0, .int .u64 0, .int .u64 0, .bool false, .int .u64 0, .int .u64 0, .int .u64 0, .int .u64 0] 29 := by rw [hv]; exact blk_auto
  have BE : Blk v (w.heap.size + 1 + 1 + 1) #[.int .i64 0] 33 := by rw [hv]; exact blk_auto
  clear hv
  have lBA := BA.lt; have cBA := BA.cell; have fBA := BA.frozen; have lBB := BB.lt; have cBB := BB.cell; have fBB := BB.frozen; have lBO := BO.lt; have cBO := BO.cell; have fBO := BO.frozen; have lBE := BE.lt; have cBE := BE.cell; have fBE := BE.frozen
  (first | refine wp_region_ksl' [0, 1, 2, 3, 4, 5, 6, 7, 8, 9, 10, 11, 12, 13, 14, 15, 16, 17] 18 _ [{ v := .iface 33 (.int .i64 110), recovered := false }] [.p, .r, .p, .r, .r, .p, .p, .r, .p, .p, .r, .p, .p, .p, .r, .p, .r, .r, .p, .p, .p] (by kernel_rfl) (by kernel_rfl) rfl ?hQ ?hS | refine wp_region_ksl [0, 1, 2, 3, 4, 5, 6, 7, 8, 9, 10, 11, 12, 13, 14, 15, 16, 17] 18 _ [{ v := .iface 33 (.int .i64 110), recovered := false }] [.p, .r, .p, .r, .r, .p, .p, .r, .p, .p, .r, .p, .p, .p, .r, .p, .r, .r, .p, .p, .p] (by kernel_rfl) (by kernel_rfl) rfl ?hQ ?hS); (case hS => (simp only [List.map_cons, List.map_nil, List.getD_cons_succ, List.getD_cons_zero]; (repeat (first | (refine wpK_p rfl (fun K hK => ?_); go_simp; refine hK _ _ ?_; clear hK K) | (refine wpK_r rfl (fun K hK => ?_); go_simp; refine hK _ _ ?_; clear hK K) | (refine wpK_r rfl (fun K hK => ?_); go_simp; apply Exists.intro; refine ⟨fun d => ?_, hK _ _ ?_⟩; (first | (with_reducible exact Calls.calm (cn _)) | (with_reducible exact Calls.calm (cd _))); clear hK K))); refine wpK_nil ?_; refine ⟨rfl, fun d => ?_⟩; go_simp; refine ⟨_, _, ⟨rfl, rfl⟩, ?_⟩; (with_reducible exact Calls.calmP (cm _ (hTv.grow _))))); intro a d hd hkept
  have e4 := hkept 4 (by kernel_rfl)
  have e5 := hkept 5 (by kernel_rfl)
  simp at e4 e5
  show Leaves _ _ a.tmps _ a.defers _ _
  rw [hd]
  clear hkept hd
  replace BE := BE.grow d
  replace BO := BO.grow d
  clear lBE cBE fBE lBO cBO fBO
  refine leaves_ratio_pan 0 110 108 _ (BE.cell 0) (BE.frozen 0) (fun _ _ => by kernel_rfl) ?_
  refine (Div_clear _ _ _ _ _ _ _ _ _ _ _ _ (BO.setOther (by omega))).mono ?_
  rintro e' z ⟨rfl, hz⟩
  have hy : Ext w z := by rw [hz]; exact ext_auto
  have BF : Blk z (w.heap.size + 1 + 1) #[.bool false, .int .u64 0, .int .u64 0, .int .u64 0, .int .u64 0, .bool false, .int .u64 0, .int .u64 0, .int .u64 0, .int .u64 0] 29 := by rw [hz]; exact blk_auto
  have BG : Blk z (w.heap.size + 1 + 1 + 1) #[.int .i64 110] 33 := by rw [hz]; exact blk_auto
  clear hz
  have lBF := BF.lt; have cBF := BF.cell; have fBF := BF.frozen; have lBG := BG.lt; have cBG := BG.cell; have fBG := BG.frozen; clear BF BG
  exact ⟨rfl, .tuple #[qZ, .int .i64 110], by simp [results, Tryz.results78, go_sem, e4, e5, cBF, cBG], rfl, hy⟩
set_option maxHeartbeats 4000000 in
theorem Div_bad (r1 r2 : Rt) (w : World) (hT : Tab w) (h : (r1.ok && r2.ok) = false) :
    Calls Tryz.prog 78 #[r1.v, r2.v] w fun e w' => e = .returned (.tuple #[qZ, .int .i64 2]) ∧ Ext w w' := by
  have hmf : ∀ (fn : Fn) (first cap : Array Value) (w : World), (Instr.makeFunc fn first cap).run Tryz.prog w = .ok (.func fn first cap) w := fun _ _ _ _ => rfl
  have ca := all2_no r1 r2 h
  clear h
  obtain ⟨s1, m1, u1, k1, _, _⟩ := r1
  obtain ⟨s2, m2, u2, k2, _, _⟩ := r2
  go_enter_defers Tryz.func78, Tryz.ntmps78
  go_wp2_with (go_at_call 81; refine (ca _ _ _ 29 ?_).mono ?_; (· exact blk_auto); rintro e w' ⟨rfl, d, rfl⟩)
  refine lv_rebase fun v hv => ?_
  have hx : Ext w v := by rw [hv]; exact ext_auto
  have BO : Blk v (w.heap.size + 1 + 1) #[.bool false, .int .u64 0, .int .u64 0, .int .u64 0, .int .u64 0, .bool false, .int .u64 0, .int .u64 0, .int .u64 0, .int .u64 0] 29 := by rw [hv]; exact blk_auto
  have BE : Blk v (w.heap.size + 1 + 1 + 1) #[.int .i64 0] 33 := by rw [hv]; exact blk_auto
  clear hv
  refine leaves_ratio_pan 0 2 108 _ (BE.cell 0) (BE.frozen 0) (fun _ _ => by kernel_rfl) ?_
  refine (Div_clear _ _ _ _ _ _ _ _ _ _ _ _ (BO.setOther (by omega))).mono ?_
  rintro e' z ⟨rfl, hz⟩
  have hy : Ext w z := by rw [hz]; exact ext_auto
  have BF : Blk z (w.heap.size + 1 + 1) #[.bool false, .int .u64 0, .int .u64 0, .int .u64 0, .int .u64 0, .bool false, .int .u64 0, .int .u64 0, .int .u64 0, .int .u64 0] 29 := by rw [hz]; exact blk_auto
  have BG : Blk z (w.heap.size + 1 + 1 + 1) #[.int .i64 2] 33 := by rw [hz]; exact blk_auto
  clear hz
  have lBF := BF.lt; have cBF := BF.cell; have fBF := BF.frozen; have lBG := BG.lt; have cBG := BG.cell; have fBG := BG.frozen; clear BF BG
  exact ⟨rfl, .tuple #[qZ, .int .i64 2], by simp [results, Tryz.results78, go_sem, cBF, cBG], rfl, hy⟩
set_option maxHeartbeats 4000000 in
theorem Div_nought (r1 r2 : Rt) (w : World) (hT : Tab w) (h1 : r1.ok = true) (h2 : r2.ok = true) (h0 : r2.m = 0) :
    Calls Tryz.prog 78 #[r1.v, r2.v] w fun e w' => e = .returned (.tuple #[qZ, .int .i64 2]) ∧ Ext w w' := by
  have hmf : ∀ (fn : Fn) (first cap : Array Value) (w : World), (Instr.makeFunc fn first cap).run Tryz.prog w = .ok (.func fn first cap) w := fun _ _ _ _ => rfl
  have ca := all2_yes r1 r2 h1 h2
  have cs := sign_any r2.s r2.m r2.hm
  rw [show sgn r2.s r2.m = 0 by simp [sgn, h0]] at cs
  clear h0 hT
  obtain ⟨s1, m1, u1, k1, _, _⟩ := r1
  obtain ⟨s2, m2, u2, k2, _, _⟩ := r2
  go_enter_defers Tryz.func78, Tryz.ntmps78
  go_wp2_with (first
    | (go_at_call 81; refine (ca _ _ _ 29 ?_).mono ?_; (· exact blk_auto); rintro e w' ⟨rfl, d, rfl⟩)
    | (go_at_call 104; (with_reducible refine (cs _).mono ?_); rintro e w' ⟨rfl, d, rfl⟩)
    | (go_at_call 109; refine (rmust_no _ _).mono ?_; rintro e w' ⟨rfl, rfl⟩))
  refine lv_rebase fun v hv => ?_
  have hx : Ext w v := by rw [hv]; exact ext_auto
  have BO : Blk v (w.heap.size + 1 + 1) #[.bool false, .int .u64 0, .int .u64 0, .int .u64 0, .int .u64 0, .bool false, .int .u64 0, .int .u64 0, .int .u64 0, .int .u64 0] 29 := by rw [hv]; exact blk_auto
  have BE : Blk v (w.heap.size + 1 + 1 + 1) #[.int .i64 0] 33 := by rw [hv]; exact blk_auto
  clear hv
  refine leaves_ratio_pan 0 2 108 _ (BE.cell 0) (BE.frozen 0) (fun _ _ => by kernel_rfl) ?_
  refine (Div_clear _ _ _ _ _ _ _ _ _ _ _ _ (BO.setOther (by omega))).mono ?_
  rintro e' z ⟨rfl, hz⟩
  have hy : Ext w z := by rw [hz]; exact ext_auto
  have BF : Blk z (w.heap.size + 1 + 1) #[.bool false, .int .u64 0, .int .u64 0, .int .u64 0, .int .u64 0, .bool false, .int .u64 0, .int .u64 0, .int .u64 0, .int .u64 0] 29 := by rw [hz]; exact blk_auto
  have BG : Blk z (w.heap.size + 1 + 1 + 1) #[.int .i64 2] 33 := by rw [hz]; exact blk_auto
  clear hz
  have lBF := BF.lt; have cBF := BF.cell; have fBF := BF.frozen; have lBG := BG.lt; have cBG := BG.cell; have fBG := BG.frozen; clear BF BG
  exact ⟨rfl, .tuple #[qZ, .int .i64 2], by simp [results, Tryz.results78, go_sem, cBF, cBG], rfl, hy⟩
end Go.Proofs.YtmopgcbhmkemjaaGreatDoor

namespace Go.Proofs.YtmopgcbhmkemjaaGreatDoor
open Go Go.RowKit
set_option linter.unusedSimpArgs false
set_option linter.unusedVariables false
set_option maxRecDepth 100000

end Go.Proofs.YtmopgcbhmkemjaaGreatDoor

namespace Go.Proofs.YtmopgcbhmkemjaaGreatDoor
open Go Go.RowKit
set_option linter.unusedSimpArgs false
set_option linter.unusedVariables false
set_option maxRecDepth 100000

theorem Cmp_clear (b : Nat) (W : World) (y0 : Value) (h : Blk W b #[y0] 3) :
    Calls Tryz.prog 106 #[.pointer (some ⟨b, 0, none⟩)] W fun e w' => e = .returned (.tuple #[]) ∧ w' = (W.setCell ⟨b, 0, none⟩ (.int .i64 0)) := by
  have lh := h.lt; have ch := h.cell; have fh := h.frozen; clear h
  go_enter Tryz.func106, Tryz.ntmps106
  go_wp2
  go_end0
  exact ⟨rfl, rfl⟩
set_option maxHeartbeats 4000000 in
theorem Cmp_walk (r1 r2 : Rt) (w : World) (h1 : r1.ok = true) (h2 : r2.ok = true) :
    Calls Tryz.prog 77 #[r1.v, r2.v] w fun e w' => e = .returned (.tuple #[.int .i64 (sgn (splus (!(r1.s == r2.t)) (r1.m * r2.k) (r2.s == r1.t) (r2.m * r1.k)).1 (splus (!(r1.s == r2.t)) (r1.m * r2.k) (r2.s == r1.t) (r2.m * r1.k)).2), .int .i64 0]) ∧ Ext w w' := by
  have hmf : ∀ (fn : Fn) (first cap : Array Value) (w : World), (Instr.makeFunc fn first cap).run Tryz.prog w = .ok (.func fn first cap) w := fun _ _ _ _ => rfl
  have ca := all2_yes r1 r2 h1 h2
  have t2 := times_any r2.s r2.m r1.t r1.k r2.hm r1.hk
  have t1 := times_any r1.s r1.m r2.t r2.k r1.hm r2.hk
  have m9 : ∀ {a b : Nat}, a < B4 → b < B4 → a * b < B9 := fun ha hb => Nat.lt_trans (Nat.mul_lt_mul'' ha hb) (by decide)
  have cp := plus_any (!(r1.s == r2.t)) (r2.s == r1.t) _ _ (m9 r1.hm r2.hk) (m9 r2.hm r1.hk)
  have cs := ssign_any (splus (!(r1.s == r2.t)) (r1.m * r2.k) (r2.s == r1.t) (r2.m * r1.k)).1 (splus (!(r1.s == r2.t)) (r1.m * r2.k) (r2.s == r1.t) (r2.m * r1.k)).2 (by
    have h1 : r1.m * r2.k < B4 * B4 := Nat.mul_lt_mul'' r1.hm r2.hk
    have h2 : r2.m * r1.k < B4 * B4 := Nat.mul_lt_mul'' r2.hm r1.hk
    have h3 : B4 * B4 + B4 * B4 < B9 := by decide
    unfold splus
    split
    · dsimp only; omega
    · split <;> dsimp only <;> omega)
  generalize (splus (!(r1.s == r2.t)) (r1.m * r2.k) (r2.s == r1.t) (r2.m * r1.k)) = S at *
  generalize sgn S.1 S.2 = c at *
  generalize r1.m * r2.k = p1 at *
  generalize r2.m * r1.k = p2 at *
  clear m9
  obtain ⟨s1, m1, u1, k1, _, _⟩ := r1
  obtain ⟨s2, m2, u2, k2, _, _⟩ := r2
  go_enter_defers Tryz.func77, Tryz.ntmps77
  go_wp2_with (first
    | (go_at_call 81; refine (ca _ _ _ 29 ?_).mono ?_; (· exact blk_auto); rintro e w' ⟨rfl, d, rfl⟩)
    | (go_at_call 83; (with_reducible refine (t2 _).mono ?_); rintro e w' ⟨rfl, d2, rfl⟩))
  refine wp_rebase fun v hv => ?_
  have hx : Ext w v := by rw [hv]; exact ext_auto
  have BA : Blk v w.heap.size (ratsV s1 m1 u1 k1) 29 := by rw [hv]; exact blk_auto
  have BB : Blk v (w.heap.size + 1) (ratsV s2 m2 u2 k2) 29 := by rw [hv]; exact blk_auto
  have BO : Blk v (w.heap.size + 1 + 1) #[.int .i64 0] 3 := by rw [hv]; exact blk_auto
  have BE : Blk v (w.heap.size + 1 + 1 + 1) #[.int .i64 0] 33 := by rw [hv]; exact blk_auto
  have B6 : Blk v (w.heap.size + 1 + 1 + 1 + 1 + 1 + (d.obs.size + d2.obs.size)) #[q64 (wn p2 0), q64 (wn p2 1), q64 (wn p2 2), q64 (wn p2 3), q64 (wn p2 4), q64 (wn p2 5), q64 (wn p2 6), q64 (wn p2 7), q64 (wn p2 8), .bool (s2 == u1)] 130 := by rw [hv]; exact blk_auto
  clear hv
  have lBA := BA.lt; have cBA := BA.cell; have fBA := BA.frozen; have lBB := BB.lt; have cBB := BB.cell; have fBB := BB.frozen; have lBO := BO.lt; have cBO := BO.cell; have fBO := BO.frozen; have lBE := BE.lt; have cBE := BE.cell; have fBE := BE.frozen; have lB6 := B6.lt; have cB6 := B6.cell; have fB6 := B6.frozen
  (first | refine wp_region_k' [.p, .r, .p, .r, .r, .r, .r, .r, .w, .w] (by kernel_rfl) (by kernel_rfl) ?_ | refine wp_region_k [.p, .r, .p, .r, .r, .r, .r, .r, .w, .w] (by kernel_rfl) (by kernel_rfl) ?_); (repeat (first | (refine wpK_p rfl (fun K hK => ?_); go_simp; refine hK _ _ ?_; clear hK K) | (refine wpK_r rfl (fun K hK => ?_); go_simp; refine hK _ _ ?_; clear hK K) | (refine wpK_w rfl (fun K hK => ?_); go_simp; refine hK _ _ ?_; clear hK K) | (refine wpK_r rfl (fun K hK => ?_); go_simp; apply Exists.intro; refine ⟨fun d => ?_, hK _ _ ?_⟩; (first | (with_reducible exact Calls.calm (t1 _)) | (with_reducible exact Calls.calm (cp _)) | (with_reducible exact Calls.calm (cs _))); clear hK K))); refine wpK_nil ?_; intro d
  go_wp2
  refine lv_rebase fun u hu => ?_
  have hy : Ext w u := by rw [hu]; exact ext_auto
  have BF : Blk u (w.heap.size + 1 + 1) #[.int .i64 c] 3 := by rw [hu]; exact blk_auto
  have BG : Blk u (w.heap.size + 1 + 1 + 1) #[.int .i64 0] 33 := by rw [hu]; exact blk_auto
  clear hu
  have lBF := BF.lt; have cBF := BF.cell; have fBF := BF.frozen; have lBG := BG.lt; have cBG := BG.cell; have fBG := BG.frozen; clear BF BG
  exact leaves_ratio (.tuple #[.int .i64 c, .int .i64 0]) (by simp [results, Tryz.results77, go_sem, cBF, cBG]) ⟨rfl, hy⟩
set_option maxHeartbeats 4000000 in
theorem Cmp_bad (r1 r2 : Rt) (w : World) (h : (r1.ok && r2.ok) = false) :
    Calls Tryz.prog 77 #[r1.v, r2.v] w fun e w' => e = .returned (.tuple #[.int .i64 0, .int .i64 2]) ∧ Ext w w' := by
  have hmf : ∀ (fn : Fn) (first cap : Array Value) (w : World), (Instr.makeFunc fn first cap).run Tryz.prog w = .ok (.func fn first cap) w := fun _ _ _ _ => rfl
  have ca := all2_no r1 r2 h
  clear h
  obtain ⟨s1, m1, u1, k1, _, _⟩ := r1
  obtain ⟨s2, m2, u2, k2, _, _⟩ := r2
  go_enter_defers Tryz.func77, Tryz.ntmps77
  go_wp2_with (go_at_call 81; refine (ca _ _ _ 29 ?_).mono ?_; (· exact blk_auto); rintro e w' ⟨rfl, d, rfl⟩)
  refine lv_rebase fun v hv => ?_
  have hx : Ext w v := by rw [hv]; exact ext_auto
  have BO : Blk v (w.heap.size + 1 + 1) #[.int .i64 0] 3 := by rw [hv]; exact blk_auto
  have BE : Blk v (w.heap.size + 1 + 1 + 1) #[.int .i64 0] 33 := by rw [hv]; exact blk_auto
  clear hv
  refine leaves_ratio_pan 0 2 106 _ (BE.cell 0) (BE.frozen 0) (fun _ _ => by kernel_rfl) ?_
  refine (Cmp_clear _ _ _ (BO.setOther (by omega))).mono ?_
  rintro e' z ⟨rfl, hz⟩
  have hy : Ext w z := by rw [hz]; exact ext_auto
  have BF : Blk z (w.heap.size + 1 + 1) #[.int .i64 0] 3 := by rw [hz]; exact blk_auto
  have BG : Blk z (w.heap.size + 1 + 1 + 1) #[.int .i64 2] 33 := by rw [hz]; exact blk_auto
  clear hz
  have lBF := BF.lt; have cBF := BF.cell; have fBF := BF.frozen; have lBG := BG.lt; have cBG := BG.cell; have fBG := BG.frozen; clear BF BG
  exact ⟨rfl, .tuple #[.int .i64 0, .int .i64 2], by simp [results, Tryz.results77, go_sem, cBF, cBG], rfl, hy⟩
end Go.Proofs.YtmopgcbhmkemjaaGreatDoor

namespace Go.Proofs.YtmopgcbhmkemjaaGreatDoor
open Go Go.RowKit
set_option linter.unusedSimpArgs false
set_option linter.unusedVariables false
set_option maxRecDepth 100000

theorem qZ_eq : qZ = ratV false 0 false 0 := by simp [wn_zero]
theorem iZ_eq : (.agg #[.bool false, .int .u64 0, .int .u64 0, .int .u64 0, .int .u64 0] : Value) = intV false 0 := by simp [wn_zero]
end Go.Proofs.YtmopgcbhmkemjaaGreatDoor

namespace Go.Proofs.YtmopgcbhmkemjaaGreatDoor
open Go Go.RowKit
set_option linter.unusedSimpArgs false
set_option linter.unusedVariables false
set_option maxRecDepth 100000

theorem B44 : B4 * B4 + B4 * B4 ≤ B9 := by decide
theorem mul9 {a b : Nat} (ha : a < B4) (hb : b < B4) : a * b < B4 * B4 := Nat.mul_lt_mul'' ha hb
theorem splus_lt (s : Bool) (a : Nat) (t : Bool) (b : Nat) (ha : a < B4 * B4) (hb : b < B4 * B4) : (splus s a t b).2 < B9 := by
  have := B44
  unfold splus
  split
  · dsimp only; omega
  · split <;> dsimp only <;> omega
theorem add_mk (x y : Rat) : mkRat (x.num * y.den + y.num * x.den) (x.den * y.den) = x + y := by
  rw [Rat.add_def, Rat.normalize_eq_mkRat]
theorem mul_mk (x y : Rat) : mkRat (x.num * y.num) (x.den * y.den) = x * y := by
  rw [Rat.mul_def, Rat.normalize_eq_mkRat]
theorem sv_false (k : Nat) : sv false k = (k : Int) := rfl
theorem sv_num (x : Rat) : sv (decide (x.num < 0)) x.num.natAbs = x.num := sv_of _
theorem den_pos (x : Rat) : 0 < x.den := Nat.pos_of_ne_zero x.den_nz
theorem sv_not (s : Bool) (m : Nat) : sv (!s) m = - sv s m := by cases s <;> simp [sv]

theorem cAdd_mk (x y : Rat) : mkRat (sv (splus (!(decide (x.num < 0) == false)) (x.num.natAbs * y.den) (!(decide (y.num < 0) == false)) (y.num.natAbs * x.den)).1 (splus (!(decide (x.num < 0) == false)) (x.num.natAbs * y.den) (!(decide (y.num < 0) == false)) (y.num.natAbs * x.den)).2) (x.den * y.den) = x + y := by
  rw [sv_splus, sv_times, sv_times, sv_num, sv_num, sv_false, sv_false, add_mk]
theorem cAdd_yes (x y : Rat) (fx : Fits x) (fy : Fits y) (f : Fits (x + y)) (w : World) (hT : Tab w) :
    Calls Tryz.prog 53 #[qV x, qV y] w fun e w' => e = .returned (.tuple #[qV (x + y), .int .i64 0]) ∧ Ext w w' := by
  have hm := cAdd_mk x y
  refine Add_walk (rt x fx) (rt y fy) (rt_ok x fx) (rt_ok y fy) _ _ _ w hT fun w hT => ?_
  rw [← hm] at f ⊢
  exact made_q _ _ _ (splus_lt _ _ _ _ (mul9 fx.1 fy.2) (mul9 fy.1 fx.2)) (Nat.mul_pos (den_pos x) (den_pos y)) (by have := mul9 fx.2 fy.2; have := B44; omega) f w hT
theorem cAdd_no (x y : Rat) (fx : Fits x) (fy : Fits y) (f : ¬ Fits (x + y)) (w : World) (hT : Tab w) :
    Calls Tryz.prog 53 #[qV x, qV y] w fun e w' => e = .returned (.tuple #[qZ, .int .i64 110]) ∧ Ext w w' := by
  have hm := cAdd_mk x y
  refine Add_over (rt x fx) (rt y fy) (rt_ok x fx) (rt_ok y fy) w hT fun w hT => ?_
  rw [← hm] at f
  exact made_qno _ _ _ (splus_lt _ _ _ _ (mul9 fx.1 fy.2) (mul9 fy.1 fx.2)) (Nat.mul_pos (den_pos x) (den_pos y)) (by have := mul9 fx.2 fy.2; have := B44; omega) f w hT
theorem cMul_mk (x y : Rat) : mkRat (sv (!(decide (x.num < 0) == decide (y.num < 0))) (x.num.natAbs * y.num.natAbs)) (x.den * y.den) = x * y := by
  rw [sv_times, sv_num, sv_num, mul_mk]
theorem cDiv_mk (x y : Rat) (h0 : y ≠ 0) : mkRat (sv (!(decide (x.num < 0) == decide (y.num < 0))) (x.num.natAbs * y.den)) (x.den * y.num.natAbs) = x / y := by
  have hn : y.num ≠ 0 := fun h => h0 (Rat.num_eq_zero.1 h)
  have e : x / y = Rat.divInt (x.num * y.den) (x.den * y.num) := by
    rw [Rat.div_def, Rat.inv_def]
    conv => lhs; rw [← Rat.num_divInt_den x]
    rw [Rat.divInt_mul_divInt]
  rw [e]
  by_cases hy : y.num < 0
  · have h1 : sv (!(decide (x.num < 0) == decide (y.num < 0))) (x.num.natAbs * y.den) = -(x.num * y.den) := by
      have := sv_times (decide (x.num < 0)) x.num.natAbs true y.den
      rw [sv_num] at this
      rw [show decide (y.num < 0) = true by simp [hy], this]
      simp [sv, Int.mul_neg]
    have h2 : ((x.den * y.num.natAbs : Nat) : Int) = -(x.den * y.num) := by
      rw [Int.natCast_mul, show ((y.num.natAbs : Nat) : Int) = -y.num by omega, Int.mul_neg]
    rw [h1, ← Rat.divInt_ofNat, h2, Rat.neg_divInt_neg]
  · have h1 : sv (!(decide (x.num < 0) == decide (y.num < 0))) (x.num.natAbs * y.den) = x.num * y.den := by
      have := sv_times (decide (x.num < 0)) x.num.natAbs false y.den
      rw [sv_num] at this
      rw [show decide (y.num < 0) = false by simp [hy], this]
      simp [sv]
    have h2 : ((x.den * y.num.natAbs : Nat) : Int) = x.den * y.num := by
      rw [Int.natCast_mul, show ((y.num.natAbs : Nat) : Int) = y.num by omega]
    rw [h1, ← Rat.divInt_ofNat, h2]
theorem cDiv_yes (x y : Rat) (fx : Fits x) (fy : Fits y) (h0 : y ≠ 0) (f : Fits (x / y)) (w : World) (hT : Tab w) :
    Calls Tryz.prog 78 #[qV x, qV y] w fun e w' => e = .returned (.tuple #[qV (x / y), .int .i64 0]) ∧ Ext w w' := by
  have hm := cDiv_mk x y h0
  have hn : y.num.natAbs ≠ 0 := fun h => h0 (Rat.num_eq_zero.1 (by omega))
  refine Div_walk (rt x fx) (rt y fy) w hT (rt_ok x fx) (rt_ok y fy) hn _ _ _ fun w hT => ?_
  rw [← hm] at f ⊢
  exact made_q _ _ _ (by have := mul9 fx.1 fy.2; have := B44; omega) (Nat.mul_pos (den_pos x) (by omega)) (by have := mul9 fx.2 fy.1; have := B44; omega) f w hT
theorem cDiv_no (x y : Rat) (fx : Fits x) (fy : Fits y) (h0 : y ≠ 0) (f : ¬ Fits (x / y)) (w : World) (hT : Tab w) :
    Calls Tryz.prog 78 #[qV x, qV y] w fun e w' => e = .returned (.tuple #[qZ, .int .i64 110]) ∧ Ext w w' := by
  have hm := cDiv_mk x y h0
  have hn : y.num.natAbs ≠ 0 := fun h => h0 (Rat.num_eq_zero.1 (by omega))
  refine Div_over (rt x fx) (rt y fy) w hT (rt_ok x fx) (rt_ok y fy) hn fun w hT => ?_
  rw [← hm] at f
  exact made_qno _ _ _ (by have := mul9 fx.1 fy.2; have := B44; omega) (Nat.mul_pos (den_pos x) (by omega)) (by have := mul9 fx.2 fy.1; have := B44; omega) f w hT
theorem neg_fits (x : Rat) (f : Fits x) : Fits (-x) := by
  unfold Fits at *; rw [Rat.neg_num, Rat.neg_den]; simpa using f
theorem turned_q (y : Rat) : ratV (if y.num.natAbs = 0 then decide (y.num < 0) else !(decide (y.num < 0))) y.num.natAbs false y.den = qV (-y) := by
  have h : (if y.num.natAbs = 0 then decide (y.num < 0) else !(decide (y.num < 0))) = decide ((-y).num < 0) := by
    rw [Rat.neg_num]
    by_cases h0 : y.num = 0
    · simp [h0]
    · have : ¬ y.num.natAbs = 0 := by omega
      rw [if_neg this]
      by_cases h1 : y.num < 0
      · have : ¬ -y.num < 0 := by omega
        simp [h1, this]; omega
      · have : -y.num < 0 := by omega
        simp [h1, this]; omega
  rw [h]
  show _ = ratV (decide ((-y).num < 0)) (-y).num.natAbs false (-y).den
  rw [Rat.neg_num, Rat.neg_den, Int.natAbs_neg]
/-- The order of two rationals. -/
def cmpQ (x y : Rat) : Int := if x < y then -1 else if x = y then 0 else 1
theorem sgn_sv (s : Bool) (m : Nat) : sgn s m = if sv s m < 0 then -1 else if sv s m = 0 then 0 else 1 := by
  unfold sgn sv
  by_cases h : m = 0
  · cases s <;> simp [h]
  · have : 0 < m := by omega
    cases s <;> simp [h] <;> omega
theorem cmpQ_eq (x y : Rat) : cmpQ x y = if x.num * y.den - y.num * x.den < 0 then -1 else if x.num * y.den - y.num * x.den = 0 then 0 else 1 := by
  unfold cmpQ
  have h1 : x < y ↔ x.num * y.den - y.num * x.den < 0 := by rw [Rat.lt_iff]; omega
  have h2 : x = y ↔ x.num * y.den - y.num * x.den = 0 := by
    constructor
    · rintro rfl; omega
    · intro h
      rw [← Rat.mkRat_self x, ← Rat.mkRat_self y, Rat.mkRat_eq_iff x.den_nz y.den_nz]; omega
  simp only [h1, h2]
theorem cCmp (x y : Rat) (fx : Fits x) (fy : Fits y) (w : World) :
    Calls Tryz.prog 77 #[qV x, qV y] w fun e w' => e = .returned (.tuple #[.int .i64 (cmpQ x y), .int .i64 0]) ∧ Ext w w' := by
  have := Cmp_walk (rt x fx) (rt y fy) w (rt_ok x fx) (rt_ok y fy)
  refine this.mono fun e w' ⟨he, hw⟩ => ⟨he.trans ?_, hw⟩
  rw [sgn_sv, cmpQ_eq]
  have h : sv (splus (!((rt x fx).s == (rt y fy).t)) ((rt x fx).m * (rt y fy).k) ((rt y fy).s == (rt x fx).t) ((rt y fy).m * (rt x fx).k)).1 (splus (!((rt x fx).s == (rt y fy).t)) ((rt x fx).m * (rt y fy).k) ((rt y fy).s == (rt x fx).t) ((rt y fy).m * (rt x fx).k)).2 = x.num * y.den - y.num * x.den := by
    show sv (splus (!(decide (x.num < 0) == false)) (x.num.natAbs * y.den) (decide (y.num < 0) == false) (y.num.natAbs * x.den)).1 (splus (!(decide (x.num < 0) == false)) (x.num.natAbs * y.den) (decide (y.num < 0) == false) (y.num.natAbs * x.den)).2 = _
    rw [sv_splus, sv_times, sv_num, sv_false]
    have : sv (decide (y.num < 0) == false) (y.num.natAbs * x.den) = -(y.num * x.den) := by
      have h1 := sv_times (decide (y.num < 0)) y.num.natAbs false x.den
      rw [sv_num, sv_false, sv_not] at h1
      omega
    rw [this]; omega
  rw [h]
end Go.Proofs.YtmopgcbhmkemjaaGreatDoor

namespace Go.Proofs.YtmopgcbhmkemjaaGreatDoor
open Go Go.RowKit
set_option linter.unusedSimpArgs false
set_option linter.unusedVariables false
set_option maxRecDepth 100000
set_option exponentiation.threshold 3000

/-- 2 to the 96th. -/
def C96 : Nat := 79228162514264337593543950336
/-- The words of a Rat are not too great for a point. -/
def Rt.pf (r : Rt) : Bool := decide (r.m < C96) && decide (r.k < B)
/-- A Rat may be a part of a point. -/
def Rt.pok (r : Rt) : Bool := r.ok && r.pf
def PFits (q : Rat) : Prop := q.num.natAbs < C96 ∧ q.den < B
instance (q : Rat) : Decidable (PFits q) := inferInstanceAs (Decidable (_ ∧ _))
theorem C96_B4 : C96 < B4 := by decide
theorem B_B4 : B < B4 := by decide
theorem pfits_fits {q : Rat} (h : PFits q) : Fits q := ⟨Nat.lt_trans h.1 C96_B4, Nat.lt_trans h.2 B_B4⟩
theorem Rt.pok_iff (r : Rt) : r.pok = true ↔ r.ok = true ∧ r.m < C96 ∧ r.k < B := by
  unfold Rt.pok Rt.pf; simp [and_assoc]
theorem Rt.pok_fits (r : Rt) (h : r.pok = true) : PFits r.q := by
  obtain ⟨h1, h2, h3⟩ := r.pok_iff.1 h
  obtain ⟨p1, p2, _⟩ := r.q_parts h1
  exact ⟨by rw [p1, sv_natAbs]; exact h2, by rw [p2]; exact h3⟩
theorem rt_pf (q : Rat) (h : Fits q) : (rt q h).pf = decide (PFits q) := by
  show (decide (q.num.natAbs < C96) && decide (q.den < B)) = @decide (PFits q) (inferInstanceAs (Decidable (q.num.natAbs < C96 ∧ q.den < B)))
  by_cases h1 : q.num.natAbs < C96
  · by_cases h2 : q.den < B
    · rw [decide_eq_true h1, decide_eq_true h2]; exact (decide_eq_true (show PFits q from ⟨h1, h2⟩)).symm
    · rw [decide_eq_true h1, decide_eq_false h2]; exact (decide_eq_false (fun h : PFits q => h2 h.2)).symm
  · rw [decide_eq_false h1]; exact (decide_eq_false (fun h : PFits q => h1 h.1)).symm
theorem rt_pok (q : Rat) (h : PFits q) : (rt q (pfits_fits h)).pok = true := by
  unfold Rt.pok
  rw [rt_ok, rt_pf, decide_eq_true h]; rfl
/-- A whole number more. -/
theorem add_int_parts (x : Rat) (d : Int) : (x + (d : Rat)).num = x.num + d * x.den ∧ (x + (d : Rat)).den = x.den := by
  have hc : (x.num + d * x.den).natAbs.Coprime x.den := by
    have h1 : Int.gcd (x.num + d * x.den) x.den = Int.gcd x.num x.den := by simp
    have h2 := x.reduced
    unfold Nat.Coprime at *
    simpa [Int.gcd] using h1.trans (by simpa [Int.gcd] using h2)
  have e : (⟨x.num + d * x.den, x.den, x.den_nz, hc⟩ : Rat) = x + (d : Rat) := by
    rw [← add_mk, Rat.num_intCast, Rat.den_intCast, ← Rat.mkRat_self ⟨x.num + d * x.den, x.den, x.den_nz, hc⟩]
    simp
  rw [← e]; exact ⟨rfl, rfl⟩
theorem add_int_fits (x : Rat) (hx : PFits x) (d : Int) (hd : d.natAbs ≤ 9223372036854775808) : Fits (x + (d : Rat)) := by
  obtain ⟨h1, h2⟩ := add_int_parts x d
  refine ⟨?_, by rw [h2]; exact Nat.lt_trans hx.2 B_B4⟩
  rw [h1]
  have h3 : (x.num + d * x.den).natAbs ≤ x.num.natAbs + d.natAbs * x.den := by
    have := Int.natAbs_add_le x.num (d * x.den)
    rwa [Int.natAbs_mul, Int.natAbs_natCast] at this
  have h4 : d.natAbs * x.den ≤ 9223372036854775808 * B := Nat.mul_le_mul hd (Nat.le_of_lt hx.2)
  have h5 := hx.1
  have h6 : C96 + 9223372036854775808 * B < B4 := by decide
  omega
theorem add_int_back (x : Rat) (d : Int) : x + (d : Rat) + ((-d : Int) : Rat) = x := by
  rw [Rat.intCast_neg, Rat.add_assoc, Rat.add_neg_cancel, Rat.add_zero]
theorem cmpQ_self (x : Rat) : cmpQ x x = 0 := by
  unfold cmpQ; rw [if_neg (by rw [Rat.lt_iff]; omega), if_pos rfl]
theorem cmpQ_add (x : Rat) (d : Int) : cmpQ (x + (d : Rat)) x = if d < 0 then -1 else if d = 0 then 0 else 1 := by
  obtain ⟨h1, h2⟩ := add_int_parts x d
  rw [cmpQ_eq, h1, h2]
  have e : (x.num + d * x.den) * x.den - x.num * x.den = d * (x.den * x.den) := by
    rw [Int.add_mul, Int.mul_assoc]; omega
  rw [e]
  have hp : (0 : Int) < (x.den : Int) * x.den := Int.mul_pos (by have := den_pos x; omega) (by have := den_pos x; omega)
  generalize (x.den : Int) * x.den = D at *
  by_cases hd : d < 0
  · rw [if_pos hd, if_pos (Int.mul_neg_of_neg_of_pos hd hp)]
  · rw [if_neg hd]
    by_cases h0 : d = 0
    · subst h0; simp
    · have : 0 < d * D := Int.mul_pos (by omega) hp
      rw [if_neg (by omega), if_neg (by omega), if_neg h0]
theorem int_q (d : Int) (hd : d.natAbs ≤ 9223372036854775808) : PFits (d : Rat) := by
  unfold PFits
  rw [Rat.num_intCast, Rat.den_intCast]
  exact ⟨Nat.lt_of_le_of_lt hd (by decide), by decide⟩
end Go.Proofs.YtmopgcbhmkemjaaGreatDoor

namespace Go.Proofs.YtmopgcbhmkemjaaGreatDoor
open Go Go.RowKit
set_option linter.unusedSimpArgs false
set_option linter.unusedVariables false

theorem c96_words (m : Nat) (hm : m < B4) : m < C96 ↔ (wn m 1 < 4294967296 ∧ wn m 2 ||| wn m 3 = 0) := by
  rw [Nat.or_eq_zero_iff]
  unfold wn C96
  unfold B4 at hm
  rw [B_eq] at *
  simp only [Nat.reducePow] at *
  omega
theorem b_words (m : Nat) (hm : m < B4) : m < B ↔ (wn m 1 ||| wn m 2 ||| wn m 3) = 0 := by
  rw [Nat.or_eq_zero_iff, Nat.or_eq_zero_iff]
  unfold wn
  unfold B4 at hm
  rw [B_eq] at *
  simp only [Nat.reducePow] at *
  omega
end Go.Proofs.YtmopgcbhmkemjaaGreatDoor

namespace Go.Proofs.YtmopgcbhmkemjaaGreatDoor
open Go Go.RowKit
set_option linter.unusedSimpArgs false
set_option linter.unusedVariables false
set_option maxRecDepth 100000

theorem run_eq_rat_at (n : Nat) (s : Bool) (a : Nat) (t : Bool) (b : Nat) (s' : Bool) (a' : Nat) (t' : Bool) (b' : Nat) (ha : a < B4) (hb : b < B4) (ha' : a' < B4) (hb' : b' < B4) (w : World) :
    (Op.equalIn (n + 4) 29 (ratV s a t b) (ratV s' a' t' b')).run Tryz.prog w = .ok (decide (s = s' ∧ a = a') && decide (t = t' ∧ b = b')) w := by
  rw [run_equalIn_struct (P := Tryz.prog) w (n + 3) 29 _ _ (by kernel_rfl) (by kernel_rfl)]
  rw [show (Tryz.prog.fieldsOf 29).toList = [⟨"N", 27, 0, false, "", "", 0⟩, ⟨"D", 27, 5, false, "", "", 40⟩] by kernel_rfl]
  rw [run_eqFields_cons _ _ _ _ _ (intV s a) (intV s' a') _ w (by decide) (by kernel_rfl) (by kernel_rfl) (run_eq_int_at n s a s' a' ha ha' w)]
  rw [run_eqFields_cons _ _ _ _ _ (intV t b) (intV t' b') _ w (by decide) (by kernel_rfl) (by kernel_rfl) (run_eq_int_at n t b t' b' hb hb' w)]
  cases decide (s = s' ∧ a = a') <;> cases decide (t = t' ∧ b = b') <;> simp [Op.eqFields]
@[go_sem] theorem run_eq_rat (s : Bool) (a : Nat) (t : Bool) (b : Nat) (s' : Bool) (a' : Nat) (t' : Bool) (b' : Nat) (ha : a < B4) (hb : b < B4) (ha' : a' < B4) (hb' : b' < B4) (w : World) :
    (Op.equalIn 10000 29 (ratV s a t b) (ratV s' a' t' b')).run Tryz.prog w = .ok (decide (s = s' ∧ a = a') && decide (t = t' ∧ b = b')) w := run_eq_rat_at 9996 s a t b s' a' t' b' ha hb ha' hb' w
theorem run_eq_q (x y : Rat) (fx : Fits x) (fy : Fits y) (w : World) :
    (Op.equalIn 10000 29 (qV x) (qV y)).run Tryz.prog w = .ok (decide (x = y)) w := by
  rw [run_eq_rat _ _ _ _ _ _ _ _ fx.1 fx.2 fy.1 fy.2]
  congr 1
  rw [Bool.eq_iff_iff]
  simp only [Bool.and_eq_true, decide_eq_true_eq, true_and]
  constructor
  · rintro ⟨⟨h1, h2⟩, h3⟩
    have h1' : (x.num < 0) ↔ (y.num < 0) := by simpa using h1
    exact Rat.ext (by omega) h3
  · rintro rfl; exact ⟨⟨rfl, rfl⟩, rfl⟩
end Go.Proofs.YtmopgcbhmkemjaaGreatDoor

namespace Go.Proofs.YtmopgcbhmkemjaaGreatDoor
open Go Go.RowKit
set_option linter.unusedSimpArgs false
set_option linter.unusedVariables false
set_option maxRecDepth 100000

theorem index_mg (m i : Nat) (hi : i < 4) (w : World) : (Instr.index 156 (magV m) (.int .i64 (i : Int))).run Tryz.prog w = .ok (q64 (wn m i)) w := by
  rcases (by omega : i = 0 ∨ i = 1 ∨ i = 2 ∨ i = 3) with rfl | rfl | rfl | rfl <;> kernel_rfl
def Holds8 (A : Array Value) (f : Nat → Nat) : Prop := A.size = 8 ∧ ∀ j, j < 8 → A[j]? = some (q64 (f j))
theorem Holds8.set {A : Array Value} {f g : Nat → Nat} (h : Holds8 A f) (i x : Nat) (hi : i < 8) (hx : g i = x) (hg : ∀ j, j < 8 → j ≠ i → g j = f j) : Holds8 (A.setIfInBounds i (q64 x)) g := by
  obtain ⟨h1, h2⟩ := h
  refine ⟨by simp [h1], fun j hj => ?_⟩
  by_cases e : i = j
  · subst e; simp [h1, hi, hx]
  · rw [Array.getElem?_setIfInBounds_ne e, h2 j hj, hg j hj (by omega)]
theorem Holds8.lit {A : Array Value} {f : Nat → Nat} (h : Holds8 A f) : A = #[q64 (f 0), q64 (f 1), q64 (f 2), q64 (f 3), q64 (f 4), q64 (f 5), q64 (f 6), q64 (f 7)] := by
  obtain ⟨h1, h2⟩ := h
  apply Array.ext_getElem?
  intro j
  by_cases hj : j < 8
  · rw [h2 j hj]
    rcases (by omega : j = 0 ∨ j = 1 ∨ j = 2 ∨ j = 3 ∨ j = 4 ∨ j = 5 ∨ j = 6 ∨ j = 7) with rfl | rfl | rfl | rfl | rfl | rfl | rfl | rfl <;> rfl
  · rw [Array.getElem?_eq_none (by omega), Array.getElem?_eq_none (by simp; omega)]

set_option maxHeartbeats 4000000 in
theorem times_yes (m n : Nat) (hm : m < B4) (hn : n < B4) (hmn : m * n < B4) (w : World) :
    Calls Tryz.prog 131 #[magV m, magV n] w fun e w' => e = .returned (magV (m * n)) ∧ Ext w w' := by
  have hn4 : n < B ^ 4 := hn
  have hm4 : m < B ^ 4 := hm
  go_enter Tryz.func131, Tryz.ntmps131
  go_wp2
  go_loopw [16] (fun q wr => ∃ (i : Nat) (A : Array Value), i ≤ 4 ∧ q = .int .i64 i ∧ Holds8 A (wn (xk m n i)) ∧
      wr = (((w.alloc (.cells #[q64 (wn m 0), q64 (wn m 1), q64 (wn m 2), q64 (wn m 3)] 156)).alloc (.cells #[q64 (wn n 0), q64 (wn n 1), q64 (wn n 2), q64 (wn n 3)] 156)).alloc (.cells #[.int .u64 0, .int .u64 0, .int .u64 0, .int .u64 0] 156)).alloc (.cells A 206))
    (fun q _ => 4 - (intOf q).toNat)
  case atStart =>
    refine ⟨0, #[.int .u64 0, .int .u64 0, .int .u64 0, .int .u64 0, .int .u64 0, .int .u64 0, .int .u64 0, .int .u64 0], by omega, rfl, ⟨rfl, fun j hj => ?_⟩, rfl⟩
    rw [xk_zero, wn_zero]
    rcases (by omega : j = 0 ∨ j = 1 ∨ j = 2 ∨ j = 3 ∨ j = 4 ∨ j = 5 ∨ j = 6 ∨ j = 7) with rfl | rfl | rfl | rfl | rfl | rfl | rfl | rfl <;> rfl
  case round =>
    obtain ⟨i, A, hi, rfl, hA, rfl⟩ := hrel
    by_cases hlt : i < 4
    · have hix := index_mg m i hlt
      have hdi : decide ((i : Int) < 4) = true := by simp; omega
      go_wp2
      go_loopw [8, 21] (fun c q wr => ∃ (k : Nat) (A : Array Value), k ≤ 4 ∧ c = q64 (ck m n i k) ∧ q = .int .i64 k ∧ Holds8 A (pw m n i k) ∧
          wr = (((w.alloc (.cells #[q64 (wn m 0), q64 (wn m 1), q64 (wn m 2), q64 (wn m 3)] 156)).alloc (.cells #[q64 (wn n 0), q64 (wn n 1), q64 (wn n 2), q64 (wn n 3)] 156)).alloc (.cells #[.int .u64 0, .int .u64 0, .int .u64 0, .int .u64 0] 156)).alloc (.cells A 206))
        (fun _ q _ => 4 - (intOf q).toNat)
      case atStart =>
        refine ⟨0, A, by omega, by rw [ck_zero]; rfl, rfl, ⟨hA.1, fun j hj => ?_⟩, rfl⟩
        rw [hA.2 j hj]; unfold pw; rw [if_neg (by omega)]
      case round =>
        obtain ⟨k, A', hk, rfl, rfl, hA', rfl⟩ := hrel
        by_cases hlt' : k < 4
        · have hiy := index_mg n k hlt'
          have hmul := mul64_any (wn m i) (wn n k) (wn_lt _ _) (wn_lt _ _)
          have hold : A'[i + k]? = some (q64 (wn (xk m n i) (i + k))) := by
            rw [hA'.2 (i + k) (by omega)]; unfold pw; rw [if_neg (by omega)]
          have ha1 := run_add0 (wn m i * wn n k % B) (wn (xk m n i) (i + k))
          have ha2 := run_add0 ((wn m i * wn n k % B + wn (xk m n i) (i + k)) % B) (ck m n i k)
          obtain ⟨hs1, hs2⟩ := step_sums (wn m i) (wn n k) (wn (xk m n i) (i + k)) (ck m n i k) (wn_lt _ _) (ck_lt _ _ _ _) (wn_lt _ _) (wn_lt _ _)
          rw [step_word' m n i k 4 hlt' hn4] at hs1
          rw [step_carry] at hs2
          rw [hs1] at ha2
          have hcl := ck_lt m n i (k + 1)
          generalize hlo : wn m i * wn n k % B = lo at *
          generalize hhi : wn m i * wn n k / B = hi' at *
          generalize (lo + wn (xk m n i) (i + k)) % B = s1 at *
          generalize (lo + wn (xk m n i) (i + k)) / B = c1 at *
          generalize (s1 + ck m n i k) / B = c2 at *
          have hw : IntKind.u64.wrap (IntKind.u64.wrap ((hi' : Int) + (c1 : Int)) + (c2 : Int)) = ((ck m n i (k + 1) : Nat) : Int) := by
            rw [IntKind.wrap_u64, IntKind.wrap_u64]; rw [B_eq] at hcl; omega
          clear hlo hhi hs1 hs2 hcl
          go_wp2_with (go_at_call 115; refine (hmul _).mono ?_; rintro e w' ⟨rfl, rfl⟩)
          go_roundw
          case rel =>
            refine ⟨k + 1, A'.setIfInBounds (i + k) (q64 (wn (xk m n (i + 1)) (i + k))), by omega, rfl, by go_num, hA'.set (i + k) _ (by omega) ?_ (fun j hj hne => ?_), rfl⟩
            · unfold pw; rw [if_pos (by omega)]
            · unfold pw
              by_cases h : i ≤ j ∧ j < i + k
              · rw [if_pos h, if_pos (by omega)]
              · rw [if_neg h, if_neg (by omega)]
          case measure => simp [intOf]; omega
        · obtain rfl : k = 4 := by omega
          have hold : A'[i + 4]? = some (q64 (wn (xk m n i) (i + 4))) := by
            rw [hA'.2 (i + 4) (by omega)]; unfold pw; rw [if_neg (by omega)]
          have hw : ck m n i 4 = wn (xk m n (i + 1)) (i + 4) := by
            rw [← last_carry m n i 4 hn4, xk_high m n i (i + 4) 4 hn4 (by omega), Nat.zero_add]
          rw [hw]
          clear hw
          go_wp2
          go_roundw
          case rel =>
            refine ⟨i + 1, A'.setIfInBounds (i + 4) (q64 (wn (xk m n (i + 1)) (i + 4))), by omega, by go_num, hA'.set (i + 4) _ (by omega) rfl (fun j hj hne => ?_), rfl⟩
            unfold pw
            by_cases h : i ≤ j ∧ j < i + 4
            · rw [if_pos h]
            · rw [if_neg h]
              by_cases h2 : j < i
              · exact xk_low m n i j h2
              · rw [xk_high m n i j 4 hn4 (by omega), xk_high m n (i + 1) j 4 hn4 (by omega)]
          case measure => simp [intOf]; omega
    · have e := hA.lit
      have hk4 : i = 4 := by omega
      rw [hk4, xk_top m n 4 hm4] at e
      have hh : ∀ j, 4 ≤ j → wn (m * n) j = 0 := fun j hj => wn_high _ _ (Nat.lt_of_lt_of_le hmn (Nat.pow_le_pow_right B_pos hj))
      rw [hh 4 (by omega), hh 5 (by omega), hh 6 (by omega), hh 7 (by omega)] at e
      clear hA hh hmn hm hn hn4 hm4
      subst e
      have at1 : ∀ w a cap, (Instr.arrayAt 25 (.slice a 4 cap)).run Tryz.prog w = .ok (.pointer a) w := fun w a cap => run_arrayAt w 25 _ 4 a 4 cap Tryz.underlying25 (by omega)
      have at2 : ∀ w a cap, (Instr.arrayAt 156 (.slice a 4 cap)).run Tryz.prog w = .ok (.pointer a) w := fun w a cap => run_arrayAt w 156 _ 4 a 4 cap Tryz.underlying156 (by omega)
      have hz : ∀ w, (Op.equalIn 10000 25 (.agg #[q64 0, q64 0, q64 0, q64 0]) (.agg #[.int .u64 0, .int .u64 0, .int .u64 0, .int .u64 0])).run Tryz.prog w = .ok true w := fun w => by
        have := run_eq_mag_at 25 Tryz.underlying25 9998 0 0 (by decide) (by decide) w
        simp only [magV, wn_zero] at this
        exact this
      go_wp2_with (go_at_call 127; refine (must_yes _ _).mono ?_; rintro e w' ⟨rfl, rfl⟩)
      exact bodyPost_ret (v := magV (m * n)) (by simp [results, Tryz.results131, go_sem]) rfl ⟨rfl, (by repeat (first | (with_reducible exact Ext.refl _) | (with_reducible assumption) | (with_reducible apply Ext.grow) | (with_reducible apply Ext.alloc) | (with_reducible apply Ext.drew) | ((with_reducible apply Ext.set); (case hb => (first | omega | (simp; omega))))))⟩
end Go.Proofs.YtmopgcbhmkemjaaGreatDoor

namespace Go.Proofs.YtmopgcbhmkemjaaGreatDoor
open Go Go.RowKit
set_option linter.unusedSimpArgs false
set_option linter.unusedVariables false
set_option maxRecDepth 100000

/-- Decimal digits lie in a row of bytes. -/
structure DecAt (W : World) (b o : Nat) (ds : List Nat) : Prop where
  lt : b < W.heap.size
  at' : ∀ i, i < ds.length → W.cell? ⟨b, o + i, none⟩ = some (.int .u8 ((48 + ds.getD i 0 : Nat) : Int))
theorem DecAt.ext {W W' : World} {b o : Nat} {ds : List Nat} (h : DecAt W b o ds) (hx : Ext W W') : DecAt W' b o ds :=
  ⟨Nat.lt_of_lt_of_le h.lt hx.size, fun i hi => hx.cell (h.at' i hi)⟩
def Decs (ds : List Nat) : Prop := ∀ i, ds.getD i 0 < 10
theorem isdig_no (c : Nat) (h1 : 48 ≤ c) (h2 : c ≤ 57) (w : World) :
    Calls Tryz.prog 129 #[.int .u8 (c : Int)] w fun e w' => e = .returned (.bool false) ∧ w' = w := by
  have e1 : decide ((c : Int) < 48) = false := by simp; omega
  have e2 : decide ((c : Int) > 57) = false := by simp; omega
  go_enter Tryz.func129, Tryz.ntmps129
  go_wp2
  go_ret
  exact ⟨rfl, rfl⟩
set_option maxHeartbeats 4000000 in
theorem indexFunc_no (b o cap : Nat) (ds : List Nat) (hd : Decs ds) (hn : ds.length ≤ 1000000) (w : World) (h : DecAt w b o ds) :
    Calls Tryz.prog 155 #[.slice (some ⟨b, o, none⟩) ds.length cap, .func (.func 129) #[] #[]] w fun e w' => e = .returned (.int .i64 (-1)) ∧ w' = w := by
  go_enter Tryz.func155, Tryz.ntmps155
  go_wp2
  go_loop [8] (fun v => ∃ k : Nat, k ≤ ds.length ∧ v = .int .i64 (k : Int)) (fun v => ds.length - (intOf v).toNat)
  case atStart => exact ⟨0, Nat.zero_le _, rfl⟩
  case round =>
    obtain ⟨k, hk, rfl⟩ := hrel
    by_cases hlt : k < ds.length
    · have hc := h.at' k hlt
      have hd9 := hd k
      have hq := fun w => isdig_no (48 + ds.getD k 0) (by omega) (by omega) w
      have hb := h.lt
      generalize 48 + ds.getD k 0 = c at *
      clear hd h
      go_wp2_with (go_at_call 129; refine (hq _).mono ?_; rintro e w' ⟨rfl, rfl⟩)
      go_round
      case rel => exact ⟨k + 1, by omega, by go_num⟩
      case measure => simp [intOf]; omega
    · obtain rfl : k = ds.length := by omega
      clear h hd
      generalize ds.length = n at *
      go_wp2
      go_ret
      exact ⟨rfl, rfl⟩
theorem contains_no (b o cap : Nat) (ds : List Nat) (hd : Decs ds) (hn : ds.length ≤ 1000000) (w : World) (h : DecAt w b o ds) :
    Calls Tryz.prog 128 #[.slice (some ⟨b, o, none⟩) ds.length cap, .func (.func 129) #[] #[]] w fun e w' => e = .returned (.bool false) ∧ w' = w := by
  have c := indexFunc_no b o cap ds hd hn w h
  go_enter Tryz.func128, Tryz.ntmps128
  go_wp2_with (go_at_call 155; refine c.mono ?_; rintro e w' ⟨rfl, rfl⟩)
  go_ret
  exact ⟨rfl, rfl⟩
end Go.Proofs.YtmopgcbhmkemjaaGreatDoor

namespace Go.Proofs.YtmopgcbhmkemjaaGreatDoor
open Go Go.RowKit
set_option linter.unusedSimpArgs false
set_option linter.unusedVariables false
set_option maxRecDepth 100000

def ofDec (ds : List Nat) : Nat := ds.foldl (fun a d => a * 10 + d) 0
theorem ofDec_snoc (ds : List Nat) (d : Nat) : ofDec (ds ++ [d]) = ofDec ds * 10 + d := by simp [ofDec, List.foldl_append]
theorem ofDec_take (ds : List Nat) (k : Nat) (h : k < ds.length) : ofDec (ds.take (k + 1)) = ofDec (ds.take k) * 10 + ds.getD k 0 := by
  have e : ds.take (k + 1) = ds.take k ++ [ds.getD k 0] := by
    rw [List.take_succ_eq_append_getElem h]; simp [List.getD_eq_getElem?_getD, List.getElem?_eq_getElem h]
  rw [e, ofDec_snoc]
theorem ofDec_le (ds : List Nat) : ∀ j, ofDec (ds.take (ds.length - j)) ≤ ofDec ds
  | 0 => by simp
  | j + 1 => by
    by_cases h : ds.length ≤ j
    · rw [show ds.length - (j + 1) = ds.length - j by omega]; exact ofDec_le ds j
    · have h1 := ofDec_le ds j
      have h2 := ofDec_take ds (ds.length - (j + 1)) (by omega)
      rw [show ds.length - (j + 1) + 1 = ds.length - j by omega] at h2
      omega
theorem ofDec_take_le (ds : List Nat) (k : Nat) (h : k ≤ ds.length) : ofDec (ds.take k) ≤ ofDec ds := by
  have := ofDec_le ds (ds.length - k)
  rwa [show ds.length - (ds.length - k) = k by omega] at this
theorem DecAt.set {W : World} {b o : Nat} {ds : List Nat} {k j : Nat} {v : Value} (h : DecAt W b o ds) (hne : k ≠ b) : DecAt (W.setCell ⟨k, j, none⟩ v) b o ds :=
  ⟨by simpa using h.lt, fun i hi => by
    rw [World.cell?_setCell_other _ _ _ _ (by intro e; cases e; exact hne rfl)]; exact h.at' i hi⟩
theorem small_mag (d : Nat) (hd : d < B) : magV d = .agg #[.int .u64 (d : Int), .int .u64 0, .int .u64 0, .int .u64 0] := by
  have h0 : wn d 0 = d := by unfold wn; rw [Nat.pow_zero, Nat.div_one, Nat.mod_eq_of_lt hd]
  have h1 : ∀ j, 1 ≤ j → wn d j = 0 := fun j hj => wn_high _ _ (Nat.lt_of_lt_of_le hd (Nat.le_trans (Nat.le_of_eq (Nat.pow_one B).symm) (Nat.pow_le_pow_right B_pos hj)))
  show Value.agg #[q64 (wn d 0), q64 (wn d 1), q64 (wn d 2), q64 (wn d 3)] = _
  rw [h0, h1 1 (by omega), h1 2 (by omega), h1 3 (by omega)]
  rfl
theorem cell_new_any (w : World) (cs : Array Value) (T : TypeId) (fr : Nat × Nat) (i : Nat) : (w.alloc (.cells cs T fr)).cell? ⟨w.heap.size, i, none⟩ = cs[i]? := by
  have h : (w.alloc (.cells cs T fr)).heap[w.heap.size]? = some (.cells cs T fr) := by show (w.heap.push _)[w.heap.size]? = _; rw [Array.getElem?_push_size]
  unfold World.cell?
  rw [h]
  rfl
/-- The bytes of a text, in a new row. -/
theorem conv_dec (bs : ByteArray) (off : Nat) (ds : List Nat) (hz : bs.size = off + ds.length) (hb : ∀ i, i < ds.length → bs.data[off + i]? = some (UInt8.ofNat (48 + ds.getD i 0))) (hd : Decs ds) (w : World) :
    ∃ cap W, (convert 9 175 (.string bs)).run Tryz.prog w = .ok (.slice (some ⟨w.heap.size, 0, none⟩) (off + ds.length) cap) W ∧ Ext w W ∧ DecAt W w.heap.size off ds ∧ (∀ c, 0 < off → bs.data[0]? = some c → W.cell? ⟨w.heap.size, 0, none⟩ = some (.int .u8 (c.toNat : Int))) ∧ W.heap.size = w.heap.size + 1 ∧ off + ds.length ≤ cap := by
  have hcap := grownCap_ge w (off + ds.length) 0 5
  have h := run_bytes_of_string (P := Tryz.prog) w 9 175 5 bs Tryz.underlying9 Tryz.underlying175 Tryz.underlying5
  rw [hz] at h
  generalize grownCap w (off + ds.length) 0 5 = cap at *
  have hs : bs.data.size = off + ds.length := hz
  have hrow : ∀ (i : Nat) (c : UInt8), bs.data[i]? = some c → (bytesRow bs cap)[i]? = some (Value.int .u8 (c.toNat : Int)) := fun i c hc => by
    have hi : i < bs.data.size := by
      rcases Nat.lt_or_ge i bs.data.size with h | h
      · exact h
      · rw [Array.getElem?_eq_none h] at hc; cases hc
    unfold bytesRow
    rw [Array.getElem?_append_left (by simpa using hi), Array.getElem?_map, hc]; rfl
  refine ⟨cap, _, h, Ext.of_below (Below.alloc (Below.drew (Below.refl _ w)) (Nat.le_refl _) _), ⟨by simp [World.alloc], fun i hi => ?_⟩, fun c h0 hc => ?_, by simp [World.alloc], hcap⟩
  · have e := hrow _ _ (hb i hi)
    have hd9 := hd i
    rw [show ((UInt8.ofNat (48 + ds.getD i 0)).toNat : Int) = ((48 + ds.getD i 0 : Nat) : Int) by
      rw [UInt8.toNat_ofNat']; omega] at e
    exact (cell_new_any w.drew _ _ _ _).trans e
  · have e := hrow _ _ hc
    exact (cell_new_any w.drew _ _ _ _).trans e
set_option maxHeartbeats 8000000 in
theorem Parse_pos (bs : ByteArray) (ds : List Nat) (hz : bs.size = ds.length) (hb : ∀ i, i < ds.length → bs.data[i]? = some (UInt8.ofNat (48 + ds.getD i 0))) (hd : Decs ds)
    (hn : 0 < ds.length) (hn2 : ds.length ≤ 1000) (h0 : ds.getD 0 0 ≠ 0 ∨ ds.length = 1) (hv : ofDec ds < B4) (w : World) :
    Calls Tryz.prog 97 #[.string bs] w fun e w' => e = .returned (.tuple #[intV false (ofDec ds), .int .i64 0]) ∧ Ext w w' := by
  have hmf : ∀ (fn : Fn) (first cap : Array Value) (w : World), (Instr.makeFunc fn first cap).run Tryz.prog w = .ok (.func fn first cap) w := fun _ _ _ _ => rfl
  obtain ⟨cap, W, hcv, hxW, HD, _, hsz, _⟩ := conv_dec bs 0 ds (by omega) (fun i hi => by rw [Nat.zero_add]; exact hb i hi) hd ((w.alloc (.cells #[.bool false, .int .u64 0, .int .u64 0, .int .u64 0, .int .u64 0] 27)).alloc (.cells #[.int .i64 0] 33))
  have BO : Blk W w.heap.size #[.bool false, .int .u64 0, .int .u64 0, .int .u64 0, .int .u64 0] 27 := Blk.ext blk_auto hxW
  have BE : Blk W (w.heap.size + 1) #[.int .i64 0] 33 := Blk.ext blk_auto hxW
  have hx : Ext w W := Ext.trans ext_auto hxW
  simp only [World.size_alloc, Nat.zero_add] at hcv HD hsz
  have hc0 := HD.at' 0 hn
  have hd0 := hd 0
  have e1 : (48 + ((ds.getD 0 0 : Nat) : Int) == 45) = false := by simp only [beq_eq_false_iff_ne]; omega
  have e2 : ((48 + ((ds.getD 0 0 : Nat) : Int) != 48) = true) ∨ ((48 + ((ds.getD 0 0 : Nat) : Int) != 48) = false ∧ ((ds.length : Int) == 1) = true) := by
    rcases h0 with h | h
    · left; simp only [bne_iff_ne]; omega
    · by_cases h' : ds.getD 0 0 = 0
      · right; rw [h, h']; exact ⟨rfl, rfl⟩
      · left; simp only [bne_iff_ne]; omega
  have CN := fun W h => contains_no (w.heap.size + 1 + 1) 0 cap ds hd (by omega) W h
  have HV := Lib.hid hv
  have HB := Lib.hid hd
  have hne : w.heap.size + 1 + 1 < W.heap.size := HD.lt
  have hn0 : 0 < (ds.length : Int) := by omega
  have hnn : (ds.length : Int) ≤ 1000 := by omega
  clear hb hd hv hz h0 hd0
  generalize hx0 : ds.getD 0 0 = x0 at *
  clear hx0
  have HTT : ∀ (b6 k : Nat), k < ds.length → ∃ p d, p * 10 < B4 ∧ p * 10 + d < B4 ∧ d < 10 ∧ ofDec (ds.take k) = p ∧ ds.getD k 0 = d ∧ ofDec (ds.take (k + 1)) = p * 10 + d := fun b6 k hk => by
    have h1 := ofDec_take ds k hk
    have h2 := ofDec_take_le ds (k + 1) (by omega)
    have h3 := HV.out
    exact ⟨_, _, by omega, by omega, HB.out k, rfl, rfl, h1⟩
  have HT := Lib.hid HTT
  clear HTT HB
  have lBO := BO.lt; have cBO := BO.cell; have fBO := BO.frozen; have lBE := BE.lt; have cBE := BE.cell; have fBE := BE.frozen
  go_enter_defers Tryz.func97, Tryz.ntmps97
  rcases e2 with e2 | ⟨e2, e3⟩
  all_goals
    go_wp2_with (first | (go_at_call 127; refine (must_yes _ _).mono ?_; rintro e w' ⟨rfl, rfl⟩) | (go_at_call 128; refine (CN _ HD).mono ?_; rintro e w' ⟨rfl, rfl⟩))
    go_loopw [49] (fun iv wr => ∃ k p : Nat, iv = .int .i64 (k : Int) ∧ k ≤ ds.length ∧ ofDec (ds.take k) = p ∧ Ext w wr ∧ DecAt wr (w.heap.size + 1 + 1) 0 ds ∧
        Blk wr w.heap.size #[.bool false, .int .u64 0, .int .u64 0, .int .u64 0, .int .u64 0] 27 ∧ Blk wr (w.heap.size + 1) #[.int .i64 0] 33 ∧ Blk wr (w.heap.size + 1 + 1 + 1) #[q64 (wn p 0), q64 (wn p 1), q64 (wn p 2), q64 (wn p 3)] 156) (fun q _ => ds.length - (intOf q).toNat)
    case atStart =>
      refine ⟨0, 0, rfl, Nat.zero_le _, rfl, hx.trans ext_auto, HD.ext ext_auto, BO.ext ext_auto, BE.ext ext_auto, ?_⟩
      rw [wn_zero, wn_zero, wn_zero, wn_zero]
      exact Blk.new _ _ _ hsz.symm
    case round =>
      obtain ⟨k, p, rfl, hk, hp, hxr, HD, BO, BE, B6⟩ := hrel
      by_cases hlt : k < ds.length
      · obtain ⟨p', d, h1, h2, h3, h4, h5, h6⟩ := HT.out 0 k hlt
        obtain rfl : p' = p := h4.symm.trans hp
        have hc := HD.at' k hlt
        rw [h5, Nat.zero_add] at hc
        have ct : ∀ w, Calls Tryz.prog 131 #[magV p', .agg #[.int .u64 10, .int .u64 0, .int .u64 0, .int .u64 0]] w fun e w' => e = .returned (magV (p' * 10)) ∧ Ext w w' := fun w => by
          have := times_yes p' 10 (by omega) (by decide) h1 w
          rw [small_mag 10 (by decide)] at this; exact this
        have cp := plus_yes (p' * 10) d h1 (Nat.lt_of_lt_of_le (by omega : d < 10) (by decide)) h2
        rw [small_mag d (Nat.lt_of_lt_of_le h3 (by decide))] at cp
        have hkd : (k : Int) < (ds.length : Int) := by omega
        have hs1 : IntKind.u8.wrap (d : Int) = d := by rw [IntKind.wrap_u8]; omega
        have hs3 : 48 + (d : Int) - 48 = d := by omega
        have hs2 : IntKind.u64.wrap (d : Int) = d := by rw [IntKind.wrap_u64]; omega
        have HN : Hid (ofDec (ds.take (k + 1)) = p' * 10 + d) := Lib.hid h6
        have hne6 : w.heap.size + 1 + 1 + 1 ≠ w.heap.size + 1 + 1 := by omega
        clear hp h1 h2 h3 h4 h5 h6 HT HV CN
        generalize p' * 10 = p1 at *
        generalize p1 + d = p2 at *
        have lBO := BO.lt; have cBO := BO.cell; have fBO := BO.frozen; have lBE := BE.lt; have cBE := BE.cell; have fBE := BE.frozen; have lB6 := B6.lt; have cB6 := B6.cell; have fB6 := B6.frozen
        go_wp2_with (first
          | (go_at_call 131; (with_reducible refine (ct _).mono ?_); clear ct; rintro e y1 ⟨rfl, hy1⟩; replace B6 := B6.ext hy1; replace BO := BO.ext hy1; replace BE := BE.ext hy1; have hxr := hxr.trans hy1; have lB6 := B6.lt; have cB6 := B6.cell; have fB6 := B6.frozen)
          | (go_at_call 130; (with_reducible refine (cp _).mono ?_); clear cp; rintro e y2 ⟨rfl, hy2⟩; replace B6 := B6.ext hy2; replace BO := BO.ext hy2; replace BE := BE.ext hy2; have hxr := hxr.trans hy2; have lB6 := B6.lt; have cB6 := B6.cell; have fB6 := B6.frozen))
        go_roundw
        case rel =>
          have HDy := HD.ext (hy1.trans hy2)
          refine ⟨k + 1, p2, by go_num, by omega, HN.out, ext_auto, (((HDy.set hne6).set hne6).set hne6).set hne6, blk_auto, blk_auto, blk_auto⟩
        case measure => simp [intOf]; omega
      · obtain rfl : k = ds.length := by omega
        rw [List.take_length] at hp
        have hp4 : p < B4 := by rw [← hp]; exact HV.out
        have co : ∀ w, Calls Tryz.prog 102 #[.bool false, magV p] w fun e w' => e = .returned (intV false p) ∧ Ext w w' := of_any false p hp4
        have HP := Lib.hid hp
        have hnlt : ¬ (ds.length : Int) < (ds.length : Int) := by omega
        clear hp HT HV CN hlt
        have lBO := BO.lt; have cBO := BO.cell; have fBO := BO.frozen; have lBE := BE.lt; have cBE := BE.cell; have fBE := BE.frozen; have lB6 := B6.lt; have cB6 := B6.cell; have fB6 := B6.frozen
        go_wp2_with (go_at_call 102; (with_reducible refine (co _).mono ?_); clear co; rintro e y1 ⟨rfl, hy1⟩; have BO := BO.ext hy1; have BE := BE.ext hy1; have hx1 := hxr.trans hy1; have lBO := BO.lt; have cBO := BO.cell; have fBO := BO.frozen; have lBE := BE.lt; have cBE := BE.cell; have fBE := BE.frozen)
        refine leaves_limb (.tuple #[intV false p, .int .i64 0]) (by simp [results, Tryz.results97, go_sem, lBO, lBE, cBO, cBE]) ⟨by rw [HP.out], ?_⟩
        exact ext_auto
end Go.Proofs.YtmopgcbhmkemjaaGreatDoor

namespace Go.Proofs.YtmopgcbhmkemjaaGreatDoor
open Go Go.RowKit
set_option linter.unusedSimpArgs false
set_option linter.unusedVariables false
set_option maxRecDepth 100000

set_option maxHeartbeats 8000000 in
theorem Parse_neg (bs : ByteArray) (ds : List Nat) (hz : bs.size = 1 + ds.length) (hm : bs.data[0]? = some 45) (hb : ∀ i, i < ds.length → bs.data[1 + i]? = some (UInt8.ofNat (48 + ds.getD i 0))) (hd : Decs ds)
    (hn : 0 < ds.length) (hn2 : ds.length ≤ 1000) (h0 : ds.getD 0 0 ≠ 0) (hp0 : ofDec ds ≠ 0) (hv : ofDec ds < B4) (w : World) :
    Calls Tryz.prog 97 #[.string bs] w fun e w' => e = .returned (.tuple #[intV true (ofDec ds), .int .i64 0]) ∧ Ext w w' := by
  have hmf : ∀ (fn : Fn) (first cap : Array Value) (w : World), (Instr.makeFunc fn first cap).run Tryz.prog w = .ok (.func fn first cap) w := fun _ _ _ _ => rfl
  obtain ⟨cap, W, hcv, hxW, HD, hc45, hsz, hcap⟩ := conv_dec bs 1 ds hz hb hd ((w.alloc (.cells #[.bool false, .int .u64 0, .int .u64 0, .int .u64 0, .int .u64 0] 27)).alloc (.cells #[.int .i64 0] 33))
  have BO : Blk W w.heap.size #[.bool false, .int .u64 0, .int .u64 0, .int .u64 0, .int .u64 0] 27 := Blk.ext blk_auto hxW
  have BE : Blk W (w.heap.size + 1) #[.int .i64 0] 33 := Blk.ext blk_auto hxW
  have hx : Ext w W := Ext.trans ext_auto hxW
  simp only [World.size_alloc] at hcv HD hsz hc45
  have hc45 : W.cell? ⟨w.heap.size + 1 + 1, 0, none⟩ = some (.int .u8 45) := hc45 45 (by decide) hm
  obtain ⟨cp, rfl⟩ : ∃ cp, cap = 1 + cp := ⟨cap - 1, by omega⟩
  have hcp : ds.length ≤ cp := by omega
  have hc0 := HD.at' 0 hn
  have hd0 := hd 0
  have e2 : (48 + ((ds.getD 0 0 : Nat) : Int) != 48) = true := by simp only [bne_iff_ne]; omega
  have CN := fun W h => contains_no (w.heap.size + 1 + 1) 1 cp ds hd (by omega) W h
  have HV := Lib.hid hv
  have HZ := Lib.hid hp0
  clear hp0
  have HB := Lib.hid hd
  have hne : w.heap.size + 1 + 1 < W.heap.size := HD.lt
  have hn0 : 0 < (ds.length : Int) := by omega
  have hnn : (ds.length : Int) ≤ 1000 := by omega
  clear hb hd hv hz h0 hd0 hm hcap
  generalize hx0 : ds.getD 0 0 = x0 at *
  clear hx0
  have HTT : ∀ (b6 k : Nat), k < ds.length → ∃ p d, p * 10 < B4 ∧ p * 10 + d < B4 ∧ d < 10 ∧ ofDec (ds.take k) = p ∧ ds.getD k 0 = d ∧ ofDec (ds.take (k + 1)) = p * 10 + d := fun b6 k hk => by
    have h1 := ofDec_take ds k hk
    have h2 := ofDec_take_le ds (k + 1) (by omega)
    have h3 := HV.out
    exact ⟨_, _, by omega, by omega, HB.out k, rfl, rfl, h1⟩
  have HT := Lib.hid HTT
  clear HTT HB
  have lBO := BO.lt; have cBO := BO.cell; have fBO := BO.frozen; have lBE := BE.lt; have cBE := BE.cell; have fBE := BE.frozen
  go_enter_defers Tryz.func97, Tryz.ntmps97
  all_goals
    go_wp2_with (first | (go_at_call 127; refine (must_yes _ _).mono ?_; rintro e w' ⟨rfl, rfl⟩) | (go_at_call 128; refine (CN _ HD).mono ?_; rintro e w' ⟨rfl, rfl⟩))
    go_loopw [49] (fun iv wr => ∃ k p : Nat, iv = .int .i64 (k : Int) ∧ k ≤ ds.length ∧ ofDec (ds.take k) = p ∧ Ext w wr ∧ DecAt wr (w.heap.size + 1 + 1) 1 ds ∧
        Blk wr w.heap.size #[.bool false, .int .u64 0, .int .u64 0, .int .u64 0, .int .u64 0] 27 ∧ Blk wr (w.heap.size + 1) #[.int .i64 0] 33 ∧ Blk wr (w.heap.size + 1 + 1 + 1) #[q64 (wn p 0), q64 (wn p 1), q64 (wn p 2), q64 (wn p 3)] 156) (fun q _ => ds.length - (intOf q).toNat)
    case atStart =>
      refine ⟨0, 0, rfl, Nat.zero_le _, rfl, hx.trans ext_auto, HD.ext ext_auto, BO.ext ext_auto, BE.ext ext_auto, ?_⟩
      rw [wn_zero, wn_zero, wn_zero, wn_zero]
      exact Blk.new _ _ _ hsz.symm
    case round =>
      obtain ⟨k, p, rfl, hk, hp, hxr, HD, BO, BE, B6⟩ := hrel
      by_cases hlt : k < ds.length
      · obtain ⟨p', d, h1, h2, h3, h4, h5, h6⟩ := HT.out 0 k hlt
        obtain rfl : p' = p := h4.symm.trans hp
        have hc := HD.at' k hlt
        rw [h5] at hc
        have ct : ∀ w, Calls Tryz.prog 131 #[magV p', .agg #[.int .u64 10, .int .u64 0, .int .u64 0, .int .u64 0]] w fun e w' => e = .returned (magV (p' * 10)) ∧ Ext w w' := fun w => by
          have := times_yes p' 10 (by omega) (by decide) h1 w
          rw [small_mag 10 (by decide)] at this; exact this
        have cp := plus_yes (p' * 10) d h1 (Nat.lt_of_lt_of_le (by omega : d < 10) (by decide)) h2
        rw [small_mag d (Nat.lt_of_lt_of_le h3 (by decide))] at cp
        have hkd : (k : Int) < (ds.length : Int) := by omega
        have hs1 : IntKind.u8.wrap (d : Int) = d := by rw [IntKind.wrap_u8]; omega
        have hs3 : 48 + (d : Int) - 48 = d := by omega
        have hs2 : IntKind.u64.wrap (d : Int) = d := by rw [IntKind.wrap_u64]; omega
        have HN : Hid (ofDec (ds.take (k + 1)) = p' * 10 + d) := Lib.hid h6
        have hne6 : w.heap.size + 1 + 1 + 1 ≠ w.heap.size + 1 + 1 := by omega
        clear hp h1 h2 h3 h4 h5 h6 HT HV CN
        generalize p' * 10 = p1 at *
        generalize p1 + d = p2 at *
        have lBO := BO.lt; have cBO := BO.cell; have fBO := BO.frozen; have lBE := BE.lt; have cBE := BE.cell; have fBE := BE.frozen; have lB6 := B6.lt; have cB6 := B6.cell; have fB6 := B6.frozen
        go_wp2_with (first
          | (go_at_call 131; (with_reducible refine (ct _).mono ?_); clear ct; rintro e y1 ⟨rfl, hy1⟩; replace B6 := B6.ext hy1; replace BO := BO.ext hy1; replace BE := BE.ext hy1; have hxr := hxr.trans hy1; have lB6 := B6.lt; have cB6 := B6.cell; have fB6 := B6.frozen)
          | (go_at_call 130; (with_reducible refine (cp _).mono ?_); clear cp; rintro e y2 ⟨rfl, hy2⟩; replace B6 := B6.ext hy2; replace BO := BO.ext hy2; replace BE := BE.ext hy2; have hxr := hxr.trans hy2; have lB6 := B6.lt; have cB6 := B6.cell; have fB6 := B6.frozen))
        go_roundw
        case rel =>
          have HDy := HD.ext (hy1.trans hy2)
          refine ⟨k + 1, p2, by go_num, by omega, HN.out, ext_auto, (((HDy.set hne6).set hne6).set hne6).set hne6, blk_auto, blk_auto, blk_auto⟩
        case measure => simp [intOf]; omega
      · obtain rfl : k = ds.length := by omega
        rw [List.take_length] at hp
        have hp4 : p < B4 := by rw [← hp]; exact HV.out
        have co : ∀ w, Calls Tryz.prog 102 #[.bool true, magV p] w fun e w' => e = .returned (intV true p) ∧ Ext w w' := by
          have := of_any true p hp4
          rwa [show (true && !decide (p = 0)) = true by have : p ≠ 0 := by rw [← hp]; exact HZ.out
                                                        simp [this]] at this
        have HP := Lib.hid hp
        have hnlt : ¬ (ds.length : Int) < (ds.length : Int) := by omega
        clear hp HT HV CN hlt
        have lBO := BO.lt; have cBO := BO.cell; have fBO := BO.frozen; have lBE := BE.lt; have cBE := BE.cell; have fBE := BE.frozen; have lB6 := B6.lt; have cB6 := B6.cell; have fB6 := B6.frozen
        go_wp2_with (go_at_call 102; (with_reducible refine (co _).mono ?_); clear co; rintro e y1 ⟨rfl, hy1⟩; have BO := BO.ext hy1; have BE := BE.ext hy1; have hx1 := hxr.trans hy1; have lBO := BO.lt; have cBO := BO.cell; have fBO := BO.frozen; have lBE := BE.lt; have cBE := BE.cell; have fBE := BE.frozen)
        refine leaves_limb (.tuple #[intV true p, .int .i64 0]) (by simp [results, Tryz.results97, go_sem, lBO, lBE, cBO, cBE]) ⟨by rw [HP.out], ?_⟩
        exact ext_auto
end Go.Proofs.YtmopgcbhmkemjaaGreatDoor

namespace Go.Proofs.YtmopgcbhmkemjaaGreatDoor
open Go Go.RowKit
set_option linter.unusedSimpArgs false
set_option linter.unusedVariables false
set_option maxRecDepth 100000
set_option exponentiation.threshold 3000

theorem Ext.of_eq {w w' : World} (h : w' = w) : Ext w w' := h ▸ Ext.refl w
/-- A call that answers v. -/
abbrev Ans (f : Nat) (args : Array Value) (v : Value) : Prop := ∀ w, Calls Tryz.prog f args w fun e w' => e = .returned v ∧ Ext w w'
abbrev AnsT (f : Nat) (args : Array Value) (v : Value) : Prop := ∀ w, Tab w → Calls Tryz.prog f args w fun e w' => e = .returned v ∧ Ext w w'
abbrev EqT (T : TypeId) (x y : Value) : Prop := ∀ w, (Op.equalIn 10000 T x y).run Tryz.prog w = .ok true w
theorem toList_data (bs : ByteArray) : bs.toList = bs.data.toList := ByteArray.toList_eq bs
theorem B4_big : 65536 < B4 := by decide
theorem Fits.small {q : Rat} (h1 : q.num.natAbs < 65536) (h2 : q.den < 65536) : Fits q := ⟨Nat.lt_trans h1 B4_big, Nat.lt_trans h2 B4_big⟩
theorem eqT_q (x y : Rat) (fx : Fits x) (fy : Fits y) (h : x = y) : EqT 29 (qV x) (qV y) := fun w => by
  rw [run_eq_q x y fx fy w]; simp [h]
theorem qV_of (q : Rat) (s : Bool) (m k : Nat) (h1 : decide (q.num < 0) = s) (h2 : q.num.natAbs = m) (h3 : q.den = k) : qV q = ratV s m false k := by
  subst h1 h2 h3; rfl
theorem parse_one (c d : Nat) (bs : ByteArray) (hs : bs.data = #[UInt8.ofNat (48 + d)]) (hd : d < 10) (w : World) :
    Calls Tryz.prog 97 #[.string bs] w fun e w' => e = .returned (.tuple #[intV false d, .int .i64 0]) ∧ Ext w w' := by
  have e : ofDec [d] = d := by simp [ofDec]
  have := Parse_pos bs [d] (by show bs.data.size = 1; rw [hs]; rfl) (fun i hi => by
    have : i = 0 := by simpa using hi
    subst this; rw [hs]; simp) (fun i => by
    rcases i with _ | i
    · simpa using hd
    · simp) (by simp) (by simp) (.inr (by simp)) (by rw [e]; exact Nat.lt_trans (by omega) B4_big) w
  rwa [e] at this
theorem parse_mone (d : Nat) (bs : ByteArray) (hs : bs.data = #[45, UInt8.ofNat (48 + d)]) (hd : d < 10) (h0 : d ≠ 0) (w : World) :
    Calls Tryz.prog 97 #[.string bs] w fun e w' => e = .returned (.tuple #[intV true d, .int .i64 0]) ∧ Ext w w' := by
  have e : ofDec [d] = d := by simp [ofDec]
  have := Parse_neg bs [d] (by show bs.data.size = 2; rw [hs]; rfl) (by rw [hs]; rfl) (fun i hi => by
    have : i = 0 := by simpa using hi
    subst this; rw [hs]; simp) (fun i => by
    rcases i with _ | i
    · simpa using hd
    · simp) (by simp) (by simp) (by simpa using h0) (by rw [e]; exact h0) (by rw [e]; exact Nat.lt_trans (by omega) B4_big) w
  rwa [e] at this
theorem rOf_word (z : Int) (h1 : -9223372036854775808 ≤ z) (h2 : z ≤ 9223372036854775807) : Ans 33 #[.int .i64 z] (ratV (decide (z < 0)) z.natAbs false 1) := fun w => by
  by_cases h : z < 0
  · obtain ⟨k, rfl⟩ : ∃ k : Nat, z = -(k : Int) := ⟨z.natAbs, by omega⟩
    have e : decide (-(k : Int) < 0) = true := by simpa using h
    rw [e, Int.natAbs_neg, Int.natAbs_natCast]
    exact rOf_at _ true k (fun w => Of_neg k (by omega) (by omega) w) w
  · obtain ⟨k, rfl⟩ : ∃ k : Nat, z = (k : Int) := ⟨z.toNat, by omega⟩
    have e : decide ((k : Int) < 0) = false := by simp
    rw [e, Int.natAbs_natCast]
    exact rOf_at _ false k (fun w => Of_nat k (by omega) w) w
theorem qV_word (z : Int) : qV (z : Rat) = ratV (decide (z < 0)) z.natAbs false 1 := by
  unfold qV; rw [Rat.num_intCast, Rat.den_intCast]
theorem word_fits (z : Int) (h1 : -9223372036854775808 ≤ z) (h2 : z ≤ 9223372036854775807) : Fits (z : Rat) := by
  refine ⟨?_, ?_⟩
  · rw [Rat.num_intCast]; exact Nat.lt_trans (by rw [B_eq]; omega : z.natAbs < B) B_lt_B4
  · rw [Rat.den_intCast]; exact Nat.lt_trans (by rw [B_eq]; omega : 1 < B) B_lt_B4
theorem fits_zero : Fits 0 := Fits.small (by decide) (by decide)
theorem of_zero : Ans 33 #[.int .i64 0] (ratV false 0 false 1) := fun w => by
  have := rOf_at ((0 : Nat) : Int) false 0 (fun w => Of_nat 0 (by decide) w) w
  exact this
theorem zsub (x : Rat) : 0 - x = -x := by grind
def zrt : Rt := ⟨false, 0, false, 1, B4_pos, Nat.lt_trans (by decide) B4_big⟩
theorem cmpQ_neg (x y : Rat) : cmpQ (-y) (-x) = cmpQ x y := by
  unfold cmpQ
  have h1 : -y < -x ↔ x < y := by grind
  have h2 : -y = -x ↔ x = y := by grind
  simp only [h1, h2]
/-- The words of what is none. -/
def noR : Rt := ⟨false, 0, false, 0, B4_pos, B4_pos⟩
theorem noR_ok : noR.ok = false := rfl
theorem eqT_rt (r : Rt) : EqT 29 r.v r.v := fun w => by
  rw [run_eq_rat _ _ _ _ _ _ _ _ r.hm r.hk r.hm r.hk]; simp
theorem rt_v (q : Rat) (h : Fits q) : (rt q h).v = qV q := rfl
end Go.Proofs.YtmopgcbhmkemjaaGreatDoor

namespace Go.Proofs.YtmopgcbhmkemjaaGreatDoor
open Go Go.RowKit
set_option linter.unusedSimpArgs false
set_option linter.unusedVariables false
set_option maxRecDepth 100000
set_option exponentiation.threshold 3000

/-- A Point's words. -/
abbrev ptsV (s : Bool) (m : Nat) (t : Bool) (k : Nat) (s' : Bool) (m' : Nat) (t' : Bool) (k' : Nat) : Array Value :=
  #[.bool s, q64 (wn m 0), q64 (wn m 1), q64 (wn m 2), q64 (wn m 3), .bool t, q64 (wn k 0), q64 (wn k 1), q64 (wn k 2), q64 (wn k 3),
    .bool s', q64 (wn m' 0), q64 (wn m' 1), q64 (wn m' 2), q64 (wn m' 3), .bool t', q64 (wn k' 0), q64 (wn k' 1), q64 (wn k' 2), q64 (wn k' 3)]
abbrev ptV (s : Bool) (m : Nat) (t : Bool) (k : Nat) (s' : Bool) (m' : Nat) (t' : Bool) (k' : Nat) : Value :=
  .agg #[.bool s, q64 (wn m 0), q64 (wn m 1), q64 (wn m 2), q64 (wn m 3), .bool t, q64 (wn k 0), q64 (wn k 1), q64 (wn k 2), q64 (wn k 3),
    .bool s', q64 (wn m' 0), q64 (wn m' 1), q64 (wn m' 2), q64 (wn m' 3), .bool t', q64 (wn k' 0), q64 (wn k' 1), q64 (wn k' 2), q64 (wn k' 3)]
abbrev pV (a b : Rt) : Value := ptV a.s a.m a.t a.k b.s b.m b.t b.k
abbrev pZ : Value := .agg #[.bool false, .int .u64 0, .int .u64 0, .int .u64 0, .int .u64 0, .bool false, .int .u64 0, .int .u64 0, .int .u64 0, .int .u64 0, .bool false, .int .u64 0, .int .u64 0, .int .u64 0, .int .u64 0, .bool false, .int .u64 0, .int .u64 0, .int .u64 0, .int .u64 0]
abbrev ndV (x y : Int) : Value := .agg #[.int .i64 x, .int .i64 y]
theorem pZ_eq : pZ = ptV false 0 false 0 false 0 false 0 := by simp [wn_zero]
def inC (z : Int) : Bool := decide (-67108864 ≤ z) && decide (z ≤ 67108864)
theorem in_any (n : Int) (w : World) : Calls Tryz.prog 39 #[.int .i64 n, .int .i64 (-67108864), .int .i64 67108864] w fun e w' => e = .returned (.bool (inC n)) ∧ w' = w := by
  unfold inC
  go_enter Tryz.func39, Tryz.ntmps39
  by_cases h1 : -67108864 ≤ n
  · have h1' : decide (-67108864 ≤ n) = true := by simpa using h1
    go_wp2
    go_ret
    exact ⟨by simp [h1], rfl⟩
  · have h1' : decide (-67108864 ≤ n) = false := by simpa using h1
    go_wp2
    go_ret
    exact ⟨by simp [h1], rfl⟩
theorem pcheck_any (x y : Int) (w : World) : Calls Tryz.prog 15 #[ndV x y] w fun e w' => e = .returned (.int .i64 (if inC x && inC y then 0 else 2)) ∧ Ext w w' := by
  have cx := in_any x
  have cy := in_any y
  cases hx : inC x with
  | false =>
    rw [hx] at cx
    go_enter Tryz.func15, Tryz.ntmps15
    go_wp2_with (go_at_call 39; (with_reducible refine (cx _).mono ?_); rintro e w' ⟨rfl, rfl⟩)
    exact bodyPost_ret (v := .int .i64 2) (by simp [results, Tryz.results15, go_sem]) rfl ⟨rfl, ext_auto⟩
  | true =>
    cases hy : inC y with
    | false =>
      rw [hx] at cx; rw [hy] at cy
      go_enter Tryz.func15, Tryz.ntmps15
      go_wp2_with (first | (go_at_call 39; (with_reducible refine (cx _).mono ?_); clear cx; rintro e w' ⟨rfl, rfl⟩) | (go_at_call 39; (with_reducible refine (cy _).mono ?_); rintro e w' ⟨rfl, rfl⟩))
      exact bodyPost_ret (v := .int .i64 2) (by simp [results, Tryz.results15, go_sem]) rfl ⟨rfl, ext_auto⟩
    | true =>
      rw [hx] at cx; rw [hy] at cy
      go_enter Tryz.func15, Tryz.ntmps15
      go_wp2_with (first | (go_at_call 39; (with_reducible refine (cx _).mono ?_); clear cx; rintro e w' ⟨rfl, rfl⟩) | (go_at_call 39; (with_reducible refine (cy _).mono ?_); rintro e w' ⟨rfl, rfl⟩))
      exact bodyPost_ret (v := .int .i64 0) (by simp [results, Tryz.results15, go_sem]) rfl ⟨rfl, ext_auto⟩
set_option maxHeartbeats 4000000 in
theorem fits_any (r : Rt) (w : World) : Calls Tryz.prog 41 #[r.v] w fun e w' => e = .returned (.bool r.pf) ∧ Ext w w' := by
  obtain ⟨s, m, t, k, hm, hk⟩ := r
  have w1 := c96_words m hm
  have w2 := b_words k hk
  have l := fun m i => show wn m i < 18446744073709551616 from wn_lt m i
  have o1 := bits_or_u64_nat (wn m 2) (wn m 3) (l _ _) (l _ _)
  have o2 := bits_or_u64_nat (wn k 1) (wn k 2) (l _ _) (l _ _)
  have o3 := bits_or_u64_nat (wn k 1 ||| wn k 2) (wn k 3) (Nat.or_lt_two_pow (n := 64) (l _ _) (l _ _)) (l _ _)
  show Calls _ _ #[ratV s m t k] w fun e w' => e = .returned (.bool (decide (m < C96) && decide (k < B))) ∧ _
  generalize hz1 : wn m 2 ||| wn m 3 = z1 at *
  generalize hz2 : wn k 1 ||| wn k 2 = z2 at *
  generalize hz3 : z2 ||| wn k 3 = z3 at *
  have d1 : decide (m < C96) = (decide (wn m 1 < 4294967296) && decide (z1 = 0)) := by
    by_cases h : m < C96
    · obtain ⟨h1, h2⟩ := w1.1 h
      rw [decide_eq_true h, decide_eq_true h1, decide_eq_true h2]; rfl
    · rw [decide_eq_false h]
      by_cases h1 : wn m 1 < 4294967296
      · by_cases h2 : z1 = 0
        · exact absurd (w1.2 ⟨h1, h2⟩) h
        · rw [decide_eq_false h2, Bool.and_false]
      · rw [decide_eq_false h1, Bool.false_and]
  have d2 : decide (k < B) = decide (z3 = 0) := decide_eq_decide.2 w2
  rw [d1, d2]
  clear d1 d2
  clear hz1 hz2 hz3 w1 w2 l hm hk
  by_cases h1 : wn m 1 < 4294967296
  · have h1' : ((wn m 1 : Int) < 4294967296) := by omega
    by_cases h2 : z1 = 0
    · have h2' : ((z1 : Int) == 0) = true := by simp [h2]
      have h3' : ((z3 : Int) == 0) = decide (z3 = 0) := by by_cases h : z3 = 0 <;> simp [h]
      go_enter Tryz.func41, Tryz.ntmps41
      go_wp2
      exact bodyPost_ret (v := .bool (decide (z3 = 0))) (by simp [results, Tryz.results41, go_sem]) rfl ⟨by simp [h1, h2], ext_auto⟩
    · have h2' : ((z1 : Int) == 0) = false := by simp [h2]
      go_enter Tryz.func41, Tryz.ntmps41
      go_wp2
      exact bodyPost_ret (v := .bool false) (by simp [results, Tryz.results41, go_sem]) rfl ⟨by simp [h1, h2], ext_auto⟩
  · have h1' : ¬ ((wn m 1 : Int) < 4294967296) := by omega
    go_enter Tryz.func41, Tryz.ntmps41
    go_wp2
    exact bodyPost_ret (v := .bool false) (by simp [results, Tryz.results41, go_sem]) rfl ⟨by simp [h1], ext_auto⟩
end Go.Proofs.YtmopgcbhmkemjaaGreatDoor

namespace Go.Proofs.YtmopgcbhmkemjaaGreatDoor
open Go Go.RowKit
set_option linter.unusedSimpArgs false
set_option linter.unusedVariables false
set_option maxRecDepth 100000
set_option exponentiation.threshold 3000

set_option maxHeartbeats 8000000 in
theorem pright_any (a b : Rt) (w : World) : Calls Tryz.prog 16 #[pV a b] w fun e w' => e = .returned (.int .i64 (if a.pok && b.pok then 0 else 2)) ∧ Ext w w' := by
  have hx : Ext w w := Ext.refl w
  have fa := fits_any a
  have fb := fits_any b
  have ka : ∀ b', a.ok = b' → ∀ w, Calls Tryz.prog 40 #[a.v] w fun e w' => e = .returned (.int .i64 (if b' then 0 else 2)) ∧ Ext w w' := fun b' h => by
    cases b' with
    | true => exact rcheck_yes a.s a.m a.t a.k a.hm a.hk h
    | false => exact rcheck_no a.s a.m a.t a.k a.hm a.hk h
  have kb : ∀ b', b.ok = b' → ∀ w, Calls Tryz.prog 40 #[b.v] w fun e w' => e = .returned (.int .i64 (if b' then 0 else 2)) ∧ Ext w w' := fun b' h => by
    cases b' with
    | true => exact rcheck_yes b.s b.m b.t b.k b.hm b.hk h
    | false => exact rcheck_no b.s b.m b.t b.k b.hm b.hk h
  unfold Rt.pok
  generalize a.ok = oa at *
  generalize b.ok = ob at *
  generalize a.pf = pa at *
  generalize b.pf = pb at *
  replace ka := ka oa rfl
  replace kb := kb ob rfl
  obtain ⟨s1, m1, t1, k1, _, _⟩ := a
  obtain ⟨s2, m2, t2, k2, _, _⟩ := b
  have ca : ∀ w, Calls Tryz.prog 40 #[ratV s1 m1 t1 k1] w fun e w' => e = .returned (.int .i64 (if oa then 0 else 2)) ∧ Ext w w' := ka
  have cb : ∀ w, Calls Tryz.prog 40 #[ratV s2 m2 t2 k2] w fun e w' => e = .returned (.int .i64 (if ob then 0 else 2)) ∧ Ext w w' := kb
  have ea : ∀ w, Calls Tryz.prog 41 #[ratV s1 m1 t1 k1] w fun e w' => e = .returned (.bool pa) ∧ Ext w w' := fa
  have eb : ∀ w, Calls Tryz.prog 41 #[ratV s2 m2 t2 k2] w fun e w' => e = .returned (.bool pb) ∧ Ext w w' := fb
  clear fa fb ka kb
  cases oa with
  | false =>
    simp only [Bool.false_eq_true, if_true, if_false] at ca
    rw [if_neg (by simp)]
    go_enter Tryz.func16, Tryz.ntmps16
    go_wp2_with (go_at_call 40; (with_reducible refine (ca _).mono ?_); rintro e y1 ⟨rfl, hz_⟩; have hzz_ : Ext w y1 := Ext.trans ext_auto hz_; have BA : Blk y1 w.heap.size (ptsV s1 m1 t1 k1 s2 m2 t2 k2) 31 := Blk.ext blk_auto hz_; replace hx := hx.trans hzz_; clear hz_ hzz_; have lBA := BA.lt; have cBA := BA.cell; have fBA := BA.frozen)
    exact bodyPost_ret (v := .int .i64 2) (by simp [results, Tryz.results16, go_sem]) rfl ⟨rfl, ext_auto⟩
  | true =>
    simp only [Bool.false_eq_true, if_true, if_false] at ca
    cases ob with
    | false =>
      simp only [Bool.false_eq_true, if_true, if_false] at cb
      rw [if_neg (by simp)]
      go_enter Tryz.func16, Tryz.ntmps16
      go_wp2_with (go_at_call 40; (with_reducible refine (ca _).mono ?_); rintro e y1 ⟨rfl, hz_⟩; have hzz_ : Ext w y1 := Ext.trans ext_auto hz_; have BA : Blk y1 w.heap.size (ptsV s1 m1 t1 k1 s2 m2 t2 k2) 31 := Blk.ext blk_auto hz_; replace hx := hx.trans hzz_; clear hz_ hzz_; have lBA := BA.lt; have cBA := BA.cell; have fBA := BA.frozen)
      go_wp2_with (go_at_call 40; (with_reducible refine (cb _).mono ?_); rintro e y2 ⟨rfl, hz_⟩; have hzz_ : Ext y1 y2 := Ext.trans ext_auto hz_; replace BA := BA.ext hzz_; clear lBA cBA fBA; replace hx := hx.trans hzz_; clear hz_ hzz_; have lBA := BA.lt; have cBA := BA.cell; have fBA := BA.frozen)
      exact bodyPost_ret (v := .int .i64 2) (by simp [results, Tryz.results16, go_sem]) rfl ⟨rfl, ext_auto⟩
    | true =>
      simp only [Bool.false_eq_true, if_true, if_false] at cb
      cases pa with
      | false =>
        rw [if_neg (by simp)]
        go_enter Tryz.func16, Tryz.ntmps16
        go_wp2_with (go_at_call 40; (with_reducible refine (ca _).mono ?_); rintro e y1 ⟨rfl, hz_⟩; have hzz_ : Ext w y1 := Ext.trans ext_auto hz_; have BA : Blk y1 w.heap.size (ptsV s1 m1 t1 k1 s2 m2 t2 k2) 31 := Blk.ext blk_auto hz_; replace hx := hx.trans hzz_; clear hz_ hzz_; have lBA := BA.lt; have cBA := BA.cell; have fBA := BA.frozen)
        go_wp2_with (go_at_call 40; (with_reducible refine (cb _).mono ?_); rintro e y2 ⟨rfl, hz_⟩; have hzz_ : Ext y1 y2 := Ext.trans ext_auto hz_; replace BA := BA.ext hzz_; clear lBA cBA fBA; replace hx := hx.trans hzz_; clear hz_ hzz_; have lBA := BA.lt; have cBA := BA.cell; have fBA := BA.frozen)
        go_wp2_with (go_at_call 41; (with_reducible refine (ea _).mono ?_); rintro e y3 ⟨rfl, hz_⟩; have hzz_ : Ext y2 y3 := Ext.trans ext_auto hz_; replace BA := BA.ext hzz_; clear lBA cBA fBA; replace hx := hx.trans hzz_; clear hz_ hzz_; have lBA := BA.lt; have cBA := BA.cell; have fBA := BA.frozen)
        exact bodyPost_ret (v := .int .i64 2) (by simp [results, Tryz.results16, go_sem]) rfl ⟨rfl, ext_auto⟩
      | true =>
        cases pb with
        | false =>
          rw [if_neg (by simp)]
          go_enter Tryz.func16, Tryz.ntmps16
          go_wp2_with (go_at_call 40; (with_reducible refine (ca _).mono ?_); rintro e y1 ⟨rfl, hz_⟩; have hzz_ : Ext w y1 := Ext.trans ext_auto hz_; have BA : Blk y1 w.heap.size (ptsV s1 m1 t1 k1 s2 m2 t2 k2) 31 := Blk.ext blk_auto hz_; replace hx := hx.trans hzz_; clear hz_ hzz_; have lBA := BA.lt; have cBA := BA.cell; have fBA := BA.frozen)
          go_wp2_with (go_at_call 40; (with_reducible refine (cb _).mono ?_); rintro e y2 ⟨rfl, hz_⟩; have hzz_ : Ext y1 y2 := Ext.trans ext_auto hz_; replace BA := BA.ext hzz_; clear lBA cBA fBA; replace hx := hx.trans hzz_; clear hz_ hzz_; have lBA := BA.lt; have cBA := BA.cell; have fBA := BA.frozen)
          go_wp2_with (go_at_call 41; (with_reducible refine (ea _).mono ?_); rintro e y3 ⟨rfl, hz_⟩; have hzz_ : Ext y2 y3 := Ext.trans ext_auto hz_; replace BA := BA.ext hzz_; clear lBA cBA fBA; replace hx := hx.trans hzz_; clear hz_ hzz_; have lBA := BA.lt; have cBA := BA.cell; have fBA := BA.frozen)
          go_wp2_with (go_at_call 41; (with_reducible refine (eb _).mono ?_); rintro e y4 ⟨rfl, hz_⟩; have hzz_ : Ext y3 y4 := Ext.trans ext_auto hz_; replace BA := BA.ext hzz_; clear lBA cBA fBA; replace hx := hx.trans hzz_; clear hz_ hzz_; have lBA := BA.lt; have cBA := BA.cell; have fBA := BA.frozen)
          exact bodyPost_ret (v := .int .i64 2) (by simp [results, Tryz.results16, go_sem]) rfl ⟨rfl, ext_auto⟩
        | true =>
          rw [if_pos (by simp)]
          go_enter Tryz.func16, Tryz.ntmps16
          go_wp2_with (go_at_call 40; (with_reducible refine (ca _).mono ?_); rintro e y1 ⟨rfl, hz_⟩; have hzz_ : Ext w y1 := Ext.trans ext_auto hz_; have BA : Blk y1 w.heap.size (ptsV s1 m1 t1 k1 s2 m2 t2 k2) 31 := Blk.ext blk_auto hz_; replace hx := hx.trans hzz_; clear hz_ hzz_; have lBA := BA.lt; have cBA := BA.cell; have fBA := BA.frozen)
          go_wp2_with (go_at_call 40; (with_reducible refine (cb _).mono ?_); rintro e y2 ⟨rfl, hz_⟩; have hzz_ : Ext y1 y2 := Ext.trans ext_auto hz_; replace BA := BA.ext hzz_; clear lBA cBA fBA; replace hx := hx.trans hzz_; clear hz_ hzz_; have lBA := BA.lt; have cBA := BA.cell; have fBA := BA.frozen)
          go_wp2_with (go_at_call 41; (with_reducible refine (ea _).mono ?_); rintro e y3 ⟨rfl, hz_⟩; have hzz_ : Ext y2 y3 := Ext.trans ext_auto hz_; replace BA := BA.ext hzz_; clear lBA cBA fBA; replace hx := hx.trans hzz_; clear hz_ hzz_; have lBA := BA.lt; have cBA := BA.cell; have fBA := BA.frozen)
          go_wp2_with (go_at_call 41; (with_reducible refine (eb _).mono ?_); rintro e y4 ⟨rfl, hz_⟩; have hzz_ : Ext y3 y4 := Ext.trans ext_auto hz_; replace BA := BA.ext hzz_; clear lBA cBA fBA; replace hx := hx.trans hzz_; clear hz_ hzz_; have lBA := BA.lt; have cBA := BA.cell; have fBA := BA.frozen)
          exact bodyPost_ret (v := .int .i64 0) (by simp [results, Tryz.results16, go_sem]) rfl ⟨rfl, ext_auto⟩
theorem pright_yes (a b : Rt) (ha : a.pok = true) (hb : b.pok = true) (w : World) : Calls Tryz.prog 16 #[pV a b] w fun e w' => e = .returned (.int .i64 0) ∧ Ext w w' := by
  have := pright_any a b w
  rwa [ha, hb] at this
theorem pright_no (a b : Rt) (h : (a.pok && b.pok) = false) (w : World) : Calls Tryz.prog 16 #[pV a b] w fun e w' => e = .returned (.int .i64 2) ∧ Ext w w' := by
  have := pright_any a b w
  rwa [h] at this
end Go.Proofs.YtmopgcbhmkemjaaGreatDoor
