/- ratio: sums of what may not be; products. ratio: quotients. ratio: the Rat of two Ints. ratio: which is less. -/
import Derived.Test.YtjkchmegnfbfoaaGreatDoorProg
import Derived.Test.YtjkchmegnfbfoaaGreatDoorQ04
namespace Go.Proofs.YtjkchmegnfbfoaaGreatDoor
open Go Go.RowKit
set_option linter.unusedSimpArgs false
set_option linter.unusedVariables false
set_option maxRecDepth 100000

set_option maxHeartbeats 4000000 in
theorem Add_bad (r1 r2 : Rt) (w : World) (hT : Tab w) (h : (r1.ok && r2.ok) = false) :
    Calls Tryz.prog 21 #[r1.v, r2.v] w fun e w' => e = .returned (.tuple #[qZ, .int .i64 2]) ∧ Ext w w' := by
  have hmf : ∀ (fn : Fn) (first cap : Array Value) (w : World), (Instr.makeFunc fn first cap).run Tryz.prog w = .ok (.func fn first cap) w := fun _ _ _ _ => rfl
  have ca := all2_no r1 r2 h
  clear h
  obtain ⟨s1, m1, u1, k1, _, _⟩ := r1
  obtain ⟨s2, m2, u2, k2, _, _⟩ := r2
  go_enter_defers Tryz.func21, Tryz.ntmps21
  go_wp2_with (go_at_call 60; refine (ca _ _ _ 27 ?_).mono ?_; (· exact (by repeat (first | (with_reducible assumption) | ((with_reducible refine Blk.new _ _ _ ?_); (simp; done)) | (with_reducible apply Blk.alloc) | (with_reducible apply Blk.grow) | (with_reducible apply Blk.drew) | (with_reducible apply Blk.set10) | (with_reducible apply Blk.set5) | (with_reducible apply Blk.set4) | (with_reducible apply Blk.tail4) | (with_reducible apply Blk.set2) | (with_reducible apply Blk.set1) | ((with_reducible apply Blk.setOther); (case hne => omega))))); rintro e w' ⟨rfl, d, rfl⟩)
  refine lv_rebase fun v hv => ?_
  have hx : Ext w v := by rw [hv]; exact (by repeat (first | (with_reducible exact Ext.refl _) | (with_reducible assumption) | (with_reducible apply Ext.grow) | (with_reducible apply Ext.alloc) | (with_reducible apply Ext.drew) | ((with_reducible apply Ext.set); (case hb => (first | omega | (simp; omega))))))
  have BO : Blk v (w.heap.size + 1 + 1) #[.bool false, .int .u64 0, .int .u64 0, .int .u64 0, .int .u64 0, .bool false, .int .u64 0, .int .u64 0, .int .u64 0, .int .u64 0] 27 := by rw [hv]; exact (by repeat (first | (with_reducible assumption) | ((with_reducible refine Blk.new _ _ _ ?_); (simp; done)) | (with_reducible apply Blk.alloc) | (with_reducible apply Blk.grow) | (with_reducible apply Blk.drew) | (with_reducible apply Blk.set10) | (with_reducible apply Blk.set5) | (with_reducible apply Blk.set4) | (with_reducible apply Blk.tail4) | (with_reducible apply Blk.set2) | (with_reducible apply Blk.set1) | ((with_reducible apply Blk.setOther); (case hne => omega))))
  have BE : Blk v (w.heap.size + 1 + 1 + 1) #[.int .i64 0] 37 := by rw [hv]; exact (by repeat (first | (with_reducible assumption) | ((with_reducible refine Blk.new _ _ _ ?_); (simp; done)) | (with_reducible apply Blk.alloc) | (with_reducible apply Blk.grow) | (with_reducible apply Blk.drew) | (with_reducible apply Blk.set10) | (with_reducible apply Blk.set5) | (with_reducible apply Blk.set4) | (with_reducible apply Blk.tail4) | (with_reducible apply Blk.set2) | (with_reducible apply Blk.set1) | ((with_reducible apply Blk.setOther); (case hne => omega))))
  clear hv
  refine leaves_ratio_pan 0 2 59 _ (BE.cell 0) (BE.frozen 0) (fun _ _ => by kernel_rfl) ?_
  refine (Add_clear _ _ _ _ _ _ _ _ _ _ _ _ (BO.setOther (by omega))).mono ?_
  rintro e' z ⟨rfl, hz⟩
  have hy : Ext w z := by rw [hz]; exact (by repeat (first | (with_reducible exact Ext.refl _) | (with_reducible assumption) | (with_reducible apply Ext.grow) | (with_reducible apply Ext.alloc) | (with_reducible apply Ext.drew) | ((with_reducible apply Ext.set); (case hb => (first | omega | (simp; omega))))))
  have BF : Blk z (w.heap.size + 1 + 1) #[.bool false, .int .u64 0, .int .u64 0, .int .u64 0, .int .u64 0, .bool false, .int .u64 0, .int .u64 0, .int .u64 0, .int .u64 0] 27 := by rw [hz]; exact (by repeat (first | (with_reducible assumption) | ((with_reducible refine Blk.new _ _ _ ?_); (simp; done)) | (with_reducible apply Blk.alloc) | (with_reducible apply Blk.grow) | (with_reducible apply Blk.drew) | (with_reducible apply Blk.set10) | (with_reducible apply Blk.set5) | (with_reducible apply Blk.set4) | (with_reducible apply Blk.tail4) | (with_reducible apply Blk.set2) | (with_reducible apply Blk.set1) | ((with_reducible apply Blk.setOther); (case hne => omega))))
  have BG : Blk z (w.heap.size + 1 + 1 + 1) #[.int .i64 2] 37 := by rw [hz]; exact (by repeat (first | (with_reducible assumption) | ((with_reducible refine Blk.new _ _ _ ?_); (simp; done)) | (with_reducible apply Blk.alloc) | (with_reducible apply Blk.grow) | (with_reducible apply Blk.drew) | (with_reducible apply Blk.set10) | (with_reducible apply Blk.set5) | (with_reducible apply Blk.set4) | (with_reducible apply Blk.tail4) | (with_reducible apply Blk.set2) | (with_reducible apply Blk.set1) | ((with_reducible apply Blk.setOther); (case hne => omega))))
  clear hz
  have lBF := BF.lt; have cBF := BF.cell; have fBF := BF.frozen; have lBG := BG.lt; have cBG := BG.cell; have fBG := BG.frozen; clear BF BG
  exact ⟨rfl, .tuple #[qZ, .int .i64 2], by simp [results, Tryz.results21, go_sem, cBF, cBG], rfl, hy⟩
theorem Mul_clear (b : Nat) (W : World) (y0 y1 y2 y3 y4 y5 y6 y7 y8 y9 : Value) (h : Blk W b #[y0, y1, y2, y3, y4, y5, y6, y7, y8, y9] 27) :
    Calls Tryz.prog 64 #[.pointer (some ⟨b, 0, none⟩)] W fun e w' => e = .returned (.tuple #[]) ∧ w' = ((((((((((W.setCell ⟨b, 0, none⟩ (.bool false)).setCell ⟨b, 1, none⟩ (.int .u64 0)).setCell ⟨b, 2, none⟩ (.int .u64 0)).setCell ⟨b, 3, none⟩ (.int .u64 0)).setCell ⟨b, 4, none⟩ (.int .u64 0)).setCell ⟨b, 5, none⟩ (.bool false)).setCell ⟨b, 6, none⟩ (.int .u64 0)).setCell ⟨b, 7, none⟩ (.int .u64 0)).setCell ⟨b, 8, none⟩ (.int .u64 0)).setCell ⟨b, 9, none⟩ (.int .u64 0)) := by
  have lh := h.lt; have ch := h.cell; have fh := h.frozen; clear h
  go_enter Tryz.func64, Tryz.ntmps64
  go_wp2
  go_end0
  exact ⟨rfl, rfl⟩
set_option maxHeartbeats 4000000 in
theorem Mul_walk (r1 r2 : Rt) (w : World) (hT : Tab w) (h1 : r1.ok = true) (h2 : r2.ok = true) (rs : Bool) (rm rk : Nat) (cm : ∀ w, Tab w → Calls Tryz.prog 50 #[sgnV (!(r1.s == r2.s)) (r1.m * r2.m), wideV (r1.k * r2.k)] w fun e w' => e = .returned (ratV rs rm false rk) ∧ Ext w w') :
    Calls Tryz.prog 23 #[r1.v, r2.v] w fun e w' => e = .returned (.tuple #[ratV rs rm false rk, .int .i64 0]) ∧ Ext w w' := by
  have hmf : ∀ (fn : Fn) (first cap : Array Value) (w : World), (Instr.makeFunc fn first cap).run Tryz.prog w = .ok (.func fn first cap) w := fun _ _ _ _ => rfl
  have ca := all2_yes r1 r2 h1 h2
  have t1 := times_any r1.s r1.m r2.s r2.m r1.hm r2.hm
  have cd := product_any r1.t r2.t r1.k r2.k r1.hk r2.hk
  generalize r1.m * r2.m = p1 at *
  generalize r1.k * r2.k = p3 at *
  obtain ⟨s1, m1, u1, k1, _, _⟩ := r1
  obtain ⟨s2, m2, u2, k2, _, _⟩ := r2
  go_enter_defers Tryz.func23, Tryz.ntmps23
  go_wp2_with (go_at_call 60; refine (ca _ _ _ 27 ?_).mono ?_; (· exact (by repeat (first | (with_reducible assumption) | ((with_reducible refine Blk.new _ _ _ ?_); (simp; done)) | (with_reducible apply Blk.alloc) | (with_reducible apply Blk.grow) | (with_reducible apply Blk.drew) | (with_reducible apply Blk.set10) | (with_reducible apply Blk.set5) | (with_reducible apply Blk.set4) | (with_reducible apply Blk.tail4) | (with_reducible apply Blk.set2) | (with_reducible apply Blk.set1) | ((with_reducible apply Blk.setOther); (case hne => omega))))); rintro e w' ⟨rfl, d, rfl⟩)
  refine wp_rebase fun v hv => ?_
  have hx : Ext w v := by rw [hv]; exact (by repeat (first | (with_reducible exact Ext.refl _) | (with_reducible assumption) | (with_reducible apply Ext.grow) | (with_reducible apply Ext.alloc) | (with_reducible apply Ext.drew) | ((with_reducible apply Ext.set); (case hb => (first | omega | (simp; omega))))))
  have hTv := hT.ext hx
  have BA : Blk v w.heap.size (ratsV s1 m1 u1 k1) 27 := by rw [hv]; exact (by repeat (first | (with_reducible assumption) | ((with_reducible refine Blk.new _ _ _ ?_); (simp; done)) | (with_reducible apply Blk.alloc) | (with_reducible apply Blk.grow) | (with_reducible apply Blk.drew) | (with_reducible apply Blk.set10) | (with_reducible apply Blk.set5) | (with_reducible apply Blk.set4) | (with_reducible apply Blk.tail4) | (with_reducible apply Blk.set2) | (with_reducible apply Blk.set1) | ((with_reducible apply Blk.setOther); (case hne => omega))))
  have BB : Blk v (w.heap.size + 1) (ratsV s2 m2 u2 k2) 27 := by rw [hv]; exact (by repeat (first | (with_reducible assumption) | ((with_reducible refine Blk.new _ _ _ ?_); (simp; done)) | (with_reducible apply Blk.alloc) | (with_reducible apply Blk.grow) | (with_reducible apply Blk.drew) | (with_reducible apply Blk.set10) | (with_reducible apply Blk.set5) | (with_reducible apply Blk.set4) | (with_reducible apply Blk.tail4) | (with_reducible apply Blk.set2) | (with_reducible apply Blk.set1) | ((with_reducible apply Blk.setOther); (case hne => omega))))
  have BO : Blk v (w.heap.size + 1 + 1) #[.bool false, .int .u64 0, .int .u64 0, .int .u64 0, .int .u64 0, .bool false, .int .u64 0, .int .u64 0, .int .u64 0, .int .u64 0] 27 := by rw [hv]; exact (by repeat (first | (with_reducible assumption) | ((with_reducible refine Blk.new _ _ _ ?_); (simp; done)) | (with_reducible apply Blk.alloc) | (with_reducible apply Blk.grow) | (with_reducible apply Blk.drew) | (with_reducible apply Blk.set10) | (with_reducible apply Blk.set5) | (with_reducible apply Blk.set4) | (with_reducible apply Blk.tail4) | (with_reducible apply Blk.set2) | (with_reducible apply Blk.set1) | ((with_reducible apply Blk.setOther); (case hne => omega))))
  have BE : Blk v (w.heap.size + 1 + 1 + 1) #[.int .i64 0] 37 := by rw [hv]; exact (by repeat (first | (with_reducible assumption) | ((with_reducible refine Blk.new _ _ _ ?_); (simp; done)) | (with_reducible apply Blk.alloc) | (with_reducible apply Blk.grow) | (with_reducible apply Blk.drew) | (with_reducible apply Blk.set10) | (with_reducible apply Blk.set5) | (with_reducible apply Blk.set4) | (with_reducible apply Blk.tail4) | (with_reducible apply Blk.set2) | (with_reducible apply Blk.set1) | ((with_reducible apply Blk.setOther); (case hne => omega))))
  clear hv
  have lBA := BA.lt; have cBA := BA.cell; have fBA := BA.frozen; have lBB := BB.lt; have cBB := BB.cell; have fBB := BB.frozen; have lBO := BO.lt; have cBO := BO.cell; have fBO := BO.frozen; have lBE := BE.lt; have cBE := BE.cell; have fBE := BE.frozen
  (first | refine wp_region_k' [.p, .r, .p, .r, .r, .p, .r, .p, .r, .r, .r, .w, .w] (by kernel_rfl) (by kernel_rfl) ?_ | refine wp_region_k [.p, .r, .p, .r, .r, .p, .r, .p, .r, .r, .r, .w, .w] (by kernel_rfl) (by kernel_rfl) ?_); (repeat (first | (refine wpK_p rfl (fun K hK => ?_); go_simp; refine hK _ _ ?_; clear hK K) | (refine wpK_r rfl (fun K hK => ?_); go_simp; refine hK _ _ ?_; clear hK K) | (refine wpK_w rfl (fun K hK => ?_); go_simp; refine hK _ _ ?_; clear hK K) | (refine wpK_r rfl (fun K hK => ?_); go_simp; apply Exists.intro; refine ⟨fun d => ?_, hK _ _ ?_⟩; (first | (with_reducible exact Calls.calm (t1 _)) | (with_reducible exact Calls.calm (cd _)) | (with_reducible exact Calls.calm (cm _ (hTv.grow _)))); clear hK K))); refine wpK_nil ?_; intro d
  go_wp2
  refine lv_rebase fun u hu => ?_
  have hy : Ext w u := by rw [hu]; exact (by repeat (first | (with_reducible exact Ext.refl _) | (with_reducible assumption) | (with_reducible apply Ext.grow) | (with_reducible apply Ext.alloc) | (with_reducible apply Ext.drew) | ((with_reducible apply Ext.set); (case hb => (first | omega | (simp; omega))))))
  have BF : Blk u (w.heap.size + 1 + 1) (ratsV rs rm false rk) 27 := by rw [hu]; exact (by repeat (first | (with_reducible assumption) | ((with_reducible refine Blk.new _ _ _ ?_); (simp; done)) | (with_reducible apply Blk.alloc) | (with_reducible apply Blk.grow) | (with_reducible apply Blk.drew) | (with_reducible apply Blk.set10) | (with_reducible apply Blk.set5) | (with_reducible apply Blk.set4) | (with_reducible apply Blk.tail4) | (with_reducible apply Blk.set2) | (with_reducible apply Blk.set1) | ((with_reducible apply Blk.setOther); (case hne => omega))))
  have BG : Blk u (w.heap.size + 1 + 1 + 1) #[.int .i64 0] 37 := by rw [hu]; exact (by repeat (first | (with_reducible assumption) | ((with_reducible refine Blk.new _ _ _ ?_); (simp; done)) | (with_reducible apply Blk.alloc) | (with_reducible apply Blk.grow) | (with_reducible apply Blk.drew) | (with_reducible apply Blk.set10) | (with_reducible apply Blk.set5) | (with_reducible apply Blk.set4) | (with_reducible apply Blk.tail4) | (with_reducible apply Blk.set2) | (with_reducible apply Blk.set1) | ((with_reducible apply Blk.setOther); (case hne => omega))))
  clear hu
  have lBF := BF.lt; have cBF := BF.cell; have fBF := BF.frozen; have lBG := BG.lt; have cBG := BG.cell; have fBG := BG.frozen; clear BF BG
  exact leaves_ratio (.tuple #[ratV rs rm false rk, .int .i64 0]) (by simp [results, Tryz.results23, go_sem, cBF, cBG]) ⟨rfl, hy⟩
set_option maxHeartbeats 4000000 in
theorem Mul_over (r1 r2 : Rt) (w : World) (hT : Tab w) (h1 : r1.ok = true) (h2 : r2.ok = true) (cm : ∀ w, Tab w → Calls Tryz.prog 50 #[sgnV (!(r1.s == r2.s)) (r1.m * r2.m), wideV (r1.k * r2.k)] w fun e w' => e = givesUp 110 ∧ Ext w w') :
    Calls Tryz.prog 23 #[r1.v, r2.v] w fun e w' => e = .returned (.tuple #[qZ, .int .i64 110]) ∧ Ext w w' := by
  have hmf : ∀ (fn : Fn) (first cap : Array Value) (w : World), (Instr.makeFunc fn first cap).run Tryz.prog w = .ok (.func fn first cap) w := fun _ _ _ _ => rfl
  have ca := all2_yes r1 r2 h1 h2
  have t1 := times_any r1.s r1.m r2.s r2.m r1.hm r2.hm
  have cd := product_any r1.t r2.t r1.k r2.k r1.hk r2.hk
  generalize r1.m * r2.m = p1 at *
  generalize r1.k * r2.k = p3 at *
  obtain ⟨s1, m1, u1, k1, _, _⟩ := r1
  obtain ⟨s2, m2, u2, k2, _, _⟩ := r2
  go_enter_defers Tryz.func23, Tryz.ntmps23
  go_wp2_with (go_at_call 60; refine (ca _ _ _ 27 ?_).mono ?_; (· exact (by repeat (first | (with_reducible assumption) | ((with_reducible refine Blk.new _ _ _ ?_); (simp; done)) | (with_reducible apply Blk.alloc) | (with_reducible apply Blk.grow) | (with_reducible apply Blk.drew) | (with_reducible apply Blk.set10) | (with_reducible apply Blk.set5) | (with_reducible apply Blk.set4) | (with_reducible apply Blk.tail4) | (with_reducible apply Blk.set2) | (with_reducible apply Blk.set1) | ((with_reducible apply Blk.setOther); (case hne => omega))))); rintro e w' ⟨rfl, d, rfl⟩)
  refine wp_rebase fun v hv => ?_
  have hx : Ext w v := by rw [hv]; exact (by repeat (first | (with_reducible exact Ext.refl _) | (with_reducible assumption) | (with_reducible apply Ext.grow) | (with_reducible apply Ext.alloc) | (with_reducible apply Ext.drew) | ((with_reducible apply Ext.set); (case hb => (first | omega | (simp; omega))))))
  have hTv := hT.ext hx
  have BA : Blk v w.heap.size (ratsV s1 m1 u1 k1) 27 := by rw [hv]; exact (by repeat (first | (with_reducible assumption) | ((with_reducible refine Blk.new _ _ _ ?_); (simp; done)) | (with_reducible apply Blk.alloc) | (with_reducible apply Blk.grow) | (with_reducible apply Blk.drew) | (with_reducible apply Blk.set10) | (with_reducible apply Blk.set5) | (with_reducible apply Blk.set4) | (with_reducible apply Blk.tail4) | (with_reducible apply Blk.set2) | (with_reducible apply Blk.set1) | ((with_reducible apply Blk.setOther); (case hne => omega))))
  have BB : Blk v (w.heap.size + 1) (ratsV s2 m2 u2 k2) 27 := by rw [hv]; exact (by repeat (first | (with_reducible assumption) | ((with_reducible refine Blk.new _ _ _ ?_); (simp; done)) | (with_reducible apply Blk.alloc) | (with_reducible apply Blk.grow) | (with_reducible apply Blk.drew) | (with_reducible apply Blk.set10) | (with_reducible apply Blk.set5) | (with_reducible apply Blk.set4) | (with_reducible apply Blk.tail4) | (with_reducible apply Blk.set2) | (with_reducible apply Blk.set1) | ((with_reducible apply Blk.setOther); (case hne => omega))))
  have BO : Blk v (w.heap.size + 1 + 1) #[.bool false, .int .u64 0, .int .u64 0, .int .u64 0, .int .u64 0, .bool false, .int .u64 0, .int .u64 0, .int .u64 0, .int .u64 0] 27 := by rw [hv]; exact (by repeat (first | (with_reducible assumption) | ((with_reducible refine Blk.new _ _ _ ?_); (simp; done)) | (with_reducible apply Blk.alloc) | (with_reducible apply Blk.grow) | (with_reducible apply Blk.drew) | (with_reducible apply Blk.set10) | (with_reducible apply Blk.set5) | (with_reducible apply Blk.set4) | (with_reducible apply Blk.tail4) | (with_reducible apply Blk.set2) | (with_reducible apply Blk.set1) | ((with_reducible apply Blk.setOther); (case hne => omega))))
  have BE : Blk v (w.heap.size + 1 + 1 + 1) #[.int .i64 0] 37 := by rw [hv]; exact (by repeat (first | (with_reducible assumption) | ((with_reducible refine Blk.new _ _ _ ?_); (simp; done)) | (with_reducible apply Blk.alloc) | (with_reducible apply Blk.grow) | (with_reducible apply Blk.drew) | (with_reducible apply Blk.set10) | (with_reducible apply Blk.set5) | (with_reducible apply Blk.set4) | (with_reducible apply Blk.tail4) | (with_reducible apply Blk.set2) | (with_reducible apply Blk.set1) | ((with_reducible apply Blk.setOther); (case hne => omega))))
  clear hv
  have lBA := BA.lt; have cBA := BA.cell; have fBA := BA.frozen; have lBB := BB.lt; have cBB := BB.cell; have fBB := BB.frozen; have lBO := BO.lt; have cBO := BO.cell; have fBO := BO.frozen; have lBE := BE.lt; have cBE := BE.cell; have fBE := BE.frozen
  (first | refine wp_region_ksl' [0, 1, 2, 3, 4, 5, 6, 7, 8, 9] 10 _ [{ v := .iface 37 (.int .i64 110), recovered := false }] [.p, .r, .p, .r, .r, .p, .r, .p, .r, .r, .p, .p, .p] (by kernel_rfl) (by kernel_rfl) rfl ?hQ ?hS | refine wp_region_ksl [0, 1, 2, 3, 4, 5, 6, 7, 8, 9] 10 _ [{ v := .iface 37 (.int .i64 110), recovered := false }] [.p, .r, .p, .r, .r, .p, .r, .p, .r, .r, .p, .p, .p] (by kernel_rfl) (by kernel_rfl) rfl ?hQ ?hS); (case hS => (simp only [List.map_cons, List.map_nil, List.getD_cons_succ, List.getD_cons_zero]; (repeat (first | (refine wpK_p rfl (fun K hK => ?_); go_simp; refine hK _ _ ?_; clear hK K) | (refine wpK_r rfl (fun K hK => ?_); go_simp; refine hK _ _ ?_; clear hK K) | (refine wpK_r rfl (fun K hK => ?_); go_simp; apply Exists.intro; refine ⟨fun d => ?_, hK _ _ ?_⟩; (first | (with_reducible exact Calls.calm (t1 _)) | (with_reducible exact Calls.calm (cd _))); clear hK K))); refine wpK_nil ?_; refine ⟨rfl, fun d => ?_⟩; go_simp; refine ⟨_, _, ⟨rfl, rfl⟩, ?_⟩; (with_reducible exact Calls.calmP (cm _ (hTv.grow _))))); intro a d hd hkept
  have e4 := hkept 4 (by kernel_rfl)
  have e5 := hkept 5 (by kernel_rfl)
  simp at e4 e5
  show Leaves _ _ a.tmps _ a.defers _ _
  rw [hd]
  clear hkept hd
  replace BE := BE.grow d
  replace BO := BO.grow d
  clear lBE cBE fBE lBO cBO fBO
  refine leaves_ratio_pan 0 110 64 _ (BE.cell 0) (BE.frozen 0) (fun _ _ => by kernel_rfl) ?_
  refine (Mul_clear _ _ _ _ _ _ _ _ _ _ _ _ (BO.setOther (by omega))).mono ?_
  rintro e' z ⟨rfl, hz⟩
  have hy : Ext w z := by rw [hz]; exact (by repeat (first | (with_reducible exact Ext.refl _) | (with_reducible assumption) | (with_reducible apply Ext.grow) | (with_reducible apply Ext.alloc) | (with_reducible apply Ext.drew) | ((with_reducible apply Ext.set); (case hb => (first | omega | (simp; omega))))))
  have BF : Blk z (w.heap.size + 1 + 1) #[.bool false, .int .u64 0, .int .u64 0, .int .u64 0, .int .u64 0, .bool false, .int .u64 0, .int .u64 0, .int .u64 0, .int .u64 0] 27 := by rw [hz]; exact (by repeat (first | (with_reducible assumption) | ((with_reducible refine Blk.new _ _ _ ?_); (simp; done)) | (with_reducible apply Blk.alloc) | (with_reducible apply Blk.grow) | (with_reducible apply Blk.drew) | (with_reducible apply Blk.set10) | (with_reducible apply Blk.set5) | (with_reducible apply Blk.set4) | (with_reducible apply Blk.tail4) | (with_reducible apply Blk.set2) | (with_reducible apply Blk.set1) | ((with_reducible apply Blk.setOther); (case hne => omega))))
  have BG : Blk z (w.heap.size + 1 + 1 + 1) #[.int .i64 110] 37 := by rw [hz]; exact (by repeat (first | (with_reducible assumption) | ((with_reducible refine Blk.new _ _ _ ?_); (simp; done)) | (with_reducible apply Blk.alloc) | (with_reducible apply Blk.grow) | (with_reducible apply Blk.drew) | (with_reducible apply Blk.set10) | (with_reducible apply Blk.set5) | (with_reducible apply Blk.set4) | (with_reducible apply Blk.tail4) | (with_reducible apply Blk.set2) | (with_reducible apply Blk.set1) | ((with_reducible apply Blk.setOther); (case hne => omega))))
  clear hz
  have lBF := BF.lt; have cBF := BF.cell; have fBF := BF.frozen; have lBG := BG.lt; have cBG := BG.cell; have fBG := BG.frozen; clear BF BG
  exact ⟨rfl, .tuple #[qZ, .int .i64 110], by simp [results, Tryz.results23, go_sem, e4, e5, cBF, cBG], rfl, hy⟩
set_option maxHeartbeats 4000000 in
theorem Mul_bad (r1 r2 : Rt) (w : World) (hT : Tab w) (h : (r1.ok && r2.ok) = false) :
    Calls Tryz.prog 23 #[r1.v, r2.v] w fun e w' => e = .returned (.tuple #[qZ, .int .i64 2]) ∧ Ext w w' := by
  have hmf : ∀ (fn : Fn) (first cap : Array Value) (w : World), (Instr.makeFunc fn first cap).run Tryz.prog w = .ok (.func fn first cap) w := fun _ _ _ _ => rfl
  have ca := all2_no r1 r2 h
  clear h
  obtain ⟨s1, m1, u1, k1, _, _⟩ := r1
  obtain ⟨s2, m2, u2, k2, _, _⟩ := r2
  go_enter_defers Tryz.func23, Tryz.ntmps23
  go_wp2_with (go_at_call 60; refine (ca _ _ _ 27 ?_).mono ?_; (· exact (by repeat (first | (with_reducible assumption) | ((with_reducible refine Blk.new _ _ _ ?_); (simp; done)) | (with_reducible apply Blk.alloc) | (with_reducible apply Blk.grow) | (with_reducible apply Blk.drew) | (with_reducible apply Blk.set10) | (with_reducible apply Blk.set5) | (with_reducible apply Blk.set4) | (with_reducible apply Blk.tail4) | (with_reducible apply Blk.set2) | (with_reducible apply Blk.set1) | ((with_reducible apply Blk.setOther); (case hne => omega))))); rintro e w' ⟨rfl, d, rfl⟩)
  refine lv_rebase fun v hv => ?_
  have hx : Ext w v := by rw [hv]; exact (by repeat (first | (with_reducible exact Ext.refl _) | (with_reducible assumption) | (with_reducible apply Ext.grow) | (with_reducible apply Ext.alloc) | (with_reducible apply Ext.drew) | ((with_reducible apply Ext.set); (case hb => (first | omega | (simp; omega))))))
  have BO : Blk v (w.heap.size + 1 + 1) #[.bool false, .int .u64 0, .int .u64 0, .int .u64 0, .int .u64 0, .bool false, .int .u64 0, .int .u64 0, .int .u64 0, .int .u64 0] 27 := by rw [hv]; exact (by repeat (first | (with_reducible assumption) | ((with_reducible refine Blk.new _ _ _ ?_); (simp; done)) | (with_reducible apply Blk.alloc) | (with_reducible apply Blk.grow) | (with_reducible apply Blk.drew) | (with_reducible apply Blk.set10) | (with_reducible apply Blk.set5) | (with_reducible apply Blk.set4) | (with_reducible apply Blk.tail4) | (with_reducible apply Blk.set2) | (with_reducible apply Blk.set1) | ((with_reducible apply Blk.setOther); (case hne => omega))))
  have BE : Blk v (w.heap.size + 1 + 1 + 1) #[.int .i64 0] 37 := by rw [hv]; exact (by repeat (first | (with_reducible assumption) | ((with_reducible refine Blk.new _ _ _ ?_); (simp; done)) | (with_reducible apply Blk.alloc) | (with_reducible apply Blk.grow) | (with_reducible apply Blk.drew) | (with_reducible apply Blk.set10) | (with_reducible apply Blk.set5) | (with_reducible apply Blk.set4) | (with_reducible apply Blk.tail4) | (with_reducible apply Blk.set2) | (with_reducible apply Blk.set1) | ((with_reducible apply Blk.setOther); (case hne => omega))))
  clear hv
  refine leaves_ratio_pan 0 2 64 _ (BE.cell 0) (BE.frozen 0) (fun _ _ => by kernel_rfl) ?_
  refine (Mul_clear _ _ _ _ _ _ _ _ _ _ _ _ (BO.setOther (by omega))).mono ?_
  rintro e' z ⟨rfl, hz⟩
  have hy : Ext w z := by rw [hz]; exact (by repeat (first | (with_reducible exact Ext.refl _) | (with_reducible assumption) | (with_reducible apply Ext.grow) | (with_reducible apply Ext.alloc) | (with_reducible apply Ext.drew) | ((with_reducible apply Ext.set); (case hb => (first | omega | (simp; omega))))))
  have BF : Blk z (w.heap.size + 1 + 1) #[.bool false, .int .u64 0, .int .u64 0, .int .u64 0, .int .u64 0, .bool false, .int .u64 0, .int .u64 0, .int .u64 0, .int .u64 0] 27 := by rw [hz]; exact (by repeat (first | (with_reducible assumption) | ((with_reducible refine Blk.new _ _ _ ?_); (simp; done)) | (with_reducible apply Blk.alloc) | (with_reducible apply Blk.grow) | (with_reducible apply Blk.drew) | (with_reducible apply Blk.set10) | (with_reducible apply Blk.set5) | (with_reducible apply Blk.set4) | (with_reducible apply Blk.tail4) | (with_reducible apply Blk.set2) | (with_reducible apply Blk.set1) | ((with_reducible apply Blk.setOther); (case hne => omega))))
  have BG : Blk z (w.heap.size + 1 + 1 + 1) #[.int .i64 2] 37 := by rw [hz]; exact (by repeat (first | (with_reducible assumption) | ((with_reducible refine Blk.new _ _ _ ?_); (simp; done)) | (with_reducible apply Blk.alloc) | (with_reducible apply Blk.grow) | (with_reducible apply Blk.drew) | (with_reducible apply Blk.set10) | (with_reducible apply Blk.set5) | (with_reducible apply Blk.set4) | (with_reducible apply Blk.tail4) | (with_reducible apply Blk.set2) | (with_reducible apply Blk.set1) | ((with_reducible apply Blk.setOther); (case hne => omega))))
  clear hz
  have lBF := BF.lt; have cBF := BF.cell; have fBF := BF.frozen; have lBG := BG.lt; have cBG := BG.cell; have fBG := BG.frozen; clear BF BG
  exact ⟨rfl, .tuple #[qZ, .int .i64 2], by simp [results, Tryz.results23, go_sem, cBF, cBG], rfl, hy⟩
end Go.Proofs.YtjkchmegnfbfoaaGreatDoor

namespace Go.Proofs.YtjkchmegnfbfoaaGreatDoor
open Go Go.RowKit
set_option linter.unusedSimpArgs false
set_option linter.unusedVariables false
set_option maxRecDepth 100000

theorem Div_clear (b : Nat) (W : World) (y0 y1 y2 y3 y4 y5 y6 y7 y8 y9 : Value) (h : Blk W b #[y0, y1, y2, y3, y4, y5, y6, y7, y8, y9] 27) :
    Calls Tryz.prog 65 #[.pointer (some ⟨b, 0, none⟩)] W fun e w' => e = .returned (.tuple #[]) ∧ w' = ((((((((((W.setCell ⟨b, 0, none⟩ (.bool false)).setCell ⟨b, 1, none⟩ (.int .u64 0)).setCell ⟨b, 2, none⟩ (.int .u64 0)).setCell ⟨b, 3, none⟩ (.int .u64 0)).setCell ⟨b, 4, none⟩ (.int .u64 0)).setCell ⟨b, 5, none⟩ (.bool false)).setCell ⟨b, 6, none⟩ (.int .u64 0)).setCell ⟨b, 7, none⟩ (.int .u64 0)).setCell ⟨b, 8, none⟩ (.int .u64 0)).setCell ⟨b, 9, none⟩ (.int .u64 0)) := by
  have lh := h.lt; have ch := h.cell; have fh := h.frozen; clear h
  go_enter Tryz.func65, Tryz.ntmps65
  go_wp2
  go_end0
  exact ⟨rfl, rfl⟩
set_option maxHeartbeats 4000000 in
theorem Div_walk (r1 r2 : Rt) (w : World) (hT : Tab w) (h1 : r1.ok = true) (h2 : r2.ok = true) (h0 : r2.m ≠ 0) (rs : Bool) (rm rk : Nat) (cm : ∀ w, Tab w → Calls Tryz.prog 50 #[sgnV (!(r1.s == r2.s)) (r1.m * r2.k), wideV (r1.k * r2.m)] w fun e w' => e = .returned (ratV rs rm false rk) ∧ Ext w w') :
    Calls Tryz.prog 24 #[r1.v, r2.v] w fun e w' => e = .returned (.tuple #[ratV rs rm false rk, .int .i64 0]) ∧ Ext w w' := by
  have hmf : ∀ (fn : Fn) (first cap : Array Value) (w : World), (Instr.makeFunc fn first cap).run Tryz.prog w = .ok (.func fn first cap) w := fun _ _ _ _ => rfl
  have ca := all2_yes r1 r2 h1 h2
  have cs := sign_any r2.s r2.m r2.hm
  have hc : (sgn r2.s r2.m != 0) = true := by cases r2.s <;> simp [sgn, h0]
  have cn := product_any r1.s r2.t r1.m r2.k r1.hm r2.hk
  have cd := product_any r1.t r2.s r1.k r2.m r1.hk r2.hm
  clear h0
  generalize sgn r2.s r2.m = c at *
  generalize r1.m * r2.k = p1 at *
  generalize r1.k * r2.m = p3 at *
  obtain ⟨s1, m1, u1, k1, _, _⟩ := r1
  obtain ⟨s2, m2, u2, k2, _, _⟩ := r2
  go_enter_defers Tryz.func24, Tryz.ntmps24
  go_wp2_with (first
    | (go_at_call 60; refine (ca _ _ _ 27 ?_).mono ?_; (· exact (by repeat (first | (with_reducible assumption) | ((with_reducible refine Blk.new _ _ _ ?_); (simp; done)) | (with_reducible apply Blk.alloc) | (with_reducible apply Blk.grow) | (with_reducible apply Blk.drew) | (with_reducible apply Blk.set10) | (with_reducible apply Blk.set5) | (with_reducible apply Blk.set4) | (with_reducible apply Blk.tail4) | (with_reducible apply Blk.set2) | (with_reducible apply Blk.set1) | ((with_reducible apply Blk.setOther); (case hne => omega))))); rintro e w' ⟨rfl, d, rfl⟩)
    | (go_at_call 49; (with_reducible refine (cs _).mono ?_); rintro e w' ⟨rfl, d, rfl⟩)
    | (go_at_call 47; refine (rmust_yes _ _).mono ?_; rintro e w' ⟨rfl, rfl⟩))
  refine wp_rebase fun v hv => ?_
  have hx : Ext w v := by rw [hv]; exact (by repeat (first | (with_reducible exact Ext.refl _) | (with_reducible assumption) | (with_reducible apply Ext.grow) | (with_reducible apply Ext.alloc) | (with_reducible apply Ext.drew) | ((with_reducible apply Ext.set); (case hb => (first | omega | (simp; omega))))))
  have hTv := hT.ext hx
  have BA : Blk v w.heap.size (ratsV s1 m1 u1 k1) 27 := by rw [hv]; exact (by repeat (first | (with_reducible assumption) | ((with_reducible refine Blk.new _ _ _ ?_); (simp; done)) | (with_reducible apply Blk.alloc) | (with_reducible apply Blk.grow) | (with_reducible apply Blk.drew) | (with_reducible apply Blk.set10) | (with_reducible apply Blk.set5) | (with_reducible apply Blk.set4) | (with_reducible apply Blk.tail4) | (with_reducible apply Blk.set2) | (with_reducible apply Blk.set1) | ((with_reducible apply Blk.setOther); (case hne => omega))))
  have BB : Blk v (w.heap.size + 1) (ratsV s2 m2 u2 k2) 27 := by rw [hv]; exact (by repeat (first | (with_reducible assumption) | ((with_reducible refine Blk.new _ _ _ ?_); (simp; done)) | (with_reducible apply Blk.alloc) | (with_reducible apply Blk.grow) | (with_reducible apply Blk.drew) | (with_reducible apply Blk.set10) | (with_reducible apply Blk.set5) | (with_reducible apply Blk.set4) | (with_reducible apply Blk.tail4) | (with_reducible apply Blk.set2) | (with_reducible apply Blk.set1) | ((with_reducible apply Blk.setOther); (case hne => omega))))
  have BO : Blk v (w.heap.size + 1 + 1) #[.bool false, .int .u64 0, .int .u64 0, .int .u64 0, .int .u64 0, .bool false, .int .u64 0, .int .u64 0, .int .u64 0, .int .u64 0] 27 := by rw [hv]; exact (by repeat (first | (with_reducible assumption) | ((with_reducible refine Blk.new _ _ _ ?_); (simp; done)) | (with_reducible apply Blk.alloc) | (with_reducible apply Blk.grow) | (with_reducible apply Blk.drew) | (with_reducible apply Blk.set10) | (with_reducible apply Blk.set5) | (with_reducible apply Blk.set4) | (with_reducible apply Blk.tail4) | (with_reducible apply Blk.set2) | (with_reducible apply Blk.set1) | ((with_reducible apply Blk.setOther); (case hne => omega))))
  have BE : Blk v (w.heap.size + 1 + 1 + 1) #[.int .i64 0] 37 := by rw [hv]; exact (by repeat (first | (with_reducible assumption) | ((with_reducible refine Blk.new _ _ _ ?_); (simp; done)) | (with_reducible apply Blk.alloc) | (with_reducible apply Blk.grow) | (with_reducible apply Blk.drew) | (with_reducible apply Blk.set10) | (with_reducible apply Blk.set5) | (with_reducible apply Blk.set4) | (with_reducible apply Blk.tail4) | (with_reducible apply Blk.set2) | (with_reducible apply Blk.set1) | ((with_reducible apply Blk.setOther); (case hne => omega))))
  clear hv
  have lBA := BA.lt; have cBA := BA.cell; have fBA := BA.frozen; have lBB := BB.lt; have cBB := BB.cell; have fBB := BB.frozen; have lBO := BO.lt; have cBO := BO.cell; have fBO := BO.frozen; have lBE := BE.lt; have cBE := BE.cell; have fBE := BE.frozen
  (first | refine wp_region_k' [.p, .r, .p, .r, .r, .p, .p, .r, .p, .p, .r, .p, .p, .p, .r, .p, .r, .r, .r, .w, .w] (by kernel_rfl) (by kernel_rfl) ?_ | refine wp_region_k [.p, .r, .p, .r, .r, .p, .p, .r, .p, .p, .r, .p, .p, .p, .r, .p, .r, .r, .r, .w, .w] (by kernel_rfl) (by kernel_rfl) ?_); (repeat (first | (refine wpK_p rfl (fun K hK => ?_); go_simp; refine hK _ _ ?_; clear hK K) | (refine wpK_r rfl (fun K hK => ?_); go_simp; refine hK _ _ ?_; clear hK K) | (refine wpK_w rfl (fun K hK => ?_); go_simp; refine hK _ _ ?_; clear hK K) | (refine wpK_r rfl (fun K hK => ?_); go_simp; apply Exists.intro; refine ⟨fun d => ?_, hK _ _ ?_⟩; (first | (with_reducible exact Calls.calm (cn _)) | (with_reducible exact Calls.calm (cd _)) | (with_reducible exact Calls.calm (cm _ (hTv.grow _)))); clear hK K))); refine wpK_nil ?_; intro d
  go_wp2
  refine lv_rebase fun u hu => ?_
  have hy : Ext w u := by rw [hu]; exact (by repeat (first | (with_reducible exact Ext.refl _) | (with_reducible assumption) | (with_reducible apply Ext.grow) | (with_reducible apply Ext.alloc) | (with_reducible apply Ext.drew) | ((with_reducible apply Ext.set); (case hb => (first | omega | (simp; omega))))))
  have BF : Blk u (w.heap.size + 1 + 1) (ratsV rs rm false rk) 27 := by rw [hu]; exact (by repeat (first | (with_reducible assumption) | ((with_reducible refine Blk.new _ _ _ ?_); (simp; done)) | (with_reducible apply Blk.alloc) | (with_reducible apply Blk.grow) | (with_reducible apply Blk.drew) | (with_reducible apply Blk.set10) | (with_reducible apply Blk.set5) | (with_reducible apply Blk.set4) | (with_reducible apply Blk.tail4) | (with_reducible apply Blk.set2) | (with_reducible apply Blk.set1) | ((with_reducible apply Blk.setOther); (case hne => omega))))
  have BG : Blk u (w.heap.size + 1 + 1 + 1) #[.int .i64 0] 37 := by rw [hu]; exact (by repeat (first | (with_reducible assumption) | ((with_reducible refine Blk.new _ _ _ ?_); (simp; done)) | (with_reducible apply Blk.alloc) | (with_reducible apply Blk.grow) | (with_reducible apply Blk.drew) | (with_reducible apply Blk.set10) | (with_reducible apply Blk.set5) | (with_reducible apply Blk.set4) | (with_reducible apply Blk.tail4) | (with_reducible apply Blk.set2) | (with_reducible apply Blk.set1) | ((with_reducible apply Blk.setOther); (case hne => omega))))
  clear hu
  have lBF := BF.lt; have cBF := BF.cell; have fBF := BF.frozen; have lBG := BG.lt; have cBG := BG.cell; have fBG := BG.frozen; clear BF BG
  exact leaves_ratio (.tuple #[ratV rs rm false rk, .int .i64 0]) (by simp [results, Tryz.results24, go_sem, cBF, cBG]) ⟨rfl, hy⟩
set_option maxHeartbeats 4000000 in
theorem Div_over (r1 r2 : Rt) (w : World) (hT : Tab w) (h1 : r1.ok = true) (h2 : r2.ok = true) (h0 : r2.m ≠ 0) (cm : ∀ w, Tab w → Calls Tryz.prog 50 #[sgnV (!(r1.s == r2.s)) (r1.m * r2.k), wideV (r1.k * r2.m)] w fun e w' => e = givesUp 110 ∧ Ext w w') :
    Calls Tryz.prog 24 #[r1.v, r2.v] w fun e w' => e = .returned (.tuple #[qZ, .int .i64 110]) ∧ Ext w w' := by
  have hmf : ∀ (fn : Fn) (first cap : Array Value) (w : World), (Instr.makeFunc fn first cap).run Tryz.prog w = .ok (.func fn first cap) w := fun _ _ _ _ => rfl
  have ca := all2_yes r1 r2 h1 h2
  have cs := sign_any r2.s r2.m r2.hm
  have hc : (sgn r2.s r2.m != 0) = true := by cases r2.s <;> simp [sgn, h0]
  have cn := product_any r1.s r2.t r1.m r2.k r1.hm r2.hk
  have cd := product_any r1.t r2.s r1.k r2.m r1.hk r2.hm
  clear h0
  generalize sgn r2.s r2.m = c at *
  generalize r1.m * r2.k = p1 at *
  generalize r1.k * r2.m = p3 at *
  obtain ⟨s1, m1, u1, k1, _, _⟩ := r1
  obtain ⟨s2, m2, u2, k2, _, _⟩ := r2
  go_enter_defers Tryz.func24, Tryz.ntmps24
  go_wp2_with (first
    | (go_at_call 60; refine (ca _ _ _ 27 ?_).mono ?_; (· exact (by repeat (first | (with_reducible assumption) | ((with_reducible refine Blk.new _ _ _ ?_); (simp; done)) | (with_reducible apply Blk.alloc) | (with_reducible apply Blk.grow) | (with_reducible apply Blk.drew) | (with_reducible apply Blk.set10) | (with_reducible apply Blk.set5) | (with_reducible apply Blk.set4) | (with_reducible apply Blk.tail4) | (with_reducible apply Blk.set2) | (with_reducible apply Blk.set1) | ((with_reducible apply Blk.setOther); (case hne => omega))))); rintro e w' ⟨rfl, d, rfl⟩)
    | (go_at_call 49; (with_reducible refine (cs _).mono ?_); rintro e w' ⟨rfl, d, rfl⟩)
    | (go_at_call 47; refine (rmust_yes _ _).mono ?_; rintro e w' ⟨rfl, rfl⟩))
  refine wp_rebase fun v hv => ?_
  have hx : Ext w v := by rw [hv]; exact (by repeat (first | (with_reducible exact Ext.refl _) | (with_reducible assumption) | (with_reducible apply Ext.grow) | (with_reducible apply Ext.alloc) | (with_reducible apply Ext.drew) | ((with_reducible apply Ext.set); (case hb => (first | omega | (simp; omega))))))
  have hTv := hT.ext hx
  have BA : Blk v w.heap.size (ratsV s1 m1 u1 k1) 27 := by rw [hv]; exact (by repeat (first | (with_reducible assumption) | ((with_reducible refine Blk.new _ _ _ ?_); (simp; done)) | (with_reducible apply Blk.alloc) | (with_reducible apply Blk.grow) | (with_reducible apply Blk.drew) | (with_reducible apply Blk.set10) | (with_reducible apply Blk.set5) | (with_reducible apply Blk.set4) | (with_reducible apply Blk.tail4) | (with_reducible apply Blk.set2) | (with_reducible apply Blk.set1) | ((with_reducible apply Blk.setOther); (case hne => omega))))
  have BB : Blk v (w.heap.size + 1) (ratsV s2 m2 u2 k2) 27 := by rw [hv]; exact (by repeat (first | (with_reducible assumption) | ((with_reducible refine Blk.new _ _ _ ?_); (simp; done)) | (with_reducible apply Blk.alloc) | (with_reducible apply Blk.grow) | (with_reducible apply Blk.drew) | (with_reducible apply Blk.set10) | (with_reducible apply Blk.set5) | (with_reducible apply Blk.set4) | (with_reducible apply Blk.tail4) | (with_reducible apply Blk.set2) | (with_reducible apply Blk.set1) | ((with_reducible apply Blk.setOther); (case hne => omega))))
  have BO : Blk v (w.heap.size + 1 + 1) #[.bool false, .int .u64 0, .int .u64 0, .int .u64 0, .int .u64 0, .bool false, .int .u64 0, .int .u64 0, .int .u64 0, .int .u64 0] 27 := by rw [hv]; exact (by repeat (first | (with_reducible assumption) | ((with_reducible refine Blk.new _ _ _ ?_); (simp; done)) | (with_reducible apply Blk.alloc) | (with_reducible apply Blk.grow) | (with_reducible apply Blk.drew) | (with_reducible apply Blk.set10) | (with_reducible apply Blk.set5) | (with_reducible apply Blk.set4) | (with_reducible apply Blk.tail4) | (with_reducible apply Blk.set2) | (with_reducible apply Blk.set1) | ((with_reducible apply Blk.setOther); (case hne => omega))))
  have BE : Blk v (w.heap.size + 1 + 1 + 1) #[.int .i64 0] 37 := by rw [hv]; exact (by repeat (first | (with_reducible assumption) | ((with_reducible refine Blk.new _ _ _ ?_); (simp; done)) | (with_reducible apply Blk.alloc) | (with_reducible apply Blk.grow) | (with_reducible apply Blk.drew) | (with_reducible apply Blk.set10) | (with_reducible apply Blk.set5) | (with_reducible apply Blk.set4) | (with_reducible apply Blk.tail4) | (with_reducible apply Blk.set2) | (with_reducible apply Blk.set1) | ((with_reducible apply Blk.setOther); (case hne => omega))))
  clear hv
  have lBA := BA.lt; have cBA := BA.cell; have fBA := BA.frozen; have lBB := BB.lt; have cBB := BB.cell; have fBB := BB.frozen; have lBO := BO.lt; have cBO := BO.cell; have fBO := BO.frozen; have lBE := BE.lt; have cBE := BE.cell; have fBE := BE.frozen
  (first | refine wp_region_ksl' [0, 1, 2, 3, 4, 5, 6, 7, 8, 9, 10, 11, 12, 13, 14, 15, 16, 17] 18 _ [{ v := .iface 37 (.int .i64 110), recovered := false }] [.p, .r, .p, .r, .r, .p, .p, .r, .p, .p, .r, .p, .p, .p, .r, .p, .r, .r, .p, .p, .p] (by kernel_rfl) (by kernel_rfl) rfl ?hQ ?hS | refine wp_region_ksl [0, 1, 2, 3, 4, 5, 6, 7, 8, 9, 10, 11, 12, 13, 14, 15, 16, 17] 18 _ [{ v := .iface 37 (.int .i64 110), recovered := false }] [.p, .r, .p, .r, .r, .p, .p, .r, .p, .p, .r, .p, .p, .p, .r, .p, .r, .r, .p, .p, .p] (by kernel_rfl) (by kernel_rfl) rfl ?hQ ?hS); (case hS => (simp only [List.map_cons, List.map_nil, List.getD_cons_succ, List.getD_cons_zero]; (repeat (first | (refine wpK_p rfl (fun K hK => ?_); go_simp; refine hK _ _ ?_; clear hK K) | (refine wpK_r rfl (fun K hK => ?_); go_simp; refine hK _ _ ?_; clear hK K) | (refine wpK_r rfl (fun K hK => ?_); go_simp; apply Exists.intro; refine ⟨fun d => ?_, hK _ _ ?_⟩; (first | (with_reducible exact Calls.calm (cn _)) | (with_reducible exact Calls.calm (cd _))); clear hK K))); refine wpK_nil ?_; refine ⟨rfl, fun d => ?_⟩; go_simp; refine ⟨_, _, ⟨rfl, rfl⟩, ?_⟩; (with_reducible exact Calls.calmP (cm _ (hTv.grow _))))); intro a d hd hkept
  have e4 := hkept 4 (by kernel_rfl)
  have e5 := hkept 5 (by kernel_rfl)
  simp at e4 e5
  show Leaves _ _ a.tmps _ a.defers _ _
  rw [hd]
  clear hkept hd
  replace BE := BE.grow d
  replace BO := BO.grow d
  clear lBE cBE fBE lBO cBO fBO
  refine leaves_ratio_pan 0 110 65 _ (BE.cell 0) (BE.frozen 0) (fun _ _ => by kernel_rfl) ?_
  refine (Div_clear _ _ _ _ _ _ _ _ _ _ _ _ (BO.setOther (by omega))).mono ?_
  rintro e' z ⟨rfl, hz⟩
  have hy : Ext w z := by rw [hz]; exact (by repeat (first | (with_reducible exact Ext.refl _) | (with_reducible assumption) | (with_reducible apply Ext.grow) | (with_reducible apply Ext.alloc) | (with_reducible apply Ext.drew) | ((with_reducible apply Ext.set); (case hb => (first | omega | (simp; omega))))))
  have BF : Blk z (w.heap.size + 1 + 1) #[.bool false, .int .u64 0, .int .u64 0, .int .u64 0, .int .u64 0, .bool false, .int .u64 0, .int .u64 0, .int .u64 0, .int .u64 0] 27 := by rw [hz]; exact (by repeat (first | (with_reducible assumption) | ((with_reducible refine Blk.new _ _ _ ?_); (simp; done)) | (with_reducible apply Blk.alloc) | (with_reducible apply Blk.grow) | (with_reducible apply Blk.drew) | (with_reducible apply Blk.set10) | (with_reducible apply Blk.set5) | (with_reducible apply Blk.set4) | (with_reducible apply Blk.tail4) | (with_reducible apply Blk.set2) | (with_reducible apply Blk.set1) | ((with_reducible apply Blk.setOther); (case hne => omega))))
  have BG : Blk z (w.heap.size + 1 + 1 + 1) #[.int .i64 110] 37 := by rw [hz]; exact (by repeat (first | (with_reducible assumption) | ((with_reducible refine Blk.new _ _ _ ?_); (simp; done)) | (with_reducible apply Blk.alloc) | (with_reducible apply Blk.grow) | (with_reducible apply Blk.drew) | (with_reducible apply Blk.set10) | (with_reducible apply Blk.set5) | (with_reducible apply Blk.set4) | (with_reducible apply Blk.tail4) | (with_reducible apply Blk.set2) | (with_reducible apply Blk.set1) | ((with_reducible apply Blk.setOther); (case hne => omega))))
  clear hz
  have lBF := BF.lt; have cBF := BF.cell; have fBF := BF.frozen; have lBG := BG.lt; have cBG := BG.cell; have fBG := BG.frozen; clear BF BG
  exact ⟨rfl, .tuple #[qZ, .int .i64 110], by simp [results, Tryz.results24, go_sem, e4, e5, cBF, cBG], rfl, hy⟩
set_option maxHeartbeats 4000000 in
theorem Div_bad (r1 r2 : Rt) (w : World) (hT : Tab w) (h : (r1.ok && r2.ok) = false) :
    Calls Tryz.prog 24 #[r1.v, r2.v] w fun e w' => e = .returned (.tuple #[qZ, .int .i64 2]) ∧ Ext w w' := by
  have hmf : ∀ (fn : Fn) (first cap : Array Value) (w : World), (Instr.makeFunc fn first cap).run Tryz.prog w = .ok (.func fn first cap) w := fun _ _ _ _ => rfl
  have ca := all2_no r1 r2 h
  clear h
  obtain ⟨s1, m1, u1, k1, _, _⟩ := r1
  obtain ⟨s2, m2, u2, k2, _, _⟩ := r2
  go_enter_defers Tryz.func24, Tryz.ntmps24
  go_wp2_with (go_at_call 60; refine (ca _ _ _ 27 ?_).mono ?_; (· exact (by repeat (first | (with_reducible assumption) | ((with_reducible refine Blk.new _ _ _ ?_); (simp; done)) | (with_reducible apply Blk.alloc) | (with_reducible apply Blk.grow) | (with_reducible apply Blk.drew) | (with_reducible apply Blk.set10) | (with_reducible apply Blk.set5) | (with_reducible apply Blk.set4) | (with_reducible apply Blk.tail4) | (with_reducible apply Blk.set2) | (with_reducible apply Blk.set1) | ((with_reducible apply Blk.setOther); (case hne => omega))))); rintro e w' ⟨rfl, d, rfl⟩)
  refine lv_rebase fun v hv => ?_
  have hx : Ext w v := by rw [hv]; exact (by repeat (first | (with_reducible exact Ext.refl _) | (with_reducible assumption) | (with_reducible apply Ext.grow) | (with_reducible apply Ext.alloc) | (with_reducible apply Ext.drew) | ((with_reducible apply Ext.set); (case hb => (first | omega | (simp; omega))))))
  have BO : Blk v (w.heap.size + 1 + 1) #[.bool false, .int .u64 0, .int .u64 0, .int .u64 0, .int .u64 0, .bool false, .int .u64 0, .int .u64 0, .int .u64 0, .int .u64 0] 27 := by rw [hv]; exact (by repeat (first | (with_reducible assumption) | ((with_reducible refine Blk.new _ _ _ ?_); (simp; done)) | (with_reducible apply Blk.alloc) | (with_reducible apply Blk.grow) | (with_reducible apply Blk.drew) | (with_reducible apply Blk.set10) | (with_reducible apply Blk.set5) | (with_reducible apply Blk.set4) | (with_reducible apply Blk.tail4) | (with_reducible apply Blk.set2) | (with_reducible apply Blk.set1) | ((with_reducible apply Blk.setOther); (case hne => omega))))
  have BE : Blk v (w.heap.size + 1 + 1 + 1) #[.int .i64 0] 37 := by rw [hv]; exact (by repeat (first | (with_reducible assumption) | ((with_reducible refine Blk.new _ _ _ ?_); (simp; done)) | (with_reducible apply Blk.alloc) | (with_reducible apply Blk.grow) | (with_reducible apply Blk.drew) | (with_reducible apply Blk.set10) | (with_reducible apply Blk.set5) | (with_reducible apply Blk.set4) | (with_reducible apply Blk.tail4) | (with_reducible apply Blk.set2) | (with_reducible apply Blk.set1) | ((with_reducible apply Blk.setOther); (case hne => omega))))
  clear hv
  refine leaves_ratio_pan 0 2 65 _ (BE.cell 0) (BE.frozen 0) (fun _ _ => by kernel_rfl) ?_
  refine (Div_clear _ _ _ _ _ _ _ _ _ _ _ _ (BO.setOther (by omega))).mono ?_
  rintro e' z ⟨rfl, hz⟩
  have hy : Ext w z := by rw [hz]; exact (by repeat (first | (with_reducible exact Ext.refl _) | (with_reducible assumption) | (with_reducible apply Ext.grow) | (with_reducible apply Ext.alloc) | (with_reducible apply Ext.drew) | ((with_reducible apply Ext.set); (case hb => (first | omega | (simp; omega))))))
  have BF : Blk z (w.heap.size + 1 + 1) #[.bool false, .int .u64 0, .int .u64 0, .int .u64 0, .int .u64 0, .bool false, .int .u64 0, .int .u64 0, .int .u64 0, .int .u64 0] 27 := by rw [hz]; exact (by repeat (first | (with_reducible assumption) | ((with_reducible refine Blk.new _ _ _ ?_); (simp; done)) | (with_reducible apply Blk.alloc) | (with_reducible apply Blk.grow) | (with_reducible apply Blk.drew) | (with_reducible apply Blk.set10) | (with_reducible apply Blk.set5) | (with_reducible apply Blk.set4) | (with_reducible apply Blk.tail4) | (with_reducible apply Blk.set2) | (with_reducible apply Blk.set1) | ((with_reducible apply Blk.setOther); (case hne => omega))))
  have BG : Blk z (w.heap.size + 1 + 1 + 1) #[.int .i64 2] 37 := by rw [hz]; exact (by repeat (first | (with_reducible assumption) | ((with_reducible refine Blk.new _ _ _ ?_); (simp; done)) | (with_reducible apply Blk.alloc) | (with_reducible apply Blk.grow) | (with_reducible apply Blk.drew) | (with_reducible apply Blk.set10) | (with_reducible apply Blk.set5) | (with_reducible apply Blk.set4) | (with_reducible apply Blk.tail4) | (with_reducible apply Blk.set2) | (with_reducible apply Blk.set1) | ((with_reducible apply Blk.setOther); (case hne => omega))))
  clear hz
  have lBF := BF.lt; have cBF := BF.cell; have fBF := BF.frozen; have lBG := BG.lt; have cBG := BG.cell; have fBG := BG.frozen; clear BF BG
  exact ⟨rfl, .tuple #[qZ, .int .i64 2], by simp [results, Tryz.results24, go_sem, cBF, cBG], rfl, hy⟩
set_option maxHeartbeats 4000000 in
theorem Div_nought (r1 r2 : Rt) (w : World) (hT : Tab w) (h1 : r1.ok = true) (h2 : r2.ok = true) (h0 : r2.m = 0) :
    Calls Tryz.prog 24 #[r1.v, r2.v] w fun e w' => e = .returned (.tuple #[qZ, .int .i64 2]) ∧ Ext w w' := by
  have hmf : ∀ (fn : Fn) (first cap : Array Value) (w : World), (Instr.makeFunc fn first cap).run Tryz.prog w = .ok (.func fn first cap) w := fun _ _ _ _ => rfl
  have ca := all2_yes r1 r2 h1 h2
  have cs := sign_any r2.s r2.m r2.hm
  rw [show sgn r2.s r2.m = 0 by simp [sgn, h0]] at cs
  clear h0 hT
  obtain ⟨s1, m1, u1, k1, _, _⟩ := r1
  obtain ⟨s2, m2, u2, k2, _, _⟩ := r2
  go_enter_defers Tryz.func24, Tryz.ntmps24
  go_wp2_with (first
    | (go_at_call 60; refine (ca _ _ _ 27 ?_).mono ?_; (· exact (by repeat (first | (with_reducible assumption) | ((with_reducible refine Blk.new _ _ _ ?_); (simp; done)) | (with_reducible apply Blk.alloc) | (with_reducible apply Blk.grow) | (with_reducible apply Blk.drew) | (with_reducible apply Blk.set10) | (with_reducible apply Blk.set5) | (with_reducible apply Blk.set4) | (with_reducible apply Blk.tail4) | (with_reducible apply Blk.set2) | (with_reducible apply Blk.set1) | ((with_reducible apply Blk.setOther); (case hne => omega))))); rintro e w' ⟨rfl, d, rfl⟩)
    | (go_at_call 49; (with_reducible refine (cs _).mono ?_); rintro e w' ⟨rfl, d, rfl⟩)
    | (go_at_call 47; refine (rmust_no _ _).mono ?_; rintro e w' ⟨rfl, rfl⟩))
  refine lv_rebase fun v hv => ?_
  have hx : Ext w v := by rw [hv]; exact (by repeat (first | (with_reducible exact Ext.refl _) | (with_reducible assumption) | (with_reducible apply Ext.grow) | (with_reducible apply Ext.alloc) | (with_reducible apply Ext.drew) | ((with_reducible apply Ext.set); (case hb => (first | omega | (simp; omega))))))
  have BO : Blk v (w.heap.size + 1 + 1) #[.bool false, .int .u64 0, .int .u64 0, .int .u64 0, .int .u64 0, .bool false, .int .u64 0, .int .u64 0, .int .u64 0, .int .u64 0] 27 := by rw [hv]; exact (by repeat (first | (with_reducible assumption) | ((with_reducible refine Blk.new _ _ _ ?_); (simp; done)) | (with_reducible apply Blk.alloc) | (with_reducible apply Blk.grow) | (with_reducible apply Blk.drew) | (with_reducible apply Blk.set10) | (with_reducible apply Blk.set5) | (with_reducible apply Blk.set4) | (with_reducible apply Blk.tail4) | (with_reducible apply Blk.set2) | (with_reducible apply Blk.set1) | ((with_reducible apply Blk.setOther); (case hne => omega))))
  have BE : Blk v (w.heap.size + 1 + 1 + 1) #[.int .i64 0] 37 := by rw [hv]; exact (by repeat (first | (with_reducible assumption) | ((with_reducible refine Blk.new _ _ _ ?_); (simp; done)) | (with_reducible apply Blk.alloc) | (with_reducible apply Blk.grow) | (with_reducible apply Blk.drew) | (with_reducible apply Blk.set10) | (with_reducible apply Blk.set5) | (with_reducible apply Blk.set4) | (with_reducible apply Blk.tail4) | (with_reducible apply Blk.set2) | (with_reducible apply Blk.set1) | ((with_reducible apply Blk.setOther); (case hne => omega))))
  clear hv
  refine leaves_ratio_pan 0 2 65 _ (BE.cell 0) (BE.frozen 0) (fun _ _ => by kernel_rfl) ?_
  refine (Div_clear _ _ _ _ _ _ _ _ _ _ _ _ (BO.setOther (by omega))).mono ?_
  rintro e' z ⟨rfl, hz⟩
  have hy : Ext w z := by rw [hz]; exact (by repeat (first | (with_reducible exact Ext.refl _) | (with_reducible assumption) | (with_reducible apply Ext.grow) | (with_reducible apply Ext.alloc) | (with_reducible apply Ext.drew) | ((with_reducible apply Ext.set); (case hb => (first | omega | (simp; omega))))))
  have BF : Blk z (w.heap.size + 1 + 1) #[.bool false, .int .u64 0, .int .u64 0, .int .u64 0, .int .u64 0, .bool false, .int .u64 0, .int .u64 0, .int .u64 0, .int .u64 0] 27 := by rw [hz]; exact (by repeat (first | (with_reducible assumption) | ((with_reducible refine Blk.new _ _ _ ?_); (simp; done)) | (with_reducible apply Blk.alloc) | (with_reducible apply Blk.grow) | (with_reducible apply Blk.drew) | (with_reducible apply Blk.set10) | (with_reducible apply Blk.set5) | (with_reducible apply Blk.set4) | (with_reducible apply Blk.tail4) | (with_reducible apply Blk.set2) | (with_reducible apply Blk.set1) | ((with_reducible apply Blk.setOther); (case hne => omega))))
  have BG : Blk z (w.heap.size + 1 + 1 + 1) #[.int .i64 2] 37 := by rw [hz]; exact (by repeat (first | (with_reducible assumption) | ((with_reducible refine Blk.new _ _ _ ?_); (simp; done)) | (with_reducible apply Blk.alloc) | (with_reducible apply Blk.grow) | (with_reducible apply Blk.drew) | (with_reducible apply Blk.set10) | (with_reducible apply Blk.set5) | (with_reducible apply Blk.set4) | (with_reducible apply Blk.tail4) | (with_reducible apply Blk.set2) | (with_reducible apply Blk.set1) | ((with_reducible apply Blk.setOther); (case hne => omega))))
  clear hz
  have lBF := BF.lt; have cBF := BF.cell; have fBF := BF.frozen; have lBG := BG.lt; have cBG := BG.cell; have fBG := BG.frozen; clear BF BG
  exact ⟨rfl, .tuple #[qZ, .int .i64 2], by simp [results, Tryz.results24, go_sem, cBF, cBG], rfl, hy⟩
end Go.Proofs.YtjkchmegnfbfoaaGreatDoor

namespace Go.Proofs.YtjkchmegnfbfoaaGreatDoor
open Go Go.RowKit
set_option linter.unusedSimpArgs false
set_option linter.unusedVariables false
set_option maxRecDepth 100000

theorem Make_clear (b : Nat) (W : World) (y0 y1 y2 y3 y4 y5 y6 y7 y8 y9 : Value) (h : Blk W b #[y0, y1, y2, y3, y4, y5, y6, y7, y8, y9] 27) :
    Calls Tryz.prog 46 #[.pointer (some ⟨b, 0, none⟩)] W fun e w' => e = .returned (.tuple #[]) ∧ w' = ((((((((((W.setCell ⟨b, 0, none⟩ (.bool false)).setCell ⟨b, 1, none⟩ (.int .u64 0)).setCell ⟨b, 2, none⟩ (.int .u64 0)).setCell ⟨b, 3, none⟩ (.int .u64 0)).setCell ⟨b, 4, none⟩ (.int .u64 0)).setCell ⟨b, 5, none⟩ (.bool false)).setCell ⟨b, 6, none⟩ (.int .u64 0)).setCell ⟨b, 7, none⟩ (.int .u64 0)).setCell ⟨b, 8, none⟩ (.int .u64 0)).setCell ⟨b, 9, none⟩ (.int .u64 0)) := by
  have lh := h.lt; have ch := h.cell; have fh := h.frozen; clear h
  go_enter Tryz.func46, Tryz.ntmps46
  go_wp2
  go_end0
  exact ⟨rfl, rfl⟩
set_option maxHeartbeats 4000000 in
theorem Make_walk (s1 : Bool) (m1 : Nat) (s2 : Bool) (m2 : Nat) (h1 : m1 < B4) (h2 : m2 < B4) (w : World) (hT : Tab w) (g1 : badI s1 m1 = false) (g2 : badI s2 m2 = false) (h0 : m2 ≠ 0) (rs : Bool) (rm rk : Nat) (cm : ∀ w, Tab w → Calls Tryz.prog 50 #[sgnV (!(s1 == s2)) m1, wideV m2] w fun e w' => e = .returned (ratV rs rm false rk) ∧ Ext w w') :
    Calls Tryz.prog 11 #[intV s1 m1, intV s2 m2] w fun e w' => e = .returned (.tuple #[ratV rs rm false rk, .int .i64 0]) ∧ Ext w w' := by
  have hmf : ∀ (fn : Fn) (first cap : Array Value) (w : World), (Instr.makeFunc fn first cap).run Tryz.prog w = .ok (.func fn first cap) w := fun _ _ _ _ => rfl
  have c1 := check_yes s1 m1 h1 g1
  have c2 := check_yes s2 m2 h2 g2
  have cs := sign_any s2 m2 h2
  have hc : (sgn s2 m2 != 0) = true := by cases s2 <;> simp [sgn, h0]
  have p1 := product_any s1 false m1 1 h1 (by decide)
  have p2 := product_any s2 false m2 1 h2 (by decide)
  simp only [Nat.mul_one] at p1 p2
  clear h0 g1 g2 h1 h2
  generalize sgn s2 m2 = c at *
  go_enter_defers Tryz.func11, Tryz.ntmps11
  go_wp2_with (first
    | (go_at_call 48; (first | (with_reducible refine (c1 _).mono ?_) | (with_reducible refine (c2 _).mono ?_)); rintro e w' ⟨rfl, d, rfl⟩)
    | (go_at_call 49; (with_reducible refine (cs _).mono ?_); rintro e w' ⟨rfl, d, rfl⟩)
    | (go_at_call 47; refine (rmust_yes _ _).mono ?_; rintro e w' ⟨rfl, rfl⟩))
  refine wp_rebase fun v hv => ?_
  have hx : Ext w v := by rw [hv]; exact (by repeat (first | (with_reducible exact Ext.refl _) | (with_reducible assumption) | (with_reducible apply Ext.grow) | (with_reducible apply Ext.alloc) | (with_reducible apply Ext.drew) | ((with_reducible apply Ext.set); (case hb => (first | omega | (simp; omega))))))
  have hTv := hT.ext hx
  have BA : Blk v w.heap.size (ints1 s1 m1) 25 := by rw [hv]; exact (by repeat (first | (with_reducible assumption) | ((with_reducible refine Blk.new _ _ _ ?_); (simp; done)) | (with_reducible apply Blk.alloc) | (with_reducible apply Blk.grow) | (with_reducible apply Blk.drew) | (with_reducible apply Blk.set10) | (with_reducible apply Blk.set5) | (with_reducible apply Blk.set4) | (with_reducible apply Blk.tail4) | (with_reducible apply Blk.set2) | (with_reducible apply Blk.set1) | ((with_reducible apply Blk.setOther); (case hne => omega))))
  have BB : Blk v (w.heap.size + 1) (ints1 s2 m2) 25 := by rw [hv]; exact (by repeat (first | (with_reducible assumption) | ((with_reducible refine Blk.new _ _ _ ?_); (simp; done)) | (with_reducible apply Blk.alloc) | (with_reducible apply Blk.grow) | (with_reducible apply Blk.drew) | (with_reducible apply Blk.set10) | (with_reducible apply Blk.set5) | (with_reducible apply Blk.set4) | (with_reducible apply Blk.tail4) | (with_reducible apply Blk.set2) | (with_reducible apply Blk.set1) | ((with_reducible apply Blk.setOther); (case hne => omega))))
  have BO : Blk v (w.heap.size + 1 + 1) #[.bool false, .int .u64 0, .int .u64 0, .int .u64 0, .int .u64 0, .bool false, .int .u64 0, .int .u64 0, .int .u64 0, .int .u64 0] 27 := by rw [hv]; exact (by repeat (first | (with_reducible assumption) | ((with_reducible refine Blk.new _ _ _ ?_); (simp; done)) | (with_reducible apply Blk.alloc) | (with_reducible apply Blk.grow) | (with_reducible apply Blk.drew) | (with_reducible apply Blk.set10) | (with_reducible apply Blk.set5) | (with_reducible apply Blk.set4) | (with_reducible apply Blk.tail4) | (with_reducible apply Blk.set2) | (with_reducible apply Blk.set1) | ((with_reducible apply Blk.setOther); (case hne => omega))))
  have BE : Blk v (w.heap.size + 1 + 1 + 1) #[.int .i64 0] 37 := by rw [hv]; exact (by repeat (first | (with_reducible assumption) | ((with_reducible refine Blk.new _ _ _ ?_); (simp; done)) | (with_reducible apply Blk.alloc) | (with_reducible apply Blk.grow) | (with_reducible apply Blk.drew) | (with_reducible apply Blk.set10) | (with_reducible apply Blk.set5) | (with_reducible apply Blk.set4) | (with_reducible apply Blk.tail4) | (with_reducible apply Blk.set2) | (with_reducible apply Blk.set1) | ((with_reducible apply Blk.setOther); (case hne => omega))))
  clear hv
  have lBA := BA.lt; have cBA := BA.cell; have fBA := BA.frozen; have lBB := BB.lt; have cBB := BB.cell; have fBB := BB.frozen; have lBO := BO.lt; have cBO := BO.cell; have fBO := BO.frozen; have lBE := BE.lt; have cBE := BE.cell; have fBE := BE.frozen
  (first | refine wp_region_k' [.r, .r, .r, .p, .r, .p, .r, .p, .p, .r, .r, .r, .r, .w, .w] (by kernel_rfl) (by kernel_rfl) ?_ | refine wp_region_k [.r, .r, .r, .p, .r, .p, .r, .p, .p, .r, .r, .r, .r, .w, .w] (by kernel_rfl) (by kernel_rfl) ?_); (repeat (first | (refine wpK_p rfl (fun K hK => ?_); go_simp; refine hK _ _ ?_; clear hK K) | (refine wpK_r rfl (fun K hK => ?_); go_simp; refine hK _ _ ?_; clear hK K) | (refine wpK_w rfl (fun K hK => ?_); go_simp; refine hK _ _ ?_; clear hK K) | (refine wpK_r rfl (fun K hK => ?_); go_simp; apply Exists.intro; refine ⟨fun d => ?_, hK _ _ ?_⟩; (first | (with_reducible exact Calls.calm (one_any _)) | (with_reducible exact Calls.calm (p1 _)) | (with_reducible exact Calls.calm (p2 _)) | (with_reducible exact Calls.calm (cm _ (hTv.grow _)))); clear hK K))); refine wpK_nil ?_; intro d
  go_wp2
  refine lv_rebase fun u hu => ?_
  have hy : Ext w u := by rw [hu]; exact (by repeat (first | (with_reducible exact Ext.refl _) | (with_reducible assumption) | (with_reducible apply Ext.grow) | (with_reducible apply Ext.alloc) | (with_reducible apply Ext.drew) | ((with_reducible apply Ext.set); (case hb => (first | omega | (simp; omega))))))
  have BF : Blk u (w.heap.size + 1 + 1) (ratsV rs rm false rk) 27 := by rw [hu]; exact (by repeat (first | (with_reducible assumption) | ((with_reducible refine Blk.new _ _ _ ?_); (simp; done)) | (with_reducible apply Blk.alloc) | (with_reducible apply Blk.grow) | (with_reducible apply Blk.drew) | (with_reducible apply Blk.set10) | (with_reducible apply Blk.set5) | (with_reducible apply Blk.set4) | (with_reducible apply Blk.tail4) | (with_reducible apply Blk.set2) | (with_reducible apply Blk.set1) | ((with_reducible apply Blk.setOther); (case hne => omega))))
  have BG : Blk u (w.heap.size + 1 + 1 + 1) #[.int .i64 0] 37 := by rw [hu]; exact (by repeat (first | (with_reducible assumption) | ((with_reducible refine Blk.new _ _ _ ?_); (simp; done)) | (with_reducible apply Blk.alloc) | (with_reducible apply Blk.grow) | (with_reducible apply Blk.drew) | (with_reducible apply Blk.set10) | (with_reducible apply Blk.set5) | (with_reducible apply Blk.set4) | (with_reducible apply Blk.tail4) | (with_reducible apply Blk.set2) | (with_reducible apply Blk.set1) | ((with_reducible apply Blk.setOther); (case hne => omega))))
  clear hu
  have lBF := BF.lt; have cBF := BF.cell; have fBF := BF.frozen; have lBG := BG.lt; have cBG := BG.cell; have fBG := BG.frozen; clear BF BG
  exact leaves_ratio (.tuple #[ratV rs rm false rk, .int .i64 0]) (by simp [results, Tryz.results11, go_sem, cBF, cBG]) ⟨rfl, hy⟩
set_option maxHeartbeats 4000000 in
theorem Make_over (s1 : Bool) (m1 : Nat) (s2 : Bool) (m2 : Nat) (h1 : m1 < B4) (h2 : m2 < B4) (w : World) (hT : Tab w) (g1 : badI s1 m1 = false) (g2 : badI s2 m2 = false) (h0 : m2 ≠ 0) (cm : ∀ w, Tab w → Calls Tryz.prog 50 #[sgnV (!(s1 == s2)) m1, wideV m2] w fun e w' => e = givesUp 110 ∧ Ext w w') :
    Calls Tryz.prog 11 #[intV s1 m1, intV s2 m2] w fun e w' => e = .returned (.tuple #[qZ, .int .i64 110]) ∧ Ext w w' := by
  have hmf : ∀ (fn : Fn) (first cap : Array Value) (w : World), (Instr.makeFunc fn first cap).run Tryz.prog w = .ok (.func fn first cap) w := fun _ _ _ _ => rfl
  have c1 := check_yes s1 m1 h1 g1
  have c2 := check_yes s2 m2 h2 g2
  have cs := sign_any s2 m2 h2
  have hc : (sgn s2 m2 != 0) = true := by cases s2 <;> simp [sgn, h0]
  have p1 := product_any s1 false m1 1 h1 (by decide)
  have p2 := product_any s2 false m2 1 h2 (by decide)
  simp only [Nat.mul_one] at p1 p2
  clear h0 g1 g2 h1 h2
  generalize sgn s2 m2 = c at *
  go_enter_defers Tryz.func11, Tryz.ntmps11
  go_wp2_with (first
    | (go_at_call 48; (first | (with_reducible refine (c1 _).mono ?_) | (with_reducible refine (c2 _).mono ?_)); rintro e w' ⟨rfl, d, rfl⟩)
    | (go_at_call 49; (with_reducible refine (cs _).mono ?_); rintro e w' ⟨rfl, d, rfl⟩)
    | (go_at_call 47; refine (rmust_yes _ _).mono ?_; rintro e w' ⟨rfl, rfl⟩))
  refine wp_rebase fun v hv => ?_
  have hx : Ext w v := by rw [hv]; exact (by repeat (first | (with_reducible exact Ext.refl _) | (with_reducible assumption) | (with_reducible apply Ext.grow) | (with_reducible apply Ext.alloc) | (with_reducible apply Ext.drew) | ((with_reducible apply Ext.set); (case hb => (first | omega | (simp; omega))))))
  have hTv := hT.ext hx
  have BA : Blk v w.heap.size (ints1 s1 m1) 25 := by rw [hv]; exact (by repeat (first | (with_reducible assumption) | ((with_reducible refine Blk.new _ _ _ ?_); (simp; done)) | (with_reducible apply Blk.alloc) | (with_reducible apply Blk.grow) | (with_reducible apply Blk.drew) | (with_reducible apply Blk.set10) | (with_reducible apply Blk.set5) | (with_reducible apply Blk.set4) | (with_reducible apply Blk.tail4) | (with_reducible apply Blk.set2) | (with_reducible apply Blk.set1) | ((with_reducible apply Blk.setOther); (case hne => omega))))
  have BB : Blk v (w.heap.size + 1) (ints1 s2 m2) 25 := by rw [hv]; exact (by repeat (first | (with_reducible assumption) | ((with_reducible refine Blk.new _ _ _ ?_); (simp; done)) | (with_reducible apply Blk.alloc) | (with_reducible apply Blk.grow) | (with_reducible apply Blk.drew) | (with_reducible apply Blk.set10) | (with_reducible apply Blk.set5) | (with_reducible apply Blk.set4) | (with_reducible apply Blk.tail4) | (with_reducible apply Blk.set2) | (with_reducible apply Blk.set1) | ((with_reducible apply Blk.setOther); (case hne => omega))))
  have BO : Blk v (w.heap.size + 1 + 1) #[.bool false, .int .u64 0, .int .u64 0, .int .u64 0, .int .u64 0, .bool false, .int .u64 0, .int .u64 0, .int .u64 0, .int .u64 0] 27 := by rw [hv]; exact (by repeat (first | (with_reducible assumption) | ((with_reducible refine Blk.new _ _ _ ?_); (simp; done)) | (with_reducible apply Blk.alloc) | (with_reducible apply Blk.grow) | (with_reducible apply Blk.drew) | (with_reducible apply Blk.set10) | (with_reducible apply Blk.set5) | (with_reducible apply Blk.set4) | (with_reducible apply Blk.tail4) | (with_reducible apply Blk.set2) | (with_reducible apply Blk.set1) | ((with_reducible apply Blk.setOther); (case hne => omega))))
  have BE : Blk v (w.heap.size + 1 + 1 + 1) #[.int .i64 0] 37 := by rw [hv]; exact (by repeat (first | (with_reducible assumption) | ((with_reducible refine Blk.new _ _ _ ?_); (simp; done)) | (with_reducible apply Blk.alloc) | (with_reducible apply Blk.grow) | (with_reducible apply Blk.drew) | (with_reducible apply Blk.set10) | (with_reducible apply Blk.set5) | (with_reducible apply Blk.set4) | (with_reducible apply Blk.tail4) | (with_reducible apply Blk.set2) | (with_reducible apply Blk.set1) | ((with_reducible apply Blk.setOther); (case hne => omega))))
  clear hv
  have lBA := BA.lt; have cBA := BA.cell; have fBA := BA.frozen; have lBB := BB.lt; have cBB := BB.cell; have fBB := BB.frozen; have lBO := BO.lt; have cBO := BO.cell; have fBO := BO.frozen; have lBE := BE.lt; have cBE := BE.cell; have fBE := BE.frozen
  (first | refine wp_region_ksl' [0, 1, 2, 3, 4, 5, 6, 7, 8, 9, 10, 11] 12 _ [{ v := .iface 37 (.int .i64 110), recovered := false }] [.r, .r, .r, .p, .r, .p, .r, .p, .p, .r, .r, .r, .p, .p, .p] (by kernel_rfl) (by kernel_rfl) rfl ?hQ ?hS | refine wp_region_ksl [0, 1, 2, 3, 4, 5, 6, 7, 8, 9, 10, 11] 12 _ [{ v := .iface 37 (.int .i64 110), recovered := false }] [.r, .r, .r, .p, .r, .p, .r, .p, .p, .r, .r, .r, .p, .p, .p] (by kernel_rfl) (by kernel_rfl) rfl ?hQ ?hS); (case hS => (simp only [List.map_cons, List.map_nil, List.getD_cons_succ, List.getD_cons_zero]; (repeat (first | (refine wpK_p rfl (fun K hK => ?_); go_simp; refine hK _ _ ?_; clear hK K) | (refine wpK_r rfl (fun K hK => ?_); go_simp; refine hK _ _ ?_; clear hK K) | (refine wpK_r rfl (fun K hK => ?_); go_simp; apply Exists.intro; refine ⟨fun d => ?_, hK _ _ ?_⟩; (first | (with_reducible exact Calls.calm (one_any _)) | (with_reducible exact Calls.calm (p1 _)) | (with_reducible exact Calls.calm (p2 _))); clear hK K))); refine wpK_nil ?_; refine ⟨rfl, fun d => ?_⟩; go_simp; refine ⟨_, _, ⟨rfl, rfl⟩, ?_⟩; (with_reducible exact Calls.calmP (cm _ (hTv.grow _))))); intro a d hd hkept
  have e4 := hkept 4 (by kernel_rfl)
  have e5 := hkept 5 (by kernel_rfl)
  simp at e4 e5
  show Leaves _ _ a.tmps _ a.defers _ _
  rw [hd]
  clear hkept hd
  replace BE := BE.grow d
  replace BO := BO.grow d
  clear lBE cBE fBE lBO cBO fBO
  refine leaves_ratio_pan 0 110 46 _ (BE.cell 0) (BE.frozen 0) (fun _ _ => by kernel_rfl) ?_
  refine (Make_clear _ _ _ _ _ _ _ _ _ _ _ _ (BO.setOther (by omega))).mono ?_
  rintro e' z ⟨rfl, hz⟩
  have hy : Ext w z := by rw [hz]; exact (by repeat (first | (with_reducible exact Ext.refl _) | (with_reducible assumption) | (with_reducible apply Ext.grow) | (with_reducible apply Ext.alloc) | (with_reducible apply Ext.drew) | ((with_reducible apply Ext.set); (case hb => (first | omega | (simp; omega))))))
  have BF : Blk z (w.heap.size + 1 + 1) #[.bool false, .int .u64 0, .int .u64 0, .int .u64 0, .int .u64 0, .bool false, .int .u64 0, .int .u64 0, .int .u64 0, .int .u64 0] 27 := by rw [hz]; exact (by repeat (first | (with_reducible assumption) | ((with_reducible refine Blk.new _ _ _ ?_); (simp; done)) | (with_reducible apply Blk.alloc) | (with_reducible apply Blk.grow) | (with_reducible apply Blk.drew) | (with_reducible apply Blk.set10) | (with_reducible apply Blk.set5) | (with_reducible apply Blk.set4) | (with_reducible apply Blk.tail4) | (with_reducible apply Blk.set2) | (with_reducible apply Blk.set1) | ((with_reducible apply Blk.setOther); (case hne => omega))))
  have BG : Blk z (w.heap.size + 1 + 1 + 1) #[.int .i64 110] 37 := by rw [hz]; exact (by repeat (first | (with_reducible assumption) | ((with_reducible refine Blk.new _ _ _ ?_); (simp; done)) | (with_reducible apply Blk.alloc) | (with_reducible apply Blk.grow) | (with_reducible apply Blk.drew) | (with_reducible apply Blk.set10) | (with_reducible apply Blk.set5) | (with_reducible apply Blk.set4) | (with_reducible apply Blk.tail4) | (with_reducible apply Blk.set2) | (with_reducible apply Blk.set1) | ((with_reducible apply Blk.setOther); (case hne => omega))))
  clear hz
  have lBF := BF.lt; have cBF := BF.cell; have fBF := BF.frozen; have lBG := BG.lt; have cBG := BG.cell; have fBG := BG.frozen; clear BF BG
  exact ⟨rfl, .tuple #[qZ, .int .i64 110], by simp [results, Tryz.results11, go_sem, e4, e5, cBF, cBG], rfl, hy⟩
set_option maxHeartbeats 4000000 in
theorem Make_bad1 (s1 : Bool) (m1 : Nat) (s2 : Bool) (m2 : Nat) (h1 : m1 < B4) (h2 : m2 < B4) (w : World) (hT : Tab w) (g1 : badI s1 m1 = true) :
    Calls Tryz.prog 11 #[intV s1 m1, intV s2 m2] w fun e w' => e = .returned (.tuple #[qZ, .int .i64 2]) ∧ Ext w w' := by
  have hmf : ∀ (fn : Fn) (first cap : Array Value) (w : World), (Instr.makeFunc fn first cap).run Tryz.prog w = .ok (.func fn first cap) w := fun _ _ _ _ => rfl
  have c1 := check_no s1 m1 h1 g1
  clear h1 h2 g1 hT
  go_enter_defers Tryz.func11, Tryz.ntmps11
  go_wp2_with (first
    | (go_at_call 48; (first | (with_reducible refine (c1 _).mono ?_) | (with_reducible refine (c2 _).mono ?_)); rintro e w' ⟨rfl, d, rfl⟩)
    | (go_at_call 49; (with_reducible refine (cs _).mono ?_); rintro e w' ⟨rfl, d, rfl⟩)
    | (go_at_call 47; refine (rmust_no _ _).mono ?_; rintro e w' ⟨rfl, rfl⟩))
  refine lv_rebase fun v hv => ?_
  have hx : Ext w v := by rw [hv]; exact (by repeat (first | (with_reducible exact Ext.refl _) | (with_reducible assumption) | (with_reducible apply Ext.grow) | (with_reducible apply Ext.alloc) | (with_reducible apply Ext.drew) | ((with_reducible apply Ext.set); (case hb => (first | omega | (simp; omega))))))
  have BO : Blk v (w.heap.size + 1 + 1) #[.bool false, .int .u64 0, .int .u64 0, .int .u64 0, .int .u64 0, .bool false, .int .u64 0, .int .u64 0, .int .u64 0, .int .u64 0] 27 := by rw [hv]; exact (by repeat (first | (with_reducible assumption) | ((with_reducible refine Blk.new _ _ _ ?_); (simp; done)) | (with_reducible apply Blk.alloc) | (with_reducible apply Blk.grow) | (with_reducible apply Blk.drew) | (with_reducible apply Blk.set10) | (with_reducible apply Blk.set5) | (with_reducible apply Blk.set4) | (with_reducible apply Blk.tail4) | (with_reducible apply Blk.set2) | (with_reducible apply Blk.set1) | ((with_reducible apply Blk.setOther); (case hne => omega))))
  have BE : Blk v (w.heap.size + 1 + 1 + 1) #[.int .i64 0] 37 := by rw [hv]; exact (by repeat (first | (with_reducible assumption) | ((with_reducible refine Blk.new _ _ _ ?_); (simp; done)) | (with_reducible apply Blk.alloc) | (with_reducible apply Blk.grow) | (with_reducible apply Blk.drew) | (with_reducible apply Blk.set10) | (with_reducible apply Blk.set5) | (with_reducible apply Blk.set4) | (with_reducible apply Blk.tail4) | (with_reducible apply Blk.set2) | (with_reducible apply Blk.set1) | ((with_reducible apply Blk.setOther); (case hne => omega))))
  clear hv
  refine leaves_ratio_pan 0 2 46 _ (BE.cell 0) (BE.frozen 0) (fun _ _ => by kernel_rfl) ?_
  refine (Make_clear _ _ _ _ _ _ _ _ _ _ _ _ (BO.setOther (by omega))).mono ?_
  rintro e' z ⟨rfl, hz⟩
  have hy : Ext w z := by rw [hz]; exact (by repeat (first | (with_reducible exact Ext.refl _) | (with_reducible assumption) | (with_reducible apply Ext.grow) | (with_reducible apply Ext.alloc) | (with_reducible apply Ext.drew) | ((with_reducible apply Ext.set); (case hb => (first | omega | (simp; omega))))))
  have BF : Blk z (w.heap.size + 1 + 1) #[.bool false, .int .u64 0, .int .u64 0, .int .u64 0, .int .u64 0, .bool false, .int .u64 0, .int .u64 0, .int .u64 0, .int .u64 0] 27 := by rw [hz]; exact (by repeat (first | (with_reducible assumption) | ((with_reducible refine Blk.new _ _ _ ?_); (simp; done)) | (with_reducible apply Blk.alloc) | (with_reducible apply Blk.grow) | (with_reducible apply Blk.drew) | (with_reducible apply Blk.set10) | (with_reducible apply Blk.set5) | (with_reducible apply Blk.set4) | (with_reducible apply Blk.tail4) | (with_reducible apply Blk.set2) | (with_reducible apply Blk.set1) | ((with_reducible apply Blk.setOther); (case hne => omega))))
  have BG : Blk z (w.heap.size + 1 + 1 + 1) #[.int .i64 2] 37 := by rw [hz]; exact (by repeat (first | (with_reducible assumption) | ((with_reducible refine Blk.new _ _ _ ?_); (simp; done)) | (with_reducible apply Blk.alloc) | (with_reducible apply Blk.grow) | (with_reducible apply Blk.drew) | (with_reducible apply Blk.set10) | (with_reducible apply Blk.set5) | (with_reducible apply Blk.set4) | (with_reducible apply Blk.tail4) | (with_reducible apply Blk.set2) | (with_reducible apply Blk.set1) | ((with_reducible apply Blk.setOther); (case hne => omega))))
  clear hz
  have lBF := BF.lt; have cBF := BF.cell; have fBF := BF.frozen; have lBG := BG.lt; have cBG := BG.cell; have fBG := BG.frozen; clear BF BG
  exact ⟨rfl, .tuple #[qZ, .int .i64 2], by simp [results, Tryz.results11, go_sem, cBF, cBG], rfl, hy⟩
set_option maxHeartbeats 4000000 in
theorem Make_bad2 (s1 : Bool) (m1 : Nat) (s2 : Bool) (m2 : Nat) (h1 : m1 < B4) (h2 : m2 < B4) (w : World) (hT : Tab w) (g1 : badI s1 m1 = false) (g2 : badI s2 m2 = true) :
    Calls Tryz.prog 11 #[intV s1 m1, intV s2 m2] w fun e w' => e = .returned (.tuple #[qZ, .int .i64 2]) ∧ Ext w w' := by
  have hmf : ∀ (fn : Fn) (first cap : Array Value) (w : World), (Instr.makeFunc fn first cap).run Tryz.prog w = .ok (.func fn first cap) w := fun _ _ _ _ => rfl
  have c1 := check_yes s1 m1 h1 g1
  have c2 := check_no s2 m2 h2 g2
  clear h1 h2 g1 g2 hT
  go_enter_defers Tryz.func11, Tryz.ntmps11
  go_wp2_with (first
    | (go_at_call 48; (first | (with_reducible refine (c1 _).mono ?_) | (with_reducible refine (c2 _).mono ?_)); rintro e w' ⟨rfl, d, rfl⟩)
    | (go_at_call 49; (with_reducible refine (cs _).mono ?_); rintro e w' ⟨rfl, d, rfl⟩)
    | (go_at_call 47; refine (rmust_no _ _).mono ?_; rintro e w' ⟨rfl, rfl⟩))
  refine lv_rebase fun v hv => ?_
  have hx : Ext w v := by rw [hv]; exact (by repeat (first | (with_reducible exact Ext.refl _) | (with_reducible assumption) | (with_reducible apply Ext.grow) | (with_reducible apply Ext.alloc) | (with_reducible apply Ext.drew) | ((with_reducible apply Ext.set); (case hb => (first | omega | (simp; omega))))))
  have BO : Blk v (w.heap.size + 1 + 1) #[.bool false, .int .u64 0, .int .u64 0, .int .u64 0, .int .u64 0, .bool false, .int .u64 0, .int .u64 0, .int .u64 0, .int .u64 0] 27 := by rw [hv]; exact (by repeat (first | (with_reducible assumption) | ((with_reducible refine Blk.new _ _ _ ?_); (simp; done)) | (with_reducible apply Blk.alloc) | (with_reducible apply Blk.grow) | (with_reducible apply Blk.drew) | (with_reducible apply Blk.set10) | (with_reducible apply Blk.set5) | (with_reducible apply Blk.set4) | (with_reducible apply Blk.tail4) | (with_reducible apply Blk.set2) | (with_reducible apply Blk.set1) | ((with_reducible apply Blk.setOther); (case hne => omega))))
  have BE : Blk v (w.heap.size + 1 + 1 + 1) #[.int .i64 0] 37 := by rw [hv]; exact (by repeat (first | (with_reducible assumption) | ((with_reducible refine Blk.new _ _ _ ?_); (simp; done)) | (with_reducible apply Blk.alloc) | (with_reducible apply Blk.grow) | (with_reducible apply Blk.drew) | (with_reducible apply Blk.set10) | (with_reducible apply Blk.set5) | (with_reducible apply Blk.set4) | (with_reducible apply Blk.tail4) | (with_reducible apply Blk.set2) | (with_reducible apply Blk.set1) | ((with_reducible apply Blk.setOther); (case hne => omega))))
  clear hv
  refine leaves_ratio_pan 0 2 46 _ (BE.cell 0) (BE.frozen 0) (fun _ _ => by kernel_rfl) ?_
  refine (Make_clear _ _ _ _ _ _ _ _ _ _ _ _ (BO.setOther (by omega))).mono ?_
  rintro e' z ⟨rfl, hz⟩
  have hy : Ext w z := by rw [hz]; exact (by repeat (first | (with_reducible exact Ext.refl _) | (with_reducible assumption) | (with_reducible apply Ext.grow) | (with_reducible apply Ext.alloc) | (with_reducible apply Ext.drew) | ((with_reducible apply Ext.set); (case hb => (first | omega | (simp; omega))))))
  have BF : Blk z (w.heap.size + 1 + 1) #[.bool false, .int .u64 0, .int .u64 0, .int .u64 0, .int .u64 0, .bool false, .int .u64 0, .int .u64 0, .int .u64 0, .int .u64 0] 27 := by rw [hz]; exact (by repeat (first | (with_reducible assumption) | ((with_reducible refine Blk.new _ _ _ ?_); (simp; done)) | (with_reducible apply Blk.alloc) | (with_reducible apply Blk.grow) | (with_reducible apply Blk.drew) | (with_reducible apply Blk.set10) | (with_reducible apply Blk.set5) | (with_reducible apply Blk.set4) | (with_reducible apply Blk.tail4) | (with_reducible apply Blk.set2) | (with_reducible apply Blk.set1) | ((with_reducible apply Blk.setOther); (case hne => omega))))
  have BG : Blk z (w.heap.size + 1 + 1 + 1) #[.int .i64 2] 37 := by rw [hz]; exact (by repeat (first | (with_reducible assumption) | ((with_reducible refine Blk.new _ _ _ ?_); (simp; done)) | (with_reducible apply Blk.alloc) | (with_reducible apply Blk.grow) | (with_reducible apply Blk.drew) | (with_reducible apply Blk.set10) | (with_reducible apply Blk.set5) | (with_reducible apply Blk.set4) | (with_reducible apply Blk.tail4) | (with_reducible apply Blk.set2) | (with_reducible apply Blk.set1) | ((with_reducible apply Blk.setOther); (case hne => omega))))
  clear hz
  have lBF := BF.lt; have cBF := BF.cell; have fBF := BF.frozen; have lBG := BG.lt; have cBG := BG.cell; have fBG := BG.frozen; clear BF BG
  exact ⟨rfl, .tuple #[qZ, .int .i64 2], by simp [results, Tryz.results11, go_sem, cBF, cBG], rfl, hy⟩
set_option maxHeartbeats 4000000 in
theorem Make_bad3 (s1 : Bool) (m1 : Nat) (s2 : Bool) (m2 : Nat) (h1 : m1 < B4) (h2 : m2 < B4) (w : World) (hT : Tab w) (g1 : badI s1 m1 = false) (g2 : badI s2 m2 = false) (h0 : m2 = 0) :
    Calls Tryz.prog 11 #[intV s1 m1, intV s2 m2] w fun e w' => e = .returned (.tuple #[qZ, .int .i64 2]) ∧ Ext w w' := by
  have hmf : ∀ (fn : Fn) (first cap : Array Value) (w : World), (Instr.makeFunc fn first cap).run Tryz.prog w = .ok (.func fn first cap) w := fun _ _ _ _ => rfl
  have c1 := check_yes s1 m1 h1 g1
  have c2 := check_yes s2 m2 h2 g2
  have cs := sign_any s2 m2 h2
  rw [show sgn s2 m2 = 0 by simp [sgn, h0]] at cs
  clear h0 h1 h2 g1 g2 hT
  go_enter_defers Tryz.func11, Tryz.ntmps11
  go_wp2_with (first
    | (go_at_call 48; (first | (with_reducible refine (c1 _).mono ?_) | (with_reducible refine (c2 _).mono ?_)); rintro e w' ⟨rfl, d, rfl⟩)
    | (go_at_call 49; (with_reducible refine (cs _).mono ?_); rintro e w' ⟨rfl, d, rfl⟩)
    | (go_at_call 47; refine (rmust_no _ _).mono ?_; rintro e w' ⟨rfl, rfl⟩))
  refine lv_rebase fun v hv => ?_
  have hx : Ext w v := by rw [hv]; exact (by repeat (first | (with_reducible exact Ext.refl _) | (with_reducible assumption) | (with_reducible apply Ext.grow) | (with_reducible apply Ext.alloc) | (with_reducible apply Ext.drew) | ((with_reducible apply Ext.set); (case hb => (first | omega | (simp; omega))))))
  have BO : Blk v (w.heap.size + 1 + 1) #[.bool false, .int .u64 0, .int .u64 0, .int .u64 0, .int .u64 0, .bool false, .int .u64 0, .int .u64 0, .int .u64 0, .int .u64 0] 27 := by rw [hv]; exact (by repeat (first | (with_reducible assumption) | ((with_reducible refine Blk.new _ _ _ ?_); (simp; done)) | (with_reducible apply Blk.alloc) | (with_reducible apply Blk.grow) | (with_reducible apply Blk.drew) | (with_reducible apply Blk.set10) | (with_reducible apply Blk.set5) | (with_reducible apply Blk.set4) | (with_reducible apply Blk.tail4) | (with_reducible apply Blk.set2) | (with_reducible apply Blk.set1) | ((with_reducible apply Blk.setOther); (case hne => omega))))
  have BE : Blk v (w.heap.size + 1 + 1 + 1) #[.int .i64 0] 37 := by rw [hv]; exact (by repeat (first | (with_reducible assumption) | ((with_reducible refine Blk.new _ _ _ ?_); (simp; done)) | (with_reducible apply Blk.alloc) | (with_reducible apply Blk.grow) | (with_reducible apply Blk.drew) | (with_reducible apply Blk.set10) | (with_reducible apply Blk.set5) | (with_reducible apply Blk.set4) | (with_reducible apply Blk.tail4) | (with_reducible apply Blk.set2) | (with_reducible apply Blk.set1) | ((with_reducible apply Blk.setOther); (case hne => omega))))
  clear hv
  refine leaves_ratio_pan 0 2 46 _ (BE.cell 0) (BE.frozen 0) (fun _ _ => by kernel_rfl) ?_
  refine (Make_clear _ _ _ _ _ _ _ _ _ _ _ _ (BO.setOther (by omega))).mono ?_
  rintro e' z ⟨rfl, hz⟩
  have hy : Ext w z := by rw [hz]; exact (by repeat (first | (with_reducible exact Ext.refl _) | (with_reducible assumption) | (with_reducible apply Ext.grow) | (with_reducible apply Ext.alloc) | (with_reducible apply Ext.drew) | ((with_reducible apply Ext.set); (case hb => (first | omega | (simp; omega))))))
  have BF : Blk z (w.heap.size + 1 + 1) #[.bool false, .int .u64 0, .int .u64 0, .int .u64 0, .int .u64 0, .bool false, .int .u64 0, .int .u64 0, .int .u64 0, .int .u64 0] 27 := by rw [hz]; exact (by repeat (first | (with_reducible assumption) | ((with_reducible refine Blk.new _ _ _ ?_); (simp; done)) | (with_reducible apply Blk.alloc) | (with_reducible apply Blk.grow) | (with_reducible apply Blk.drew) | (with_reducible apply Blk.set10) | (with_reducible apply Blk.set5) | (with_reducible apply Blk.set4) | (with_reducible apply Blk.tail4) | (with_reducible apply Blk.set2) | (with_reducible apply Blk.set1) | ((with_reducible apply Blk.setOther); (case hne => omega))))
  have BG : Blk z (w.heap.size + 1 + 1 + 1) #[.int .i64 2] 37 := by rw [hz]; exact (by repeat (first | (with_reducible assumption) | ((with_reducible refine Blk.new _ _ _ ?_); (simp; done)) | (with_reducible apply Blk.alloc) | (with_reducible apply Blk.grow) | (with_reducible apply Blk.drew) | (with_reducible apply Blk.set10) | (with_reducible apply Blk.set5) | (with_reducible apply Blk.set4) | (with_reducible apply Blk.tail4) | (with_reducible apply Blk.set2) | (with_reducible apply Blk.set1) | ((with_reducible apply Blk.setOther); (case hne => omega))))
  clear hz
  have lBF := BF.lt; have cBF := BF.cell; have fBF := BF.frozen; have lBG := BG.lt; have cBG := BG.cell; have fBG := BG.frozen; clear BF BG
  exact ⟨rfl, .tuple #[qZ, .int .i64 2], by simp [results, Tryz.results11, go_sem, cBF, cBG], rfl, hy⟩
end Go.Proofs.YtjkchmegnfbfoaaGreatDoor

namespace Go.Proofs.YtjkchmegnfbfoaaGreatDoor
open Go Go.RowKit
set_option linter.unusedSimpArgs false
set_option linter.unusedVariables false
set_option maxRecDepth 100000

theorem Cmp_clear (b : Nat) (W : World) (y0 : Value) (h : Blk W b #[y0] 3) :
    Calls Tryz.prog 68 #[.pointer (some ⟨b, 0, none⟩)] W fun e w' => e = .returned (.tuple #[]) ∧ w' = (W.setCell ⟨b, 0, none⟩ (.int .i64 0)) := by
  have lh := h.lt; have ch := h.cell; have fh := h.frozen; clear h
  go_enter Tryz.func68, Tryz.ntmps68
  go_wp2
  go_end0
  exact ⟨rfl, rfl⟩
set_option maxHeartbeats 4000000 in
theorem Cmp_walk (r1 r2 : Rt) (w : World) (h1 : r1.ok = true) (h2 : r2.ok = true) :
    Calls Tryz.prog 31 #[r1.v, r2.v] w fun e w' => e = .returned (.tuple #[.int .i64 (sgn (splus (!(r1.s == r2.t)) (r1.m * r2.k) (r2.s == r1.t) (r2.m * r1.k)).1 (splus (!(r1.s == r2.t)) (r1.m * r2.k) (r2.s == r1.t) (r2.m * r1.k)).2), .int .i64 0]) ∧ Ext w w' := by
  have hmf : ∀ (fn : Fn) (first cap : Array Value) (w : World), (Instr.makeFunc fn first cap).run Tryz.prog w = .ok (.func fn first cap) w := fun _ _ _ _ => rfl
  have ca := all2_yes r1 r2 h1 h2
  have t2 := times_any r2.s r2.m r1.t r1.k r2.hm r1.hk
  have t1 := times_any r1.s r1.m r2.t r2.k r1.hm r2.hk
  have m9 : ∀ {a b : Nat}, a < B4 → b < B4 → a * b < B9 := fun ha hb => Nat.lt_trans (Nat.mul_lt_mul'' ha hb) (by decide)
  have cp := plus_any (!(r1.s == r2.t)) (r2.s == r1.t) _ _ (m9 r1.hm r2.hk) (m9 r2.hm r1.hk)
  have cs := ssign_any (splus (!(r1.s == r2.t)) (r1.m * r2.k) (r2.s == r1.t) (r2.m * r1.k)).1 (splus (!(r1.s == r2.t)) (r1.m * r2.k) (r2.s == r1.t) (r2.m * r1.k)).2 (by
    have h1 : r1.m * r2.k < B4 * B4 := Nat.mul_lt_mul'' r1.hm r2.hk
    have h2 : r2.m * r1.k < B4 * B4 := Nat.mul_lt_mul'' r2.hm r1.hk
    have h3 : B4 * B4 + B4 * B4 < B9 := by decide
    unfold splus
    split
    · dsimp only; omega
    · split <;> dsimp only <;> omega)
  generalize (splus (!(r1.s == r2.t)) (r1.m * r2.k) (r2.s == r1.t) (r2.m * r1.k)) = S at *
  generalize sgn S.1 S.2 = c at *
  generalize r1.m * r2.k = p1 at *
  generalize r2.m * r1.k = p2 at *
  clear m9
  obtain ⟨s1, m1, u1, k1, _, _⟩ := r1
  obtain ⟨s2, m2, u2, k2, _, _⟩ := r2
  go_enter_defers Tryz.func31, Tryz.ntmps31
  go_wp2_with (first
    | (go_at_call 60; refine (ca _ _ _ 27 ?_).mono ?_; (· exact (by repeat (first | (with_reducible assumption) | ((with_reducible refine Blk.new _ _ _ ?_); (simp; done)) | (with_reducible apply Blk.alloc) | (with_reducible apply Blk.grow) | (with_reducible apply Blk.drew) | (with_reducible apply Blk.set10) | (with_reducible apply Blk.set5) | (with_reducible apply Blk.set4) | (with_reducible apply Blk.tail4) | (with_reducible apply Blk.set2) | (with_reducible apply Blk.set1) | ((with_reducible apply Blk.setOther); (case hne => omega))))); rintro e w' ⟨rfl, d, rfl⟩)
    | (go_at_call 61; (with_reducible refine (t2 _).mono ?_); rintro e w' ⟨rfl, d2, rfl⟩))
  --s1
  refine wp_rebase fun v hv => ?_
  have hx : Ext w v := by rw [hv]; exact (by repeat (first | (with_reducible exact Ext.refl _) | (with_reducible assumption) | (with_reducible apply Ext.grow) | (with_reducible apply Ext.alloc) | (with_reducible apply Ext.drew) | ((with_reducible apply Ext.set); (case hb => (first | omega | (simp; omega))))))
  have BA : Blk v w.heap.size (ratsV s1 m1 u1 k1) 27 := by rw [hv]; exact (by repeat (first | (with_reducible assumption) | ((with_reducible refine Blk.new _ _ _ ?_); (simp; done)) | (with_reducible apply Blk.alloc) | (with_reducible apply Blk.grow) | (with_reducible apply Blk.drew) | (with_reducible apply Blk.set10) | (with_reducible apply Blk.set5) | (with_reducible apply Blk.set4) | (with_reducible apply Blk.tail4) | (with_reducible apply Blk.set2) | (with_reducible apply Blk.set1) | ((with_reducible apply Blk.setOther); (case hne => omega))))
  have BB : Blk v (w.heap.size + 1) (ratsV s2 m2 u2 k2) 27 := by rw [hv]; exact (by repeat (first | (with_reducible assumption) | ((with_reducible refine Blk.new _ _ _ ?_); (simp; done)) | (with_reducible apply Blk.alloc) | (with_reducible apply Blk.grow) | (with_reducible apply Blk.drew) | (with_reducible apply Blk.set10) | (with_reducible apply Blk.set5) | (with_reducible apply Blk.set4) | (with_reducible apply Blk.tail4) | (with_reducible apply Blk.set2) | (with_reducible apply Blk.set1) | ((with_reducible apply Blk.setOther); (case hne => omega))))
  have BO : Blk v (w.heap.size + 1 + 1) #[.int .i64 0] 3 := by rw [hv]; exact (by repeat (first | (with_reducible assumption) | ((with_reducible refine Blk.new _ _ _ ?_); (simp; done)) | (with_reducible apply Blk.alloc) | (with_reducible apply Blk.grow) | (with_reducible apply Blk.drew) | (with_reducible apply Blk.set10) | (with_reducible apply Blk.set5) | (with_reducible apply Blk.set4) | (with_reducible apply Blk.tail4) | (with_reducible apply Blk.set2) | (with_reducible apply Blk.set1) | ((with_reducible apply Blk.setOther); (case hne => omega))))
  have BE : Blk v (w.heap.size + 1 + 1 + 1) #[.int .i64 0] 37 := by rw [hv]; exact (by repeat (first | (with_reducible assumption) | ((with_reducible refine Blk.new _ _ _ ?_); (simp; done)) | (with_reducible apply Blk.alloc) | (with_reducible apply Blk.grow) | (with_reducible apply Blk.drew) | (with_reducible apply Blk.set10) | (with_reducible apply Blk.set5) | (with_reducible apply Blk.set4) | (with_reducible apply Blk.tail4) | (with_reducible apply Blk.set2) | (with_reducible apply Blk.set1) | ((with_reducible apply Blk.setOther); (case hne => omega))))
  have B6 : Blk v (w.heap.size + 1 + 1 + 1 + 1 + 1 + (d.obs.size + d2.obs.size)) #[q64 (wn p2 0), q64 (wn p2 1), q64 (wn p2 2), q64 (wn p2 3), q64 (wn p2 4), q64 (wn p2 5), q64 (wn p2 6), q64 (wn p2 7), q64 (wn p2 8), .bool (s2 == u1)] 86 := by rw [hv]; exact (by repeat (first | (with_reducible assumption) | ((with_reducible refine Blk.new _ _ _ ?_); (simp; done)) | (with_reducible apply Blk.alloc) | (with_reducible apply Blk.grow) | (with_reducible apply Blk.drew) | (with_reducible apply Blk.set10) | (with_reducible apply Blk.set5) | (with_reducible apply Blk.set4) | (with_reducible apply Blk.tail4) | (with_reducible apply Blk.set2) | (with_reducible apply Blk.set1) | ((with_reducible apply Blk.setOther); (case hne => omega))))
  clear hv
  have lBA := BA.lt; have cBA := BA.cell; have fBA := BA.frozen; have lBB := BB.lt; have cBB := BB.cell; have fBB := BB.frozen; have lBO := BO.lt; have cBO := BO.cell; have fBO := BO.frozen; have lBE := BE.lt; have cBE := BE.cell; have fBE := BE.frozen; have lB6 := B6.lt; have cB6 := B6.cell; have fB6 := B6.frozen
  (first | refine wp_region_k' [.p, .r, .p, .r, .r, .r, .r, .r, .w, .w] (by kernel_rfl) (by kernel_rfl) ?_ | refine wp_region_k [.p, .r, .p, .r, .r, .r, .r, .r, .w, .w] (by kernel_rfl) (by kernel_rfl) ?_); (repeat (first | (refine wpK_p rfl (fun K hK => ?_); go_simp; refine hK _ _ ?_; clear hK K) | (refine wpK_r rfl (fun K hK => ?_); go_simp; refine hK _ _ ?_; clear hK K) | (refine wpK_w rfl (fun K hK => ?_); go_simp; refine hK _ _ ?_; clear hK K) | (refine wpK_r rfl (fun K hK => ?_); go_simp; apply Exists.intro; refine ⟨fun d => ?_, hK _ _ ?_⟩; (first | (with_reducible exact Calls.calm (t1 _)) | (with_reducible exact Calls.calm (cp _)) | (with_reducible exact Calls.calm (cs _))); clear hK K))); refine wpK_nil ?_; intro d
  go_wp2
  refine lv_rebase fun u hu => ?_
  have hy : Ext w u := by rw [hu]; exact (by repeat (first | (with_reducible exact Ext.refl _) | (with_reducible assumption) | (with_reducible apply Ext.grow) | (with_reducible apply Ext.alloc) | (with_reducible apply Ext.drew) | ((with_reducible apply Ext.set); (case hb => (first | omega | (simp; omega))))))
  have BF : Blk u (w.heap.size + 1 + 1) #[.int .i64 c] 3 := by rw [hu]; exact (by repeat (first | (with_reducible assumption) | ((with_reducible refine Blk.new _ _ _ ?_); (simp; done)) | (with_reducible apply Blk.alloc) | (with_reducible apply Blk.grow) | (with_reducible apply Blk.drew) | (with_reducible apply Blk.set10) | (with_reducible apply Blk.set5) | (with_reducible apply Blk.set4) | (with_reducible apply Blk.tail4) | (with_reducible apply Blk.set2) | (with_reducible apply Blk.set1) | ((with_reducible apply Blk.setOther); (case hne => omega))))
  have BG : Blk u (w.heap.size + 1 + 1 + 1) #[.int .i64 0] 37 := by rw [hu]; exact (by repeat (first | (with_reducible assumption) | ((with_reducible refine Blk.new _ _ _ ?_); (simp; done)) | (with_reducible apply Blk.alloc) | (with_reducible apply Blk.grow) | (with_reducible apply Blk.drew) | (with_reducible apply Blk.set10) | (with_reducible apply Blk.set5) | (with_reducible apply Blk.set4) | (with_reducible apply Blk.tail4) | (with_reducible apply Blk.set2) | (with_reducible apply Blk.set1) | ((with_reducible apply Blk.setOther); (case hne => omega))))
  clear hu
  have lBF := BF.lt; have cBF := BF.cell; have fBF := BF.frozen; have lBG := BG.lt; have cBG := BG.cell; have fBG := BG.frozen; clear BF BG
  exact leaves_ratio (.tuple #[.int .i64 c, .int .i64 0]) (by simp [results, Tryz.results31, go_sem, cBF, cBG]) ⟨rfl, hy⟩
set_option maxHeartbeats 4000000 in
theorem Cmp_bad (r1 r2 : Rt) (w : World) (h : (r1.ok && r2.ok) = false) :
    Calls Tryz.prog 31 #[r1.v, r2.v] w fun e w' => e = .returned (.tuple #[.int .i64 0, .int .i64 2]) ∧ Ext w w' := by
  have hmf : ∀ (fn : Fn) (first cap : Array Value) (w : World), (Instr.makeFunc fn first cap).run Tryz.prog w = .ok (.func fn first cap) w := fun _ _ _ _ => rfl
  have ca := all2_no r1 r2 h
  clear h
  obtain ⟨s1, m1, u1, k1, _, _⟩ := r1
  obtain ⟨s2, m2, u2, k2, _, _⟩ := r2
  go_enter_defers Tryz.func31, Tryz.ntmps31
  go_wp2_with (go_at_call 60; refine (ca _ _ _ 27 ?_).mono ?_; (· exact (by repeat (first | (with_reducible assumption) | ((with_reducible refine Blk.new _ _ _ ?_); (simp; done)) | (with_reducible apply Blk.alloc) | (with_reducible apply Blk.grow) | (with_reducible apply Blk.drew) | (with_reducible apply Blk.set10) | (with_reducible apply Blk.set5) | (with_reducible apply Blk.set4) | (with_reducible apply Blk.tail4) | (with_reducible apply Blk.set2) | (with_reducible apply Blk.set1) | ((with_reducible apply Blk.setOther); (case hne => omega))))); rintro e w' ⟨rfl, d, rfl⟩)
  refine lv_rebase fun v hv => ?_
  have hx : Ext w v := by rw [hv]; exact (by repeat (first | (with_reducible exact Ext.refl _) | (with_reducible assumption) | (with_reducible apply Ext.grow) | (with_reducible apply Ext.alloc) | (with_reducible apply Ext.drew) | ((with_reducible apply Ext.set); (case hb => (first | omega | (simp; omega))))))
  have BO : Blk v (w.heap.size + 1 + 1) #[.int .i64 0] 3 := by rw [hv]; exact (by repeat (first | (with_reducible assumption) | ((with_reducible refine Blk.new _ _ _ ?_); (simp; done)) | (with_reducible apply Blk.alloc) | (with_reducible apply Blk.grow) | (with_reducible apply Blk.drew) | (with_reducible apply Blk.set10) | (with_reducible apply Blk.set5) | (with_reducible apply Blk.set4) | (with_reducible apply Blk.tail4) | (with_reducible apply Blk.set2) | (with_reducible apply Blk.set1) | ((with_reducible apply Blk.setOther); (case hne => omega))))
  have BE : Blk v (w.heap.size + 1 + 1 + 1) #[.int .i64 0] 37 := by rw [hv]; exact (by repeat (first | (with_reducible assumption) | ((with_reducible refine Blk.new _ _ _ ?_); (simp; done)) | (with_reducible apply Blk.alloc) | (with_reducible apply Blk.grow) | (with_reducible apply Blk.drew) | (with_reducible apply Blk.set10) | (with_reducible apply Blk.set5) | (with_reducible apply Blk.set4) | (with_reducible apply Blk.tail4) | (with_reducible apply Blk.set2) | (with_reducible apply Blk.set1) | ((with_reducible apply Blk.setOther); (case hne => omega))))
  clear hv
  refine leaves_ratio_pan 0 2 68 _ (BE.cell 0) (BE.frozen 0) (fun _ _ => by kernel_rfl) ?_
  refine (Cmp_clear _ _ _ (BO.setOther (by omega))).mono ?_
  rintro e' z ⟨rfl, hz⟩
  have hy : Ext w z := by rw [hz]; exact (by repeat (first | (with_reducible exact Ext.refl _) | (with_reducible assumption) | (with_reducible apply Ext.grow) | (with_reducible apply Ext.alloc) | (with_reducible apply Ext.drew) | ((with_reducible apply Ext.set); (case hb => (first | omega | (simp; omega))))))
  have BF : Blk z (w.heap.size + 1 + 1) #[.int .i64 0] 3 := by rw [hz]; exact (by repeat (first | (with_reducible assumption) | ((with_reducible refine Blk.new _ _ _ ?_); (simp; done)) | (with_reducible apply Blk.alloc) | (with_reducible apply Blk.grow) | (with_reducible apply Blk.drew) | (with_reducible apply Blk.set10) | (with_reducible apply Blk.set5) | (with_reducible apply Blk.set4) | (with_reducible apply Blk.tail4) | (with_reducible apply Blk.set2) | (with_reducible apply Blk.set1) | ((with_reducible apply Blk.setOther); (case hne => omega))))
  have BG : Blk z (w.heap.size + 1 + 1 + 1) #[.int .i64 2] 37 := by rw [hz]; exact (by repeat (first | (with_reducible assumption) | ((with_reducible refine Blk.new _ _ _ ?_); (simp; done)) | (with_reducible apply Blk.alloc) | (with_reducible apply Blk.grow) | (with_reducible apply Blk.drew) | (with_reducible apply Blk.set10) | (with_reducible apply Blk.set5) | (with_reducible apply Blk.set4) | (with_reducible apply Blk.tail4) | (with_reducible apply Blk.set2) | (with_reducible apply Blk.set1) | ((with_reducible apply Blk.setOther); (case hne => omega))))
  clear hz
  have lBF := BF.lt; have cBF := BF.cell; have fBF := BF.frozen; have lBG := BG.lt; have cBG := BG.cell; have fBG := BG.frozen; clear BF BG
  exact ⟨rfl, .tuple #[.int .i64 0, .int .i64 2], by simp [results, Tryz.results31, go_sem, cBF, cBG], rfl, hy⟩
end Go.Proofs.YtjkchmegnfbfoaaGreatDoor
