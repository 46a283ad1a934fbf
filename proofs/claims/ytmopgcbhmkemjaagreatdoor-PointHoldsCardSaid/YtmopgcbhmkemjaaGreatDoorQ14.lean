/- point.Cmp and point.Mid refuse or give up. PointOrders holds; what Move and Mid answer, whether it fits or not. -/
import Derived.Test.YtmopgcbhmkemjaaGreatDoorProg
import Derived.Test.YtmopgcbhmkemjaaGreatDoorQ11
import Derived.Test.YtmopgcbhmkemjaaGreatDoorQ12
import Derived.Test.YtmopgcbhmkemjaaGreatDoorQ06
import Derived.Test.YtmopgcbhmkemjaaGreatDoorQ07
import Derived.Test.YtmopgcbhmkemjaaGreatDoorQ05
import Derived.Test.YtmopgcbhmkemjaaGreatDoorQ13
namespace Go.Proofs.YtmopgcbhmkemjaaGreatDoor
open Go Go.RowKit
set_option linter.unusedSimpArgs false
set_option linter.unusedVariables false
set_option maxRecDepth 100000
set_option exponentiation.threshold 3000

theorem PCmp_clear (b : Nat) (W : World) (cs : Array Value) (h : Blk W b cs 3) (hc : cs.size = 1) :
    Calls Tryz.prog 45 #[.pointer (some ⟨b, 0, none⟩)] W fun e w' => e = .returned (.tuple #[]) ∧ w' = W.setCell ⟨b, 0, none⟩ (.int .i64 0) := by
  obtain ⟨x, rfl⟩ : ∃ x, cs = #[x] := by
    obtain ⟨l⟩ := cs
    match l, hc with
    | [x], _ => exact ⟨x, rfl⟩
  have lh := h.lt; have ch := h.cell; have fh := h.frozen
  go_enter Tryz.func45, Tryz.ntmps45
  go_wp2
  go_end0
  exact ⟨rfl, rfl⟩
set_option maxHeartbeats 8000000 in
theorem PCmp_bad_1 (a b c d : Rt) (h : (a.pok && b.pok) = false) : Ans 21 #[pV a b, pV c d] (.tuple #[.int .i64 0, .int .i64 2]) := fun w => by
  have hmf : ∀ (fn : Fn) (first cap : Array Value) (w : World), (Instr.makeFunc fn first cap).run Tryz.prog w = .ok (.func fn first cap) w := fun _ _ _ _ => rfl
  have hx : Ext w w := Ext.refl w
  have P1 := pright_no a b h
  clear h
  obtain ⟨s1, m1, t1, k1, _, _⟩ := a
  obtain ⟨s2, m2, t2, k2, _, _⟩ := b
  obtain ⟨s3, m3, t3, k3, _, _⟩ := c
  obtain ⟨s4, m4, t4, k4, _, _⟩ := d
  go_enter_defers Tryz.func21, Tryz.ntmps21
  go_upto_region 1 with fail
  refine wp_rebase fun v hv => ?_
  replace hx : Ext w v := by rw [hv]; exact ext_auto
  have BA : Blk v w.heap.size (ptsV s1 m1 t1 k1 s2 m2 t2 k2) 31 := by rw [hv]; exact blk_auto
  have BB : Blk v (w.heap.size + 1) (ptsV s3 m3 t3 k3 s4 m4 t4 k4) 31 := by rw [hv]; exact blk_auto
  have BO : Blk v (w.heap.size + 1 + 1) #[.int .i64 0] 3 := by rw [hv]; exact blk_auto
  have BE : Blk v (w.heap.size + 1 + 1 + 1) #[.int .i64 0] 33 := by rw [hv]; exact blk_auto
  clear hv
  have lBA := BA.lt; have cBA := BA.cell; have fBA := BA.frozen; have lBB := BB.lt; have cBB := BB.cell; have fBB := BB.frozen; have lBO := BO.lt; have cBO := BO.cell; have fBO := BO.frozen; have lBE := BE.lt; have cBE := BE.cell; have fBE := BE.frozen
  go_wp2_with (first | ((with_reducible apply wpList_load_row Tryz.isAgg31 Tryz.sizeOf31); (case hw => (simp [go_sem, Region.wanted, yielded]; done)); (case hs => exact rfl); (case hB => exact blk_auto); (case hc => rfl)) | (go_at_call 46; (with_reducible refine (must_point_no _ _).mono ?_); rintro e w2 ⟨rfl, h2_⟩; subst w2) | (go_at_call 16; (with_reducible refine (P1 _).mono ?_); rintro e y1 ⟨rfl, hz_⟩; have hxy : Ext v y1 := Ext.trans ext_auto hz_))
  refine lv_rebase fun v5 hv => ?_
  have hxv : Ext v v5 := by rw [hv]; exact ext_auto
  clear hv
  replace hx := hx.trans hxv
  replace BO := BO.ext hxv; replace BE := BE.ext hxv
  refine leaves_point_pan 0 2 45 _ (BE.cell 0) (BE.frozen 0) (fun _ _ => by kernel_rfl) ?_
  refine (PCmp_clear _ _ _ (BO.setOther (by omega)) rfl).mono ?_
  rintro e' z ⟨rfl, hz⟩
  have hy : Ext w z := by rw [hz]; exact ext_auto
  have BF : Blk z (w.heap.size + 1 + 1) #[.int .i64 0] 3 := by rw [hz]; exact (BO.setOther (by omega)).setSame
  have BG : Blk z (w.heap.size + 1 + 1 + 1) #[.int .i64 2] 33 := by rw [hz]; exact BE.setSame.setOther (by omega)
  clear hz
  have lBF := BF.lt; have cBF := BF.cell; have fBF := BF.frozen; have lBG := BG.lt; have cBG := BG.cell; have fBG := BG.frozen; clear BF BG
  exact ⟨rfl, .tuple #[.int .i64 0, .int .i64 2], (by simp [results, Tryz.results21, go_sem, cBF, cBG]), rfl, hy⟩
set_option maxHeartbeats 8000000 in
theorem PCmp_bad_2 (a b c d : Rt) (ha : a.pok = true) (hb : b.pok = true) (h : (c.pok && d.pok) = false) : Ans 21 #[pV a b, pV c d] (.tuple #[.int .i64 0, .int .i64 2]) := fun w => by
  have hmf : ∀ (fn : Fn) (first cap : Array Value) (w : World), (Instr.makeFunc fn first cap).run Tryz.prog w = .ok (.func fn first cap) w := fun _ _ _ _ => rfl
  have hx : Ext w w := Ext.refl w
  have P1 := pright_yes a b ha hb
  have P2 := pright_no c d h
  clear h ha hb
  obtain ⟨s1, m1, t1, k1, _, _⟩ := a
  obtain ⟨s2, m2, t2, k2, _, _⟩ := b
  obtain ⟨s3, m3, t3, k3, _, _⟩ := c
  obtain ⟨s4, m4, t4, k4, _, _⟩ := d
  go_enter_defers Tryz.func21, Tryz.ntmps21
  go_upto_region 1 with fail
  refine wp_rebase fun v hv => ?_
  replace hx : Ext w v := by rw [hv]; exact ext_auto
  have BA : Blk v w.heap.size (ptsV s1 m1 t1 k1 s2 m2 t2 k2) 31 := by rw [hv]; exact blk_auto
  have BB : Blk v (w.heap.size + 1) (ptsV s3 m3 t3 k3 s4 m4 t4 k4) 31 := by rw [hv]; exact blk_auto
  have BO : Blk v (w.heap.size + 1 + 1) #[.int .i64 0] 3 := by rw [hv]; exact blk_auto
  have BE : Blk v (w.heap.size + 1 + 1 + 1) #[.int .i64 0] 33 := by rw [hv]; exact blk_auto
  clear hv
  have lBA := BA.lt; have cBA := BA.cell; have fBA := BA.frozen; have lBB := BB.lt; have cBB := BB.cell; have fBB := BB.frozen; have lBO := BO.lt; have cBO := BO.cell; have fBO := BO.frozen; have lBE := BE.lt; have cBE := BE.cell; have fBE := BE.frozen
  
  go_wp2_with (first | (go_at_call 46; (with_reducible refine (must_point_no _ _).mono ?_); rintro e w2 ⟨rfl, h2_⟩; subst w2) | ((with_reducible apply wpList_load_row Tryz.isAgg31 Tryz.sizeOf31); (case hw => (simp [go_sem, Region.wanted, yielded]; done)); (case hs => exact rfl); (case hB => exact blk_auto); (case hc => rfl)) | (go_at_call 16; (with_reducible refine (P1 _).mono ?_); rintro e y1 ⟨rfl, hz_⟩; have hzz_ : Ext v y1 := Ext.trans ext_auto hz_; replace BA := BA.ext hzz_; clear lBA cBA fBA; replace BB := BB.ext hzz_; clear lBB cBB fBB; replace BO := BO.ext hzz_; clear lBO cBO fBO; replace BE := BE.ext hzz_; clear lBE cBE fBE; replace hx := hx.trans hzz_; clear hz_ hzz_; have lBA := BA.lt; have cBA := BA.cell; have fBA := BA.frozen; have lBB := BB.lt; have cBB := BB.cell; have fBB := BB.frozen; have lBO := BO.lt; have cBO := BO.cell; have fBO := BO.frozen; have lBE := BE.lt; have cBE := BE.cell; have fBE := BE.frozen))
  go_wp2_with (first | ((with_reducible apply wpList_load_row Tryz.isAgg31 Tryz.sizeOf31); (case hw => (simp [go_sem, Region.wanted, yielded]; done)); (case hs => exact rfl); (case hB => exact blk_auto); (case hc => rfl)) | (go_at_call 46; (with_reducible refine (must_point_no _ _).mono ?_); rintro e w2 ⟨rfl, h2_⟩; subst w2) | (go_at_call 16; (with_reducible refine (P2 _).mono ?_); rintro e y2 ⟨rfl, hz_⟩; have hxy : Ext y1 y2 := Ext.trans ext_auto hz_))
  refine lv_rebase fun v5 hv => ?_
  have hxv : Ext y1 v5 := by rw [hv]; exact ext_auto
  clear hv
  replace hx := hx.trans hxv
  replace BO := BO.ext hxv; replace BE := BE.ext hxv
  refine leaves_point_pan 0 2 45 _ (BE.cell 0) (BE.frozen 0) (fun _ _ => by kernel_rfl) ?_
  refine (PCmp_clear _ _ _ (BO.setOther (by omega)) rfl).mono ?_
  rintro e' z ⟨rfl, hz⟩
  have hy : Ext w z := by rw [hz]; exact ext_auto
  have BF : Blk z (w.heap.size + 1 + 1) #[.int .i64 0] 3 := by rw [hz]; exact (BO.setOther (by omega)).setSame
  have BG : Blk z (w.heap.size + 1 + 1 + 1) #[.int .i64 2] 33 := by rw [hz]; exact BE.setSame.setOther (by omega)
  clear hz
  have lBF := BF.lt; have cBF := BF.cell; have fBF := BF.frozen; have lBG := BG.lt; have cBG := BG.cell; have fBG := BG.frozen; clear BF BG
  exact ⟨rfl, .tuple #[.int .i64 0, .int .i64 2], (by simp [results, Tryz.results21, go_sem, cBF, cBG]), rfl, hy⟩
theorem PCmp_bad (a b c d : Rt) (h : (a.pok && b.pok && (c.pok && d.pok)) = false) : Ans 21 #[pV a b, pV c d] (.tuple #[.int .i64 0, .int .i64 2]) := by
  cases hp : (a.pok && b.pok) with
  | false => exact PCmp_bad_1 a b c d hp
  | true =>
    obtain ⟨ha, hb⟩ : a.pok = true ∧ b.pok = true := by simpa using hp
    exact PCmp_bad_2 a b c d ha hb (by simpa [hp] using h)
set_option maxHeartbeats 8000000 in
theorem PMid_bad_1 (a b c d : Rt) (h : (a.pok && b.pok) = false) : Ans 22 #[pV a b, pV c d] (.tuple #[pZ, .int .i64 2]) := fun w => by
  have hmf : ∀ (fn : Fn) (first cap : Array Value) (w : World), (Instr.makeFunc fn first cap).run Tryz.prog w = .ok (.func fn first cap) w := fun _ _ _ _ => rfl
  have hx : Ext w w := Ext.refl w
  have P1 := pright_no a b h
  clear h
  obtain ⟨s1, m1, t1, k1, _, _⟩ := a
  obtain ⟨s2, m2, t2, k2, _, _⟩ := b
  obtain ⟨s3, m3, t3, k3, _, _⟩ := c
  obtain ⟨s4, m4, t4, k4, _, _⟩ := d
  go_enter_defers Tryz.func22, Tryz.ntmps22
  go_upto_region 1 with fail
  refine wp_rebase fun v hv => ?_
  replace hx : Ext w v := by rw [hv]; exact ext_auto
  have BA : Blk v w.heap.size (ptsV s1 m1 t1 k1 s2 m2 t2 k2) 31 := by rw [hv]; exact blk_auto
  have BB : Blk v (w.heap.size + 1) (ptsV s3 m3 t3 k3 s4 m4 t4 k4) 31 := by rw [hv]; exact blk_auto
  have BO : Blk v (w.heap.size + 1 + 1) #[.bool false, .int .u64 0, .int .u64 0, .int .u64 0, .int .u64 0, .bool false, .int .u64 0, .int .u64 0, .int .u64 0, .int .u64 0, .bool false, .int .u64 0, .int .u64 0, .int .u64 0, .int .u64 0, .bool false, .int .u64 0, .int .u64 0, .int .u64 0, .int .u64 0] 31 := by rw [hv]; exact blk_auto
  have BE : Blk v (w.heap.size + 1 + 1 + 1) #[.int .i64 0] 33 := by rw [hv]; exact blk_auto
  clear hv
  have lBA := BA.lt; have cBA := BA.cell; have fBA := BA.frozen; have lBB := BB.lt; have cBB := BB.cell; have fBB := BB.frozen; have lBO := BO.lt; have cBO := BO.cell; have fBO := BO.frozen; have lBE := BE.lt; have cBE := BE.cell; have fBE := BE.frozen
  go_wp2_with (first | ((with_reducible apply wpList_load_row Tryz.isAgg31 Tryz.sizeOf31); (case hw => (simp [go_sem, Region.wanted, yielded]; done)); (case hs => exact rfl); (case hB => exact blk_auto); (case hc => rfl)) | (go_at_call 46; (with_reducible refine (must_point_no _ _).mono ?_); rintro e w2 ⟨rfl, h2_⟩; subst w2) | (go_at_call 16; (with_reducible refine (P1 _).mono ?_); rintro e y1 ⟨rfl, hz_⟩; have hxy : Ext v y1 := Ext.trans ext_auto hz_))
  refine lv_rebase fun v5 hv => ?_
  have hxv : Ext v v5 := by rw [hv]; exact ext_auto
  clear hv
  replace hx := hx.trans hxv
  replace BO := BO.ext hxv; replace BE := BE.ext hxv
  refine leaves_point_pan 0 2 48 _ (BE.cell 0) (BE.frozen 0) (fun _ _ => by kernel_rfl) ?_
  refine (Mid_clear _ _ _ (BO.setOther (by omega)) rfl).mono ?_
  rintro e' z ⟨rfl, hz⟩
  have hy : Ext w z := by rw [hz]; exact Ext.setRow ext_auto (by omega)
  have BF : Blk z (w.heap.size + 1 + 1) zPt 31 := by rw [hz]; exact Blk.setRowSame (BO.setOther (by omega))
  have BG : Blk z (w.heap.size + 1 + 1 + 1) #[.int .i64 2] 33 := by rw [hz]; exact Blk.setRowOther BE.setSame (by omega)
  clear hz
  exact ⟨rfl, .tuple #[pZ, .int .i64 2], results_pt_err Tryz.results22 rfl rfl BF rfl BG, rfl, hy⟩
set_option maxHeartbeats 8000000 in
theorem PMid_bad_2 (a b c d : Rt) (ha : a.pok = true) (hb : b.pok = true) (h : (c.pok && d.pok) = false) : Ans 22 #[pV a b, pV c d] (.tuple #[pZ, .int .i64 2]) := fun w => by
  have hmf : ∀ (fn : Fn) (first cap : Array Value) (w : World), (Instr.makeFunc fn first cap).run Tryz.prog w = .ok (.func fn first cap) w := fun _ _ _ _ => rfl
  have hx : Ext w w := Ext.refl w
  have P1 := pright_yes a b ha hb
  have P2 := pright_no c d h
  clear h ha hb
  obtain ⟨s1, m1, t1, k1, _, _⟩ := a
  obtain ⟨s2, m2, t2, k2, _, _⟩ := b
  obtain ⟨s3, m3, t3, k3, _, _⟩ := c
  obtain ⟨s4, m4, t4, k4, _, _⟩ := d
  go_enter_defers Tryz.func22, Tryz.ntmps22
  go_upto_region 1 with fail
  refine wp_rebase fun v hv => ?_
  replace hx : Ext w v := by rw [hv]; exact ext_auto
  have BA : Blk v w.heap.size (ptsV s1 m1 t1 k1 s2 m2 t2 k2) 31 := by rw [hv]; exact blk_auto
  have BB : Blk v (w.heap.size + 1) (ptsV s3 m3 t3 k3 s4 m4 t4 k4) 31 := by rw [hv]; exact blk_auto
  have BO : Blk v (w.heap.size + 1 + 1) #[.bool false, .int .u64 0, .int .u64 0, .int .u64 0, .int .u64 0, .bool false, .int .u64 0, .int .u64 0, .int .u64 0, .int .u64 0, .bool false, .int .u64 0, .int .u64 0, .int .u64 0, .int .u64 0, .bool false, .int .u64 0, .int .u64 0, .int .u64 0, .int .u64 0] 31 := by rw [hv]; exact blk_auto
  have BE : Blk v (w.heap.size + 1 + 1 + 1) #[.int .i64 0] 33 := by rw [hv]; exact blk_auto
  clear hv
  have lBA := BA.lt; have cBA := BA.cell; have fBA := BA.frozen; have lBB := BB.lt; have cBB := BB.cell; have fBB := BB.frozen; have lBO := BO.lt; have cBO := BO.cell; have fBO := BO.frozen; have lBE := BE.lt; have cBE := BE.cell; have fBE := BE.frozen
  
  go_wp2_with (first | (go_at_call 46; (with_reducible refine (must_point_no _ _).mono ?_); rintro e w2 ⟨rfl, h2_⟩; subst w2) | ((with_reducible apply wpList_load_row Tryz.isAgg31 Tryz.sizeOf31); (case hw => (simp [go_sem, Region.wanted, yielded]; done)); (case hs => exact rfl); (case hB => exact blk_auto); (case hc => rfl)) | (go_at_call 16; (with_reducible refine (P1 _).mono ?_); rintro e y1 ⟨rfl, hz_⟩; have hzz_ : Ext v y1 := Ext.trans ext_auto hz_; replace BA := BA.ext hzz_; clear lBA cBA fBA; replace BB := BB.ext hzz_; clear lBB cBB fBB; replace BO := BO.ext hzz_; clear lBO cBO fBO; replace BE := BE.ext hzz_; clear lBE cBE fBE; replace hx := hx.trans hzz_; clear hz_ hzz_; have lBA := BA.lt; have cBA := BA.cell; have fBA := BA.frozen; have lBB := BB.lt; have cBB := BB.cell; have fBB := BB.frozen; have lBO := BO.lt; have cBO := BO.cell; have fBO := BO.frozen; have lBE := BE.lt; have cBE := BE.cell; have fBE := BE.frozen))
  go_wp2_with (first | ((with_reducible apply wpList_load_row Tryz.isAgg31 Tryz.sizeOf31); (case hw => (simp [go_sem, Region.wanted, yielded]; done)); (case hs => exact rfl); (case hB => exact blk_auto); (case hc => rfl)) | (go_at_call 46; (with_reducible refine (must_point_no _ _).mono ?_); rintro e w2 ⟨rfl, h2_⟩; subst w2) | (go_at_call 16; (with_reducible refine (P2 _).mono ?_); rintro e y2 ⟨rfl, hz_⟩; have hxy : Ext y1 y2 := Ext.trans ext_auto hz_))
  refine lv_rebase fun v5 hv => ?_
  have hxv : Ext y1 v5 := by rw [hv]; exact ext_auto
  clear hv
  replace hx := hx.trans hxv
  replace BO := BO.ext hxv; replace BE := BE.ext hxv
  refine leaves_point_pan 0 2 48 _ (BE.cell 0) (BE.frozen 0) (fun _ _ => by kernel_rfl) ?_
  refine (Mid_clear _ _ _ (BO.setOther (by omega)) rfl).mono ?_
  rintro e' z ⟨rfl, hz⟩
  have hy : Ext w z := by rw [hz]; exact Ext.setRow ext_auto (by omega)
  have BF : Blk z (w.heap.size + 1 + 1) zPt 31 := by rw [hz]; exact Blk.setRowSame (BO.setOther (by omega))
  have BG : Blk z (w.heap.size + 1 + 1 + 1) #[.int .i64 2] 33 := by rw [hz]; exact Blk.setRowOther BE.setSame (by omega)
  clear hz
  exact ⟨rfl, .tuple #[pZ, .int .i64 2], results_pt_err Tryz.results22 rfl rfl BF rfl BG, rfl, hy⟩
theorem PMid_bad (a b c d : Rt) (h : (a.pok && b.pok && (c.pok && d.pok)) = false) : Ans 22 #[pV a b, pV c d] (.tuple #[pZ, .int .i64 2]) := by
  cases hp : (a.pok && b.pok) with
  | false => exact PMid_bad_1 a b c d hp
  | true =>
    obtain ⟨ha, hb⟩ : a.pok = true ∧ b.pok = true := by simpa using hp
    exact PMid_bad_2 a b c d ha hb (by simpa [hp] using h)
set_option maxHeartbeats 16000000 in
theorem Mid_over_1 (a b c d : Rt) (ha : a.pok = true) (hb : b.pok = true) (hc : c.pok = true) (hd : d.pok = true) (S1 S2 : Rt) (f1 : S1.pf = false)
    (A1 : AnsT 50 #[pV a c] (.tuple #[S1.v, .int .i64 0])) :
    AnsT 22 #[pV a b, pV c d] (.tuple #[pZ, .int .i64 110]) := fun w hT => by
  have hmf : ∀ (fn : Fn) (first cap : Array Value) (w : World), (Instr.makeFunc fn first cap).run Tryz.prog w = .ok (.func fn first cap) w := fun _ _ _ _ => rfl
  have hx : Ext w w := Ext.refl w
  have P1 := pright_yes a b ha hb
  have P2 := pright_yes c d hc hd
  have EE := fun bb TT w hT h => each_mid_1 a c b d S1 S2 f1 A1 bb TT w hT h
  clear ha hb hc hd f1 A1
  obtain ⟨s1, m1, t1, k1, _, _⟩ := a
  obtain ⟨s2, m2, t2, k2, _, _⟩ := b
  obtain ⟨s3, m3, t3, k3, _, _⟩ := c
  obtain ⟨s4, m4, t4, k4, _, _⟩ := d
  obtain ⟨s5, m5, t5, k5, _, _⟩ := S1
  obtain ⟨s6, m6, t6, k6, _, _⟩ := S2
  dsimp only at EE
  go_enter_defers Tryz.func22, Tryz.ntmps22
  go_upto_region 1 with fail
  refine wp_rebase fun v hv => ?_
  replace hx : Ext w v := by rw [hv]; exact ext_auto
  have BA : Blk v w.heap.size (ptsV s1 m1 t1 k1 s2 m2 t2 k2) 31 := by rw [hv]; exact blk_auto
  have BB : Blk v (w.heap.size + 1) (ptsV s3 m3 t3 k3 s4 m4 t4 k4) 31 := by rw [hv]; exact blk_auto
  have BO : Blk v (w.heap.size + 1 + 1) #[.bool false, .int .u64 0, .int .u64 0, .int .u64 0, .int .u64 0, .bool false, .int .u64 0, .int .u64 0, .int .u64 0, .int .u64 0, .bool false, .int .u64 0, .int .u64 0, .int .u64 0, .int .u64 0, .bool false, .int .u64 0, .int .u64 0, .int .u64 0, .int .u64 0] 31 := by rw [hv]; exact blk_auto
  have BE : Blk v (w.heap.size + 1 + 1 + 1) #[.int .i64 0] 33 := by rw [hv]; exact blk_auto
  clear hv
  have lBA := BA.lt; have cBA := BA.cell; have fBA := BA.frozen; have lBB := BB.lt; have cBB := BB.cell; have fBB := BB.frozen; have lBO := BO.lt; have cBO := BO.cell; have fBO := BO.frozen; have lBE := BE.lt; have cBE := BE.cell; have fBE := BE.frozen
  
  go_wp2_with (first | (go_at_call 46; (with_reducible refine (must_point_yes _ _).mono ?_); rintro e w2 ⟨rfl, h2_⟩; subst w2) | ((with_reducible apply wpList_load_row Tryz.isAgg31 Tryz.sizeOf31); (case hw => (simp [go_sem, Region.wanted, yielded]; done)); (case hs => exact rfl); (case hB => exact blk_auto); (case hc => rfl)) | (go_at_call 16; (with_reducible refine (P1 _).mono ?_); rintro e y1 ⟨rfl, hz_⟩; have hzz_ : Ext v y1 := Ext.trans ext_auto hz_; replace BA := BA.ext hzz_; clear lBA cBA fBA; replace BB := BB.ext hzz_; clear lBB cBB fBB; replace BO := BO.ext hzz_; clear lBO cBO fBO; replace BE := BE.ext hzz_; clear lBE cBE fBE; replace hx := hx.trans hzz_; clear hz_ hzz_; have lBA := BA.lt; have cBA := BA.cell; have fBA := BA.frozen; have lBB := BB.lt; have cBB := BB.cell; have fBB := BB.frozen; have lBO := BO.lt; have cBO := BO.cell; have fBO := BO.frozen; have lBE := BE.lt; have cBE := BE.cell; have fBE := BE.frozen))
  go_upto_region 3 with (first | (go_at_call 46; (with_reducible refine (must_point_yes _ _).mono ?_); rintro e w2 ⟨rfl, h2_⟩; subst w2) | ((with_reducible apply wpList_load_row Tryz.isAgg31 Tryz.sizeOf31); (case hw => (simp [go_sem, Region.wanted, yielded]; done)); (case hs => exact rfl); (case hB => exact blk_auto); (case hc => rfl)) | (go_at_call 16; (with_reducible refine (P2 _).mono ?_); rintro e y2 ⟨rfl, hz_⟩; have hxy : Ext y1 y2 := Ext.trans ext_auto hz_))
  replace BA := BA.ext hxy; replace BB := BB.ext hxy; replace BO := BO.ext hxy; replace BE := BE.ext hxy; replace hx := hx.trans hxy
  clear hxy hz_ lBA cBA fBA lBB cBB fBB lBO cBO fBO lBE cBE fBE
  obtain ⟨v, rfl⟩ : ∃ v', v' = y2 := ⟨_, rfl⟩
  have lBA := BA.lt; have cBA := BA.cell; have fBA := BA.frozen; have lBB := BB.lt; have cBB := BB.cell; have fBB := BB.frozen; have lBO := BO.lt; have cBO := BO.cell; have fBO := BO.frozen; have lBE := BE.lt; have cBE := BE.cell; have fBE := BE.frozen
  go_wp2_with (go_at_call 49; (with_reducible refine (EE _ _ _ (hT.ext (hx.trans ext_auto)) (Blk.new _ _ _ rfl)).mono ?_); rintro e z9 ⟨rfl, hz_⟩; have hzz_ : Ext v z9 := Ext.trans ext_auto hz_)
  refine lv_rebase fun v5 hv => ?_
  have hxv : Ext v v5 := by rw [hv]; exact ext_auto
  clear hv
  replace hx := hx.trans hxv
  replace BO := BO.ext hxv; replace BE := BE.ext hxv
  refine leaves_point_pan 0 110 48 _ (BE.cell 0) (BE.frozen 0) (fun _ _ => by kernel_rfl) ?_
  refine (Mid_clear _ _ _ (BO.setOther (by omega)) rfl).mono ?_
  rintro e' z ⟨rfl, hz⟩
  have hy : Ext w z := by rw [hz]; exact Ext.setRow ext_auto (by omega)
  have BF : Blk z (w.heap.size + 1 + 1) zPt 31 := by rw [hz]; exact Blk.setRowSame (BO.setOther (by omega))
  have BG : Blk z (w.heap.size + 1 + 1 + 1) #[.int .i64 110] 33 := by rw [hz]; exact Blk.setRowOther BE.setSame (by omega)
  clear hz
  exact ⟨rfl, .tuple #[pZ, .int .i64 110], results_pt_err Tryz.results22 rfl rfl BF rfl BG, rfl, hy⟩
set_option maxHeartbeats 16000000 in
theorem Mid_over_2 (a b c d : Rt) (ha : a.pok = true) (hb : b.pok = true) (hc : c.pok = true) (hd : d.pok = true) (S1 S2 : Rt) (f1 : S1.pf = true) (f2 : S2.pf = false)
    (A1 : AnsT 50 #[pV a c] (.tuple #[S1.v, .int .i64 0])) (A2 : AnsT 50 #[pV b d] (.tuple #[S2.v, .int .i64 0])) :
    AnsT 22 #[pV a b, pV c d] (.tuple #[pZ, .int .i64 110]) := fun w hT => by
  have hmf : ∀ (fn : Fn) (first cap : Array Value) (w : World), (Instr.makeFunc fn first cap).run Tryz.prog w = .ok (.func fn first cap) w := fun _ _ _ _ => rfl
  have hx : Ext w w := Ext.refl w
  have P1 := pright_yes a b ha hb
  have P2 := pright_yes c d hc hd
  have EE := fun bb TT w hT h => each_mid_2 a c b d S1 S2 f1 f2 A1 A2 bb TT w hT h
  clear ha hb hc hd f1 f2 A1 A2
  obtain ⟨s1, m1, t1, k1, _, _⟩ := a
  obtain ⟨s2, m2, t2, k2, _, _⟩ := b
  obtain ⟨s3, m3, t3, k3, _, _⟩ := c
  obtain ⟨s4, m4, t4, k4, _, _⟩ := d
  obtain ⟨s5, m5, t5, k5, _, _⟩ := S1
  obtain ⟨s6, m6, t6, k6, _, _⟩ := S2
  dsimp only at EE
  go_enter_defers Tryz.func22, Tryz.ntmps22
  go_upto_region 1 with fail
  refine wp_rebase fun v hv => ?_
  replace hx : Ext w v := by rw [hv]; exact ext_auto
  have BA : Blk v w.heap.size (ptsV s1 m1 t1 k1 s2 m2 t2 k2) 31 := by rw [hv]; exact blk_auto
  have BB : Blk v (w.heap.size + 1) (ptsV s3 m3 t3 k3 s4 m4 t4 k4) 31 := by rw [hv]; exact blk_auto
  have BO : Blk v (w.heap.size + 1 + 1) #[.bool false, .int .u64 0, .int .u64 0, .int .u64 0, .int .u64 0, .bool false, .int .u64 0, .int .u64 0, .int .u64 0, .int .u64 0, .bool false, .int .u64 0, .int .u64 0, .int .u64 0, .int .u64 0, .bool false, .int .u64 0, .int .u64 0, .int .u64 0, .int .u64 0] 31 := by rw [hv]; exact blk_auto
  have BE : Blk v (w.heap.size + 1 + 1 + 1) #[.int .i64 0] 33 := by rw [hv]; exact blk_auto
  clear hv
  have lBA := BA.lt; have cBA := BA.cell; have fBA := BA.frozen; have lBB := BB.lt; have cBB := BB.cell; have fBB := BB.frozen; have lBO := BO.lt; have cBO := BO.cell; have fBO := BO.frozen; have lBE := BE.lt; have cBE := BE.cell; have fBE := BE.frozen
  
  go_wp2_with (first | (go_at_call 46; (with_reducible refine (must_point_yes _ _).mono ?_); rintro e w2 ⟨rfl, h2_⟩; subst w2) | ((with_reducible apply wpList_load_row Tryz.isAgg31 Tryz.sizeOf31); (case hw => (simp [go_sem, Region.wanted, yielded]; done)); (case hs => exact rfl); (case hB => exact blk_auto); (case hc => rfl)) | (go_at_call 16; (with_reducible refine (P1 _).mono ?_); rintro e y1 ⟨rfl, hz_⟩; have hzz_ : Ext v y1 := Ext.trans ext_auto hz_; replace BA := BA.ext hzz_; clear lBA cBA fBA; replace BB := BB.ext hzz_; clear lBB cBB fBB; replace BO := BO.ext hzz_; clear lBO cBO fBO; replace BE := BE.ext hzz_; clear lBE cBE fBE; replace hx := hx.trans hzz_; clear hz_ hzz_; have lBA := BA.lt; have cBA := BA.cell; have fBA := BA.frozen; have lBB := BB.lt; have cBB := BB.cell; have fBB := BB.frozen; have lBO := BO.lt; have cBO := BO.cell; have fBO := BO.frozen; have lBE := BE.lt; have cBE := BE.cell; have fBE := BE.frozen))
  go_upto_region 3 with (first | (go_at_call 46; (with_reducible refine (must_point_yes _ _).mono ?_); rintro e w2 ⟨rfl, h2_⟩; subst w2) | ((with_reducible apply wpList_load_row Tryz.isAgg31 Tryz.sizeOf31); (case hw => (simp [go_sem, Region.wanted, yielded]; done)); (case hs => exact rfl); (case hB => exact blk_auto); (case hc => rfl)) | (go_at_call 16; (with_reducible refine (P2 _).mono ?_); rintro e y2 ⟨rfl, hz_⟩; have hxy : Ext y1 y2 := Ext.trans ext_auto hz_))
  replace BA := BA.ext hxy; replace BB := BB.ext hxy; replace BO := BO.ext hxy; replace BE := BE.ext hxy; replace hx := hx.trans hxy
  clear hxy hz_ lBA cBA fBA lBB cBB fBB lBO cBO fBO lBE cBE fBE
  obtain ⟨v, rfl⟩ : ∃ v', v' = y2 := ⟨_, rfl⟩
  have lBA := BA.lt; have cBA := BA.cell; have fBA := BA.frozen; have lBB := BB.lt; have cBB := BB.cell; have fBB := BB.frozen; have lBO := BO.lt; have cBO := BO.cell; have fBO := BO.frozen; have lBE := BE.lt; have cBE := BE.cell; have fBE := BE.frozen
  go_wp2_with (go_at_call 49; (with_reducible refine (EE _ _ _ (hT.ext (hx.trans ext_auto)) (Blk.new _ _ _ rfl)).mono ?_); rintro e z9 ⟨rfl, hz_⟩; have hzz_ : Ext v z9 := Ext.trans ext_auto hz_)
  refine lv_rebase fun v5 hv => ?_
  have hxv : Ext v v5 := by rw [hv]; exact ext_auto
  clear hv
  replace hx := hx.trans hxv
  replace BO := BO.ext hxv; replace BE := BE.ext hxv
  refine leaves_point_pan 0 110 48 _ (BE.cell 0) (BE.frozen 0) (fun _ _ => by kernel_rfl) ?_
  refine (Mid_clear _ _ _ (BO.setOther (by omega)) rfl).mono ?_
  rintro e' z ⟨rfl, hz⟩
  have hy : Ext w z := by rw [hz]; exact Ext.setRow ext_auto (by omega)
  have BF : Blk z (w.heap.size + 1 + 1) zPt 31 := by rw [hz]; exact Blk.setRowSame (BO.setOther (by omega))
  have BG : Blk z (w.heap.size + 1 + 1 + 1) #[.int .i64 110] 33 := by rw [hz]; exact Blk.setRowOther BE.setSame (by omega)
  clear hz
  exact ⟨rfl, .tuple #[pZ, .int .i64 110], results_pt_err Tryz.results22 rfl rfl BF rfl BG, rfl, hy⟩
end Go.Proofs.YtmopgcbhmkemjaaGreatDoor

namespace Go.Proofs.YtmopgcbhmkemjaaGreatDoor
open Go Go.RowKit
set_option linter.unusedSimpArgs false
set_option linter.unusedVariables false
set_option maxRecDepth 100000
set_option exponentiation.threshold 3000

def zRt : Rt := ⟨false, 0, false, 0, by decide, by decide⟩
theorem pZ_z : pZ = pV zRt zRt := pZ_eq
/-- What a call answers about a point. -/
def oU (x y : Rat) (q : Rat) (fq : Fits q) : Rt := if PFits x ∧ PFits y then rt q fq else zRt
def oZ (x y : Rat) : Int := if PFits x ∧ PFits y then 0 else 110
theorem outP_all (x y : Rat) (fx : Fits x) (fy : Fits y) (v : Value) (w : World) (h : PtV w v x y) :
    Calls Tryz.prog 43 #[v] w fun e w' => e = .returned (.tuple #[pV (oU x y x fx) (oU x y y fy), .int .i64 (oZ x y)]) ∧ Ext w w' := by
  unfold oU oZ
  by_cases hp : PFits x
  · by_cases hq : PFits y
    · rw [if_pos ⟨hp, hq⟩, if_pos ⟨hp, hq⟩, if_pos ⟨hp, hq⟩]; exact outP_yes x y hp hq v w h
    · have hn : ¬ (PFits x ∧ PFits y) := fun h => hq h.2
      rw [if_neg hn, if_neg hn, if_neg hn, ← pZ_z]; exact outP_no2 x y fx fy hp hq v w h
  · have hn : ¬ (PFits x ∧ PFits y) := fun h => hp h.1
    rw [if_neg hn, if_neg hn, if_neg hn, ← pZ_z]; exact outP_no1 x y fx fy hp v w h
theorem moveP_all (a b : Rt) (ha : a.pok = true) (hb : b.pok = true) (dx dy : Int) (lx : -9223372036854775808 ≤ dx) (hx : dx ≤ 9223372036854775807) (ly : -9223372036854775808 ≤ dy) (hy : dy ≤ 9223372036854775807)
    (fx : Fits (a.q + (dx : Rat))) (fy : Fits (b.q + (dy : Rat))) :
    AnsT 23 #[pV a b, .int .i64 dx, .int .i64 dy] (.tuple #[pV (oU (a.q + dx) (b.q + dy) _ fx) (oU (a.q + dx) (b.q + dy) _ fy), .int .i64 (oZ (a.q + dx) (b.q + dy))]) := by
  have nx : dx.natAbs ≤ 9223372036854775808 := by omega
  have ny : dy.natAbs ≤ 9223372036854775808 := by omega
  have o1 := rOf_I dx lx hx
  have o2 := rOf_I dy ly hy
  have A1 := mvS_add a ha dx nx
  have A2 := mvS_add b hb dy ny
  have p1 : (mvS a ha dx nx).pf = decide (PFits (a.q + (dx : Rat))) := rt_pf _ _
  have p2 : (mvS b hb dy ny).pf = decide (PFits (b.q + (dy : Rat))) := rt_pf _ _
  unfold oU oZ
  by_cases hp : PFits (a.q + (dx : Rat))
  · rw [decide_eq_true hp] at p1
    by_cases hq : PFits (b.q + (dy : Rat))
    · rw [decide_eq_true hq] at p2
      rw [if_pos ⟨hp, hq⟩, if_pos ⟨hp, hq⟩, if_pos ⟨hp, hq⟩]
      exact Move_yes a b ha hb dx dy _ _ _ _ o1 o2 p1 p2 A1 A2
    · rw [decide_eq_false hq] at p2
      have hn : ¬ (PFits (a.q + (dx : Rat)) ∧ PFits (b.q + (dy : Rat))) := fun h => hq h.2
      rw [if_neg hn, if_neg hn, if_neg hn, ← pZ_z]
      exact Move_over_2 a b ha hb dx dy _ _ _ _ o1 o2 p1 p2 A1 A2
  · rw [decide_eq_false hp] at p1
    have hn : ¬ (PFits (a.q + (dx : Rat)) ∧ PFits (b.q + (dy : Rat))) := fun h => hp h.1
    rw [if_neg hn, if_neg hn, if_neg hn, ← pZ_z]
    exact Move_over_1 a b ha hb dx dy _ _ _ (mvS b hb dy ny) o1 o2 p1 A1
theorem divInt_den_le (x y : Int) (h0 : y ≠ 0) : (Rat.divInt x y).den ≤ y.natAbs := by
  rw [← divInt_sv x y h0, (mk_parts _ _ (by omega)).2]; exact Nat.div_le_self _ _
theorem divInt_num_le (x y : Int) (h0 : y ≠ 0) : (Rat.divInt x y).num.natAbs ≤ x.natAbs := by
  rw [← divInt_sv x y h0, mk_abs _ _ (by omega), sv_natAbs]; exact Nat.div_le_self _ _
/-- Two numbers of points, and half of their sum. -/
theorem sum_parts (x y : Rat) (hx : PFits x) (hy : PFits y) : (x + y).num.natAbs < 2 * (C96 * B) ∧ (x + y).den < B * B := by
  rw [← add_div]
  have h0 := den_prod_ne x y
  have h1 : (x.num * y.den + y.num * x.den).natAbs < 2 * (C96 * B) := by
    have e1 : (x.num * y.den).natAbs < C96 * B := by rw [Int.natAbs_mul, Int.natAbs_natCast]; exact Nat.mul_lt_mul'' hx.1 hy.2
    have e2 : (y.num * x.den).natAbs < C96 * B := by rw [Int.natAbs_mul, Int.natAbs_natCast]; exact Nat.mul_lt_mul'' hy.1 hx.2
    have := Int.natAbs_add_le (x.num * y.den) (y.num * x.den)
    omega
  have h2 : ((x.den : Int) * y.den).natAbs < B * B := by rw [Int.natAbs_mul, Int.natAbs_natCast, Int.natAbs_natCast]; exact Nat.mul_lt_mul'' hx.2 hy.2
  exact ⟨Nat.lt_of_le_of_lt (divInt_num_le _ _ h0) h1, Nat.lt_of_le_of_lt (divInt_den_le _ _ h0) h2⟩
theorem sum_fits (x y : Rat) (hx : PFits x) (hy : PFits y) : Fits (x + y) := by
  obtain ⟨h1, h2⟩ := sum_parts x y hx hy
  exact ⟨Nat.lt_trans h1 (by decide), Nat.lt_trans h2 (by decide)⟩
theorem half_parts (x y : Rat) (hx : PFits x) (hy : PFits y) : ((x + y) / ((2 : Int) : Rat)).num.natAbs < 2 * (C96 * B) ∧ ((x + y) / ((2 : Int) : Rat)).den < 2 * (B * B) := by
  obtain ⟨h1, h2⟩ := sum_parts x y hx hy
  rw [← div_div (x + y) ((2 : Int) : Rat) (by decide), Rat.num_intCast, Rat.den_intCast]
  have h0 : ((x + y).den : Int) * 2 ≠ 0 := Int.mul_ne_zero (by have := (x + y).den_nz; omega) (by decide)
  refine ⟨Nat.lt_of_le_of_lt (divInt_num_le _ _ h0) (by simpa using h1), Nat.lt_of_le_of_lt (divInt_den_le _ _ h0) (by rw [Int.natAbs_mul, Int.natAbs_natCast, show (2 : Int).natAbs = 2 from rfl]; omega)⟩
theorem half_fits (x y : Rat) (hx : PFits x) (hy : PFits y) : Fits ((x + y) / ((2 : Int) : Rat)) := by
  obtain ⟨h1, h2⟩ := half_parts x y hx hy
  exact ⟨Nat.lt_trans h1 (by decide), Nat.lt_trans h2 (by decide)⟩
theorem mid_q (a d : Rt) (ha : a.pok = true) (hd : d.pok = true) :
    AnsT 50 #[pV a d] (.tuple #[(rt _ (half_fits a.q d.q (a.pok_fits ha) (d.pok_fits hd))).v, .int .i64 0]) := by
  have oa := (a.pok_iff.1 ha).1
  have od := (d.pok_iff.1 hd).1
  have hs := sum_fits a.q d.q (a.pok_fits ha) (d.pok_fits hd)
  refine mid_any a d (rt _ hs) (rI 2 (by omega)) _ 0 (fun w hT => ?_) (rOf_I 2 (by omega) (by omega)) (fun w hT => ?_)
  · have := cAdd_yes a.q d.q (a.q_fits oa) (d.q_fits od) hs w hT
    rwa [← a.v_q oa, ← d.v_q od] at this
  · exact cDiv_yes (a.q + d.q) ((2 : Int) : Rat) hs (pfits_fits (int_q 2 (by omega))) (by decide) (half_fits a.q d.q (a.pok_fits ha) (d.pok_fits hd)) w hT
theorem midP_all (a b c d : Rt) (ha : a.pok = true) (hb : b.pok = true) (hc : c.pok = true) (hd : d.pok = true) (x y : Rat) (ex : x = (a.q + c.q) / ((2 : Int) : Rat)) (ey : y = (b.q + d.q) / ((2 : Int) : Rat)) (fx : Fits x) (fy : Fits y) :
    AnsT 22 #[pV a b, pV c d] (.tuple #[pV (oU x y x fx) (oU x y y fy), .int .i64 (oZ x y)]) := by
  have A1 := mid_q a c ha hc
  have A2 := mid_q b d hb hd
  subst ex ey
  have p1 : (rt _ fx).pf = decide (PFits ((a.q + c.q) / ((2 : Int) : Rat))) := rt_pf _ _
  have p2 : (rt _ fy).pf = decide (PFits ((b.q + d.q) / ((2 : Int) : Rat))) := rt_pf _ _
  unfold oU oZ
  by_cases hp : PFits ((a.q + c.q) / ((2 : Int) : Rat))
  · rw [decide_eq_true hp] at p1
    by_cases hq : PFits ((b.q + d.q) / ((2 : Int) : Rat))
    · rw [decide_eq_true hq] at p2
      rw [if_pos ⟨hp, hq⟩, if_pos ⟨hp, hq⟩, if_pos ⟨hp, hq⟩]
      exact Mid_yes a b c d ha hb hc hd _ _ p1 p2 A1 A2
    · rw [decide_eq_false hq] at p2
      have hn : ¬ (PFits ((a.q + c.q) / ((2 : Int) : Rat)) ∧ PFits ((b.q + d.q) / ((2 : Int) : Rat))) := fun h => hq h.2
      rw [if_neg hn, if_neg hn, if_neg hn, ← pZ_z]
      exact Mid_over_2 a b c d ha hb hc hd _ _ p1 p2 A1 A2
  · rw [decide_eq_false hp] at p1
    have hn : ¬ (PFits ((a.q + c.q) / ((2 : Int) : Rat)) ∧ PFits ((b.q + d.q) / ((2 : Int) : Rat))) := fun h => hp h.1
    rw [if_neg hn, if_neg hn, if_neg hn, ← pZ_z]
    exact Mid_over_1 a b c d ha hb hc hd _ (rt _ fy) p1 A1
theorem midRef_q (p1 q1 p2 q2 : Rat) (hp1 : PFits p1) (hq1 : PFits q1) (hp2 : PFits p2) (hq2 : PFits q2) (x y : Rat) (ex : x = (p1 + p2) / ((2 : Int) : Rat)) (ey : y = (q1 + q2) / ((2 : Int) : Rat)) (fx : Fits x) (fy : Fits y)
    (v v' : Value) (w : World) (h : PtV w v p1 q1) (h' : PtV w v' p2 q2) :
    Calls Tryz.prog 26 #[v, v'] w fun e w' => e = .returned (.tuple #[pV (oU x y x fx) (oU x y y fy), .int .i64 (oZ x y)]) ∧ Ext w w' := by
  subst ex ey
  have f2 : Fits ((2 : Int) : Rat) := pfits_fits (int_q 2 (by omega))
  have n2 : ((2 : Int) : Rat) ≠ 0 := by decide
  exact midRef_walk p1 q1 p2 q2 (p1 + p2) (q1 + q2) _ _ _ _ _ (fun w => fNumQ 2 (by decide) (by decide) w) (fun v v' w h h' => fAdd p1 p2 v v' (pfits_fits hp1) (pfits_fits hp2) w h h') (fun v v' w h h' => fAdd q1 q2 v v' (pfits_fits hq1) (pfits_fits hq2) w h h')
    (fun v v' w h h' => fDiv _ _ v v' (sum_fits p1 p2 hp1 hp2) f2 n2 w h h') (fun v v' w h h' => fDiv _ _ v v' (sum_fits q1 q2 hq1 hq2) f2 n2 w h h') (fun v w h => outP_all _ _ fx fy v w h) v v' w h h'
theorem cmpRef_q (x y x' y' : Rat) (fx : Fits x) (fy : Fits y) (fx' : Fits x') (fy' : Fits y') (v v' : Value) (w : World) (h : PtV w v x y) (h' : PtV w v' x' y') :
    Calls Tryz.prog 27 #[v, v'] w fun e w' => e = .returned (.int .i64 (cmpP x y x' y')) ∧ Ext w w' := by
  unfold cmpP
  have C1 := fun v v' w h h' => fCmp x x' v v' fx fx' w h h'
  have C2 := fun v v' w h h' => fCmp y y' v v' fy fy' w h h'
  by_cases h0 : cmpQ x x' = 0
  · rw [if_pos h0]; exact cmpP_2 x y x' y' _ _ h0 C1 C2 v v' w h h'
  · rw [if_neg h0]; exact cmpP_1 x y x' y' _ _ h0 C1 C2 v v' w h h'
theorem ordersP_true (a b c d : Rt) (dx : Int) (lx : -9223372036854775808 ≤ dx) (hx : dx ≤ 9223372036854775807) (dy : Int) (ly : -9223372036854775808 ≤ dy) (hy : dy ≤ 9223372036854775807) (w : World) (hT : Tab w) :
    Calls Tryz.prog 4 #[pV a b, pV c d, .int .i64 dx, .int .i64 dy] w fun e w' => e = .returned (.bool true) ∧ Ext w w' := by
  have RA := fun w => rightP_any a b w
  have RB := fun w => rightP_any c d w
  have RF := fun w => refusedP w
  cases hp : (a.pok && b.pok) with
  | false =>
    rw [hp] at RA
    have hc : (a.pok && b.pok && (c.pok && d.pok)) = false := by rw [hp]; rfl
    exact Orders_A a b c d zRt zRt zRt zRt dx dy 0 2 2 2 (PCmp_bad a b c d hc) (fun w _ => PMid_bad a b c d hc w) (fun w _ => Move_bad a b hp dx dy w) rfl rfl RA RF RF w hT
  | true =>
    rw [hp] at RA
    obtain ⟨ha, hb⟩ : a.pok = true ∧ b.pok = true := by simpa using hp
    have oa := (a.pok_iff.1 ha).1
    have ob := (b.pok_iff.1 hb).1
    have nx : dx.natAbs ≤ 9223372036854775808 := by omega
    have ny : dy.natAbs ≤ 9223372036854775808 := by omega
    have fx := add_int_fits a.q (a.pok_fits ha) dx nx
    have fy := add_int_fits b.q (b.pok_fits hb) dy ny
    have P := moveP_all a b ha hb dx dy lx hx ly hy fx fy
    have FA := fun w => fromP a b oa ob w
    have N1 := fun w => fNumQ dx lx (by omega) w
    have N2 := fun w => fNumQ dy ly (by omega) w
    have A1 := fun v v' w h h' => fAdd a.q (dx : Rat) v v' (a.q_fits oa) (pfits_fits (int_q dx nx)) w h h'
    have A2 := fun v v' w h h' => fAdd b.q (dy : Rat) v v' (b.q_fits ob) (pfits_fits (int_q dy ny)) w h h'
    have AN := fun v w h => answersP _ _ _ _ _ (fun v w h => outP_all _ _ fx fy v w h) v w h
    cases hq : (c.pok && d.pok) with
    | false =>
      rw [hq] at RB
      have hc : (a.pok && b.pok && (c.pok && d.pok)) = false := by rw [hp, hq]; rfl
      exact Orders_B a b c d zRt zRt _ _ dx dy 0 2 2 _ (PCmp_bad a b c d hc) (fun w _ => PMid_bad a b c d hc w) P rfl rfl a.q b.q dx dy _ _ RA RB RF FA N1 N2 A1 A2 AN w hT
    | true =>
      rw [hq] at RB
      obtain ⟨hc, hd⟩ : c.pok = true ∧ d.pok = true := by simpa using hq
      have oc := (c.pok_iff.1 hc).1
      have od := (d.pok_iff.1 hd).1
      have gx := half_fits a.q c.q (a.pok_fits ha) (c.pok_fits hc)
      have gy := half_fits b.q d.q (b.pok_fits hb) (d.pok_fits hd)
      exact Orders_C a b c d _ _ _ _ dx dy _ 0 _ _ (ptCmp_q a b c d ha hb hc hd) (midP_all a b c d ha hb hc hd _ _ rfl rfl gx gy) P rfl a.q b.q dx dy _ _ c.q d.q RA RB FA N1 N2 A1 A2 AN (fun w => fromP c d oc od w)
        (fun v v' w h h' => midRef_q a.q b.q c.q d.q (a.pok_fits ha) (b.pok_fits hb) (c.pok_fits hc) (d.pok_fits hd) _ _ rfl rfl gx gy v v' w h h')
        (fun v v' w h h' => cmpRef_q a.q b.q c.q d.q (a.q_fits oa) (b.q_fits ob) (c.q_fits oc) (d.q_fits od) v v' w h h') w hT
end Go.Proofs.YtmopgcbhmkemjaaGreatDoor
