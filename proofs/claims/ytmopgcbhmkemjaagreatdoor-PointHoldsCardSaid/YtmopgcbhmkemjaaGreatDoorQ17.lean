/- The text of a Rat. PointHolds: point.Text; the walk. The Int of an Int's text; where the stroke is. A point's text is read back. PointHolds holds. -/
import Derived.Test.YtmopgcbhmkemjaaGreatDoorProg
import Derived.Test.YtmopgcbhmkemjaaGreatDoorQ11
import Derived.Test.YtmopgcbhmkemjaaGreatDoorQ03
import Derived.Test.YtmopgcbhmkemjaaGreatDoorQ04
import Derived.Test.YtmopgcbhmkemjaaGreatDoorQ15
import Derived.Test.YtmopgcbhmkemjaaGreatDoorQ13
import Derived.Test.YtmopgcbhmkemjaaGreatDoorQ09
import Derived.Test.YtmopgcbhmkemjaaGreatDoorQ14
namespace Go.Proofs.YtmopgcbhmkemjaaGreatDoor
open Go Go.RowKit
set_option linter.unusedSimpArgs false
set_option linter.unusedVariables false
set_option maxRecDepth 100000
set_option exponentiation.threshold 3000

theorem textB_size (s : Bool) (m : Nat) : (textB s m).size = (cods s m).length := by
  show ((cods s m).reverse.map UInt8.ofNat).toArray.size = _
  simp
theorem cods_len (s : Bool) (m : Nat) (hm : m < B4) : (cods s m).length ≤ 79 ∧ 0 < (cods s m).length := by
  have := rdg_B4 m hm
  have := rdg_pos m
  cases s <;> simp [cods] <;> omega
/-- A Rat's text. -/
def ratT (r : Rt) : ByteArray := if r.k = 1 then textB r.s r.m else (textB r.s r.m ++ ⟨#[47]⟩) ++ textB r.t r.k
set_option maxHeartbeats 4000000 in
theorem rText_yes (r : Rt) (h : r.ok = true) (w : World) : Calls Tryz.prog 60 #[r.v] w fun e w' => e = .returned (.tuple #[.string (ratT r), .int .i64 0]) ∧ Ext w w' := by
  have hx : Ext w w := Ext.refl w
  obtain ⟨b1, b2, b3, b4⟩ := (okR_iff _ _ _ _).1 h
  obtain ⟨s1, m1, t1, k1, hm, hk⟩ := r
  dsimp only at b1 b2 b3 b4
  subst b2
  have T1 := Text_walk s1 m1 hm (by cases s1 <;> simp_all [badI])
  have T2 := Text_walk false k1 hk rfl
  have CK := rcheck_yes s1 m1 false k1 hm hk h
  have S1 := textB_size s1 m1
  have S2 := textB_size false k1
  have L1 := cods_len s1 m1 hm
  have L2 := cods_len false k1 hk
  have EM : ∀ w, (Op.equalIn 10000 27 (intV false k1) (intV false 1)).run Tryz.prog w = .ok (decide (k1 = 1)) w := fun w => by
    rw [run_eq_int _ _ _ _ hk (by decide)]; simp
  have hr : ratT ⟨s1, m1, false, k1, hm, hk⟩ = if k1 = 1 then textB s1 m1 else (textB s1 m1 ++ ⟨#[47]⟩) ++ textB false k1 := rfl
  rw [hr]
  show Calls _ _ #[ratV s1 m1 false k1] w _
  clear hr h b1 b3 b4 hm hk
  generalize textB s1 m1 = A at *
  generalize textB false k1 = Bq at *
  generalize (cods s1 m1).length = n1 at *
  generalize (cods false k1).length = n2 at *
  go_enter Tryz.func60, Tryz.ntmps60
  go_wp2_with (go_at_call 40; (with_reducible refine (CK _).mono ?_); rintro e y1 ⟨rfl, hz_⟩; have hzz_ : Ext w y1 := Ext.trans ext_auto hz_; have BA : Blk y1 w.heap.size (ratsV s1 m1 false k1) 29 := Blk.ext blk_auto hz_; replace hx := hx.trans hzz_; clear hz_ hzz_; have lBA := BA.lt; have cBA := BA.cell; have fBA := BA.frozen)
  clear CK
  go_wp2_with (go_at_call 92; (with_reducible refine (T1 _).mono ?_); rintro e y2 ⟨rfl, hz_⟩; have hzz_ : Ext y1 y2 := Ext.trans ext_auto hz_; replace BA := BA.ext hzz_; clear lBA cBA fBA; replace hx := hx.trans hzz_; clear hz_ hzz_; have lBA := BA.lt; have cBA := BA.cell; have fBA := BA.frozen)
  by_cases hk1 : k1 = 1
  · rw [decide_eq_true hk1] at EM
    subst hk1
    (first | refine wp_region_k' [.p, .r, .r, .p] (by kernel_rfl) (by kernel_rfl) ?_ | refine wp_region_k [.p, .r, .r, .p] (by kernel_rfl) (by kernel_rfl) ?_); (repeat (first | (refine wpK_p rfl (fun K hK => ?_); go_simp; refine hK _ _ ?_; clear hK K) | (refine wpK_r rfl (fun K hK => ?_); go_simp; refine hK _ _ ?_; clear hK K) | (refine wpK_w rfl (fun K hK => ?_); go_simp; refine hK _ _ ?_; clear hK K) | (refine wpK_r rfl (fun K hK => ?_); go_simp; apply Exists.intro; refine ⟨fun d => ?_, hK _ _ ?_⟩; (with_reducible exact Calls.calm (one_any _)); clear hK K))); refine wpK_nil ?_; intro d
    go_wp2
    exact bodyPost_ret (v := .tuple #[.string A, .int .i64 0]) (by simp [results, Tryz.results60, go_sem]) rfl ⟨by simp, ext_auto⟩
  · rw [decide_eq_false hk1] at EM
    (first | refine wp_region_k' [.p, .r, .r, .p] (by kernel_rfl) (by kernel_rfl) ?_ | refine wp_region_k [.p, .r, .r, .p] (by kernel_rfl) (by kernel_rfl) ?_); (repeat (first | (refine wpK_p rfl (fun K hK => ?_); go_simp; refine hK _ _ ?_; clear hK K) | (refine wpK_r rfl (fun K hK => ?_); go_simp; refine hK _ _ ?_; clear hK K) | (refine wpK_w rfl (fun K hK => ?_); go_simp; refine hK _ _ ?_; clear hK K) | (refine wpK_r rfl (fun K hK => ?_); go_simp; apply Exists.intro; refine ⟨fun d => ?_, hK _ _ ?_⟩; (with_reducible exact Calls.calm (one_any _)); clear hK K))); refine wpK_nil ?_; intro d
    go_wp2_with (go_at_call 92; (with_reducible refine (T2 _).mono ?_); rintro e y3 ⟨rfl, hz_⟩; have hzz_ : Ext y2 y3 := Ext.trans ext_auto hz_; replace hx := hx.trans hzz_; clear hz_ hzz_)
    exact bodyPost_ret (v := .tuple #[.string ((A ++ ⟨#[47]⟩) ++ Bq), .int .i64 0]) (by simp [results, Tryz.results60, go_sem]) rfl ⟨by simp [hk1], ext_auto⟩
theorem rText_no (r : Rt) (h : r.ok = false) (w : World) : Calls Tryz.prog 60 #[r.v] w fun e w' => e = .returned (.tuple #[.string ⟨#[]⟩, .int .i64 2]) ∧ Ext w w' := by
  have hx : Ext w w := Ext.refl w
  obtain ⟨s1, m1, t1, k1, hm, hk⟩ := r
  have CK := rcheck_no s1 m1 t1 k1 hm hk h
  go_enter Tryz.func60, Tryz.ntmps60
  go_wp2_with (go_at_call 40; (with_reducible refine (CK _).mono ?_); rintro e y1 ⟨rfl, hz_⟩; have hzz_ : Ext w y1 := Ext.trans ext_auto hz_; have BA : Blk y1 w.heap.size (ratsV s1 m1 t1 k1) 29 := Blk.ext blk_auto hz_; replace hx := hx.trans hzz_; clear hz_ hzz_; have lBA := BA.lt; have cBA := BA.cell; have fBA := BA.frozen)
  exact bodyPost_ret (v := .tuple #[.string ⟨#[]⟩, .int .i64 2]) (by simp [results, Tryz.results60, go_sem]) rfl ⟨rfl, ext_auto⟩
end Go.Proofs.YtmopgcbhmkemjaaGreatDoor

namespace Go.Proofs.YtmopgcbhmkemjaaGreatDoor
open Go Go.RowKit
set_option linter.unusedSimpArgs false
set_option linter.unusedVariables false
set_option maxRecDepth 100000
set_option exponentiation.threshold 3000

set_option maxHeartbeats 8000000 in
theorem ptText_yes (a b : Rt) (ha : a.pok = true) (hb : b.pok = true) (A C : ByteArray) (zA : A.size ≤ 1000) (zC : C.size ≤ 1000) (T1 : Ans 60 #[a.v] (.tuple #[.string A, .int .i64 0])) (T2 : Ans 60 #[b.v] (.tuple #[.string C, .int .i64 0])) :
    Ans 28 #[pV a b] (.tuple #[.string (A ++ ⟨#[32]⟩ ++ C), .int .i64 0]) := fun w => by
  have hx : Ext w w := Ext.refl w
  have P1 := pright_yes a b ha hb
  clear ha hb
  obtain ⟨sa, ma, ta, ka, _, _⟩ := a
  obtain ⟨sb, mb, tb, kb, _, _⟩ := b
  go_enter Tryz.func28, Tryz.ntmps28
  
  go_wp2_with (first | ((with_reducible apply wpList_load_row Tryz.isAgg31 Tryz.sizeOf31); (case hw => (simp [go_sem, Region.wanted, yielded]; done)); (case hs => exact rfl); (case hB => exact blk_auto); (case hc => rfl)) | (go_at_call 16; (with_reducible refine (P1 _).mono ?_); rintro e y1 ⟨rfl, hz_⟩; have hzz_ : Ext w y1 := Ext.trans ext_auto hz_; have BA : Blk y1 w.heap.size (ptsV sa ma ta ka sb mb tb kb) 31 := Blk.ext blk_auto hz_; replace hx := hx.trans hzz_; clear hz_ hzz_; have lBA := BA.lt; have cBA := BA.cell; have fBA := BA.frozen))
  go_wp2_with (go_at_call 60; (with_reducible refine (T1 _).mono ?_); rintro e y2 ⟨rfl, hz_⟩; have hzz_ : Ext y1 y2 := Ext.trans ext_auto hz_; replace BA := BA.ext hzz_; clear lBA cBA fBA; replace hx := hx.trans hzz_; clear hz_ hzz_; have lBA := BA.lt; have cBA := BA.cell; have fBA := BA.frozen)
  go_wp2_with (go_at_call 60; (with_reducible refine (T2 _).mono ?_); rintro e y3 ⟨rfl, hz_⟩; have hzz_ : Ext y2 y3 := Ext.trans ext_auto hz_)
  exact bodyPost_ret (v := .tuple #[.string (A ++ ⟨#[32]⟩ ++ C), .int .i64 0]) (by simp [results, Tryz.results28, go_sem]) rfl ⟨rfl, hx.trans hzz_⟩
set_option maxHeartbeats 8000000 in
theorem ptText_no (a b : Rt) (h : (a.pok && b.pok) = false) :
    Ans 28 #[pV a b] (.tuple #[.string ⟨#[]⟩, .int .i64 2]) := fun w => by
  have hx : Ext w w := Ext.refl w
  have P1 := pright_no a b h
  clear h
  obtain ⟨sa, ma, ta, ka, _, _⟩ := a
  obtain ⟨sb, mb, tb, kb, _, _⟩ := b
  go_enter Tryz.func28, Tryz.ntmps28
  go_wp2_with (first | ((with_reducible apply wpList_load_row Tryz.isAgg31 Tryz.sizeOf31); (case hw => (simp [go_sem, Region.wanted, yielded]; done)); (case hs => exact rfl); (case hB => exact blk_auto); (case hc => rfl)) | (go_at_call 16; (with_reducible refine (P1 _).mono ?_); rintro e y3 ⟨rfl, hz_⟩; have hzz_ : Ext w y3 := Ext.trans ext_auto hz_))
  exact bodyPost_ret (v := .tuple #[.string ⟨#[]⟩, .int .i64 2]) (by simp [results, Tryz.results28, go_sem]) rfl ⟨rfl, hzz_⟩
set_option maxHeartbeats 32000000 in
theorem PHolds_walk (a b c d U1 U2 T1 T2 Q1 Q2 : Rt) (x y cc ee gg ii jj kk gx gy : Int) (qq gi : Bool) (u : ByteArray) (hcc : -1 ≤ cc ∧ cc ≤ 1)
    (C1 : Ans 21 #[pV a b, pV c d] (.tuple #[.int .i64 cc, .int .i64 ee])) (C2 : Ans 21 #[pV c d, pV a b] (.tuple #[.int .i64 (-cc), .int .i64 ee]))
    (M1 : AnsT 22 #[pV a b, pV c d] (.tuple #[pV U1 U2, .int .i64 gg])) (M2 : AnsT 22 #[pV c d, pV a b] (.tuple #[pV U1 U2, .int .i64 gg]))
    (he : ee = 0 ∨ ee = 2) (EQ : ∀ w, (Op.equalIn 10000 31 (pV a b) (pV c d)).run Tryz.prog w = .ok qq w) (hq : ee = 0 → qq = decide (cc = 0))
    (hg : gg = 2 ∨ gg = 110 ∨ (gg = 0 ∧ Ans 21 #[pV a b, pV U1 U2] (.tuple #[.int .i64 cc, .int .i64 0]) ∧ Ans 21 #[pV U1 U2, pV c d] (.tuple #[.int .i64 cc, .int .i64 0])))
    (TX : Ans 28 #[pV a b] (.tuple #[.string u, .int .i64 ii])) (PA : Ans 29 #[.string u] (.tuple #[pV T1 T2, .int .i64 jj]))
    (hi : ii = 2 ∨ (ii = 0 ∧ jj = 0 ∧ EqT 31 (pV T1 T2) (pV a b)))
    (OF : ∀ w, Calls Tryz.prog 9 #[ndV x y] w fun e w' => e = .returned (.tuple #[pV Q1 Q2, .int .i64 kk]) ∧ Ext w w') (GR : ∀ w, Calls Tryz.prog 10 #[pV Q1 Q2] w fun e w' => e = .returned (.tuple #[ndV gx gy, .bool gi]) ∧ Ext w w')
    (hk : kk = 2 ∨ (kk = 0 ∧ gi = true ∧ gx = x ∧ gy = y))
    (w : World) (hT : Tab w) : Calls Tryz.prog 6 #[pV a b, pV c d, ndV x y] w fun e w' => e = .returned (.bool true) ∧ Ext w w' := by
  have hx : Ext w w := Ext.refl w
  have EU := eqT_pt U1 U2
  have EN := eqT_nd x y
  obtain ⟨sa, ma, ta, ka, _, _⟩ := a
  obtain ⟨sb, mb, tb, kb, _, _⟩ := b
  obtain ⟨sc, mc, tc, kc, _, _⟩ := c
  obtain ⟨sd, md, td, kd, _, _⟩ := d
  obtain ⟨se, me, te, ke, _, _⟩ := U1
  obtain ⟨sf, mf, tf, kf, _, _⟩ := U2
  obtain ⟨sg, mg, tg, kg, _, _⟩ := T1
  obtain ⟨sh, mh, th, kh, _, _⟩ := T2
  obtain ⟨sp, mp, tp, kp, _, _⟩ := Q1
  obtain ⟨sq, mq, tq, kq, _, _⟩ := Q2
  go_enter Tryz.func6, Tryz.ntmps6
  go_upto_region 1 with fail
  refine wp_rebase fun v0 hv => ?_
  replace hx : Ext w v0 := by rw [hv]; exact ext_auto
  have BA : Blk v0 w.heap.size (ptsV sa ma ta ka sb mb tb kb) 31 := by rw [hv]; exact blk_auto
  have BB : Blk v0 (w.heap.size + 1) (ptsV sc mc tc kc sd md td kd) 31 := by rw [hv]; exact blk_auto
  have BN : Blk v0 (w.heap.size + 1 + 1) #[.int .i64 x, .int .i64 y] 23 := by rw [hv]; exact blk_auto
  clear hv
  have lBA := BA.lt; have cBA := BA.cell; have fBA := BA.frozen; have lBB := BB.lt; have cBB := BB.cell; have fBB := BB.frozen; have lBN := BN.lt; have cBN := BN.cell; have fBN := BN.frozen
  
  go_wp2_with (first | (go_at_call 14; (with_reducible refine (num_p _ _).mono ?_); rintro e w2 ⟨rfl, h2_⟩; subst w2) | ((with_reducible apply wpList_load_row Tryz.isAgg31 Tryz.sizeOf31); (case hw => (simp [go_sem, Region.wanted, yielded]; done)); (case hs => exact rfl); (case hB => exact blk_auto); (case hc => rfl)) | (go_at_call 21; (with_reducible refine (C1 _).mono ?_); rintro e v1 ⟨rfl, hz_⟩; have hzz_ : Ext v0 v1 := Ext.trans ext_auto hz_; replace BA := BA.ext hzz_; clear lBA cBA fBA; replace BB := BB.ext hzz_; clear lBB cBB fBB; replace BN := BN.ext hzz_; clear lBN cBN fBN; replace hx := hx.trans hzz_; clear hz_ hzz_; have lBA := BA.lt; have cBA := BA.cell; have fBA := BA.frozen; have lBB := BB.lt; have cBB := BB.cell; have fBB := BB.frozen; have lBN := BN.lt; have cBN := BN.cell; have fBN := BN.frozen))
  go_upto_region 2 with fail
  clear C1
  go_wp2_with (first | (go_at_call 14; (with_reducible refine (num_p _ _).mono ?_); rintro e w2 ⟨rfl, h2_⟩; subst w2) | ((with_reducible apply wpList_load_row Tryz.isAgg31 Tryz.sizeOf31); (case hw => (simp [go_sem, Region.wanted, yielded]; done)); (case hs => exact rfl); (case hB => exact blk_auto); (case hc => rfl)) | (go_at_call 21; (with_reducible refine (C2 _).mono ?_); rintro e v2 ⟨rfl, hz_⟩; have hzz_ : Ext v1 v2 := Ext.trans ext_auto hz_; replace BA := BA.ext hzz_; clear lBA cBA fBA; replace BB := BB.ext hzz_; clear lBB cBB fBB; replace BN := BN.ext hzz_; clear lBN cBN fBN; replace hx := hx.trans hzz_; clear hz_ hzz_; have lBA := BA.lt; have cBA := BA.cell; have fBA := BA.frozen; have lBB := BB.lt; have cBB := BB.cell; have fBB := BB.frozen; have lBN := BN.lt; have cBN := BN.cell; have fBN := BN.frozen))
  clear C2
  go_upto_region 4 with (first | ((with_reducible apply wpList_store_row info_point); (case hs => exact rfl); (case hv => exact rfl); (case hB => exact blk_auto); (case hy => rfl); (case hc => rfl); (case h1 => rfl)) | ((with_reducible apply wpList_load_row Tryz.isAgg31 Tryz.sizeOf31); (case hw => (simp [go_sem, Region.wanted, yielded]; done)); (case hs => exact rfl); (case hB => exact blk_auto); (case hc => rfl)) | (go_at_call 14; (with_reducible refine (num_p _ _).mono ?_); rintro e w2 ⟨rfl, h2_⟩; subst w2) | (go_at_call 22; (with_reducible refine (M1 _ (hT.ext (hx.trans ext_auto))).mono ?_); rintro e y3 ⟨rfl, hz_⟩; have hzz_ : Ext v2 y3 := Ext.trans ext_auto hz_))
  refine wp_rebase fun v3 hv => ?_
  have hzv : Ext y3 v3 := by rw [hv]; exact Ext.setRow ext_auto (Nat.le_refl _)
  have BM : Blk v3 y3.heap.size (ptsV se me te ke sf mf tf kf) 31 := by rw [hv]; exact Blk.setRowSame (Blk.new _ _ _ rfl)
  clear hv
  replace BA := (BA.ext hzz_).ext hzv
  replace BB := (BB.ext hzz_).ext hzv
  replace BN := (BN.ext hzz_).ext hzv
  replace hx := (hx.trans hzz_).trans hzv
  clear hzz_ hzv hz_
  clear lBA cBA fBA lBB cBB fBB lBN cBN fBN
  have lBA := BA.lt; have cBA := BA.cell; have fBA := BA.frozen; have lBB := BB.lt; have cBB := BB.cell; have fBB := BB.frozen; have lBN := BN.lt; have cBN := BN.cell; have fBN := BN.frozen; have lBM := BM.lt; have cBM := BM.cell; have fBM := BM.frozen
  clear M1
  go_upto_region 5 with (first | ((with_reducible apply wpList_store_row info_point); (case hs => exact rfl); (case hv => exact rfl); (case hB => exact blk_auto); (case hy => rfl); (case hc => rfl); (case h1 => rfl)) | ((with_reducible apply wpList_load_row Tryz.isAgg31 Tryz.sizeOf31); (case hw => (simp [go_sem, Region.wanted, yielded]; done)); (case hs => exact rfl); (case hB => exact blk_auto); (case hc => rfl)) | (go_at_call 14; (with_reducible refine (num_p _ _).mono ?_); rintro e w2 ⟨rfl, h2_⟩; subst w2) | (go_at_call 22; (with_reducible refine (M2 _ (hT.ext (hx.trans ext_auto))).mono ?_); rintro e y4 ⟨rfl, hz_⟩; have hzz_ : Ext v3 y4 := Ext.trans ext_auto hz_))
  refine wp_rebase fun v hv => ?_
  have hzv : Ext y4 v := by rw [hv]; exact Ext.setRow ext_auto (Nat.le_refl _)
  have BM2 : Blk v y4.heap.size (ptsV se me te ke sf mf tf kf) 31 := by rw [hv]; exact Blk.setRowSame (Blk.new _ _ _ rfl)
  clear hv
  replace BA := (BA.ext hzz_).ext hzv
  replace BB := (BB.ext hzz_).ext hzv
  replace BN := (BN.ext hzz_).ext hzv
  replace BM := (BM.ext hzz_).ext hzv
  replace hx := (hx.trans hzz_).trans hzv
  clear hzz_ hzv hz_
  clear lBA cBA fBA lBB cBB fBB lBN cBN fBN lBM cBM fBM
  have lBA := BA.lt; have cBA := BA.cell; have fBA := BA.frozen; have lBB := BB.lt; have cBB := BB.cell; have fBB := BB.frozen; have lBN := BN.lt; have cBN := BN.cell; have fBN := BN.frozen; have lBM := BM.lt; have cBM := BM.cell; have fBM := BM.frozen; have lBM2 := BM2.lt; have cBM2 := BM2.cell; have fBM2 := BM2.frozen
  clear M2
  have n1 : -9223372036854775808 ≤ -cc := by omega
  have n2 : -cc ≤ 9223372036854775807 := by omega
  have n3 : - -cc = cc := by omega
  have n4 : -9223372036854775808 ≤ cc := by omega
  have n5 : cc ≤ 9223372036854775807 := by omega
  go_cut [82] (fun s z => s = .bool false ∧ Ext v z)
  case first =>
    rcases he with rfl | rfl
    · have hq' := hq rfl
      subst hq'
      go_wp2_with (first | ((with_reducible apply wpList_load_row Tryz.isAgg31 Tryz.sizeOf31); (case hw => (simp [go_sem, Region.wanted, yielded]; done)); (case hs => exact rfl); (case hB => exact blk_auto); (case hc => rfl)) | (go_at_call 14; (with_reducible refine (num_p _ _).mono ?_); rintro e w2 ⟨rfl, h2_⟩; subst w2))
      go_meet
      case rel => exact ⟨by simp; rfl, ext_auto⟩
    · clear hq
      go_wp2_with (first | ((with_reducible apply wpList_load_row Tryz.isAgg31 Tryz.sizeOf31); (case hw => (simp [go_sem, Region.wanted, yielded]; done)); (case hs => exact rfl); (case hB => exact blk_auto); (case hc => rfl)) | (go_at_call 14; (with_reducible refine (num_p _ _).mono ?_); rintro e w2 ⟨rfl, h2_⟩; subst w2))
      go_meet
      case rel => exact ⟨rfl, ext_auto⟩
  case rest =>
  obtain ⟨rfl, hz⟩ := hcut
  replace BA := BA.ext hz; replace BB := BB.ext hz; replace BN := BN.ext hz; replace BM := BM.ext hz
  replace hx := hx.trans hz
  clear hz lBA cBA fBA lBB cBB fBB lBN cBN fBN lBM cBM fBM BM2 lBM2 cBM2 fBM2 EQ EU hq
  have lBA := BA.lt; have cBA := BA.cell; have fBA := BA.frozen; have lBB := BB.lt; have cBB := BB.cell; have fBB := BB.frozen; have lBN := BN.lt; have cBN := BN.cell; have fBN := BN.frozen; have lBM := BM.lt; have cBM := BM.cell; have fBM := BM.frozen
  go_upto_if 85 with (go_at_call 14; (with_reducible refine (num_p _ _).mono ?_); rintro e w2 ⟨rfl, h2_⟩; subst w2)
  obtain ⟨v, rfl⟩ : ∃ v', v' = wc := ⟨_, rfl⟩
  go_cut [] (fun z => Ext v z)
  case first =>
    rcases hg with rfl | rfl | ⟨rfl, C3, C4⟩
    · go_wp2_with (go_at_call 14; (with_reducible refine (num_p _ _).mono ?_); rintro e w2 ⟨rfl, h2_⟩; subst w2)
      go_meet
      case rel => exact ext_auto
    · go_wp2_with (go_at_call 14; (with_reducible refine (num_p _ _).mono ?_); rintro e w2 ⟨rfl, h2_⟩; subst w2)
      go_meet
      case rel => exact ext_auto
    · have hvv : Ext v v := Ext.refl v
      go_wp2_with (first | (go_at_call 14; (with_reducible refine (num_p _ _).mono ?_); rintro e w2 ⟨rfl, h2_⟩; subst w2) | ((with_reducible apply wpList_load_row Tryz.isAgg31 Tryz.sizeOf31); (case hw => (simp [go_sem, Region.wanted, yielded]; done)); (case hs => exact rfl); (case hB => exact blk_auto); (case hc => rfl)) | (go_at_call 21; (with_reducible refine (C3 _).mono ?_); rintro e z1 ⟨rfl, hz_⟩; have hzz_ : Ext v z1 := Ext.trans ext_auto hz_; replace hvv := Ext.trans hvv hzz_; replace BA := BA.ext hzz_; clear lBA cBA fBA; replace BB := BB.ext hzz_; clear lBB cBB fBB; replace BM := BM.ext hzz_; clear lBM cBM fBM; replace hx := hx.trans hzz_; clear hz_ hzz_; have lBA := BA.lt; have cBA := BA.cell; have fBA := BA.frozen; have lBB := BB.lt; have cBB := BB.cell; have fBB := BB.frozen; have lBM := BM.lt; have cBM := BM.cell; have fBM := BM.frozen))
      go_upto_region 9 with fail
      go_wp2_with (first | (go_at_call 14; (with_reducible refine (num_p _ _).mono ?_); rintro e w2 ⟨rfl, h2_⟩; subst w2) | ((with_reducible apply wpList_load_row Tryz.isAgg31 Tryz.sizeOf31); (case hw => (simp [go_sem, Region.wanted, yielded]; done)); (case hs => exact rfl); (case hB => exact blk_auto); (case hc => rfl)) | (go_at_call 21; (with_reducible refine (C4 _).mono ?_); rintro e z2 ⟨rfl, hz_⟩; have hzz_ : Ext z1 z2 := Ext.trans ext_auto hz_; replace hvv := Ext.trans hvv hzz_; replace BA := BA.ext hzz_; clear lBA cBA fBA; replace hx := hx.trans hzz_; clear hz_ hzz_; have lBA := BA.lt; have cBA := BA.cell; have fBA := BA.frozen))
      go_wp2_with (go_at_call 14; (with_reducible refine (num_p _ _).mono ?_); rintro e w2 ⟨rfl, h2_⟩; subst w2)
      go_meet
      case rel => exact Ext.trans hvv ext_auto
  case rest =>
  replace BA := BA.ext hcut; replace BN := BN.ext hcut
  replace hx := hx.trans hcut
  clear hcut lBA cBA fBA lBN cBN fBN lBB cBB fBB BB lBM cBM fBM BM hg
  have lBA := BA.lt; have cBA := BA.cell; have fBA := BA.frozen; have lBN := BN.lt; have cBN := BN.cell; have fBN := BN.frozen
  go_wp2_with (first | (go_at_call 14; (with_reducible refine (num_p _ _).mono ?_); rintro e w2 ⟨rfl, h2_⟩; subst w2) | ((with_reducible apply wpList_load_row Tryz.isAgg31 Tryz.sizeOf31); (case hw => (simp [go_sem, Region.wanted, yielded]; done)); (case hs => exact rfl); (case hB => exact blk_auto); (case hc => rfl)) | (go_at_call 28; (with_reducible refine (TX _).mono ?_); rintro e z3 ⟨rfl, hz_⟩; have hzz_ : Ext wc z3 := Ext.trans ext_auto hz_; replace BA := BA.ext hzz_; clear lBA cBA fBA; replace BN := BN.ext hzz_; clear lBN cBN fBN; replace hx := hx.trans hzz_; clear hz_ hzz_; have lBA := BA.lt; have cBA := BA.cell; have fBA := BA.frozen; have lBN := BN.lt; have cBN := BN.cell; have fBN := BN.frozen))
  clear TX
  go_upto_region 14 with (first | ((with_reducible apply wpList_store_row info_point); (case hs => exact rfl); (case hv => exact rfl); (case hB => exact blk_auto); (case hy => rfl); (case hc => rfl); (case h1 => rfl)) | ((with_reducible apply wpList_load_row Tryz.isAgg31 Tryz.sizeOf31); (case hw => (simp [go_sem, Region.wanted, yielded]; done)); (case hs => exact rfl); (case hB => exact blk_auto); (case hc => rfl)) | (go_at_call 14; (with_reducible refine (num_p _ _).mono ?_); rintro e w2 ⟨rfl, h2_⟩; subst w2) | (go_at_call 29; (with_reducible refine (PA _).mono ?_); rintro e y5 ⟨rfl, hz_⟩; have hzz_ : Ext z3 y5 := Ext.trans ext_auto hz_))
  refine wp_rebase fun v6 hv => ?_
  have hzv : Ext y5 v6 := by rw [hv]; exact Ext.setRow ext_auto (Nat.le_refl _)
  have BT : Blk v6 y5.heap.size (ptsV sg mg tg kg sh mh th kh) 31 := by rw [hv]; exact Blk.setRowSame (Blk.new _ _ _ rfl)
  clear hv
  replace BA := (BA.ext hzz_).ext hzv
  replace BN := (BN.ext hzz_).ext hzv
  replace hx := (hx.trans hzz_).trans hzv
  clear hzz_ hzv hz_
  clear lBA cBA fBA lBN cBN fBN
  have lBA := BA.lt; have cBA := BA.cell; have fBA := BA.frozen; have lBN := BN.lt; have cBN := BN.cell; have fBN := BN.frozen; have lBT := BT.lt; have cBT := BT.cell; have fBT := BT.frozen
  clear PA
  go_cut [136] (fun s z => s = .bool false ∧ Ext v6 z)
  case first =>
    rcases hi with rfl | ⟨rfl, rfl, ET⟩
    · go_wp2_with (first | ((with_reducible apply wpList_load_row Tryz.isAgg31 Tryz.sizeOf31); (case hw => (simp [go_sem, Region.wanted, yielded]; done)); (case hs => exact rfl); (case hB => exact blk_auto); (case hc => rfl)) | (go_at_call 14; (with_reducible refine (num_p _ _).mono ?_); rintro e w2 ⟨rfl, h2_⟩; subst w2))
      go_meet
      case rel => exact ⟨rfl, ext_auto⟩
    · go_wp2_with (first | ((with_reducible apply wpList_load_row Tryz.isAgg31 Tryz.sizeOf31); (case hw => (simp [go_sem, Region.wanted, yielded]; done)); (case hs => exact rfl); (case hB => exact blk_auto); (case hc => rfl)) | (go_at_call 14; (with_reducible refine (num_p _ _).mono ?_); rintro e w2 ⟨rfl, h2_⟩; subst w2))
      go_meet
      case rel => exact ⟨rfl, ext_auto⟩
  case rest =>
  obtain ⟨rfl, hz⟩ := hcut
  replace BN := BN.ext hz
  replace hx := hx.trans hz
  clear hz lBA cBA fBA BA lBN cBN fBN BT lBT cBT fBT hi
  have lBN := BN.lt; have cBN := BN.cell; have fBN := BN.frozen
  go_upto_region 16 with fail
  obtain ⟨v7, rfl⟩ : ∃ v', v' = wc := ⟨_, rfl⟩
  go_upto_region 17 with (first | ((with_reducible apply wpList_store_row info_point); (case hs => exact rfl); (case hv => exact rfl); (case hB => exact blk_auto); (case hy => rfl); (case hc => rfl); (case h1 => rfl)) | ((with_reducible apply wpList_load_row Tryz.isAgg31 Tryz.sizeOf31); (case hw => (simp [go_sem, Region.wanted, yielded]; done)); (case hs => exact rfl); (case hB => exact blk_auto); (case hc => rfl)) | (go_at_call 14; (with_reducible refine (num_p _ _).mono ?_); rintro e w2 ⟨rfl, h2_⟩; subst w2) | (go_at_call 9; (with_reducible refine (OF _).mono ?_); rintro e y8 ⟨rfl, hz_⟩; have hzz_ : Ext v7 y8 := Ext.trans ext_auto hz_))
  refine wp_rebase fun v8 hv => ?_
  have hzv : Ext y8 v8 := by rw [hv]; exact Ext.setRow ext_auto (Nat.le_refl _)
  have BQ : Blk v8 y8.heap.size (ptsV sp mp tp kp sq mq tq kq) 31 := by rw [hv]; exact Blk.setRowSame (Blk.new _ _ _ rfl)
  clear hv
  replace BN := (BN.ext hzz_).ext hzv
  replace hx := (hx.trans hzz_).trans hzv
  clear hzz_ hzv hz_
  clear lBN cBN fBN
  have lBN := BN.lt; have cBN := BN.cell; have fBN := BN.frozen; have lBQ := BQ.lt; have cBQ := BQ.cell; have fBQ := BQ.frozen
  clear OF
  go_upto_region 18 with (first | ((with_reducible apply wpList_load_row Tryz.isAgg31 Tryz.sizeOf31); (case hw => (simp [go_sem, Region.wanted, yielded]; done)); (case hs => exact rfl); (case hB => exact blk_auto); (case hc => rfl)) | (go_at_call 10; (with_reducible refine (GR _).mono ?_); rintro e y9 ⟨rfl, hz_⟩; have hzz_ : Ext v8 y9 := Ext.trans ext_auto hz_))
  refine wp_rebase fun v9 hv => ?_
  have hzv : Ext y9 v9 := by rw [hv]; exact ext_auto
  have BG : Blk v9 y9.heap.size #[.int .i64 gx, .int .i64 gy] 23 := by rw [hv]; exact blk_auto
  clear hv
  replace BN := (BN.ext hzz_).ext hzv
  replace hx := (hx.trans hzz_).trans hzv
  clear hzz_ hzv hz_ lBN cBN fBN BQ lBQ cBQ fBQ GR
  have lBN := BN.lt; have cBN := BN.cell; have fBN := BN.frozen; have lBG := BG.lt; have cBG := BG.cell; have fBG := BG.frozen
  rcases hk with rfl | ⟨rfl, rfl, rfl, rfl⟩
  · go_wp2_with (first | (go_at_call 14; (with_reducible refine (num_p _ _).mono ?_); rintro e w2 ⟨rfl, h2_⟩; subst w2) | (go_at_call 18; (with_reducible refine (worksP_true _ (hT.ext (hx.trans ext_auto))).mono ?_); rintro e z9 ⟨rfl, hz_⟩; have hzz_ : Ext v9 z9 := Ext.trans ext_auto hz_))
    exact bodyPost_ret (v := .bool true) (by simp [results, Tryz.results6, go_sem]) rfl ⟨rfl, hx.trans hzz_⟩
  · go_wp2_with (first | (go_at_call 14; (with_reducible refine (num_p _ _).mono ?_); rintro e w2 ⟨rfl, h2_⟩; subst w2) | (go_at_call 18; (with_reducible refine (worksP_true _ (hT.ext (hx.trans ext_auto))).mono ?_); rintro e z9 ⟨rfl, hz_⟩; have hzz_ : Ext v9 z9 := Ext.trans ext_auto hz_))
    exact bodyPost_ret (v := .bool true) (by simp [results, Tryz.results6, go_sem]) rfl ⟨rfl, hx.trans hzz_⟩
end Go.Proofs.YtmopgcbhmkemjaaGreatDoor

namespace Go.Proofs.YtmopgcbhmkemjaaGreatDoor
open Go Go.RowKit
set_option linter.unusedSimpArgs false
set_option linter.unusedVariables false
set_option maxRecDepth 100000
set_option exponentiation.threshold 3000

theorem textB_list (s : Bool) (m : Nat) : (textB s m).data.toList = (if s then [45] else []) ++ (rdg m).reverse.map fun d => UInt8.ofNat (48 + d) := by
  cases s <;> simp [textB, cods, List.map_reverse]
theorem textB_ne47 (s : Bool) (m : Nat) : ∀ c ∈ (textB s m).data.toList, c ≠ 47 := by
  intro c hc e
  rw [textB_list] at hc
  rcases List.mem_append.1 hc with h | h
  · cases s with
    | false => cases h
    | true =>
      have h45 : c = 45 := by simpa using h
      rw [h45] at e
      exact absurd e (by decide)
  · obtain ⟨d, hd, rfl⟩ := List.mem_map.1 h
    have hd9 := rdg_lt m d (by simpa using hd)
    have := congrArg UInt8.toNat e
    rw [UInt8.toNat_ofNat', Nat.mod_eq_of_lt (by omega)] at this
    have h47 : (47 : UInt8).toNat = 47 := rfl
    omega
theorem Parse_textB (s : Bool) (m : Nat) (hm : m < B4) (hb : badI s m = false) (w : World) :
    Calls Tryz.prog 97 #[.string (textB s m)] w fun e w' => e = .returned (.tuple #[intV s m, .int .i64 0]) ∧ Ext w w' := by
  have hl := textB_list s m
  have hp := rdg_pos m
  have h78 := rdg_B4 m hm
  have ht := rdg_top m
  have hv := rdg_val m
  have hz := textB_size s m
  have hd : ∀ i, i < (rdg m).reverse.length → ((rdg m).reverse.map fun d => UInt8.ofNat (48 + d))[i]? = some (UInt8.ofNat (48 + (rdg m).reverse.getD i 0)) := fun i hi => by
    rw [List.getElem?_map, List.getD_eq_getElem?_getD, List.getElem?_eq_getElem hi]; rfl
  have hg : ∀ i, (textB s m).data[i]? = (textB s m).data.toList[i]? := fun i => by rw [Array.getElem?_toList]
  cases s with
  | false =>
    have := Parse_pos (textB false m) (rdg m).reverse (by rw [hz]; simp [cods]) (fun i hi => by rw [hg, hl]; exact hd i hi) (rdg_decs m) (by simpa using hp) (by simp; omega)
      (by rcases ht with h | h
          · exact .inl h
          · right; simpa using h) (by rw [hv]; exact hm) w
    rwa [hv] at this
  | true =>
    have hm0 : m ≠ 0 := by intro e; subst e; simp [badI] at hb
    have := Parse_neg (textB true m) (rdg m).reverse (by rw [hz]; simp [cods]; omega) (by rw [hg, hl]; rfl) (fun i hi => by rw [hg, hl, Nat.add_comm]; exact hd i hi) (rdg_decs m) (by simpa using hp) (by simp; omega)
      (by rcases ht with h | h
          · exact h
          · intro e
            have h1 : m / 10 = 0 := by
              by_cases h2 : m / 10 = 0
              · exact h2
              · rw [rdg_eq, if_neg h2] at h
                have := rdg_pos (m / 10)
                simp at h; simp [h] at this
            rw [rdg_eq, if_pos h1] at e
            simp at e
            omega) (by rw [hv]; exact hm0) (by rw [hv]; exact hm) w
    rwa [hv] at this
theorem idx_no : ∀ (l : List UInt8), (∀ c ∈ l, c ≠ 47) → Lib.indexByte l 47 = -1
  | [], _ => rfl
  | b :: l, h => by
    have h1 := idx_no l fun c hc => h c (List.mem_cons_of_mem _ hc)
    have h2 : (b == 47) = false := by simpa using h b (List.mem_cons_self ..)
    simp [Lib.indexByte, h1, h2]
theorem idx_at : ∀ (l r : List UInt8), (∀ c ∈ l, c ≠ 47) → Lib.indexByte (l ++ 47 :: r) 47 = (l.length : Int)
  | [], r, _ => by simp [Lib.indexByte]
  | b :: l, r, h => by
    have h1 := idx_at l r fun c hc => h c (List.mem_cons_of_mem _ hc)
    have h2 : (b == 47) = false := by simpa using h b (List.mem_cons_self ..)
    have h3 : ((l.length : Int) == -1) = false := by simp only [beq_eq_false_iff_ne]; omega
    simp [Lib.indexByte, h1, h2, h3]
theorem textB_not (k : Nat) (c : Nat) (hc : c < 10) (h : k ≠ c) : ((textB false k).toList == [UInt8.ofNat (48 + c)]) = false := by
  rw [beq_eq_false_iff_ne]
  intro e
  rw [ByteArray.toList_eq, textB_list] at e
  have hl : (rdg k).length = 1 := by
    have := congrArg List.length e
    simpa using this
  have hq : k / 10 = 0 := by
    by_cases h2 : k / 10 = 0
    · exact h2
    · rw [rdg_eq, if_neg h2] at hl
      have := rdg_pos (k / 10)
      simp at hl; simp [hl] at this
  rw [rdg_eq, if_pos hq] at e
  simp only [List.reverse_singleton, List.map_cons, List.map_nil, Bool.false_eq_true, if_false, List.nil_append, List.cons.injEq, and_true] at e
  have := congrArg UInt8.toNat e
  rw [UInt8.toNat_ofNat', UInt8.toNat_ofNat', Nat.mod_eq_of_lt (by omega), Nat.mod_eq_of_lt (by omega)] at this
  omega
theorem textB_front (k : Nat) : (((textB false k).extract 0 1).toList == [45]) = false := by
  rw [beq_eq_false_iff_ne]
  intro e
  rw [ByteArray.toList_eq, ByteArray.data_extract] at e
  have h1 : ((textB false k).data.extract 0 1).toList = (textB false k).data.toList.take 1 := by simp
  rw [h1, textB_list] at e
  have hm : (45 : UInt8) ∈ (rdg k).reverse.map fun d => UInt8.ofNat (48 + d) := by
    have : (45 : UInt8) ∈ ((if false = true then [45] else []) ++ (rdg k).reverse.map fun d => UInt8.ofNat (48 + d)).take 1 := by rw [e]; simp
    simpa using List.mem_of_mem_take this
  obtain ⟨d, hd, h⟩ := List.mem_map.1 hm
  have hd9 := rdg_lt k d (by simpa using hd)
  have := congrArg UInt8.toNat h
  rw [UInt8.toNat_ofNat', Nat.mod_eq_of_lt (by omega)] at this
  have h45 : (45 : UInt8).toNat = 45 := rfl
  omega
end Go.Proofs.YtmopgcbhmkemjaaGreatDoor

namespace Go.Proofs.YtmopgcbhmkemjaaGreatDoor
open Go Go.RowKit
set_option linter.unusedSimpArgs false
set_option linter.unusedVariables false
set_option maxRecDepth 100000
set_option exponentiation.threshold 3000

theorem textB_ne32 (s : Bool) (m : Nat) : ∀ c ∈ (textB s m).data.toList, c ≠ 32 := by
  intro c hc e
  rw [textB_list] at hc
  rcases List.mem_append.1 hc with h | h
  · cases s with
    | false => cases h
    | true =>
      have h45 : c = 45 := by simpa using h
      rw [h45] at e
      exact absurd e (by decide)
  · obtain ⟨d, hd, rfl⟩ := List.mem_map.1 h
    have hd9 := rdg_lt m d (by simpa using hd)
    have := congrArg UInt8.toNat e
    rw [UInt8.toNat_ofNat', Nat.mod_eq_of_lt (by omega)] at this
    have h47 : (32 : UInt8).toNat = 32 := rfl
    omega
theorem idx_at32 : ∀ (l r : List UInt8), (∀ c ∈ l, c ≠ 32) → Lib.indexByte (l ++ 32 :: r) 32 = (l.length : Int)
  | [], r, _ => by simp [Lib.indexByte]
  | b :: l, r, h => by
    have h1 := idx_at32 l r fun c hc => h c (List.mem_cons_of_mem _ hc)
    have h2 : (b == 32) = false := by simpa using h b (List.mem_cons_self ..)
    have h3 : ((l.length : Int) == -1) = false := by simp only [beq_eq_false_iff_ne]; omega
    simp [Lib.indexByte, h1, h2, h3]
theorem join_left (x : UInt8) (A C : ByteArray) : ((A ++ ⟨#[x]⟩) ++ C).extract 0 A.size = A := by
  rw [ByteArray.append_assoc]; exact ByteArray.extract_append_eq_left rfl
theorem join_right (x : UInt8) (A C : ByteArray) : ((A ++ ⟨#[x]⟩) ++ C).extract (A.size + 1) ((A ++ ⟨#[x]⟩) ++ C).size = C := by
  exact ByteArray.extract_append_eq_right (by simp [ByteArray.size_append]; rfl) (by simp [ByteArray.size_append])
theorem join_list (x : UInt8) (A C : ByteArray) : ((A ++ ⟨#[x]⟩) ++ C).data.toList = A.data.toList ++ x :: C.data.toList := by
  simp [ByteArray.data_append]
theorem join_size (x : UInt8) (A C : ByteArray) : ((A ++ ⟨#[x]⟩) ++ C).size = A.size + 1 + C.size := by
  rw [ByteArray.size_append, ByteArray.size_append]; rfl
theorem ratT_ne32 (a : Rt) : ∀ c ∈ (ratT a).data.toList, c ≠ 32 := by
  unfold ratT
  split
  · exact textB_ne32 _ _
  · intro c hc
    rw [join_list] at hc
    rcases List.mem_append.1 hc with h | h
    · exact textB_ne32 _ _ c h
    · rcases List.mem_cons.1 h with rfl | h
      · decide
      · exact textB_ne32 _ _ c h
theorem ratT_size (a : Rt) : (ratT a).size ≤ 200 := by
  have S1 := textB_size a.s a.m
  have S2 := textB_size a.t a.k
  have L1 := cods_len a.s a.m a.hm
  have L2 := cods_len a.t a.k a.hk
  unfold ratT
  split
  · omega
  · rw [join_size]; omega
theorem ratT_parse (a : Rt) (h : a.ok = true) : Ans 62 #[.string (ratT a)] (.tuple #[a.v, .int .i64 0]) := by
  have hok := h
  obtain ⟨b1, b2, b3, b4⟩ := (okR_iff _ _ _ _).1 h
  obtain ⟨s1, m1, t1, k1, hm, hk⟩ := a
  dsimp only at b1 b2 b3 b4
  subst b2
  have hbad : badI s1 m1 = false := by cases s1 <;> simp_all [badI]
  have ca := Parse_textB s1 m1 hm hbad
  have cb := Parse_textB false k1 hk rfl
  intro w
  apply rP_calls
  show CallsIn _ _ _ _ _ _ fun e w' => e = .returned (.tuple #[ratV s1 m1 false k1, .int .i64 0]) ∧ _
  by_cases hk1 : k1 = 1
  · subst hk1
    have e : ratT ⟨s1, m1, false, 1, hm, hk⟩ = textB s1 m1 := rfl
    rw [e]
    exact rParse_one 3 (by omega) (textB s1 m1) (textB s1 m1) ⟨#[]⟩ (cCut_no _ (idx_no _ (textB_ne47 s1 m1))) s1 m1 hm ca _ 0 (.inl ⟨hok, rfl, rfl⟩) w
  · have e : ratT ⟨s1, m1, false, k1, hm, hk⟩ = (textB s1 m1 ++ ⟨#[47]⟩) ++ textB false k1 := if_neg hk1
    rw [e]
    have S1 := textB_size s1 m1
    have S2 := textB_size false k1
    have L1 := cods_len s1 m1 hm
    have L2 := cods_len false k1 hk
    have sz := join_size 47 (textB s1 m1) (textB false k1)
    have hcut := cCut_at ((textB s1 m1 ++ ⟨#[47]⟩) ++ textB false k1) (textB s1 m1).size (by rw [sz]; omega) (by rw [sz]; omega) (by
      rw [join_list, idx_at _ _ (textB_ne47 s1 m1)]; rfl)
    rw [join_left, join_right] at hcut
    exact rParse_in 3 (by omega) _ (textB s1 m1) (textB false k1) hcut s1 m1 k1 hm hk ca cb (textB_not k1 0 (by omega) (by omega)) (textB_not k1 1 (by omega) hk1)
      (fun w => hasPrefix_no (textB false k1) (by omega) (by omega) (textB_front k1) w) _ 0 (.inl ⟨hok, rfl, rfl⟩) w
theorem ptParse_text (a b : Rt) (ha : a.pok = true) (hb : b.pok = true) : Ans 29 #[.string ((ratT a ++ ⟨#[32]⟩) ++ ratT b)] (.tuple #[pV a b, .int .i64 0]) := by
  obtain ⟨oa, fa⟩ : a.ok = true ∧ a.pf = true := by unfold Rt.pok at ha; simpa using ha
  obtain ⟨ob, fb⟩ : b.ok = true ∧ b.pf = true := by unfold Rt.pok at hb; simpa using hb
  have sz := join_size 32 (ratT a) (ratT b)
  have z1 := ratT_size a
  have z2 := ratT_size b
  have hcut := cCut32_at ((ratT a ++ ⟨#[32]⟩) ++ ratT b) (ratT a).size (by rw [sz]; omega) (by rw [sz]; omega) (by
    rw [join_list, idx_at32 _ _ (ratT_ne32 a)]; rfl)
  rw [join_left, join_right] at hcut
  exact pP_calls _ (ratT a) (ratT b) true hcut a b 0 0 (.inl rfl) (.inl rfl) (fun _ => fa) (fun _ => fb) (ratT_parse a oa) (ratT_parse b ob) _ _ (.inl ⟨rfl, rfl, rfl, rfl⟩)
theorem ptParse_empty : Ans 29 #[.string ⟨#[]⟩] (.tuple #[pZ, .int .i64 130]) :=
  pP_calls ⟨#[]⟩ _ _ false (cCut32_no ⟨#[]⟩ rfl) noR noR 120 120 (.inr rfl) (.inr rfl) (fun h => by cases h) (fun h => by cases h) rParse_e rParse_e _ _ (.inr ⟨.inl rfl, rfl, rfl⟩)
end Go.Proofs.YtmopgcbhmkemjaaGreatDoor

namespace Go.Proofs.YtmopgcbhmkemjaaGreatDoor
open Go Go.RowKit
set_option linter.unusedSimpArgs false
set_option linter.unusedVariables false
set_option maxRecDepth 100000
set_option exponentiation.threshold 3000

theorem cmpQ_swap (x y : Rat) : cmpQ y x = - cmpQ x y := by
  rw [cmpQ_eq, cmpQ_eq]
  have : y.num * x.den - x.num * y.den = -(x.num * y.den - y.num * x.den) := by omega
  rw [this]
  generalize x.num * y.den - y.num * x.den = d
  split <;> split <;> omega
theorem cmpQ_zero (x y : Rat) : cmpQ x y = 0 ↔ x = y := by
  unfold cmpQ
  constructor
  · intro e
    split at e
    · omega
    · split at e
      · assumption
      · omega
  · intro e; rw [e, if_neg (by rw [Rat.lt_iff]; omega), if_pos rfl]
theorem cmpQ_rng (x y : Rat) : -1 ≤ cmpQ x y ∧ cmpQ x y ≤ 1 := by
  unfold cmpQ; split
  · omega
  · split <;> omega
theorem cmpP_swap (x y x' y' : Rat) : cmpP x' y' x y = - cmpP x y x' y' := by
  unfold cmpP
  have h1 := cmpQ_swap x x'
  have h2 := cmpQ_swap y y'
  by_cases h : cmpQ x x' = 0
  · rw [if_pos h, if_pos (by omega), h2]
  · rw [if_neg h, if_neg (by omega), h1]
theorem cmpP_zero (x y x' y' : Rat) : cmpP x y x' y' = 0 ↔ (x = x' ∧ y = y') := by
  unfold cmpP
  by_cases h : cmpQ x x' = 0
  · rw [if_pos h, cmpQ_zero]; exact ⟨fun e => ⟨(cmpQ_zero _ _).1 h, e⟩, fun e => e.2⟩
  · rw [if_neg h]; exact ⟨fun e => absurd e h, fun e => absurd ((cmpQ_zero _ _).2 e.1) h⟩
theorem cmpP_rng (x y x' y' : Rat) : -1 ≤ cmpP x y x' y' ∧ cmpP x y x' y' ≤ 1 := by
  unfold cmpP; split <;> exact cmpQ_rng _ _
theorem cmpQ_mid_l (x y : Rat) : cmpQ x ((x + y) / ((2 : Int) : Rat)) = cmpQ x y := by
  rw [show ((2 : Int) : Rat) = 2 from rfl]
  unfold cmpQ
  have h1 : x < (x + y) / 2 ↔ x < y := by grind
  have h2 : x = (x + y) / 2 ↔ x = y := by grind
  simp only [h1, h2]
theorem cmpQ_mid_r (x y : Rat) : cmpQ ((x + y) / ((2 : Int) : Rat)) y = cmpQ x y := by
  rw [show ((2 : Int) : Rat) = 2 from rfl]
  unfold cmpQ
  have h1 : (x + y) / 2 < y ↔ x < y := by grind
  have h2 : (x + y) / 2 = y ↔ x = y := by grind
  simp only [h1, h2]
theorem rt_eq_dec (a b : Rt) (ha : a.ok = true) (hb : b.ok = true) (w : World) : (decide (a.s = b.s ∧ a.m = b.m) && decide (a.t = b.t ∧ a.k = b.k)) = decide (a.q = b.q) := by
  have e1 := run_eq_rat a.s a.m a.t a.k b.s b.m b.t b.k a.hm a.hk b.hm b.hk w
  have e2 := run_eq_q a.q b.q (a.q_fits ha) (b.q_fits hb) w
  rw [← a.v_q ha, ← b.v_q hb] at e2
  have e3 := e1.symm.trans e2
  injection e3
theorem oZ_cases (x y : Rat) : (oZ x y = 0 ∧ PFits x ∧ PFits y) ∨ oZ x y = 110 := by
  unfold oZ; split
  · rename_i h; exact .inl ⟨rfl, h.1, h.2⟩
  · exact .inr rfl
theorem holdsP_true (a b c d : Rt) (x y : Int) (h1 : -9223372036854775808 ≤ x) (h2 : x ≤ 9223372036854775807) (h3 : -9223372036854775808 ≤ y) (h4 : y ≤ 9223372036854775807) (w : World) (hT : Tab w) :
    Calls Tryz.prog 6 #[pV a b, pV c d, ndV x y] w fun e w' => e = .returned (.bool true) ∧ Ext w w' := by
  obtain ⟨Q1, Q2, kk, gx, gy, gi, OF, GR, hk⟩ : ∃ (Q1 Q2 : Rt) (kk gx gy : Int) (gi : Bool), (∀ w, Calls Tryz.prog 9 #[ndV x y] w fun e w' => e = .returned (.tuple #[pV Q1 Q2, .int .i64 kk]) ∧ Ext w w') ∧
      (∀ w, Calls Tryz.prog 10 #[pV Q1 Q2] w fun e w' => e = .returned (.tuple #[ndV gx gy, .bool gi]) ∧ Ext w w') ∧ (kk = 2 ∨ (kk = 0 ∧ gi = true ∧ gx = x ∧ gy = y)) := by
    have OF := fun w => ptOf_any x y h1 h2 h3 h4 w
    cases hc : (inC x && inC y) with
    | false =>
      rw [hc] at OF
      exact ⟨zRt, zRt, 2, _, _, _, (by rw [← pZ_z]; exact OF), fun w => ptGrid_any zRt zRt w, .inl rfl⟩
    | true =>
      rw [hc] at OF
      have hc' : inC x = true ∧ inC y = true := by simpa using hc
      have nx : x.natAbs ≤ 9223372036854775808 := by omega
      have ny : y.natAbs ≤ 9223372036854775808 := by omega
      obtain ⟨q1, q2, q3, q4⟩ := rI_same x nx
      obtain ⟨q5, q6, q7, q8⟩ := rI_same y ny
      have e : ∀ z : Int, sv (decide (z < 0)) z.natAbs = z := fun z => by by_cases h : z < 0 <;> simp [sv, h] <;> omega
      have e1 : sv (rI x nx).s (rI x nx).m = x := by rw [q1, q2, e]
      have e2 : sv (rI y ny).s (rI y ny).m = y := by rw [q5, q6, e]
      have g1 : gridQ (rI x nx) (rI y ny) = true := (gridQ_iff _ _).2 ⟨rt_ok _ _, rt_ok _ _, q4, q8, by rw [e1]; exact hc'.1, by rw [e2]; exact hc'.2⟩
      exact ⟨_, _, 0, _, _, _, OF, fun w => ptGrid_any (rI x nx) (rI y ny) w, .inr ⟨rfl, g1, by rw [g1, if_pos rfl, e1], by rw [g1, if_pos rfl, e2]⟩⟩
  obtain ⟨T1, T2, u, ii, jj, TX, PA, hi⟩ : ∃ (T1 T2 : Rt) (u : ByteArray) (ii jj : Int), Ans 28 #[pV a b] (.tuple #[.string u, .int .i64 ii]) ∧ Ans 29 #[.string u] (.tuple #[pV T1 T2, .int .i64 jj]) ∧
      (ii = 2 ∨ (ii = 0 ∧ jj = 0 ∧ EqT 31 (pV T1 T2) (pV a b))) := by
    cases hp : (a.pok && b.pok) with
    | false => exact ⟨zRt, zRt, ⟨#[]⟩, 2, 130, ptText_no a b hp, (by rw [← pZ_z]; exact ptParse_empty), .inl rfl⟩
    | true =>
      obtain ⟨ha, hb⟩ : a.pok = true ∧ b.pok = true := by simpa using hp
      exact ⟨a, b, _, 0, 0, ptText_yes a b ha hb _ _ (Nat.le_trans (ratT_size a) (by omega)) (Nat.le_trans (ratT_size b) (by omega)) (rText_yes a (a.pok_iff.1 ha).1) (rText_yes b (b.pok_iff.1 hb).1), ptParse_text a b ha hb, .inr ⟨rfl, rfl, eqT_pt a b⟩⟩
  have EQ := fun w => run_eq_pt a b c d w
  cases hp : (a.pok && b.pok && (c.pok && d.pok)) with
  | false =>
    have hp' : (c.pok && d.pok && (a.pok && b.pok)) = false := by rw [Bool.and_comm]; exact hp
    exact PHolds_walk a b c d zRt zRt T1 T2 Q1 Q2 x y 0 2 2 ii jj kk gx gy _ gi u (by omega) (PCmp_bad a b c d hp) (PCmp_bad c d a b hp') (fun w _ => PMid_bad a b c d hp w) (fun w _ => PMid_bad c d a b hp' w)
      (.inr rfl) EQ (fun e => by omega) (.inl rfl) TX PA hi OF GR hk w hT
  | true =>
    obtain ⟨⟨ha, hb⟩, hc, hd⟩ : (a.pok = true ∧ b.pok = true) ∧ c.pok = true ∧ d.pok = true := by simpa using hp
    have oa := (a.pok_iff.1 ha).1
    have ob := (b.pok_iff.1 hb).1
    have oc := (c.pok_iff.1 hc).1
    have od := (d.pok_iff.1 hd).1
    have C1 := ptCmp_q a b c d ha hb hc hd
    have C2 := ptCmp_q c d a b hc hd ha hb
    rw [cmpP_swap] at C2
    rw [rt_eq_dec a c oa oc w, rt_eq_dec b d ob od w] at EQ
    have gx' := half_fits a.q c.q (a.pok_fits ha) (c.pok_fits hc)
    have gy' := half_fits b.q d.q (b.pok_fits hb) (d.pok_fits hd)
    have M1 := midP_all a b c d ha hb hc hd _ _ rfl rfl gx' gy'
    have M2 := midP_all c d a b hc hd ha hb ((a.q + c.q) / ((2 : Int) : Rat)) ((b.q + d.q) / ((2 : Int) : Rat)) (by rw [Rat.add_comm]) (by rw [Rat.add_comm]) gx' gy'
    refine PHolds_walk a b c d _ _ T1 T2 Q1 Q2 x y _ 0 _ ii jj kk gx gy _ gi u (cmpP_rng _ _ _ _) C1 C2 M1 M2 (.inl rfl) EQ (fun _ => ?_) ?_ TX PA hi OF GR hk w hT
    · rw [← Bool.decide_and, decide_eq_decide, cmpP_zero]
    · rcases oZ_cases ((a.q + c.q) / ((2 : Int) : Rat)) ((b.q + d.q) / ((2 : Int) : Rat)) with ⟨e, hx, hy⟩ | e
      · refine .inr (.inr ⟨e, ?_⟩)
        unfold oU
        rw [if_pos ⟨hx, hy⟩, if_pos ⟨hx, hy⟩]
        have k1 := rt_pok _ hx
        have k2 := rt_pok _ hy
        have D1 := ptCmp_q a b (rt _ gx') (rt _ gy') ha hb k1 k2
        have D2 := ptCmp_q (rt _ gx') (rt _ gy') c d k1 k2 hc hd
        rw [rt_q, rt_q] at D1 D2
        have e1 : cmpP a.q b.q ((a.q + c.q) / ((2 : Int) : Rat)) ((b.q + d.q) / ((2 : Int) : Rat)) = cmpP a.q b.q c.q d.q := by unfold cmpP; rw [cmpQ_mid_l, cmpQ_mid_l]
        have e2 : cmpP ((a.q + c.q) / ((2 : Int) : Rat)) ((b.q + d.q) / ((2 : Int) : Rat)) c.q d.q = cmpP a.q b.q c.q d.q := by unfold cmpP; rw [cmpQ_mid_r, cmpQ_mid_r]
        rw [e1] at D1
        rw [e2] at D2
        exact ⟨D1, D2⟩
      · exact .inr (.inl e)
end Go.Proofs.YtmopgcbhmkemjaaGreatDoor
