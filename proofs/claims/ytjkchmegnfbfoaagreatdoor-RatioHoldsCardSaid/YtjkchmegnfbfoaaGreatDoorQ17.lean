/- RatioHolds: the walk. RatioHolds answers true: sums, products, the order. limb.Text: put. A row of bytes turned round. The decimal digits of a number, from the last. A row of digits that a slice owns. limb.Text: the digits. The text of a Rat. No Int's text: the empty one. The Int of an Int's text; where the stroke is. A text without a stroke, cut. The Rat of a text without a stroke; of the empty text. -/
import Derived.Test.YtjkchmegnfbfoaaGreatDoorProg
import Derived.Test.YtjkchmegnfbfoaaGreatDoorQ10
import Derived.Test.YtjkchmegnfbfoaaGreatDoorQ06
import Derived.Test.YtjkchmegnfbfoaaGreatDoorQ07
import Derived.Test.YtjkchmegnfbfoaaGreatDoorQ03
import Derived.RangeFuncBox
import Derived.Test.YtjkchmegnfbfoaaGreatDoorQ09
import Derived.Test.YtjkchmegnfbfoaaGreatDoorQ04
import Derived.Deep.DeepCutAuto
namespace Go.Proofs.YtjkchmegnfbfoaaGreatDoor
open Go Go.RowKit
set_option linter.unusedSimpArgs false
set_option linter.unusedVariables false
set_option maxRecDepth 100000
set_option exponentiation.threshold 3000

set_option maxHeartbeats 16000000 in
theorem Holds_walk (a b S P C D V : Rt) (z1 z2 z3 z4 c i k l : Int) (q : Bool) (u : ByteArray) (w : World) (hT : Tab w)
    (hz1 : 0 ≤ z1 ∧ z1 ≤ 200) (hz2 : 0 ≤ z2 ∧ z2 ≤ 200) (hz3 : 0 ≤ z3 ∧ z3 ≤ 200) (hz4 : 0 ≤ z4 ∧ z4 ≤ 200) (hc : -1 ≤ c ∧ c ≤ 1)
    (A1 : AnsT 21 #[a.v, b.v] (.tuple #[S.v, .int .i64 z1])) (A2 : AnsT 21 #[b.v, a.v] (.tuple #[S.v, .int .i64 z1]))
    (M1 : AnsT 23 #[a.v, b.v] (.tuple #[P.v, .int .i64 z2])) (M2 : AnsT 23 #[b.v, a.v] (.tuple #[P.v, .int .i64 z2]))
    (eS : EqT 27 S.v S.v) (eP : EqT 27 P.v P.v)
    (SB : AnsT 22 #[S.v, b.v] (.tuple #[C.v, .int .i64 z3])) (e3 : z1 + z3 = 0 → EqT 27 C.v a.v)
    (DV : AnsT 24 #[P.v, b.v] (.tuple #[D.v, .int .i64 z4])) (e4 : z2 + z4 = 0 → EqT 27 D.v a.v)
    (C1 : Ans 31 #[a.v, b.v] (.tuple #[.int .i64 c, .int .i64 i])) (C2 : Ans 31 #[b.v, a.v] (.tuple #[.int .i64 (-c), .int .i64 i]))
    (hi : i = 0 ∨ i = 2) (eq : ∀ w, (Op.equalIn 10000 27 a.v b.v).run Tryz.prog w = .ok q w) (hq : i = 0 → q = decide (c = 0))
    (TX : Ans 39 #[a.v] (.tuple #[.string u, .int .i64 k])) (PA : Ans 40 #[.string u] (.tuple #[V.v, .int .i64 l]))
    (hk : k = 2 ∨ (k = 0 ∧ l = 0 ∧ EqT 27 V.v a.v)) :
    Calls Tryz.prog 7 #[a.v, b.v] w fun e w' => e = .returned (.bool true) ∧ Ext w w' := by
  have hx : Ext w w := Ext.refl w
  have cw := works_true
  obtain ⟨s1, m1, t1, k1, _, _⟩ := a
  obtain ⟨s2, m2, t2, k2, _, _⟩ := b
  obtain ⟨s3, m3, t3, k3, _, _⟩ := S
  obtain ⟨s4, m4, t4, k4, _, _⟩ := P
  obtain ⟨s5, m5, t5, k5, _, _⟩ := C
  obtain ⟨s6, m6, t6, k6, _, _⟩ := D
  obtain ⟨s7, m7, t7, k7, _, _⟩ := V
  go_enter Tryz.func7, Tryz.ntmps7
  go_upto_region 2 with (go_at_call 21; (with_reducible refine (A1 _ (hT.ext (hx.trans (by repeat (first | (with_reducible exact Ext.refl _) | (with_reducible assumption) | (with_reducible apply Ext.grow) | (with_reducible apply Ext.alloc) | (with_reducible apply Ext.drew) | ((with_reducible apply Ext.set); (case hb => (first | omega | (simp; omega))))))))).mono ?_); rintro e y1 ⟨rfl, hz_⟩; have hzz_ : Ext w y1 := Ext.trans (by repeat (first | (with_reducible exact Ext.refl _) | (with_reducible assumption) | (with_reducible apply Ext.grow) | (with_reducible apply Ext.alloc) | (with_reducible apply Ext.drew) | ((with_reducible apply Ext.set); (case hb => (first | omega | (simp; omega)))))) hz_; have BA : Blk y1 w.heap.size (ratsV s1 m1 t1 k1) 27 := Blk.ext (by repeat (first | (with_reducible assumption) | ((with_reducible refine Blk.new _ _ _ ?_); (simp; done)) | (with_reducible apply Blk.alloc) | (with_reducible apply Blk.grow) | (with_reducible apply Blk.drew) | (with_reducible apply Blk.set10) | (with_reducible apply Blk.set5) | (with_reducible apply Blk.set4) | (with_reducible apply Blk.tail4) | (with_reducible apply Blk.set2) | (with_reducible apply Blk.set1) | ((with_reducible apply Blk.setOther); (case hne => omega)))) hz_; have BB : Blk y1 (w.heap.size + 1) (ratsV s2 m2 t2 k2) 27 := Blk.ext (by repeat (first | (with_reducible assumption) | ((with_reducible refine Blk.new _ _ _ ?_); (simp; done)) | (with_reducible apply Blk.alloc) | (with_reducible apply Blk.grow) | (with_reducible apply Blk.drew) | (with_reducible apply Blk.set10) | (with_reducible apply Blk.set5) | (with_reducible apply Blk.set4) | (with_reducible apply Blk.tail4) | (with_reducible apply Blk.set2) | (with_reducible apply Blk.set1) | ((with_reducible apply Blk.setOther); (case hne => omega)))) hz_)
  refine wp_rebase fun v hv => ?_
  have hzv : Ext y1 v := by rw [hv]; exact (by repeat (first | (with_reducible exact Ext.refl _) | (with_reducible assumption) | (with_reducible apply Ext.grow) | (with_reducible apply Ext.alloc) | (with_reducible apply Ext.drew) | ((with_reducible apply Ext.set); (case hb => (first | omega | (simp; omega))))))
  have BS : Blk v y1.heap.size (ratsV s3 m3 t3 k3) 27 := by rw [hv]; exact (by repeat (first | (with_reducible assumption) | ((with_reducible refine Blk.new _ _ _ ?_); (simp; done)) | (with_reducible apply Blk.alloc) | (with_reducible apply Blk.grow) | (with_reducible apply Blk.drew) | (with_reducible apply Blk.set10) | (with_reducible apply Blk.set5) | (with_reducible apply Blk.set4) | (with_reducible apply Blk.tail4) | (with_reducible apply Blk.set2) | (with_reducible apply Blk.set1) | ((with_reducible apply Blk.setOther); (case hne => omega))))
  clear hv
  replace BA := BA.ext hzv
  replace BB := BB.ext hzv
  replace hx := (hx.trans hzz_).trans hzv
  clear hzz_ hzv hz_ 
  have lBA := BA.lt; have cBA := BA.cell; have fBA := BA.frozen; have lBB := BB.lt; have cBB := BB.cell; have fBB := BB.frozen; have lBS := BS.lt; have cBS := BS.cell; have fBS := BS.frozen
  clear A1
  --s1
  go_upto_region 3 with (go_at_call 21; (with_reducible refine (A2 _ (hT.ext (hx.trans (by repeat (first | (with_reducible exact Ext.refl _) | (with_reducible assumption) | (with_reducible apply Ext.grow) | (with_reducible apply Ext.alloc) | (with_reducible apply Ext.drew) | ((with_reducible apply Ext.set); (case hb => (first | omega | (simp; omega))))))))).mono ?_); rintro e y2 ⟨rfl, hz_⟩; have hzz_ : Ext v y2 := Ext.trans (by repeat (first | (with_reducible exact Ext.refl _) | (with_reducible assumption) | (with_reducible apply Ext.grow) | (with_reducible apply Ext.alloc) | (with_reducible apply Ext.drew) | ((with_reducible apply Ext.set); (case hb => (first | omega | (simp; omega)))))) hz_)
  refine wp_rebase fun v hv => ?_
  have hzv : Ext y2 v := by rw [hv]; exact (by repeat (first | (with_reducible exact Ext.refl _) | (with_reducible assumption) | (with_reducible apply Ext.grow) | (with_reducible apply Ext.alloc) | (with_reducible apply Ext.drew) | ((with_reducible apply Ext.set); (case hb => (first | omega | (simp; omega))))))
  have BT : Blk v y2.heap.size (ratsV s3 m3 t3 k3) 27 := by rw [hv]; exact (by repeat (first | (with_reducible assumption) | ((with_reducible refine Blk.new _ _ _ ?_); (simp; done)) | (with_reducible apply Blk.alloc) | (with_reducible apply Blk.grow) | (with_reducible apply Blk.drew) | (with_reducible apply Blk.set10) | (with_reducible apply Blk.set5) | (with_reducible apply Blk.set4) | (with_reducible apply Blk.tail4) | (with_reducible apply Blk.set2) | (with_reducible apply Blk.set1) | ((with_reducible apply Blk.setOther); (case hne => omega))))
  clear hv
  replace BA := (BA.ext hzz_).ext hzv
  replace BB := (BB.ext hzz_).ext hzv
  replace BS := (BS.ext hzz_).ext hzv
  replace hx := (hx.trans hzz_).trans hzv
  clear hzz_ hzv hz_ lBA cBA fBA lBB cBB fBB lBS cBS fBS
  have lBA := BA.lt; have cBA := BA.cell; have fBA := BA.frozen; have lBB := BB.lt; have cBB := BB.cell; have fBB := BB.frozen; have lBS := BS.lt; have cBS := BS.cell; have fBS := BS.frozen; have lBT := BT.lt; have cBT := BT.cell; have fBT := BT.frozen
  clear A2
  --s2
  go_upto_region 4 with (go_at_call 23; (with_reducible refine (M1 _ (hT.ext (hx.trans (by repeat (first | (with_reducible exact Ext.refl _) | (with_reducible assumption) | (with_reducible apply Ext.grow) | (with_reducible apply Ext.alloc) | (with_reducible apply Ext.drew) | ((with_reducible apply Ext.set); (case hb => (first | omega | (simp; omega))))))))).mono ?_); rintro e y3 ⟨rfl, hz_⟩; have hzz_ : Ext v y3 := Ext.trans (by repeat (first | (with_reducible exact Ext.refl _) | (with_reducible assumption) | (with_reducible apply Ext.grow) | (with_reducible apply Ext.alloc) | (with_reducible apply Ext.drew) | ((with_reducible apply Ext.set); (case hb => (first | omega | (simp; omega)))))) hz_)
  refine wp_rebase fun v hv => ?_
  have hzv : Ext y3 v := by rw [hv]; exact (by repeat (first | (with_reducible exact Ext.refl _) | (with_reducible assumption) | (with_reducible apply Ext.grow) | (with_reducible apply Ext.alloc) | (with_reducible apply Ext.drew) | ((with_reducible apply Ext.set); (case hb => (first | omega | (simp; omega))))))
  have BP : Blk v y3.heap.size (ratsV s4 m4 t4 k4) 27 := by rw [hv]; exact (by repeat (first | (with_reducible assumption) | ((with_reducible refine Blk.new _ _ _ ?_); (simp; done)) | (with_reducible apply Blk.alloc) | (with_reducible apply Blk.grow) | (with_reducible apply Blk.drew) | (with_reducible apply Blk.set10) | (with_reducible apply Blk.set5) | (with_reducible apply Blk.set4) | (with_reducible apply Blk.tail4) | (with_reducible apply Blk.set2) | (with_reducible apply Blk.set1) | ((with_reducible apply Blk.setOther); (case hne => omega))))
  clear hv
  replace BA := (BA.ext hzz_).ext hzv
  replace BB := (BB.ext hzz_).ext hzv
  replace BS := (BS.ext hzz_).ext hzv
  replace BT := (BT.ext hzz_).ext hzv
  replace hx := (hx.trans hzz_).trans hzv
  clear hzz_ hzv hz_ lBA cBA fBA lBB cBB fBB lBS cBS fBS lBT cBT fBT
  have lBA := BA.lt; have cBA := BA.cell; have fBA := BA.frozen; have lBB := BB.lt; have cBB := BB.cell; have fBB := BB.frozen; have lBS := BS.lt; have cBS := BS.cell; have fBS := BS.frozen; have lBT := BT.lt; have cBT := BT.cell; have fBT := BT.frozen; have lBP := BP.lt; have cBP := BP.cell; have fBP := BP.frozen
  clear M1
  --s3
  go_upto_region 5 with (go_at_call 23; (with_reducible refine (M2 _ (hT.ext (hx.trans (by repeat (first | (with_reducible exact Ext.refl _) | (with_reducible assumption) | (with_reducible apply Ext.grow) | (with_reducible apply Ext.alloc) | (with_reducible apply Ext.drew) | ((with_reducible apply Ext.set); (case hb => (first | omega | (simp; omega))))))))).mono ?_); rintro e y4 ⟨rfl, hz_⟩; have hzz_ : Ext v y4 := Ext.trans (by repeat (first | (with_reducible exact Ext.refl _) | (with_reducible assumption) | (with_reducible apply Ext.grow) | (with_reducible apply Ext.alloc) | (with_reducible apply Ext.drew) | ((with_reducible apply Ext.set); (case hb => (first | omega | (simp; omega)))))) hz_)
  refine wp_rebase fun v hv => ?_
  have hzv : Ext y4 v := by rw [hv]; exact (by repeat (first | (with_reducible exact Ext.refl _) | (with_reducible assumption) | (with_reducible apply Ext.grow) | (with_reducible apply Ext.alloc) | (with_reducible apply Ext.drew) | ((with_reducible apply Ext.set); (case hb => (first | omega | (simp; omega))))))
  have BQ : Blk v y4.heap.size (ratsV s4 m4 t4 k4) 27 := by rw [hv]; exact (by repeat (first | (with_reducible assumption) | ((with_reducible refine Blk.new _ _ _ ?_); (simp; done)) | (with_reducible apply Blk.alloc) | (with_reducible apply Blk.grow) | (with_reducible apply Blk.drew) | (with_reducible apply Blk.set10) | (with_reducible apply Blk.set5) | (with_reducible apply Blk.set4) | (with_reducible apply Blk.tail4) | (with_reducible apply Blk.set2) | (with_reducible apply Blk.set1) | ((with_reducible apply Blk.setOther); (case hne => omega))))
  clear hv
  replace BA := (BA.ext hzz_).ext hzv
  replace BB := (BB.ext hzz_).ext hzv
  replace BS := (BS.ext hzz_).ext hzv
  replace BT := (BT.ext hzz_).ext hzv
  replace BP := (BP.ext hzz_).ext hzv
  replace hx := (hx.trans hzz_).trans hzv
  clear hzz_ hzv hz_ lBA cBA fBA lBB cBB fBB lBS cBS fBS lBT cBT fBT lBP cBP fBP
  have lBA := BA.lt; have cBA := BA.cell; have fBA := BA.frozen; have lBB := BB.lt; have cBB := BB.cell; have fBB := BB.frozen; have lBS := BS.lt; have cBS := BS.cell; have fBS := BS.frozen; have lBT := BT.lt; have cBT := BT.cell; have fBT := BT.frozen; have lBP := BP.lt; have cBP := BP.cell; have fBP := BP.frozen; have lBQ := BQ.lt; have cBQ := BQ.cell; have fBQ := BQ.frozen
  clear M2
  --s4
  go_upto_region 8 with (go_at_call 22; (with_reducible refine (SB _ (hT.ext (hx.trans (by repeat (first | (with_reducible exact Ext.refl _) | (with_reducible assumption) | (with_reducible apply Ext.grow) | (with_reducible apply Ext.alloc) | (with_reducible apply Ext.drew) | ((with_reducible apply Ext.set); (case hb => (first | omega | (simp; omega))))))))).mono ?_); rintro e y5 ⟨rfl, hz_⟩; have hzz_ : Ext v y5 := Ext.trans (by repeat (first | (with_reducible exact Ext.refl _) | (with_reducible assumption) | (with_reducible apply Ext.grow) | (with_reducible apply Ext.alloc) | (with_reducible apply Ext.drew) | ((with_reducible apply Ext.set); (case hb => (first | omega | (simp; omega)))))) hz_)
  refine wp_rebase fun v hv => ?_
  have hzv : Ext y5 v := by rw [hv]; exact (by repeat (first | (with_reducible exact Ext.refl _) | (with_reducible assumption) | (with_reducible apply Ext.grow) | (with_reducible apply Ext.alloc) | (with_reducible apply Ext.drew) | ((with_reducible apply Ext.set); (case hb => (first | omega | (simp; omega))))))
  have BC : Blk v y5.heap.size (ratsV s5 m5 t5 k5) 27 := by rw [hv]; exact (by repeat (first | (with_reducible assumption) | ((with_reducible refine Blk.new _ _ _ ?_); (simp; done)) | (with_reducible apply Blk.alloc) | (with_reducible apply Blk.grow) | (with_reducible apply Blk.drew) | (with_reducible apply Blk.set10) | (with_reducible apply Blk.set5) | (with_reducible apply Blk.set4) | (with_reducible apply Blk.tail4) | (with_reducible apply Blk.set2) | (with_reducible apply Blk.set1) | ((with_reducible apply Blk.setOther); (case hne => omega))))
  clear hv
  replace BA := (BA.ext hzz_).ext hzv
  replace BB := (BB.ext hzz_).ext hzv
  replace BS := (BS.ext hzz_).ext hzv
  replace BP := (BP.ext hzz_).ext hzv
  replace hx := (hx.trans hzz_).trans hzv
  clear hzz_ hzv hz_ lBA cBA fBA lBB cBB fBB lBS cBS fBS lBP cBP fBP
  have lBA := BA.lt; have cBA := BA.cell; have fBA := BA.frozen; have lBB := BB.lt; have cBB := BB.cell; have fBB := BB.frozen; have lBS := BS.lt; have cBS := BS.cell; have fBS := BS.frozen; have lBP := BP.lt; have cBP := BP.cell; have fBP := BP.frozen; have lBC := BC.lt; have cBC := BC.cell; have fBC := BC.frozen
  clear SB eS eP BT BQ lBT cBT fBT lBQ cBQ fBQ
  --s5
  obtain ⟨l1, h1⟩ := hz1; obtain ⟨l2, h2⟩ := hz2; obtain ⟨l3, h3⟩ := hz3; obtain ⟨l4, h4⟩ := hz4; obtain ⟨l5, h5⟩ := hc
  have g1 : -9223372036854775808 ≤ z1 + z3 := by omega
  have g2 : z1 + z3 ≤ 9223372036854775807 := by omega
  have g3 : -9223372036854775808 ≤ z2 + z4 := by omega
  have g4 : z2 + z4 ≤ 9223372036854775807 := by omega
  go_cut [83] (fun s z => s = .bool false ∧ Ext v z)
  case first =>
    by_cases h0 : z1 + z3 = 0
    · replace e3 := e3 h0
      have h0' : (z1 + z3 == 0) = true := by simp [h0]
      go_wp2_with (go_at_call 12; (with_reducible refine (num_law _ _).mono ?_); rintro e w2 ⟨rfl, h2_⟩; subst w2)
      go_meet
      case rel => exact ⟨rfl, (by repeat (first | (with_reducible exact Ext.refl _) | (with_reducible assumption) | (with_reducible apply Ext.grow) | (with_reducible apply Ext.alloc) | (with_reducible apply Ext.drew) | ((with_reducible apply Ext.set); (case hb => (first | omega | (simp; omega))))))⟩
    · clear e3
      have h0' : (z1 + z3 == 0) = false := by simp [h0]
      go_wp2_with (go_at_call 12; (with_reducible refine (num_law _ _).mono ?_); rintro e w2 ⟨rfl, h2_⟩; subst w2)
      go_meet
      case rel => exact ⟨rfl, (by repeat (first | (with_reducible exact Ext.refl _) | (with_reducible assumption) | (with_reducible apply Ext.grow) | (with_reducible apply Ext.alloc) | (with_reducible apply Ext.drew) | ((with_reducible apply Ext.set); (case hb => (first | omega | (simp; omega))))))⟩
  case rest =>
  obtain ⟨rfl, hz⟩ := hcut
  replace BA := BA.ext hz
  replace BB := BB.ext hz
  replace BP := BP.ext hz
  replace hx := hx.trans hz
  clear hz BC lBC cBC fBC BS lBS cBS fBS lBA cBA fBA lBB cBB fBB lBP cBP fBP
  have lBA := BA.lt; have cBA := BA.cell; have fBA := BA.frozen; have lBB := BB.lt; have cBB := BB.cell; have fBB := BB.frozen; have lBP := BP.lt; have cBP := BP.cell; have fBP := BP.frozen
  clear e3
  --s6
  go_upto_region 11 with (go_at_call 24; (with_reducible refine (DV _ (hT.ext (hx.trans (by repeat (first | (with_reducible exact Ext.refl _) | (with_reducible assumption) | (with_reducible apply Ext.grow) | (with_reducible apply Ext.alloc) | (with_reducible apply Ext.drew) | ((with_reducible apply Ext.set); (case hb => (first | omega | (simp; omega))))))))).mono ?_); rintro e y6 ⟨rfl, hz_⟩; have hzz_ : Ext wc y6 := Ext.trans (by repeat (first | (with_reducible exact Ext.refl _) | (with_reducible assumption) | (with_reducible apply Ext.grow) | (with_reducible apply Ext.alloc) | (with_reducible apply Ext.drew) | ((with_reducible apply Ext.set); (case hb => (first | omega | (simp; omega)))))) hz_)
  refine wp_rebase fun v hv => ?_
  have hzv : Ext y6 v := by rw [hv]; exact (by repeat (first | (with_reducible exact Ext.refl _) | (with_reducible assumption) | (with_reducible apply Ext.grow) | (with_reducible apply Ext.alloc) | (with_reducible apply Ext.drew) | ((with_reducible apply Ext.set); (case hb => (first | omega | (simp; omega))))))
  have BD : Blk v y6.heap.size (ratsV s6 m6 t6 k6) 27 := by rw [hv]; exact (by repeat (first | (with_reducible assumption) | ((with_reducible refine Blk.new _ _ _ ?_); (simp; done)) | (with_reducible apply Blk.alloc) | (with_reducible apply Blk.grow) | (with_reducible apply Blk.drew) | (with_reducible apply Blk.set10) | (with_reducible apply Blk.set5) | (with_reducible apply Blk.set4) | (with_reducible apply Blk.tail4) | (with_reducible apply Blk.set2) | (with_reducible apply Blk.set1) | ((with_reducible apply Blk.setOther); (case hne => omega))))
  clear hv
  replace BA := (BA.ext hzz_).ext hzv
  replace BB := (BB.ext hzz_).ext hzv
  replace BP := (BP.ext hzz_).ext hzv
  replace hx := (hx.trans hzz_).trans hzv
  clear hzz_ hzv hz_ lBA cBA fBA lBB cBB fBB lBP cBP fBP
  have lBA := BA.lt; have cBA := BA.cell; have fBA := BA.frozen; have lBB := BB.lt; have cBB := BB.cell; have fBB := BB.frozen; have lBP := BP.lt; have cBP := BP.cell; have fBP := BP.frozen; have lBD := BD.lt; have cBD := BD.cell; have fBD := BD.frozen
  clear DV
  --s7
  go_cut [100] (fun s z => s = .bool false ∧ Ext v z)
  case first =>
    by_cases h0 : z2 + z4 = 0
    · replace e4 := e4 h0
      have h0' : (z2 + z4 == 0) = true := by simp [h0]
      go_wp2_with (go_at_call 12; (with_reducible refine (num_law _ _).mono ?_); rintro e w2 ⟨rfl, h2_⟩; subst w2)
      go_meet
      case rel => exact ⟨rfl, (by repeat (first | (with_reducible exact Ext.refl _) | (with_reducible assumption) | (with_reducible apply Ext.grow) | (with_reducible apply Ext.alloc) | (with_reducible apply Ext.drew) | ((with_reducible apply Ext.set); (case hb => (first | omega | (simp; omega))))))⟩
    · clear e4
      have h0' : (z2 + z4 == 0) = false := by simp [h0]
      go_wp2_with (go_at_call 12; (with_reducible refine (num_law _ _).mono ?_); rintro e w2 ⟨rfl, h2_⟩; subst w2)
      go_meet
      case rel => exact ⟨rfl, (by repeat (first | (with_reducible exact Ext.refl _) | (with_reducible assumption) | (with_reducible apply Ext.grow) | (with_reducible apply Ext.alloc) | (with_reducible apply Ext.drew) | ((with_reducible apply Ext.set); (case hb => (first | omega | (simp; omega))))))⟩
  case rest =>
  obtain ⟨rfl, hz⟩ := hcut
  replace BA := BA.ext hz
  replace BB := BB.ext hz
  replace hx := hx.trans hz
  clear hz BD lBD cBD fBD BP lBP cBP fBP lBA cBA fBA lBB cBB fBB
  have lBA := BA.lt; have cBA := BA.cell; have fBA := BA.frozen; have lBB := BB.lt; have cBB := BB.cell; have fBB := BB.frozen
  clear e4
  --s8
  go_upto_region 14 with (go_at_call 31; (with_reducible refine (C1 _).mono ?_); rintro e y7 ⟨rfl, hz_⟩; have hzz_ : Ext wc y7 := Ext.trans (by repeat (first | (with_reducible exact Ext.refl _) | (with_reducible assumption) | (with_reducible apply Ext.grow) | (with_reducible apply Ext.alloc) | (with_reducible apply Ext.drew) | ((with_reducible apply Ext.set); (case hb => (first | omega | (simp; omega)))))) hz_)
  refine wp_rebase fun v hv => ?_
  have hzv : Ext y7 v := by rw [hv]; exact (by repeat (first | (with_reducible exact Ext.refl _) | (with_reducible assumption) | (with_reducible apply Ext.grow) | (with_reducible apply Ext.alloc) | (with_reducible apply Ext.drew) | ((with_reducible apply Ext.set); (case hb => (first | omega | (simp; omega))))))
  clear hv
  replace BA := (BA.ext hzz_).ext hzv
  replace BB := (BB.ext hzz_).ext hzv
  replace hx := (hx.trans hzz_).trans hzv
  clear hzz_ hzv hz_ lBA cBA fBA lBB cBB fBB
  have lBA := BA.lt; have cBA := BA.cell; have fBA := BA.frozen; have lBB := BB.lt; have cBB := BB.cell; have fBB := BB.frozen
  clear C1
  --s9
  go_upto_region 15 with (go_at_call 31; (with_reducible refine (C2 _).mono ?_); rintro e y8 ⟨rfl, hz_⟩; have hzz_ : Ext v y8 := Ext.trans (by repeat (first | (with_reducible exact Ext.refl _) | (with_reducible assumption) | (with_reducible apply Ext.grow) | (with_reducible apply Ext.alloc) | (with_reducible apply Ext.drew) | ((with_reducible apply Ext.set); (case hb => (first | omega | (simp; omega)))))) hz_)
  refine wp_rebase fun v hv => ?_
  have hzv : Ext y8 v := by rw [hv]; exact (by repeat (first | (with_reducible exact Ext.refl _) | (with_reducible assumption) | (with_reducible apply Ext.grow) | (with_reducible apply Ext.alloc) | (with_reducible apply Ext.drew) | ((with_reducible apply Ext.set); (case hb => (first | omega | (simp; omega))))))
  clear hv
  replace BA := (BA.ext hzz_).ext hzv
  replace BB := (BB.ext hzz_).ext hzv
  replace hx := (hx.trans hzz_).trans hzv
  clear hzz_ hzv hz_ lBA cBA fBA lBB cBB fBB
  have lBA := BA.lt; have cBA := BA.cell; have fBA := BA.frozen; have lBB := BB.lt; have cBB := BB.cell; have fBB := BB.frozen
  clear C2
  --s10
  have n1 : -9223372036854775808 ≤ -c := by omega
  have n2 : -c ≤ 9223372036854775807 := by omega
  have n3 : - -c = c := by omega
  have n4 : -9223372036854775808 ≤ c := by omega
  have n5 : c ≤ 9223372036854775807 := by omega
  go_cut [134] (fun s z => s = .bool false ∧ Ext v z)
  case first =>
    rcases hi with rfl | rfl
    · have hq' := hq rfl
      subst hq'
      go_wp2_with (go_at_call 12; (with_reducible refine (num_law _ _).mono ?_); rintro e w2 ⟨rfl, h2_⟩; subst w2)
      go_meet
      case rel => exact ⟨by simp; rfl, (by repeat (first | (with_reducible exact Ext.refl _) | (with_reducible assumption) | (with_reducible apply Ext.grow) | (with_reducible apply Ext.alloc) | (with_reducible apply Ext.drew) | ((with_reducible apply Ext.set); (case hb => (first | omega | (simp; omega))))))⟩
    · go_wp2_with (go_at_call 12; (with_reducible refine (num_law _ _).mono ?_); rintro e w2 ⟨rfl, h2_⟩; subst w2)
      go_meet
      case rel => exact ⟨rfl, (by repeat (first | (with_reducible exact Ext.refl _) | (with_reducible assumption) | (with_reducible apply Ext.grow) | (with_reducible apply Ext.alloc) | (with_reducible apply Ext.drew) | ((with_reducible apply Ext.set); (case hb => (first | omega | (simp; omega))))))⟩
  case rest =>
  obtain ⟨rfl, hz⟩ := hcut
  replace BA := BA.ext hz
  replace hx := hx.trans hz
  clear hz BB lBB cBB fBB lBA cBA fBA
  have lBA := BA.lt; have cBA := BA.cell; have fBA := BA.frozen
  clear hq eq
  --s11
  go_upto_region 18 with (go_at_call 39; (with_reducible refine (TX _).mono ?_); rintro e y9 ⟨rfl, hz_⟩; have hzz_ : Ext wc y9 := Ext.trans (by repeat (first | (with_reducible exact Ext.refl _) | (with_reducible assumption) | (with_reducible apply Ext.grow) | (with_reducible apply Ext.alloc) | (with_reducible apply Ext.drew) | ((with_reducible apply Ext.set); (case hb => (first | omega | (simp; omega)))))) hz_)
  refine wp_rebase fun v hv => ?_
  have hzv : Ext y9 v := by rw [hv]; exact (by repeat (first | (with_reducible exact Ext.refl _) | (with_reducible assumption) | (with_reducible apply Ext.grow) | (with_reducible apply Ext.alloc) | (with_reducible apply Ext.drew) | ((with_reducible apply Ext.set); (case hb => (first | omega | (simp; omega))))))
  clear hv
  replace BA := (BA.ext hzz_).ext hzv
  replace hx := (hx.trans hzz_).trans hzv
  clear hzz_ hzv hz_ lBA cBA fBA
  have lBA := BA.lt; have cBA := BA.cell; have fBA := BA.frozen
  clear TX
  --s12
  go_upto_region 19 with (go_at_call 40; (with_reducible refine (PA _).mono ?_); rintro e y10 ⟨rfl, hz_⟩; have hzz_ : Ext v y10 := Ext.trans (by repeat (first | (with_reducible exact Ext.refl _) | (with_reducible assumption) | (with_reducible apply Ext.grow) | (with_reducible apply Ext.alloc) | (with_reducible apply Ext.drew) | ((with_reducible apply Ext.set); (case hb => (first | omega | (simp; omega)))))) hz_)
  refine wp_rebase fun v hv => ?_
  have hzv : Ext y10 v := by rw [hv]; exact (by repeat (first | (with_reducible exact Ext.refl _) | (with_reducible assumption) | (with_reducible apply Ext.grow) | (with_reducible apply Ext.alloc) | (with_reducible apply Ext.drew) | ((with_reducible apply Ext.set); (case hb => (first | omega | (simp; omega))))))
  have BV : Blk v y10.heap.size (ratsV s7 m7 t7 k7) 27 := by rw [hv]; exact (by repeat (first | (with_reducible assumption) | ((with_reducible refine Blk.new _ _ _ ?_); (simp; done)) | (with_reducible apply Blk.alloc) | (with_reducible apply Blk.grow) | (with_reducible apply Blk.drew) | (with_reducible apply Blk.set10) | (with_reducible apply Blk.set5) | (with_reducible apply Blk.set4) | (with_reducible apply Blk.tail4) | (with_reducible apply Blk.set2) | (with_reducible apply Blk.set1) | ((with_reducible apply Blk.setOther); (case hne => omega))))
  clear hv
  replace BA := (BA.ext hzz_).ext hzv
  replace hx := (hx.trans hzz_).trans hzv
  clear hzz_ hzv hz_ lBA cBA fBA
  have lBA := BA.lt; have cBA := BA.cell; have fBA := BA.frozen; have lBV := BV.lt; have cBV := BV.cell; have fBV := BV.frozen
  clear PA
  --s13
  rcases hk with rfl | ⟨rfl, rfl, ev⟩
  all_goals
    go_wp2_with (first
      | (go_at_call 12; (with_reducible refine (num_law _ _).mono ?_); rintro e w2 ⟨rfl, h2_⟩; subst w2)
      | (go_at_call 17; (with_reducible refine (cw _ (hT.ext (hx.trans (by repeat (first | (with_reducible exact Ext.refl _) | (with_reducible assumption) | (with_reducible apply Ext.grow) | (with_reducible apply Ext.alloc) | (with_reducible apply Ext.drew) | ((with_reducible apply Ext.set); (case hb => (first | omega | (simp; omega))))))))).mono ?_); rintro e w2 ⟨rfl, hz_⟩; replace hx := (Ext.trans hx (by repeat (first | (with_reducible exact Ext.refl _) | (with_reducible assumption) | (with_reducible apply Ext.grow) | (with_reducible apply Ext.alloc) | (with_reducible apply Ext.drew) | ((with_reducible apply Ext.set); (case hb => (first | omega | (simp; omega))))))).trans hz_))
    exact bodyPost_ret (v := .bool true) (by simp [results, Tryz.results7, go_sem]) rfl ⟨rfl, (by repeat (first | (with_reducible exact Ext.refl _) | (with_reducible assumption) | (with_reducible apply Ext.grow) | (with_reducible apply Ext.alloc) | (with_reducible apply Ext.drew) | ((with_reducible apply Ext.set); (case hb => (first | omega | (simp; omega))))))⟩
end Go.Proofs.YtjkchmegnfbfoaaGreatDoor

namespace Go.Proofs.YtjkchmegnfbfoaaGreatDoor
open Go Go.RowKit
set_option linter.unusedSimpArgs false
set_option linter.unusedVariables false
set_option maxRecDepth 100000
set_option exponentiation.threshold 3000

/-- The words of what is none. -/
def noR : Rt := ⟨false, 0, false, 0, B4_pos, B4_pos⟩
theorem noR_ok : noR.ok = false := rfl
theorem eqT_rt (r : Rt) : EqT 27 r.v r.v := fun w => by
  rw [run_eq_rat _ _ _ _ _ _ _ _ r.hm r.hk r.hm r.hk]; simp
theorem rt_v (q : Rat) (h : Fits q) : (rt q h).v = qV q := rfl
theorem add_back (x y : Rat) : x + y - y = x := by rw [Rat.sub_eq_add_neg, Rat.add_assoc, Rat.add_neg_cancel, Rat.add_zero]
theorem mul_back (x y : Rat) (h : y ≠ 0) : x * y / y = x := by rw [Rat.div_def, Rat.mul_assoc, Rat.mul_inv_cancel y h, Rat.mul_one]
theorem sub_bad2 (a b : Rt) (h : (a.ok && b.ok) = false) : AnsT 22 #[a.v, b.v] (.tuple #[ratV false 0 false 0, .int .i64 2]) := fun w hT => by
  cases hb : b.ok with
  | false => have := Sub_bad a b hb w; rwa [qZ_eq] at this
  | true =>
    have ha : a.ok = false := by simpa [hb] using h
    refine Sub_walk a b hb false 0 false 0 2 w hT fun w hT => ?_
    have hr : (a.ok && (⟨if b.m = 0 then b.s else !b.s, b.m, b.t, b.k, b.hm, b.hk⟩ : Rt).ok) = false := by rw [ha, Bool.false_and]
    have := Add_bad a ⟨if b.m = 0 then b.s else !b.s, b.m, b.t, b.k, b.hm, b.hk⟩ w hT hr
    rwa [qZ_eq] at this
theorem sums_part (a b : Rt) : ∃ (S C : Rt) (z1 z3 : Int), (0 ≤ z1 ∧ z1 ≤ 200) ∧ (0 ≤ z3 ∧ z3 ≤ 200) ∧ AnsT 21 #[a.v, b.v] (.tuple #[S.v, .int .i64 z1]) ∧ AnsT 21 #[b.v, a.v] (.tuple #[S.v, .int .i64 z1]) ∧
    AnsT 22 #[S.v, b.v] (.tuple #[C.v, .int .i64 z3]) ∧ (z1 + z3 = 0 → EqT 27 C.v a.v) := by
  cases h : (a.ok && b.ok) with
  | false =>
    have h' : (b.ok && a.ok) = false := by rw [Bool.and_comm]; exact h
    exact ⟨noR, noR, 2, 2, by omega, by omega, fun w hT => by have := Add_bad a b w hT h; rwa [qZ_eq] at this, fun w hT => by have := Add_bad b a w hT h'; rwa [qZ_eq] at this,
      sub_bad2 noR b (by rw [noR_ok]; rfl), fun e => by omega⟩
  | true =>
    obtain ⟨ha, hb⟩ : a.ok = true ∧ b.ok = true := by simpa using h
    have fa := Rt.q_fits a ha
    have fb := Rt.q_fits b hb
    have va := Rt.v_q a ha
    have vb := Rt.v_q b hb
    by_cases f : Fits (a.q + b.q)
    · have c1 : AnsT _ _ _ := cAdd_yes a.q b.q fa fb f
      have c2 : AnsT _ _ _ := cAdd_yes b.q a.q fb fa (by rw [Rat.add_comm]; exact f)
      have c3 : AnsT _ _ _ := cSub_yes (a.q + b.q) b.q f fb (by rw [add_back]; exact fa)
      rw [Rat.add_comm b.q a.q] at c2
      rw [add_back] at c3
      rw [← rt_v _ f] at c1 c2 c3
      rw [← va] at c3
      rw [← vb] at c3
      rw [← va, ← vb] at c1
      rw [← va, ← vb] at c2
      exact ⟨rt _ f, a, 0, 0, by omega, by omega, c1, c2, c3, fun _ => eqT_rt a⟩
    · have c1 : AnsT _ _ _ := cAdd_no a.q b.q fa fb f
      have c2 : AnsT _ _ _ := cAdd_no b.q a.q fb fa (by rw [Rat.add_comm]; exact f)
      rw [← va, ← vb, qZ_eq] at c1 c2
      exact ⟨noR, noR, 110, 2, by omega, by omega, c1, c2, sub_bad2 noR b (by rw [noR_ok]; rfl), fun e => by omega⟩
theorem prods_part (a b : Rt) : ∃ (S C : Rt) (z1 z3 : Int), (0 ≤ z1 ∧ z1 ≤ 200) ∧ (0 ≤ z3 ∧ z3 ≤ 200) ∧ AnsT 23 #[a.v, b.v] (.tuple #[S.v, .int .i64 z1]) ∧ AnsT 23 #[b.v, a.v] (.tuple #[S.v, .int .i64 z1]) ∧
    AnsT 24 #[S.v, b.v] (.tuple #[C.v, .int .i64 z3]) ∧ (z1 + z3 = 0 → EqT 27 C.v a.v) := by
  cases h : (a.ok && b.ok) with
  | false =>
    have h' : (b.ok && a.ok) = false := by rw [Bool.and_comm]; exact h
    exact ⟨noR, noR, 2, 2, by omega, by omega, fun w hT => by have := Mul_bad a b w hT h; rwa [qZ_eq] at this, fun w hT => by have := Mul_bad b a w hT h'; rwa [qZ_eq] at this,
      fun w hT => by have := Div_bad noR b w hT (by rw [noR_ok]; rfl); rwa [qZ_eq] at this, fun e => by omega⟩
  | true =>
    obtain ⟨ha, hb⟩ : a.ok = true ∧ b.ok = true := by simpa using h
    have fa := Rt.q_fits a ha
    have fb := Rt.q_fits b hb
    have va := Rt.v_q a ha
    have vb := Rt.v_q b hb
    by_cases f : Fits (a.q * b.q)
    · have c1 : AnsT _ _ _ := cMul_yes a.q b.q fa fb f
      have c2 : AnsT _ _ _ := cMul_yes b.q a.q fb fa (by rw [Rat.mul_comm]; exact f)
      rw [Rat.mul_comm b.q a.q] at c2
      rw [← rt_v _ f] at c1 c2
      rw [← va, ← vb] at c1
      rw [← va, ← vb] at c2
      by_cases h0 : b.q = 0
      · have hn : b.m = 0 := by
          have h1 := (Rt.q_parts b hb).1
          rw [h0] at h1
          have := sv_natAbs b.s b.m
          rw [← h1] at this; simpa using this.symm
        exact ⟨rt _ f, noR, 0, 2, by omega, by omega, c1, c2, fun w hT => by have := Div_nought (rt _ f) b w hT (rt_ok _ f) hb hn; rwa [qZ_eq] at this, fun e => by omega⟩
      · have c3 : AnsT _ _ _ := cDiv_yes (a.q * b.q) b.q f fb h0 (by rw [mul_back _ _ h0]; exact fa)
        rw [mul_back _ _ h0] at c3
        rw [← rt_v _ f] at c3
        rw [← va] at c3
        rw [← vb] at c3
        exact ⟨rt _ f, a, 0, 0, by omega, by omega, c1, c2, c3, fun _ => eqT_rt a⟩
    · have c1 : AnsT _ _ _ := cMul_no a.q b.q fa fb f
      have c2 : AnsT _ _ _ := cMul_no b.q a.q fb fa (by rw [Rat.mul_comm]; exact f)
      rw [← va, ← vb, qZ_eq] at c1 c2
      exact ⟨noR, noR, 110, 2, by omega, by omega, c1, c2, fun w hT => by have := Div_bad noR b w hT (by rw [noR_ok]; rfl); rwa [qZ_eq] at this, fun e => by omega⟩
theorem cmpQ_turn (x y : Rat) : cmpQ y x = - cmpQ x y := by
  rw [cmpQ_eq, cmpQ_eq]
  have : y.num * x.den - x.num * y.den = -(x.num * y.den - y.num * x.den) := by omega
  rw [this]
  generalize x.num * y.den - y.num * x.den = d
  split <;> split <;> omega
theorem cmp_part (a b : Rt) : ∃ (c i : Int) (q : Bool), (-1 ≤ c ∧ c ≤ 1) ∧ Ans 31 #[a.v, b.v] (.tuple #[.int .i64 c, .int .i64 i]) ∧ Ans 31 #[b.v, a.v] (.tuple #[.int .i64 (-c), .int .i64 i]) ∧ (i = 0 ∨ i = 2) ∧
    (∀ w, (Op.equalIn 10000 27 a.v b.v).run Tryz.prog w = .ok q w) ∧ (i = 0 → q = decide (c = 0)) := by
  cases h : (a.ok && b.ok) with
  | false =>
    have h' : (b.ok && a.ok) = false := by rw [Bool.and_comm]; exact h
    exact ⟨0, 2, _, by omega, fun w => Cmp_bad a b w h, fun w => Cmp_bad b a w h', .inr rfl, fun w => run_eq_rat _ _ _ _ _ _ _ _ a.hm a.hk b.hm b.hk w, fun e => by omega⟩
  | true =>
    obtain ⟨ha, hb⟩ : a.ok = true ∧ b.ok = true := by simpa using h
    have fa := Rt.q_fits a ha
    have fb := Rt.q_fits b hb
    have va := Rt.v_q a ha
    have vb := Rt.v_q b hb
    have c1 := cCmp a.q b.q fa fb
    have c2 := cCmp b.q a.q fb fa
    rw [cmpQ_turn] at c2
    have eq := run_eq_q a.q b.q fa fb
    rw [← va, ← vb] at c1 c2 eq
    refine ⟨_, 0, _, ?_, c1, c2, .inl rfl, eq, fun _ => ?_⟩
    · unfold cmpQ; split
      · omega
      · split <;> omega
    · rw [decide_eq_decide, cmpQ]
      constructor
      · intro e; rw [e, if_neg (by rw [Rat.lt_iff]; omega), if_pos rfl]
      · intro e
        split at e
        · omega
        · split at e
          · assumption
          · omega
end Go.Proofs.YtjkchmegnfbfoaaGreatDoor

namespace Go.Proofs.YtjkchmegnfbfoaaGreatDoor
open Go Go.RowKit
set_option linter.unusedSimpArgs false
set_option linter.unusedVariables false
set_option maxRecDepth 100000

theorem info_u8 : (Tryz.prog.info? 5).map (fun i => (i.zero, i.size, i.bytes)) = some (some (.int .u8 0), 1, 1) := by kernel_rfl
abbrev by8 (c : Nat) : Value := .int .u8 (c : Int)
theorem blk_type {W : World} {b : Nat} {cs cur : Array Value} {T T' : TypeId} {fr : Nat × Nat} (h : Blk W b cs T) (hg : W.heap[b]? = some (.cells cur T' fr)) : T = T' := by
  have h1 : W.heap[b]? = _ := h
  rw [h1] at hg
  cases hg; rfl
set_option maxHeartbeats 4000000 in
theorem put_one (c : Nat) (Bx base k : Nat) (v : Value) (xs : List Value) (w : World) (hb : Boxed w Bx 137 v) (ho : w.ownsRow base 5 1 v k xs) (hk : k ≤ 1000) (h1 : base ≤ Bx) (h2 : base ≤ w.heap.size) :
    Calls Tryz.prog 107 #[by8 c, .pointer (some ⟨Bx, 0, none⟩)] w fun e w' => e = .returned (.tuple #[]) ∧ ∃ v', Boxed w' Bx 137 v' ∧ w'.ownsRow base 5 1 v' (k + 1) (xs ++ [by8 c]) ∧ Below base w w' ∧ ∀ b cs T, b ≠ Bx → T ≠ 5 → Blk w b cs T → Blk w' b cs T := by
  obtain ⟨i0, hi, hz0, hz1, hz2⟩ := info_parts info_u8
  have hc := hb.cell
  have hf := hb.frozen
  go_enter Tryz.func107, Tryz.ntmps107
  go_wp2_with (at_builtin; refine wpList_append_own _ rfl (.tmp 3) (.tmp 5) 137 rfl base 5 i0 (.int .u8 0) 1 1 Tryz.underlying137 hi hz0 hz1 hz2 rfl (by decide) v k xs rfl (ho.alloc _) ⟨w.heap.size, 0, none⟩ 1 1 [by8 c] rfl rfl ?c1 ?c2 ?c3 ?c4 ?c5 ?_)
  case c1 =>
    intro t u h
    rcases t with _ | t
    · cases h; simp [go_sem]
    · cases h
  case c2 => intro u h; simp at h; subst h; rfl
  case c3 => unfold maxLen; omega
  case c4 => omega
  case c5 => simp; omega
  intro v' w1 hown1 hgrow1 _
  obtain ⟨q1, q2, q3, _, q5⟩ := hb.appended (by decide) ho h2 h1 hown1 hgrow1
  obtain ⟨g, cap, rfl⟩ := ownsRow_succ hown1
  have hc1 := q1.cell
  have hf1 := q1.frozen
  go_wp2
  --s2
  go_end0
  refine ⟨rfl, _, q2, q3, q5, fun b cs T h1 h2 h3 => ?_⟩
  refine Blk.setOther (Blk.grown (h3.alloc _) hgrow1 ?_) (by first | exact h1 | exact Ne.symm h1)
  rcases ho.2 with ⟨rfl, _⟩ | ⟨g', cap', cur, rfl, _, hg', _⟩
  · simp [Value.ownBlock]
  · intro e
    obtain rfl : b = g' := by simpa [Value.ownBlock] using e
    exact h2 (blk_type h3 hg')
end Go.Proofs.YtjkchmegnfbfoaaGreatDoor

namespace Go.Proofs.YtjkchmegnfbfoaaGreatDoor
open Go Go.RowKit
set_option linter.unusedSimpArgs false
set_option linter.unusedVariables false
set_option maxRecDepth 100000

/-- A row of bytes. -/
def RowB (W : World) (g n : Nat) (f : Nat → Nat) : Prop := ∃ A, Blk W g A 5 ∧ n ≤ A.size ∧ ∀ j, j < n → A[j]? = some (by8 (f j))
theorem RowB.cell {W : World} {g n : Nat} {f : Nat → Nat} (h : RowB W g n f) (j : Nat) (hj : j < n) : W.cell? ⟨g, j, none⟩ = some (by8 (f j)) := by
  obtain ⟨A, h1, h2, h3⟩ := h; rw [h1.cell, h3 j hj]
theorem RowB.frozen {W : World} {g n : Nat} {f : Nat → Nat} (h : RowB W g n f) (j : Nat) : W.frozen? ⟨g, j, none⟩ = false := by
  obtain ⟨A, h1, _⟩ := h; exact h1.frozen j
theorem RowB.lt {W : World} {g n : Nat} {f : Nat → Nat} (h : RowB W g n f) : g < W.heap.size := by
  obtain ⟨A, h1, _⟩ := h; exact h1.lt
theorem RowB.grow {W : World} {g n : Nat} {f : Nat → Nat} (h : RowB W g n f) (d : Gr) : RowB (grow W d) g n f := by
  obtain ⟨A, h1, h2, h3⟩ := h; exact ⟨A, h1.grow d, h2, h3⟩
theorem RowB.congr {W : World} {g n : Nat} {f h : Nat → Nat} (ho : RowB W g n f) (hh : ∀ j, j < n → h j = f j) : RowB W g n h := by
  obtain ⟨A, h1, h2, h3⟩ := ho
  exact ⟨A, h1, h2, fun j hj => by rw [h3 j hj, hh j hj]⟩
theorem RowB.set {W : World} {g n : Nat} {f : Nat → Nat} (ho : RowB W g n f) (i x : Nat) (hi : i < n) : RowB (W.setCell ⟨g, i, none⟩ (by8 x)) g n (fun j => if j = i then x else f j) := by
  obtain ⟨A, h1, h2, h3⟩ := ho
  refine ⟨A.setIfInBounds i (by8 x), h1.setSame, by simp [h2], fun j hj => ?_⟩
  by_cases e : j = i
  · subst e; rw [Array.getElem?_setIfInBounds_self_of_lt (by omega)]; simp
  · rw [Array.getElem?_setIfInBounds_ne (by omega), h3 j hj]; simp [e]
set_option maxHeartbeats 8000000 in
theorem reverse_row (g n cap base : Nat) (f : Nat → Nat) (w : World) (hn0 : 0 < n) (hn : n ≤ 1000) (h : RowB w g n f) (hb : base ≤ g) :
    Calls Tryz.prog 108 #[.slice (some ⟨g, 0, none⟩) n cap] w fun e w' => e = .returned (.tuple #[]) ∧ RowB w' g n (fun j => f (n - 1 - j)) ∧ Below base w w' := by
  go_enter Tryz.func108, Tryz.ntmps108
  go_wp2
  --s1
  go_loopg [2, 3] n (fun u i j wr => ∃ (k q : Nat), u = n - k ∧ k + q + 1 = n ∧ 2 * k ≤ n ∧ i = .int .i64 k ∧ j = .int .i64 q ∧ RowB wr g n (fun j => if j < k ∨ q < j then f (n - 1 - j) else f j) ∧ Below base w wr)
  case atStart => exact ⟨0, n - 1, rfl, by omega, by omega, rfl, by go_num, h.congr fun j hj => by rw [if_neg (by omega)], Below.refl _ _⟩
  case round =>
    obtain ⟨k, q, hg, hq, hk, rfl, rfl, hR, hB⟩ := hrel
    by_cases hlt : k < q
    · have c1 := hR.cell k (by omega)
      have c2 := hR.cell q (by omega)
      have f1 := hR.frozen k
      have hl := hR.lt
      rw [if_neg (by omega)] at c1 c2
      have hS := (hR.set k (f q) (by omega)).set q (f k) (by omega)
      have hBS := (hB.setCell (p := ⟨g, k, none⟩) hb (by8 (f q))).setCell (p := ⟨g, q, none⟩) hb (by8 (f k))
      have f3 := (hR.set k (f q) (by omega)).frozen q
      have c3 := (hR.set k (f q) (by omega)).cell q (by omega)
      clear hR hB
      have hkn : k < n := by omega
      have hqn : q < n := by omega
      go_wp2
      (first | refine wp_region_k' [.p, .p, .p, .p, .p, .p, .p, .r, .p, .p, .p, .r, .p, .w, .p, .w] (by kernel_rfl) (by kernel_rfl) ?_ | refine wp_region_k [.p, .p, .p, .p, .p, .p, .p, .r, .p, .p, .p, .r, .p, .w, .p, .w] (by kernel_rfl) (by kernel_rfl) ?_); (repeat (first | (refine wpK_p rfl (fun K hK => ?_); go_simp; refine hK _ _ ?_; clear hK K) | (refine wpK_r rfl (fun K hK => ?_); go_simp; refine hK _ _ ?_; clear hK K) | (refine wpK_w rfl (fun K hK => ?_); go_simp; refine hK _ _ ?_; clear hK K))); refine wpK_nil ?_; intro d
      --s2
      have hS2 : RowB (((wr.setCell ⟨g, k, none⟩ (by8 (f q))).setCell ⟨g, q, none⟩ (by8 (f k)))) g n (fun j => if j < k + 1 ∨ q - 1 < j then f (n - 1 - j) else f j) := hS.congr fun j hj => by
        by_cases ha : j = q
        · subst ha; rw [if_pos (by omega), if_pos rfl]; congr 1; omega
        · rw [if_neg ha]
          by_cases hb' : j = k
          · subst hb'; rw [if_pos (by omega), if_pos rfl]; congr 1; omega
          · rw [if_neg hb']
            by_cases hc' : j < k ∨ q < j
            · rw [if_pos hc', if_pos (by omega)]
            · rw [if_neg hc', if_neg (by omega)]
      have hgs : base ≤ ((wr.setCell ⟨g, k, none⟩ (by8 (f q))).setCell ⟨g, q, none⟩ (by8 (f k))).heap.size := Nat.le_trans (Nat.le_of_lt (Nat.lt_of_le_of_lt hb hl)) (by simp)
      go_wp2
      go_roundg (n - (k + 1))
      case measure => omega
      case rel => exact ⟨k + 1, q - 1, rfl, by omega, by omega, by go_num, by go_num, hS2.grow _, hBS.trans (Below.mono (Ext.below ⟨d, rfl⟩) hgs)⟩
    · clear h
      go_wp2
      --s3
      go_end0
      refine ⟨rfl, hR.congr fun j hj => ?_, hB⟩
      by_cases hj2 : j < k ∨ q < j
      · rw [if_pos hj2]
      · rw [if_neg hj2]; congr 1; omega
end Go.Proofs.YtjkchmegnfbfoaaGreatDoor

namespace Go.Proofs.YtjkchmegnfbfoaaGreatDoor
open Go Go.RowKit
set_option linter.unusedSimpArgs false
set_option linter.unusedVariables false
set_option maxRecDepth 100000
set_option exponentiation.threshold 3000

def rdg (m : Nat) : List Nat := m % 10 :: (if h : m / 10 = 0 then [] else rdg (m / 10))
termination_by m
decreasing_by omega
theorem rdg_eq (m : Nat) : rdg m = m % 10 :: (if m / 10 = 0 then [] else rdg (m / 10)) := by
  rw [rdg]; split <;> rfl
theorem rdg_val (m : Nat) : ofDec (rdg m).reverse = m := by
  induction m using Nat.strongRecOn with
  | ind m ih =>
    rw [rdg_eq]
    by_cases h : m / 10 = 0
    · rw [if_pos h]; simp [ofDec]; omega
    · rw [if_neg h, List.reverse_cons, ofDec_snoc, ih (m / 10) (by omega)]; omega
theorem rdg_len (n : Nat) : ∀ m, m < 10 ^ (n + 1) → (rdg m).length ≤ n + 1 := by
  induction n with
  | zero => intro m h; rw [rdg_eq, if_pos (by omega)]; simp
  | succ n ih =>
    intro m h
    rw [rdg_eq]
    split
    · simp
    · have := ih (m / 10) (by rw [Nat.pow_succ] at h; omega)
      simp; omega
theorem rdg_pos (m : Nat) : 0 < (rdg m).length := by rw [rdg_eq]; simp
theorem rdg_lt (m : Nat) : ∀ d ∈ rdg m, d < 10 := by
  induction m using Nat.strongRecOn with
  | ind m ih =>
    rw [rdg_eq]
    intro d hd
    rcases List.mem_cons.1 hd with rfl | hd
    · omega
    · by_cases h : m / 10 = 0
      · rw [if_pos h] at hd; cases hd
      · rw [if_neg h] at hd; exact ih (m / 10) (by omega) d hd
theorem rdg_decs (m : Nat) : Decs (rdg m).reverse := fun i => by
  rw [List.getD_eq_getElem?_getD]
  cases h : (rdg m).reverse[i]? with
  | none => simp
  | some d => exact rdg_lt m d (by simpa using List.mem_of_getElem? h)
/-- The digit in front is not 0, unless it is the only one. -/
theorem rdg_top (m : Nat) : (rdg m).reverse.getD 0 0 ≠ 0 ∨ (rdg m).length = 1 := by
  induction m using Nat.strongRecOn with
  | ind m ih =>
    rw [rdg_eq]
    by_cases h : m / 10 = 0
    · rw [if_pos h]; right; rfl
    · rw [if_neg h]
      left
      have hp := rdg_pos (m / 10)
      have hv : (rdg (m / 10)).reverse.getD 0 0 ≠ 0 := by
        rcases ih (m / 10) (by omega) with h1 | h1
        · exact h1
        · have h2 : m / 10 / 10 = 0 := by
            by_cases h3 : m / 10 / 10 = 0
            · exact h3
            · rw [rdg_eq, if_neg h3] at h1
              have := rdg_pos (m / 10 / 10)
              simp at h1; simp [h1] at this
          rw [rdg_eq, if_pos h2]
          simp; omega
      rw [List.reverse_cons, List.getD_eq_getElem?_getD, List.getElem?_append_left (by simpa using hp), ← List.getD_eq_getElem?_getD]
      exact hv
theorem rdg_B4 (m : Nat) (h : m < B4) : (rdg m).length ≤ 78 := rdg_len 77 m (Nat.lt_of_lt_of_le h (by decide))
end Go.Proofs.YtjkchmegnfbfoaaGreatDoor

namespace Go.Proofs.YtjkchmegnfbfoaaGreatDoor
open Go Go.RowKit
set_option linter.unusedSimpArgs false
set_option linter.unusedVariables false
set_option maxRecDepth 100000

theorem row_owned {W : World} {base g n cap : Nat} {ds : List Nat} (hl : ds.length = n) (h : W.ownsRow base 5 1 (.slice (some ⟨g, 0, none⟩) n cap) n (ds.map by8)) : RowB W g n (fun j => ds.getD j 0) ∧ base ≤ g := by
  obtain ⟨h1, h2 | ⟨g', cap', cur, e, hb, hg, hn, hm, hs, ht⟩⟩ := h
  · obtain ⟨e, _⟩ := h2; cases e
  · cases e
    refine ⟨⟨cur, hg, by omega, fun j hj => ?_⟩, hb⟩
    have h3 : (cur.toList.take (n * 1))[j]? = (ds.map by8)[j]? := by rw [ht]
    rw [List.getElem?_take_of_lt (by omega), List.getElem?_map] at h3
    have hjd : j < ds.length := by omega
    rw [List.getElem?_eq_getElem hjd] at h3
    show cur[j]? = some (by8 (ds.getD j 0))
    rw [List.getD_eq_getElem?_getD, List.getElem?_eq_getElem hjd]
    simpa using h3
/-- The bytes of an Int's text, from the last. -/
def cods (s : Bool) (m : Nat) : List Nat := ((rdg m).map fun d => 48 + d) ++ (if s then [45] else [])
theorem cods_lt (s : Bool) (m : Nat) : ∀ c ∈ cods s m, c < 256 := by
  intro c hc
  rcases List.mem_append.1 hc with h | h
  · obtain ⟨d, hd, rfl⟩ := List.mem_map.1 h
    have := rdg_lt m d hd
    omega
  · cases s with
    | false => cases h
    | true => simp at h; omega
/-- An Int's text. -/
def textB (s : Bool) (m : Nat) : ByteArray := ⟨((cods s m).reverse.map UInt8.ofNat).toArray⟩
theorem row_text (W : World) (g cap : Nat) (cs : List Nat) (h : ∀ c ∈ cs, c < 256) (hR : RowB W g cs.length (fun j => cs.getD (cs.length - 1 - j) 0)) :
    (convert 137 9 (.slice (some ⟨g, 0, none⟩) cs.length cap)).run Tryz.prog W = .ok (.string ⟨(cs.reverse.map UInt8.ofNat).toArray⟩) W := by
  have hl : (cs.reverse.map UInt8.ofNat).length = cs.length := by simp
  have := run_convert_bytes_back (P := Tryz.prog) W 137 9 5 ⟨g, 0, none⟩ cap (cs.reverse.map UInt8.ofNat) Tryz.underlying137 Tryz.underlying5 Tryz.underlying9 (fun j hj => by
    rw [hl] at hj
    have h1 := hR.cell j hj
    rw [show (⟨g, 0, none⟩ : Addr).add j = ⟨g, j, none⟩ by (simp [Addr.add]; try exact fun h => h.symm), h1]
    have hj2 : cs.length - 1 - j < cs.length := by omega
    have hc := h _ (List.getElem_mem hj2)
    rw [List.getD_eq_getElem?_getD, List.getElem?_eq_getElem hj2]
    simp only [Option.getD_some, List.getElem_map, List.getElem_reverse]
    rw [UInt8.toNat_ofNat', Nat.mod_eq_of_lt (by omega)])
  rw [hl] at this
  exact this
end Go.Proofs.YtjkchmegnfbfoaaGreatDoor

namespace Go.Proofs.YtjkchmegnfbfoaaGreatDoor
open Go Go.RowKit
set_option linter.unusedSimpArgs false
set_option linter.unusedVariables false
set_option maxRecDepth 100000
set_option exponentiation.threshold 3000

abbrev magA (m : Nat) : Array Value := #[q64 (wn m 0), q64 (wn m 1), q64 (wn m 2), q64 (wn m 3)]
theorem wn_dig (d : Nat) (h : d < 11) : wn d 0 = d ∧ wn d 1 = 0 ∧ wn d 2 = 0 ∧ wn d 3 = 0 := by
  have h0 : ∀ d : Nat, d < 11 → (wn d 0 = d ∧ wn d 1 = 0 ∧ wn d 2 = 0 ∧ wn d 3 = 0) := by decide +kernel
  exact h0 d h
theorem parts_ten (a : Nat) (ha : a < B4) (w : World) :
    Calls Tryz.prog 99 #[magV a, .agg #[.int .u64 10, .int .u64 0, .int .u64 0, .int .u64 0]] w fun e w' => e = .returned (.tuple #[magV (a / 10), .agg #[q64 (a % 10), .int .u64 0, .int .u64 0, .int .u64 0]]) ∧ Ext w w' := by
  have h10 : (magV 10 : Value) = .agg #[.int .u64 10, .int .u64 0, .int .u64 0, .int .u64 0] := by
    obtain ⟨e0, e1, e2, e3⟩ := wn_dig 10 (by omega)
    show (Value.agg #[q64 (wn 10 0), q64 (wn 10 1), q64 (wn 10 2), q64 (wn 10 3)]) = _
    rw [e0, e1, e2, e3]; rfl
  have := parts_any a 10 ha (by omega) (Nat.lt_of_lt_of_le (by omega : 10 < 11) (by decide)) w
  rw [h10] at this
  obtain ⟨e0, e1, e2, e3⟩ := wn_dig (a % 10) (by omega)
  have hd : (magV (a % 10) : Value) = .agg #[q64 (a % 10), .int .u64 0, .int .u64 0, .int .u64 0] := by
    show (Value.agg #[q64 (wn (a % 10) 0), q64 (wn (a % 10) 1), q64 (wn (a % 10) 2), q64 (wn (a % 10) 3)]) = _
    rw [e0, e1, e2, e3]; rfl
  rwa [hd] at this
theorem owns_set {W : World} {base : Nat} {e : TypeId} {size : Nat} {v : Value} {n : Nat} {xs : List Value} (h : W.ownsRow base e size v n xs) {b j : Nat} {cs : Array Value} {T : TypeId} {x : Value} (hB : Blk W b cs T) (hT : T ≠ e) : (W.setCell ⟨b, j, none⟩ x).ownsRow base e size v n xs := by
  refine ⟨h.1, ?_⟩
  rcases h.2 with h' | ⟨g, cap, cur, rfl, hb, hg, r⟩
  · exact .inl h'
  · refine .inr ⟨g, cap, cur, rfl, hb, ?_, r⟩
    rw [Below.heap_setCell _ _ _ g (fun e => by
      obtain rfl : g = b := e
      exact hT (blk_type hB hg))]
    exact hg
theorem owns_set4 {W : World} {base : Nat} {e : TypeId} {size : Nat} {v : Value} {n : Nat} {xs : List Value} (h : W.ownsRow base e size v n xs) {b : Nat} {T : TypeId} {x0 x1 x2 x3 y0 y1 y2 y3 : Value} (hB : Blk W b #[y0, y1, y2, y3] T) (hT : T ≠ e) :
    ((((W.setCell ⟨b, 0, none⟩ x0).setCell ⟨b, 1, none⟩ x1).setCell ⟨b, 2, none⟩ x2).setCell ⟨b, 3, none⟩ x3).ownsRow base e size v n xs :=
  owns_set (owns_set (owns_set (owns_set h hB hT) hB.setSame hT) (hB.setSame (o := 0)).setSame hT) ((hB.setSame (o := 0)).setSame (o := 1)).setSame hT
theorem below_set4 {B : Nat} {a w : World} (h : Below B a w) {b : Nat} (hb : B ≤ b) (x0 x1 x2 x3 : Value) : Below B a ((((w.setCell ⟨b, 0, none⟩ x0).setCell ⟨b, 1, none⟩ x1).setCell ⟨b, 2, none⟩ x2).setCell ⟨b, 3, none⟩ x3) :=
  (((h.setCell (p := ⟨b, 0, none⟩) hb x0).setCell (p := ⟨b, 1, none⟩) hb x1).setCell (p := ⟨b, 2, none⟩) hb x2).setCell (p := ⟨b, 3, none⟩) hb x3
set_option maxHeartbeats 8000000 in
theorem Text_walk (s : Bool) (m : Nat) (hm : m < B4) (hb : badI s m = false) (w : World) :
    Calls Tryz.prog 80 #[intV s m] w fun e w' => e = .returned (.tuple #[.string (textB s m), .int .i64 0]) ∧ Ext w w' := by
  have hmf : ∀ (fn : Fn) (first cap : Array Value) (w : World), (Instr.makeFunc fn first cap).run Tryz.prog w = .ok (.func fn first cap) w := fun _ _ _ _ => rfl
  have ck := check_yes s m hm hb
  go_enter Tryz.func80, Tryz.ntmps80
  go_wp2_with (go_at_call 48; (with_reducible refine (ck _).mono ?_); rintro e y1 ⟨rfl, hz⟩; have hx : Ext w y1 := Ext.trans (by repeat (first | (with_reducible exact Ext.refl _) | (with_reducible assumption) | (with_reducible apply Ext.grow) | (with_reducible apply Ext.alloc) | (with_reducible apply Ext.drew) | ((with_reducible apply Ext.set); (case hb => (first | omega | (simp; omega)))))) hz; have BA : Blk y1 w.heap.size (ints1 s m) 25 := Blk.ext (by repeat (first | (with_reducible assumption) | ((with_reducible refine Blk.new _ _ _ ?_); (simp; done)) | (with_reducible apply Blk.alloc) | (with_reducible apply Blk.grow) | (with_reducible apply Blk.drew) | (with_reducible apply Blk.set10) | (with_reducible apply Blk.set5) | (with_reducible apply Blk.set4) | (with_reducible apply Blk.tail4) | (with_reducible apply Blk.set2) | (with_reducible apply Blk.set1) | ((with_reducible apply Blk.setOther); (case hne => omega)))) hz; have lBA := BA.lt; have cBA := BA.cell; have fBA := BA.frozen)
  refine wp_rebase fun v hv => ?_
  have hxv : Ext w v := by rw [hv]; exact (by repeat (first | (with_reducible exact Ext.refl _) | (with_reducible assumption) | (with_reducible apply Ext.grow) | (with_reducible apply Ext.alloc) | (with_reducible apply Ext.drew) | ((with_reducible apply Ext.set); (case hb => (first | omega | (simp; omega))))))
  have hxy1 : Ext y1 v := by rw [hv]; exact (by repeat (first | (with_reducible exact Ext.refl _) | (with_reducible assumption) | (with_reducible apply Ext.grow) | (with_reducible apply Ext.alloc) | (with_reducible apply Ext.drew) | ((with_reducible apply Ext.set); (case hb => (first | omega | (simp; omega))))))
  have BA2 : Blk v w.heap.size (ints1 s m) 25 := by rw [hv]; exact (by repeat (first | (with_reducible assumption) | ((with_reducible refine Blk.new _ _ _ ?_); (simp; done)) | (with_reducible apply Blk.alloc) | (with_reducible apply Blk.grow) | (with_reducible apply Blk.drew) | (with_reducible apply Blk.set10) | (with_reducible apply Blk.set5) | (with_reducible apply Blk.set4) | (with_reducible apply Blk.tail4) | (with_reducible apply Blk.set2) | (with_reducible apply Blk.set1) | ((with_reducible apply Blk.setOther); (case hne => omega))))
  have BO : Blk v y1.heap.size #[.slice none 0 0] 137 := by rw [hv]; exact (by repeat (first | (with_reducible assumption) | ((with_reducible refine Blk.new _ _ _ ?_); (simp; done)) | (with_reducible apply Blk.alloc) | (with_reducible apply Blk.grow) | (with_reducible apply Blk.drew) | (with_reducible apply Blk.set10) | (with_reducible apply Blk.set5) | (with_reducible apply Blk.set4) | (with_reducible apply Blk.tail4) | (with_reducible apply Blk.set2) | (with_reducible apply Blk.set1) | ((with_reducible apply Blk.setOther); (case hne => omega))))
  have BM : Blk v (y1.heap.size + 1) (magA m) 109 := by rw [hv]; exact (by repeat (first | (with_reducible assumption) | ((with_reducible refine Blk.new _ _ _ ?_); (simp; done)) | (with_reducible apply Blk.alloc) | (with_reducible apply Blk.grow) | (with_reducible apply Blk.drew) | (with_reducible apply Blk.set10) | (with_reducible apply Blk.set5) | (with_reducible apply Blk.set4) | (with_reducible apply Blk.tail4) | (with_reducible apply Blk.set2) | (with_reducible apply Blk.set1) | ((with_reducible apply Blk.setOther); (case hne => omega))))
  clear hv
  clear ck lBA cBA fBA
  have hxy : Below y1.heap.size y1 v := hxy1.below
  --s1
  go_loopg [7] 80 (fun u p wr => ∃ (mb cur k : Nat) (pre : List Nat) (ov : Value), u = 80 - k ∧ k < 78 ∧ p = .pointer (some ⟨mb, 0, none⟩) ∧ y1.heap.size < mb ∧ rdg m = pre ++ rdg cur ∧ pre.length = k ∧ cur < B4 ∧
      Blk wr mb (magA cur) 109 ∧ Boxed wr y1.heap.size 137 ov ∧ wr.ownsRow y1.heap.size 5 1 ov k (pre.map fun d => by8 (48 + d)) ∧ Below y1.heap.size y1 wr)
  case atStart => exact ⟨y1.heap.size + 1, m, 0, [], .slice none 0 0, rfl, by omega, rfl, by omega, rfl, rfl, hm, BM, BO, World.ownsRow_nil _ _ _ _, hxy⟩
  case round =>
    clear hxy BM BO
    obtain ⟨mb, cur, k, pre, ov, hg, hk, rfl, hmb, hpre, hlen, hcur, BM, BO, hown, hB⟩ := hrel
    have hxw : Ext wr wr := Ext.refl wr
    have CP := parts_ten cur hcur
    have hd : cur % 10 < 10 := by omega
    have hrd := rdg_eq cur
    generalize hdd : cur % 10 = dd at *
    generalize hq : cur / 10 = qq at *
    have lBM := BM.lt; have cBM := BM.cell; have fBM := BM.frozen
    go_upto_region 8 with (go_at_call 99; (with_reducible refine (CP _).mono ?_); rintro e y2 ⟨rfl, hz⟩; have hxz : Ext wr y2 := Ext.trans (by repeat (first | (with_reducible exact Ext.refl _) | (with_reducible assumption) | (with_reducible apply Ext.grow) | (with_reducible apply Ext.alloc) | (with_reducible apply Ext.drew) | ((with_reducible apply Ext.set); (case hb => (first | omega | (simp; omega)))))) hz)
    refine wp_rebase fun v2 hv2 => ?_
    have hx2 : Ext wr v2 := by rw [hv2]; exact (by repeat (first | (with_reducible exact Ext.refl _) | (with_reducible assumption) | (with_reducible apply Ext.grow) | (with_reducible apply Ext.alloc) | (with_reducible apply Ext.drew) | ((with_reducible apply Ext.set); (case hb => (first | omega | (simp; omega))))))
    have BQ : Blk v2 y2.heap.size (magA qq) 109 := by rw [hv2]; exact (by repeat (first | (with_reducible assumption) | ((with_reducible refine Blk.new _ _ _ ?_); (simp; done)) | (with_reducible apply Blk.alloc) | (with_reducible apply Blk.grow) | (with_reducible apply Blk.drew) | (with_reducible apply Blk.set10) | (with_reducible apply Blk.set5) | (with_reducible apply Blk.set4) | (with_reducible apply Blk.tail4) | (with_reducible apply Blk.set2) | (with_reducible apply Blk.set1) | ((with_reducible apply Blk.setOther); (case hne => omega))))
    have BR : Blk v2 (y2.heap.size + 1) #[q64 dd, .int .u64 0, .int .u64 0, .int .u64 0] 109 := by rw [hv2]; exact (by repeat (first | (with_reducible assumption) | ((with_reducible refine Blk.new _ _ _ ?_); (simp; done)) | (with_reducible apply Blk.alloc) | (with_reducible apply Blk.grow) | (with_reducible apply Blk.drew) | (with_reducible apply Blk.set10) | (with_reducible apply Blk.set5) | (with_reducible apply Blk.set4) | (with_reducible apply Blk.tail4) | (with_reducible apply Blk.set2) | (with_reducible apply Blk.set1) | ((with_reducible apply Blk.setOther); (case hne => omega))))
    have hs2 := hxz.size
    have hwm := BM.lt
    clear hv2 lBM cBM fBM
    have BM2 := BM.ext hx2
    have BO2 : Boxed v2 y1.heap.size 137 ov := Blk.ext BO hx2
    have hown2 : v2.ownsRow y1.heap.size 5 1 ov k (pre.map fun d => by8 (48 + d)) := by obtain ⟨d, rfl⟩ := hx2; exact hown.ext2 d
    have hB2 : Below y1.heap.size y1 v2 := hB.trans (Below.mono hx2.below (by have := BO.lt; omega))
    have hbs : y1.heap.size ≤ v2.heap.size := hB2.size
    have lBR := BR.lt; have cBR := BR.cell; have fBR := BR.frozen
    --s2
    have PO := put_one (48 + dd) _ y1.heap.size k ov _ _ BO2 hown2 (by omega) (Nat.le_refl _) hbs
    rw [show by8 (48 + dd) = Value.int .u8 (48 + (dd : Int)) by simp [by8]] at PO
    go_upto_region 9 with (go_at_call 107; (with_reducible refine PO.mono ?_); rintro e y3 ⟨rfl, ov', BO3, hown3, hB3, hkeep⟩)
    have BM3 := hkeep _ _ _ (by omega) (by decide) BM2
    have BQ3 := hkeep _ _ _ (by omega) (by decide) BQ
    clear PO BR lBR cBR fBR BM2 BO2 hown2 BQ
    have lBM3 := BM3.lt; have cBM3 := BM3.cell; have fBM3 := BM3.frozen; have lBQ3 := BQ3.lt; have cBQ3 := BQ3.cell; have fBQ3 := BQ3.frozen
    --s3
    have hqB : qq < B4 := by omega
    have EM : ∀ w, (Op.equalIn 10000 109 (magV qq) (.agg #[.int .u64 0, .int .u64 0, .int .u64 0, .int .u64 0])).run Tryz.prog w = .ok (decide (qq = 0)) w := fun w => by
      have h0 : (magV 0 : Value) = .agg #[.int .u64 0, .int .u64 0, .int .u64 0, .int .u64 0] := by simp [wn_zero]
      rw [← h0]
      exact run_eq_mag_at 109 Tryz.underlying109 _ qq 0 hqB B4_pos w
    have hB3' : Below y1.heap.size y1 y3 := hB2.trans hB3
    have hs3 := hB3.size
    clear CP hkeep hB hB2 hB3 hxz hx2 hxw
    by_cases hq0 : qq = 0
    · rw [decide_eq_true hq0] at EM
      have hmm : rdg m = pre ++ [dd] := by rw [hpre, hrd, if_pos hq0]
      have hlm : k + 1 = (rdg m).length := by rw [hmm]; simp [hlen]
      have hown4 : y3.ownsRow y1.heap.size 5 1 ov' (k + 1) (((rdg m).map fun d => 48 + d).map by8) := by
        rw [hmm]; simpa [by8, Function.comp_def] using hown3
      have hk78 := rdg_B4 m hm
      have BA3 : Blk y3 w.heap.size (ints1 s m) 25 := (hB3'.block _ BA.lt).trans BA
      have hmb3 := BM3.lt
      have hbx := BO3.lt
      have BOb : Blk y3 y1.heap.size #[ov'] 137 := BO3
      have hmA : w.heap.size < y1.heap.size := BA.lt
      clear hown3 hmm hpre hrd BA hq0
      go_upto_region 13 with fail
      refine wp_rebase fun v4 hv4 => ?_
      have BA4 : Blk v4 w.heap.size (ints1 s m) 25 := by rw [hv4]; exact (by repeat (first | (with_reducible assumption) | ((with_reducible refine Blk.new _ _ _ ?_); (simp; done)) | (with_reducible apply Blk.alloc) | (with_reducible apply Blk.grow) | (with_reducible apply Blk.drew) | (with_reducible apply Blk.set10) | (with_reducible apply Blk.set5) | (with_reducible apply Blk.set4) | (with_reducible apply Blk.tail4) | (with_reducible apply Blk.set2) | (with_reducible apply Blk.set1) | ((with_reducible apply Blk.setOther); (case hne => omega))))
      have BO4 : Boxed v4 y1.heap.size 137 ov' := by show Blk v4 y1.heap.size #[ov'] 137; rw [hv4]; exact (by repeat (first | (with_reducible assumption) | ((with_reducible refine Blk.new _ _ _ ?_); (simp; done)) | (with_reducible apply Blk.alloc) | (with_reducible apply Blk.grow) | (with_reducible apply Blk.drew) | (with_reducible apply Blk.set10) | (with_reducible apply Blk.set5) | (with_reducible apply Blk.set4) | (with_reducible apply Blk.tail4) | (with_reducible apply Blk.set2) | (with_reducible apply Blk.set1) | ((with_reducible apply Blk.setOther); (case hne => omega))))
      have hown5 : v4.ownsRow y1.heap.size 5 1 ov' (k + 1) (((rdg m).map fun d => 48 + d).map by8) := by rw [hv4]; exact owns_set4 hown4 BM3 (by decide)
      have hB4 : Below y1.heap.size y1 v4 := by rw [hv4]; exact below_set4 hB3' (by omega) _ _ _ _
      clear hv4 BA3 BO3 BOb hown4 hB3' BM3 lBM3 cBM3 fBM3 BQ3 lBQ3 cBQ3 fBQ3 hmb hmb3 hbx EM
      --s40
      cases s with
      | false =>
        have hlc : k + 1 = (cods false m).length := by simp [cods, hlm]
        have hown5' : v4.ownsRow y1.heap.size 5 1 ov' (k + 1) ((cods false m).map by8) := by simpa [cods] using hown5
        obtain ⟨g, cap, rfl⟩ := ownsRow_succ hown5
        obtain ⟨hR, hg⟩ := row_owned hlc.symm hown5'
        have hg1 : y1.heap.size + 1 ≤ g := by
          have hne : g ≠ y1.heap.size := by
            rintro rfl
            obtain ⟨A, hA, _⟩ := hR
            have hBx : Blk v4 y1.heap.size #[.slice (some ⟨y1.heap.size, 0, none⟩) (k + 1) cap] 137 := BO4
            exact absurd (blk_type hA hBx) (by decide)
          omega
        have cR := fun z h => reverse_row g (k + 1) cap (y1.heap.size + 1) (fun j => (cods false m).getD j 0) z (by omega) (by omega) h hg1
        have CV : ∀ W, RowB W g (k + 1) (fun j => (cods false m).getD (k + 1 - 1 - j) 0) → (convert 137 9 (.slice (some ⟨g, 0, none⟩) (k + 1) cap)).run Tryz.prog W = .ok (.string (textB false m)) W := fun W h => by
          rw [hlc] at h ⊢
          exact row_text W g cap (cods false m) (cods_lt false m) h
        clear hlc hown5' hown5 hlm
        have lBA4 := BA4.lt; have cBA4 := BA4.cell; have fBA4 := BA4.frozen
        have cBO := BO4.cell
        have fBO := BO4.frozen
        have hBlt := BO4.lt
        have hgl := hR.lt
        go_wp2_with (go_at_call 108; (with_reducible refine (cR _ hR).mono ?_); rintro e y5 ⟨rfl, hR5, hB5⟩; have CV5 := CV _ hR5; have cBO5 : y5.cell? ⟨y1.heap.size, 0, none⟩ = some (.slice (some ⟨g, 0, none⟩) (k + 1) cap) := (hB5.cell (by show y1.heap.size < y1.heap.size + 1; omega)).trans cBO; clear cR CV)
        --s42
        have hBf : Below y1.heap.size y1 y5 := hB4.trans (hB5.mono (by omega))
        exact bodyPost_ret (v := .tuple #[.string (textB false m), .int .i64 0]) (by simp [results, Tryz.results80, go_sem]) rfl ⟨rfl, Ext.of_below (hx.below.trans (hBf.mono hx.size))⟩
      | true =>
        have hlc : k + 1 + 1 = (cods true m).length := by simp [cods, hlm]
        have PO := put_one 45 _ y1.heap.size (k + 1) ov' _ _ BO4 hown5 (by omega) (Nat.le_refl _) hB4.size
        rw [show by8 45 = Value.int .u8 45 by simp [by8]] at PO
        have lBA4 := BA4.lt; have cBA4 := BA4.cell; have fBA4 := BA4.frozen
        go_upto_region 15 with (go_at_call 107; (with_reducible refine PO.mono ?_); rintro e y4 ⟨rfl, ov2, BO5, hown6, hB5, _⟩)
        have hown5' : y4.ownsRow y1.heap.size 5 1 ov2 (k + 1 + 1) ((cods true m).map by8) := by
          rw [cods, if_pos rfl, List.map_append]; simpa [by8] using hown6
        clear PO lBA4 cBA4 fBA4 hown5 hown6
        obtain ⟨g, cap, rfl⟩ := ownsRow_succ hown5'
        obtain ⟨hR, hg⟩ := row_owned hlc.symm hown5'
        have hg1 : y1.heap.size + 1 ≤ g := by
          have hne : g ≠ y1.heap.size := by
            rintro rfl
            obtain ⟨A, hA, _⟩ := hR
            have hBx : Blk y4 y1.heap.size #[.slice (some ⟨y1.heap.size, 0, none⟩) (k + 1 + 1) cap] 137 := BO5
            exact absurd (blk_type hA hBx) (by decide)
          omega
        have cR := fun z h => reverse_row g (k + 1 + 1) cap (y1.heap.size + 1) (fun j => (cods true m).getD j 0) z (by omega) (by omega) h hg1
        have CV : ∀ W, RowB W g (k + 1 + 1) (fun j => (cods true m).getD (k + 1 + 1 - 1 - j) 0) → (convert 137 9 (.slice (some ⟨g, 0, none⟩) (k + 1 + 1) cap)).run Tryz.prog W = .ok (.string (textB true m)) W := fun W h => by
          rw [hlc] at h ⊢
          exact row_text W g cap (cods true m) (cods_lt true m) h
        clear hlc hown5' hlm
        have cBO := BO5.cell
        have fBO := BO5.frozen
        have hBlt := BO5.lt
        have hgl := hR.lt
        go_wp2_with (go_at_call 108; (with_reducible refine (cR _ hR).mono ?_); rintro e y5 ⟨rfl, hR5, hB6⟩; have CV5 := CV _ hR5; have cBO5 : y5.cell? ⟨y1.heap.size, 0, none⟩ = some (.slice (some ⟨g, 0, none⟩) (k + 1 + 1) cap) := (hB6.cell (by show y1.heap.size < y1.heap.size + 1; omega)).trans cBO; clear cR CV)
        --s42
        have hBf : Below y1.heap.size y1 y5 := (hB4.trans hB5).trans (hB6.mono (by omega))
        exact bodyPost_ret (v := .tuple #[.string (textB true m), .int .i64 0]) (by simp [results, Tryz.results80, go_sem]) rfl ⟨rfl, Ext.of_below (hx.below.trans (hBf.mono hx.size))⟩
    · rw [decide_eq_false hq0] at EM
      go_wp2
      --s5
      go_roundg (80 - (k + 1))
      case measure => omega
      case rel =>
        rw [if_neg hq0] at hrd
        have hl78 := rdg_B4 m hm
        have hlq := rdg_pos qq
        have hpre' : rdg m = (pre ++ [dd]) ++ rdg qq := by rw [hpre, hrd]; simp
        rw [hpre'] at hl78
        simp only [List.length_append, List.length_singleton, hlen] at hl78
        have hys := hB3'.size
        have hmb3 := BM3.lt
        have hbx := BO3.lt
        refine ⟨y3.heap.size, qq, k + 1, pre ++ [dd], ov', rfl, by omega, rfl, by omega, hpre', by simp [hlen], hqB, (by repeat (first | (with_reducible assumption) | ((with_reducible refine Blk.new _ _ _ ?_); (simp; done)) | (with_reducible apply Blk.alloc) | (with_reducible apply Blk.grow) | (with_reducible apply Blk.drew) | (with_reducible apply Blk.set10) | (with_reducible apply Blk.set5) | (with_reducible apply Blk.set4) | (with_reducible apply Blk.tail4) | (with_reducible apply Blk.set2) | (with_reducible apply Blk.set1) | ((with_reducible apply Blk.setOther); (case hne => omega)))), ?_, ?_, ?_⟩
        · have BOb : Blk y3 y1.heap.size #[ov'] 137 := BO3
          show Blk _ y1.heap.size #[ov'] 137
          exact (by repeat (first | (with_reducible assumption) | ((with_reducible refine Blk.new _ _ _ ?_); (simp; done)) | (with_reducible apply Blk.alloc) | (with_reducible apply Blk.grow) | (with_reducible apply Blk.drew) | (with_reducible apply Blk.set10) | (with_reducible apply Blk.set5) | (with_reducible apply Blk.set4) | (with_reducible apply Blk.tail4) | (with_reducible apply Blk.set2) | (with_reducible apply Blk.set1) | ((with_reducible apply Blk.setOther); (case hne => omega))))
        · have ho' : y3.ownsRow y1.heap.size 5 1 ov' (k + 1) ((pre ++ [dd]).map fun d => by8 (48 + d)) := by
            rw [List.map_append]; simpa [by8] using hown3
          exact (owns_set4 ho' BM3 (by decide)).alloc _
        · exact (below_set4 hB3' (by omega) _ _ _ _).alloc (by simp; omega) _
end Go.Proofs.YtjkchmegnfbfoaaGreatDoor

namespace Go.Proofs.YtjkchmegnfbfoaaGreatDoor
open Go Go.RowKit
set_option linter.unusedSimpArgs false
set_option linter.unusedVariables false
set_option maxRecDepth 100000
set_option exponentiation.threshold 3000

theorem textB_size (s : Bool) (m : Nat) : (textB s m).size = (cods s m).length := by
  show ((cods s m).reverse.map UInt8.ofNat).toArray.size = _
  simp
theorem cods_len (s : Bool) (m : Nat) (hm : m < B4) : (cods s m).length ≤ 79 ∧ 0 < (cods s m).length := by
  have := rdg_B4 m hm
  have := rdg_pos m
  cases s <;> simp [cods] <;> omega
/-- A Rat's text. -/
def ratT (r : Rt) : ByteArray := if r.k = 1 then textB r.s r.m else (textB r.s r.m ++ ⟨#[47]⟩) ++ textB r.t r.k
set_option maxHeartbeats 4000000 in
theorem rText_yes (r : Rt) (h : r.ok = true) (w : World) : Calls Tryz.prog 39 #[r.v] w fun e w' => e = .returned (.tuple #[.string (ratT r), .int .i64 0]) ∧ Ext w w' := by
  have hx : Ext w w := Ext.refl w
  obtain ⟨b1, b2, b3, b4⟩ := (okR_iff _ _ _ _).1 h
  obtain ⟨s1, m1, t1, k1, hm, hk⟩ := r
  dsimp only at b1 b2 b3 b4
  subst b2
  have T1 := Text_walk s1 m1 hm (by cases s1 <;> simp_all [badI])
  have T2 := Text_walk false k1 hk rfl
  have CK := rcheck_yes s1 m1 false k1 hm hk h
  have S1 := textB_size s1 m1
  have S2 := textB_size false k1
  have L1 := cods_len s1 m1 hm
  have L2 := cods_len false k1 hk
  have EM : ∀ w, (Op.equalIn 10000 25 (intV false k1) (intV false 1)).run Tryz.prog w = .ok (decide (k1 = 1)) w := fun w => by
    rw [run_eq_int _ _ _ _ hk (by decide)]; simp
  have hr : ratT ⟨s1, m1, false, k1, hm, hk⟩ = if k1 = 1 then textB s1 m1 else (textB s1 m1 ++ ⟨#[47]⟩) ++ textB false k1 := rfl
  rw [hr]
  show Calls _ _ #[ratV s1 m1 false k1] w _
  clear hr h b1 b3 b4 hm hk
  generalize textB s1 m1 = A at *
  generalize textB false k1 = Bq at *
  generalize (cods s1 m1).length = n1 at *
  generalize (cods false k1).length = n2 at *
  go_enter Tryz.func39, Tryz.ntmps39
  go_wp2_with (go_at_call 13; (with_reducible refine (CK _).mono ?_); rintro e y1 ⟨rfl, hz_⟩; have hzz_ : Ext w y1 := Ext.trans (by repeat (first | (with_reducible exact Ext.refl _) | (with_reducible assumption) | (with_reducible apply Ext.grow) | (with_reducible apply Ext.alloc) | (with_reducible apply Ext.drew) | ((with_reducible apply Ext.set); (case hb => (first | omega | (simp; omega)))))) hz_; have BA : Blk y1 w.heap.size (ratsV s1 m1 false k1) 27 := Blk.ext (by repeat (first | (with_reducible assumption) | ((with_reducible refine Blk.new _ _ _ ?_); (simp; done)) | (with_reducible apply Blk.alloc) | (with_reducible apply Blk.grow) | (with_reducible apply Blk.drew) | (with_reducible apply Blk.set10) | (with_reducible apply Blk.set5) | (with_reducible apply Blk.set4) | (with_reducible apply Blk.tail4) | (with_reducible apply Blk.set2) | (with_reducible apply Blk.set1) | ((with_reducible apply Blk.setOther); (case hne => omega)))) hz_; replace hx := hx.trans hzz_; clear hz_ hzz_; have lBA := BA.lt; have cBA := BA.cell; have fBA := BA.frozen)
  clear CK
  go_wp2_with (go_at_call 80; (with_reducible refine (T1 _).mono ?_); rintro e y2 ⟨rfl, hz_⟩; have hzz_ : Ext y1 y2 := Ext.trans (by repeat (first | (with_reducible exact Ext.refl _) | (with_reducible assumption) | (with_reducible apply Ext.grow) | (with_reducible apply Ext.alloc) | (with_reducible apply Ext.drew) | ((with_reducible apply Ext.set); (case hb => (first | omega | (simp; omega)))))) hz_; replace BA := BA.ext hzz_; clear lBA cBA fBA; replace hx := hx.trans hzz_; clear hz_ hzz_; have lBA := BA.lt; have cBA := BA.cell; have fBA := BA.frozen)
  --s1
  by_cases hk1 : k1 = 1
  · rw [decide_eq_true hk1] at EM
    subst hk1
    (first | refine wp_region_k' [.p, .r, .r, .p] (by kernel_rfl) (by kernel_rfl) ?_ | refine wp_region_k [.p, .r, .r, .p] (by kernel_rfl) (by kernel_rfl) ?_); (repeat (first | (refine wpK_p rfl (fun K hK => ?_); go_simp; refine hK _ _ ?_; clear hK K) | (refine wpK_r rfl (fun K hK => ?_); go_simp; refine hK _ _ ?_; clear hK K) | (refine wpK_w rfl (fun K hK => ?_); go_simp; refine hK _ _ ?_; clear hK K) | (refine wpK_r rfl (fun K hK => ?_); go_simp; apply Exists.intro; refine ⟨fun d => ?_, hK _ _ ?_⟩; (with_reducible exact Calls.calm (one_any _)); clear hK K))); refine wpK_nil ?_; intro d
    --s2
    go_wp2
    exact bodyPost_ret (v := .tuple #[.string A, .int .i64 0]) (by simp [results, Tryz.results39, go_sem]) rfl ⟨by simp, (by repeat (first | (with_reducible exact Ext.refl _) | (with_reducible assumption) | (with_reducible apply Ext.grow) | (with_reducible apply Ext.alloc) | (with_reducible apply Ext.drew) | ((with_reducible apply Ext.set); (case hb => (first | omega | (simp; omega))))))⟩
  · rw [decide_eq_false hk1] at EM
    (first | refine wp_region_k' [.p, .r, .r, .p] (by kernel_rfl) (by kernel_rfl) ?_ | refine wp_region_k [.p, .r, .r, .p] (by kernel_rfl) (by kernel_rfl) ?_); (repeat (first | (refine wpK_p rfl (fun K hK => ?_); go_simp; refine hK _ _ ?_; clear hK K) | (refine wpK_r rfl (fun K hK => ?_); go_simp; refine hK _ _ ?_; clear hK K) | (refine wpK_w rfl (fun K hK => ?_); go_simp; refine hK _ _ ?_; clear hK K) | (refine wpK_r rfl (fun K hK => ?_); go_simp; apply Exists.intro; refine ⟨fun d => ?_, hK _ _ ?_⟩; (with_reducible exact Calls.calm (one_any _)); clear hK K))); refine wpK_nil ?_; intro d
    --s3
    go_wp2_with (go_at_call 80; (with_reducible refine (T2 _).mono ?_); rintro e y3 ⟨rfl, hz_⟩; have hzz_ : Ext y2 y3 := Ext.trans (by repeat (first | (with_reducible exact Ext.refl _) | (with_reducible assumption) | (with_reducible apply Ext.grow) | (with_reducible apply Ext.alloc) | (with_reducible apply Ext.drew) | ((with_reducible apply Ext.set); (case hb => (first | omega | (simp; omega)))))) hz_; replace hx := hx.trans hzz_; clear hz_ hzz_)
    --s4
    exact bodyPost_ret (v := .tuple #[.string ((A ++ ⟨#[47]⟩) ++ Bq), .int .i64 0]) (by simp [results, Tryz.results39, go_sem]) rfl ⟨by simp [hk1], (by repeat (first | (with_reducible exact Ext.refl _) | (with_reducible assumption) | (with_reducible apply Ext.grow) | (with_reducible apply Ext.alloc) | (with_reducible apply Ext.drew) | ((with_reducible apply Ext.set); (case hb => (first | omega | (simp; omega))))))⟩
theorem rText_no (r : Rt) (h : r.ok = false) (w : World) : Calls Tryz.prog 39 #[r.v] w fun e w' => e = .returned (.tuple #[.string ⟨#[]⟩, .int .i64 2]) ∧ Ext w w' := by
  have hx : Ext w w := Ext.refl w
  obtain ⟨s1, m1, t1, k1, hm, hk⟩ := r
  have CK := rcheck_no s1 m1 t1 k1 hm hk h
  go_enter Tryz.func39, Tryz.ntmps39
  go_wp2_with (go_at_call 13; (with_reducible refine (CK _).mono ?_); rintro e y1 ⟨rfl, hz_⟩; have hzz_ : Ext w y1 := Ext.trans (by repeat (first | (with_reducible exact Ext.refl _) | (with_reducible assumption) | (with_reducible apply Ext.grow) | (with_reducible apply Ext.alloc) | (with_reducible apply Ext.drew) | ((with_reducible apply Ext.set); (case hb => (first | omega | (simp; omega)))))) hz_; have BA : Blk y1 w.heap.size (ratsV s1 m1 t1 k1) 27 := Blk.ext (by repeat (first | (with_reducible assumption) | ((with_reducible refine Blk.new _ _ _ ?_); (simp; done)) | (with_reducible apply Blk.alloc) | (with_reducible apply Blk.grow) | (with_reducible apply Blk.drew) | (with_reducible apply Blk.set10) | (with_reducible apply Blk.set5) | (with_reducible apply Blk.set4) | (with_reducible apply Blk.tail4) | (with_reducible apply Blk.set2) | (with_reducible apply Blk.set1) | ((with_reducible apply Blk.setOther); (case hne => omega)))) hz_; replace hx := hx.trans hzz_; clear hz_ hzz_; have lBA := BA.lt; have cBA := BA.cell; have fBA := BA.frozen)
  exact bodyPost_ret (v := .tuple #[.string ⟨#[]⟩, .int .i64 2]) (by simp [results, Tryz.results39, go_sem]) rfl ⟨rfl, (by repeat (first | (with_reducible exact Ext.refl _) | (with_reducible assumption) | (with_reducible apply Ext.grow) | (with_reducible apply Ext.alloc) | (with_reducible apply Ext.drew) | ((with_reducible apply Ext.set); (case hb => (first | omega | (simp; omega))))))⟩
end Go.Proofs.YtjkchmegnfbfoaaGreatDoor

namespace Go.Proofs.YtjkchmegnfbfoaaGreatDoor
open Go Go.RowKit
set_option linter.unusedSimpArgs false
set_option linter.unusedVariables false
set_option maxRecDepth 100000

theorem Parse_clear (b : Nat) (W : World) (y0 y1 y2 y3 y4 : Value) (h : Blk W b #[y0, y1, y2, y3, y4] 25) :
    Calls Tryz.prog 111 #[.pointer (some ⟨b, 0, none⟩)] W fun e w' => e = .returned (.tuple #[]) ∧
      w' = ((((W.setCell ⟨b, 0, none⟩ (.bool false)).setCell ⟨b, 1, none⟩ (.int .u64 0)).setCell ⟨b, 2, none⟩ (.int .u64 0)).setCell ⟨b, 3, none⟩ (.int .u64 0)).setCell ⟨b, 4, none⟩ (.int .u64 0) := by
  have lh := h.lt; have ch := h.cell; have fh := h.frozen; clear h
  go_enter Tryz.func111, Tryz.ntmps111
  go_wp2
  go_end0
  exact ⟨rfl, rfl⟩
set_option maxHeartbeats 4000000 in
theorem Parse_empty (w : World) :
    Calls Tryz.prog 82 #[.string ⟨#[]⟩] w fun e w' => e = .returned (.tuple #[intV false 0, .int .i64 111]) ∧ Ext w w' := by
  have hmf : ∀ (fn : Fn) (first cap : Array Value) (w : World), (Instr.makeFunc fn first cap).run Tryz.prog w = .ok (.func fn first cap) w := fun _ _ _ _ => rfl
  obtain ⟨cap, W, hcv, hxW, HD, _, hsz, _⟩ := conv_dec ⟨#[]⟩ 0 [] rfl (fun i hi => by simp at hi) (fun i => by simp) ((w.alloc (.cells #[.bool false, .int .u64 0, .int .u64 0, .int .u64 0, .int .u64 0] 25)).alloc (.cells #[.int .i64 0] 37))
  have BO : Blk W w.heap.size #[.bool false, .int .u64 0, .int .u64 0, .int .u64 0, .int .u64 0] 25 := Blk.ext (by repeat (first | (with_reducible assumption) | ((with_reducible refine Blk.new _ _ _ ?_); (simp; done)) | (with_reducible apply Blk.alloc) | (with_reducible apply Blk.grow) | (with_reducible apply Blk.drew) | (with_reducible apply Blk.set10) | (with_reducible apply Blk.set5) | (with_reducible apply Blk.set4) | (with_reducible apply Blk.tail4) | (with_reducible apply Blk.set2) | (with_reducible apply Blk.set1) | ((with_reducible apply Blk.setOther); (case hne => omega)))) hxW
  have BE : Blk W (w.heap.size + 1) #[.int .i64 0] 37 := Blk.ext (by repeat (first | (with_reducible assumption) | ((with_reducible refine Blk.new _ _ _ ?_); (simp; done)) | (with_reducible apply Blk.alloc) | (with_reducible apply Blk.grow) | (with_reducible apply Blk.drew) | (with_reducible apply Blk.set10) | (with_reducible apply Blk.set5) | (with_reducible apply Blk.set4) | (with_reducible apply Blk.tail4) | (with_reducible apply Blk.set2) | (with_reducible apply Blk.set1) | ((with_reducible apply Blk.setOther); (case hne => omega)))) hxW
  have hx : Ext w W := Ext.trans (by repeat (first | (with_reducible exact Ext.refl _) | (with_reducible assumption) | (with_reducible apply Ext.grow) | (with_reducible apply Ext.alloc) | (with_reducible apply Ext.drew) | ((with_reducible apply Ext.set); (case hb => (first | omega | (simp; omega)))))) hxW
  simp only [World.size_alloc, Nat.zero_add, List.length_nil] at hcv HD hsz
  clear HD
  have lBO := BO.lt; have cBO := BO.cell; have fBO := BO.frozen; have lBE := BE.lt; have cBE := BE.cell; have fBE := BE.frozen
  go_enter_defers Tryz.func82, Tryz.ntmps82
  go_wp2_with (go_at_call 98; refine (must_no _ _).mono ?_; rintro e w' ⟨rfl, rfl⟩)
  --s1
  refine leaves_limb_pan 0 111 111 _ (by simp [cBE, BE.cell]) (BE.frozen 0) (fun _ _ => by kernel_rfl) ?_
  refine (Parse_clear _ _ _ _ _ _ _ (BO.setOther (by omega))).mono ?_
  rintro e' u ⟨rfl, hu⟩
  have hy : Ext w u := by rw [hu]; exact (by repeat (first | (with_reducible exact Ext.refl _) | (with_reducible assumption) | (with_reducible apply Ext.grow) | (with_reducible apply Ext.alloc) | (with_reducible apply Ext.drew) | ((with_reducible apply Ext.set); (case hb => (first | omega | (simp; omega))))))
  have BF : Blk u w.heap.size #[.bool false, .int .u64 0, .int .u64 0, .int .u64 0, .int .u64 0] 25 := by rw [hu]; exact (by repeat (first | (with_reducible assumption) | ((with_reducible refine Blk.new _ _ _ ?_); (simp; done)) | (with_reducible apply Blk.alloc) | (with_reducible apply Blk.grow) | (with_reducible apply Blk.drew) | (with_reducible apply Blk.set10) | (with_reducible apply Blk.set5) | (with_reducible apply Blk.set4) | (with_reducible apply Blk.tail4) | (with_reducible apply Blk.set2) | (with_reducible apply Blk.set1) | ((with_reducible apply Blk.setOther); (case hne => omega))))
  have BG : Blk u (w.heap.size + 1) #[.int .i64 111] 37 := by rw [hu]; exact (by repeat (first | (with_reducible assumption) | ((with_reducible refine Blk.new _ _ _ ?_); (simp; done)) | (with_reducible apply Blk.alloc) | (with_reducible apply Blk.grow) | (with_reducible apply Blk.drew) | (with_reducible apply Blk.set10) | (with_reducible apply Blk.set5) | (with_reducible apply Blk.set4) | (with_reducible apply Blk.tail4) | (with_reducible apply Blk.set2) | (with_reducible apply Blk.set1) | ((with_reducible apply Blk.setOther); (case hne => omega))))
  clear hu
  have lBF := BF.lt; have cBF := BF.cell; have fBF := BF.frozen; have lBG := BG.lt; have cBG := BG.cell; have fBG := BG.frozen; clear BF BG
  have e0 : intV false 0 = .agg #[.bool false, .int .u64 0, .int .u64 0, .int .u64 0, .int .u64 0] := by simp [wn_zero]
  refine ⟨rfl, .tuple #[intV false 0, .int .i64 111], ?_, rfl, hy⟩
  rw [e0]
  simp [results, Tryz.results82, go_sem, cBF, cBG]
end Go.Proofs.YtjkchmegnfbfoaaGreatDoor

namespace Go.Proofs.YtjkchmegnfbfoaaGreatDoor
open Go Go.RowKit
set_option linter.unusedSimpArgs false
set_option linter.unusedVariables false
set_option maxRecDepth 100000
set_option exponentiation.threshold 3000

theorem textB_list (s : Bool) (m : Nat) : (textB s m).data.toList = (if s then [45] else []) ++ (rdg m).reverse.map fun d => UInt8.ofNat (48 + d) := by
  cases s <;> simp [textB, cods, List.map_reverse]
theorem textB_ne47 (s : Bool) (m : Nat) : ∀ c ∈ (textB s m).data.toList, c ≠ 47 := by
  intro c hc e
  rw [textB_list] at hc
  rcases List.mem_append.1 hc with h | h
  · cases s with
    | false => cases h
    | true =>
      have h45 : c = 45 := by simpa using h
      rw [h45] at e
      exact absurd e (by decide)
  · obtain ⟨d, hd, rfl⟩ := List.mem_map.1 h
    have hd9 := rdg_lt m d (by simpa using hd)
    have := congrArg UInt8.toNat e
    rw [UInt8.toNat_ofNat', Nat.mod_eq_of_lt (by omega)] at this
    have h47 : (47 : UInt8).toNat = 47 := rfl
    omega
theorem Parse_textB (s : Bool) (m : Nat) (hm : m < B4) (hb : badI s m = false) (w : World) :
    Calls Tryz.prog 82 #[.string (textB s m)] w fun e w' => e = .returned (.tuple #[intV s m, .int .i64 0]) ∧ Ext w w' := by
  have hl := textB_list s m
  have hp := rdg_pos m
  have h78 := rdg_B4 m hm
  have ht := rdg_top m
  have hv := rdg_val m
  have hz := textB_size s m
  have hd : ∀ i, i < (rdg m).reverse.length → ((rdg m).reverse.map fun d => UInt8.ofNat (48 + d))[i]? = some (UInt8.ofNat (48 + (rdg m).reverse.getD i 0)) := fun i hi => by
    rw [List.getElem?_map, List.getD_eq_getElem?_getD, List.getElem?_eq_getElem hi]; rfl
  have hg : ∀ i, (textB s m).data[i]? = (textB s m).data.toList[i]? := fun i => by rw [Array.getElem?_toList]
  cases s with
  | false =>
    have := Parse_pos (textB false m) (rdg m).reverse (by rw [hz]; simp [cods]) (fun i hi => by rw [hg, hl]; exact hd i hi) (rdg_decs m) (by simpa using hp) (by simp; omega)
      (by rcases ht with h | h
          · exact .inl h
          · right; simpa using h) (by rw [hv]; exact hm) w
    rwa [hv] at this
  | true =>
    have hm0 : m ≠ 0 := by intro e; subst e; simp [badI] at hb
    have := Parse_neg (textB true m) (rdg m).reverse (by rw [hz]; simp [cods]; omega) (by rw [hg, hl]; rfl) (fun i hi => by rw [hg, hl, Nat.add_comm]; exact hd i hi) (rdg_decs m) (by simpa using hp) (by simp; omega)
      (by rcases ht with h | h
          · exact h
          · intro e
            have h1 : m / 10 = 0 := by
              by_cases h2 : m / 10 = 0
              · exact h2
              · rw [rdg_eq, if_neg h2] at h
                have := rdg_pos (m / 10)
                simp at h; simp [h] at this
            rw [rdg_eq, if_pos h1] at e
            simp at e
            omega) (by rw [hv]; exact hm0) (by rw [hv]; exact hm) w
    rwa [hv] at this
theorem idx_no : ∀ (l : List UInt8), (∀ c ∈ l, c ≠ 47) → Lib.indexByte l 47 = -1
  | [], _ => rfl
  | b :: l, h => by
    have h1 := idx_no l fun c hc => h c (List.mem_cons_of_mem _ hc)
    have h2 : (b == 47) = false := by simpa using h b (List.mem_cons_self ..)
    simp [Lib.indexByte, h1, h2]
theorem idx_at : ∀ (l r : List UInt8), (∀ c ∈ l, c ≠ 47) → Lib.indexByte (l ++ 47 :: r) 47 = (l.length : Int)
  | [], r, _ => by simp [Lib.indexByte]
  | b :: l, r, h => by
    have h1 := idx_at l r fun c hc => h c (List.mem_cons_of_mem _ hc)
    have h2 : (b == 47) = false := by simpa using h b (List.mem_cons_self ..)
    have h3 : ((l.length : Int) == -1) = false := by simp only [beq_eq_false_iff_ne]; omega
    simp [Lib.indexByte, h1, h2, h3]
theorem textB_not (k : Nat) (c : Nat) (hc : c < 10) (h : k ≠ c) : ((textB false k).toList == [UInt8.ofNat (48 + c)]) = false := by
  rw [beq_eq_false_iff_ne]
  intro e
  rw [ByteArray.toList_eq, textB_list] at e
  have hl : (rdg k).length = 1 := by
    have := congrArg List.length e
    simpa using this
  have hq : k / 10 = 0 := by
    by_cases h2 : k / 10 = 0
    · exact h2
    · rw [rdg_eq, if_neg h2] at hl
      have := rdg_pos (k / 10)
      simp at hl; simp [hl] at this
  rw [rdg_eq, if_pos hq] at e
  simp only [List.reverse_singleton, List.map_cons, List.map_nil, Bool.false_eq_true, if_false, List.nil_append, List.cons.injEq, and_true] at e
  have := congrArg UInt8.toNat e
  rw [UInt8.toNat_ofNat', UInt8.toNat_ofNat', Nat.mod_eq_of_lt (by omega), Nat.mod_eq_of_lt (by omega)] at this
  omega
theorem textB_front (k : Nat) : (((textB false k).extract 0 1).toList == [45]) = false := by
  rw [beq_eq_false_iff_ne]
  intro e
  rw [ByteArray.toList_eq, ByteArray.data_extract] at e
  have h1 : ((textB false k).data.extract 0 1).toList = (textB false k).data.toList.take 1 := by simp
  rw [h1, textB_list] at e
  have hm : (45 : UInt8) ∈ (rdg k).reverse.map fun d => UInt8.ofNat (48 + d) := by
    have : (45 : UInt8) ∈ ((if false = true then [45] else []) ++ (rdg k).reverse.map fun d => UInt8.ofNat (48 + d)).take 1 := by rw [e]; simp
    simpa using List.mem_of_mem_take this
  obtain ⟨d, hd, h⟩ := List.mem_map.1 hm
  have hd9 := rdg_lt k d (by simpa using hd)
  have := congrArg UInt8.toNat h
  rw [UInt8.toNat_ofNat', Nat.mod_eq_of_lt (by omega)] at this
  have h45 : (45 : UInt8).toNat = 45 := rfl
  omega
end Go.Proofs.YtjkchmegnfbfoaaGreatDoor

namespace Go.Proofs.YtjkchmegnfbfoaaGreatDoor
open Go Go.RowKit
set_option linter.unusedSimpArgs false
set_option linter.unusedVariables false
set_option maxRecDepth 100000

theorem scut_no (s : ByteArray) (hx : Lib.indexByte s.data.toList 47 = -1) (w : World) :
    Calls Tryz.prog 127 #[.string s, .string ⟨#[47]⟩] w fun e w' => e = .returned (.tuple #[.string s, .string ⟨#[]⟩, .bool false]) ∧ Ext w w' := by
  have hc := fun w => Tryz.stringslite_Index_one s 47 w
  rw [hx] at hc
  go_enter Tryz.func127, Tryz.ntmps127
  go_wp2_with (go_at_call 135; refine (hc _).mono ?_; rintro e w' ⟨rfl, rfl⟩)
  --s1
  exact bodyPost_ret (v := .tuple #[.string s, .string ⟨#[]⟩, .bool false]) (by simp [results, Tryz.results127, go_sem]) rfl ⟨rfl, (by repeat (first | (with_reducible exact Ext.refl _) | (with_reducible assumption) | (with_reducible apply Ext.grow) | (with_reducible apply Ext.alloc) | (with_reducible apply Ext.drew) | ((with_reducible apply Ext.set); (case hb => (first | omega | (simp; omega))))))⟩
theorem cCut_no (s : ByteArray) (hx : Lib.indexByte s.data.toList 47 = -1) (w : World) :
    Calls Tryz.prog 110 #[.string s, .string ⟨#[47]⟩] w fun e w' => e = .returned (.tuple #[.string s, .string ⟨#[]⟩, .bool false]) ∧ Ext w w' := by
  have hc := scut_no s hx
  go_enter Tryz.func110, Tryz.ntmps110
  go_wp2_with (go_at_call 127; refine (hc _).mono ?_; rintro e w' ⟨rfl, d, rfl⟩)
  exact bodyPost_ret (v := .tuple #[.string s, .string ⟨#[]⟩, .bool false]) (by simp [results, Tryz.results110, go_sem]) rfl ⟨rfl, (by repeat (first | (with_reducible exact Ext.refl _) | (with_reducible assumption) | (with_reducible apply Ext.grow) | (with_reducible apply Ext.alloc) | (with_reducible apply Ext.drew) | ((with_reducible apply Ext.set); (case hb => (first | omega | (simp; omega))))))⟩
end Go.Proofs.YtjkchmegnfbfoaaGreatDoor

namespace Go.Proofs.YtjkchmegnfbfoaaGreatDoor
open Go Go.RowKit Go.Shelf
set_option linter.unusedSimpArgs false
set_option linter.unusedVariables false
set_option maxRecDepth 100000
attribute [local go_sem] Oper.semAt_some

def nils (pre : List Unit) : List (Fin 2) := pre.map fun _ => 0
theorem nils_snoc (pre : List Unit) (x : Unit) : nils (pre ++ [x]) = nils pre ++ [0] := by simp [nils]
set_option maxHeartbeats 8000000 in
theorem rParse_one (n : Nat) (hn : 3 ≤ n) (s a b : ByteArray) (hcut : ∀ w, Calls Tryz.prog 110 #[.string s, .string ⟨#[47]⟩] w fun e w' => e = .returned (.tuple #[.string a, .string b, .bool false]) ∧ Ext w w')
    (sa : Bool) (ma : Nat) (ha : ma < B4)
    (ca : ∀ w, Calls Tryz.prog 82 #[.string a] w fun e w' => e = .returned (.tuple #[intV sa ma, .int .i64 0]) ∧ Ext w w')
    (rv : Value) (re : Int) (hres : (okR sa ma false 1 = true ∧ rv = ratV sa ma false 1 ∧ re = 0) ∨ (okR sa ma false 1 = false ∧ rv = qZ ∧ re = 120)) (w : World) :
    CallsIn Fence.wide n Tryz.prog 40 #[.string s] w fun e w' => e = .returned (.tuple #[rv, .int .i64 re]) ∧ Below w.heap.size w w' := by
  refine callsIn_of_wp_marks Tryz.func40 rfl trivial ?_ rfl
  simp only [Tryz.ntmps40, List.size_toArray, List.length_cons, List.length_nil, Nat.reduceAdd, Nat.reduceSub, Array.replicate_succ, Array.replicate_zero, List.push_toArray, List.append_toArray, List.nil_append, List.cons_append]
  gi_wp2_with (first
    | (refine ⟨trivial, (fun _ => by omega), ?_⟩; gi_at_call 52; refine (callsIn_wide.2 (one_any _)).mono ?_; rintro e w' ⟨rfl, d, rfl⟩)
    | (refine ⟨trivial, (fun _ => by omega), ?_⟩; gi_at_call 81; refine (parts_in (n - 1) _ _).mono ?_; rintro e w' ⟨rfl, rfl⟩))
  refine wpIn_rebase fun v hv => ?_
  have hx : Ext w v := by rw [hv]; exact (by repeat (first | (with_reducible exact Ext.refl _) | (with_reducible assumption) | (with_reducible apply Ext.grow) | (with_reducible apply Ext.alloc) | (with_reducible apply Ext.drew) | ((with_reducible apply Ext.set); (case hb => (first | omega | (simp; omega))))))
  have B2 : Blk v w.heap.size zR 27 := by rw [hv]; exact (by repeat (first | (with_reducible assumption) | ((with_reducible refine Blk.new _ _ _ ?_); (simp; done)) | (with_reducible apply Blk.alloc) | (with_reducible apply Blk.grow) | (with_reducible apply Blk.drew) | (with_reducible apply Blk.set10) | (with_reducible apply Blk.set5) | (with_reducible apply Blk.set4) | (with_reducible apply Blk.tail4) | (with_reducible apply Blk.set2) | (with_reducible apply Blk.set1) | ((with_reducible apply Blk.setOther); (case hne => omega))))
  have B3 : Blk v (w.heap.size + 1) #[.int .i64 0] 37 := by rw [hv]; exact (by repeat (first | (with_reducible assumption) | ((with_reducible refine Blk.new _ _ _ ?_); (simp; done)) | (with_reducible apply Blk.alloc) | (with_reducible apply Blk.grow) | (with_reducible apply Blk.drew) | (with_reducible apply Blk.set10) | (with_reducible apply Blk.set5) | (with_reducible apply Blk.set4) | (with_reducible apply Blk.tail4) | (with_reducible apply Blk.set2) | (with_reducible apply Blk.set1) | ((with_reducible apply Blk.setOther); (case hne => omega))))
  have hl : w.heap.size + 1 < w.heap.size + 1 + 1 + d.obs.size := by omega
  have BL : Blk v (w.heap.size + 1 + 1 + d.obs.size) (two sa ma 1 (nils [])) 112 := by rw [hv]; apply Blk.alloc; apply Blk.alloc; exact Blk.new _ _ _ (by simp)
  have BV : Blk v (w.heap.size + 1 + 1 + d.obs.size + 1) #[.bool false] 4 := by rw [hv]; apply Blk.alloc; exact Blk.new _ _ _ (by simp)
  have BS : Blk v (w.heap.size + 1 + 1 + d.obs.size + 1 + 1) #[.string s] 9 := by rw [hv]; exact Blk.new _ _ _ (by simp)
  clear hv
  generalize w.heap.size + 1 + 1 + d.obs.size = b4 at *
  have hst := parts_stops_one (n - 1) (by omega) (b4 + 1 + 1) w.heap.size s a b hcut v (BS.cell 0) BS.lt
  have hB0 : Below w.heap.size w v := hx.below
  refine wpIn_rangeFunc_ownG rfl (by omega) (gf := 109) (lb := #[.pointer (some ⟨b4 + 1 + 1, 0, none⟩)]) rfl trivial (enters_of Tryz.func109 (by kernel_rfl) rfl)
    hst belowK_t (belowK_b (by have := BS.lt; omega)) (Below.refl _ _) (fun _ => rfl)
    (fun pre W => (Blk W b4 (two sa ma 1 (nils pre)) 112 ∧ Blk W (b4 + 1) #[.bool false] 4 ∧ Blk W w.heap.size zR 27 ∧ Blk W (w.heap.size + 1) #[.int .i64 0] 37) ∧ Below w.heap.size w W)
    (fun c pre W => False)
    (OwnFrom.and (OwnFrom.and ((own_blk _ _ _).from _) (OwnFrom.and ((own_blk _ (fun _ => _) _).from _) (OwnFrom.and ((own_blk _ (fun _ => _) _).from _) ((own_blk _ (fun _ => _) _).from _)))) (ownFrom_below (Nat.le_refl _) (by have := BS.lt; omega)))
    (fun c => fun s W W' row hs => hs.elim)
    ⟨⟨BL, BV, B2, B3⟩, hB0⟩
    (fun x => { tmps := #[.string s, undef, .pointer (some ⟨w.heap.size, 0, none⟩), .pointer (some ⟨w.heap.size + 1, 0, none⟩), .pointer (some ⟨b4, 0, none⟩), .pointer (some ⟨b4 + 1, 0, none⟩), .int .i64 0, .string a, undef, .agg #[.bool false, .int .u64 0, .int .u64 0, .int .u64 0, .int .u64 0], intV false 1, .agg #[.bool false, .int .u64 0, .int .u64 0, .int .u64 0, .int .u64 0, .bool false, q64 (wn 1 0), q64 (wn 1 1), q64 (wn 1 2), q64 (wn 1 3)], .string s, .func (.func 109) #[] #[.pointer (some ⟨b4 + 1 + 1, 0, none⟩)], .int .i64 0, .string a, undef, undef, undef, undef, undef, undef, undef, undef, undef, undef, undef, undef, undef, undef, undef, undef, undef, undef, undef, undef, undef, undef, undef, undef, undef, undef, undef, undef, undef, undef, undef, undef, undef, undef, undef, undef, undef, undef, undef, undef, undef, undef, undef], defers := [] }) ?assign ?body ?done ?stop
  case assign =>
    intro l x W K hK
    gi_wp2
    exact hK
  case stop =>
    rintro D c pre W hD _ h _
    exact h.elim
  case body =>
    rintro l pre x W ⟨⟨BL, BV, B2, B3⟩, hB⟩ _
    obtain ⟨c0, c1, c2, c3, c4, d0, d1, d2, d3, d4, t1, t2, t3⟩ := two_lit sa ma 1 (nils pre)
    rw [t1] at BL
    have lBL := BL.lt; have cBL := BL.cell; have fBL := BL.frozen; have lBV := BV.lt; have cBV := BV.cell; have fBV := BV.frozen; have lB2 := B2.lt; have cB2 := B2.cell; have fB2 := B2.frozen; have lB3 := B3.lt; have cB3 := B3.cell; have fB3 := B3.frozen
    · gi_wp2_with (refine ⟨trivial, (fun _ => by omega), ?_⟩; gi_at_call 82; refine (CallsIn.inRound l (callsIn_wide.2 (ca _))).mono ?_; rintro e w' ⟨rfl, hx⟩; have BL' := BL.ext hx; have BV' := BV.ext hx; have lBL' := BL'.lt; have cBL' := BL'.cell; have fBL' := BL'.frozen; have lBV' := BV'.lt; have cBV' := BV'.cell; have fBV' := BV'.frozen)
      refine ⟨trivial, ?_⟩
      gi_wp2
      --s1
      have lS := BS.lt
      have l4 : b4 < v.heap.size := by omega
      have l5 : b4 + 1 < v.heap.size := by omega
      have g4 : w.heap.size ≤ b4 := by omega
      have g5 : w.heap.size ≤ b4 + 1 := by omega
      have hbW : Below w.heap.size W w' := hx.below.mono hB.size
      have B2' := B2.ext hx
      have B3' := B3.ext hx
      refine ⟨keepsCell (keepsCell (keepsCell (keepsCell (keepsCell (keepsCell (keeps_ext hx) l4) l4) l4) l4) l4) l5, belowCell (belowCell (belowCell (belowCell (belowCell (belowCell (hbW) g4) g4) g4) g4) g4) g5, ⟨?_, ?_, ?_, ?_⟩, belowCell (belowCell (belowCell (belowCell (belowCell (belowCell (hB.trans hbW) g4) g4) g4) g4) g4) g5⟩
      · rw [nils_snoc, t2]; exact ((((((BL'.setSame (o := 0)).setSame (o := 1)).setSame (o := 2)).setSame (o := 3)).setSame (o := 4)).setOther (by omega))
      · exact ((((((BV'.setOther (by omega)).setOther (by omega)).setOther (by omega)).setOther (by omega)).setOther (by omega)).setSame (o := 0))
      · exact ((((((B2'.setOther (by omega)).setOther (by omega)).setOther (by omega)).setOther (by omega)).setOther (by omega)).setOther (by omega))
      · exact ((((((B3'.setOther (by omega)).setOther (by omega)).setOther (by omega)).setOther (by omega)).setOther (by omega)).setOther (by omega))
  case done =>
    rintro D ys W hD rfl ⟨⟨BL, BV, B2, B3⟩, hB⟩ hK
    have e2 : two sa ma 1 (nils [()]) = #[.bool sa, q64 (wn ma 0), q64 (wn ma 1), q64 (wn ma 2), q64 (wn ma 3), .bool false, q64 (wn 1 0), q64 (wn 1 1), q64 (wn 1 2), q64 (wn 1 3)] := by simp [two, nils]
    rw [e2] at BL
    have lBL := BL.lt; have cBL := BL.cell; have fBL := BL.frozen; have lBV := BV.lt; have cBV := BV.cell; have fBV := BV.frozen; have lB2 := B2.lt; have cB2 := B2.cell; have fB2 := B2.frozen; have lB3 := B3.lt; have cB3 := B3.cell; have fB3 := B3.frozen
    rcases hres with ⟨hok, rfl, rfl⟩ | ⟨hok, rfl, rfl⟩
    · have ck := rcheck_yes sa ma false 1 ha (by decide) hok
      gi_wp2_with (refine ⟨trivial, (fun _ => by omega), ?_⟩; gi_at_call 13; refine (callsIn_wide.2 (ck _)).mono ?_; rintro e w3 ⟨rfl, d3, rfl⟩)
      refine bpM_rebase fun u hu => ?_
      have lS := BS.lt
      have hKD : KeepsFrom v.heap.size W u := by
        rw [hu]; repeat (with_reducible first | exact KeepsFrom.refl _ _ | apply keepsGrow | (refine keepsCell ?_ (by omega)))
      have hK' := hKD.same D _ hD hK rfl
      have BF : Blk u w.heap.size #[.bool sa, q64 (wn ma 0), q64 (wn ma 1), q64 (wn ma 2), q64 (wn ma 3), .bool false, q64 (wn 1 0), q64 (wn 1 1), q64 (wn 1 2), q64 (wn 1 3)] 27 := by rw [hu]; exact (by repeat (first | (with_reducible assumption) | ((with_reducible refine Blk.new _ _ _ ?_); (simp; done)) | (with_reducible apply Blk.alloc) | (with_reducible apply Blk.grow) | (with_reducible apply Blk.drew) | (with_reducible apply Blk.set10) | (with_reducible apply Blk.set5) | (with_reducible apply Blk.set4) | (with_reducible apply Blk.tail4) | (with_reducible apply Blk.set2) | (with_reducible apply Blk.set1) | ((with_reducible apply Blk.setOther); (case hne => omega))))
      have BE : Blk u (w.heap.size + 1) #[.int .i64 0] 37 := by rw [hu]; exact (by repeat (first | (with_reducible assumption) | ((with_reducible refine Blk.new _ _ _ ?_); (simp; done)) | (with_reducible apply Blk.alloc) | (with_reducible apply Blk.grow) | (with_reducible apply Blk.drew) | (with_reducible apply Blk.set10) | (with_reducible apply Blk.set5) | (with_reducible apply Blk.set4) | (with_reducible apply Blk.tail4) | (with_reducible apply Blk.set2) | (with_reducible apply Blk.set1) | ((with_reducible apply Blk.setOther); (case hne => omega))))
      have BF5 := own_blk (β := Unit) w.heap.size (fun _ => _) _ () u _ (some D) BF (grownBy_putObj' u D (.deferred none)) (fun r e => by cases e; exact ⟨_, hK', rfl⟩)
      have BE5 := own_blk (β := Unit) (w.heap.size + 1) (fun _ => _) _ () u _ (some D) BE (grownBy_putObj' u D (.deferred none)) (fun r e => by cases e; exact ⟨_, hK', rfl⟩)
      have lBF5 := BF5.lt; have cBF5 := BF5.cell; have fBF5 := BF5.frozen; have lBE5 := BE5.lt; have cBE5 := BE5.cell; have fBE5 := BE5.frozen; clear BF5 BE5
      refine ⟨by simp, .inl ⟨_, _, rfl, run_takeDeferred hK', ?_⟩⟩
      have hBu : Below w.heap.size w u := by
        rw [hu]; repeat (with_reducible first | exact hB | (refine belowGrow ?_ (by simp; omega)) | (refine belowCell ?_ (by omega)))
      refine ⟨.tuple #[ratV sa ma false 1, .int .i64 0], ?_, ?_⟩
      · simp [results, Tryz.results40, go_sem, cBF5, cBE5]
      · exact ⟨by simp, hBu.trans (belowK_b (w := w) (Nat.le_refl _) u D _ _ (by omega) hK' rfl rfl)⟩
    · have ck := rcheck_no sa ma false 1 ha (by decide) hok
      gi_wp2_with (refine ⟨trivial, (fun _ => by omega), ?_⟩; gi_at_call 13; refine (callsIn_wide.2 (ck _)).mono ?_; rintro e w3 ⟨rfl, d3, rfl⟩)
      refine bpM_rebase fun u hu => ?_
      have lS := BS.lt
      have hKD : KeepsFrom v.heap.size W u := by
        rw [hu]; repeat (with_reducible first | exact KeepsFrom.refl _ _ | apply keepsGrow | (refine keepsCell ?_ (by omega)))
      have hK' := hKD.same D _ hD hK rfl
      have BF : Blk u w.heap.size zR 27 := by rw [hu]; exact (by repeat (first | (with_reducible assumption) | ((with_reducible refine Blk.new _ _ _ ?_); (simp; done)) | (with_reducible apply Blk.alloc) | (with_reducible apply Blk.grow) | (with_reducible apply Blk.drew) | (with_reducible apply Blk.set10) | (with_reducible apply Blk.set5) | (with_reducible apply Blk.set4) | (with_reducible apply Blk.tail4) | (with_reducible apply Blk.set2) | (with_reducible apply Blk.set1) | ((with_reducible apply Blk.setOther); (case hne => omega))))
      have BE : Blk u (w.heap.size + 1) #[.int .i64 120] 37 := by rw [hu]; exact (by repeat (first | (with_reducible assumption) | ((with_reducible refine Blk.new _ _ _ ?_); (simp; done)) | (with_reducible apply Blk.alloc) | (with_reducible apply Blk.grow) | (with_reducible apply Blk.drew) | (with_reducible apply Blk.set10) | (with_reducible apply Blk.set5) | (with_reducible apply Blk.set4) | (with_reducible apply Blk.tail4) | (with_reducible apply Blk.set2) | (with_reducible apply Blk.set1) | ((with_reducible apply Blk.setOther); (case hne => omega))))
      have BF5 := own_blk (β := Unit) w.heap.size (fun _ => _) _ () u _ (some D) BF (grownBy_putObj' u D (.deferred none)) (fun r e => by cases e; exact ⟨_, hK', rfl⟩)
      have BE5 := own_blk (β := Unit) (w.heap.size + 1) (fun _ => _) _ () u _ (some D) BE (grownBy_putObj' u D (.deferred none)) (fun r e => by cases e; exact ⟨_, hK', rfl⟩)
      have lBF5 := BF5.lt; have cBF5 := BF5.cell; have fBF5 := BF5.frozen; have lBE5 := BE5.lt; have cBE5 := BE5.cell; have fBE5 := BE5.frozen; clear BF5 BE5
      refine ⟨by simp, .inl ⟨_, _, rfl, run_takeDeferred hK', ?_⟩⟩
      have hBu : Below w.heap.size w u := by
        rw [hu]; repeat (with_reducible first | exact hB | (refine belowGrow ?_ (by simp; omega)) | (refine belowCell ?_ (by omega)))
      refine ⟨.tuple #[qZ, .int .i64 120], ?_, ?_⟩
      · simp [results, Tryz.results40, go_sem, cBF5, cBE5]
      · exact ⟨by simp, hBu.trans (belowK_b (w := w) (Nat.le_refl _) u D _ _ (by omega) hK' rfl rfl)⟩
end Go.Proofs.YtjkchmegnfbfoaaGreatDoor
