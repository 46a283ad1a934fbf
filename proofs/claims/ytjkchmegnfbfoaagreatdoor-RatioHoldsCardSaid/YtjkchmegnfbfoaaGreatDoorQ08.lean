/- The references' fractions: n by d. The references: numbers and fractions as the program's. The references' fractions over rationals; of and whole of the laws. whole of the laws; Make of the program over rationals. The chapter's rows of ratio. Walk of limb's product of two magnitudes. Decimal digits in a row of bytes; that all are digits. -/
import Derived.Test.YtjkchmegnfbfoaaGreatDoorProg
import Derived.Test.YtjkchmegnfbfoaaGreatDoorQ07
import Derived.Test.YtjkchmegnfbfoaaGreatDoorQ06
import Derived.Test.YtjkchmegnfbfoaaGreatDoorQ03
import Derived.Test.YtjkchmegnfbfoaaGreatDoorQ04
import Derived.Test.YtjkchmegnfbfoaaGreatDoorQ01
namespace Go.Proofs.YtjkchmegnfbfoaaGreatDoor
open Go Go.RowKit
set_option linter.unusedSimpArgs false
set_option linter.unusedVariables false
set_option maxRecDepth 100000
set_option exponentiation.threshold 3000

def QuoOK (N : Nat) : Prop := ∀ x y : Int, x.natAbs < N → y.natAbs < N → y ≠ 0 → ∀ v1 v2 w, BigV w v1 x → BigV w v2 y → Calls Tryz.prog 57 #[v1, v2] w (RetQ x y w)
theorem quo_three : QuoOK (65536 ^ 3) := fun x y hx hy h0 v1 v2 w h1 h2 => bQuo_short x y v1 v2 ((dg_len_le _ 3).2 hx) ((dg_len_le _ 3).2 hy) h0 w h1 h2
/-- A reference's fraction. -/
def FrV (W : World) (v : Value) (N D : Int) : Prop := ∃ s a n c s' a' n' c', v = .agg #[.bool s, .slice a n c, .bool s', .slice a' n' c'] ∧ BigV W (.agg (bigC s a n c)) N ∧ BigV W (.agg (bigC s' a' n' c')) D
theorem FrV.ext {W W' : World} {v : Value} {N D : Int} (h : FrV W v N D) (hx : Ext W W') : FrV W' v N D := by
  obtain ⟨s, a, n, c, s', a', n', c', h1, h2, h3⟩ := h; exact ⟨s, a, n, c, s', a', n', c', h1, h2.ext hx, h3.ext hx⟩
theorem small_of {x : Int} {N : Nat} (hN : N ≤ 2 ^ 520) (h : x.natAbs < N) : Small x := by
  unfold Small
  have : (dg x.natAbs).length ≤ 100 := (dg_len_le x.natAbs 100).2 (Nat.lt_of_lt_of_le (Nat.lt_of_lt_of_le h hN) (by decide))
  omega
theorem small_one : Small 1 := by unfold Small; rw [show (1 : Int).natAbs = 1 from rfl, dg_pos 1 (by omega), dg_zero]; simp
theorem cmpI_one (d : Int) : ((cmpI d 1 == 0) = true) ↔ d = 1 := by
  unfold cmpI
  rcases Int.lt_trichotomy d 1 with h | h | h
  · rw [if_pos h]; simp; omega
  · subst h; simp
  · rw [if_neg (by omega), if_pos h]; simp; omega
theorem Blk.set4R {W : World} {b : Nat} {T : TypeId} {x0 x1 x2 x3 y0 y1 y2 y3 : Value} (h : Blk W b #[y0, y1, y2, y3] T) : Blk ((((W.setCell ⟨b, 0, none⟩ x0).setCell ⟨b, 1, none⟩ x1).setCell ⟨b, 2, none⟩ x2).setCell ⟨b, 3, none⟩ x3) b #[x0, x1, x2, x3] T := h.set4
theorem BigV.set4 {W : World} {b : Nat} {T : TypeId} {x0 x1 x2 x3 y0 y1 y2 y3 v : Value} {z : Int} (h : BigV W v z) (hB : Blk W b #[y0, y1, y2, y3] T) (hT : T ≠ 2) : BigV ((((W.setCell ⟨b, 0, none⟩ x0).setCell ⟨b, 1, none⟩ x1).setCell ⟨b, 2, none⟩ x2).setCell ⟨b, 3, none⟩ x3) v z :=
  (((h.set hB hT).set (hB.setSame (o := 0)) hT).set ((hB.setSame (o := 0)).setSame (o := 1)) hT).set (((hB.setSame (o := 0)).setSame (o := 1)).setSame (o := 2)) hT
theorem make_one (n : Int) : (mkRat n 1).num = n ∧ (mkRat n 1).den = 1 := by
  have := mk_parts n 1 (by omega)
  rw [Nat.gcd_one_right] at this
  simpa using this
theorem make_num (n : Int) (d : Nat) (hd : d ≠ 0) : n.tdiv (Nat.gcd n.natAbs d : Nat) = (mkRat n d).num ∧ ((d : Int)).tdiv (Nat.gcd n.natAbs d : Nat) = ((mkRat n d).den : Int) := by
  have hp := mk_parts n d hd
  rw [hp.1, hp.2]
  refine ⟨?_, tdiv_nat _ _⟩
  rw [Int.tdiv_eq_ediv_of_dvd]
  exact Int.ofNat_dvd_left.2 (Nat.gcd_dvd_left _ _)
set_option maxHeartbeats 8000000 in
theorem fMake_pos (N : Nat) (hN : N ≤ 2 ^ 520) (hQ : QuoOK N) (x : Int) (d : Nat) (v1 v2 : Value) (hx : x.natAbs < N) (hd : d < N) (hd0 : 0 < d) (P : Int) (Q : Nat) (HP : Hid ((mkRat x d).num = P)) (HQ : Hid ((mkRat x d).den = Q)) (w : World) (h1 : BigV w v1 x) (h2 : BigV w v2 (d : Int)) :
    Calls Tryz.prog 19 #[v1, v2] w (RetB (fun W r => FrV W r P (Q : Int)) w) := by
  have NO : ∀ w, Calls Tryz.prog 44 #[.int .i64 1] w (RetB (fun W r => BigV W r 1) w) := fun w => Num_pos 1 (by decide) w
  have CC := fun r w h1 h2 => bCmp (d : Int) 1 v2 r (small_of hN (by simpa using hd)) small_one w h1 h2
  have VA := h1
  have VB := h2
  obtain ⟨t1, a1, n1, c1, rfl, e1, _⟩ := h1.opened
  obtain ⟨t2, a2, n2, c2, rfl, e2, _⟩ := h2.opened
  have ht2 : t2 = false := by rw [e2.out.1]; simp
  clear h1 h2 e1 e2
  subst ht2
  go_enter Tryz.func19, Tryz.ntmps19
  go_wp2
  refine wp_rebase fun v hv => ?_
  have hxv : Ext w v := by rw [hv]; exact (by repeat (first | (with_reducible exact Ext.refl _) | (with_reducible assumption) | (with_reducible apply Ext.grow) | (with_reducible apply Ext.alloc) | (with_reducible apply Ext.drew) | ((with_reducible apply Ext.set); (case hb => (first | omega | (simp; omega))))))
  have BA : Blk v w.heap.size #[.bool t1, .slice a1 n1 c1] 33 := by rw [hv]; exact (by repeat (first | (with_reducible assumption) | ((with_reducible refine Blk.new _ _ _ ?_); (simp; done)) | (with_reducible apply Blk.alloc) | (with_reducible apply Blk.grow) | (with_reducible apply Blk.drew) | (with_reducible apply Blk.set10) | (with_reducible apply Blk.set5) | (with_reducible apply Blk.set4) | (with_reducible apply Blk.tail4) | (with_reducible apply Blk.set2) | (with_reducible apply Blk.set1) | ((with_reducible apply Blk.setOther); (case hne => omega))))
  have BB : Blk v (w.heap.size + 1) #[.bool false, .slice a2 n2 c2] 33 := by rw [hv]; exact (by repeat (first | (with_reducible assumption) | ((with_reducible refine Blk.new _ _ _ ?_); (simp; done)) | (with_reducible apply Blk.alloc) | (with_reducible apply Blk.grow) | (with_reducible apply Blk.drew) | (with_reducible apply Blk.set10) | (with_reducible apply Blk.set5) | (with_reducible apply Blk.set4) | (with_reducible apply Blk.tail4) | (with_reducible apply Blk.set2) | (with_reducible apply Blk.set1) | ((with_reducible apply Blk.setOther); (case hne => omega))))
  have BO : Blk v (w.heap.size + 1 + 1) #[.bool false, .slice none 0 0, .bool false, .slice none 0 0] 35 := by rw [hv]; exact (by repeat (first | (with_reducible assumption) | ((with_reducible refine Blk.new _ _ _ ?_); (simp; done)) | (with_reducible apply Blk.alloc) | (with_reducible apply Blk.grow) | (with_reducible apply Blk.drew) | (with_reducible apply Blk.set10) | (with_reducible apply Blk.set5) | (with_reducible apply Blk.set4) | (with_reducible apply Blk.tail4) | (with_reducible apply Blk.set2) | (with_reducible apply Blk.set1) | ((with_reducible apply Blk.setOther); (case hne => omega))))
  clear hv
  replace VA := VA.ext hxv
  replace VB := VB.ext hxv
  have lBA := BA.lt; have cBA := BA.cell; have fBA := BA.frozen; have lBB := BB.lt; have cBB := BB.cell; have fBB := BB.frozen; have lBO := BO.lt; have cBO := BO.cell; have fBO := BO.frozen
  (first | refine wp_region_h' 3 [0] [1, 2] (by kernel_rfl) (by kernel_rfl) ?_ | refine wp_region_h 3 [0] [1, 2] (by kernel_rfl) (by kernel_rfl) ?_); simp only [List.map_cons, List.map_nil, List.getD_cons_succ, List.getD_cons_zero]; (repeat (refine wpHL_l (fun K hK => ?_); go_simp; refine hK _ ?_; clear hK K)); refine wpHL_nil ?_; intro d0; have hx0 : Ext v (grow v d0) := ⟨d0, rfl⟩; generalize grow v d0 = y0 at *; (refine wpT_c (fun K hK => ?_); go_simp; refine ⟨_, _, ⟨rfl, rfl⟩, ?_⟩; (with_reducible refine (NO _).mono ?_); rintro e y1 ⟨r1, rfl, hr1, hz1⟩; have hx1 : Ext v y1 := hx0.trans hz1; refine ⟨_, rfl, hx1, hK _ _ ?_⟩; clear hK K); (refine wpT_c (fun K hK => ?_); go_simp; refine ⟨_, _, ⟨rfl, rfl⟩, ?_⟩; (with_reducible refine (CC _ _ (VB.ext hx1) hr1).mono ?_); rintro e y2 ⟨rfl, hz2⟩; have hx2 : Ext v y2 := hx1.trans hz2; refine ⟨_, rfl, hx2, hK _ _ ?_⟩; clear hK K); refine wpT_nil ?_; simp only [List.drop_succ_cons, List.drop_zero]
  have BA2 := BA.ext hx2
  have BB2 := BB.ext hx2
  have BO2 := BO.ext hx2
  have VA2 := VA.ext hx2
  have VB2 := VB.ext hx2
  have hxw : Ext w y2 := hxv.trans hx2
  have HD : Hid ((cmpI d 1 == 0) = true ↔ (d : Int) = 1) := Lib.hid (cmpI_one d)
  generalize cmpI d 1 = q at *
  clear BA BB BO VA VB lBA cBA fBA lBB cBB fBB lBO cBO fBO hr1 hx0 hx1 hx2 hz1 hz2 hxv CC NO y1 v
  have lBA2 := BA2.lt; have cBA2 := BA2.cell; have fBA2 := BA2.frozen; have lBB2 := BB2.lt; have cBB2 := BB2.cell; have fBB2 := BB2.frozen; have lBO2 := BO2.lt; have cBO2 := BO2.cell; have fBO2 := BO2.frozen
  by_cases h1 : (d : Int) = 1
  · have hq : (q == 0) = true := HD.out.2 h1
    have HM : Hid (x = P ∧ (d : Int) = Q) := Lib.hid (by
      rw [← HP.out, ← HQ.out]
      obtain rfl : d = 1 := by omega
      have := make_one x; exact ⟨this.1.symm, by rw [this.2]⟩)
    rw [HM.out.1] at VA2
    rw [HM.out.2] at VB2
    clear HD h1 HM hQ HP HQ
    go_wp2
    refine bp_rebase fun u hu => ?_
    have hy : Ext w u := by rw [hu]; exact (by repeat (first | (with_reducible exact Ext.refl _) | (with_reducible assumption) | (with_reducible apply Ext.grow) | (with_reducible apply Ext.alloc) | (with_reducible apply Ext.drew) | ((with_reducible apply Ext.set); (case hb => (first | omega | (simp; omega))))))
    have W1 := VA2.set4 (x0 := .bool t1) (x1 := .slice a1 n1 c1) (x2 := .bool false) (x3 := .slice a2 n2 c2) BO2 (by decide)
    have W2 := VB2.set4 (x0 := .bool t1) (x1 := .slice a1 n1 c1) (x2 := .bool false) (x3 := .slice a2 n2 c2) BO2 (by decide)
    rw [← hu] at W1 W2
    have BF : Blk u (w.heap.size + 1 + 1) #[.bool t1, .slice a1 n1 c1, .bool false, .slice a2 n2 c2] 35 := by rw [hu]; exact BO2.set4
    clear hu VA2 VB2 BO2
    have lBF := BF.lt; have cBF := BF.cell; have fBF := BF.frozen; clear BF
    exact bodyPost_ret (v := .agg #[.bool t1, .slice a1 n1 c1, .bool false, .slice a2 n2 c2]) (by simp [results, Tryz.results19, go_sem, cBF]) rfl ⟨_, rfl, ⟨_, _, _, _, _, _, _, _, rfl, W1, W2⟩, hy⟩
  · have hq : (q == 0) = false := by
      cases h : (q == 0) with
      | false => rfl
      | true => exact absurd (HD.out.1 h) h1
    have CG := fun w h1 h2 => bGcd N hN (fun x y hx hy h0 => hQ x y (by simpa using hx) (by simpa using hy) (by omega)) x d (.agg (bigC t1 a1 n1 c1)) (.agg (bigC false a2 n2 c2)) hx (by simpa using hd) w h1 h2
    have hg1 : Nat.gcd x.natAbs d ≤ d := Nat.gcd_le_right _ hd0
    have hg0 : 0 < Nat.gcd x.natAbs d := Nat.gcd_pos_of_pos_right _ hd0
    have HN := Lib.hid (make_num x d (by omega))
    rw [HP.out, HQ.out] at HN
    rw [Int.natAbs_natCast] at CG
    generalize Nat.gcd x.natAbs d = g at *
    have C1 := fun v w h1 h2 => hQ x g hx (by simpa using (by omega : g < N)) (by omega) (.agg (bigC t1 a1 n1 c1)) v w h1 h2
    have C2 := fun v w h1 h2 => hQ d g (by simpa using hd) (by simpa using (by omega : g < N)) (by omega) (.agg (bigC false a2 n2 c2)) v w h1 h2
    unfold RetQ at C1 C2
    rw [HN.out.1] at C1
    rw [HN.out.2] at C2
    generalize x.tmod g = R1 at *
    generalize (d : Int).tmod g = R2 at *
    clear HP HQ HD HN hQ hg0 hg1 h1
    --s1
    go_wp2_with (go_at_call 43; refine (CG _ VA2 VB2).mono ?_; rintro e z ⟨r, rfl, hr, hz⟩; obtain ⟨sg, ag, ng, cg, rfl, eg, kg⟩ := hr.opened; have BA3 := BA2.ext hz; have BB3 := BB2.ext hz; have BO3 := BO2.ext hz; have VA3 := VA2.ext hz; have VB3 := VB2.ext hz; have hxz := hxw.trans hz; have lBA3 := BA3.lt; have cBA3 := BA3.cell; have fBA3 := BA3.frozen; have lBB3 := BB3.lt; have cBB3 := BB3.cell; have fBB3 := BB3.frozen; have lBO3 := BO3.lt; have cBO3 := BO3.cell; have fBO3 := BO3.frozen)
    go_wp2_with (go_at_call 57; refine (C1 _ _ (VA3.ext (by repeat (first | (with_reducible exact Ext.refl _) | (with_reducible assumption) | (with_reducible apply Ext.grow) | (with_reducible apply Ext.alloc) | (with_reducible apply Ext.drew) | ((with_reducible apply Ext.set); (case hb => (first | omega | (simp; omega))))))) ((BigV.shut eg kg).ext (by repeat (first | (with_reducible exact Ext.refl _) | (with_reducible assumption) | (with_reducible apply Ext.grow) | (with_reducible apply Ext.alloc) | (with_reducible apply Ext.drew) | ((with_reducible apply Ext.set); (case hb => (first | omega | (simp; omega)))))))).mono ?_; clear C1; rintro e z4 ⟨r1, r2, rfl, hr1, hr2, hz4⟩; obtain ⟨s1, b1, m1, l1, rfl, e1, k1⟩ := hr1.opened; obtain ⟨s2, b2, m2, l2, rfl, e2, k2⟩ := hr2.opened; have hz' : Ext z z4 := Ext.trans (by repeat (first | (with_reducible exact Ext.refl _) | (with_reducible assumption) | (with_reducible apply Ext.grow) | (with_reducible apply Ext.alloc) | (with_reducible apply Ext.drew) | ((with_reducible apply Ext.set); (case hb => (first | omega | (simp; omega)))))) hz4; have BA4 := BA3.ext hz'; have BB4 := BB3.ext hz'; have BO4 := BO3.ext hz'; have VB4 := VB3.ext hz'; have VG4 := (BigV.shut eg kg).ext hz'; have hxz4 := hxz.trans hz'; have BG4 : Blk z4 z.heap.size #[.bool sg, .slice ag ng cg] 33 := Blk.ext (Blk.new _ _ _ rfl) hz4; have lBA4 := BA4.lt; have cBA4 := BA4.cell; have fBA4 := BA4.frozen; have lBB4 := BB4.lt; have cBB4 := BB4.cell; have fBB4 := BB4.frozen; have lBO4 := BO4.lt; have cBO4 := BO4.cell; have fBO4 := BO4.frozen; have lBG4 := BG4.lt; have cBG4 := BG4.cell; have fBG4 := BG4.frozen)
    --s3
    go_wp2_with (go_at_call 57; refine (C2 _ _ (VB4.ext (by repeat (first | (with_reducible exact Ext.refl _) | (with_reducible assumption) | (with_reducible apply Ext.grow) | (with_reducible apply Ext.alloc) | (with_reducible apply Ext.drew) | ((with_reducible apply Ext.set); (case hb => (first | omega | (simp; omega))))))) (VG4.ext (by repeat (first | (with_reducible exact Ext.refl _) | (with_reducible assumption) | (with_reducible apply Ext.grow) | (with_reducible apply Ext.alloc) | (with_reducible apply Ext.drew) | ((with_reducible apply Ext.set); (case hb => (first | omega | (simp; omega)))))))).mono ?_; clear C2; rintro e z5 ⟨r1, r2, rfl, hr3, hr4, hz5⟩; obtain ⟨s3, b3, m3, l3, rfl, e3, k3⟩ := hr3.opened; obtain ⟨s4, b4, m4, l4, rfl, e4, k4⟩ := hr4.opened; have hz'' : Ext z4 z5 := Ext.trans (by repeat (first | (with_reducible exact Ext.refl _) | (with_reducible assumption) | (with_reducible apply Ext.grow) | (with_reducible apply Ext.alloc) | (with_reducible apply Ext.drew) | ((with_reducible apply Ext.set); (case hb => (first | omega | (simp; omega)))))) hz5; have BO5 := BO4.ext hz''; have VX5 := (BigV.shut e1 k1).ext hz''; have hxz5 := hxz4.trans hz''; have BX5 : Blk z5 z4.heap.size #[.bool s1, .slice b1 m1 l1] 33 := Blk.ext (by repeat (first | (with_reducible assumption) | ((with_reducible refine Blk.new _ _ _ ?_); (simp; done)) | (with_reducible apply Blk.alloc) | (with_reducible apply Blk.grow) | (with_reducible apply Blk.drew) | (with_reducible apply Blk.set10) | (with_reducible apply Blk.set5) | (with_reducible apply Blk.set4) | (with_reducible apply Blk.tail4) | (with_reducible apply Blk.set2) | (with_reducible apply Blk.set1) | ((with_reducible apply Blk.setOther); (case hne => omega)))) hz5; have BO6 : Blk ((z5.alloc (.cells #[.bool s3, .slice b3 m3 l3] 33)).alloc (.cells #[.bool s4, .slice b4 m4 l4] 33)) (w.heap.size + 1 + 1) #[.bool false, .slice none 0 0, .bool false, .slice none 0 0] 35 := BO5.ext (by repeat (first | (with_reducible exact Ext.refl _) | (with_reducible assumption) | (with_reducible apply Ext.grow) | (with_reducible apply Ext.alloc) | (with_reducible apply Ext.drew) | ((with_reducible apply Ext.set); (case hb => (first | omega | (simp; omega)))))); have lBO5 := BO5.lt; have cBO5 := BO5.cell; have fBO5 := BO5.frozen; have lBX5 := BX5.lt; have cBX5 := BX5.cell; have fBX5 := BX5.frozen; have lBO6 := BO6.lt; have cBO6 := BO6.cell; have fBO6 := BO6.frozen)
    --s2
    refine bp_rebase fun u hu => ?_
    have hy : Ext w u := by rw [hu]; exact (by repeat (first | (with_reducible exact Ext.refl _) | (with_reducible assumption) | (with_reducible apply Ext.grow) | (with_reducible apply Ext.alloc) | (with_reducible apply Ext.drew) | ((with_reducible apply Ext.set); (case hb => (first | omega | (simp; omega))))))
    have hzu : Ext z5 ((z5.alloc (.cells #[.bool s3, .slice b3 m3 l3] 33)).alloc (.cells #[.bool s4, .slice b4 m4 l4] 33)) := (by repeat (first | (with_reducible exact Ext.refl _) | (with_reducible assumption) | (with_reducible apply Ext.grow) | (with_reducible apply Ext.alloc) | (with_reducible apply Ext.drew) | ((with_reducible apply Ext.set); (case hb => (first | omega | (simp; omega))))))
    have W1 := (VX5.ext hzu).set4 (x0 := .bool s1) (x1 := .slice b1 m1 l1) (x2 := .bool s3) (x3 := .slice b3 m3 l3) BO6 (by decide)
    have W2 := ((BigV.shut e3 k3).ext hzu).set4 (x0 := .bool s1) (x1 := .slice b1 m1 l1) (x2 := .bool s3) (x3 := .slice b3 m3 l3) BO6 (by decide)
    rw [← hu] at W1 W2
    have BF : Blk u (w.heap.size + 1 + 1) #[.bool s1, .slice b1 m1 l1, .bool s3, .slice b3 m3 l3] 35 := by rw [hu]; exact BO6.set4
    clear hu VX5 BO6 hzu
    have lBF := BF.lt; have cBF := BF.cell; have fBF := BF.frozen; clear BF
    exact bodyPost_ret (v := .agg #[.bool s1, .slice b1 m1 l1, .bool s3, .slice b3 m3 l3]) (by simp [results, Tryz.results19, go_sem, cBF]) rfl ⟨_, rfl, ⟨_, _, _, _, _, _, _, _, rfl, W1, W2⟩, hy⟩
set_option maxHeartbeats 8000000 in
theorem fMake_neg (N : Nat) (hN : N ≤ 2 ^ 520) (hQ : QuoOK N) (x0 y0 x : Int) (d : Nat) (e1 : -x0 = x) (e2 : -y0 = (d : Int)) (v1 v2 : Value) (hx : x.natAbs < N) (hd : d < N) (hd0 : 0 < d) (P : Int) (Q : Nat) (HP : Hid ((mkRat x d).num = P)) (HQ : Hid ((mkRat x d).den = Q)) (w : World) (h1 : BigV w v1 x0) (h2 : BigV w v2 y0) :
    Calls Tryz.prog 19 #[v1, v2] w (RetB (fun W r => FrV W r P (Q : Int)) w) := by
  have NO : ∀ w, Calls Tryz.prog 44 #[.int .i64 1] w (RetB (fun W r => BigV W r 1) w) := fun w => Num_pos 1 (by decide) w
  have CC := fun r' r w h1 h2 => bCmp (d : Int) 1 r' r (small_of hN (by simpa using hd)) small_one w h1 h2
  have N1 := fun w h => bNeg x0 v1 (small_of hN (by omega)) w h
  have N2 := fun w h => bNeg y0 v2 (small_of hN (by omega)) w h
  rw [e1] at N1
  rw [e2] at N2
  have VA0 := h1
  have VB0 := h2
  obtain ⟨u1, a8, n8, c8, rfl, e8, k8⟩ := h1.opened
  obtain ⟨u2, a9, n9, c9, rfl, e9, k9⟩ := h2.opened
  have hu2 : u2 = true := by rw [e9.out.1]; simp; omega
  clear h1 h2 e8 k8 k9 e9 e1 e2
  subst hu2
  go_enter Tryz.func19, Tryz.ntmps19
  go_wp2
  refine wp_rebase fun v hv => ?_
  have hxv : Ext w v := by rw [hv]; exact (by repeat (first | (with_reducible exact Ext.refl _) | (with_reducible assumption) | (with_reducible apply Ext.grow) | (with_reducible apply Ext.alloc) | (with_reducible apply Ext.drew) | ((with_reducible apply Ext.set); (case hb => (first | omega | (simp; omega))))))
  have BA : Blk v w.heap.size #[.bool u1, .slice a8 n8 c8] 33 := by rw [hv]; exact (by repeat (first | (with_reducible assumption) | ((with_reducible refine Blk.new _ _ _ ?_); (simp; done)) | (with_reducible apply Blk.alloc) | (with_reducible apply Blk.grow) | (with_reducible apply Blk.drew) | (with_reducible apply Blk.set10) | (with_reducible apply Blk.set5) | (with_reducible apply Blk.set4) | (with_reducible apply Blk.tail4) | (with_reducible apply Blk.set2) | (with_reducible apply Blk.set1) | ((with_reducible apply Blk.setOther); (case hne => omega))))
  have BB : Blk v (w.heap.size + 1) #[.bool true, .slice a9 n9 c9] 33 := by rw [hv]; exact (by repeat (first | (with_reducible assumption) | ((with_reducible refine Blk.new _ _ _ ?_); (simp; done)) | (with_reducible apply Blk.alloc) | (with_reducible apply Blk.grow) | (with_reducible apply Blk.drew) | (with_reducible apply Blk.set10) | (with_reducible apply Blk.set5) | (with_reducible apply Blk.set4) | (with_reducible apply Blk.tail4) | (with_reducible apply Blk.set2) | (with_reducible apply Blk.set1) | ((with_reducible apply Blk.setOther); (case hne => omega))))
  have BO : Blk v (w.heap.size + 1 + 1) #[.bool false, .slice none 0 0, .bool false, .slice none 0 0] 35 := by rw [hv]; exact (by repeat (first | (with_reducible assumption) | ((with_reducible refine Blk.new _ _ _ ?_); (simp; done)) | (with_reducible apply Blk.alloc) | (with_reducible apply Blk.grow) | (with_reducible apply Blk.drew) | (with_reducible apply Blk.set10) | (with_reducible apply Blk.set5) | (with_reducible apply Blk.set4) | (with_reducible apply Blk.tail4) | (with_reducible apply Blk.set2) | (with_reducible apply Blk.set1) | ((with_reducible apply Blk.setOther); (case hne => omega))))
  clear hv
  replace VA0 := VA0.ext hxv
  replace VB0 := VB0.ext hxv
  have lBA := BA.lt; have cBA := BA.cell; have fBA := BA.frozen; have lBB := BB.lt; have cBB := BB.cell; have fBB := BB.frozen; have lBO := BO.lt; have cBO := BO.cell; have fBO := BO.frozen
  (first | refine wp_region_h' 4 [0, 2] [1, 3] (by kernel_rfl) (by kernel_rfl) ?_ | refine wp_region_h 4 [0, 2] [1, 3] (by kernel_rfl) (by kernel_rfl) ?_); simp only [List.map_cons, List.map_nil, List.getD_cons_succ, List.getD_cons_zero]; (repeat (refine wpHL_l (fun K hK => ?_); go_simp; refine hK _ ?_; clear hK K)); refine wpHL_nil ?_; intro d0; have hx0 : Ext v (grow v d0) := ⟨d0, rfl⟩; generalize grow v d0 = y0 at *; (refine wpT_c (fun K hK => ?_); go_simp; refine ⟨_, _, ⟨rfl, rfl⟩, ?_⟩; (with_reducible refine (N1 _ (VA0.ext hx0)).mono ?_); rintro e y1 ⟨r1, rfl, hr1, hz1⟩; have hx1 : Ext v y1 := hx0.trans hz1; refine ⟨_, rfl, hx1, hK _ _ ?_⟩; clear hK K); (refine wpT_c (fun K hK => ?_); go_simp; refine ⟨_, _, ⟨rfl, rfl⟩, ?_⟩; (with_reducible refine (N2 _ (VB0.ext hx1)).mono ?_); rintro e y2 ⟨r2, rfl, hr2, hz2⟩; have hx2 : Ext v y2 := hx1.trans hz2; refine ⟨_, rfl, hx2, hK _ _ ?_⟩; clear hK K); refine wpT_nil ?_; simp only [List.drop_succ_cons, List.drop_zero]
  obtain ⟨t1, a1, n1, c1, rfl, ea, ka⟩ := (hr1.ext hz2).opened
  obtain ⟨t2, a2, n2, c2, rfl, eb, kb⟩ := hr2.opened
  have ht2 : t2 = false := by rw [eb.out.1]; simp
  subst ht2
  have BA2 := BA.ext hx2
  have BB2 := BB.ext hx2
  have BO2 := BO.ext hx2
  have hxn : Ext w y2 := hxv.trans hx2
  have lBA2 := BA2.lt; have cBA2 := BA2.cell; have fBA2 := BA2.frozen; have lBB2 := BB2.lt; have cBB2 := BB2.cell; have fBB2 := BB2.frozen; have lBO2 := BO2.lt; have cBO2 := BO2.cell; have fBO2 := BO2.frozen
  go_wp2
  refine wp_rebase fun v3 hv => ?_
  have hx3 : Ext w v3 := by rw [hv]; exact (by repeat (first | (with_reducible exact Ext.refl _) | (with_reducible assumption) | (with_reducible apply Ext.grow) | (with_reducible apply Ext.alloc) | (with_reducible apply Ext.drew) | ((with_reducible apply Ext.set); (case hb => (first | omega | (simp; omega))))))
  have BA3 : Blk v3 w.heap.size #[.bool t1, .slice a1 n1 c1] 33 := by rw [hv]; exact (by repeat (first | (with_reducible assumption) | ((with_reducible refine Blk.new _ _ _ ?_); (simp; done)) | (with_reducible apply Blk.alloc) | (with_reducible apply Blk.grow) | (with_reducible apply Blk.drew) | (with_reducible apply Blk.set10) | (with_reducible apply Blk.set5) | (with_reducible apply Blk.set4) | (with_reducible apply Blk.tail4) | (with_reducible apply Blk.set2) | (with_reducible apply Blk.set1) | ((with_reducible apply Blk.setOther); (case hne => omega))))
  have BB3 : Blk v3 (w.heap.size + 1) #[.bool false, .slice a2 n2 c2] 33 := by rw [hv]; exact (by repeat (first | (with_reducible assumption) | ((with_reducible refine Blk.new _ _ _ ?_); (simp; done)) | (with_reducible apply Blk.alloc) | (with_reducible apply Blk.grow) | (with_reducible apply Blk.drew) | (with_reducible apply Blk.set10) | (with_reducible apply Blk.set5) | (with_reducible apply Blk.set4) | (with_reducible apply Blk.tail4) | (with_reducible apply Blk.set2) | (with_reducible apply Blk.set1) | ((with_reducible apply Blk.setOther); (case hne => omega))))
  have BO3 : Blk v3 (w.heap.size + 1 + 1) #[.bool false, .slice none 0 0, .bool false, .slice none 0 0] 35 := by rw [hv]; exact (by repeat (first | (with_reducible assumption) | ((with_reducible refine Blk.new _ _ _ ?_); (simp; done)) | (with_reducible apply Blk.alloc) | (with_reducible apply Blk.grow) | (with_reducible apply Blk.drew) | (with_reducible apply Blk.set10) | (with_reducible apply Blk.set5) | (with_reducible apply Blk.set4) | (with_reducible apply Blk.tail4) | (with_reducible apply Blk.set2) | (with_reducible apply Blk.set1) | ((with_reducible apply Blk.setOther); (case hne => omega))))
  have BB4 : Blk ((y2.setCell ⟨w.heap.size, 0, none⟩ (.bool t1)).setCell ⟨w.heap.size, 1, none⟩ (.slice a1 n1 c1)) (w.heap.size + 1) _ _ := (BB2.setOther (by omega)).setOther (by omega)
  have VA := ((((BigV.shut ea ka).set (j := 0) (x := .bool t1) BA2 (by decide)).set (j := 1) (x := .slice a1 n1 c1) BA2.setSame (by decide)).set (j := 0) (x := .bool false) BB4 (by decide)).set (j := 1) (x := .slice a2 n2 c2) BB4.setSame (by decide)
  have VB := ((((BigV.shut eb kb).set (j := 0) (x := .bool t1) BA2 (by decide)).set (j := 1) (x := .slice a1 n1 c1) BA2.setSame (by decide)).set (j := 0) (x := .bool false) BB4 (by decide)).set (j := 1) (x := .slice a2 n2 c2) BB4.setSame (by decide)
  rw [← hv] at VA VB
  clear hv BB4 BA BB BO BA2 BB2 BO2 lBA cBA fBA lBB cBB fBB lBO cBO fBO lBA2 cBA2 fBA2 lBB2 cBB2 fBB2 lBO2 cBO2 fBO2 hr1 hr2 ka kb hx0 hx1 hx2 hz1 hz2 hxn hxv N1 N2 VA0 VB0 ea eb y0 x0
  clear y2 y1 v
  revert hx3 BA3 BB3 BO3 VA VB
  generalize v3 = v
  intro hxv BA BB BO VA VB
  replace CC := fun r w h1 h2 => CC (.agg (bigC false a2 n2 c2)) r w h1 h2
  have lBA := BA.lt; have cBA := BA.cell; have fBA := BA.frozen; have lBB := BB.lt; have cBB := BB.cell; have fBB := BB.frozen; have lBO := BO.lt; have cBO := BO.cell; have fBO := BO.frozen
  (first | refine wp_region_h' 3 [0] [1, 2] (by kernel_rfl) (by kernel_rfl) ?_ | refine wp_region_h 3 [0] [1, 2] (by kernel_rfl) (by kernel_rfl) ?_); simp only [List.map_cons, List.map_nil, List.getD_cons_succ, List.getD_cons_zero]; (repeat (refine wpHL_l (fun K hK => ?_); go_simp; refine hK _ ?_; clear hK K)); refine wpHL_nil ?_; intro d0; have hx0 : Ext v (grow v d0) := ⟨d0, rfl⟩; generalize grow v d0 = y0 at *; (refine wpT_c (fun K hK => ?_); go_simp; refine ⟨_, _, ⟨rfl, rfl⟩, ?_⟩; (with_reducible refine (NO _).mono ?_); rintro e y1 ⟨r1, rfl, hr1, hz1⟩; have hx1 : Ext v y1 := hx0.trans hz1; refine ⟨_, rfl, hx1, hK _ _ ?_⟩; clear hK K); (refine wpT_c (fun K hK => ?_); go_simp; refine ⟨_, _, ⟨rfl, rfl⟩, ?_⟩; (with_reducible refine (CC _ _ (VB.ext hx1) hr1).mono ?_); rintro e y2 ⟨rfl, hz2⟩; have hx2 : Ext v y2 := hx1.trans hz2; refine ⟨_, rfl, hx2, hK _ _ ?_⟩; clear hK K); refine wpT_nil ?_; simp only [List.drop_succ_cons, List.drop_zero]
  have BA2 := BA.ext hx2
  have BB2 := BB.ext hx2
  have BO2 := BO.ext hx2
  have VA2 := VA.ext hx2
  have VB2 := VB.ext hx2
  have hxw : Ext w y2 := hxv.trans hx2
  have HD : Hid ((cmpI d 1 == 0) = true ↔ (d : Int) = 1) := Lib.hid (cmpI_one d)
  generalize cmpI d 1 = q at *
  clear BA BB BO VA VB lBA cBA fBA lBB cBB fBB lBO cBO fBO hr1 hx0 hx1 hx2 hz1 hz2 hxv CC NO y1 v
  have lBA2 := BA2.lt; have cBA2 := BA2.cell; have fBA2 := BA2.frozen; have lBB2 := BB2.lt; have cBB2 := BB2.cell; have fBB2 := BB2.frozen; have lBO2 := BO2.lt; have cBO2 := BO2.cell; have fBO2 := BO2.frozen
  by_cases h1 : (d : Int) = 1
  · have hq : (q == 0) = true := HD.out.2 h1
    have HM : Hid (x = P ∧ (d : Int) = Q) := Lib.hid (by
      rw [← HP.out, ← HQ.out]
      obtain rfl : d = 1 := by omega
      have := make_one x; exact ⟨this.1.symm, by rw [this.2]⟩)
    rw [HM.out.1] at VA2
    rw [HM.out.2] at VB2
    clear HD h1 HM hQ HP HQ
    go_wp2
    refine bp_rebase fun u hu => ?_
    have hy : Ext w u := by rw [hu]; exact (by repeat (first | (with_reducible exact Ext.refl _) | (with_reducible assumption) | (with_reducible apply Ext.grow) | (with_reducible apply Ext.alloc) | (with_reducible apply Ext.drew) | ((with_reducible apply Ext.set); (case hb => (first | omega | (simp; omega))))))
    have W1 := VA2.set4 (x0 := .bool t1) (x1 := .slice a1 n1 c1) (x2 := .bool false) (x3 := .slice a2 n2 c2) BO2 (by decide)
    have W2 := VB2.set4 (x0 := .bool t1) (x1 := .slice a1 n1 c1) (x2 := .bool false) (x3 := .slice a2 n2 c2) BO2 (by decide)
    rw [← hu] at W1 W2
    have BF : Blk u (w.heap.size + 1 + 1) #[.bool t1, .slice a1 n1 c1, .bool false, .slice a2 n2 c2] 35 := by rw [hu]; exact BO2.set4
    clear hu VA2 VB2 BO2
    have lBF := BF.lt; have cBF := BF.cell; have fBF := BF.frozen; clear BF
    exact bodyPost_ret (v := .agg #[.bool t1, .slice a1 n1 c1, .bool false, .slice a2 n2 c2]) (by simp [results, Tryz.results19, go_sem, cBF]) rfl ⟨_, rfl, ⟨_, _, _, _, _, _, _, _, rfl, W1, W2⟩, hy⟩
  · have hq : (q == 0) = false := by
      cases h : (q == 0) with
      | false => rfl
      | true => exact absurd (HD.out.1 h) h1
    have CG := fun w h1 h2 => bGcd N hN (fun x y hx hy h0 => hQ x y (by simpa using hx) (by simpa using hy) (by omega)) x d (.agg (bigC t1 a1 n1 c1)) (.agg (bigC false a2 n2 c2)) hx (by simpa using hd) w h1 h2
    have hg1 : Nat.gcd x.natAbs d ≤ d := Nat.gcd_le_right _ hd0
    have hg0 : 0 < Nat.gcd x.natAbs d := Nat.gcd_pos_of_pos_right _ hd0
    have HN := Lib.hid (make_num x d (by omega))
    rw [HP.out, HQ.out] at HN
    rw [Int.natAbs_natCast] at CG
    generalize Nat.gcd x.natAbs d = g at *
    have C1 := fun v w h1 h2 => hQ x g hx (by simpa using (by omega : g < N)) (by omega) (.agg (bigC t1 a1 n1 c1)) v w h1 h2
    have C2 := fun v w h1 h2 => hQ d g (by simpa using hd) (by simpa using (by omega : g < N)) (by omega) (.agg (bigC false a2 n2 c2)) v w h1 h2
    unfold RetQ at C1 C2
    rw [HN.out.1] at C1
    rw [HN.out.2] at C2
    generalize x.tmod g = R1 at *
    generalize (d : Int).tmod g = R2 at *
    clear HP HQ HD HN hQ hg0 hg1 h1
    --s4
    go_wp2_with (go_at_call 43; refine (CG _ VA2 VB2).mono ?_; rintro e z ⟨r, rfl, hr, hz⟩; obtain ⟨sg, ag, ng, cg, rfl, eg, kg⟩ := hr.opened; have BA3 := BA2.ext hz; have BB3 := BB2.ext hz; have BO3 := BO2.ext hz; have VA3 := VA2.ext hz; have VB3 := VB2.ext hz; have hxz := hxw.trans hz; have lBA3 := BA3.lt; have cBA3 := BA3.cell; have fBA3 := BA3.frozen; have lBB3 := BB3.lt; have cBB3 := BB3.cell; have fBB3 := BB3.frozen; have lBO3 := BO3.lt; have cBO3 := BO3.cell; have fBO3 := BO3.frozen)
    go_wp2_with (go_at_call 57; refine (C1 _ _ (VA3.ext (by repeat (first | (with_reducible exact Ext.refl _) | (with_reducible assumption) | (with_reducible apply Ext.grow) | (with_reducible apply Ext.alloc) | (with_reducible apply Ext.drew) | ((with_reducible apply Ext.set); (case hb => (first | omega | (simp; omega))))))) ((BigV.shut eg kg).ext (by repeat (first | (with_reducible exact Ext.refl _) | (with_reducible assumption) | (with_reducible apply Ext.grow) | (with_reducible apply Ext.alloc) | (with_reducible apply Ext.drew) | ((with_reducible apply Ext.set); (case hb => (first | omega | (simp; omega)))))))).mono ?_; clear C1; rintro e z4 ⟨r1, r2, rfl, hr1, hr2, hz4⟩; obtain ⟨s1, b1, m1, l1, rfl, e1, k1⟩ := hr1.opened; obtain ⟨s2, b2, m2, l2, rfl, e2, k2⟩ := hr2.opened; have hz' : Ext z z4 := Ext.trans (by repeat (first | (with_reducible exact Ext.refl _) | (with_reducible assumption) | (with_reducible apply Ext.grow) | (with_reducible apply Ext.alloc) | (with_reducible apply Ext.drew) | ((with_reducible apply Ext.set); (case hb => (first | omega | (simp; omega)))))) hz4; have BA4 := BA3.ext hz'; have BB4 := BB3.ext hz'; have BO4 := BO3.ext hz'; have VB4 := VB3.ext hz'; have VG4 := (BigV.shut eg kg).ext hz'; have hxz4 := hxz.trans hz'; have BG4 : Blk z4 z.heap.size #[.bool sg, .slice ag ng cg] 33 := Blk.ext (Blk.new _ _ _ rfl) hz4; have lBA4 := BA4.lt; have cBA4 := BA4.cell; have fBA4 := BA4.frozen; have lBB4 := BB4.lt; have cBB4 := BB4.cell; have fBB4 := BB4.frozen; have lBO4 := BO4.lt; have cBO4 := BO4.cell; have fBO4 := BO4.frozen; have lBG4 := BG4.lt; have cBG4 := BG4.cell; have fBG4 := BG4.frozen)
    --s6
    go_wp2_with (go_at_call 57; refine (C2 _ _ (VB4.ext (by repeat (first | (with_reducible exact Ext.refl _) | (with_reducible assumption) | (with_reducible apply Ext.grow) | (with_reducible apply Ext.alloc) | (with_reducible apply Ext.drew) | ((with_reducible apply Ext.set); (case hb => (first | omega | (simp; omega))))))) (VG4.ext (by repeat (first | (with_reducible exact Ext.refl _) | (with_reducible assumption) | (with_reducible apply Ext.grow) | (with_reducible apply Ext.alloc) | (with_reducible apply Ext.drew) | ((with_reducible apply Ext.set); (case hb => (first | omega | (simp; omega)))))))).mono ?_; clear C2; rintro e z5 ⟨r1, r2, rfl, hr3, hr4, hz5⟩; obtain ⟨s3, b3, m3, l3, rfl, e3, k3⟩ := hr3.opened; obtain ⟨s4, b4, m4, l4, rfl, e4, k4⟩ := hr4.opened; have hz'' : Ext z4 z5 := Ext.trans (by repeat (first | (with_reducible exact Ext.refl _) | (with_reducible assumption) | (with_reducible apply Ext.grow) | (with_reducible apply Ext.alloc) | (with_reducible apply Ext.drew) | ((with_reducible apply Ext.set); (case hb => (first | omega | (simp; omega)))))) hz5; have BO5 := BO4.ext hz''; have VX5 := (BigV.shut e1 k1).ext hz''; have hxz5 := hxz4.trans hz''; have BX5 : Blk z5 z4.heap.size #[.bool s1, .slice b1 m1 l1] 33 := Blk.ext (by repeat (first | (with_reducible assumption) | ((with_reducible refine Blk.new _ _ _ ?_); (simp; done)) | (with_reducible apply Blk.alloc) | (with_reducible apply Blk.grow) | (with_reducible apply Blk.drew) | (with_reducible apply Blk.set10) | (with_reducible apply Blk.set5) | (with_reducible apply Blk.set4) | (with_reducible apply Blk.tail4) | (with_reducible apply Blk.set2) | (with_reducible apply Blk.set1) | ((with_reducible apply Blk.setOther); (case hne => omega)))) hz5; have BO6 : Blk ((z5.alloc (.cells #[.bool s3, .slice b3 m3 l3] 33)).alloc (.cells #[.bool s4, .slice b4 m4 l4] 33)) (w.heap.size + 1 + 1) #[.bool false, .slice none 0 0, .bool false, .slice none 0 0] 35 := BO5.ext (by repeat (first | (with_reducible exact Ext.refl _) | (with_reducible assumption) | (with_reducible apply Ext.grow) | (with_reducible apply Ext.alloc) | (with_reducible apply Ext.drew) | ((with_reducible apply Ext.set); (case hb => (first | omega | (simp; omega)))))); have lBO5 := BO5.lt; have cBO5 := BO5.cell; have fBO5 := BO5.frozen; have lBX5 := BX5.lt; have cBX5 := BX5.cell; have fBX5 := BX5.frozen; have lBO6 := BO6.lt; have cBO6 := BO6.cell; have fBO6 := BO6.frozen)
    --s5
    refine bp_rebase fun u hu => ?_
    have hy : Ext w u := by rw [hu]; exact (by repeat (first | (with_reducible exact Ext.refl _) | (with_reducible assumption) | (with_reducible apply Ext.grow) | (with_reducible apply Ext.alloc) | (with_reducible apply Ext.drew) | ((with_reducible apply Ext.set); (case hb => (first | omega | (simp; omega))))))
    have hzu : Ext z5 ((z5.alloc (.cells #[.bool s3, .slice b3 m3 l3] 33)).alloc (.cells #[.bool s4, .slice b4 m4 l4] 33)) := (by repeat (first | (with_reducible exact Ext.refl _) | (with_reducible assumption) | (with_reducible apply Ext.grow) | (with_reducible apply Ext.alloc) | (with_reducible apply Ext.drew) | ((with_reducible apply Ext.set); (case hb => (first | omega | (simp; omega))))))
    have W1 := (VX5.ext hzu).set4 (x0 := .bool s1) (x1 := .slice b1 m1 l1) (x2 := .bool s3) (x3 := .slice b3 m3 l3) BO6 (by decide)
    have W2 := ((BigV.shut e3 k3).ext hzu).set4 (x0 := .bool s1) (x1 := .slice b1 m1 l1) (x2 := .bool s3) (x3 := .slice b3 m3 l3) BO6 (by decide)
    rw [← hu] at W1 W2
    have BF : Blk u (w.heap.size + 1 + 1) #[.bool s1, .slice b1 m1 l1, .bool s3, .slice b3 m3 l3] 35 := by rw [hu]; exact BO6.set4
    clear hu VX5 BO6 hzu
    have lBF := BF.lt; have cBF := BF.cell; have fBF := BF.frozen; clear BF
    exact bodyPost_ret (v := .agg #[.bool s1, .slice b1 m1 l1, .bool s3, .slice b3 m3 l3]) (by simp [results, Tryz.results19, go_sem, cBF]) rfl ⟨_, rfl, ⟨_, _, _, _, _, _, _, _, rfl, W1, W2⟩, hy⟩
end Go.Proofs.YtjkchmegnfbfoaaGreatDoor

namespace Go.Proofs.YtjkchmegnfbfoaaGreatDoor
open Go Go.RowKit
set_option linter.unusedSimpArgs false
set_option linter.unusedVariables false
set_option maxRecDepth 100000
set_option exponentiation.threshold 3000

abbrev iZ : Value := .agg #[.bool false, .int .u64 0, .int .u64 0, .int .u64 0, .int .u64 0]
set_option maxHeartbeats 4000000 in
theorem bOut_yes (x : Int) (v1 : Value) (hx : x.natAbs < B4) (w : World) (h1 : BigV w v1 x) :
    Calls Tryz.prog 34 #[v1] w fun e w' => e = .returned (.tuple #[intV (decide (x < 0)) x.natAbs, .int .i64 0]) ∧ Ext w w' := by
  have CT := fun w h => bTo_yes x v1 hx w h
  have V1 := h1
  obtain ⟨t1, a1, n1, c1, rfl, e1, k1⟩ := h1.opened
  clear h1 e1 k1 hx
  generalize decide (x < 0) = s at *
  generalize x.natAbs = m at *
  go_enter Tryz.func34, Tryz.ntmps34
  go_wp2_with (go_at_call 72; refine (CT _ (V1.ext (by repeat (first | (with_reducible exact Ext.refl _) | (with_reducible assumption) | (with_reducible apply Ext.grow) | (with_reducible apply Ext.alloc) | (with_reducible apply Ext.drew) | ((with_reducible apply Ext.set); (case hb => (first | omega | (simp; omega)))))))).mono ?_; rintro e z ⟨rfl, hz⟩; have BO : Blk z (w.heap.size + 1) #[.bool false, .int .u64 0, .int .u64 0, .int .u64 0, .int .u64 0] 25 := Blk.ext (by repeat (first | (with_reducible assumption) | ((with_reducible refine Blk.new _ _ _ ?_); (simp; done)) | (with_reducible apply Blk.alloc) | (with_reducible apply Blk.grow) | (with_reducible apply Blk.drew) | (with_reducible apply Blk.set10) | (with_reducible apply Blk.set5) | (with_reducible apply Blk.set4) | (with_reducible apply Blk.tail4) | (with_reducible apply Blk.set2) | (with_reducible apply Blk.set1) | ((with_reducible apply Blk.setOther); (case hne => omega)))) hz; have hxz : Ext w z := Ext.trans (by repeat (first | (with_reducible exact Ext.refl _) | (with_reducible assumption) | (with_reducible apply Ext.grow) | (with_reducible apply Ext.alloc) | (with_reducible apply Ext.drew) | ((with_reducible apply Ext.set); (case hb => (first | omega | (simp; omega)))))) hz; have BO2 : Blk (z.alloc (.cells (ints1 s m) 25)) (w.heap.size + 1) #[.bool false, .int .u64 0, .int .u64 0, .int .u64 0, .int .u64 0] 25 := BO.ext (by repeat (first | (with_reducible exact Ext.refl _) | (with_reducible assumption) | (with_reducible apply Ext.grow) | (with_reducible apply Ext.alloc) | (with_reducible apply Ext.drew) | ((with_reducible apply Ext.set); (case hb => (first | omega | (simp; omega)))))); have lBO := BO.lt; have cBO := BO.cell; have fBO := BO.frozen; have lBO2 := BO2.lt; have cBO2 := BO2.cell; have fBO2 := BO2.frozen)
  --s1
  refine bp_rebase fun u hu => ?_
  have hy : Ext w u := by rw [hu]; exact (by repeat (first | (with_reducible exact Ext.refl _) | (with_reducible assumption) | (with_reducible apply Ext.grow) | (with_reducible apply Ext.alloc) | (with_reducible apply Ext.drew) | ((with_reducible apply Ext.set); (case hb => (first | omega | (simp; omega))))))
  have BF : Blk u (w.heap.size + 1) (ints1 s m) 25 := by rw [hu]; exact (by repeat (first | (with_reducible assumption) | ((with_reducible refine Blk.new _ _ _ ?_); (simp; done)) | (with_reducible apply Blk.alloc) | (with_reducible apply Blk.grow) | (with_reducible apply Blk.drew) | (with_reducible apply Blk.set10) | (with_reducible apply Blk.set5) | (with_reducible apply Blk.set4) | (with_reducible apply Blk.tail4) | (with_reducible apply Blk.set2) | (with_reducible apply Blk.set1) | ((with_reducible apply Blk.setOther); (case hne => omega))))
  clear hu
  have lBF := BF.lt; have cBF := BF.cell; have fBF := BF.frozen; clear BF
  exact bodyPost_ret (v := .tuple #[intV s m, .int .i64 0]) (by simp [results, Tryz.results34, go_sem, cBF]) rfl ⟨rfl, hy⟩
set_option maxHeartbeats 4000000 in
theorem bOut_no (x : Int) (v1 : Value) (hx : ¬ x.natAbs < B4) (hs : Small x) (w : World) (h1 : BigV w v1 x) :
    Calls Tryz.prog 34 #[v1] w fun e w' => e = .returned (.tuple #[iZ, .int .i64 110]) ∧ Ext w w' := by
  have CT := fun w h => bTo_no x v1 hx hs w h
  have V1 := h1
  obtain ⟨t1, a1, n1, c1, rfl, e1, k1⟩ := h1.opened
  clear h1 e1 k1 hx hs
  go_enter Tryz.func34, Tryz.ntmps34
  go_wp2_with (go_at_call 72; refine (CT _ (V1.ext (by repeat (first | (with_reducible exact Ext.refl _) | (with_reducible assumption) | (with_reducible apply Ext.grow) | (with_reducible apply Ext.alloc) | (with_reducible apply Ext.drew) | ((with_reducible apply Ext.set); (case hb => (first | omega | (simp; omega)))))))).mono ?_; rintro e z ⟨rfl, hz⟩; have BO : Blk z (w.heap.size + 1) #[.bool false, .int .u64 0, .int .u64 0, .int .u64 0, .int .u64 0] 25 := Blk.ext (by repeat (first | (with_reducible assumption) | ((with_reducible refine Blk.new _ _ _ ?_); (simp; done)) | (with_reducible apply Blk.alloc) | (with_reducible apply Blk.grow) | (with_reducible apply Blk.drew) | (with_reducible apply Blk.set10) | (with_reducible apply Blk.set5) | (with_reducible apply Blk.set4) | (with_reducible apply Blk.tail4) | (with_reducible apply Blk.set2) | (with_reducible apply Blk.set1) | ((with_reducible apply Blk.setOther); (case hne => omega)))) hz; have hxz : Ext w z := Ext.trans (by repeat (first | (with_reducible exact Ext.refl _) | (with_reducible assumption) | (with_reducible apply Ext.grow) | (with_reducible apply Ext.alloc) | (with_reducible apply Ext.drew) | ((with_reducible apply Ext.set); (case hb => (first | omega | (simp; omega)))))) hz; have BO2 : Blk (z.alloc (.cells #[.bool false, .int .u64 0, .int .u64 0, .int .u64 0, .int .u64 0] 25)) (w.heap.size + 1) #[.bool false, .int .u64 0, .int .u64 0, .int .u64 0, .int .u64 0] 25 := BO.ext (by repeat (first | (with_reducible exact Ext.refl _) | (with_reducible assumption) | (with_reducible apply Ext.grow) | (with_reducible apply Ext.alloc) | (with_reducible apply Ext.drew) | ((with_reducible apply Ext.set); (case hb => (first | omega | (simp; omega)))))); have lBO := BO.lt; have cBO := BO.cell; have fBO := BO.frozen; have lBO2 := BO2.lt; have cBO2 := BO2.cell; have fBO2 := BO2.frozen)
  --s2
  refine bp_rebase fun u hu => ?_
  have hy : Ext w u := by rw [hu]; exact (by repeat (first | (with_reducible exact Ext.refl _) | (with_reducible assumption) | (with_reducible apply Ext.grow) | (with_reducible apply Ext.alloc) | (with_reducible apply Ext.drew) | ((with_reducible apply Ext.set); (case hb => (first | omega | (simp; omega))))))
  have BF : Blk u (w.heap.size + 1) #[.bool false, .int .u64 0, .int .u64 0, .int .u64 0, .int .u64 0] 25 := by rw [hu]; exact (by repeat (first | (with_reducible assumption) | ((with_reducible refine Blk.new _ _ _ ?_); (simp; done)) | (with_reducible apply Blk.alloc) | (with_reducible apply Blk.grow) | (with_reducible apply Blk.drew) | (with_reducible apply Blk.set10) | (with_reducible apply Blk.set5) | (with_reducible apply Blk.set4) | (with_reducible apply Blk.tail4) | (with_reducible apply Blk.set2) | (with_reducible apply Blk.set1) | ((with_reducible apply Blk.setOther); (case hne => omega))))
  clear hu
  have lBF := BF.lt; have cBF := BF.cell; have fBF := BF.frozen; clear BF
  exact bodyPost_ret (v := .tuple #[iZ, .int .i64 110]) (by simp [results, Tryz.results34, go_sem, cBF]) rfl ⟨rfl, hy⟩
set_option maxHeartbeats 8000000 in
theorem fOut_yes (N D : Int) (v1 : Value) (s : Bool) (m : Nat) (t : Bool) (k : Nat) (w : World) (h1 : FrV w v1 N D)
    (c1 : ∀ v w, BigV w v N → Calls Tryz.prog 34 #[v] w fun e w' => e = .returned (.tuple #[intV s m, .int .i64 0]) ∧ Ext w w')
    (c2 : ∀ v w, BigV w v D → Calls Tryz.prog 34 #[v] w fun e w' => e = .returned (.tuple #[intV t k, .int .i64 0]) ∧ Ext w w') :
    Calls Tryz.prog 9 #[v1] w fun e w' => e = .returned (.tuple #[ratV s m t k, .int .i64 0]) ∧ Ext w w' := by
  obtain ⟨s1, a1, n1, l1, s2, a2, n2, l2, rfl, VA, VB⟩ := h1
  go_enter Tryz.func9, Tryz.ntmps9
  go_wp2_with (go_at_call 34; refine (c1 _ _ (VA.ext (by repeat (first | (with_reducible exact Ext.refl _) | (with_reducible assumption) | (with_reducible apply Ext.grow) | (with_reducible apply Ext.alloc) | (with_reducible apply Ext.drew) | ((with_reducible apply Ext.set); (case hb => (first | omega | (simp; omega)))))))).mono ?_; clear c1; rintro e z ⟨rfl, hz⟩; have BI : Blk z w.heap.size #[.bool s1, .slice a1 n1 l1, .bool s2, .slice a2 n2 l2] 35 := Blk.ext (by repeat (first | (with_reducible assumption) | ((with_reducible refine Blk.new _ _ _ ?_); (simp; done)) | (with_reducible apply Blk.alloc) | (with_reducible apply Blk.grow) | (with_reducible apply Blk.drew) | (with_reducible apply Blk.set10) | (with_reducible apply Blk.set5) | (with_reducible apply Blk.set4) | (with_reducible apply Blk.tail4) | (with_reducible apply Blk.set2) | (with_reducible apply Blk.set1) | ((with_reducible apply Blk.setOther); (case hne => omega)))) hz; have BO : Blk z (w.heap.size + 1) #[.bool false, .int .u64 0, .int .u64 0, .int .u64 0, .int .u64 0, .bool false, .int .u64 0, .int .u64 0, .int .u64 0, .int .u64 0] 27 := Blk.ext (by repeat (first | (with_reducible assumption) | ((with_reducible refine Blk.new _ _ _ ?_); (simp; done)) | (with_reducible apply Blk.alloc) | (with_reducible apply Blk.grow) | (with_reducible apply Blk.drew) | (with_reducible apply Blk.set10) | (with_reducible apply Blk.set5) | (with_reducible apply Blk.set4) | (with_reducible apply Blk.tail4) | (with_reducible apply Blk.set2) | (with_reducible apply Blk.set1) | ((with_reducible apply Blk.setOther); (case hne => omega)))) hz; have hxz : Ext w z := Ext.trans (by repeat (first | (with_reducible exact Ext.refl _) | (with_reducible assumption) | (with_reducible apply Ext.grow) | (with_reducible apply Ext.alloc) | (with_reducible apply Ext.drew) | ((with_reducible apply Ext.set); (case hb => (first | omega | (simp; omega)))))) hz; have lBI := BI.lt; have cBI := BI.cell; have fBI := BI.frozen; have lBO := BO.lt; have cBO := BO.cell; have fBO := BO.frozen)
  go_wp2_with (go_at_call 34; refine (c2 _ _ (VB.ext (hxz.trans (by repeat (first | (with_reducible exact Ext.refl _) | (with_reducible assumption) | (with_reducible apply Ext.grow) | (with_reducible apply Ext.alloc) | (with_reducible apply Ext.drew) | ((with_reducible apply Ext.set); (case hb => (first | omega | (simp; omega))))))))).mono ?_; clear c2; rintro e z2 ⟨rfl, hz2⟩; have hzz : Ext z z2 := Ext.trans (by repeat (first | (with_reducible exact Ext.refl _) | (with_reducible assumption) | (with_reducible apply Ext.grow) | (with_reducible apply Ext.alloc) | (with_reducible apply Ext.drew) | ((with_reducible apply Ext.set); (case hb => (first | omega | (simp; omega)))))) hz2; have BN : Blk z2 z.heap.size (ints1 s m) 25 := Blk.ext (by repeat (first | (with_reducible assumption) | ((with_reducible refine Blk.new _ _ _ ?_); (simp; done)) | (with_reducible apply Blk.alloc) | (with_reducible apply Blk.grow) | (with_reducible apply Blk.drew) | (with_reducible apply Blk.set10) | (with_reducible apply Blk.set5) | (with_reducible apply Blk.set4) | (with_reducible apply Blk.tail4) | (with_reducible apply Blk.set2) | (with_reducible apply Blk.set1) | ((with_reducible apply Blk.setOther); (case hne => omega)))) hz2; have BO2 : Blk z2 (w.heap.size + 1) #[.bool false, .int .u64 0, .int .u64 0, .int .u64 0, .int .u64 0, .bool false, .int .u64 0, .int .u64 0, .int .u64 0, .int .u64 0] 27 := BO.ext hzz; have hxz2 : Ext w z2 := hxz.trans hzz; have BO3 : Blk (z2.alloc (.cells (ints1 t k) 25)) (w.heap.size + 1) #[.bool false, .int .u64 0, .int .u64 0, .int .u64 0, .int .u64 0, .bool false, .int .u64 0, .int .u64 0, .int .u64 0, .int .u64 0] 27 := BO2.ext (by repeat (first | (with_reducible exact Ext.refl _) | (with_reducible assumption) | (with_reducible apply Ext.grow) | (with_reducible apply Ext.alloc) | (with_reducible apply Ext.drew) | ((with_reducible apply Ext.set); (case hb => (first | omega | (simp; omega)))))); have lBN := BN.lt; have cBN := BN.cell; have fBN := BN.frozen; have lBO2 := BO2.lt; have cBO2 := BO2.cell; have fBO2 := BO2.frozen; have lBO3 := BO3.lt; have cBO3 := BO3.cell; have fBO3 := BO3.frozen)
  --s3
  refine bp_rebase fun u hu => ?_
  have hy : Ext w u := by rw [hu]; exact (by repeat (first | (with_reducible exact Ext.refl _) | (with_reducible assumption) | (with_reducible apply Ext.grow) | (with_reducible apply Ext.alloc) | (with_reducible apply Ext.drew) | ((with_reducible apply Ext.set); (case hb => (first | omega | (simp; omega))))))
  have BF : Blk u (w.heap.size + 1) #[.bool s, q64 (wn m 0), q64 (wn m 1), q64 (wn m 2), q64 (wn m 3), .bool t, q64 (wn k 0), q64 (wn k 1), q64 (wn k 2), q64 (wn k 3)] 27 := by rw [hu]; exact (by repeat (first | (with_reducible assumption) | ((with_reducible refine Blk.new _ _ _ ?_); (simp; done)) | (with_reducible apply Blk.alloc) | (with_reducible apply Blk.grow) | (with_reducible apply Blk.drew) | (with_reducible apply Blk.set10) | (with_reducible apply Blk.set5) | (with_reducible apply Blk.set4) | (with_reducible apply Blk.tail4) | (with_reducible apply Blk.set2) | (with_reducible apply Blk.set1) | ((with_reducible apply Blk.setOther); (case hne => omega))))
  clear hu
  have lBF := BF.lt; have cBF := BF.cell; have fBF := BF.frozen; clear BF
  exact bodyPost_ret (v := .tuple #[ratV s m t k, .int .i64 0]) (by simp [results, Tryz.results9, go_sem, cBF]) rfl ⟨rfl, hy⟩
set_option maxHeartbeats 8000000 in
theorem fOut_no1 (N D : Int) (v1 : Value) (s : Bool) (m : Nat) (t : Bool) (k : Nat) (g : Int) (w : World) (h1 : FrV w v1 N D)
    (c1 : ∀ v w, BigV w v N → Calls Tryz.prog 34 #[v] w fun e w' => e = .returned (.tuple #[intV s m, .int .i64 110]) ∧ Ext w w')
    (c2 : ∀ v w, BigV w v D → Calls Tryz.prog 34 #[v] w fun e w' => e = .returned (.tuple #[intV t k, .int .i64 g]) ∧ Ext w w') :
    Calls Tryz.prog 9 #[v1] w fun e w' => e = .returned (.tuple #[qZ, .int .i64 110]) ∧ Ext w w' := by
  obtain ⟨s1, a1, n1, l1, s2, a2, n2, l2, rfl, VA, VB⟩ := h1
  go_enter Tryz.func9, Tryz.ntmps9
  go_wp2_with (go_at_call 34; refine (c1 _ _ (VA.ext (by repeat (first | (with_reducible exact Ext.refl _) | (with_reducible assumption) | (with_reducible apply Ext.grow) | (with_reducible apply Ext.alloc) | (with_reducible apply Ext.drew) | ((with_reducible apply Ext.set); (case hb => (first | omega | (simp; omega)))))))).mono ?_; clear c1; rintro e z ⟨rfl, hz⟩; have BI : Blk z w.heap.size #[.bool s1, .slice a1 n1 l1, .bool s2, .slice a2 n2 l2] 35 := Blk.ext (by repeat (first | (with_reducible assumption) | ((with_reducible refine Blk.new _ _ _ ?_); (simp; done)) | (with_reducible apply Blk.alloc) | (with_reducible apply Blk.grow) | (with_reducible apply Blk.drew) | (with_reducible apply Blk.set10) | (with_reducible apply Blk.set5) | (with_reducible apply Blk.set4) | (with_reducible apply Blk.tail4) | (with_reducible apply Blk.set2) | (with_reducible apply Blk.set1) | ((with_reducible apply Blk.setOther); (case hne => omega)))) hz; have BO : Blk z (w.heap.size + 1) #[.bool false, .int .u64 0, .int .u64 0, .int .u64 0, .int .u64 0, .bool false, .int .u64 0, .int .u64 0, .int .u64 0, .int .u64 0] 27 := Blk.ext (by repeat (first | (with_reducible assumption) | ((with_reducible refine Blk.new _ _ _ ?_); (simp; done)) | (with_reducible apply Blk.alloc) | (with_reducible apply Blk.grow) | (with_reducible apply Blk.drew) | (with_reducible apply Blk.set10) | (with_reducible apply Blk.set5) | (with_reducible apply Blk.set4) | (with_reducible apply Blk.tail4) | (with_reducible apply Blk.set2) | (with_reducible apply Blk.set1) | ((with_reducible apply Blk.setOther); (case hne => omega)))) hz; have hxz : Ext w z := Ext.trans (by repeat (first | (with_reducible exact Ext.refl _) | (with_reducible assumption) | (with_reducible apply Ext.grow) | (with_reducible apply Ext.alloc) | (with_reducible apply Ext.drew) | ((with_reducible apply Ext.set); (case hb => (first | omega | (simp; omega)))))) hz; have lBI := BI.lt; have cBI := BI.cell; have fBI := BI.frozen; have lBO := BO.lt; have cBO := BO.cell; have fBO := BO.frozen)
  go_wp2_with (go_at_call 34; refine (c2 _ _ (VB.ext (hxz.trans (by repeat (first | (with_reducible exact Ext.refl _) | (with_reducible assumption) | (with_reducible apply Ext.grow) | (with_reducible apply Ext.alloc) | (with_reducible apply Ext.drew) | ((with_reducible apply Ext.set); (case hb => (first | omega | (simp; omega))))))))).mono ?_; clear c2; rintro e z2 ⟨rfl, hz2⟩; have hzz : Ext z z2 := Ext.trans (by repeat (first | (with_reducible exact Ext.refl _) | (with_reducible assumption) | (with_reducible apply Ext.grow) | (with_reducible apply Ext.alloc) | (with_reducible apply Ext.drew) | ((with_reducible apply Ext.set); (case hb => (first | omega | (simp; omega)))))) hz2; have BN : Blk z2 z.heap.size (ints1 s m) 25 := Blk.ext (by repeat (first | (with_reducible assumption) | ((with_reducible refine Blk.new _ _ _ ?_); (simp; done)) | (with_reducible apply Blk.alloc) | (with_reducible apply Blk.grow) | (with_reducible apply Blk.drew) | (with_reducible apply Blk.set10) | (with_reducible apply Blk.set5) | (with_reducible apply Blk.set4) | (with_reducible apply Blk.tail4) | (with_reducible apply Blk.set2) | (with_reducible apply Blk.set1) | ((with_reducible apply Blk.setOther); (case hne => omega)))) hz2; have BO2 : Blk z2 (w.heap.size + 1) #[.bool false, .int .u64 0, .int .u64 0, .int .u64 0, .int .u64 0, .bool false, .int .u64 0, .int .u64 0, .int .u64 0, .int .u64 0] 27 := BO.ext hzz; have hxz2 : Ext w z2 := hxz.trans hzz; have BO3 : Blk (z2.alloc (.cells (ints1 t k) 25)) (w.heap.size + 1) #[.bool false, .int .u64 0, .int .u64 0, .int .u64 0, .int .u64 0, .bool false, .int .u64 0, .int .u64 0, .int .u64 0, .int .u64 0] 27 := BO2.ext (by repeat (first | (with_reducible exact Ext.refl _) | (with_reducible assumption) | (with_reducible apply Ext.grow) | (with_reducible apply Ext.alloc) | (with_reducible apply Ext.drew) | ((with_reducible apply Ext.set); (case hb => (first | omega | (simp; omega)))))); have lBN := BN.lt; have cBN := BN.cell; have fBN := BN.frozen; have lBO2 := BO2.lt; have cBO2 := BO2.cell; have fBO2 := BO2.frozen; have lBO3 := BO3.lt; have cBO3 := BO3.cell; have fBO3 := BO3.frozen)
  --s4
  refine bp_rebase fun u hu => ?_
  have hy : Ext w u := by rw [hu]; exact (by repeat (first | (with_reducible exact Ext.refl _) | (with_reducible assumption) | (with_reducible apply Ext.grow) | (with_reducible apply Ext.alloc) | (with_reducible apply Ext.drew) | ((with_reducible apply Ext.set); (case hb => (first | omega | (simp; omega))))))
  have BF : Blk u (w.heap.size + 1) #[.bool false, .int .u64 0, .int .u64 0, .int .u64 0, .int .u64 0, .bool false, .int .u64 0, .int .u64 0, .int .u64 0, .int .u64 0] 27 := by rw [hu]; exact (by repeat (first | (with_reducible assumption) | ((with_reducible refine Blk.new _ _ _ ?_); (simp; done)) | (with_reducible apply Blk.alloc) | (with_reducible apply Blk.grow) | (with_reducible apply Blk.drew) | (with_reducible apply Blk.set10) | (with_reducible apply Blk.set5) | (with_reducible apply Blk.set4) | (with_reducible apply Blk.tail4) | (with_reducible apply Blk.set2) | (with_reducible apply Blk.set1) | ((with_reducible apply Blk.setOther); (case hne => omega))))
  clear hu
  have lBF := BF.lt; have cBF := BF.cell; have fBF := BF.frozen; clear BF
  exact bodyPost_ret (v := .tuple #[qZ, .int .i64 110]) (by simp [results, Tryz.results9, go_sem, cBF]) rfl ⟨rfl, hy⟩
set_option maxHeartbeats 8000000 in
theorem fOut_no2 (N D : Int) (v1 : Value) (s : Bool) (m : Nat) (t : Bool) (k : Nat) (w : World) (h1 : FrV w v1 N D)
    (c1 : ∀ v w, BigV w v N → Calls Tryz.prog 34 #[v] w fun e w' => e = .returned (.tuple #[intV s m, .int .i64 0]) ∧ Ext w w')
    (c2 : ∀ v w, BigV w v D → Calls Tryz.prog 34 #[v] w fun e w' => e = .returned (.tuple #[intV t k, .int .i64 110]) ∧ Ext w w') :
    Calls Tryz.prog 9 #[v1] w fun e w' => e = .returned (.tuple #[qZ, .int .i64 110]) ∧ Ext w w' := by
  obtain ⟨s1, a1, n1, l1, s2, a2, n2, l2, rfl, VA, VB⟩ := h1
  go_enter Tryz.func9, Tryz.ntmps9
  go_wp2_with (go_at_call 34; refine (c1 _ _ (VA.ext (by repeat (first | (with_reducible exact Ext.refl _) | (with_reducible assumption) | (with_reducible apply Ext.grow) | (with_reducible apply Ext.alloc) | (with_reducible apply Ext.drew) | ((with_reducible apply Ext.set); (case hb => (first | omega | (simp; omega)))))))).mono ?_; clear c1; rintro e z ⟨rfl, hz⟩; have BI : Blk z w.heap.size #[.bool s1, .slice a1 n1 l1, .bool s2, .slice a2 n2 l2] 35 := Blk.ext (by repeat (first | (with_reducible assumption) | ((with_reducible refine Blk.new _ _ _ ?_); (simp; done)) | (with_reducible apply Blk.alloc) | (with_reducible apply Blk.grow) | (with_reducible apply Blk.drew) | (with_reducible apply Blk.set10) | (with_reducible apply Blk.set5) | (with_reducible apply Blk.set4) | (with_reducible apply Blk.tail4) | (with_reducible apply Blk.set2) | (with_reducible apply Blk.set1) | ((with_reducible apply Blk.setOther); (case hne => omega)))) hz; have BO : Blk z (w.heap.size + 1) #[.bool false, .int .u64 0, .int .u64 0, .int .u64 0, .int .u64 0, .bool false, .int .u64 0, .int .u64 0, .int .u64 0, .int .u64 0] 27 := Blk.ext (by repeat (first | (with_reducible assumption) | ((with_reducible refine Blk.new _ _ _ ?_); (simp; done)) | (with_reducible apply Blk.alloc) | (with_reducible apply Blk.grow) | (with_reducible apply Blk.drew) | (with_reducible apply Blk.set10) | (with_reducible apply Blk.set5) | (with_reducible apply Blk.set4) | (with_reducible apply Blk.tail4) | (with_reducible apply Blk.set2) | (with_reducible apply Blk.set1) | ((with_reducible apply Blk.setOther); (case hne => omega)))) hz; have hxz : Ext w z := Ext.trans (by repeat (first | (with_reducible exact Ext.refl _) | (with_reducible assumption) | (with_reducible apply Ext.grow) | (with_reducible apply Ext.alloc) | (with_reducible apply Ext.drew) | ((with_reducible apply Ext.set); (case hb => (first | omega | (simp; omega)))))) hz; have lBI := BI.lt; have cBI := BI.cell; have fBI := BI.frozen; have lBO := BO.lt; have cBO := BO.cell; have fBO := BO.frozen)
  go_wp2_with (go_at_call 34; refine (c2 _ _ (VB.ext (hxz.trans (by repeat (first | (with_reducible exact Ext.refl _) | (with_reducible assumption) | (with_reducible apply Ext.grow) | (with_reducible apply Ext.alloc) | (with_reducible apply Ext.drew) | ((with_reducible apply Ext.set); (case hb => (first | omega | (simp; omega))))))))).mono ?_; clear c2; rintro e z2 ⟨rfl, hz2⟩; have hzz : Ext z z2 := Ext.trans (by repeat (first | (with_reducible exact Ext.refl _) | (with_reducible assumption) | (with_reducible apply Ext.grow) | (with_reducible apply Ext.alloc) | (with_reducible apply Ext.drew) | ((with_reducible apply Ext.set); (case hb => (first | omega | (simp; omega)))))) hz2; have BN : Blk z2 z.heap.size (ints1 s m) 25 := Blk.ext (by repeat (first | (with_reducible assumption) | ((with_reducible refine Blk.new _ _ _ ?_); (simp; done)) | (with_reducible apply Blk.alloc) | (with_reducible apply Blk.grow) | (with_reducible apply Blk.drew) | (with_reducible apply Blk.set10) | (with_reducible apply Blk.set5) | (with_reducible apply Blk.set4) | (with_reducible apply Blk.tail4) | (with_reducible apply Blk.set2) | (with_reducible apply Blk.set1) | ((with_reducible apply Blk.setOther); (case hne => omega)))) hz2; have BO2 : Blk z2 (w.heap.size + 1) #[.bool false, .int .u64 0, .int .u64 0, .int .u64 0, .int .u64 0, .bool false, .int .u64 0, .int .u64 0, .int .u64 0, .int .u64 0] 27 := BO.ext hzz; have hxz2 : Ext w z2 := hxz.trans hzz; have BO3 : Blk (z2.alloc (.cells (ints1 t k) 25)) (w.heap.size + 1) #[.bool false, .int .u64 0, .int .u64 0, .int .u64 0, .int .u64 0, .bool false, .int .u64 0, .int .u64 0, .int .u64 0, .int .u64 0] 27 := BO2.ext (by repeat (first | (with_reducible exact Ext.refl _) | (with_reducible assumption) | (with_reducible apply Ext.grow) | (with_reducible apply Ext.alloc) | (with_reducible apply Ext.drew) | ((with_reducible apply Ext.set); (case hb => (first | omega | (simp; omega)))))); have lBN := BN.lt; have cBN := BN.cell; have fBN := BN.frozen; have lBO2 := BO2.lt; have cBO2 := BO2.cell; have fBO2 := BO2.frozen; have lBO3 := BO3.lt; have cBO3 := BO3.cell; have fBO3 := BO3.frozen)
  --s5
  refine bp_rebase fun u hu => ?_
  have hy : Ext w u := by rw [hu]; exact (by repeat (first | (with_reducible exact Ext.refl _) | (with_reducible assumption) | (with_reducible apply Ext.grow) | (with_reducible apply Ext.alloc) | (with_reducible apply Ext.drew) | ((with_reducible apply Ext.set); (case hb => (first | omega | (simp; omega))))))
  have BF : Blk u (w.heap.size + 1) #[.bool false, .int .u64 0, .int .u64 0, .int .u64 0, .int .u64 0, .bool false, .int .u64 0, .int .u64 0, .int .u64 0, .int .u64 0] 27 := by rw [hu]; exact (by repeat (first | (with_reducible assumption) | ((with_reducible refine Blk.new _ _ _ ?_); (simp; done)) | (with_reducible apply Blk.alloc) | (with_reducible apply Blk.grow) | (with_reducible apply Blk.drew) | (with_reducible apply Blk.set10) | (with_reducible apply Blk.set5) | (with_reducible apply Blk.set4) | (with_reducible apply Blk.tail4) | (with_reducible apply Blk.set2) | (with_reducible apply Blk.set1) | ((with_reducible apply Blk.setOther); (case hne => omega))))
  clear hu
  have lBF := BF.lt; have cBF := BF.cell; have fBF := BF.frozen; clear BF
  exact bodyPost_ret (v := .tuple #[qZ, .int .i64 110]) (by simp [results, Tryz.results9, go_sem, cBF]) rfl ⟨rfl, hy⟩
end Go.Proofs.YtjkchmegnfbfoaaGreatDoor

namespace Go.Proofs.YtjkchmegnfbfoaaGreatDoor
open Go Go.RowKit
set_option linter.unusedSimpArgs false
set_option linter.unusedVariables false
set_option maxRecDepth 100000
set_option exponentiation.threshold 3000

/-- A reference's fraction is that of a rational. -/
abbrev FrQ (W : World) (v : Value) (q : Rat) : Prop := FrV W v q.num (q.den : Int)
theorem divInt_neg' (x : Int) (d : Nat) : Rat.divInt x (-(d : Int)) = mkRat (-x) d := by
  rw [← Rat.divInt_ofNat, Rat.divInt_neg']
theorem fMake (N : Nat) (hN : N ≤ 2 ^ 520) (hQ : QuoOK N) (x y : Int) (v1 v2 : Value) (hx : x.natAbs < N) (hy : y.natAbs < N) (h0 : y ≠ 0) (w : World) (h1 : BigV w v1 x) (h2 : BigV w v2 y) :
    Calls Tryz.prog 19 #[v1, v2] w (RetB (fun W r => FrQ W r (Rat.divInt x y)) w) := by
  rcases Int.lt_or_gt_of_ne h0 with h | h
  · obtain ⟨d, rfl⟩ : ∃ d : Nat, y = -(d : Int) := ⟨y.natAbs, by omega⟩
    rw [divInt_neg']
    exact fMake_neg N hN hQ x (-(d : Int)) (-x) d rfl (Int.neg_neg _) v1 v2 (by simpa using hx) (by simpa using hy) (by omega) _ _ (Lib.hid rfl) (Lib.hid rfl) w h1 h2
  · obtain ⟨d, rfl⟩ : ∃ d : Nat, y = (d : Int) := ⟨y.toNat, by omega⟩
    rw [Rat.divInt_ofNat]
    exact fMake_pos N hN hQ x d v1 v2 hx (by simpa using hy) (by omega) _ _ (Lib.hid rfl) (Lib.hid rfl) w h1 h2
theorem fOut_fits (q : Rat) (v1 : Value) (hq : Fits q) (w : World) (h1 : FrQ w v1 q) :
    Calls Tryz.prog 9 #[v1] w fun e w' => e = .returned (.tuple #[qV q, .int .i64 0]) ∧ Ext w w' := by
  have c2 := fun v w h => bOut_yes (q.den : Int) v (by simpa using hq.2) w h
  rw [show decide ((q.den : Int) < 0) = false by simp, Int.natAbs_natCast] at c2
  exact fOut_yes q.num q.den v1 _ _ _ _ w h1 (fun v w h => bOut_yes q.num v hq.1 w h) c2
theorem fOut_over (q : Rat) (v1 : Value) (hq : ¬ Fits q) (s1 : Small q.num) (s2 : Small q.den) (w : World) (h1 : FrQ w v1 q) :
    Calls Tryz.prog 9 #[v1] w fun e w' => e = .returned (.tuple #[qZ, .int .i64 110]) ∧ Ext w w' := by
  have c2 : ¬ q.den < B4 → ∀ v w, BigV w v (q.den : Int) → Calls Tryz.prog 34 #[v] w fun e w' => e = .returned (.tuple #[intV false 0, .int .i64 110]) ∧ Ext w w' := fun hd v w h => by
    have := bOut_no (q.den : Int) v (by simpa using hd) s2 w h
    rwa [show iZ = intV false 0 from iZ_eq] at this
  have c2' : q.den < B4 → ∀ v w, BigV w v (q.den : Int) → Calls Tryz.prog 34 #[v] w fun e w' => e = .returned (.tuple #[intV false q.den, .int .i64 0]) ∧ Ext w w' := fun hd v w h => by
    have := bOut_yes (q.den : Int) v (by simpa using hd) w h
    rwa [show decide ((q.den : Int) < 0) = false by simp, Int.natAbs_natCast] at this
  by_cases hn : q.num.natAbs < B4
  · have hd : ¬ q.den < B4 := fun hd => hq ⟨hn, hd⟩
    exact fOut_no2 q.num q.den v1 _ _ _ _ w h1 (fun v w h => bOut_yes q.num v hn w h) (c2 hd)
  · have c1 : ∀ v w, BigV w v q.num → Calls Tryz.prog 34 #[v] w fun e w' => e = .returned (.tuple #[intV false 0, .int .i64 110]) ∧ Ext w w' := fun v w h => by
      have := bOut_no q.num v hn s1 w h
      rwa [show iZ = intV false 0 from iZ_eq] at this
    by_cases hd : q.den < B4
    · exact fOut_no1 q.num q.den v1 _ _ _ _ 0 w h1 c1 (c2' hd)
    · exact fOut_no1 q.num q.den v1 _ _ _ _ 110 w h1 c1 (c2 hd)
set_option maxHeartbeats 4000000 in
theorem cOf_law (x y : Int) (hx : x.natAbs < 65536 ^ 3) (hy : y.natAbs < 65536 ^ 3) (h0 : y ≠ 0) (hf : Fits (Rat.divInt x y)) (w : World) :
    Calls Tryz.prog 55 #[.int .i64 x, .int .i64 y] w fun e w' => e = .returned (qV (Rat.divInt x y)) ∧ Ext w w' := by
  have NX := fun w => bNum x (by omega) (by omega) w
  have NY := fun w => bNum y (by omega) (by omega) w
  have CM := fun v1 v2 w h1 h2 => fMake (65536 ^ 3) (by decide) quo_three x y v1 v2 hx hy h0 w h1 h2
  have CO : ∀ v1 w, FrQ w v1 (Rat.divInt x y) → Calls Tryz.prog 9 #[v1] w fun e w' => e = .returned (.tuple #[ratV (decide ((Rat.divInt x y).num < 0)) (Rat.divInt x y).num.natAbs false (Rat.divInt x y).den, .int .i64 0]) ∧ Ext w w' := fun v1 w h1 => fOut_fits (Rat.divInt x y) v1 hf w h1
  show Calls Tryz.prog 55 #[.int .i64 x, .int .i64 y] w fun e w' => e = .returned (ratV (decide ((Rat.divInt x y).num < 0)) (Rat.divInt x y).num.natAbs false (Rat.divInt x y).den) ∧ Ext w w'
  have b1 : -9223372036854775808 ≤ x := by omega
  have b2 : x ≤ 9223372036854775807 := by omega
  have b3 : -9223372036854775808 ≤ y := by omega
  have b4 : y ≤ 9223372036854775807 := by omega
  clear hx hy h0 hf
  generalize Rat.divInt x y = q at *
  obtain ⟨s, hs⟩ : ∃ s, s = decide (q.num < 0) := ⟨_, rfl⟩
  obtain ⟨m, hm⟩ : ∃ m, m = q.num.natAbs := ⟨_, rfl⟩
  obtain ⟨k, hk⟩ : ∃ k, k = q.den := ⟨_, rfl⟩
  simp only [← hs, ← hm] at CO ⊢
  have CO' : ∀ v1 w, FrQ w v1 q → Calls Tryz.prog 9 #[v1] w fun e w' => e = .returned (.tuple #[ratV s m false k, .int .i64 0]) ∧ Ext w w' := by rw [hk]; exact CO
  rw [← hk]
  clear CO hs hm hk
  go_enter Tryz.func55, Tryz.ntmps55
  go_wp2_with (go_at_call 44; refine (NX _).mono ?_; clear NX; rintro e z ⟨r, rfl, hr, hz⟩; have hxz : Ext w z := Ext.trans (by repeat (first | (with_reducible exact Ext.refl _) | (with_reducible assumption) | (with_reducible apply Ext.grow) | (with_reducible apply Ext.alloc) | (with_reducible apply Ext.drew) | ((with_reducible apply Ext.set); (case hb => (first | omega | (simp; omega)))))) hz; have BO : Blk z w.heap.size #[.bool false, .int .u64 0, .int .u64 0, .int .u64 0, .int .u64 0, .bool false, .int .u64 0, .int .u64 0, .int .u64 0, .int .u64 0] 27 := Blk.ext (by repeat (first | (with_reducible assumption) | ((with_reducible refine Blk.new _ _ _ ?_); (simp; done)) | (with_reducible apply Blk.alloc) | (with_reducible apply Blk.grow) | (with_reducible apply Blk.drew) | (with_reducible apply Blk.set10) | (with_reducible apply Blk.set5) | (with_reducible apply Blk.set4) | (with_reducible apply Blk.tail4) | (with_reducible apply Blk.set2) | (with_reducible apply Blk.set1) | ((with_reducible apply Blk.setOther); (case hne => omega)))) hz)
  go_wp2_with (go_at_call 44; refine (NY _).mono ?_; clear NY; rintro e z2 ⟨r2, rfl, hr2, hz2⟩; replace hxz : Ext w z2 := hxz.trans hz2; replace BO := BO.ext hz2; replace hr := hr.ext hz2)
  go_wp2_with (go_at_call 19; refine (CM _ _ _ hr hr2).mono ?_; clear CM; rintro e z3 ⟨r3, rfl, hr3, hz3⟩; replace hxz : Ext w z3 := hxz.trans hz3; replace BO := BO.ext hz3)
  go_wp2_with (go_at_call 9; refine (CO' _ _ hr3).mono ?_; clear CO'; rintro e z4 ⟨rfl, hz4⟩; replace hxz : Ext w z4 := hxz.trans hz4; replace BO := BO.ext hz4; have BO2 : Blk (z4.alloc (.cells #[.bool s, q64 (wn m 0), q64 (wn m 1), q64 (wn m 2), q64 (wn m 3), .bool false, q64 (wn k 0), q64 (wn k 1), q64 (wn k 2), q64 (wn k 3)] 27)) w.heap.size #[.bool false, .int .u64 0, .int .u64 0, .int .u64 0, .int .u64 0, .bool false, .int .u64 0, .int .u64 0, .int .u64 0, .int .u64 0] 27 := BO.ext (by repeat (first | (with_reducible exact Ext.refl _) | (with_reducible assumption) | (with_reducible apply Ext.grow) | (with_reducible apply Ext.alloc) | (with_reducible apply Ext.drew) | ((with_reducible apply Ext.set); (case hb => (first | omega | (simp; omega)))))); have lBO := BO.lt; have cBO := BO.cell; have fBO := BO.frozen; have lBO2 := BO2.lt; have cBO2 := BO2.cell; have fBO2 := BO2.frozen)
  --s1
  refine bp_rebase fun u hu => ?_
  have hy : Ext w u := by rw [hu]; exact (by repeat (first | (with_reducible exact Ext.refl _) | (with_reducible assumption) | (with_reducible apply Ext.grow) | (with_reducible apply Ext.alloc) | (with_reducible apply Ext.drew) | ((with_reducible apply Ext.set); (case hb => (first | omega | (simp; omega))))))
  have BF : Blk u w.heap.size #[.bool s, q64 (wn m 0), q64 (wn m 1), q64 (wn m 2), q64 (wn m 3), .bool false, q64 (wn k 0), q64 (wn k 1), q64 (wn k 2), q64 (wn k 3)] 27 := by rw [hu]; exact (by repeat (first | (with_reducible assumption) | ((with_reducible refine Blk.new _ _ _ ?_); (simp; done)) | (with_reducible apply Blk.alloc) | (with_reducible apply Blk.grow) | (with_reducible apply Blk.drew) | (with_reducible apply Blk.set10) | (with_reducible apply Blk.set5) | (with_reducible apply Blk.set4) | (with_reducible apply Blk.tail4) | (with_reducible apply Blk.set2) | (with_reducible apply Blk.set1) | ((with_reducible apply Blk.setOther); (case hne => omega))))
  clear hu
  have lBF := BF.lt; have cBF := BF.cell; have fBF := BF.frozen; clear BF
  exact bodyPost_ret (v := ratV s m false k) (by simp [results, Tryz.results55, go_sem, cBF]) rfl ⟨rfl, hy⟩
end Go.Proofs.YtjkchmegnfbfoaaGreatDoor

namespace Go.Proofs.YtjkchmegnfbfoaaGreatDoor
open Go Go.RowKit
set_option linter.unusedSimpArgs false
set_option linter.unusedVariables false
set_option maxRecDepth 100000
set_option exponentiation.threshold 3000

set_option maxHeartbeats 4000000 in
theorem cWhole (x : Int) (b1 : -9223372036854775808 ≤ x) (b2 : x ≤ 9223372036854775807) (w : World) :
    Calls Tryz.prog 54 #[.int .i64 x] w fun e w' => e = .returned (intV (decide (x < 0)) x.natAbs) ∧ Ext w w' := by
  have NX := fun w => bNum x (by omega) (by omega) w
  have CO := fun v1 w h1 => bOut_yes x v1 (Nat.lt_of_lt_of_le (by omega : x.natAbs < 9223372036854775809) (by decide)) w h1
  generalize decide (x < 0) = s at *
  generalize x.natAbs = m at *
  go_enter Tryz.func54, Tryz.ntmps54
  go_wp2_with (go_at_call 44; refine (NX _).mono ?_; clear NX; rintro e z ⟨r, rfl, hr, hz⟩; have hxz : Ext w z := Ext.trans (by repeat (first | (with_reducible exact Ext.refl _) | (with_reducible assumption) | (with_reducible apply Ext.grow) | (with_reducible apply Ext.alloc) | (with_reducible apply Ext.drew) | ((with_reducible apply Ext.set); (case hb => (first | omega | (simp; omega)))))) hz; have BO : Blk z w.heap.size #[.bool false, .int .u64 0, .int .u64 0, .int .u64 0, .int .u64 0] 25 := Blk.ext (by repeat (first | (with_reducible assumption) | ((with_reducible refine Blk.new _ _ _ ?_); (simp; done)) | (with_reducible apply Blk.alloc) | (with_reducible apply Blk.grow) | (with_reducible apply Blk.drew) | (with_reducible apply Blk.set10) | (with_reducible apply Blk.set5) | (with_reducible apply Blk.set4) | (with_reducible apply Blk.tail4) | (with_reducible apply Blk.set2) | (with_reducible apply Blk.set1) | ((with_reducible apply Blk.setOther); (case hne => omega)))) hz)
  go_wp2_with (go_at_call 34; refine (CO _ _ hr).mono ?_; clear CO; rintro e z4 ⟨rfl, hz4⟩; replace hxz : Ext w z4 := hxz.trans hz4; replace BO := BO.ext hz4; have BO2 : Blk (z4.alloc (.cells (ints1 s m) 25)) w.heap.size #[.bool false, .int .u64 0, .int .u64 0, .int .u64 0, .int .u64 0] 25 := BO.ext (by repeat (first | (with_reducible exact Ext.refl _) | (with_reducible assumption) | (with_reducible apply Ext.grow) | (with_reducible apply Ext.alloc) | (with_reducible apply Ext.drew) | ((with_reducible apply Ext.set); (case hb => (first | omega | (simp; omega)))))); have lBO := BO.lt; have cBO := BO.cell; have fBO := BO.frozen; have lBO2 := BO2.lt; have cBO2 := BO2.cell; have fBO2 := BO2.frozen)
  --s1
  refine bp_rebase fun u hu => ?_
  have hy : Ext w u := by rw [hu]; exact (by repeat (first | (with_reducible exact Ext.refl _) | (with_reducible assumption) | (with_reducible apply Ext.grow) | (with_reducible apply Ext.alloc) | (with_reducible apply Ext.drew) | ((with_reducible apply Ext.set); (case hb => (first | omega | (simp; omega))))))
  have BF : Blk u w.heap.size (ints1 s m) 25 := by rw [hu]; exact (by repeat (first | (with_reducible assumption) | ((with_reducible refine Blk.new _ _ _ ?_); (simp; done)) | (with_reducible apply Blk.alloc) | (with_reducible apply Blk.grow) | (with_reducible apply Blk.drew) | (with_reducible apply Blk.set10) | (with_reducible apply Blk.set5) | (with_reducible apply Blk.set4) | (with_reducible apply Blk.tail4) | (with_reducible apply Blk.set2) | (with_reducible apply Blk.set1) | ((with_reducible apply Blk.setOther); (case hne => omega))))
  clear hu
  have lBF := BF.lt; have cBF := BF.cell; have fBF := BF.frozen; clear BF
  exact bodyPost_ret (v := intV s m) (by simp [results, Tryz.results54, go_sem, cBF]) rfl ⟨rfl, hy⟩
theorem divInt_sv (x y : Int) (h0 : y ≠ 0) : mkRat (sv (!(decide (x < 0) == decide (y < 0))) x.natAbs) y.natAbs = Rat.divInt x y := by
  rcases Int.lt_or_gt_of_ne h0 with h | h
  · obtain ⟨d, rfl⟩ : ∃ d : Nat, y = -(d : Int) := ⟨y.natAbs, by omega⟩
    rw [show decide (-(d : Int) < 0) = true by simp; omega, divInt_neg', show (!(decide (x < 0) == true)) = !(decide (x < 0)) by cases decide (x < 0) <;> rfl, sv_not, sv_of, Int.natAbs_neg, Int.natAbs_natCast]
  · obtain ⟨d, rfl⟩ : ∃ d : Nat, y = (d : Int) := ⟨y.toNat, by omega⟩
    rw [show decide ((d : Int) < 0) = false by simp, Rat.divInt_ofNat, show (!(decide (x < 0) == false)) = decide (x < 0) by cases decide (x < 0) <;> rfl, sv_of, Int.natAbs_natCast]
theorem mkRat_fits (z : Int) (d : Nat) (hd : d ≠ 0) (h1 : z.natAbs < B4) (h2 : d < B4) : Fits (mkRat z d) := by
  refine ⟨?_, ?_⟩
  · rw [mk_abs z d hd]; exact Nat.lt_of_le_of_lt (Nat.div_le_self _ _) h1
  · rw [(mk_parts z d hd).2]; exact Nat.lt_of_le_of_lt (Nat.div_le_self _ _) h2
theorem divInt_fits (x y : Int) (h0 : y ≠ 0) (h1 : x.natAbs < B4) (h2 : y.natAbs < B4) : Fits (Rat.divInt x y) := by
  rw [← divInt_sv x y h0]
  exact mkRat_fits _ _ (by omega) (by rw [sv_natAbs]; exact h1) h2
theorem B49 : B4 + B4 ≤ B9 := by decide
/-- Make, of what may be. -/
theorem cMake_yes (x y : Int) (h0 : y ≠ 0) (h1 : x.natAbs < B4) (h2 : y.natAbs < B4) (w : World) (hT : Tab w) :
    Calls Tryz.prog 11 #[intZ x, intZ y] w fun e w' => e = .returned (.tuple #[qV (Rat.divInt x y), .int .i64 0]) ∧ Ext w w' := by
  have hf := divInt_fits x y h0 h1 h2
  refine Make_walk (decide (x < 0)) x.natAbs (decide (y < 0)) y.natAbs h1 h2 w hT (badI_z x) (badI_z y) (by omega) _ _ _ fun w hT => ?_
  rw [← divInt_sv x y h0] at hf ⊢
  exact made_q _ _ _ (by have := B49; omega) (by omega) (by have := B49; omega) hf w hT
theorem cMake_zero (x : Int) (h1 : x.natAbs < B4) (w : World) (hT : Tab w) :
    Calls Tryz.prog 11 #[intZ x, intZ 0] w fun e w' => e = .returned (.tuple #[qZ, .int .i64 2]) ∧ Ext w w' :=
  Make_bad3 (decide (x < 0)) x.natAbs (decide ((0 : Int) < 0)) (0 : Int).natAbs h1 (by decide) w hT (badI_z x) (badI_z 0) rfl
theorem neg_dec (Q : Nat) : decide (-(Q : Int) < 0) = !decide (Q = 0) := by
  by_cases h : Q = 0
  · simp [h]
  · simp [h]; omega
theorem nat_dec (Q : Nat) : decide ((Q : Int) < 0) = false := by simp
theorem sub_cs (Q : Nat) (M : Nat) (h : Q < M) (hM : M < B4) (w : World) : Calls Tryz.prog 71 #[intZ (-(Q : Int)), intZ 1] w fun e w' => e = .returned (.tuple #[intZ (-(Q : Int) - 1), .int .i64 0]) ∧ Ext w w' :=
  Sub_yes (-(Q : Int)) 1 (by omega) (by decide) (by omega) w
/-- The greatest whole number below. -/
def floorQ (x : Rat) : Int := x.num / (x.den : Int)
theorem cFloor (x : Rat) (fx : Fits x) (w : World) :
    Calls Tryz.prog 32 #[qV x] w fun e w' => e = .returned (.tuple #[intZ (floorQ x), .int .i64 0]) ∧ Ext w w' := by
  have dp := den_pos x
  have HQ := fun w => Quo_yes (decide (x.num < 0)) x.num.natAbs false x.den fx.1 fx.2 (badI_z _) rfl (by omega) w
  have hm := Nat.div_add_mod x.num.natAbs x.den
  have hl := Nat.mod_lt x.num.natAbs dp
  have hq := Nat.div_le_self x.num.natAbs x.den
  have hf1 := fx.1
  by_cases hn : x.num < 0
  · have e1 : decide (x.num < 0) = true := by simp [hn]
    by_cases h0 : x.num.natAbs % x.den = 0
    · have hs : decide (sgn (decide (x.num < 0) && !decide (x.num.natAbs % x.den = 0)) (x.num.natAbs % x.den) < 0) = false := by rw [h0]; simp [sgn]
      have := Floor_ge (rt x fx) (rt_ok x fx) _ _ _ _ (by rw [h0]; decide) hs HQ w
      have e2 : floorQ x = -((x.num.natAbs / x.den : Nat) : Int) := by
        unfold floorQ
        have : x.num = (x.den : Int) * (-((x.num.natAbs / x.den : Nat) : Int)) := by
          rw [Int.mul_neg, ← Int.natCast_mul]; omega
        conv => lhs; rw [this]
        rw [Int.mul_ediv_cancel_left _ (by omega)]
      have e3 : decide (-((x.num.natAbs / x.den : Nat) : Int) < 0) = ((decide (x.num < 0) != false) && !decide (x.num.natAbs / x.den = 0)) := by
        rw [e1, neg_dec]; rfl
      rw [e2]; show Calls _ _ _ w fun e w' => e = .returned (.tuple #[intV (decide (-((x.num.natAbs / x.den : Nat) : Int) < 0)) (-((x.num.natAbs / x.den : Nat) : Int)).natAbs, .int .i64 0]) ∧ Ext w w'
      rw [e3, Int.natAbs_neg, Int.natAbs_natCast]
      exact this
    · have hs : decide (sgn (decide (x.num < 0) && !decide (x.num.natAbs % x.den = 0)) (x.num.natAbs % x.den) < 0) = true := by rw [e1]; simp [sgn, h0]
      have hk1 : x.den ≠ 1 := fun h => h0 (by rw [h, Nat.mod_one])
      have hlt : x.num.natAbs / x.den < x.num.natAbs := Nat.div_lt_self (by omega) (by omega)
      have e2 : floorQ x = -((x.num.natAbs / x.den : Nat) : Int) - 1 := by
        unfold floorQ
        have : x.num = ((x.den - x.num.natAbs % x.den : Nat) : Int) + (x.den : Int) * (-((x.num.natAbs / x.den : Nat) : Int) - 1) := by
          rw [Int.mul_sub, Int.mul_neg, ← Int.natCast_mul]; omega
        conv => lhs; rw [this]
        rw [Int.add_mul_ediv_left _ _ (by omega), Int.ediv_eq_zero_of_lt (by omega) (by omega)]; omega
      have e3 : ((decide (x.num < 0) != false) && !decide (x.num.natAbs / x.den = 0)) = decide (-((x.num.natAbs / x.den : Nat) : Int) < 0) := by
        rw [e1, neg_dec]; rfl
      have cs := fun w => sub_cs (x.num.natAbs / x.den) _ hlt hf1 w
      rw [e2]
      refine Floor_lt (rt x fx) (rt_ok x fx) _ _ _ _ (Nat.lt_of_lt_of_le hl (Nat.le_of_lt fx.2)) hs _ _ HQ (fun w => ?_) w
      rw [e3]
      have := cs w
      rwa [show intZ (-((x.num.natAbs / x.den : Nat) : Int)) = intV (decide (-((x.num.natAbs / x.den : Nat) : Int) < 0)) (x.num.natAbs / x.den) by show intV _ (Int.natAbs _) = _; rw [Int.natAbs_neg, Int.natAbs_natCast]] at this
  · have e1 : decide (x.num < 0) = false := by simp [hn]
    have hs : decide (sgn (decide (x.num < 0) && !decide (x.num.natAbs % x.den = 0)) (x.num.natAbs % x.den) < 0) = false := by rw [e1]; unfold sgn; by_cases hz : x.num.natAbs % x.den = 0 <;> simp [hz]
    have := Floor_ge (rt x fx) (rt_ok x fx) _ _ _ _ (Nat.lt_of_lt_of_le hl (Nat.le_of_lt fx.2)) hs HQ w
    have e2 : floorQ x = ((x.num.natAbs / x.den : Nat) : Int) := by
      unfold floorQ; rw [Int.natCast_ediv]; congr 1; omega
    rw [e2]; show Calls _ _ _ w fun e w' => e = .returned (.tuple #[intV (decide (((x.num.natAbs / x.den : Nat) : Int) < 0)) (((x.num.natAbs / x.den : Nat) : Int)).natAbs, .int .i64 0]) ∧ Ext w w'
    rw [show decide (((x.num.natAbs / x.den : Nat) : Int) < 0) = ((decide (x.num < 0) != false) && !decide (x.num.natAbs / x.den = 0)) by rw [e1, nat_dec]; rfl, Int.natAbs_natCast]
    exact this
end Go.Proofs.YtjkchmegnfbfoaaGreatDoor

namespace Go.Proofs.YtjkchmegnfbfoaaGreatDoor
open Go Go.RowKit
set_option linter.unusedSimpArgs false
set_option linter.unusedVariables false
set_option maxRecDepth 100000

theorem num_law (z : Int) (w : World) : Calls Tryz.prog 12 #[.int .i64 z] w fun e w' => e = .returned (.int .i64 z) ∧ w' = w := by
  go_enter Tryz.func12, Tryz.ntmps12
  go_wp2
  go_ret
  exact ⟨rfl, rfl⟩
theorem Ext.of_eq {w w' : World} (h : w' = w) : Ext w w' := h ▸ Ext.refl w
/-- A call that answers v. -/
abbrev Ans (f : Nat) (args : Array Value) (v : Value) : Prop := ∀ w, Calls Tryz.prog f args w fun e w' => e = .returned v ∧ Ext w w'
abbrev AnsT (f : Nat) (args : Array Value) (v : Value) : Prop := ∀ w, Tab w → Calls Tryz.prog f args w fun e w' => e = .returned v ∧ Ext w w'
abbrev EqT (T : TypeId) (x y : Value) : Prop := ∀ w, (Op.equalIn 10000 T x y).run Tryz.prog w = .ok true w
set_option maxHeartbeats 16000000 in
theorem works_walk (W10 Wm4 W3 W0 Q16 Q110 : Value) (fs : Bool) (fm fk : Nat) (gs : Bool) (gm gk : Nat) (hs : Bool) (hm hk : Nat) (ws : Bool) (wm : Nat) (sa : Bool) (am ak : Nat) (zs : Bool) (zm zk : Nat) (bs : Bool) (bm bk : Nat) (cs : Bool) (cm : Nat) (ps : Bool) (pm pk : Nat) (ds : Bool) (dm dk : Nat)
    (c10 : Ans 54 #[.int .i64 10] W10) (cm4 : Ans 54 #[.int .i64 (-4)] Wm4) (c3 : Ans 54 #[.int .i64 3] W3) (c0 : Ans 54 #[.int .i64 0] W0) (cm3 : Ans 54 #[.int .i64 (-3)] (intV ws wm))
    (cM1 : AnsT 11 #[W10, Wm4] (.tuple #[ratV sa am false ak, .int .i64 0])) (cM2 : AnsT 11 #[W3, W0] (.tuple #[ratV zs zm false zk, .int .i64 2]))
    (c16 : Ans 55 #[.int .i64 1, .int .i64 6] Q16) (c110 : Ans 55 #[.int .i64 1, .int .i64 10] Q110) (cA : AnsT 21 #[Q16, Q110] (.tuple #[ratV bs bm false bk, .int .i64 0]))
    (c73 : Ans 55 #[.int .i64 (-7), .int .i64 3] (ratV fs fm false fk)) (cF : Ans 32 #[(ratV fs fm false fk)] (.tuple #[intV cs cm, .int .i64 0]))
    (cP1 : Ans 40 #[.string ⟨#[52, 47, 54]⟩] (.tuple #[ratV ps pm false pk, .int .i64 120])) (cP2 : Ans 40 #[.string ⟨#[45, 55, 47, 51]⟩] (.tuple #[ratV ds dm false dk, .int .i64 0]))
    (c52 : Ans 55 #[.int .i64 (-5), .int .i64 2] (ratV gs gm false gk)) (c415 : Ans 55 #[.int .i64 4, .int .i64 15] (ratV hs hm false hk))
    (e1 : EqT 27 (ratV sa am false ak) (ratV gs gm false gk)) (e2 : EqT 27 (ratV bs bm false bk) (ratV hs hm false hk)) (e3 : EqT 25 (intV cs cm) (intV ws wm)) (e4 : EqT 27 (ratV ds dm false dk) (ratV fs fm false fk))
    (w : World) (hT : Tab w) :
    Calls Tryz.prog 17 #[] w fun e w' => e = .returned (.bool true) ∧ Ext w w' := by
  have hx : Ext w w := Ext.refl w
  go_enter Tryz.func17, Tryz.ntmps17
  go_wp2_with (go_at_call 54; (with_reducible refine (c10 _).mono ?_); rintro e z1 ⟨rfl, hz_⟩; have hzz_ : Ext w z1 := Ext.trans (by repeat (first | (with_reducible exact Ext.refl _) | (with_reducible assumption) | (with_reducible apply Ext.grow) | (with_reducible apply Ext.alloc) | (with_reducible apply Ext.drew) | ((with_reducible apply Ext.set); (case hb => (first | omega | (simp; omega)))))) hz_; replace hx := hx.trans hzz_; clear hz_ hzz_)
  go_wp2_with (go_at_call 54; (with_reducible refine (cm4 _).mono ?_); rintro e z2 ⟨rfl, hz_⟩; have hzz_ : Ext z1 z2 := Ext.trans (by repeat (first | (with_reducible exact Ext.refl _) | (with_reducible assumption) | (with_reducible apply Ext.grow) | (with_reducible apply Ext.alloc) | (with_reducible apply Ext.drew) | ((with_reducible apply Ext.set); (case hb => (first | omega | (simp; omega)))))) hz_; replace hx := hx.trans hzz_; clear hz_ hzz_)
  go_wp2_with (go_at_call 11; (with_reducible refine (cM1 _ (hT.ext (hx.trans (by repeat (first | (with_reducible exact Ext.refl _) | (with_reducible assumption) | (with_reducible apply Ext.grow) | (with_reducible apply Ext.alloc) | (with_reducible apply Ext.drew) | ((with_reducible apply Ext.set); (case hb => (first | omega | (simp; omega))))))))).mono ?_); rintro e z3 ⟨rfl, hz_⟩; have hzz_ : Ext z2 z3 := Ext.trans (by repeat (first | (with_reducible exact Ext.refl _) | (with_reducible assumption) | (with_reducible apply Ext.grow) | (with_reducible apply Ext.alloc) | (with_reducible apply Ext.drew) | ((with_reducible apply Ext.set); (case hb => (first | omega | (simp; omega)))))) hz_; replace hx := hx.trans hzz_; clear hz_ hzz_)
  go_wp2_with (go_at_call 54; (with_reducible refine (c3 _).mono ?_); rintro e z4 ⟨rfl, hz_⟩; have hzz_ : Ext z3 z4 := Ext.trans (by repeat (first | (with_reducible exact Ext.refl _) | (with_reducible assumption) | (with_reducible apply Ext.grow) | (with_reducible apply Ext.alloc) | (with_reducible apply Ext.drew) | ((with_reducible apply Ext.set); (case hb => (first | omega | (simp; omega)))))) hz_; have B1 : Blk z4 z3.heap.size (ratsV sa am false ak) 27 := Blk.ext (by repeat (first | (with_reducible assumption) | ((with_reducible refine Blk.new _ _ _ ?_); (simp; done)) | (with_reducible apply Blk.alloc) | (with_reducible apply Blk.grow) | (with_reducible apply Blk.drew) | (with_reducible apply Blk.set10) | (with_reducible apply Blk.set5) | (with_reducible apply Blk.set4) | (with_reducible apply Blk.tail4) | (with_reducible apply Blk.set2) | (with_reducible apply Blk.set1) | ((with_reducible apply Blk.setOther); (case hne => omega)))) hz_; replace hx := hx.trans hzz_; clear hz_ hzz_; have lB1 := B1.lt; have cB1 := B1.cell; have fB1 := B1.frozen)
  go_wp2_with (go_at_call 54; (with_reducible refine (c0 _).mono ?_); rintro e z5 ⟨rfl, hz_⟩; have hzz_ : Ext z4 z5 := Ext.trans (by repeat (first | (with_reducible exact Ext.refl _) | (with_reducible assumption) | (with_reducible apply Ext.grow) | (with_reducible apply Ext.alloc) | (with_reducible apply Ext.drew) | ((with_reducible apply Ext.set); (case hb => (first | omega | (simp; omega)))))) hz_; replace B1 := B1.ext hzz_; clear lB1 cB1 fB1; replace hx := hx.trans hzz_; clear hz_ hzz_; have lB1 := B1.lt; have cB1 := B1.cell; have fB1 := B1.frozen)
  go_wp2_with (go_at_call 11; (with_reducible refine (cM2 _ (hT.ext (hx.trans (by repeat (first | (with_reducible exact Ext.refl _) | (with_reducible assumption) | (with_reducible apply Ext.grow) | (with_reducible apply Ext.alloc) | (with_reducible apply Ext.drew) | ((with_reducible apply Ext.set); (case hb => (first | omega | (simp; omega))))))))).mono ?_); rintro e z6 ⟨rfl, hz_⟩; have hzz_ : Ext z5 z6 := Ext.trans (by repeat (first | (with_reducible exact Ext.refl _) | (with_reducible assumption) | (with_reducible apply Ext.grow) | (with_reducible apply Ext.alloc) | (with_reducible apply Ext.drew) | ((with_reducible apply Ext.set); (case hb => (first | omega | (simp; omega)))))) hz_; replace B1 := B1.ext hzz_; clear lB1 cB1 fB1; replace hx := hx.trans hzz_; clear hz_ hzz_; have lB1 := B1.lt; have cB1 := B1.cell; have fB1 := B1.frozen)
  go_wp2_with (go_at_call 55; (with_reducible refine (c16 _).mono ?_); rintro e z7 ⟨rfl, hz_⟩; have hzz_ : Ext z6 z7 := Ext.trans (by repeat (first | (with_reducible exact Ext.refl _) | (with_reducible assumption) | (with_reducible apply Ext.grow) | (with_reducible apply Ext.alloc) | (with_reducible apply Ext.drew) | ((with_reducible apply Ext.set); (case hb => (first | omega | (simp; omega)))))) hz_; replace B1 := B1.ext hzz_; clear lB1 cB1 fB1; replace hx := hx.trans hzz_; clear hz_ hzz_; have lB1 := B1.lt; have cB1 := B1.cell; have fB1 := B1.frozen)
  go_wp2_with (go_at_call 55; (with_reducible refine (c110 _).mono ?_); rintro e z8 ⟨rfl, hz_⟩; have hzz_ : Ext z7 z8 := Ext.trans (by repeat (first | (with_reducible exact Ext.refl _) | (with_reducible assumption) | (with_reducible apply Ext.grow) | (with_reducible apply Ext.alloc) | (with_reducible apply Ext.drew) | ((with_reducible apply Ext.set); (case hb => (first | omega | (simp; omega)))))) hz_; replace B1 := B1.ext hzz_; clear lB1 cB1 fB1; replace hx := hx.trans hzz_; clear hz_ hzz_; have lB1 := B1.lt; have cB1 := B1.cell; have fB1 := B1.frozen)
  go_wp2_with (go_at_call 21; (with_reducible refine (cA _ (hT.ext (hx.trans (by repeat (first | (with_reducible exact Ext.refl _) | (with_reducible assumption) | (with_reducible apply Ext.grow) | (with_reducible apply Ext.alloc) | (with_reducible apply Ext.drew) | ((with_reducible apply Ext.set); (case hb => (first | omega | (simp; omega))))))))).mono ?_); rintro e z9 ⟨rfl, hz_⟩; have hzz_ : Ext z8 z9 := Ext.trans (by repeat (first | (with_reducible exact Ext.refl _) | (with_reducible assumption) | (with_reducible apply Ext.grow) | (with_reducible apply Ext.alloc) | (with_reducible apply Ext.drew) | ((with_reducible apply Ext.set); (case hb => (first | omega | (simp; omega)))))) hz_; replace B1 := B1.ext hzz_; clear lB1 cB1 fB1; replace hx := hx.trans hzz_; clear hz_ hzz_; have lB1 := B1.lt; have cB1 := B1.cell; have fB1 := B1.frozen)
  go_wp2_with (go_at_call 55; (with_reducible refine (c73 _).mono ?_); rintro e z10 ⟨rfl, hz_⟩; have hzz_ : Ext z9 z10 := Ext.trans (by repeat (first | (with_reducible exact Ext.refl _) | (with_reducible assumption) | (with_reducible apply Ext.grow) | (with_reducible apply Ext.alloc) | (with_reducible apply Ext.drew) | ((with_reducible apply Ext.set); (case hb => (first | omega | (simp; omega)))))) hz_; have B2 : Blk z10 z9.heap.size (ratsV bs bm false bk) 27 := Blk.ext (by repeat (first | (with_reducible assumption) | ((with_reducible refine Blk.new _ _ _ ?_); (simp; done)) | (with_reducible apply Blk.alloc) | (with_reducible apply Blk.grow) | (with_reducible apply Blk.drew) | (with_reducible apply Blk.set10) | (with_reducible apply Blk.set5) | (with_reducible apply Blk.set4) | (with_reducible apply Blk.tail4) | (with_reducible apply Blk.set2) | (with_reducible apply Blk.set1) | ((with_reducible apply Blk.setOther); (case hne => omega)))) hz_; replace B1 := B1.ext hzz_; clear lB1 cB1 fB1; replace hx := hx.trans hzz_; clear hz_ hzz_; have lB1 := B1.lt; have cB1 := B1.cell; have fB1 := B1.frozen; have lB2 := B2.lt; have cB2 := B2.cell; have fB2 := B2.frozen)
  go_wp2_with (go_at_call 32; (with_reducible refine (cF _).mono ?_); rintro e z11 ⟨rfl, hz_⟩; have hzz_ : Ext z10 z11 := Ext.trans (by repeat (first | (with_reducible exact Ext.refl _) | (with_reducible assumption) | (with_reducible apply Ext.grow) | (with_reducible apply Ext.alloc) | (with_reducible apply Ext.drew) | ((with_reducible apply Ext.set); (case hb => (first | omega | (simp; omega)))))) hz_; replace B1 := B1.ext hzz_; clear lB1 cB1 fB1; replace B2 := B2.ext hzz_; clear lB2 cB2 fB2; replace hx := hx.trans hzz_; clear hz_ hzz_; have lB1 := B1.lt; have cB1 := B1.cell; have fB1 := B1.frozen; have lB2 := B2.lt; have cB2 := B2.cell; have fB2 := B2.frozen)
  go_wp2_with (go_at_call 40; (with_reducible refine (cP1 _).mono ?_); rintro e z12 ⟨rfl, hz_⟩; have hzz_ : Ext z11 z12 := Ext.trans (by repeat (first | (with_reducible exact Ext.refl _) | (with_reducible assumption) | (with_reducible apply Ext.grow) | (with_reducible apply Ext.alloc) | (with_reducible apply Ext.drew) | ((with_reducible apply Ext.set); (case hb => (first | omega | (simp; omega)))))) hz_; have B3 : Blk z12 z11.heap.size (ints1 cs cm) 25 := Blk.ext (by repeat (first | (with_reducible assumption) | ((with_reducible refine Blk.new _ _ _ ?_); (simp; done)) | (with_reducible apply Blk.alloc) | (with_reducible apply Blk.grow) | (with_reducible apply Blk.drew) | (with_reducible apply Blk.set10) | (with_reducible apply Blk.set5) | (with_reducible apply Blk.set4) | (with_reducible apply Blk.tail4) | (with_reducible apply Blk.set2) | (with_reducible apply Blk.set1) | ((with_reducible apply Blk.setOther); (case hne => omega)))) hz_; replace B1 := B1.ext hzz_; clear lB1 cB1 fB1; replace B2 := B2.ext hzz_; clear lB2 cB2 fB2; replace hx := hx.trans hzz_; clear hz_ hzz_; have lB1 := B1.lt; have cB1 := B1.cell; have fB1 := B1.frozen; have lB2 := B2.lt; have cB2 := B2.cell; have fB2 := B2.frozen; have lB3 := B3.lt; have cB3 := B3.cell; have fB3 := B3.frozen)
  go_wp2_with (go_at_call 40; (with_reducible refine (cP2 _).mono ?_); rintro e z13 ⟨rfl, hz_⟩; have hzz_ : Ext z12 z13 := Ext.trans (by repeat (first | (with_reducible exact Ext.refl _) | (with_reducible assumption) | (with_reducible apply Ext.grow) | (with_reducible apply Ext.alloc) | (with_reducible apply Ext.drew) | ((with_reducible apply Ext.set); (case hb => (first | omega | (simp; omega)))))) hz_; replace B1 := B1.ext hzz_; clear lB1 cB1 fB1; replace B2 := B2.ext hzz_; clear lB2 cB2 fB2; replace B3 := B3.ext hzz_; clear lB3 cB3 fB3; replace hx := hx.trans hzz_; clear hz_ hzz_; have lB1 := B1.lt; have cB1 := B1.cell; have fB1 := B1.frozen; have lB2 := B2.lt; have cB2 := B2.cell; have fB2 := B2.frozen; have lB3 := B3.lt; have cB3 := B3.cell; have fB3 := B3.frozen)
  --s1
  go_wp2
  --s2
  refine wp_rebase fun v hv => ?_
  have hz_ : Ext z13 v := by rw [hv]; exact (by repeat (first | (with_reducible exact Ext.refl _) | (with_reducible assumption) | (with_reducible apply Ext.grow) | (with_reducible apply Ext.alloc) | (with_reducible apply Ext.drew) | ((with_reducible apply Ext.set); (case hb => (first | omega | (simp; omega))))))
  have B4 : Blk v z13.heap.size (ratsV ds dm false dk) 27 := by rw [hv]; exact (by repeat (first | (with_reducible assumption) | ((with_reducible refine Blk.new _ _ _ ?_); (simp; done)) | (with_reducible apply Blk.alloc) | (with_reducible apply Blk.grow) | (with_reducible apply Blk.drew) | (with_reducible apply Blk.set10) | (with_reducible apply Blk.set5) | (with_reducible apply Blk.set4) | (with_reducible apply Blk.tail4) | (with_reducible apply Blk.set2) | (with_reducible apply Blk.set1) | ((with_reducible apply Blk.setOther); (case hne => omega))))
  replace B1 := B1.ext hz_
  replace B2 := B2.ext hz_
  replace B3 := B3.ext hz_
  replace hx := hx.trans hz_
  clear hz_ hv
  have lB1 := B1.lt; have cB1 := B1.cell; have fB1 := B1.frozen; have lB2 := B2.lt; have cB2 := B2.cell; have fB2 := B2.frozen; have lB3 := B3.lt; have cB3 := B3.cell; have fB3 := B3.frozen; have lB4 := B4.lt; have cB4 := B4.cell; have fB4 := B4.frozen; clear B1 B2 B3 B4
  --s3
  (first | refine wp_region_k' [.r, .r, .p, .p, .r, .r, .p, .p, .p, .r, .r, .p, .p, .p, .r, .r, .p, .p, .p, .p, .r, .p, .r, .p, .p, .r, .p, .p, .r, .p, .p, .p, .p, .p, .r, .p, .p, .p, .p, .r, .p, .p, .p] (by kernel_rfl) (by kernel_rfl) ?_ | refine wp_region_k [.r, .r, .p, .p, .r, .r, .p, .p, .p, .r, .r, .p, .p, .p, .r, .r, .p, .p, .p, .p, .r, .p, .r, .p, .p, .r, .p, .p, .r, .p, .p, .p, .p, .p, .r, .p, .p, .p, .p, .r, .p, .p, .p] (by kernel_rfl) (by kernel_rfl) ?_); (repeat (first | (refine wpK_p rfl (fun K hK => ?_); go_simp; refine hK _ _ ?_; clear hK K) | (refine wpK_r rfl (fun K hK => ?_); go_simp; refine hK _ _ ?_; clear hK K) | (refine wpK_w rfl (fun K hK => ?_); go_simp; refine hK _ _ ?_; clear hK K) | (refine wpK_r rfl (fun K hK => ?_); go_simp; apply Exists.intro; refine ⟨fun d => ?_, hK _ _ ?_⟩; (first | (with_reducible exact Calls.calm (c52 _)) | (with_reducible exact Calls.calm (c415 _)) | (with_reducible exact Calls.calm (cm3 _)) | (with_reducible exact Calls.calm (c73 _)) | (with_reducible exact Calls.calm ((num_law _ _).mono fun e w' h => ⟨h.1, h.2 ▸ Ext.refl _⟩))); clear hK K) | (refine wpK_skip ?_ ?_; (· (simp [go_sem, Region.wanted, yielded]; done))) | (refine wpK_want ?_ ?_; (· (simp [go_sem, Region.wanted, yielded]; done))))); refine wpK_nil ?_; intro d
  --s4
  go_wp2
  exact bodyPost_ret (v := .bool true) (by simp [results, Tryz.results17, go_sem]) rfl ⟨rfl, (by repeat (first | (with_reducible exact Ext.refl _) | (with_reducible assumption) | (with_reducible apply Ext.grow) | (with_reducible apply Ext.alloc) | (with_reducible apply Ext.drew) | ((with_reducible apply Ext.set); (case hb => (first | omega | (simp; omega))))))⟩
end Go.Proofs.YtjkchmegnfbfoaaGreatDoor

namespace Go.Proofs.YtjkchmegnfbfoaaGreatDoor
open Go Go.RowKit
set_option linter.unusedSimpArgs false
set_option linter.unusedVariables false
set_option maxRecDepth 100000

theorem index_mg (m i : Nat) (hi : i < 4) (w : World) : (Instr.index 109 (magV m) (.int .i64 (i : Int))).run Tryz.prog w = .ok (q64 (wn m i)) w := by
  rcases (by omega : i = 0 ∨ i = 1 ∨ i = 2 ∨ i = 3) with rfl | rfl | rfl | rfl <;> kernel_rfl
def Holds8 (A : Array Value) (f : Nat → Nat) : Prop := A.size = 8 ∧ ∀ j, j < 8 → A[j]? = some (q64 (f j))
theorem Holds8.set {A : Array Value} {f g : Nat → Nat} (h : Holds8 A f) (i x : Nat) (hi : i < 8) (hx : g i = x) (hg : ∀ j, j < 8 → j ≠ i → g j = f j) : Holds8 (A.setIfInBounds i (q64 x)) g := by
  obtain ⟨h1, h2⟩ := h
  refine ⟨by simp [h1], fun j hj => ?_⟩
  by_cases e : i = j
  · subst e; simp [h1, hi, hx]
  · rw [Array.getElem?_setIfInBounds_ne e, h2 j hj, hg j hj (by omega)]
theorem Holds8.lit {A : Array Value} {f : Nat → Nat} (h : Holds8 A f) : A = #[q64 (f 0), q64 (f 1), q64 (f 2), q64 (f 3), q64 (f 4), q64 (f 5), q64 (f 6), q64 (f 7)] := by
  obtain ⟨h1, h2⟩ := h
  apply Array.ext_getElem?
  intro j
  by_cases hj : j < 8
  · rw [h2 j hj]
    rcases (by omega : j = 0 ∨ j = 1 ∨ j = 2 ∨ j = 3 ∨ j = 4 ∨ j = 5 ∨ j = 6 ∨ j = 7) with rfl | rfl | rfl | rfl | rfl | rfl | rfl | rfl <;> rfl
  · rw [Array.getElem?_eq_none (by omega), Array.getElem?_eq_none (by simp; omega)]

set_option maxHeartbeats 4000000 in
theorem times_yes (m n : Nat) (hm : m < B4) (hn : n < B4) (hmn : m * n < B4) (w : World) :
    Calls Tryz.prog 114 #[magV m, magV n] w fun e w' => e = .returned (magV (m * n)) ∧ Ext w w' := by
  have hn4 : n < B ^ 4 := hn
  have hm4 : m < B ^ 4 := hm
  go_enter Tryz.func114, Tryz.ntmps114
  go_wp2
  go_loopw [16] (fun q wr => ∃ (i : Nat) (A : Array Value), i ≤ 4 ∧ q = .int .i64 i ∧ Holds8 A (wn (xk m n i)) ∧
      wr = (((w.alloc (.cells #[q64 (wn m 0), q64 (wn m 1), q64 (wn m 2), q64 (wn m 3)] 109)).alloc (.cells #[q64 (wn n 0), q64 (wn n 1), q64 (wn n 2), q64 (wn n 3)] 109)).alloc (.cells #[.int .u64 0, .int .u64 0, .int .u64 0, .int .u64 0] 109)).alloc (.cells A 155))
    (fun q _ => 4 - (intOf q).toNat)
  case atStart =>
    refine ⟨0, #[.int .u64 0, .int .u64 0, .int .u64 0, .int .u64 0, .int .u64 0, .int .u64 0, .int .u64 0, .int .u64 0], by omega, rfl, ⟨rfl, fun j hj => ?_⟩, rfl⟩
    rw [xk_zero, wn_zero]
    rcases (by omega : j = 0 ∨ j = 1 ∨ j = 2 ∨ j = 3 ∨ j = 4 ∨ j = 5 ∨ j = 6 ∨ j = 7) with rfl | rfl | rfl | rfl | rfl | rfl | rfl | rfl <;> rfl
  case round =>
    obtain ⟨i, A, hi, rfl, hA, rfl⟩ := hrel
    by_cases hlt : i < 4
    · have hix := index_mg m i hlt
      have hdi : decide ((i : Int) < 4) = true := by simp; omega
      go_wp2
      go_loopw [8, 21] (fun c q wr => ∃ (k : Nat) (A : Array Value), k ≤ 4 ∧ c = q64 (ck m n i k) ∧ q = .int .i64 k ∧ Holds8 A (pw m n i k) ∧
          wr = (((w.alloc (.cells #[q64 (wn m 0), q64 (wn m 1), q64 (wn m 2), q64 (wn m 3)] 109)).alloc (.cells #[q64 (wn n 0), q64 (wn n 1), q64 (wn n 2), q64 (wn n 3)] 109)).alloc (.cells #[.int .u64 0, .int .u64 0, .int .u64 0, .int .u64 0] 109)).alloc (.cells A 155))
        (fun _ q _ => 4 - (intOf q).toNat)
      case atStart =>
        refine ⟨0, A, by omega, by rw [ck_zero]; rfl, rfl, ⟨hA.1, fun j hj => ?_⟩, rfl⟩
        rw [hA.2 j hj]; unfold pw; rw [if_neg (by omega)]
      case round =>
        obtain ⟨k, A', hk, rfl, rfl, hA', rfl⟩ := hrel
        by_cases hlt' : k < 4
        · have hiy := index_mg n k hlt'
          have hmul := mul64_any (wn m i) (wn n k) (wn_lt _ _) (wn_lt _ _)
          have hold : A'[i + k]? = some (q64 (wn (xk m n i) (i + k))) := by
            rw [hA'.2 (i + k) (by omega)]; unfold pw; rw [if_neg (by omega)]
          have ha1 := run_add0 (wn m i * wn n k % B) (wn (xk m n i) (i + k))
          have ha2 := run_add0 ((wn m i * wn n k % B + wn (xk m n i) (i + k)) % B) (ck m n i k)
          obtain ⟨hs1, hs2⟩ := step_sums (wn m i) (wn n k) (wn (xk m n i) (i + k)) (ck m n i k) (wn_lt _ _) (ck_lt _ _ _ _) (wn_lt _ _) (wn_lt _ _)
          rw [step_word' m n i k 4 hlt' hn4] at hs1
          rw [step_carry] at hs2
          rw [hs1] at ha2
          have hcl := ck_lt m n i (k + 1)
          generalize hlo : wn m i * wn n k % B = lo at *
          generalize hhi : wn m i * wn n k / B = hi' at *
          generalize (lo + wn (xk m n i) (i + k)) % B = s1 at *
          generalize (lo + wn (xk m n i) (i + k)) / B = c1 at *
          generalize (s1 + ck m n i k) / B = c2 at *
          have hw : IntKind.u64.wrap (IntKind.u64.wrap ((hi' : Int) + (c1 : Int)) + (c2 : Int)) = ((ck m n i (k + 1) : Nat) : Int) := by
            rw [IntKind.wrap_u64, IntKind.wrap_u64]; rw [B_eq] at hcl; omega
          clear hlo hhi hs1 hs2 hcl
          go_wp2_with (go_at_call 88; refine (hmul _).mono ?_; rintro e w' ⟨rfl, rfl⟩)
          go_roundw
          case rel =>
            refine ⟨k + 1, A'.setIfInBounds (i + k) (q64 (wn (xk m n (i + 1)) (i + k))), by omega, rfl, by go_num, hA'.set (i + k) _ (by omega) ?_ (fun j hj hne => ?_), rfl⟩
            · unfold pw; rw [if_pos (by omega)]
            · unfold pw
              by_cases h : i ≤ j ∧ j < i + k
              · rw [if_pos h, if_pos (by omega)]
              · rw [if_neg h, if_neg (by omega)]
          case measure => simp [intOf]; omega
        · obtain rfl : k = 4 := by omega
          have hold : A'[i + 4]? = some (q64 (wn (xk m n i) (i + 4))) := by
            rw [hA'.2 (i + 4) (by omega)]; unfold pw; rw [if_neg (by omega)]
          have hw : ck m n i 4 = wn (xk m n (i + 1)) (i + 4) := by
            rw [← last_carry m n i 4 hn4, xk_high m n i (i + 4) 4 hn4 (by omega), Nat.zero_add]
          rw [hw]
          clear hw
          go_wp2
          go_roundw
          case rel =>
            refine ⟨i + 1, A'.setIfInBounds (i + 4) (q64 (wn (xk m n (i + 1)) (i + 4))), by omega, by go_num, hA'.set (i + 4) _ (by omega) rfl (fun j hj hne => ?_), rfl⟩
            unfold pw
            by_cases h : i ≤ j ∧ j < i + 4
            · rw [if_pos h]
            · rw [if_neg h]
              by_cases h2 : j < i
              · exact xk_low m n i j h2
              · rw [xk_high m n i j 4 hn4 (by omega), xk_high m n (i + 1) j 4 hn4 (by omega)]
          case measure => simp [intOf]; omega
    · have e := hA.lit
      have hk4 : i = 4 := by omega
      rw [hk4, xk_top m n 4 hm4] at e
      have hh : ∀ j, 4 ≤ j → wn (m * n) j = 0 := fun j hj => wn_high _ _ (Nat.lt_of_lt_of_le hmn (Nat.pow_le_pow_right B_pos hj))
      rw [hh 4 (by omega), hh 5 (by omega), hh 6 (by omega), hh 7 (by omega)] at e
      clear hA hh hmn hm hn hn4 hm4
      subst e
      have at1 : ∀ w a cap, (Instr.arrayAt 23 (.slice a 4 cap)).run Tryz.prog w = .ok (.pointer a) w := fun w a cap => run_arrayAt w 23 _ 4 a 4 cap Tryz.underlying23 (by omega)
      have at2 : ∀ w a cap, (Instr.arrayAt 109 (.slice a 4 cap)).run Tryz.prog w = .ok (.pointer a) w := fun w a cap => run_arrayAt w 109 _ 4 a 4 cap Tryz.underlying109 (by omega)
      have hz : ∀ w, (Op.equalIn 10000 23 (.agg #[q64 0, q64 0, q64 0, q64 0]) (.agg #[.int .u64 0, .int .u64 0, .int .u64 0, .int .u64 0])).run Tryz.prog w = .ok true w := fun w => by
        have := run_eq_mag_at 23 Tryz.underlying23 9998 0 0 (by decide) (by decide) w
        simp only [magV, wn_zero] at this
        exact this
      --s1
      go_wp2_with (go_at_call 98; refine (must_yes _ _).mono ?_; rintro e w' ⟨rfl, rfl⟩)
      --s2
      exact bodyPost_ret (v := magV (m * n)) (by simp [results, Tryz.results114, go_sem]) rfl ⟨rfl, (by repeat (first | (with_reducible exact Ext.refl _) | (with_reducible assumption) | (with_reducible apply Ext.grow) | (with_reducible apply Ext.alloc) | (with_reducible apply Ext.drew) | ((with_reducible apply Ext.set); (case hb => (first | omega | (simp; omega))))))⟩
end Go.Proofs.YtjkchmegnfbfoaaGreatDoor

namespace Go.Proofs.YtjkchmegnfbfoaaGreatDoor
open Go Go.RowKit
set_option linter.unusedSimpArgs false
set_option linter.unusedVariables false
set_option maxRecDepth 100000

/-- Decimal digits lie in a row of bytes. -/
structure DecAt (W : World) (b o : Nat) (ds : List Nat) : Prop where
  lt : b < W.heap.size
  at' : ∀ i, i < ds.length → W.cell? ⟨b, o + i, none⟩ = some (.int .u8 ((48 + ds.getD i 0 : Nat) : Int))
theorem DecAt.ext {W W' : World} {b o : Nat} {ds : List Nat} (h : DecAt W b o ds) (hx : Ext W W') : DecAt W' b o ds :=
  ⟨Nat.lt_of_lt_of_le h.lt hx.size, fun i hi => hx.cell (h.at' i hi)⟩
def Decs (ds : List Nat) : Prop := ∀ i, ds.getD i 0 < 10
theorem isdig_no (c : Nat) (h1 : 48 ≤ c) (h2 : c ≤ 57) (w : World) :
    Calls Tryz.prog 113 #[.int .u8 (c : Int)] w fun e w' => e = .returned (.bool false) ∧ w' = w := by
  have e1 : decide ((c : Int) < 48) = false := by simp; omega
  have e2 : decide ((c : Int) > 57) = false := by simp; omega
  go_enter Tryz.func113, Tryz.ntmps113
  go_wp2
  go_ret
  exact ⟨rfl, rfl⟩
set_option maxHeartbeats 4000000 in
theorem indexFunc_no (b o cap : Nat) (ds : List Nat) (hd : Decs ds) (hn : ds.length ≤ 1000000) (w : World) (h : DecAt w b o ds) :
    Calls Tryz.prog 128 #[.slice (some ⟨b, o, none⟩) ds.length cap, .func (.func 113) #[] #[]] w fun e w' => e = .returned (.int .i64 (-1)) ∧ w' = w := by
  go_enter Tryz.func128, Tryz.ntmps128
  go_wp2
  go_loop [8] (fun v => ∃ k : Nat, k ≤ ds.length ∧ v = .int .i64 (k : Int)) (fun v => ds.length - (intOf v).toNat)
  case atStart => exact ⟨0, Nat.zero_le _, rfl⟩
  case round =>
    obtain ⟨k, hk, rfl⟩ := hrel
    by_cases hlt : k < ds.length
    · have hc := h.at' k hlt
      have hd9 := hd k
      have hq := fun w => isdig_no (48 + ds.getD k 0) (by omega) (by omega) w
      have hb := h.lt
      generalize 48 + ds.getD k 0 = c at *
      clear hd h
      --s1
      go_wp2_with (go_at_call 113; refine (hq _).mono ?_; rintro e w' ⟨rfl, rfl⟩)
      --s2
      go_round
      case rel => exact ⟨k + 1, by omega, by go_num⟩
      case measure => simp [intOf]; omega
    · obtain rfl : k = ds.length := by omega
      clear h hd
      generalize ds.length = n at *
      --s3
      go_wp2
      go_ret
      exact ⟨rfl, rfl⟩
theorem contains_no (b o cap : Nat) (ds : List Nat) (hd : Decs ds) (hn : ds.length ≤ 1000000) (w : World) (h : DecAt w b o ds) :
    Calls Tryz.prog 112 #[.slice (some ⟨b, o, none⟩) ds.length cap, .func (.func 113) #[] #[]] w fun e w' => e = .returned (.bool false) ∧ w' = w := by
  have c := indexFunc_no b o cap ds hd hn w h
  go_enter Tryz.func112, Tryz.ntmps112
  go_wp2_with (go_at_call 128; refine c.mono ?_; rintro e w' ⟨rfl, rfl⟩)
  go_ret
  exact ⟨rfl, rfl⟩
end Go.Proofs.YtjkchmegnfbfoaaGreatDoor
