/- The references' numbers: differences of magnitudes. The references' numbers: sums, differences. The references' numbers: differences; that of a word. The references' numbers: that of a word below nought. The references' numbers: the Int of a number. The references' numbers: quotients of few digits. The references' numbers: the greatest common divisor. -/
import Derived.Test.YtjkchmegnfbfoaaGreatDoorProg
import Derived.Test.YtjkchmegnfbfoaaGreatDoorQ06
namespace Go.Proofs.YtjkchmegnfbfoaaGreatDoor
open Go Go.RowKit
set_option linter.unusedSimpArgs false
set_option linter.unusedVariables false
set_option maxRecDepth 100000

theorem _root_.Go.World.ownsRow.ext2 {w : World} {base : Nat} {e : TypeId} {size n : Nat} {v : Value} {xs : List Value} (h : w.ownsRow base e size v n xs) (d : Gr) : (grow w d).ownsRow base e size v n xs := by
  refine ⟨h.1, h.2.imp id ?_⟩
  rintro ⟨g, cap, cur, h1, h2, h3, h4⟩
  exact ⟨g, cap, cur, h1, h2, by rw [block_grow _ _ _ (Array.getElem?_eq_some_iff.1 h3).1, h3], h4⟩
/-- What is cut of a row of the call's own. -/
theorem cut_own (g n cap : Nat) (ds : List Nat) (hn : ds.length ≤ 1000000) (w : World) (h : SlC w (.slice (some ⟨g, 0, none⟩) n cap) ds) (hl : n = ds.length) :
    Calls Tryz.prog 93 #[.slice (some ⟨g, 0, none⟩) n cap] w (RetB (fun W r => SlC W r (trim ds) ∧ ∃ l c, r = .slice (some ⟨g, 0, none⟩) l c) w) := by
  subst hl
  rcases h.1 with ⟨a, cap', e, rfl⟩ | ⟨b, o, cap', e, hc⟩
  · refine (cut_none _ _ w).mono fun e w' ⟨he, hw⟩ => ?_
    subst hw
    exact ⟨_, he, ⟨h, _, _, rfl⟩, Ext.refl _⟩
  · cases e
    refine (cut_at g 0 cap ds hn (h.2 _ _ _ rfl) w hc).mono fun e w' ⟨he, hw⟩ => ?_
    subst hw
    have ht := trim_take ds
    refine ⟨_, he, ⟨⟨.inr ⟨g, 0, cap, rfl, ?_⟩, fun a n c h' => ?_⟩, _, _, rfl⟩, Ext.refl _⟩
    · rw [ht]; exact hc.take _
    · cases h'; exact Nat.le_trans (trim_le ds) (h.2 _ _ _ rfl)
theorem sub_digit (m n k N : Nat) (hk : k < N) (hm : m < D ^ N) (hn : n ≤ m) : (wnD m k + D - wnD n k - bwD m n k) % D = wnD (m - n) k := by
  rw [wn_subD m n k N hk hm (Nat.lt_of_le_of_lt hn hm), sub_topD m n N hm hn]
set_option maxHeartbeats 4000000 in
theorem less_at (m n : Nat) (hnm : n ≤ m) (v1 v2 : Value) (h1 : (dg m).length ≤ 900000) (h2 : (dg n).length ≤ 900000) (w : World) (s1 : SlC w v1 (dg m)) (s2 : SlC w v2 (dg n)) :
    Calls Tryz.prog 94 #[v1, v2] w (RetB (fun W r => SlC W r (dg (m - n)) ∧ ∃ l c, r = .slice (some ⟨w.heap.size, 0, none⟩) l c) w) := by
  have HM : Hid (m < 65536 ^ (dg m).length) := Lib.hid ((dg_len_le m _).1 (Nat.le_refl _))
  have t2 := fun w' (hx : Ext w w') i hi => at_dg n v2 (by omega) i hi w' (s2.ext hx)
  obtain ⟨a2, c2, rfl⟩ := s2.len
  obtain ⟨L, hL⟩ : ∃ L, L = (dg m).length := ⟨_, rfl⟩
  have K1 : ∃ a1 c1, v1 = .slice a1 L c1 ∧ ∀ W, Ext w W → ∀ k, k < L → ∃ b o, a1 = some ⟨b, o, none⟩ ∧ b < W.heap.size ∧ W.cell? ⟨b, o + k, none⟩ = some (i64 (wnD m k)) := by
    rcases s1.1 with ⟨a, cap, rfl, e⟩ | ⟨b, o, cap, rfl, hc⟩
    · refine ⟨a, cap, by rw [hL, e]; rfl, fun W hx k hk => ?_⟩
      rw [hL, e] at hk; exact absurd hk (by simp)
    · refine ⟨_, cap, by rw [hL], fun W hx k hk => ⟨b, o, rfl, (hc.ext hx).lt, ?_⟩⟩
      have := (hc.ext hx).at' k (by omega)
      rwa [dg_digit] at this
  obtain ⟨a1, c1, rfl, K1⟩ := K1
  rw [← hL] at HM h1
  clear hL s1 s2
  generalize (dg n).length = n2 at *
  obtain ⟨i0, hi, hz0, hz1, hz2⟩ := info_parts info_i64
  go_enter Tryz.func94, Tryz.ntmps94
  go_wp2_with (at_make; refine wpList_make_own _ rfl _ _ 31 rfl w.heap.size 2 i0 (.int .i64 0) 1 Tryz.underlying31 hi hz0 hz1 _ _ _ L rfl rfl (by omega) ?b2 ?b3 (Nat.le_refl _) ?_)
  case b2 => rw [hz2]; omega
  case b3 => unfold maxLen; omega
  intro w0 hown0 hgrow0
  go_wp2
  go_loopw [5, 6, 7] (fun out sc si wr => ∃ k : Nat, k ≤ L ∧ si = .int .i64 k ∧ sc = i64 (bwD m n k) ∧ out = .slice (some ⟨w.heap.size, 0, none⟩) k L ∧
      wr.ownsRow w.heap.size 2 1 (.slice (some ⟨w.heap.size, 0, none⟩) k L) k ((dlist (m - n) k).map i64) ∧ Below w.heap.size w wr) (fun _ _ si _ => L - (intOf si).toNat)
  case atStart => exact ⟨0, Nat.zero_le _, rfl, by rw [bw_zeroD]; rfl, rfl, hown0, (Below.refl _ _).grown hgrow0 (Nat.le_refl _) (fun k h => by cases h)⟩
  case round =>
    obtain ⟨k, hk, rfl, rfl, rfl, hown, hnx⟩ := hrel
    by_cases hlt : k < L
    · obtain ⟨b, o, rfl, hbl, hcell⟩ := K1 wr (Ext.of_below hnx) k hlt
      have u2 : ∀ d, Calls Tryz.prog 119 #[.slice a2 n2 c2, .int .i64 (k : Int)] (grow wr d) fun e w' => e = .returned (i64 (wnD n k)) ∧ Ext (grow wr d) w' := fun d =>
        (t2 (grow wr d) ((Ext.of_below hnx).grow d) k (by omega)).mono fun e w' ⟨he, hw⟩ => ⟨he, by subst hw; exact Ext.refl _⟩
      have hs := bw_succD m n k
      have hd := sub_digit m n k L hlt HM.out hnm
      have b1 : wnD m k < 65536 := wn_ltD m k
      have b2 : wnD n k < 65536 := wn_ltD n k
      have b3 := bw_leD m n k
      have HDS := Lib.hid (dlist_succ (m - n) k)
      rw [D_eq] at hd
      clear t2 K1
      have hkL : (k : Int) < (L : Int) := by omega
      have hca : ∀ W, (Instr.indexAt 31 (.slice (some ⟨b, o, none⟩) L c1) (.int .i64 (k : Int))).run Tryz.prog W = .ok (.pointer (some ⟨b, o + k, none⟩)) W := fun W => by simp [go_sem, hlt]
      have hw1 : IntKind.i64.wrap (((wnD m k : Nat) : Int) - ((wnD n k : Nat) : Int)) = ((wnD m k : Nat) : Int) - ((wnD n k : Nat) : Int) := wrap_i64_in _ (by omega) (by omega)
      have hw2 : IntKind.i64.wrap (((wnD m k : Nat) : Int) - ((wnD n k : Nat) : Int) - ((bwD m n k : Nat) : Int)) = ((wnD m k : Nat) : Int) - ((wnD n k : Nat) : Int) - ((bwD m n k : Nat) : Int) := wrap_i64_in _ (by omega) (by omega)
      by_cases hneg : wnD m k < wnD n k + bwD m n k
      · have hc' : bwD m n (k + 1) = 1 := by rw [← hs, if_pos hneg]
        have hz : ((wnD m k : Nat) : Int) - ((wnD n k : Nat) : Int) - ((bwD m n k : Nat) : Int) + 65536 = ((wnD (m - n) k : Nat) : Int) := by omega
        have hz' : ((wnD m k : Nat) : Int) - ((wnD n k : Nat) : Int) - ((bwD m n k : Nat) : Int) < 0 := by omega
        clear hs hd
        have HC := Lib.hid hc'
        clear hc'
        go_wp2
        (first | refine wp_region_k' [.p, .p, .p, .r, .p, .p, .r, .p, .p, .p, .p] (by kernel_rfl) (by kernel_rfl) ?_ | refine wp_region_k [.p, .p, .p, .r, .p, .p, .r, .p, .p, .p, .p] (by kernel_rfl) (by kernel_rfl) ?_); (repeat (first | (refine wpK_p rfl (fun K hK => ?_); go_simp; refine hK _ _ ?_; clear hK K) | (refine wpK_r rfl (fun K hK => ?_); go_simp; refine hK _ _ ?_; clear hK K) | (refine wpK_w rfl (fun K hK => ?_); go_simp; refine hK _ _ ?_; clear hK K) | (refine wpK_r rfl (fun K hK => ?_); go_simp; apply Exists.intro; refine ⟨fun d => ?_, hK _ _ ?_⟩; (exact Calls.calm (u2 _)); clear hK K))); refine wpK_nil ?_; intro d
        clear hw1 hw2 u2
        have hown' := hown.ext2 d
        obtain ⟨y, hyd⟩ : ∃ y, y = grow wr d := ⟨_, rfl⟩
        rw [← hyd] at hown' ⊢
        have hny : Below w.heap.size w y := by rw [hyd]; exact hnx.trans (Ext.below ⟨d, rfl⟩ |>.mono hnx.size)
        clear hyd
        go_wp2_with (at_builtin; refine wpList_append_fits _ rfl (.tmp 32) (.tmp 34) 31 rfl w.heap.size 2 i0 1 Tryz.underlying31 hi hz1 w.heap.size k L _ rfl (hown'.alloc _) ⟨y.heap.size, 0, none⟩ 1 1 [i64 (wnD (m - n) k)] rfl rfl ?c1 ?c2 (by omega) ?_)
        case c1 =>
          intro t u h
          rcases t with _ | t
          · cases h; simp [go_sem]
          · cases h
        case c2 => intro u h; simp at h; subst h; rfl
        intro w1 hown1 hgrow1
        go_wp2
        go_roundw
        case rel =>
          refine ⟨k + 1, by omega, by go_num, by rw [HC.out]; rfl, rfl, ?_, (hny.alloc hny.size _).grown hgrow1 (by simp; have := hny.size; omega) (fun k h => by cases h; exact Nat.le_refl _)⟩
          rw [HDS.out, List.map_append]; exact hown1
        case measure => simp [intOf]; omega
      · have hc' : bwD m n (k + 1) = 0 := by rw [← hs, if_neg hneg]
        have hz : ((wnD m k : Nat) : Int) - ((wnD n k : Nat) : Int) - ((bwD m n k : Nat) : Int) = ((wnD (m - n) k : Nat) : Int) := by omega
        have hz' : ¬ ((wnD m k : Nat) : Int) - ((wnD n k : Nat) : Int) - ((bwD m n k : Nat) : Int) < 0 := by omega
        clear hs hd
        have HC := Lib.hid hc'
        clear hc'
        go_wp2
        (first | refine wp_region_k' [.p, .p, .p, .r, .p, .p, .r, .p, .p, .p, .p] (by kernel_rfl) (by kernel_rfl) ?_ | refine wp_region_k [.p, .p, .p, .r, .p, .p, .r, .p, .p, .p, .p] (by kernel_rfl) (by kernel_rfl) ?_); (repeat (first | (refine wpK_p rfl (fun K hK => ?_); go_simp; refine hK _ _ ?_; clear hK K) | (refine wpK_r rfl (fun K hK => ?_); go_simp; refine hK _ _ ?_; clear hK K) | (refine wpK_w rfl (fun K hK => ?_); go_simp; refine hK _ _ ?_; clear hK K) | (refine wpK_r rfl (fun K hK => ?_); go_simp; apply Exists.intro; refine ⟨fun d => ?_, hK _ _ ?_⟩; (exact Calls.calm (u2 _)); clear hK K))); refine wpK_nil ?_; intro d
        clear hw1 hw2 u2
        have hown' := hown.ext2 d
        obtain ⟨y, hyd⟩ : ∃ y, y = grow wr d := ⟨_, rfl⟩
        rw [← hyd] at hown' ⊢
        have hny : Below w.heap.size w y := by rw [hyd]; exact hnx.trans (Ext.below ⟨d, rfl⟩ |>.mono hnx.size)
        clear hyd
        go_wp2_with (at_builtin; refine wpList_append_fits _ rfl (.tmp 32) (.tmp 34) 31 rfl w.heap.size 2 i0 1 Tryz.underlying31 hi hz1 w.heap.size k L _ rfl (hown'.alloc _) ⟨y.heap.size, 0, none⟩ 1 1 [i64 (wnD (m - n) k)] rfl rfl ?c1 ?c2 (by omega) ?_)
        case c1 =>
          intro t u h
          rcases t with _ | t
          · cases h; simp [go_sem]
          · cases h
        case c2 => intro u h; simp at h; subst h; rfl
        intro w1 hown1 hgrow1
        go_wp2
        go_roundw
        case rel =>
          refine ⟨k + 1, by omega, by go_num, by rw [HC.out]; rfl, rfl, ?_, (hny.alloc hny.size _).grown hgrow1 (by simp; have := hny.size; omega) (fun k h => by cases h; exact Nat.le_refl _)⟩
          rw [HDS.out, List.map_append]; exact hown1
        case measure => simp [intOf]; omega
    · obtain rfl : k = L := by omega
      have hsl := SlC.own hown (ds := dlist (m - n) k) (by rw [dlist_len])
      have hfin := cut_own w.heap.size k k (dlist (m - n) k) (by rw [dlist_len]; omega) wr hsl (by rw [dlist_len])
      rw [dlist_trim _ _ (by have := HM.out; omega)] at hfin
      clear t2 hown K1 hsl
      go_wp2_with (go_at_call 93; refine hfin.mono ?_; rintro e w2 ⟨r, rfl, hr, hz⟩)
      go_ret
      exact ⟨_, rfl, hr, (Ext.of_below hnx).trans hz⟩
theorem less_dg (m n : Nat) (hnm : n ≤ m) (v1 v2 : Value) (h1 : (dg m).length ≤ 900000) (h2 : (dg n).length ≤ 900000) (w : World) (s1 : SlC w v1 (dg m)) (s2 : SlC w v2 (dg n)) :
    Calls Tryz.prog 94 #[v1, v2] w (RetB (fun W r => SlC W r (dg (m - n))) w) :=
  (less_at m n hnm v1 v2 h1 h2 w s1 s2).mono fun e w' ⟨v, h1, h2, h3⟩ => ⟨v, h1, h2.1, h3⟩
end Go.Proofs.YtjkchmegnfbfoaaGreatDoor

namespace Go.Proofs.YtjkchmegnfbfoaaGreatDoor
open Go Go.RowKit
set_option linter.unusedSimpArgs false
set_option linter.unusedVariables false
set_option maxRecDepth 100000

theorem dg_len_add (m n k : Nat) (h1 : (dg m).length ≤ k) (h2 : (dg n).length ≤ k) : (dg (m + n)).length ≤ k + 1 := by
  rw [dg_len_le] at *
  rw [Nat.pow_succ]; omega
theorem dg_len_mono (m n : Nat) (h : m ≤ n) : (dg m).length ≤ (dg n).length := by
  rw [dg_len_le]
  exact Nat.lt_of_le_of_lt h ((dg_len_le n _).1 (Nat.le_refl _))
set_option maxHeartbeats 4000000 in
theorem bAdd (x y : Int) (v1 v2 : Value) (hx : Small x) (hy : Small y) (w : World) (h1 : BigV w v1 x) (h2 : BigV w v2 y) :
    Calls Tryz.prog 66 #[v1, v2] w (RetB (fun W r => BigV W r (x + y)) w) := by
  obtain ⟨t1, a1, n1, c1, rfl, e1, k1⟩ := h1.opened
  obtain ⟨t2, a2, n2, c2, rfl, e2, k2⟩ := h2.opened
  clear h1 h2
  unfold Small at hx hy
  by_cases hs : t1 = t2
  · have hb : (t1 == t2) = true := by simp [hs]
    have HZ : Hid (sv t1 (dval (dg (x.natAbs + y.natAbs))) = x + y) := Lib.hid (by
      have h1 := e1.out.1; have h2 := e2.out.1
      rw [dval_dg]
      by_cases a : x < 0 <;> by_cases b : y < 0 <;> simp [a, b] at h1 h2 <;> subst h1 h2 <;> simp at hs <;> simp [sv] <;> omega)
    have cp := fun w s1 s2 => plus_dg x.natAbs y.natAbs (.slice a1 n1 c1) (.slice a2 n2 c2) (by omega) (by omega) w s1 s2
    have co := fun r w h => of_ret t1 r (dg (x.natAbs + y.natAbs)) (by have := dg_len_add x.natAbs y.natAbs 100000 hx hy; omega) (digs_dg _) w h
    rw [HZ.out] at co
    clear HZ hs e1 e2 hx hy
    go_enter Tryz.func66, Tryz.ntmps66
    go_wp2
    refine wp_rebase fun v hv => ?_
    have hx : Ext w v := by rw [hv]; exact (by repeat (first | (with_reducible exact Ext.refl _) | (with_reducible assumption) | (with_reducible apply Ext.grow) | (with_reducible apply Ext.alloc) | (with_reducible apply Ext.drew) | ((with_reducible apply Ext.set); (case hb => (first | omega | (simp; omega))))))
    have BA : Blk v w.heap.size #[.bool t1, .slice a1 n1 c1] 33 := by rw [hv]; exact (by repeat (first | (with_reducible assumption) | ((with_reducible refine Blk.new _ _ _ ?_); (simp; done)) | (with_reducible apply Blk.alloc) | (with_reducible apply Blk.grow) | (with_reducible apply Blk.drew) | (with_reducible apply Blk.set10) | (with_reducible apply Blk.set5) | (with_reducible apply Blk.set4) | (with_reducible apply Blk.tail4) | (with_reducible apply Blk.set2) | (with_reducible apply Blk.set1) | ((with_reducible apply Blk.setOther); (case hne => omega))))
    have BB : Blk v (w.heap.size + 1) #[.bool t2, .slice a2 n2 c2] 33 := by rw [hv]; exact (by repeat (first | (with_reducible assumption) | ((with_reducible refine Blk.new _ _ _ ?_); (simp; done)) | (with_reducible apply Blk.alloc) | (with_reducible apply Blk.grow) | (with_reducible apply Blk.drew) | (with_reducible apply Blk.set10) | (with_reducible apply Blk.set5) | (with_reducible apply Blk.set4) | (with_reducible apply Blk.tail4) | (with_reducible apply Blk.set2) | (with_reducible apply Blk.set1) | ((with_reducible apply Blk.setOther); (case hne => omega))))
    have BO : Blk v (w.heap.size + 1 + 1) #[.bool false, .slice none 0 0] 33 := by rw [hv]; exact (by repeat (first | (with_reducible assumption) | ((with_reducible refine Blk.new _ _ _ ?_); (simp; done)) | (with_reducible apply Blk.alloc) | (with_reducible apply Blk.grow) | (with_reducible apply Blk.drew) | (with_reducible apply Blk.set10) | (with_reducible apply Blk.set5) | (with_reducible apply Blk.set4) | (with_reducible apply Blk.tail4) | (with_reducible apply Blk.set2) | (with_reducible apply Blk.set1) | ((with_reducible apply Blk.setOther); (case hne => omega))))
    clear hv
    have lBA := BA.lt; have cBA := BA.cell; have fBA := BA.frozen; have lBB := BB.lt; have cBB := BB.cell; have fBB := BB.frozen; have lBO := BO.lt; have cBO := BO.cell; have fBO := BO.frozen
    (first | refine wp_region_h' 8 [0, 1, 2, 3, 4, 5] [6, 7] (by kernel_rfl) (by kernel_rfl) ?_ | refine wp_region_h 8 [0, 1, 2, 3, 4, 5] [6, 7] (by kernel_rfl) (by kernel_rfl) ?_); simp only [List.map_cons, List.map_nil, List.getD_cons_succ, List.getD_cons_zero]; (repeat (refine wpHL_l (fun K hK => ?_); go_simp; refine hK _ ?_; clear hK K)); refine wpHL_nil ?_; intro d0; have hx0 : Ext v (grow v d0) := ⟨d0, rfl⟩; generalize grow v d0 = y0 at *; (refine wpT_c (fun K hK => ?_); go_simp; refine ⟨_, _, ⟨rfl, rfl⟩, ?_⟩; (with_reducible refine (cp _ (k1.ext (hx.trans hx0)) (k2.ext (hx.trans hx0))).mono ?_); rintro e y1 ⟨r1, rfl, hr1, hz1⟩; have hx1 : Ext v y1 := hx0.trans hz1; refine ⟨_, rfl, hx1, hK _ _ ?_⟩; clear hK K); (refine wpT_c (fun K hK => ?_); go_simp; refine ⟨_, _, ⟨rfl, rfl⟩, ?_⟩; (with_reducible refine (co _ _ hr1).mono ?_); rintro e y2 ⟨r2, rfl, hr2, hz2⟩; have hx2 : Ext v y2 := hx1.trans hz2; refine ⟨_, rfl, hx2, hK _ _ ?_⟩; clear hK K); refine wpT_nil ?_; simp only [List.drop_succ_cons, List.drop_zero]
    obtain ⟨tr, ar, nr, cr, rfl, er, ks⟩ := hr2.opened; have hxn : Ext w y2 := hx.trans hx2; have BOn := BO.ext hx2; have lBOn := BOn.lt; have cBOn := BOn.cell; have fBOn := BOn.frozen; go_wp2; refine bp_rebase fun u hu => ?_; have hy : Ext w u := (by rw [hu]; exact (by repeat (first | (with_reducible exact Ext.refl _) | (with_reducible assumption) | (with_reducible apply Ext.grow) | (with_reducible apply Ext.alloc) | (with_reducible apply Ext.drew) | ((with_reducible apply Ext.set); (case hb => (first | omega | (simp; omega))))))); have hsl := (ks.set (k := (w.heap.size + 1 + 1)) (j := 0) (x := .bool tr) BOn (by decide)).set (k := (w.heap.size + 1 + 1)) (j := 1) (x := .slice ar nr cr) BOn.setSame (by decide); rw [← hu] at hsl; have BF : Blk u (w.heap.size + 1 + 1) #[.bool tr, .slice ar nr cr] 33 := (by rw [hu]; exact (by repeat (first | (with_reducible assumption) | ((with_reducible refine Blk.new _ _ _ ?_); (simp; done)) | (with_reducible apply Blk.alloc) | (with_reducible apply Blk.grow) | (with_reducible apply Blk.drew) | (with_reducible apply Blk.set10) | (with_reducible apply Blk.set5) | (with_reducible apply Blk.set4) | (with_reducible apply Blk.tail4) | (with_reducible apply Blk.set2) | (with_reducible apply Blk.set1) | ((with_reducible apply Blk.setOther); (case hne => omega))))); clear hu; have lBF := BF.lt; have cBF := BF.cell; have fBF := BF.frozen; clear BF; exact bodyPost_ret (v := .agg #[.bool tr, .slice ar nr cr]) (by simp [results, Tryz.results66, go_sem, cBF]) rfl ⟨_, rfl, BigV.shut er hsl, hy⟩
  · have hb : (t1 == t2) = false := by simp [hs]
    have cm := fun w s1 s2 => mags_dg x.natAbs y.natAbs (.slice a1 n1 c1) (.slice a2 n2 c2) (by omega) (by omega) w s1 s2
    by_cases hge : y.natAbs ≤ x.natAbs
    · have hc : decide (cmp3 x.natAbs y.natAbs ≥ 0) = true := by
        have : ¬ x.natAbs < y.natAbs := by omega
        simp only [cmp3, if_neg this]; split <;> simp
      have HZ : Hid (sv t1 (dval (dg (x.natAbs - y.natAbs))) = x + y) := Lib.hid (by
        have h1 := e1.out.1; have h2 := e2.out.1
        rw [dval_dg]
        by_cases a : x < 0 <;> by_cases b : y < 0 <;> simp [a, b] at h1 h2 <;> subst h1 h2 <;> simp at hs <;> simp [sv] <;> omega)
      have cp := fun w s1 s2 => less_dg x.natAbs y.natAbs hge (.slice a1 n1 c1) (.slice a2 n2 c2) (by omega) (by omega) w s1 s2
      have co := fun r w h => of_ret t1 r (dg (x.natAbs - y.natAbs)) (by have := dg_len_mono (x.natAbs - y.natAbs) x.natAbs (by omega); omega) (digs_dg _) w h
      rw [HZ.out] at co
      generalize cmp3 x.natAbs y.natAbs = cz at *
      clear HZ hs e1 e2 hx hy hge
      go_enter Tryz.func66, Tryz.ntmps66
      go_wp2_with (go_at_call 84; refine (cm _ (k1.ext (by repeat (first | (with_reducible exact Ext.refl _) | (with_reducible assumption) | (with_reducible apply Ext.grow) | (with_reducible apply Ext.alloc) | (with_reducible apply Ext.drew) | ((with_reducible apply Ext.set); (case hb => (first | omega | (simp; omega))))))) (k2.ext (by repeat (first | (with_reducible exact Ext.refl _) | (with_reducible assumption) | (with_reducible apply Ext.grow) | (with_reducible apply Ext.alloc) | (with_reducible apply Ext.drew) | ((with_reducible apply Ext.set); (case hb => (first | omega | (simp; omega)))))))).mono ?_; rintro e w' ⟨rfl, dm, rfl⟩)
      refine wp_rebase fun v hv => ?_
      have hx : Ext w v := by rw [hv]; exact (by repeat (first | (with_reducible exact Ext.refl _) | (with_reducible assumption) | (with_reducible apply Ext.grow) | (with_reducible apply Ext.alloc) | (with_reducible apply Ext.drew) | ((with_reducible apply Ext.set); (case hb => (first | omega | (simp; omega))))))
      have BA : Blk v w.heap.size #[.bool t1, .slice a1 n1 c1] 33 := by rw [hv]; exact (by repeat (first | (with_reducible assumption) | ((with_reducible refine Blk.new _ _ _ ?_); (simp; done)) | (with_reducible apply Blk.alloc) | (with_reducible apply Blk.grow) | (with_reducible apply Blk.drew) | (with_reducible apply Blk.set10) | (with_reducible apply Blk.set5) | (with_reducible apply Blk.set4) | (with_reducible apply Blk.tail4) | (with_reducible apply Blk.set2) | (with_reducible apply Blk.set1) | ((with_reducible apply Blk.setOther); (case hne => omega))))
      have BB : Blk v (w.heap.size + 1) #[.bool t2, .slice a2 n2 c2] 33 := by rw [hv]; exact (by repeat (first | (with_reducible assumption) | ((with_reducible refine Blk.new _ _ _ ?_); (simp; done)) | (with_reducible apply Blk.alloc) | (with_reducible apply Blk.grow) | (with_reducible apply Blk.drew) | (with_reducible apply Blk.set10) | (with_reducible apply Blk.set5) | (with_reducible apply Blk.set4) | (with_reducible apply Blk.tail4) | (with_reducible apply Blk.set2) | (with_reducible apply Blk.set1) | ((with_reducible apply Blk.setOther); (case hne => omega))))
      have BO : Blk v (w.heap.size + 1 + 1) #[.bool false, .slice none 0 0] 33 := by rw [hv]; exact (by repeat (first | (with_reducible assumption) | ((with_reducible refine Blk.new _ _ _ ?_); (simp; done)) | (with_reducible apply Blk.alloc) | (with_reducible apply Blk.grow) | (with_reducible apply Blk.drew) | (with_reducible apply Blk.set10) | (with_reducible apply Blk.set5) | (with_reducible apply Blk.set4) | (with_reducible apply Blk.tail4) | (with_reducible apply Blk.set2) | (with_reducible apply Blk.set1) | ((with_reducible apply Blk.setOther); (case hne => omega))))
      clear hv
      have lBA := BA.lt; have cBA := BA.cell; have fBA := BA.frozen; have lBB := BB.lt; have cBB := BB.cell; have fBB := BB.frozen; have lBO := BO.lt; have cBO := BO.cell; have fBO := BO.frozen
      (first | refine wp_region_h' 8 [0, 1, 2, 3, 4, 5] [6, 7] (by kernel_rfl) (by kernel_rfl) ?_ | refine wp_region_h 8 [0, 1, 2, 3, 4, 5] [6, 7] (by kernel_rfl) (by kernel_rfl) ?_); simp only [List.map_cons, List.map_nil, List.getD_cons_succ, List.getD_cons_zero]; (repeat (refine wpHL_l (fun K hK => ?_); go_simp; refine hK _ ?_; clear hK K)); refine wpHL_nil ?_; intro d0; have hx0 : Ext v (grow v d0) := ⟨d0, rfl⟩; generalize grow v d0 = y0 at *; (refine wpT_c (fun K hK => ?_); go_simp; refine ⟨_, _, ⟨rfl, rfl⟩, ?_⟩; (with_reducible refine (cp _ (k1.ext (hx.trans hx0)) (k2.ext (hx.trans hx0))).mono ?_); rintro e y1 ⟨r1, rfl, hr1, hz1⟩; have hx1 : Ext v y1 := hx0.trans hz1; refine ⟨_, rfl, hx1, hK _ _ ?_⟩; clear hK K); (refine wpT_c (fun K hK => ?_); go_simp; refine ⟨_, _, ⟨rfl, rfl⟩, ?_⟩; (with_reducible refine (co _ _ hr1).mono ?_); rintro e y2 ⟨r2, rfl, hr2, hz2⟩; have hx2 : Ext v y2 := hx1.trans hz2; refine ⟨_, rfl, hx2, hK _ _ ?_⟩; clear hK K); refine wpT_nil ?_; simp only [List.drop_succ_cons, List.drop_zero]
      obtain ⟨tr, ar, nr, cr, rfl, er, ks⟩ := hr2.opened; have hxn : Ext w y2 := hx.trans hx2; have BOn := BO.ext hx2; have lBOn := BOn.lt; have cBOn := BOn.cell; have fBOn := BOn.frozen; go_wp2; refine bp_rebase fun u hu => ?_; have hy : Ext w u := (by rw [hu]; exact (by repeat (first | (with_reducible exact Ext.refl _) | (with_reducible assumption) | (with_reducible apply Ext.grow) | (with_reducible apply Ext.alloc) | (with_reducible apply Ext.drew) | ((with_reducible apply Ext.set); (case hb => (first | omega | (simp; omega))))))); have hsl := (ks.set (k := (w.heap.size + 1 + 1)) (j := 0) (x := .bool tr) BOn (by decide)).set (k := (w.heap.size + 1 + 1)) (j := 1) (x := .slice ar nr cr) BOn.setSame (by decide); rw [← hu] at hsl; have BF : Blk u (w.heap.size + 1 + 1) #[.bool tr, .slice ar nr cr] 33 := (by rw [hu]; exact (by repeat (first | (with_reducible assumption) | ((with_reducible refine Blk.new _ _ _ ?_); (simp; done)) | (with_reducible apply Blk.alloc) | (with_reducible apply Blk.grow) | (with_reducible apply Blk.drew) | (with_reducible apply Blk.set10) | (with_reducible apply Blk.set5) | (with_reducible apply Blk.set4) | (with_reducible apply Blk.tail4) | (with_reducible apply Blk.set2) | (with_reducible apply Blk.set1) | ((with_reducible apply Blk.setOther); (case hne => omega))))); clear hu; have lBF := BF.lt; have cBF := BF.cell; have fBF := BF.frozen; clear BF; exact bodyPost_ret (v := .agg #[.bool tr, .slice ar nr cr]) (by simp [results, Tryz.results66, go_sem, cBF]) rfl ⟨_, rfl, BigV.shut er hsl, hy⟩
    · have hc : decide (cmp3 x.natAbs y.natAbs ≥ 0) = false := by
        have : x.natAbs < y.natAbs := by omega
        simp [cmp3, if_pos this]
      have HZ : Hid (sv t2 (dval (dg (y.natAbs - x.natAbs))) = x + y) := Lib.hid (by
        have h1 := e1.out.1; have h2 := e2.out.1
        rw [dval_dg]
        by_cases a : x < 0 <;> by_cases b : y < 0 <;> simp [a, b] at h1 h2 <;> subst h1 h2 <;> simp at hs <;> simp [sv] <;> omega)
      have cp := fun w s1 s2 => less_dg y.natAbs x.natAbs (by omega) (.slice a2 n2 c2) (.slice a1 n1 c1) (by omega) (by omega) w s1 s2
      have co := fun r w h => of_ret t2 r (dg (y.natAbs - x.natAbs)) (by have := dg_len_mono (y.natAbs - x.natAbs) y.natAbs (by omega); omega) (digs_dg _) w h
      rw [HZ.out] at co
      generalize cmp3 x.natAbs y.natAbs = cz at *
      clear HZ hs e1 e2 hx hy hge
      go_enter Tryz.func66, Tryz.ntmps66
      go_wp2_with (go_at_call 84; refine (cm _ (k1.ext (by repeat (first | (with_reducible exact Ext.refl _) | (with_reducible assumption) | (with_reducible apply Ext.grow) | (with_reducible apply Ext.alloc) | (with_reducible apply Ext.drew) | ((with_reducible apply Ext.set); (case hb => (first | omega | (simp; omega))))))) (k2.ext (by repeat (first | (with_reducible exact Ext.refl _) | (with_reducible assumption) | (with_reducible apply Ext.grow) | (with_reducible apply Ext.alloc) | (with_reducible apply Ext.drew) | ((with_reducible apply Ext.set); (case hb => (first | omega | (simp; omega)))))))).mono ?_; rintro e w' ⟨rfl, dm, rfl⟩)
      refine wp_rebase fun v hv => ?_
      have hx : Ext w v := by rw [hv]; exact (by repeat (first | (with_reducible exact Ext.refl _) | (with_reducible assumption) | (with_reducible apply Ext.grow) | (with_reducible apply Ext.alloc) | (with_reducible apply Ext.drew) | ((with_reducible apply Ext.set); (case hb => (first | omega | (simp; omega))))))
      have BA : Blk v w.heap.size #[.bool t1, .slice a1 n1 c1] 33 := by rw [hv]; exact (by repeat (first | (with_reducible assumption) | ((with_reducible refine Blk.new _ _ _ ?_); (simp; done)) | (with_reducible apply Blk.alloc) | (with_reducible apply Blk.grow) | (with_reducible apply Blk.drew) | (with_reducible apply Blk.set10) | (with_reducible apply Blk.set5) | (with_reducible apply Blk.set4) | (with_reducible apply Blk.tail4) | (with_reducible apply Blk.set2) | (with_reducible apply Blk.set1) | ((with_reducible apply Blk.setOther); (case hne => omega))))
      have BB : Blk v (w.heap.size + 1) #[.bool t2, .slice a2 n2 c2] 33 := by rw [hv]; exact (by repeat (first | (with_reducible assumption) | ((with_reducible refine Blk.new _ _ _ ?_); (simp; done)) | (with_reducible apply Blk.alloc) | (with_reducible apply Blk.grow) | (with_reducible apply Blk.drew) | (with_reducible apply Blk.set10) | (with_reducible apply Blk.set5) | (with_reducible apply Blk.set4) | (with_reducible apply Blk.tail4) | (with_reducible apply Blk.set2) | (with_reducible apply Blk.set1) | ((with_reducible apply Blk.setOther); (case hne => omega))))
      have BO : Blk v (w.heap.size + 1 + 1) #[.bool false, .slice none 0 0] 33 := by rw [hv]; exact (by repeat (first | (with_reducible assumption) | ((with_reducible refine Blk.new _ _ _ ?_); (simp; done)) | (with_reducible apply Blk.alloc) | (with_reducible apply Blk.grow) | (with_reducible apply Blk.drew) | (with_reducible apply Blk.set10) | (with_reducible apply Blk.set5) | (with_reducible apply Blk.set4) | (with_reducible apply Blk.tail4) | (with_reducible apply Blk.set2) | (with_reducible apply Blk.set1) | ((with_reducible apply Blk.setOther); (case hne => omega))))
      clear hv
      have lBA := BA.lt; have cBA := BA.cell; have fBA := BA.frozen; have lBB := BB.lt; have cBB := BB.cell; have fBB := BB.frozen; have lBO := BO.lt; have cBO := BO.cell; have fBO := BO.frozen
      (first | refine wp_region_h' 8 [0, 1, 2, 3, 4, 5] [6, 7] (by kernel_rfl) (by kernel_rfl) ?_ | refine wp_region_h 8 [0, 1, 2, 3, 4, 5] [6, 7] (by kernel_rfl) (by kernel_rfl) ?_); simp only [List.map_cons, List.map_nil, List.getD_cons_succ, List.getD_cons_zero]; (repeat (refine wpHL_l (fun K hK => ?_); go_simp; refine hK _ ?_; clear hK K)); refine wpHL_nil ?_; intro d0; have hx0 : Ext v (grow v d0) := ⟨d0, rfl⟩; generalize grow v d0 = y0 at *; (refine wpT_c (fun K hK => ?_); go_simp; refine ⟨_, _, ⟨rfl, rfl⟩, ?_⟩; (with_reducible refine (cp _ (k2.ext (hx.trans hx0)) (k1.ext (hx.trans hx0))).mono ?_); rintro e y1 ⟨r1, rfl, hr1, hz1⟩; have hx1 : Ext v y1 := hx0.trans hz1; refine ⟨_, rfl, hx1, hK _ _ ?_⟩; clear hK K); (refine wpT_c (fun K hK => ?_); go_simp; refine ⟨_, _, ⟨rfl, rfl⟩, ?_⟩; (with_reducible refine (co _ _ hr1).mono ?_); rintro e y2 ⟨r2, rfl, hr2, hz2⟩; have hx2 : Ext v y2 := hx1.trans hz2; refine ⟨_, rfl, hx2, hK _ _ ?_⟩; clear hK K); refine wpT_nil ?_; simp only [List.drop_succ_cons, List.drop_zero]
      obtain ⟨tr, ar, nr, cr, rfl, er, ks⟩ := hr2.opened; have hxn : Ext w y2 := hx.trans hx2; have BOn := BO.ext hx2; have lBOn := BOn.lt; have cBOn := BOn.cell; have fBOn := BOn.frozen; go_wp2; refine bp_rebase fun u hu => ?_; have hy : Ext w u := (by rw [hu]; exact (by repeat (first | (with_reducible exact Ext.refl _) | (with_reducible assumption) | (with_reducible apply Ext.grow) | (with_reducible apply Ext.alloc) | (with_reducible apply Ext.drew) | ((with_reducible apply Ext.set); (case hb => (first | omega | (simp; omega))))))); have hsl := (ks.set (k := (w.heap.size + 1 + 1)) (j := 0) (x := .bool tr) BOn (by decide)).set (k := (w.heap.size + 1 + 1)) (j := 1) (x := .slice ar nr cr) BOn.setSame (by decide); rw [← hu] at hsl; have BF : Blk u (w.heap.size + 1 + 1) #[.bool tr, .slice ar nr cr] 33 := (by rw [hu]; exact (by repeat (first | (with_reducible assumption) | ((with_reducible refine Blk.new _ _ _ ?_); (simp; done)) | (with_reducible apply Blk.alloc) | (with_reducible apply Blk.grow) | (with_reducible apply Blk.drew) | (with_reducible apply Blk.set10) | (with_reducible apply Blk.set5) | (with_reducible apply Blk.set4) | (with_reducible apply Blk.tail4) | (with_reducible apply Blk.set2) | (with_reducible apply Blk.set1) | ((with_reducible apply Blk.setOther); (case hne => omega))))); clear hu; have lBF := BF.lt; have cBF := BF.cell; have fBF := BF.frozen; clear BF; exact bodyPost_ret (v := .agg #[.bool tr, .slice ar nr cr]) (by simp [results, Tryz.results66, go_sem, cBF]) rfl ⟨_, rfl, BigV.shut er hsl, hy⟩
end Go.Proofs.YtjkchmegnfbfoaaGreatDoor

namespace Go.Proofs.YtjkchmegnfbfoaaGreatDoor
open Go Go.RowKit
set_option linter.unusedSimpArgs false
set_option linter.unusedVariables false
set_option maxRecDepth 100000

theorem small_neg {x : Int} (h : Small x) : Small (-x) := by unfold Small at *; rwa [Int.natAbs_neg]
set_option maxHeartbeats 4000000 in
theorem bSub (x y : Int) (v1 v2 : Value) (hx : Small x) (hy : Small y) (w : World) (h1 : BigV w v1 x) (h2 : BigV w v2 y) :
    Calls Tryz.prog 73 #[v1, v2] w (RetB (fun W r => BigV W r (x - y)) w) := by
  have cn := fun w h => bNeg y v2 hy w h
  have ca := fun r w h1 h2 => bAdd x (-y) v1 r hx (small_neg hy) w h1 h2
  rw [← Int.sub_eq_add_neg] at ca
  have k1 := h1
  have k2 := h2
  obtain ⟨t1, a1, n1, c1, rfl, e1, _⟩ := h1.opened
  obtain ⟨t2, a2, n2, c2, rfl, e2, _⟩ := h2.opened
  clear h1 h2 hx hy
  go_enter Tryz.func73, Tryz.ntmps73
  go_wp2
  refine wp_rebase fun v hv => ?_
  have hx : Ext w v := by rw [hv]; exact (by repeat (first | (with_reducible exact Ext.refl _) | (with_reducible assumption) | (with_reducible apply Ext.grow) | (with_reducible apply Ext.alloc) | (with_reducible apply Ext.drew) | ((with_reducible apply Ext.set); (case hb => (first | omega | (simp; omega))))))
  have BA : Blk v w.heap.size #[.bool t1, .slice a1 n1 c1] 33 := by rw [hv]; exact (by repeat (first | (with_reducible assumption) | ((with_reducible refine Blk.new _ _ _ ?_); (simp; done)) | (with_reducible apply Blk.alloc) | (with_reducible apply Blk.grow) | (with_reducible apply Blk.drew) | (with_reducible apply Blk.set10) | (with_reducible apply Blk.set5) | (with_reducible apply Blk.set4) | (with_reducible apply Blk.tail4) | (with_reducible apply Blk.set2) | (with_reducible apply Blk.set1) | ((with_reducible apply Blk.setOther); (case hne => omega))))
  have BB : Blk v (w.heap.size + 1) #[.bool t2, .slice a2 n2 c2] 33 := by rw [hv]; exact (by repeat (first | (with_reducible assumption) | ((with_reducible refine Blk.new _ _ _ ?_); (simp; done)) | (with_reducible apply Blk.alloc) | (with_reducible apply Blk.grow) | (with_reducible apply Blk.drew) | (with_reducible apply Blk.set10) | (with_reducible apply Blk.set5) | (with_reducible apply Blk.set4) | (with_reducible apply Blk.tail4) | (with_reducible apply Blk.set2) | (with_reducible apply Blk.set1) | ((with_reducible apply Blk.setOther); (case hne => omega))))
  have BO : Blk v (w.heap.size + 1 + 1) #[.bool false, .slice none 0 0] 33 := by rw [hv]; exact (by repeat (first | (with_reducible assumption) | ((with_reducible refine Blk.new _ _ _ ?_); (simp; done)) | (with_reducible apply Blk.alloc) | (with_reducible apply Blk.grow) | (with_reducible apply Blk.drew) | (with_reducible apply Blk.set10) | (with_reducible apply Blk.set5) | (with_reducible apply Blk.set4) | (with_reducible apply Blk.tail4) | (with_reducible apply Blk.set2) | (with_reducible apply Blk.set1) | ((with_reducible apply Blk.setOther); (case hne => omega))))
  clear hv
  have lBA := BA.lt; have cBA := BA.cell; have fBA := BA.frozen; have lBB := BB.lt; have cBB := BB.cell; have fBB := BB.frozen; have lBO := BO.lt; have cBO := BO.cell; have fBO := BO.frozen
  (first | refine wp_region_h' 4 [0, 1] [2, 3] (by kernel_rfl) (by kernel_rfl) ?_ | refine wp_region_h 4 [0, 1] [2, 3] (by kernel_rfl) (by kernel_rfl) ?_); simp only [List.map_cons, List.map_nil, List.getD_cons_succ, List.getD_cons_zero]; (repeat (refine wpHL_l (fun K hK => ?_); go_simp; refine hK _ ?_; clear hK K)); refine wpHL_nil ?_; intro d0; have hx0 : Ext v (grow v d0) := ⟨d0, rfl⟩; generalize grow v d0 = y0 at *; (refine wpT_c (fun K hK => ?_); go_simp; refine ⟨_, _, ⟨rfl, rfl⟩, ?_⟩; (with_reducible refine (cn _ (k2.ext (hx.trans hx0))).mono ?_); rintro e y1 ⟨r1, rfl, hr1, hz1⟩; have hx1 : Ext v y1 := hx0.trans hz1; refine ⟨_, rfl, hx1, hK _ _ ?_⟩; clear hK K); (refine wpT_c (fun K hK => ?_); go_simp; refine ⟨_, _, ⟨rfl, rfl⟩, ?_⟩; (with_reducible refine (ca _ _ (k1.ext (hx.trans hx1)) hr1).mono ?_); rintro e y2 ⟨r2, rfl, hr2, hz2⟩; have hx2 : Ext v y2 := hx1.trans hz2; refine ⟨_, rfl, hx2, hK _ _ ?_⟩; clear hK K); refine wpT_nil ?_; simp only [List.drop_succ_cons, List.drop_zero]
  obtain ⟨tr, ar, nr, cr, rfl, er, ks⟩ := hr2.opened; have hxn : Ext w y2 := hx.trans hx2; have BOn := BO.ext hx2; have lBOn := BOn.lt; have cBOn := BOn.cell; have fBOn := BOn.frozen; go_wp2; refine bp_rebase fun u hu => ?_; have hy : Ext w u := (by rw [hu]; exact (by repeat (first | (with_reducible exact Ext.refl _) | (with_reducible assumption) | (with_reducible apply Ext.grow) | (with_reducible apply Ext.alloc) | (with_reducible apply Ext.drew) | ((with_reducible apply Ext.set); (case hb => (first | omega | (simp; omega))))))); have hsl := (ks.set (k := (w.heap.size + 1 + 1)) (j := 0) (x := .bool tr) BOn (by decide)).set (k := (w.heap.size + 1 + 1)) (j := 1) (x := .slice ar nr cr) BOn.setSame (by decide); rw [← hu] at hsl; have BF : Blk u (w.heap.size + 1 + 1) #[.bool tr, .slice ar nr cr] 33 := (by rw [hu]; exact (by repeat (first | (with_reducible assumption) | ((with_reducible refine Blk.new _ _ _ ?_); (simp; done)) | (with_reducible apply Blk.alloc) | (with_reducible apply Blk.grow) | (with_reducible apply Blk.drew) | (with_reducible apply Blk.set10) | (with_reducible apply Blk.set5) | (with_reducible apply Blk.set4) | (with_reducible apply Blk.tail4) | (with_reducible apply Blk.set2) | (with_reducible apply Blk.set1) | ((with_reducible apply Blk.setOther); (case hne => omega))))); clear hu; have lBF := BF.lt; have cBF := BF.cell; have fBF := BF.frozen; clear BF; exact bodyPost_ret (v := .agg #[.bool tr, .slice ar nr cr]) (by simp [results, Tryz.results73, go_sem, cBF]) rfl ⟨_, rfl, BigV.shut er hsl, hy⟩
set_option maxHeartbeats 4000000 in
theorem word_dg (m : Nat) (v : Value) (h3 : (dg m).length ≤ 3) (w : World) (h : SlC w v (dg m)) :
    Calls Tryz.prog 91 #[v] w fun e w' => e = .returned (i64 m) ∧ w = w' := by
  have hm := (dg_len_le m 3).1 h3
  have t0 := at_dg m v (by omega) 0 (by omega) w h
  have t1 := at_dg m v (by omega) 1 (by omega) w h
  have t2 := at_dg m v (by omega) 2 (by omega) w h
  have b0 := wn_ltD m 0
  have b1 := wn_ltD m 1
  have b2 := wn_ltD m 2
  have hs : m = wnD m 0 + 65536 * (wnD m 1 + 65536 * wnD m 2) := by
    unfold wnD; rw [D_eq]; simp only [Nat.pow_zero, Nat.div_one, Nat.pow_one]; omega
  rw [D_eq] at b0 b1 b2
  generalize wnD m 0 = x0 at *
  generalize wnD m 1 = x1 at *
  generalize wnD m 2 = x2 at *
  have HS := Lib.hid hs
  clear hs hm h h3
  simp only [Int.natCast_zero, Int.natCast_one, show (((2 : Nat) : Int)) = 2 from rfl] at t0 t1 t2
  go_enter Tryz.func91, Tryz.ntmps91
  go_wp2_with (go_at_call 119; (first | (with_reducible refine t0.mono ?_) | (with_reducible refine t1.mono ?_) | (with_reducible refine t2.mono ?_)); rintro e w' ⟨rfl, rfl⟩)
  go_ret
  refine ⟨?_, rfl⟩
  rw [HS.out]
  exact congrArg Ending.returned (by simp)
theorem Blk.grown {W W' : World} {b : Nat} {cs : Array Value} {T : TypeId} {row : Option Nat} (h : Blk W b cs T) (hg : W.grownBy W' row) (hne : some b ≠ row) : Blk W' b cs T := by
  have hl := h.lt
  unfold Blk at h ⊢
  rw [hg.block _ hl hne, h]
theorem SlC.owned {W : World} {base k : Nat} {v : Value} {ds : List Nat} (h : W.ownsRow base 2 1 v k (ds.map i64)) (hk : k = ds.length) : SlC W v ds := by
  rcases h.2 with ⟨rfl, hn⟩ | ⟨g, cap, cur, rfl, _⟩
  · obtain rfl : ds = [] := List.length_eq_zero_iff.1 (by omega)
    exact ⟨.inl ⟨none, 0, rfl, rfl⟩, fun a n c h => by cases h; exact Nat.le_refl _⟩
  · exact SlC.own h hk
set_option maxHeartbeats 4000000 in
theorem Num_pos (n : Nat) (hn : n < 9223372036854775808) (w : World) :
    Calls Tryz.prog 44 #[.int .i64 (n : Int)] w (RetB (fun W r => BigV W r (n : Int)) w) := by
  have h1 : ((n : Int) == -9223372036854775808) = false := by simp
  have hneg : decide ((n : Int) < 0) = false := by simp
  obtain ⟨i0, hi, hz0, hz1, hz2⟩ := info_parts info_i64
  go_enter Tryz.func44, Tryz.ntmps44
  go_wp2
  go_loopw [0, 4] (fun nv out wr => ∃ k : Nat, nv = .int .i64 ((n / 65536 ^ k : Nat) : Int) ∧ wr.ownsRow (w.heap.size + 1) 2 1 out k ((dlist n k).map i64) ∧ Below w.heap.size w wr ∧ Blk wr w.heap.size #[.bool false, .slice none 0 0] 33 ∧ k ≤ 8) (fun nv _ _ => (intOf nv).toNat)
  case atStart => exact ⟨0, by simp, World.ownsRow_nil _ _ _ _, Below.alloc (Below.refl _ w) (Nat.le_refl _) _, Blk.new _ _ _ rfl, by omega⟩
  case round =>
    obtain ⟨k, rfl, hown, hnx, BO, hk8⟩ := hrel
    by_cases h0 : n / 65536 ^ k = 0
    · have hlt : n < 65536 ^ k := by
        have := (Nat.div_eq_zero_iff_lt (Nat.pow_pos (by omega : 0 < 65536))).1 h0
        exact this
      have hfin := of_ret false u4 (dlist n k) (by rw [dlist_len]; omega) (dlist_digs _ _) wr (SlC.owned hown (by rw [dlist_len]))
      rw [dlist_dval, Nat.mod_eq_of_lt hlt, sv_false] at hfin
      have hx : Ext w wr := Ext.of_below hnx
      have h0' : ((n / 65536 ^ k : Nat) : Int) = 0 := by rw [h0]; rfl
      rw [h0']
      clear hown hlt h0 h0'
      go_wp2_with (go_at_call 58; refine hfin.mono ?_; rintro e y1 ⟨r1, rfl, hr1, hx1⟩; obtain ⟨tr, ar, nr, cr, rfl, er, ks⟩ := hr1.opened; have hxn : Ext w y1 := hx.trans hx1; have BOn := BO.ext hx1; have lBOn := BOn.lt; have cBOn := BOn.cell; have fBOn := BOn.frozen)
      refine bp_rebase fun u hu => ?_; have hy : Ext w u := (by rw [hu]; exact (by repeat (first | (with_reducible exact Ext.refl _) | (with_reducible assumption) | (with_reducible apply Ext.grow) | (with_reducible apply Ext.alloc) | (with_reducible apply Ext.drew) | ((with_reducible apply Ext.set); (case hb => (first | omega | (simp; omega))))))); have hsl := (ks.set (k := w.heap.size) (j := 0) (x := .bool tr) BOn (by decide)).set (k := w.heap.size) (j := 1) (x := .slice ar nr cr) BOn.setSame (by decide); rw [← hu] at hsl; have BF : Blk u w.heap.size #[.bool tr, .slice ar nr cr] 33 := (by rw [hu]; exact (by repeat (first | (with_reducible assumption) | ((with_reducible refine Blk.new _ _ _ ?_); (simp; done)) | (with_reducible apply Blk.alloc) | (with_reducible apply Blk.grow) | (with_reducible apply Blk.drew) | (with_reducible apply Blk.set10) | (with_reducible apply Blk.set5) | (with_reducible apply Blk.set4) | (with_reducible apply Blk.tail4) | (with_reducible apply Blk.set2) | (with_reducible apply Blk.set1) | ((with_reducible apply Blk.setOther); (case hne => omega))))); clear hu; have lBF := BF.lt; have cBF := BF.cell; have fBF := BF.frozen; clear BF; exact bodyPost_ret (v := .agg #[.bool tr, .slice ar nr cr]) (by simp [results, Tryz.results44, go_sem, cBF]) rfl ⟨_, rfl, BigV.shut er hsl, hy⟩
    · have hq : n / 65536 ^ k < 9223372036854775808 := Nat.lt_of_le_of_lt (Nat.div_le_self _ _) hn
      have hk : k < 8 := by
        rcases Nat.lt_or_ge k 8 with h | h
        · exact h
        · exfalso; apply h0
          exact Nat.div_eq_of_lt (Nat.lt_of_lt_of_le hn (Nat.le_trans (by decide : 9223372036854775808 ≤ 65536 ^ 8) (Nat.pow_le_pow_right (by omega) h)))
      have hdg : n / 65536 ^ k % 65536 = wnD n k := rfl
      have hdv : n / 65536 ^ k / 65536 = n / 65536 ^ (k + 1) := by rw [Nat.pow_succ, Nat.div_div_eq_div_mul]
      have HDG := Lib.hid hdg
      have HDV := Lib.hid hdv
      have HDS := Lib.hid (dlist_succ n k)
      clear hdg hdv
      generalize n / 65536 ^ k = q at *
      have hq0 : 0 < q := by omega
      clear h0
      have hbs : w.heap.size + 1 ≤ wr.heap.size := BO.lt
      have hlt := hown.lt
      have hdg' : (q : Int) % 65536 = ((wnD n k : Nat) : Int) := by have := HDG.out; omega
      go_wp2_with (at_builtin; refine wpList_append_own _ rfl (.tmp 16) (.tmp 19) 31 rfl (w.heap.size + 1) 2 i0 (.int .i64 0) 1 8 Tryz.underlying31 hi hz0 hz1 hz2 rfl (by decide) _ _ _ rfl (hown.alloc _) ⟨wr.heap.size, 0, none⟩ 1 1 [i64 (wnD n k)] rfl rfl ?c1 ?c2 ?c3 ?c4 ?c5 ?_)
      case c1 =>
        intro t u h
        rcases t with _ | t
        · cases h; simp [go_sem]
        · cases h
      case c2 => intro u h; simp at h; subst h; rfl
      case c3 => unfold maxLen; omega
      case c4 => omega
      case c5 => simp; omega
      intro v' w1 hown1 hgrow1 _
      go_wp2
      go_roundw
      case rel =>
        refine ⟨k + 1, by rw [← HDV.out]; simp, ?_, (hnx.alloc hnx.size _).grown hgrow1 (by simp; have := hnx.size; omega) (fun b hb => by have := hlt b hb; omega), ?_, by omega⟩
        · rw [HDS.out, List.map_append]; exact hown1
        · refine (BO.alloc _).grown hgrow1 (fun hb => ?_)
          have := hlt _ hb.symm; omega
      case measure => simp [intOf]; omega
end Go.Proofs.YtjkchmegnfbfoaaGreatDoor

namespace Go.Proofs.YtjkchmegnfbfoaaGreatDoor
open Go Go.RowKit
set_option linter.unusedSimpArgs false
set_option linter.unusedVariables false
set_option maxRecDepth 100000

set_option maxHeartbeats 4000000 in
theorem Num_neg (n : Nat) (hn : n < 9223372036854775808) (hn0 : 0 < n) (w : World) :
    Calls Tryz.prog 44 #[.int .i64 (-(n : Int))] w (RetB (fun W r => BigV W r (-(n : Int))) w) := by
  have h1 : (-(n : Int) == -9223372036854775808) = false := by simp; omega
  have hneg : decide (-(n : Int) < 0) = true := by simp; omega
  have hlo : -9223372036854775808 ≤ -(n : Int) := by omega
  have hhi : -(n : Int) ≤ 0 := by omega
  obtain ⟨i0, hi, hz0, hz1, hz2⟩ := info_parts info_i64
  go_enter Tryz.func44, Tryz.ntmps44
  go_wp2
  go_loopw [0, 4] (fun nv out wr => ∃ k : Nat, nv = .int .i64 ((n / 65536 ^ k : Nat) : Int) ∧ wr.ownsRow (w.heap.size + 1) 2 1 out k ((dlist n k).map i64) ∧ Below w.heap.size w wr ∧ Blk wr w.heap.size #[.bool false, .slice none 0 0] 33 ∧ k ≤ 8) (fun nv _ _ => (intOf nv).toNat)
  case atStart => exact ⟨0, by simp, World.ownsRow_nil _ _ _ _, Below.alloc (Below.refl _ w) (Nat.le_refl _) _, Blk.new _ _ _ rfl, by omega⟩
  case round =>
    obtain ⟨k, rfl, hown, hnx, BO, hk8⟩ := hrel
    by_cases h0 : n / 65536 ^ k = 0
    · have hlt : n < 65536 ^ k := by
        have := (Nat.div_eq_zero_iff_lt (Nat.pow_pos (by omega : 0 < 65536))).1 h0
        exact this
      have hfin := of_ret true u4 (dlist n k) (by rw [dlist_len]; omega) (dlist_digs _ _) wr (SlC.owned hown (by rw [dlist_len]))
      rw [dlist_dval, Nat.mod_eq_of_lt hlt, show sv true n = -(n : Int) from rfl] at hfin
      have hx : Ext w wr := Ext.of_below hnx
      have h0' : ((n / 65536 ^ k : Nat) : Int) = 0 := by rw [h0]; rfl
      rw [h0']
      clear hown hlt h0 h0'
      go_wp2_with (go_at_call 58; refine hfin.mono ?_; rintro e y1 ⟨r1, rfl, hr1, hx1⟩; obtain ⟨tr, ar, nr, cr, rfl, er, ks⟩ := hr1.opened; have hxn : Ext w y1 := hx.trans hx1; have BOn := BO.ext hx1; have lBOn := BOn.lt; have cBOn := BOn.cell; have fBOn := BOn.frozen)
      refine bp_rebase fun u hu => ?_; have hy : Ext w u := (by rw [hu]; exact (by repeat (first | (with_reducible exact Ext.refl _) | (with_reducible assumption) | (with_reducible apply Ext.grow) | (with_reducible apply Ext.alloc) | (with_reducible apply Ext.drew) | ((with_reducible apply Ext.set); (case hb => (first | omega | (simp; omega))))))); have hsl := (ks.set (k := w.heap.size) (j := 0) (x := .bool tr) BOn (by decide)).set (k := w.heap.size) (j := 1) (x := .slice ar nr cr) BOn.setSame (by decide); rw [← hu] at hsl; have BF : Blk u w.heap.size #[.bool tr, .slice ar nr cr] 33 := (by rw [hu]; exact (by repeat (first | (with_reducible assumption) | ((with_reducible refine Blk.new _ _ _ ?_); (simp; done)) | (with_reducible apply Blk.alloc) | (with_reducible apply Blk.grow) | (with_reducible apply Blk.drew) | (with_reducible apply Blk.set10) | (with_reducible apply Blk.set5) | (with_reducible apply Blk.set4) | (with_reducible apply Blk.tail4) | (with_reducible apply Blk.set2) | (with_reducible apply Blk.set1) | ((with_reducible apply Blk.setOther); (case hne => omega))))); clear hu; have lBF := BF.lt; have cBF := BF.cell; have fBF := BF.frozen; clear BF; exact bodyPost_ret (v := .agg #[.bool tr, .slice ar nr cr]) (by simp [results, Tryz.results44, go_sem, cBF]) rfl ⟨_, rfl, BigV.shut er hsl, hy⟩
    · have hq : n / 65536 ^ k < 9223372036854775808 := Nat.lt_of_le_of_lt (Nat.div_le_self _ _) hn
      have hk : k < 8 := by
        rcases Nat.lt_or_ge k 8 with h | h
        · exact h
        · exfalso; apply h0
          exact Nat.div_eq_of_lt (Nat.lt_of_lt_of_le hn (Nat.le_trans (by decide : 9223372036854775808 ≤ 65536 ^ 8) (Nat.pow_le_pow_right (by omega) h)))
      have hdg : n / 65536 ^ k % 65536 = wnD n k := rfl
      have hdv : n / 65536 ^ k / 65536 = n / 65536 ^ (k + 1) := by rw [Nat.pow_succ, Nat.div_div_eq_div_mul]
      have HDG := Lib.hid hdg
      have HDV := Lib.hid hdv
      have HDS := Lib.hid (dlist_succ n k)
      clear hdg hdv
      generalize n / 65536 ^ k = q at *
      have hq0 : 0 < q := by omega
      clear h0
      have hbs : w.heap.size + 1 ≤ wr.heap.size := BO.lt
      have hlt := hown.lt
      have hdg' : (q : Int) % 65536 = ((wnD n k : Nat) : Int) := by have := HDG.out; omega
      go_wp2_with (at_builtin; refine wpList_append_own _ rfl (.tmp 16) (.tmp 19) 31 rfl (w.heap.size + 1) 2 i0 (.int .i64 0) 1 8 Tryz.underlying31 hi hz0 hz1 hz2 rfl (by decide) _ _ _ rfl (hown.alloc _) ⟨wr.heap.size, 0, none⟩ 1 1 [i64 (wnD n k)] rfl rfl ?c1 ?c2 ?c3 ?c4 ?c5 ?_)
      case c1 =>
        intro t u h
        rcases t with _ | t
        · cases h; simp [go_sem]
        · cases h
      case c2 => intro u h; simp at h; subst h; rfl
      case c3 => unfold maxLen; omega
      case c4 => omega
      case c5 => simp; omega
      intro v' w1 hown1 hgrow1 _
      go_wp2
      go_roundw
      case rel =>
        refine ⟨k + 1, by rw [← HDV.out]; simp, ?_, (hnx.alloc hnx.size _).grown hgrow1 (by simp; have := hnx.size; omega) (fun b hb => by have := hlt b hb; omega), ?_, by omega⟩
        · rw [HDS.out, List.map_append]; exact hown1
        · refine (BO.alloc _).grown hgrow1 (fun hb => ?_)
          have := hlt _ hb.symm; omega
      case measure => simp [intOf]; omega
theorem dg_min : dg 9223372036854775808 = [0, 0, 0, 32768] := by
  have := trim_eq_dg [0, 0, 0, 32768] (by intro d hd; simp at hd; omega)
  rw [show dval [0, 0, 0, 32768] = 9223372036854775808 from rfl] at this
  rw [← this]; rfl
set_option maxHeartbeats 4000000 in
theorem Num_min (w : World) :
    Calls Tryz.prog 44 #[.int .i64 (-9223372036854775808)] w (RetB (fun W r => BigV W r (-9223372036854775808)) w) := by
  go_enter Tryz.func44, Tryz.ntmps44
  go_wp2
  refine bp_rebase fun u hu => ?_
  have hy : Ext w u := by rw [hu]; exact (by repeat (first | (with_reducible exact Ext.refl _) | (with_reducible assumption) | (with_reducible apply Ext.grow) | (with_reducible apply Ext.alloc) | (with_reducible apply Ext.drew) | ((with_reducible apply Ext.set); (case hb => (first | omega | (simp; omega))))))
  have BF : Blk u w.heap.size #[.bool true, .slice (some ⟨w.heap.size + 1, 0, none⟩) 4 4] 33 := by rw [hu]; exact (by repeat (first | (with_reducible assumption) | ((with_reducible refine Blk.new _ _ _ ?_); (simp; done)) | (with_reducible apply Blk.alloc) | (with_reducible apply Blk.grow) | (with_reducible apply Blk.drew) | (with_reducible apply Blk.set10) | (with_reducible apply Blk.set5) | (with_reducible apply Blk.set4) | (with_reducible apply Blk.tail4) | (with_reducible apply Blk.set2) | (with_reducible apply Blk.set1) | ((with_reducible apply Blk.setOther); (case hne => omega))))
  have BD : Blk u (w.heap.size + 1) #[.int .i64 0, .int .i64 0, .int .i64 0, .int .i64 32768] 2 := by rw [hu]; exact (by repeat (first | (with_reducible assumption) | ((with_reducible refine Blk.new _ _ _ ?_); (simp; done)) | (with_reducible apply Blk.alloc) | (with_reducible apply Blk.grow) | (with_reducible apply Blk.drew) | (with_reducible apply Blk.set10) | (with_reducible apply Blk.set5) | (with_reducible apply Blk.set4) | (with_reducible apply Blk.tail4) | (with_reducible apply Blk.set2) | (with_reducible apply Blk.set1) | ((with_reducible apply Blk.setOther); (case hne => omega))))
  clear hu
  have lBF := BF.lt; have cBF := BF.cell; have fBF := BF.frozen
  refine bodyPost_ret (v := .agg #[.bool true, .slice (some ⟨w.heap.size + 1, 0, none⟩) 4 4]) (by simp [results, Tryz.results44, go_sem, cBF]) rfl ⟨_, rfl, ⟨_, rfl, ?_⟩, hy⟩
  show SlC u _ (dg 9223372036854775808)
  rw [dg_min]
  refine ⟨.inr ⟨w.heap.size + 1, 0, 4, rfl, ⟨_, _, BD⟩, fun i hi => ?_⟩, fun a n c h => by cases h; exact Nat.le_refl _⟩
  rw [BD.cell]
  simp at hi
  rcases (by omega : i = 0 ∨ i = 1 ∨ i = 2 ∨ i = 3) with rfl | rfl | rfl | rfl <;> rfl
/-- A word's number. -/
theorem bNum (z : Int) (h1 : -9223372036854775808 ≤ z) (h2 : z < 9223372036854775808) (w : World) :
    Calls Tryz.prog 44 #[.int .i64 z] w (RetB (fun W r => BigV W r z) w) := by
  by_cases h : 0 ≤ z
  · obtain ⟨n, rfl⟩ := Int.eq_ofNat_of_zero_le h
    exact Num_pos n (by omega) w
  · by_cases hm : z = -9223372036854775808
    · subst hm; exact Num_min w
    · obtain ⟨n, hn⟩ : ∃ n : Nat, z = -(n : Int) := ⟨z.natAbs, by omega⟩
      subst hn
      exact Num_neg n (by omega) (by omega) w
end Go.Proofs.YtjkchmegnfbfoaaGreatDoor

namespace Go.Proofs.YtjkchmegnfbfoaaGreatDoor
open Go Go.RowKit
set_option linter.unusedSimpArgs false
set_option linter.unusedVariables false
set_option maxRecDepth 100000
set_option exponentiation.threshold 1000

theorem D4 : D ^ 4 = B := by rw [D_eq, B_eq]
theorem D_split (i : Nat) : 65536 ^ i = B ^ (i / 4) * 65536 ^ (i % 4) := by
  rw [← D4, ← Nat.pow_mul, D_eq, ← Nat.pow_add]; congr 1; omega
theorem B4_D : B4 = 65536 ^ 16 := by decide
theorem put16 (x d i j : Nat) (hx : x < 65536 ^ i) (hd : d < 65536) : wn (x + d * 65536 ^ i) j = if j = i / 4 then wn x j + d * 65536 ^ (i % 4) else wn x j := by
  have hp : ∀ k, 0 < B ^ k := fun k => Nat.pow_pos B_pos
  have hs := D_split i
  have hr : 65536 ^ (i % 4) * 65536 ≤ B := by
    rw [← D4, D_eq, ← Nat.pow_succ]; exact Nat.pow_le_pow_right (by omega) (by omega)
  by_cases hj : j = i / 4
  · subst hj
    rw [if_pos rfl]
    unfold wn
    have e1 : d * 65536 ^ i = B ^ (i / 4) * (d * 65536 ^ (i % 4)) := by rw [hs, Nat.mul_left_comm]
    have hq : x / B ^ (i / 4) < 65536 ^ (i % 4) := by
      rw [Nat.div_lt_iff_lt_mul (hp _), Nat.mul_comm]; rw [hs] at hx; exact hx
    have h2 : d * 65536 ^ (i % 4) + 65536 ^ (i % 4) ≤ 65536 ^ (i % 4) * 65536 := by
      rw [Nat.mul_comm _ 65536, ← Nat.succ_mul]; exact Nat.mul_le_mul_right _ (by omega)
    have hA : x / B ^ (i / 4) + d * 65536 ^ (i % 4) < B := by omega
    have hA' : x / B ^ (i / 4) < B := by omega
    rw [e1, Nat.add_mul_div_left _ _ (hp _), Nat.mod_eq_of_lt hA, Nat.mod_eq_of_lt hA']
  · rw [if_neg hj]
    rcases Nat.lt_or_gt_of_ne hj with h | h
    · obtain ⟨k, hk⟩ : ∃ k, i / 4 = j + 1 + k := ⟨i / 4 - (j + 1), by omega⟩
      unfold wn
      have e1 : d * 65536 ^ i = B ^ j * (B * (B ^ k * (d * 65536 ^ (i % 4)))) := by
        rw [hs, hk, Nat.pow_add, Nat.pow_succ]
        rw [Nat.mul_left_comm]; simp only [Nat.mul_assoc, Nat.mul_left_comm d]
      rw [e1, Nat.add_mul_div_left _ _ (hp _), Nat.add_mul_mod_self_left]
    · have h1 : x + d * 65536 ^ i < 65536 ^ i * 65536 := by
        have : d * 65536 ^ i + 65536 ^ i ≤ 65536 ^ i * 65536 := by rw [Nat.mul_comm _ 65536, ← Nat.succ_mul]; exact Nat.mul_le_mul_right _ (by omega)
        omega
      have h2 : 65536 ^ i * 65536 ≤ B ^ j := by
        rw [← Nat.pow_succ, ← D4, ← Nat.pow_mul, D_eq]; exact Nat.pow_le_pow_right (by omega) (by omega)
      have h3 : x < B ^ j := by have := Nat.le_mul_of_pos_right (65536 ^ i) (by omega : 0 < 65536); omega
      rw [wn_high _ _ (by omega), wn_high _ _ h3]
theorem or16 (x d i : Nat) (hx : x < 65536 ^ i) (hd : d < 65536) : bits .or .u64 ((wn x (i / 4) : Nat) : Int) ((d * 65536 ^ (i % 4) : Nat) : Int) = ((wn (x + d * 65536 ^ i) (i / 4) : Nat) : Int) := by
  have hl := wn_lt (x + d * 65536 ^ i) (i / 4)
  rw [put16 x d i _ hx hd, if_pos rfl] at hl
  have hl0 := wn_lt x (i / 4)
  have hq : wn x (i / 4) < 65536 ^ (i % 4) := by
    unfold wn
    refine Nat.lt_of_le_of_lt (Nat.mod_le _ _) ?_
    rw [Nat.div_lt_iff_lt_mul (Nat.pow_pos B_pos), Nat.mul_comm, ← D_split]; exact hx
  rw [B_eq] at hl hl0
  rw [(bits_nat .u64 64 (by decide) (fun n h0 h1 => by rw [IntKind.wrap_u64]; omega) (wn x (i / 4)) (d * 65536 ^ (i % 4)) (by omega) (by omega)).2]
  rw [put16 x d i _ hx hd, if_pos rfl]
  congr 1
  have e : 65536 ^ (i % 4) = 2 ^ (16 * (i % 4)) := by rw [Nat.pow_mul]
  rw [e] at hq ⊢
  have := Nat.two_pow_add_eq_or_of_lt hq d
  rw [Nat.or_comm, Nat.mul_comm d, ← this]; omega
def Holds5 (s : Bool) (f : Nat → Nat) (A : Array Value) : Prop := A.size = 5 ∧ A[0]? = some (.bool s) ∧ ∀ j, j < 4 → A[1 + j]? = some (q64 (f j))
theorem Holds5.lit {s : Bool} {f : Nat → Nat} {A : Array Value} (h : Holds5 s f A) : A = #[.bool s, q64 (f 0), q64 (f 1), q64 (f 2), q64 (f 3)] := by
  obtain ⟨h1, h2, h3⟩ := h
  apply Array.ext_getElem?
  intro i
  rcases i with _ | _ | _ | _ | _ | i
  · simpa using h2
  · simpa using h3 0 (by omega)
  · simpa using h3 1 (by omega)
  · simpa using h3 2 (by omega)
  · simpa using h3 3 (by omega)
  · rw [Array.getElem?_eq_none (by omega), Array.getElem?_eq_none (by simp)]
theorem Holds5.set {s : Bool} {f g : Nat → Nat} {A : Array Value} (h : Holds5 s f A) (i x : Nat) (hi : i < 4) (hx : g i = x) (hg : ∀ j, j < 4 → j ≠ i → g j = f j) : Holds5 s g (A.setIfInBounds (1 + i) (q64 x)) := by
  obtain ⟨h1, h2, h3⟩ := h
  refine ⟨by simp [h1], ?_, fun j hj => ?_⟩
  · rw [Array.getElem?_setIfInBounds_ne (by omega)]; exact h2
  · by_cases e : j = i
    · subst e; rw [Array.getElem?_setIfInBounds_self_of_lt (by omega), hx]
    · rw [Array.getElem?_setIfInBounds_ne (by omega), h3 j hj, hg j hj e]
theorem mod_step (n i : Nat) : n % 65536 ^ (i + 1) = n % 65536 ^ i + wnD n i * 65536 ^ i := by
  have := mod_succD n i; rw [D_eq] at this; omega
set_option maxHeartbeats 8000000 in
theorem bTo_yes (x : Int) (v1 : Value) (hx : x.natAbs < B4) (w : World) (h1 : BigV w v1 x) :
    Calls Tryz.prog 72 #[v1] w fun e w' => e = .returned (.tuple #[intV (decide (x < 0)) x.natAbs, .bool true]) ∧ Ext w w' := by
  obtain ⟨t1, a1, n1, c1, rfl, e1, k1⟩ := h1.opened
  obtain ⟨n, hn⟩ : ∃ n, n = x.natAbs := ⟨_, rfl⟩
  obtain ⟨h11, h12⟩ := e1.out
  rw [← hn] at k1 h12 hx ⊢
  rw [← h11]
  have hl : n1 ≤ 16 := by rw [h12, dg_len_le, ← B4_D]; exact hx
  have K1 : ∀ W, Ext w W → ∀ k, k < n1 → ∃ b o, a1 = some ⟨b, o, none⟩ ∧ b < W.heap.size ∧ W.cell? ⟨b, o + k, none⟩ = some (i64 (wnD n k)) := by
    intro W hxW k hk
    rcases k1.1 with ⟨a, cap, he, e⟩ | ⟨b, o, cap, he, hc⟩
    · rw [h12, e] at hk; exact absurd hk (by simp)
    · cases he
      refine ⟨b, o, rfl, (hc.ext hxW).lt, ?_⟩
      have := (hc.ext hxW).at' k (by omega)
      rwa [dg_digit] at this
  have HN := Lib.hid ((dg_len_le n n1).1 (by omega))
  clear e1 k1 h1 h11 h12 hx hn
  go_enter Tryz.func72, Tryz.ntmps72
  go_wp2
  go_loopg [5] n1 (fun g iv wr => ∃ (k : Nat) (A : Array Value) (d : Gr), g = n1 - k ∧ k ≤ n1 ∧ iv = .int .i64 k ∧ Holds5 t1 (wn (n % 65536 ^ k)) A ∧
      wr = grow (((w.alloc (.cells #[.bool t1, .slice a1 n1 c1] 33)).alloc (.cells #[.bool false, .int .u64 0, .int .u64 0, .int .u64 0, .int .u64 0] 25)).alloc (.cells A 25)) d)
  case atStart => exact ⟨0, _, ⟨#[], fun k => k⟩, by omega, Nat.zero_le _, rfl, ⟨rfl, rfl, fun j hj => by
      have h0 : wn (n % 65536 ^ 0) j = 0 := by rw [Nat.pow_zero, Nat.mod_one, wn_zero]
      rw [h0]
      rcases (by omega : j = 0 ∨ j = 1 ∨ j = 2 ∨ j = 3) with rfl | rfl | rfl | rfl <;> rfl⟩, (grow_none _).symm⟩
  case round =>
    obtain ⟨k, A, d, hg, hk, rfl, hA, rfl⟩ := hrel
    by_cases hlt : k < n1
    · obtain ⟨b, o, rfl, hbl, hcell⟩ := K1 w (Ext.refl w) k hlt
      have hkn : (k : Int) < (n1 : Int) := by omega
      have hk4 : k / 4 < 4 := by omega
      have hcA := hA.2.2 (k / 4) hk4
      have hsz := hA.1
      have h1 : IntKind.i64.wrap ((k : Int) / 4) = ((k / 4 : Nat) : Int) := by rw [IntKind.wrap_i64]; omega
      have h6 : ((k : Int) / 4).toNat = k / 4 := by omega
      have h7 : 0 ≤ (k : Int) / 4 := by omega
      have h8 : (k : Int) / 4 < 4 := by omega
      have h11 : ((k : Int)).tmod 4 = (k : Int) % 4 := by rw [Int.tmod_eq_emod_of_nonneg (by omega)]
      have hb1 : b < w.heap.size + 1 := by omega
      have hb2 : b < w.heap.size + 1 + 1 := by omega
      have hb3 : b < w.heap.size + 1 + 1 + 1 := by omega
      have h9 : 0 ≤ (k : Int) % 4 := by omega
      have h10 : (k : Int) % 4 < 4 := by omega
      have hwd : wnD n k < 65536 := wn_ltD n k
      have hor : bits BinOp.or IntKind.u64 ((wn (n % 65536 ^ k) (k / 4) : Nat) : Int) (IntKind.u64.wrap (IntKind.u64.wrap ((wnD n k : Nat) : Int) * 2 ^ min (IntKind.u64.wrap (IntKind.i64.wrap (16 * ((k : Int) % 4)))).toNat 64)) = ((wn (n % 65536 ^ (k + 1)) (k / 4) : Nat) : Int) := by
        have e1 : IntKind.i64.wrap (16 * ((k : Int) % 4)) = ((16 * (k % 4) : Nat) : Int) := by rw [IntKind.wrap_i64]; omega
        have e2 : IntKind.u64.wrap ((16 * (k % 4) : Nat) : Int) = ((16 * (k % 4) : Nat) : Int) := by rw [IntKind.wrap_u64]; omega
        have e3 : min (16 * (k % 4)) 64 = 16 * (k % 4) := by omega
        have e4 : IntKind.u64.wrap ((wnD n k : Nat) : Int) = ((wnD n k : Nat) : Int) := by rw [IntKind.wrap_u64]; omega
        have e5 : (2 : Int) ^ (16 * (k % 4)) = ((65536 ^ (k % 4) : Nat) : Int) := by rw [Int.pow_mul, Int.natCast_pow]; rfl
        have hb : wnD n k * 65536 ^ (k % 4) < 18446744073709551616 := by
          have h1 : wnD n k * 65536 ^ (k % 4) + 65536 ^ (k % 4) ≤ 65536 * 65536 ^ (k % 4) := by rw [← Nat.succ_mul]; exact Nat.mul_le_mul_right _ (by omega)
          have h2 : 65536 * 65536 ^ (k % 4) ≤ 65536 ^ 4 := by rw [Nat.mul_comm, ← Nat.pow_succ]; exact Nat.pow_le_pow_right (by omega) (by omega)
          have h3 : 0 < 65536 ^ (k % 4) := Nat.pow_pos (by omega)
          have h4 : (65536 : Nat) ^ 4 = 18446744073709551616 := by decide
          omega
        have e6 : IntKind.u64.wrap (((wnD n k : Nat) : Int) * ((65536 ^ (k % 4) : Nat) : Int)) = ((wnD n k * 65536 ^ (k % 4) : Nat) : Int) := by
          rw [← Int.natCast_mul, IntKind.wrap_u64]; omega
        rw [e1, e2, Int.toNat_natCast, e3, e4, e5, e6, or16 _ _ _ (Nat.mod_lt _ (Nat.pow_pos (by omega))) hwd, ← mod_step]
      have HP : ∀ j, wn (n % 65536 ^ (k + 1)) j = if j = k / 4 then wn (n % 65536 ^ k) j + wnD n k * 65536 ^ (k % 4) else wn (n % 65536 ^ k) j := fun j => by
        rw [mod_step]; exact put16 _ _ _ _ (Nat.mod_lt _ (Nat.pow_pos (by omega))) hwd
      have HP' := Lib.hid HP
      clear HP
      clear K1
      go_wp2
      (first | refine wp_region_k' [.p, .p, .p, .p, .p, .p, .r, .p, .r, .p, .p, .r, .p, .p, .p, .p, .p, .p, .p, .p, .p, .w] (by kernel_rfl) (by kernel_rfl) ?_ | refine wp_region_k [.p, .p, .p, .p, .p, .p, .r, .p, .r, .p, .p, .r, .p, .p, .p, .p, .p, .p, .p, .p, .p, .w] (by kernel_rfl) (by kernel_rfl) ?_); (repeat (first | (refine wpK_p rfl (fun K hK => ?_); go_simp; refine hK _ _ ?_; clear hK K) | (refine wpK_r rfl (fun K hK => ?_); go_simp; refine hK _ _ ?_; clear hK K) | (refine wpK_w rfl (fun K hK => ?_); go_simp; refine hK _ _ ?_; clear hK K))); refine wpK_nil ?_; intro d
      go_wp2
      go_roundg (n1 - (k + 1))
      case measure => omega
      case rel => exact ⟨k + 1, _, _, rfl, by omega, by go_num, hA.set (k / 4) _ hk4 rfl (fun j _ hne => by rw [HP'.out, if_neg hne]), rfl⟩
    · obtain rfl : k = n1 := by omega
      rw [Nat.mod_eq_of_lt HN.out] at hA
      have hlit := hA.lit
      subst hlit
      clear hA K1
      go_wp2
      refine bp_rebase fun u hu => ?_
      have hy : Ext w u := by rw [hu]; exact (by repeat (first | (with_reducible exact Ext.refl _) | (with_reducible assumption) | (with_reducible apply Ext.grow) | (with_reducible apply Ext.alloc) | (with_reducible apply Ext.drew) | ((with_reducible apply Ext.set); (case hb => (first | omega | (simp; omega))))))
      have BF : Blk u (w.heap.size + 1) (ints1 t1 n) 25 := by rw [hu]; exact (by repeat (first | (with_reducible assumption) | ((with_reducible refine Blk.new _ _ _ ?_); (simp; done)) | (with_reducible apply Blk.alloc) | (with_reducible apply Blk.grow) | (with_reducible apply Blk.drew) | (with_reducible apply Blk.set10) | (with_reducible apply Blk.set5) | (with_reducible apply Blk.set4) | (with_reducible apply Blk.tail4) | (with_reducible apply Blk.set2) | (with_reducible apply Blk.set1) | ((with_reducible apply Blk.setOther); (case hne => omega))))
      clear hu
      have lBF := BF.lt; have cBF := BF.cell; have fBF := BF.frozen; clear BF
      exact bodyPost_ret (v := .tuple #[intV t1 n, .bool true]) (by simp [results, Tryz.results72, go_sem, cBF]) rfl ⟨rfl, hy⟩
set_option maxHeartbeats 8000000 in
theorem bTo_no (x : Int) (v1 : Value) (hx : ¬ x.natAbs < B4) (hs : Small x) (w : World) (h1 : BigV w v1 x) :
    Calls Tryz.prog 72 #[v1] w fun e w' => e = .returned (.tuple #[.agg #[.bool false, .int .u64 0, .int .u64 0, .int .u64 0, .int .u64 0], .bool false]) ∧ Ext w w' := by
  obtain ⟨t1, a1, n1, c1, rfl, e1, k1⟩ := h1.opened
  have hl : 16 < n1 := by
    rcases Nat.lt_or_ge 16 n1 with h | h
    · exact h
    · exfalso; apply hx; rw [B4_D, ← dg_len_le, ← e1.out.2]; exact h
  have hl2 : n1 ≤ 100000 := by rw [e1.out.2]; exact hs
  clear k1 e1 hx hs h1
  go_enter Tryz.func72, Tryz.ntmps72
  go_wp2
  exact bodyPost_ret (v := .tuple #[.agg #[.bool false, .int .u64 0, .int .u64 0, .int .u64 0, .int .u64 0], .bool false]) (by simp [results, Tryz.results72, go_sem]) rfl ⟨rfl, (by repeat (first | (with_reducible exact Ext.refl _) | (with_reducible assumption) | (with_reducible apply Ext.grow) | (with_reducible apply Ext.alloc) | (with_reducible apply Ext.drew) | ((with_reducible apply Ext.set); (case hb => (first | omega | (simp; omega))))))⟩
end Go.Proofs.YtjkchmegnfbfoaaGreatDoor

namespace Go.Proofs.YtjkchmegnfbfoaaGreatDoor
open Go Go.RowKit
set_option linter.unusedSimpArgs false
set_option linter.unusedVariables false
set_option maxRecDepth 100000

def RetQ (x y : Int) (w : World) (e : Ending) (w' : World) : Prop := ∃ v1 v2, e = .returned (.tuple #[v1, v2]) ∧ BigV w' v1 (x.tdiv y) ∧ BigV w' v2 (x.tmod y) ∧ Ext w w'
theorem int_cases (x : Int) : (x = (x.natAbs : Int) ∧ decide (x < 0) = false) ∨ (x = -(x.natAbs : Int) ∧ decide (x < 0) = true) := by
  by_cases h : x < 0
  · exact .inr ⟨by omega, by simp [h]⟩
  · exact .inl ⟨by omega, by simp [h]⟩
theorem tdiv_nat (m n : Nat) : (m : Int).tdiv (n : Int) = ((m / n : Nat) : Int) := rfl
theorem tmod_nat (m n : Nat) : (m : Int).tmod (n : Int) = ((m % n : Nat) : Int) := rfl
theorem tdiv_sv (x y : Int) : x.tdiv y = sv (!(decide (x < 0) == decide (y < 0))) (x.natAbs / y.natAbs) := by
  rcases int_cases x with ⟨e1, d1⟩ | ⟨e1, d1⟩ <;> rcases int_cases y with ⟨e2, d2⟩ | ⟨e2, d2⟩ <;> rw [d1, d2] <;> conv => lhs; rw [e1, e2]
  · rw [tdiv_nat]; rfl
  · rw [Int.tdiv_neg, tdiv_nat]; rfl
  · rw [Int.neg_tdiv, tdiv_nat]; rfl
  · rw [Int.tdiv_neg, Int.neg_tdiv, tdiv_nat, Int.neg_neg]; rfl
theorem tmod_sv (x y : Int) : x.tmod y = sv (decide (x < 0)) (x.natAbs % y.natAbs) := by
  rcases int_cases x with ⟨e1, d1⟩ | ⟨e1, d1⟩ <;> rcases int_cases y with ⟨e2, d2⟩ | ⟨e2, d2⟩ <;> rw [d1] <;> conv => lhs; rw [e1, e2]
  · rw [tmod_nat]; rfl
  · rw [Int.tmod_neg, tmod_nat]; rfl
  · rw [Int.neg_tmod, tmod_nat]; rfl
  · rw [Int.tmod_neg, Int.neg_tmod, tmod_nat]; rfl
set_option maxHeartbeats 8000000 in
theorem bQuo_short (x y : Int) (v1 v2 : Value) (hx : (dg x.natAbs).length ≤ 3) (hy : (dg y.natAbs).length ≤ 3) (h0 : y ≠ 0) (w : World) (h1 : BigV w v1 x) (h2 : BigV w v2 y) :
    Calls Tryz.prog 57 #[v1, v2] w (RetQ x y w) := by
  obtain ⟨t1, a1, n1, c1, rfl, e1, k1⟩ := h1.opened
  obtain ⟨t2, a2, n2, c2, rfl, e2, k2⟩ := h2.opened
  have HQ1 := Lib.hid (tdiv_sv x y)
  have HQ2 := Lib.hid (tmod_sv x y)
  rw [← e1.out.1, ← e2.out.1] at HQ1
  rw [← e1.out.1] at HQ2
  have l1 : n1 ≤ 3 := by rw [e1.out.2]; exact hx
  have l2 : n2 ≤ 3 := by rw [e2.out.2]; exact hy
  have hm := (dg_len_le x.natAbs 3).1 hx
  have hn := (dg_len_le y.natAbs 3).1 hy
  have hn0 : y.natAbs ≠ 0 := by omega
  have w1 := fun w h => word_dg x.natAbs (.slice a1 n1 c1) hx w h
  have w2 := fun w h => word_dg y.natAbs (.slice a2 n2 c2) hy w h
  unfold RetQ
  rw [HQ1.out, HQ2.out]
  clear HQ1 HQ2 h1 h2 hx hy h0 e1 e2
  generalize x.natAbs = m at *
  generalize y.natAbs = n at *
  have hq : m / n < 281474976710656 := Nat.lt_of_le_of_lt (Nat.div_le_self _ _) (by omega)
  have hr : m % n < 281474976710656 := Nat.lt_of_le_of_lt (Nat.mod_le _ _) (by omega)
  have hd1 : IntKind.i64.wrap ((m : Int) / (n : Int)) = ((m / n : Nat) : Int) := by
    rw [← Int.natCast_ediv]; generalize m / n = z at *; exact wrap_i64_in _ (by omega) (by omega)
  have hd2 : ((m : Int)) % (n : Int) = ((m % n : Nat) : Int) := by omega
  have hd3 : ((m : Int)).tmod (n : Int) = ((m % n : Nat) : Int) := rfl
  have lq : (dg (m / n)).length ≤ 1000000 := Nat.le_trans ((dg_len_le (m / n) 3).2 hq) (by omega)
  have lr : (dg (m % n)).length ≤ 1000000 := Nat.le_trans ((dg_len_le (m % n) 3).2 hr) (by omega)
  generalize m / n = q at *
  generalize m % n = r at *
  have NQ := fun w => Num_pos q (by omega) w
  have NR := fun w => Num_pos r (by omega) w
  have OQ := fun w a n' c h => of_ret (!(t1 == t2)) (.slice a n' c) (dg q) lq (digs_dg _) w h
  have OR := fun w a n' c h => of_ret t1 (.slice a n' c) (dg r) lr (digs_dg _) w h
  simp only [dval_dg] at OQ OR
  clear hq hr hm hn lq lr
  have hfld : ∀ (s : Bool) (a : Option Addr) (n c : Nat) (w : World), (Instr.field 33 (.agg #[.bool s, .slice a n c]) 1).run Tryz.prog w = .ok (.slice a n c) w := fun _ _ _ _ _ => by kernel_rfl
  go_enter Tryz.func57, Tryz.ntmps57
  go_wp2
  refine wp_rebase fun v hv => ?_
  have hx : Ext w v := by rw [hv]; exact (by repeat (first | (with_reducible exact Ext.refl _) | (with_reducible assumption) | (with_reducible apply Ext.grow) | (with_reducible apply Ext.alloc) | (with_reducible apply Ext.drew) | ((with_reducible apply Ext.set); (case hb => (first | omega | (simp; omega))))))
  have BA : Blk v w.heap.size #[.bool t1, .slice a1 n1 c1] 33 := by rw [hv]; exact (by repeat (first | (with_reducible assumption) | ((with_reducible refine Blk.new _ _ _ ?_); (simp; done)) | (with_reducible apply Blk.alloc) | (with_reducible apply Blk.grow) | (with_reducible apply Blk.drew) | (with_reducible apply Blk.set10) | (with_reducible apply Blk.set5) | (with_reducible apply Blk.set4) | (with_reducible apply Blk.tail4) | (with_reducible apply Blk.set2) | (with_reducible apply Blk.set1) | ((with_reducible apply Blk.setOther); (case hne => omega))))
  have BB : Blk v (w.heap.size + 1) #[.bool t2, .slice a2 n2 c2] 33 := by rw [hv]; exact (by repeat (first | (with_reducible assumption) | ((with_reducible refine Blk.new _ _ _ ?_); (simp; done)) | (with_reducible apply Blk.alloc) | (with_reducible apply Blk.grow) | (with_reducible apply Blk.drew) | (with_reducible apply Blk.set10) | (with_reducible apply Blk.set5) | (with_reducible apply Blk.set4) | (with_reducible apply Blk.tail4) | (with_reducible apply Blk.set2) | (with_reducible apply Blk.set1) | ((with_reducible apply Blk.setOther); (case hne => omega))))
  have BO : Blk v (w.heap.size + 1 + 1) #[.bool false, .slice none 0 0] 33 := by rw [hv]; exact (by repeat (first | (with_reducible assumption) | ((with_reducible refine Blk.new _ _ _ ?_); (simp; done)) | (with_reducible apply Blk.alloc) | (with_reducible apply Blk.grow) | (with_reducible apply Blk.drew) | (with_reducible apply Blk.set10) | (with_reducible apply Blk.set5) | (with_reducible apply Blk.set4) | (with_reducible apply Blk.tail4) | (with_reducible apply Blk.set2) | (with_reducible apply Blk.set1) | ((with_reducible apply Blk.setOther); (case hne => omega))))
  have BP : Blk v (w.heap.size + 1 + 1 + 1) #[.bool false, .slice none 0 0] 33 := by rw [hv]; exact (by repeat (first | (with_reducible assumption) | ((with_reducible refine Blk.new _ _ _ ?_); (simp; done)) | (with_reducible apply Blk.alloc) | (with_reducible apply Blk.grow) | (with_reducible apply Blk.drew) | (with_reducible apply Blk.set10) | (with_reducible apply Blk.set5) | (with_reducible apply Blk.set4) | (with_reducible apply Blk.tail4) | (with_reducible apply Blk.set2) | (with_reducible apply Blk.set1) | ((with_reducible apply Blk.setOther); (case hne => omega))))
  clear hv
  have lBA := BA.lt; have cBA := BA.cell; have fBA := BA.frozen; have lBB := BB.lt; have cBB := BB.cell; have fBB := BB.frozen; have lBO := BO.lt; have cBO := BO.cell; have fBO := BO.frozen; have lBP := BP.lt; have cBP := BP.cell; have fBP := BP.frozen
  have u1 : ∀ d, Calls Tryz.prog 91 #[.slice a1 n1 c1] (grow v d) fun e w' => e = .returned (i64 m) ∧ Ext (grow v d) w' := fun d => (w1 _ (k1.ext (hx.grow d))).mono fun e w' ⟨he, hw⟩ => ⟨he, by subst hw; exact Ext.refl _⟩
  have u2 : ∀ d, Calls Tryz.prog 91 #[.slice a2 n2 c2] (grow v d) fun e w' => e = .returned (i64 n) ∧ Ext (grow v d) w' := fun d => (w2 _ (k2.ext (hx.grow d))).mono fun e w' ⟨he, hw⟩ => ⟨he, by subst hw; exact Ext.refl _⟩
  --s2
  (first | refine wp_region_k' [.p, .r, .r, .p, .r, .r, .p, .p] (by kernel_rfl) (by kernel_rfl) ?_ | refine wp_region_k [.p, .r, .r, .p, .r, .r, .p, .p] (by kernel_rfl) (by kernel_rfl) ?_); (repeat (first | (refine wpK_p rfl (fun K hK => ?_); go_simp; refine hK _ _ ?_; clear hK K) | (refine wpK_r rfl (fun K hK => ?_); go_simp; refine hK _ _ ?_; clear hK K) | (refine wpK_w rfl (fun K hK => ?_); go_simp; refine hK _ _ ?_; clear hK K) | (refine wpK_r rfl (fun K hK => ?_); go_simp; apply Exists.intro; refine ⟨fun d => ?_, hK _ _ ?_⟩; (first | (with_reducible exact Calls.calm (u1 _)) | (with_reducible exact Calls.calm (u2 _))); clear hK K))); refine wpK_nil ?_; intro d
  --s3
  go_wp2
  --s4
  refine wp_rebase fun v' hv => ?_
  have hx' : Ext v v' := by rw [hv]; exact (by repeat (first | (with_reducible exact Ext.refl _) | (with_reducible assumption) | (with_reducible apply Ext.grow) | (with_reducible apply Ext.alloc) | (with_reducible apply Ext.drew) | ((with_reducible apply Ext.set); (case hb => (first | omega | (simp; omega))))))
  clear hv
  replace hx := hx.trans hx'
  replace BA := BA.ext hx'
  replace BB := BB.ext hx'
  replace BO := BO.ext hx'
  replace BP := BP.ext hx'
  clear u1 u2 w1 w2 lBA cBA fBA lBB cBB fBB lBO cBO fBO lBP cBP fBP hx'
  clear v
  obtain ⟨v, rfl⟩ : ∃ v, v = v' := ⟨_, rfl⟩
  have lBA := BA.lt; have cBA := BA.cell; have fBA := BA.frozen; have lBB := BB.lt; have cBB := BB.cell; have fBB := BB.frozen; have lBO := BO.lt; have cBO := BO.cell; have fBO := BO.frozen; have lBP := BP.lt; have cBP := BP.cell; have fBP := BP.frozen
  have hnz : ((n : Int) == 0) = false := by simp; exact hn0
  --s5
  (first | refine wp_region_h' 19 [0, 1, 2, 3, 4, 5, 6, 7, 11, 12, 13, 14, 15] [8, 9, 10, 16, 17, 18] (by kernel_rfl) (by kernel_rfl) ?_ | refine wp_region_h 19 [0, 1, 2, 3, 4, 5, 6, 7, 11, 12, 13, 14, 15] [8, 9, 10, 16, 17, 18] (by kernel_rfl) (by kernel_rfl) ?_); simp only [List.map_cons, List.map_nil, List.getD_cons_succ, List.getD_cons_zero]; (repeat (refine wpHL_l (fun K hK => ?_); go_simp; refine hK _ ?_; clear hK K)); refine wpHL_nil ?_; intro d0; have hx0 : Ext v (grow v d0) := ⟨d0, rfl⟩; generalize grow v d0 = y0 at *; (refine wpT_c (fun K hK => ?_); go_simp; refine ⟨_, _, ⟨rfl, rfl⟩, ?_⟩; (with_reducible refine (NQ _).mono ?_); rintro e y1 ⟨r1, rfl, hr1, hz1⟩; have hx1 : Ext v y1 := hx0.trans hz1; obtain ⟨s1, a1, n1, c1, rfl, e1, k1⟩ := hr1.opened; refine ⟨_, rfl, hx1, hK _ _ ?_⟩; clear hK K); (refine wpT_v (fun K hK => ?_); go_simp; refine hK _ _ ?_; clear hK K); (refine wpT_c (fun K hK => ?_); go_simp; refine ⟨_, _, ⟨rfl, rfl⟩, ?_⟩; (with_reducible refine (OQ _ _ _ _ k1).mono ?_); rintro e y2 ⟨r2, rfl, hr2, hz2⟩; have hx2 : Ext v y2 := hx1.trans hz2; refine ⟨_, rfl, hx2, hK _ _ ?_⟩; clear hK K); (refine wpT_c (fun K hK => ?_); go_simp; refine ⟨_, _, ⟨rfl, rfl⟩, ?_⟩; (with_reducible refine (NR _).mono ?_); rintro e y3 ⟨r3, rfl, hr3, hz3⟩; have hx3 : Ext v y3 := hx2.trans hz3; obtain ⟨s3, a3, n3, c3, rfl, e3, k3⟩ := hr3.opened; refine ⟨_, rfl, hx3, hK _ _ ?_⟩; clear hK K); (refine wpT_v (fun K hK => ?_); go_simp; refine hK _ _ ?_; clear hK K); (refine wpT_c (fun K hK => ?_); go_simp; refine ⟨_, _, ⟨rfl, rfl⟩, ?_⟩; (with_reducible refine (OR _ _ _ _ k3).mono ?_); rintro e y4 ⟨r4, rfl, hr4, hz4⟩; have hx4 : Ext v y4 := hx3.trans hz4; refine ⟨_, rfl, hx4, hK _ _ ?_⟩; clear hK K); refine wpT_nil ?_; simp only [List.drop_succ_cons, List.drop_zero]
  obtain ⟨sa, aa, na, ca, rfl, ea, ka⟩ := (hr2.ext (hz3.trans hz4)).opened
  obtain ⟨sb, ab, nb, cb, rfl, eb, kb⟩ := hr4.opened
  have BO4 := BO.ext hx4
  have BP4 := BP.ext hx4
  have hxn : Ext w y4 := hx.trans hx4
  have lBO4 := BO4.lt; have cBO4 := BO4.cell; have fBO4 := BO4.frozen; have lBP4 := BP4.lt; have cBP4 := BP4.cell; have fBP4 := BP4.frozen
  go_wp2
  refine bp_rebase fun u hu => ?_
  have hy : Ext w u := by rw [hu]; exact (by repeat (first | (with_reducible exact Ext.refl _) | (with_reducible assumption) | (with_reducible apply Ext.grow) | (with_reducible apply Ext.alloc) | (with_reducible apply Ext.drew) | ((with_reducible apply Ext.set); (case hb => (first | omega | (simp; omega))))))
  have BF : Blk u (w.heap.size + 1 + 1) #[.bool sa, .slice aa na ca] 33 := by rw [hu]; exact (by repeat (first | (with_reducible assumption) | ((with_reducible refine Blk.new _ _ _ ?_); (simp; done)) | (with_reducible apply Blk.alloc) | (with_reducible apply Blk.grow) | (with_reducible apply Blk.drew) | (with_reducible apply Blk.set10) | (with_reducible apply Blk.set5) | (with_reducible apply Blk.set4) | (with_reducible apply Blk.tail4) | (with_reducible apply Blk.set2) | (with_reducible apply Blk.set1) | ((with_reducible apply Blk.setOther); (case hne => omega))))
  have BG : Blk u (w.heap.size + 1 + 1 + 1) #[.bool sb, .slice ab nb cb] 33 := by rw [hu]; exact (by repeat (first | (with_reducible assumption) | ((with_reducible refine Blk.new _ _ _ ?_); (simp; done)) | (with_reducible apply Blk.alloc) | (with_reducible apply Blk.grow) | (with_reducible apply Blk.drew) | (with_reducible apply Blk.set10) | (with_reducible apply Blk.set5) | (with_reducible apply Blk.set4) | (with_reducible apply Blk.tail4) | (with_reducible apply Blk.set2) | (with_reducible apply Blk.set1) | ((with_reducible apply Blk.setOther); (case hne => omega))))
  have BP5 : Blk ((y4.setCell ⟨w.heap.size + 1 + 1, 0, none⟩ (.bool sa)).setCell ⟨w.heap.size + 1 + 1, 1, none⟩ (.slice aa na ca)) (w.heap.size + 1 + 1 + 1) _ _ := (BP4.setOther (by omega)).setOther (by omega)
  have hsa := (((ka.set (j := 0) (x := .bool sa) BO4 (by decide)).set (j := 1) (x := .slice aa na ca) BO4.setSame (by decide)).set (j := 0) (x := .bool sb) BP5 (by decide)).set (j := 1) (x := .slice ab nb cb) BP5.setSame (by decide)
  have hsb := (((kb.set (j := 0) (x := .bool sa) BO4 (by decide)).set (j := 1) (x := .slice aa na ca) BO4.setSame (by decide)).set (j := 0) (x := .bool sb) BP5 (by decide)).set (j := 1) (x := .slice ab nb cb) BP5.setSame (by decide)
  rw [← hu] at hsa hsb
  clear hu
  have lBF := BF.lt; have cBF := BF.cell; have fBF := BF.frozen; have lBG := BG.lt; have cBG := BG.cell; have fBG := BG.frozen; clear BF BG
  exact bodyPost_ret (v := .tuple #[.agg #[.bool sa, .slice aa na ca], .agg #[.bool sb, .slice ab nb cb]]) (by simp [results, Tryz.results57, go_sem, cBF, cBG]) rfl ⟨_, _, rfl, BigV.shut ea hsa, BigV.shut eb hsb, hy⟩
end Go.Proofs.YtjkchmegnfbfoaaGreatDoor

namespace Go.Proofs.YtjkchmegnfbfoaaGreatDoor
open Go Go.RowKit
set_option linter.unusedSimpArgs false
set_option linter.unusedVariables false
set_option maxRecDepth 100000
set_option exponentiation.threshold 3000

theorem two_mod (x y : Nat) (hy : 0 < y) (h : y ≤ x) : 2 * (x % y) ≤ x := by
  have h1 := Nat.mod_lt x hy
  have h2 := Nat.div_add_mod x y
  have h3 : 1 ≤ x / y := (Nat.one_le_div_iff hy).2 h
  have h4 : y ≤ y * (x / y) := Nat.le_mul_of_pos_right _ h3
  omega
/-- What bounds the rounds of Euclid's way. -/
def Euc (M k x y : Nat) : Prop := (k = 0 ∧ x * y ≤ M) ∨ (y < x ∧ x * y * 2 ^ k ≤ 2 * M)
theorem Euc.step {M k x y : Nat} (h : Euc M k x y) (hy : 0 < y) : Euc M (k + 1) y (x % y) := by
  refine .inr ⟨Nat.mod_lt _ hy, ?_⟩
  rcases h with ⟨rfl, h⟩ | ⟨h1, h2⟩
  · have : y * (x % y) ≤ x * y := by rw [Nat.mul_comm x y]; exact Nat.mul_le_mul_left _ (Nat.mod_le _ _)
    omega
  · have h3 := two_mod x y hy (by omega)
    have h4 : y * (x % y) * 2 ^ (k + 1) = y * (2 * (x % y)) * 2 ^ k := by
      rw [Nat.pow_succ]; simp only [Nat.mul_assoc, Nat.mul_comm, Nat.mul_left_comm]
    rw [h4]
    refine Nat.le_trans (Nat.mul_le_mul_right _ (Nat.mul_le_mul_left _ h3)) ?_
    rw [Nat.mul_comm y x]; exact h2
theorem Euc.bound {k x y : Nat} (h : Euc (2 ^ 1040) k x y) (hy : 0 < y) : k < 2000 := by
  rcases h with ⟨rfl, _⟩ | ⟨h1, h2⟩
  · omega
  · have h3 : 2 ^ k ≤ x * y * 2 ^ k := Nat.le_mul_of_pos_left _ (Nat.mul_pos (by omega) hy)
    have h4 : 2 ^ k ≤ 2 ^ 1041 := Nat.le_trans h3 (by rw [show (2 : Nat) ^ 1041 = 2 * 2 ^ 1040 by rw [Nat.pow_succ, Nat.mul_comm]]; exact h2)
    have := (Nat.pow_le_pow_iff_right (by omega : 1 < 2)).1 h4
    omega
theorem BigV.parts {W : World} {s : Bool} {a : Option Addr} {n c : Nat} {z : Int} (h : BigV W (.agg #[.bool s, .slice a n c]) z) : s = decide (z < 0) ∧ n = (dg z.natAbs).length ∧ SlC W (.slice a n c) (dg z.natAbs) := by
  obtain ⟨sl, e, ks⟩ := h
  have e1 : (#[.bool s, .slice a n c] : Array Value) = #[.bool (decide (z < 0)), sl] := by injection e
  have e2 : s = decide (z < 0) ∧ Value.slice a n c = sl := by simpa using e1
  obtain ⟨rfl, rfl⟩ := e2
  obtain ⟨a', cap, e3⟩ := ks.len
  cases e3
  exact ⟨rfl, rfl, ks⟩
theorem BigV.set {W : World} {v : Value} {z : Int} {k j : Nat} {cs : Array Value} {T : TypeId} {x : Value} (h : BigV W v z) (hB : Blk W k cs T) (hT : T ≠ 2) : BigV (W.setCell ⟨k, j, none⟩ x) v z := by
  obtain ⟨sl, h1, h2⟩ := h; exact ⟨sl, h1, h2.set hB hT⟩
abbrev bigC (s : Bool) (a : Option Addr) (n c : Nat) : Array Value := #[.bool s, .slice a n c]
set_option maxHeartbeats 8000000 in
theorem bGcd (N : Nat) (hN : N ≤ 2 ^ 520) (hQ : ∀ x y : Nat, x < N → y < N → y ≠ 0 → ∀ v1 v2 w, BigV w v1 (x : Int) → BigV w v2 (y : Int) → Calls Tryz.prog 57 #[v1, v2] w (RetQ x y w))
    (x y : Int) (v1 v2 : Value) (hx : x.natAbs < N) (hy : y.natAbs < N) (w : World) (h1 : BigV w v1 x) (h2 : BigV w v2 y) :
    Calls Tryz.prog 43 #[v1, v2] w (RetB (fun W r => BigV W r (Nat.gcd x.natAbs y.natAbs : Nat)) w) := by
  have small : ∀ m, m < N → (dg m).length ≤ 100 := fun m h => (dg_len_le m 100).2 (Nat.lt_of_lt_of_le (Nat.lt_of_lt_of_le h hN) (by decide))
  obtain ⟨t1, a1, n1, c1, rfl, e1, k1⟩ := h1.opened
  obtain ⟨t2, a2, n2, c2, rfl, e2, k2⟩ := h2.opened
  clear h1 h2 e1 e2
  generalize x.natAbs = m at *
  generalize y.natAbs = n at *
  have OA := fun w h => of_ret false (.slice a1 n1 c1) (dg m) (by have := small m hx; omega) (digs_dg _) w h
  have OB := fun w h => of_ret false (.slice a2 n2 c2) (dg n) (by have := small n hy; omega) (digs_dg _) w h
  simp only [dval_dg, sv_false] at OA OB
  have HE : Euc (2 ^ 1040) 0 m n := .inl ⟨rfl, by
    have : m * n ≤ 2 ^ 520 * 2 ^ 520 := Nat.mul_le_mul (by omega) (by omega)
    rw [show (2 : Nat) ^ 1040 = 2 ^ 520 * 2 ^ 520 by rw [← Nat.pow_add]]; exact this⟩
  have HE := Lib.hid HE
  have HX := Lib.hid hx
  have HY := Lib.hid hy
  have HS := Lib.hid small
  have HG : Hid (Nat.gcd m n = Nat.gcd m n) := Lib.hid rfl
  clear small hx hy hN x y
  go_enter Tryz.func43, Tryz.ntmps43
  go_wp2
  refine wp_rebase fun v hv => ?_
  have hx : Ext w v := by rw [hv]; exact (by repeat (first | (with_reducible exact Ext.refl _) | (with_reducible assumption) | (with_reducible apply Ext.grow) | (with_reducible apply Ext.alloc) | (with_reducible apply Ext.drew) | ((with_reducible apply Ext.set); (case hb => (first | omega | (simp; omega))))))
  have BA : Blk v w.heap.size #[.bool t1, .slice a1 n1 c1] 33 := by rw [hv]; exact (by repeat (first | (with_reducible assumption) | ((with_reducible refine Blk.new _ _ _ ?_); (simp; done)) | (with_reducible apply Blk.alloc) | (with_reducible apply Blk.grow) | (with_reducible apply Blk.drew) | (with_reducible apply Blk.set10) | (with_reducible apply Blk.set5) | (with_reducible apply Blk.set4) | (with_reducible apply Blk.tail4) | (with_reducible apply Blk.set2) | (with_reducible apply Blk.set1) | ((with_reducible apply Blk.setOther); (case hne => omega))))
  have BB : Blk v (w.heap.size + 1) #[.bool t2, .slice a2 n2 c2] 33 := by rw [hv]; exact (by repeat (first | (with_reducible assumption) | ((with_reducible refine Blk.new _ _ _ ?_); (simp; done)) | (with_reducible apply Blk.alloc) | (with_reducible apply Blk.grow) | (with_reducible apply Blk.drew) | (with_reducible apply Blk.set10) | (with_reducible apply Blk.set5) | (with_reducible apply Blk.set4) | (with_reducible apply Blk.tail4) | (with_reducible apply Blk.set2) | (with_reducible apply Blk.set1) | ((with_reducible apply Blk.setOther); (case hne => omega))))
  have BO : Blk v (w.heap.size + 1 + 1) #[.bool false, .slice none 0 0] 33 := by rw [hv]; exact (by repeat (first | (with_reducible assumption) | ((with_reducible refine Blk.new _ _ _ ?_); (simp; done)) | (with_reducible apply Blk.alloc) | (with_reducible apply Blk.grow) | (with_reducible apply Blk.drew) | (with_reducible apply Blk.set10) | (with_reducible apply Blk.set5) | (with_reducible apply Blk.set4) | (with_reducible apply Blk.tail4) | (with_reducible apply Blk.set2) | (with_reducible apply Blk.set1) | ((with_reducible apply Blk.setOther); (case hne => omega))))
  clear hv
  have lBA := BA.lt; have cBA := BA.cell; have fBA := BA.frozen; have lBB := BB.lt; have cBB := BB.cell; have fBB := BB.frozen; have lBO := BO.lt; have cBO := BO.cell; have fBO := BO.frozen
  (first | refine wp_region_h' 6 [0, 1, 3, 4] [2, 5] (by kernel_rfl) (by kernel_rfl) ?_ | refine wp_region_h 6 [0, 1, 3, 4] [2, 5] (by kernel_rfl) (by kernel_rfl) ?_); simp only [List.map_cons, List.map_nil, List.getD_cons_succ, List.getD_cons_zero]; (repeat (refine wpHL_l (fun K hK => ?_); go_simp; refine hK _ ?_; clear hK K)); refine wpHL_nil ?_; intro d0; have hx0 : Ext v (grow v d0) := ⟨d0, rfl⟩; generalize grow v d0 = y0 at *; (refine wpT_c (fun K hK => ?_); go_simp; refine ⟨_, _, ⟨rfl, rfl⟩, ?_⟩; (with_reducible refine (OA _ (k1.ext (hx.trans hx0))).mono ?_); rintro e y1 ⟨r1, rfl, hr1, hz1⟩; have hx1 : Ext v y1 := hx0.trans hz1; refine ⟨_, rfl, hx1, hK _ _ ?_⟩; clear hK K); (refine wpT_c (fun K hK => ?_); go_simp; refine ⟨_, _, ⟨rfl, rfl⟩, ?_⟩; (with_reducible refine (OB _ (k2.ext (hx.trans hx1))).mono ?_); rintro e y2 ⟨r2, rfl, hr2, hz2⟩; have hx2 : Ext v y2 := hx1.trans hz2; refine ⟨_, rfl, hx2, hK _ _ ?_⟩; clear hK K); refine wpT_nil ?_; simp only [List.drop_succ_cons, List.drop_zero]
  obtain ⟨sa, aa, na, ca, rfl, ea, ka⟩ := (hr1.ext hz2).opened
  obtain ⟨sb, ab, nb, cb, rfl, eb, kb⟩ := hr2.opened
  have BA2 := BA.ext hx2
  have BB2 := BB.ext hx2
  have BO2 := BO.ext hx2
  have hxn : Ext w y2 := hx.trans hx2
  have lBA2 := BA2.lt; have cBA2 := BA2.cell; have fBA2 := BA2.frozen; have lBB2 := BB2.lt; have cBB2 := BB2.cell; have fBB2 := BB2.frozen; have lBO2 := BO2.lt; have cBO2 := BO2.cell; have fBO2 := BO2.frozen
  go_wp2
  refine wp_rebase fun v3 hv => ?_
  have hx3 : Ext w v3 := by rw [hv]; exact (by repeat (first | (with_reducible exact Ext.refl _) | (with_reducible assumption) | (with_reducible apply Ext.grow) | (with_reducible apply Ext.alloc) | (with_reducible apply Ext.drew) | ((with_reducible apply Ext.set); (case hb => (first | omega | (simp; omega))))))
  have BA3 : Blk v3 w.heap.size #[.bool sa, .slice aa na ca] 33 := by rw [hv]; exact (by repeat (first | (with_reducible assumption) | ((with_reducible refine Blk.new _ _ _ ?_); (simp; done)) | (with_reducible apply Blk.alloc) | (with_reducible apply Blk.grow) | (with_reducible apply Blk.drew) | (with_reducible apply Blk.set10) | (with_reducible apply Blk.set5) | (with_reducible apply Blk.set4) | (with_reducible apply Blk.tail4) | (with_reducible apply Blk.set2) | (with_reducible apply Blk.set1) | ((with_reducible apply Blk.setOther); (case hne => omega))))
  have BB3 : Blk v3 (w.heap.size + 1) #[.bool sb, .slice ab nb cb] 33 := by rw [hv]; exact (by repeat (first | (with_reducible assumption) | ((with_reducible refine Blk.new _ _ _ ?_); (simp; done)) | (with_reducible apply Blk.alloc) | (with_reducible apply Blk.grow) | (with_reducible apply Blk.drew) | (with_reducible apply Blk.set10) | (with_reducible apply Blk.set5) | (with_reducible apply Blk.set4) | (with_reducible apply Blk.tail4) | (with_reducible apply Blk.set2) | (with_reducible apply Blk.set1) | ((with_reducible apply Blk.setOther); (case hne => omega))))
  have BO3 : Blk v3 (w.heap.size + 1 + 1) #[.bool false, .slice none 0 0] 33 := by rw [hv]; exact (by repeat (first | (with_reducible assumption) | ((with_reducible refine Blk.new _ _ _ ?_); (simp; done)) | (with_reducible apply Blk.alloc) | (with_reducible apply Blk.grow) | (with_reducible apply Blk.drew) | (with_reducible apply Blk.set10) | (with_reducible apply Blk.set5) | (with_reducible apply Blk.set4) | (with_reducible apply Blk.tail4) | (with_reducible apply Blk.set2) | (with_reducible apply Blk.set1) | ((with_reducible apply Blk.setOther); (case hne => omega))))
  have BB4 : Blk ((y2.setCell ⟨w.heap.size, 0, none⟩ (.bool sa)).setCell ⟨w.heap.size, 1, none⟩ (.slice aa na ca)) (w.heap.size + 1) _ _ := (BB2.setOther (by omega)).setOther (by omega)
  have VA := ((((BigV.shut ea ka).set (j := 0) (x := .bool sa) BA2 (by decide)).set (j := 1) (x := .slice aa na ca) BA2.setSame (by decide)).set (j := 0) (x := .bool sb) BB4 (by decide)).set (j := 1) (x := .slice ab nb cb) BB4.setSame (by decide)
  have VB := ((((BigV.shut eb kb).set (j := 0) (x := .bool sa) BA2 (by decide)).set (j := 1) (x := .slice aa na ca) BA2.setSame (by decide)).set (j := 0) (x := .bool sb) BB4 (by decide)).set (j := 1) (x := .slice ab nb cb) BB4.setSame (by decide)
  rw [← hv] at VA VB
  clear hv BB4 BA BB BO BA2 BB2 BO2 lBA cBA fBA lBB cBB fBB lBO cBO fBO lBA2 cBA2 fBA2 lBB2 cBB2 fBB2 lBO2 cBO2 fBO2 hr1 hr2 ka kb hx0 hx1 hx2 hz1 hz2 hxn hx OA OB k1 k2
  go_loopg [5] n (fun g iv wr => ∃ (k X Y : Nat) (s : Bool) (a : Option Addr) (p c : Nat) (s' : Bool) (a' : Option Addr) (p' c' : Nat), iv = .int .i64 k ∧ g = Y ∧ Hid (Euc (2 ^ 1040) k X Y ∧ X < N ∧ Y < N ∧ Nat.gcd X Y = Nat.gcd m n) ∧ Ext w wr ∧
      Blk wr w.heap.size (bigC s a p c) 33 ∧ Blk wr (w.heap.size + 1) (bigC s' a' p' c') 33 ∧ Blk wr (w.heap.size + 1 + 1) #[.bool false, .slice none 0 0] 33 ∧
      BigV wr (.agg (bigC s a p c)) X ∧ BigV wr (.agg (bigC s' a' p' c')) Y)
  case atStart => exact ⟨0, m, n, sa, aa, na, ca, sb, ab, nb, cb, rfl, rfl, Lib.hid ⟨HE.out, HX.out, HY.out, rfl⟩, hx3, BA3, BB3, BO3, VA, VB⟩
  case round =>
    clear VA VB BA3 BB3 BO3 hx3
    obtain ⟨k, X, Y, s, a, p, c, s', a', p', c', rfl, rfl, HI, hxr, BA, BB, BO, VA, VB⟩ := hrel
    obtain ⟨q1, q2, q3⟩ := VB.parts
    obtain ⟨q4, q5, q6⟩ := VA.parts
    by_cases h0 : gk = 0
    · subst h0
      have hp0 : p' = 0 := by rw [q2]; simp [dg_zero]
      subst hp0
      have hz : Hid ((X : Int) = ((Nat.gcd m n : Nat) : Int)) := by
        have := HI.out.2.2.2; rw [Nat.gcd_zero_right] at this; exact Lib.hid (by rw [this])
      have VA' : BigV wr (.agg (bigC s a p c)) ((Nat.gcd m n : Nat) : Int) := by rw [← hz.out]; exact VA
      clear q1 q2 q3 q4 q5 q6 VA VB hz HI HE HX HY HS HG hQ
      have lBA := BA.lt; have cBA := BA.cell; have fBA := BA.frozen; have lBB := BB.lt; have cBB := BB.cell; have fBB := BB.frozen; have lBO := BO.lt; have cBO := BO.cell; have fBO := BO.frozen
      go_wp2
      all_goals
        refine bp_rebase fun u hu => ?_
        have hy : Ext w u := by rw [hu]; exact (by repeat (first | (with_reducible exact Ext.refl _) | (with_reducible assumption) | (with_reducible apply Ext.grow) | (with_reducible apply Ext.alloc) | (with_reducible apply Ext.drew) | ((with_reducible apply Ext.set); (case hb => (first | omega | (simp; omega))))))
        have VU := (VA'.set (j := 0) (x := .bool s) BO (by decide)).set (j := 1) (x := .slice a p c) BO.setSame (by decide)
        rw [← hu] at VU
        have BF : Blk u (w.heap.size + 1 + 1) #[.bool s, .slice a p c] 33 := by rw [hu]; exact (by repeat (first | (with_reducible assumption) | ((with_reducible refine Blk.new _ _ _ ?_); (simp; done)) | (with_reducible apply Blk.alloc) | (with_reducible apply Blk.grow) | (with_reducible apply Blk.drew) | (with_reducible apply Blk.set10) | (with_reducible apply Blk.set5) | (with_reducible apply Blk.set4) | (with_reducible apply Blk.tail4) | (with_reducible apply Blk.set2) | (with_reducible apply Blk.set1) | ((with_reducible apply Blk.setOther); (case hne => omega))))
        clear hu
        have lBF := BF.lt; have cBF := BF.cell; have fBF := BF.frozen; clear BF
        exact bodyPost_ret (v := .agg #[.bool s, .slice a p c]) (by simp [results, Tryz.results43, go_sem, cBF]) rfl ⟨_, rfl, VU, hy⟩
    · have hp0 : 0 < p' := by
        rw [q2]; have := dg_nil (gk : Int).natAbs
        have h1 : dg (gk : Int).natAbs ≠ [] := fun h => by have := this.1 h; omega
        exact List.length_pos_iff.2 h1
      have hp1 : p' ≤ 100 := by rw [q2]; exact HS.out _ (by simpa using HI.out.2.2.1)
      have hk2 : k < 2000 := HI.out.1.bound (by omega)
      have cq := fun w h1 h2 => hQ X gk HI.out.2.1 HI.out.2.2.1 h0 (.agg (bigC s a p c)) (.agg (bigC s' a' p' c')) w h1 h2
      have HR := Lib.hid (tmod_nat X gk)
      unfold RetQ at cq
      rw [HR.out] at cq
      have HI' : Hid (Euc (2 ^ 1040) (k + 1) gk (X % gk) ∧ gk < N ∧ X % gk < N ∧ Nat.gcd gk (X % gk) = Nat.gcd m n ∧ X % gk < gk) := Lib.hid ⟨HI.out.1.step (by omega), HI.out.2.2.1, Nat.lt_of_le_of_lt (Nat.mod_le _ _) HI.out.2.1, by
        have := HI.out.2.2.2; rw [← this, Nat.gcd_comm X gk, Nat.gcd_rec gk X, Nat.gcd_comm], Nat.mod_lt _ (by omega)⟩
      generalize X % gk = R at *
      clear q1 q2 q3 q4 q5 q6 HI HE HX HY HS HG hQ HR
      have lBA := BA.lt; have cBA := BA.cell; have fBA := BA.frozen; have lBB := BB.lt; have cBB := BB.cell; have fBB := BB.frozen; have lBO := BO.lt; have cBO := BO.cell; have fBO := BO.frozen
      go_wp2_with (go_at_call 57; refine (cq _ VA VB).mono ?_; rintro e z ⟨r1, r2, rfl, hr1, hr2, hz⟩; obtain ⟨sa2, aa2, na2, ca2, rfl, ea2, ka2⟩ := hr1.opened; obtain ⟨sb2, ab2, nb2, cb2, rfl, eb2, kb2⟩ := hr2.opened; have VZ := VB.ext hz; have BAz := BA.ext hz; have BBz := BB.ext hz; have BOz := BO.ext hz; have hxz := hxr.trans hz; have lBAz := BAz.lt; have cBAz := BAz.cell; have fBAz := BAz.frozen; have lBBz := BBz.lt; have cBBz := BBz.cell; have fBBz := BBz.frozen; have lBOz := BOz.lt; have cBOz := BOz.cell; have fBOz := BOz.frozen)
      refine wp_rebase fun v5 hv => ?_
      have hx5 : Ext w v5 := by rw [hv]; exact (by repeat (first | (with_reducible exact Ext.refl _) | (with_reducible assumption) | (with_reducible apply Ext.grow) | (with_reducible apply Ext.alloc) | (with_reducible apply Ext.drew) | ((with_reducible apply Ext.set); (case hb => (first | omega | (simp; omega))))))
      have BA5 : Blk v5 w.heap.size #[.bool s, .slice a p c] 33 := by rw [hv]; exact (by repeat (first | (with_reducible assumption) | ((with_reducible refine Blk.new _ _ _ ?_); (simp; done)) | (with_reducible apply Blk.alloc) | (with_reducible apply Blk.grow) | (with_reducible apply Blk.drew) | (with_reducible apply Blk.set10) | (with_reducible apply Blk.set5) | (with_reducible apply Blk.set4) | (with_reducible apply Blk.tail4) | (with_reducible apply Blk.set2) | (with_reducible apply Blk.set1) | ((with_reducible apply Blk.setOther); (case hne => omega))))
      have BB5 : Blk v5 (w.heap.size + 1) #[.bool s', .slice a' p' c'] 33 := by rw [hv]; exact (by repeat (first | (with_reducible assumption) | ((with_reducible refine Blk.new _ _ _ ?_); (simp; done)) | (with_reducible apply Blk.alloc) | (with_reducible apply Blk.grow) | (with_reducible apply Blk.drew) | (with_reducible apply Blk.set10) | (with_reducible apply Blk.set5) | (with_reducible apply Blk.set4) | (with_reducible apply Blk.tail4) | (with_reducible apply Blk.set2) | (with_reducible apply Blk.set1) | ((with_reducible apply Blk.setOther); (case hne => omega))))
      have BO5 : Blk v5 (w.heap.size + 1 + 1) #[.bool false, .slice none 0 0] 33 := by rw [hv]; exact (by repeat (first | (with_reducible assumption) | ((with_reducible refine Blk.new _ _ _ ?_); (simp; done)) | (with_reducible apply Blk.alloc) | (with_reducible apply Blk.grow) | (with_reducible apply Blk.drew) | (with_reducible apply Blk.set10) | (with_reducible apply Blk.set5) | (with_reducible apply Blk.set4) | (with_reducible apply Blk.tail4) | (with_reducible apply Blk.set2) | (with_reducible apply Blk.set1) | ((with_reducible apply Blk.setOther); (case hne => omega))))
      have hzz : Ext z v5 := by rw [hv]; exact (by repeat (first | (with_reducible exact Ext.refl _) | (with_reducible assumption) | (with_reducible apply Ext.grow) | (with_reducible apply Ext.alloc) | (with_reducible apply Ext.drew) | ((with_reducible apply Ext.set); (case hb => (first | omega | (simp; omega))))))
      have lz := BBz.lt
      have n1' : z.heap.size + 1 ≠ w.heap.size := by omega
      have n2' : z.heap.size + 1 ≠ w.heap.size + 1 := by omega
      have B75 : Blk v5 (z.heap.size + 1) #[.bool sb2, .slice ab2 nb2 cb2] 33 := by rw [hv]; exact (by repeat (first | (with_reducible assumption) | ((with_reducible refine Blk.new _ _ _ ?_); (simp; done)) | (with_reducible apply Blk.alloc) | (with_reducible apply Blk.grow) | (with_reducible apply Blk.drew) | (with_reducible apply Blk.set10) | (with_reducible apply Blk.set5) | (with_reducible apply Blk.set4) | (with_reducible apply Blk.tail4) | (with_reducible apply Blk.set2) | (with_reducible apply Blk.set1) | ((with_reducible apply Blk.setOther); (case hne => omega))))
      have V1 := VZ.ext hzz
      have V2 := (BigV.shut eb2 kb2).ext hzz
      clear hv hzz VZ hr1 hr2 ka2 kb2 ea2 eb2 BAz BBz BOz lBAz cBAz fBAz lBBz cBBz fBBz lBOz cBOz fBOz hz hxz lz
      generalize z.heap.size + 1 = b7 at *
      clear BA BB BO lBA cBA fBA lBB cBB fBB lBO cBO fBO VA VB cq hxr
      have n3' := n1'.symm
      have n4' := n2'.symm
      have lBA5 := BA5.lt; have cBA5 := BA5.cell; have fBA5 := BA5.frozen; have lBB5 := BB5.lt; have cBB5 := BB5.cell; have fBB5 := BB5.frozen; have lBO5 := BO5.lt; have cBO5 := BO5.cell; have fBO5 := BO5.frozen; have lB75 := B75.lt; have cB75 := B75.cell; have fB75 := B75.frozen
      go_region
      all_goals
        go_wp2
        have BB6 : Blk ((v5.setCell ⟨w.heap.size, 0, none⟩ (.bool s')).setCell ⟨w.heap.size, 1, none⟩ (.slice a' p' c')) (w.heap.size + 1) _ _ := (BB5.setOther (by omega)).setOther (by omega)
        have W1 := ((((V1.set (j := 0) (x := .bool s') BA5 (by decide)).set (j := 1) (x := .slice a' p' c') BA5.setSame (by decide)).set (j := 0) (x := .bool sb2) BB6 (by decide)).set (j := 1) (x := .slice ab2 nb2 cb2) BB6.setSame (by decide)).ext (Ext.refl _).drew
        have W2 := ((((V2.set (j := 0) (x := .bool s') BA5 (by decide)).set (j := 1) (x := .slice a' p' c') BA5.setSame (by decide)).set (j := 0) (x := .bool sb2) BB6 (by decide)).set (j := 1) (x := .slice ab2 nb2 cb2) BB6.setSame (by decide)).ext (Ext.refl _).drew
        go_roundg R
        case measure => exact HI'.out.2.2.2.2
        case rel =>
          refine ⟨k + 1, gk, R, s', a', p', c', sb2, ab2, nb2, cb2, by go_num, rfl, Lib.hid ⟨HI'.out.1, HI'.out.2.1, HI'.out.2.2.1, HI'.out.2.2.2.1⟩, (by repeat (first | (with_reducible exact Ext.refl _) | (with_reducible assumption) | (with_reducible apply Ext.grow) | (with_reducible apply Ext.alloc) | (with_reducible apply Ext.drew) | ((with_reducible apply Ext.set); (case hb => (first | omega | (simp; omega)))))), (by repeat (first | (with_reducible assumption) | ((with_reducible refine Blk.new _ _ _ ?_); (simp; done)) | (with_reducible apply Blk.alloc) | (with_reducible apply Blk.grow) | (with_reducible apply Blk.drew) | (with_reducible apply Blk.set10) | (with_reducible apply Blk.set5) | (with_reducible apply Blk.set4) | (with_reducible apply Blk.tail4) | (with_reducible apply Blk.set2) | (with_reducible apply Blk.set1) | ((with_reducible apply Blk.setOther); (case hne => omega)))), (by repeat (first | (with_reducible assumption) | ((with_reducible refine Blk.new _ _ _ ?_); (simp; done)) | (with_reducible apply Blk.alloc) | (with_reducible apply Blk.grow) | (with_reducible apply Blk.drew) | (with_reducible apply Blk.set10) | (with_reducible apply Blk.set5) | (with_reducible apply Blk.set4) | (with_reducible apply Blk.tail4) | (with_reducible apply Blk.set2) | (with_reducible apply Blk.set1) | ((with_reducible apply Blk.setOther); (case hne => omega)))), (by repeat (first | (with_reducible assumption) | ((with_reducible refine Blk.new _ _ _ ?_); (simp; done)) | (with_reducible apply Blk.alloc) | (with_reducible apply Blk.grow) | (with_reducible apply Blk.drew) | (with_reducible apply Blk.set10) | (with_reducible apply Blk.set5) | (with_reducible apply Blk.set4) | (with_reducible apply Blk.tail4) | (with_reducible apply Blk.set2) | (with_reducible apply Blk.set1) | ((with_reducible apply Blk.setOther); (case hne => omega)))), W1, W2⟩
end Go.Proofs.YtjkchmegnfbfoaaGreatDoor
