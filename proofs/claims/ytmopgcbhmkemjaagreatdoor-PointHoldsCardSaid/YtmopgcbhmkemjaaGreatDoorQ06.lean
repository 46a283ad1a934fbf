/- The references' numbers: differences of magnitudes. point.each, of two: both parts fit. point.Move. Regions that draw their order: loads, a chain of calls, and new cells that are laid whenever. -/
import Derived.Test.YtmopgcbhmkemjaaGreatDoorProg
import Derived.Test.YtmopgcbhmkemjaaGreatDoorQ05
import Derived.RangeFuncBox
import Derived.Deep.RegionHeld3
namespace Go.Proofs.YtmopgcbhmkemjaaGreatDoor
open Go Go.RowKit
set_option linter.unusedSimpArgs false
set_option linter.unusedVariables false
set_option maxRecDepth 100000

theorem _root_.Go.World.ownsRow.ext2 {w : World} {base : Nat} {e : TypeId} {size n : Nat} {v : Value} {xs : List Value} (h : w.ownsRow base e size v n xs) (d : Gr) : (grow w d).ownsRow base e size v n xs := by
  refine ⟨h.1, h.2.imp id ?_⟩
  rintro ⟨g, cap, cur, h1, h2, h3, h4⟩
  exact ⟨g, cap, cur, h1, h2, by rw [block_grow _ _ _ (Array.getElem?_eq_some_iff.1 h3).1, h3], h4⟩
/-- What is cut of a row of the call's own. -/
theorem cut_own (g n cap : Nat) (ds : List Nat) (hn : ds.length ≤ 1000000) (w : World) (h : SlC w (.slice (some ⟨g, 0, none⟩) n cap) ds) (hl : n = ds.length) :
    Calls Tryz.prog 118 #[.slice (some ⟨g, 0, none⟩) n cap] w (RetB (fun W r => SlC W r (trim ds) ∧ ∃ l c, r = .slice (some ⟨g, 0, none⟩) l c) w) := by
  subst hl
  rcases h.1 with ⟨a, cap', e, rfl⟩ | ⟨b, o, cap', e, hc⟩
  · refine (cut_none _ _ w).mono fun e w' ⟨he, hw⟩ => ?_
    subst hw
    exact ⟨_, he, ⟨h, _, _, rfl⟩, Ext.refl _⟩
  · cases e
    refine (cut_at g 0 cap ds hn (h.2 _ _ _ rfl) w hc).mono fun e w' ⟨he, hw⟩ => ?_
    subst hw
    have ht := trim_take ds
    refine ⟨_, he, ⟨⟨.inr ⟨g, 0, cap, rfl, ?_⟩, fun a n c h' => ?_⟩, _, _, rfl⟩, Ext.refl _⟩
    · rw [ht]; exact hc.take _
    · cases h'; exact Nat.le_trans (trim_le ds) (h.2 _ _ _ rfl)
theorem sub_digit (m n k N : Nat) (hk : k < N) (hm : m < D ^ N) (hn : n ≤ m) : (wnD m k + D - wnD n k - bwD m n k) % D = wnD (m - n) k := by
  rw [wn_subD m n k N hk hm (Nat.lt_of_le_of_lt hn hm), sub_topD m n N hm hn]
set_option maxHeartbeats 4000000 in
theorem less_at (m n : Nat) (hnm : n ≤ m) (v1 v2 : Value) (h1 : (dg m).length ≤ 900000) (h2 : (dg n).length ≤ 900000) (w : World) (s1 : SlC w v1 (dg m)) (s2 : SlC w v2 (dg n)) :
    Calls Tryz.prog 91 #[v1, v2] w (RetB (fun W r => SlC W r (dg (m - n)) ∧ ∃ l c, r = .slice (some ⟨w.heap.size, 0, none⟩) l c) w) := by
  have HM : Hid (m < 65536 ^ (dg m).length) := Lib.hid ((dg_len_le m _).1 (Nat.le_refl _))
  have t2 := fun w' (hx : Ext w w') i hi => at_dg n v2 (by omega) i hi w' (s2.ext hx)
  obtain ⟨a2, c2, rfl⟩ := s2.len
  obtain ⟨L, hL⟩ : ∃ L, L = (dg m).length := ⟨_, rfl⟩
  have K1 : ∃ a1 c1, v1 = .slice a1 L c1 ∧ ∀ W, Ext w W → ∀ k, k < L → ∃ b o, a1 = some ⟨b, o, none⟩ ∧ b < W.heap.size ∧ W.cell? ⟨b, o + k, none⟩ = some (i64 (wnD m k)) := by
    rcases s1.1 with ⟨a, cap, rfl, e⟩ | ⟨b, o, cap, rfl, hc⟩
    · refine ⟨a, cap, by rw [hL, e]; rfl, fun W hx k hk => ?_⟩
      rw [hL, e] at hk; exact absurd hk (by simp)
    · refine ⟨_, cap, by rw [hL], fun W hx k hk => ⟨b, o, rfl, (hc.ext hx).lt, ?_⟩⟩
      have := (hc.ext hx).at' k (by omega)
      rwa [dg_digit] at this
  obtain ⟨a1, c1, rfl, K1⟩ := K1
  rw [← hL] at HM h1
  clear hL s1 s2
  generalize (dg n).length = n2 at *
  obtain ⟨i0, hi, hz0, hz1, hz2⟩ := info_parts info_i64
  go_enter Tryz.func91, Tryz.ntmps91
  go_wp2_with (at_make; refine wpList_make_own _ rfl _ _ 40 rfl w.heap.size 2 i0 (.int .i64 0) 1 Tryz.underlying40 hi hz0 hz1 _ _ _ L rfl rfl (by omega) ?b2 ?b3 (Nat.le_refl _) ?_)
  case b2 => rw [hz2]; omega
  case b3 => unfold maxLen; omega
  intro w0 hown0 hgrow0
  go_wp2
  go_loopw [5, 6, 7] (fun out sc si wr => ∃ k : Nat, k ≤ L ∧ si = .int .i64 k ∧ sc = i64 (bwD m n k) ∧ out = .slice (some ⟨w.heap.size, 0, none⟩) k L ∧
      wr.ownsRow w.heap.size 2 1 (.slice (some ⟨w.heap.size, 0, none⟩) k L) k ((dlist (m - n) k).map i64) ∧ Below w.heap.size w wr) (fun _ _ si _ => L - (intOf si).toNat)
  case atStart => exact ⟨0, Nat.zero_le _, rfl, by rw [bw_zeroD]; rfl, rfl, hown0, (Below.refl _ _).grown hgrow0 (Nat.le_refl _) (fun k h => by cases h)⟩
  case round =>
    obtain ⟨k, hk, rfl, rfl, rfl, hown, hnx⟩ := hrel
    by_cases hlt : k < L
    · obtain ⟨b, o, rfl, hbl, hcell⟩ := K1 wr (Ext.of_below hnx) k hlt
      have u2 : ∀ d, Calls Tryz.prog 119 #[.slice a2 n2 c2, .int .i64 (k : Int)] (grow wr d) fun e w' => e = .returned (i64 (wnD n k)) ∧ Ext (grow wr d) w' := fun d =>
        (t2 (grow wr d) ((Ext.of_below hnx).grow d) k (by omega)).mono fun e w' ⟨he, hw⟩ => ⟨he, by subst hw; exact Ext.refl _⟩
      have hs := bw_succD m n k
      have hd := sub_digit m n k L hlt HM.out hnm
      have b1 : wnD m k < 65536 := wn_ltD m k
      have b2 : wnD n k < 65536 := wn_ltD n k
      have b3 := bw_leD m n k
      have HDS := Lib.hid (dlist_succ (m - n) k)
      rw [D_eq] at hd
      clear t2 K1
      have hkL : (k : Int) < (L : Int) := by omega
      have hca : ∀ W, (Instr.indexAt 40 (.slice (some ⟨b, o, none⟩) L c1) (.int .i64 (k : Int))).run Tryz.prog W = .ok (.pointer (some ⟨b, o + k, none⟩)) W := fun W => by simp [go_sem, hlt]
      have hw1 : IntKind.i64.wrap (((wnD m k : Nat) : Int) - ((wnD n k : Nat) : Int)) = ((wnD m k : Nat) : Int) - ((wnD n k : Nat) : Int) := wrap_i64_in _ (by omega) (by omega)
      have hw2 : IntKind.i64.wrap (((wnD m k : Nat) : Int) - ((wnD n k : Nat) : Int) - ((bwD m n k : Nat) : Int)) = ((wnD m k : Nat) : Int) - ((wnD n k : Nat) : Int) - ((bwD m n k : Nat) : Int) := wrap_i64_in _ (by omega) (by omega)
      by_cases hneg : wnD m k < wnD n k + bwD m n k
      · have hc' : bwD m n (k + 1) = 1 := by rw [← hs, if_pos hneg]
        have hz : ((wnD m k : Nat) : Int) - ((wnD n k : Nat) : Int) - ((bwD m n k : Nat) : Int) + 65536 = ((wnD (m - n) k : Nat) : Int) := by omega
        have hz' : ((wnD m k : Nat) : Int) - ((wnD n k : Nat) : Int) - ((bwD m n k : Nat) : Int) < 0 := by omega
        clear hs hd
        have HC := Lib.hid hc'
        clear hc'
        go_wp2
        (first | refine wp_region_k' [.p, .p, .p, .r, .p, .p, .r, .p, .p, .p, .p] (by kernel_rfl) (by kernel_rfl) ?_ | refine wp_region_k [.p, .p, .p, .r, .p, .p, .r, .p, .p, .p, .p] (by kernel_rfl) (by kernel_rfl) ?_); (repeat (first | (refine wpK_p rfl (fun K hK => ?_); go_simp; refine hK _ _ ?_; clear hK K) | (refine wpK_r rfl (fun K hK => ?_); go_simp; refine hK _ _ ?_; clear hK K) | (refine wpK_w rfl (fun K hK => ?_); go_simp; refine hK _ _ ?_; clear hK K) | (refine wpK_r rfl (fun K hK => ?_); go_simp; apply Exists.intro; refine ⟨fun d => ?_, hK _ _ ?_⟩; (exact Calls.calm (u2 _)); clear hK K))); refine wpK_nil ?_; intro d
        clear hw1 hw2 u2
        have hown' := hown.ext2 d
        obtain ⟨y, hyd⟩ : ∃ y, y = grow wr d := ⟨_, rfl⟩
        rw [← hyd] at hown' ⊢
        have hny : Below w.heap.size w y := by rw [hyd]; exact hnx.trans (Ext.below ⟨d, rfl⟩ |>.mono hnx.size)
        clear hyd
        go_wp2_with (at_builtin; refine wpList_append_fits _ rfl (.tmp 32) (.tmp 34) 40 rfl w.heap.size 2 i0 1 Tryz.underlying40 hi hz1 w.heap.size k L _ rfl (hown'.alloc _) ⟨y.heap.size, 0, none⟩ 1 1 [i64 (wnD (m - n) k)] rfl rfl ?c1 ?c2 (by omega) ?_)
        case c1 =>
          intro t u h
          rcases t with _ | t
          · cases h; simp [go_sem]
          · cases h
        case c2 => intro u h; simp at h; subst h; rfl
        intro w1 hown1 hgrow1
        go_wp2
        go_roundw
        case rel =>
          refine ⟨k + 1, by omega, by go_num, by rw [HC.out]; rfl, rfl, ?_, (hny.alloc hny.size _).grown hgrow1 (by simp; have := hny.size; omega) (fun k h => by cases h; exact Nat.le_refl _)⟩
          rw [HDS.out, List.map_append]; exact hown1
        case measure => simp [intOf]; omega
      · have hc' : bwD m n (k + 1) = 0 := by rw [← hs, if_neg hneg]
        have hz : ((wnD m k : Nat) : Int) - ((wnD n k : Nat) : Int) - ((bwD m n k : Nat) : Int) = ((wnD (m - n) k : Nat) : Int) := by omega
        have hz' : ¬ ((wnD m k : Nat) : Int) - ((wnD n k : Nat) : Int) - ((bwD m n k : Nat) : Int) < 0 := by omega
        clear hs hd
        have HC := Lib.hid hc'
        clear hc'
        go_wp2
        (first | refine wp_region_k' [.p, .p, .p, .r, .p, .p, .r, .p, .p, .p, .p] (by kernel_rfl) (by kernel_rfl) ?_ | refine wp_region_k [.p, .p, .p, .r, .p, .p, .r, .p, .p, .p, .p] (by kernel_rfl) (by kernel_rfl) ?_); (repeat (first | (refine wpK_p rfl (fun K hK => ?_); go_simp; refine hK _ _ ?_; clear hK K) | (refine wpK_r rfl (fun K hK => ?_); go_simp; refine hK _ _ ?_; clear hK K) | (refine wpK_w rfl (fun K hK => ?_); go_simp; refine hK _ _ ?_; clear hK K) | (refine wpK_r rfl (fun K hK => ?_); go_simp; apply Exists.intro; refine ⟨fun d => ?_, hK _ _ ?_⟩; (exact Calls.calm (u2 _)); clear hK K))); refine wpK_nil ?_; intro d
        clear hw1 hw2 u2
        have hown' := hown.ext2 d
        obtain ⟨y, hyd⟩ : ∃ y, y = grow wr d := ⟨_, rfl⟩
        rw [← hyd] at hown' ⊢
        have hny : Below w.heap.size w y := by rw [hyd]; exact hnx.trans (Ext.below ⟨d, rfl⟩ |>.mono hnx.size)
        clear hyd
        go_wp2_with (at_builtin; refine wpList_append_fits _ rfl (.tmp 32) (.tmp 34) 40 rfl w.heap.size 2 i0 1 Tryz.underlying40 hi hz1 w.heap.size k L _ rfl (hown'.alloc _) ⟨y.heap.size, 0, none⟩ 1 1 [i64 (wnD (m - n) k)] rfl rfl ?c1 ?c2 (by omega) ?_)
        case c1 =>
          intro t u h
          rcases t with _ | t
          · cases h; simp [go_sem]
          · cases h
        case c2 => intro u h; simp at h; subst h; rfl
        intro w1 hown1 hgrow1
        go_wp2
        go_roundw
        case rel =>
          refine ⟨k + 1, by omega, by go_num, by rw [HC.out]; rfl, rfl, ?_, (hny.alloc hny.size _).grown hgrow1 (by simp; have := hny.size; omega) (fun k h => by cases h; exact Nat.le_refl _)⟩
          rw [HDS.out, List.map_append]; exact hown1
        case measure => simp [intOf]; omega
    · obtain rfl : k = L := by omega
      have hsl := SlC.own hown (ds := dlist (m - n) k) (by rw [dlist_len])
      have hfin := cut_own w.heap.size k k (dlist (m - n) k) (by rw [dlist_len]; omega) wr hsl (by rw [dlist_len])
      rw [dlist_trim _ _ (by have := HM.out; omega)] at hfin
      clear t2 hown K1 hsl
      go_wp2_with (go_at_call 118; refine hfin.mono ?_; rintro e w2 ⟨r, rfl, hr, hz⟩)
      go_ret
      exact ⟨_, rfl, hr, (Ext.of_below hnx).trans hz⟩
theorem less_dg (m n : Nat) (hnm : n ≤ m) (v1 v2 : Value) (h1 : (dg m).length ≤ 900000) (h2 : (dg n).length ≤ 900000) (w : World) (s1 : SlC w v1 (dg m)) (s2 : SlC w v2 (dg n)) :
    Calls Tryz.prog 91 #[v1, v2] w (RetB (fun W r => SlC W r (dg (m - n))) w) :=
  (less_at m n hnm v1 v2 h1 h2 w s1 s2).mono fun e w' ⟨v, h1, h2, h3⟩ => ⟨v, h1, h2.1, h3⟩
end Go.Proofs.YtmopgcbhmkemjaaGreatDoor

namespace Go.Proofs.YtmopgcbhmkemjaaGreatDoor
open Go Go.RowKit
set_option linter.unusedSimpArgs false
set_option linter.unusedVariables false
set_option maxRecDepth 100000
set_option exponentiation.threshold 3000

abbrev zRv : Value := .agg #[.bool false, .int .u64 0, .int .u64 0, .int .u64 0, .int .u64 0, .bool false, .int .u64 0, .int .u64 0, .int .u64 0, .int .u64 0]
theorem info_rat : (Tryz.prog.info? 29).map (fun i => (i.zero, i.size, i.bytes)) = some (some zRv, 10, 80) := by kernel_rfl
theorem rat_owned {W : World} {base g cap : Nat} {xs : List Value} (h : W.ownsRow base 29 10 (.slice (some ⟨g, 0, none⟩) 2 cap) 2 xs) (S1 S2 : Rt) (hx : xs = S1.c.toList ++ S2.c.toList) : RatAt W g 0 S1 ∧ RatAt W g 10 S2 := by
  obtain ⟨h1, h2 | ⟨g', cap', cur, e, hb, hg, hn, hm, hs, ht⟩⟩ := h
  · obtain ⟨e, _⟩ := h2; cases e
  · cases e
    subst hx
    have hc : ∀ j, W.cell? ⟨g, j, none⟩ = cur[j]? := fun j => by unfold World.cell?; rw [hg]; rfl
    have hk : ∀ j, j < 20 → cur[j]? = (S1.c.toList ++ S2.c.toList)[j]? := fun j hj => by
      rw [← ht, List.getElem?_take_of_lt (by omega)]; simp
    have hl : g < W.heap.size := by
      rcases Nat.lt_or_ge g W.heap.size with h | h
      · exact h
      · rw [Array.getElem?_eq_none h] at hg; cases hg
    exact ⟨⟨hl, by rw [hc, hk _ (by omega)]; rfl, by rw [hc, hk _ (by omega)]; rfl, by rw [hc, hk _ (by omega)]; rfl, by rw [hc, hk _ (by omega)]; rfl, by rw [hc, hk _ (by omega)]; rfl, by rw [hc, hk _ (by omega)]; rfl, by rw [hc, hk _ (by omega)]; rfl, by rw [hc, hk _ (by omega)]; rfl, by rw [hc, hk _ (by omega)]; rfl, by rw [hc, hk _ (by omega)]; rfl⟩,
      ⟨hl, by rw [hc, hk _ (by omega)]; rfl, by rw [hc, hk _ (by omega)]; rfl, by rw [hc, hk _ (by omega)]; rfl, by rw [hc, hk _ (by omega)]; rfl, by rw [hc, hk _ (by omega)]; rfl, by rw [hc, hk _ (by omega)]; rfl, by rw [hc, hk _ (by omega)]; rfl, by rw [hc, hk _ (by omega)]; rfl, by rw [hc, hk _ (by omega)]; rfl, by rw [hc, hk _ (by omega)]; rfl⟩⟩
set_option maxHeartbeats 16000000 in
theorem each_sum (a1 d1 a2 d2 S1 S2 : Rt) (f1 : S1.pf = true) (f2 : S2.pf = true) (c1 : AnsT 52 #[pV a1 d1] (.tuple #[S1.v, .int .i64 0])) (c2 : AnsT 52 #[pV a2 d2] (.tuple #[S2.v, .int .i64 0]))
    (b T : Nat) (w : World) (hT : Tab w) (BP0 : Blk w b #[.bool a1.s, q64 (wn a1.m 0), q64 (wn a1.m 1), q64 (wn a1.m 2), q64 (wn a1.m 3), .bool a1.t, q64 (wn a1.k 0), q64 (wn a1.k 1), q64 (wn a1.k 2), q64 (wn a1.k 3), .bool d1.s, q64 (wn d1.m 0), q64 (wn d1.m 1), q64 (wn d1.m 2), q64 (wn d1.m 3), .bool d1.t, q64 (wn d1.k 0), q64 (wn d1.k 1), q64 (wn d1.k 2), q64 (wn d1.k 3), .bool a2.s, q64 (wn a2.m 0), q64 (wn a2.m 1), q64 (wn a2.m 2), q64 (wn a2.m 3), .bool a2.t, q64 (wn a2.k 0), q64 (wn a2.k 1), q64 (wn a2.k 2), q64 (wn a2.k 3), .bool d2.s, q64 (wn d2.m 0), q64 (wn d2.m 1), q64 (wn d2.m 2), q64 (wn d2.m 3), .bool d2.t, q64 (wn d2.k 0), q64 (wn d2.k 1), q64 (wn d2.k 2), q64 (wn d2.k 3)] T) :
    Calls Tryz.prog 49 #[.func (.func 52) #[] #[], .slice (some ⟨b, 0, none⟩) 2 2] w fun e w' => (∃ g cap, 2 ≤ cap ∧ w.heap.size ≤ g ∧ e = .returned (.slice (some ⟨g, 0, none⟩) 2 cap) ∧ RatAt w' g 0 S1 ∧ RatAt w' g 10 S2) ∧ Ext w w' := by
  have hx : Ext w w := Ext.refl w
  have e1 := fits_any S1
  have e2 := fits_any S2
  rw [f1] at e1; rw [f2] at e2
  clear f1 f2
  have RO : ∀ {W : World} {base g cap : Nat} {xs : List Value}, W.ownsRow base 29 10 (.slice (some ⟨g, 0, none⟩) 2 cap) 2 xs → xs = S1.c.toList ++ S2.c.toList → RatAt W g 0 S1 ∧ RatAt W g 10 S2 := fun h hx => rat_owned h S1 S2 hx
  obtain ⟨i0, hi, hz0, hz1, hz2⟩ := info_parts info_rat
  obtain ⟨s1, m1, t1, k1, _, _⟩ := a1
  obtain ⟨s2, m2, t2, k2, _, _⟩ := d1
  obtain ⟨s3, m3, t3, k3, _, _⟩ := a2
  obtain ⟨s4, m4, t4, k4, _, _⟩ := d2
  obtain ⟨s5, m5, t5, k5, _, _⟩ := S1
  obtain ⟨s6, m6, t6, k6, _, _⟩ := S2
  dsimp only at BP0
  have BP := BP0
  have hown := World.ownsRow_nil w w.heap.size 29 10
  have lBP := BP.lt; have cBP := BP.cell; have fBP := BP.frozen
  go_enter Tryz.func49, Tryz.ntmps49
  go_wp2
  refine wp_loop_rounds 3 ?_
  rw [rounds_succ]
  go_upto_region 3 with fail
  go_upto_region 4 with (first | ((with_reducible apply wpList_load_at Tryz.isAgg31 Tryz.sizeOf31 #[.bool s1, q64 (wn m1 0), q64 (wn m1 1), q64 (wn m1 2), q64 (wn m1 3), .bool t1, q64 (wn k1 0), q64 (wn k1 1), q64 (wn k1 2), q64 (wn k1 3), .bool s2, q64 (wn m2 0), q64 (wn m2 1), q64 (wn m2 2), q64 (wn m2 3), .bool t2, q64 (wn k2 0), q64 (wn k2 1), q64 (wn k2 2), q64 (wn k2 3)]); (case hw => (simp [go_sem, Region.wanted, yielded]; done)); (case hs => exact rfl); (case hB => exact blk_auto); (case hv => rfl); (case hc => rfl)) | ((with_reducible apply wpList_store_row info_point); (case hs => exact rfl); (case hv => exact rfl); (case hB => exact blk_auto); (case hy => rfl); (case hc => rfl); (case h1 => rfl)))
  refine wp_rebase fun v1 hv => ?_
  have hx1 : Ext w v1 := by rw [hv]; exact Ext.setRow ext_auto (by first | exact Nat.le_refl _ | simp)
  have BX : Blk v1 w.heap.size #[.bool s1, q64 (wn m1 0), q64 (wn m1 1), q64 (wn m1 2), q64 (wn m1 3), .bool t1, q64 (wn k1 0), q64 (wn k1 1), q64 (wn k1 2), q64 (wn k1 3), .bool s2, q64 (wn m2 0), q64 (wn m2 1), q64 (wn m2 2), q64 (wn m2 3), .bool t2, q64 (wn k2 0), q64 (wn k2 1), q64 (wn k2 2), q64 (wn k2 3)] 31 := by rw [hv]; exact Blk.setRowSame (Blk.new _ _ _ rfl)
  clear hv lBP cBP fBP
  replace hx := hx.trans hx1
  replace BP := BP.ext hx1
  replace hown : v1.ownsRow w.heap.size 29 10 (.slice none 0 0) 0 [] := by obtain ⟨d, rfl⟩ := hx1; exact hown.ext2 d
  clear hx1
  have lBX := BX.lt; have cBX := BX.cell; have fBX := BX.frozen
  go_upto_region 5 with (first | ((with_reducible apply wpList_load_row Tryz.isAgg31 Tryz.sizeOf31); (case hw => (simp [go_sem, Region.wanted, yielded]; done)); (case hs => exact rfl); (case hB => exact blk_auto); (case hc => rfl)) | (go_at_call 52; (with_reducible refine (c1 _ (hT.ext (hx.trans ext_auto))).mono ?_); rintro e y ⟨rfl, hz_⟩; have hxy : Ext v1 y := Ext.trans ext_auto hz_))
  refine wp_rebase fun v2 hv => ?_
  have hx2 : Ext y v2 := by rw [hv]; exact ext_auto
  have BY : Blk v2 y.heap.size #[.bool s5, q64 (wn m5 0), q64 (wn m5 1), q64 (wn m5 2), q64 (wn m5 3), .bool t5, q64 (wn k5 0), q64 (wn k5 1), q64 (wn k5 2), q64 (wn k5 3)] 29 := by rw [hv]; exact blk_auto
  clear hv lBX cBX fBX BX
  replace hx := hx.trans (hxy.trans hx2)
  replace BP := BP.ext (hxy.trans hx2)
  replace hown : v2.ownsRow w.heap.size 29 10 (.slice none 0 0) 0 [] := by obtain ⟨d, rfl⟩ := hxy.trans hx2; exact hown.ext2 d
  clear hxy hx2 hz_
  have lBY := BY.lt; have cBY := BY.cell; have fBY := BY.frozen
  go_upto_region 7 with (first
    | (go_at_call 46; (with_reducible refine (must_point_yes _ _).mono ?_); rintro e w2 ⟨rfl, h2_⟩; subst w2)
    | (go_at_call 41; (with_reducible refine (e1 _).mono ?_); rintro e yf ⟨rfl, hz_⟩; have hxf : Ext v2 yf := Ext.trans ext_auto hz_; replace BY := BY.ext hxf; clear lBY cBY fBY; have lBY := BY.lt; have cBY := BY.cell; have fBY := BY.frozen))
  refine wp_rebase fun v3 hv => ?_
  have hx3 : Ext yf v3 := by rw [hv]; exact ext_auto
  clear hv
  replace hx := hx.trans (hxf.trans hx3)
  replace BP := BP.ext (hxf.trans hx3)
  replace BY := BY.ext hx3
  replace hown : v3.ownsRow w.heap.size 29 10 (.slice none 0 0) 0 [] := by obtain ⟨d, rfl⟩ := hxf.trans hx3; exact hown.ext2 d
  have hws := hx.size
  clear hxf hx3 hz_ lBY cBY fBY
  have lBY := BY.lt; have cBY := BY.cell; have fBY := BY.frozen
  go_wp2_with (at_builtin; refine wpList_append_own _ rfl (.tmp 28) (.tmp 30) 95 rfl w.heap.size 29 i0 zRv 10 80 Tryz.underlying95 hi hz0 hz1 hz2 rfl (by decide) (.slice none 0 0) 0 [] rfl (hown.alloc _) ⟨v3.heap.size, 0, none⟩ 1 1 [.bool s5, q64 (wn m5 0), q64 (wn m5 1), q64 (wn m5 2), q64 (wn m5 3), .bool t5, q64 (wn k5 0), q64 (wn k5 1), q64 (wn k5 2), q64 (wn k5 3)] rfl rfl ?c1 ?c2 ?c3 ?c4 ?c5 ?_)
  case c1 =>
    intro j u h
    have hj : j < 10 := by
      rcases Nat.lt_or_ge j 10 with h' | h'
      · exact h'
      · rw [List.getElem?_eq_none (by simpa using h')] at h; cases h
    have hadd : (⟨v3.heap.size, 0, none⟩ : Addr).add j = ⟨v3.heap.size, j, none⟩ := by unfold Addr.add; split <;> simp_all
    rw [hadd, cell_new_any]
    simpa using h
  case c2 => intro u h; simp only [List.mem_cons, List.not_mem_nil, or_false] at h; rcases h with rfl | rfl | rfl | rfl | rfl | rfl | rfl | rfl | rfl | rfl <;> rfl
  case c3 => unfold maxLen; omega
  case c4 => omega
  case c5 => simp; omega
  intro u0 v4 hown4 hgrow4 _
  have hx4 : Ext w v4 := Ext.of_below ((hx.below.alloc hws _).grown hgrow4 (by simp; omega) (fun k hk => by
    rcases hown.2 with ⟨h1, _⟩ | ⟨g, cap, cur, h1, hb, _⟩
    · rw [h1] at hk; cases hk
    · rw [h1] at hk; obtain rfl : g = k := by simpa [Value.ownBlock] using hk
      exact hb))
  replace hx := hx4
  replace BP := BP0.ext hx
  replace hown := hown4
  clear hown4 hgrow4 hx4 BY lBY cBY fBY hws
  have lBP := BP.lt; have cBP := BP.cell; have fBP := BP.frozen
  go_wp2
  rw [rounds_succ]
  go_upto_region 3 with fail
  go_upto_region 4 with (first | ((with_reducible apply wpList_load_at Tryz.isAgg31 Tryz.sizeOf31 #[.bool s3, q64 (wn m3 0), q64 (wn m3 1), q64 (wn m3 2), q64 (wn m3 3), .bool t3, q64 (wn k3 0), q64 (wn k3 1), q64 (wn k3 2), q64 (wn k3 3), .bool s4, q64 (wn m4 0), q64 (wn m4 1), q64 (wn m4 2), q64 (wn m4 3), .bool t4, q64 (wn k4 0), q64 (wn k4 1), q64 (wn k4 2), q64 (wn k4 3)]); (case hw => (simp [go_sem, Region.wanted, yielded]; done)); (case hs => exact rfl); (case hB => exact blk_auto); (case hv => rfl); (case hc => rfl)) | ((with_reducible apply wpList_store_row info_point); (case hs => exact rfl); (case hv => exact rfl); (case hB => exact blk_auto); (case hy => rfl); (case hc => rfl); (case h1 => rfl)))
  refine wp_rebase fun v1 hv => ?_
  have hx1 : Ext v4 v1 := by rw [hv]; exact Ext.setRow ext_auto (by first | exact Nat.le_refl _ | simp)
  have BX : Blk v1 v4.heap.size #[.bool s3, q64 (wn m3 0), q64 (wn m3 1), q64 (wn m3 2), q64 (wn m3 3), .bool t3, q64 (wn k3 0), q64 (wn k3 1), q64 (wn k3 2), q64 (wn k3 3), .bool s4, q64 (wn m4 0), q64 (wn m4 1), q64 (wn m4 2), q64 (wn m4 3), .bool t4, q64 (wn k4 0), q64 (wn k4 1), q64 (wn k4 2), q64 (wn k4 3)] 31 := by rw [hv]; exact Blk.setRowSame (Blk.new _ _ _ rfl)
  clear hv lBP cBP fBP
  replace hx := hx.trans hx1
  replace BP := BP.ext hx1
  replace hown : v1.ownsRow w.heap.size 29 10 u0 1 ([] ++ [.bool s5, q64 (wn m5 0), q64 (wn m5 1), q64 (wn m5 2), q64 (wn m5 3), .bool t5, q64 (wn k5 0), q64 (wn k5 1), q64 (wn k5 2), q64 (wn k5 3)]) := by obtain ⟨d, rfl⟩ := hx1; exact hown.ext2 d
  clear hx1
  have lBX := BX.lt; have cBX := BX.cell; have fBX := BX.frozen
  go_upto_region 5 with (first | ((with_reducible apply wpList_load_row Tryz.isAgg31 Tryz.sizeOf31); (case hw => (simp [go_sem, Region.wanted, yielded]; done)); (case hs => exact rfl); (case hB => exact blk_auto); (case hc => rfl)) | (go_at_call 52; (with_reducible refine (c2 _ (hT.ext (hx.trans ext_auto))).mono ?_); rintro e y ⟨rfl, hz_⟩; have hxy : Ext v1 y := Ext.trans ext_auto hz_))
  refine wp_rebase fun v2 hv => ?_
  have hx2 : Ext y v2 := by rw [hv]; exact ext_auto
  have BY : Blk v2 y.heap.size #[.bool s6, q64 (wn m6 0), q64 (wn m6 1), q64 (wn m6 2), q64 (wn m6 3), .bool t6, q64 (wn k6 0), q64 (wn k6 1), q64 (wn k6 2), q64 (wn k6 3)] 29 := by rw [hv]; exact blk_auto
  clear hv lBX cBX fBX BX
  replace hx := hx.trans (hxy.trans hx2)
  replace BP := BP.ext (hxy.trans hx2)
  replace hown : v2.ownsRow w.heap.size 29 10 u0 1 ([] ++ [.bool s5, q64 (wn m5 0), q64 (wn m5 1), q64 (wn m5 2), q64 (wn m5 3), .bool t5, q64 (wn k5 0), q64 (wn k5 1), q64 (wn k5 2), q64 (wn k5 3)]) := by obtain ⟨d, rfl⟩ := hxy.trans hx2; exact hown.ext2 d
  clear hxy hx2 hz_
  have lBY := BY.lt; have cBY := BY.cell; have fBY := BY.frozen
  go_upto_region 7 with (first
    | (go_at_call 46; (with_reducible refine (must_point_yes _ _).mono ?_); rintro e w2 ⟨rfl, h2_⟩; subst w2)
    | (go_at_call 41; (with_reducible refine (e2 _).mono ?_); rintro e yf ⟨rfl, hz_⟩; have hxf : Ext v2 yf := Ext.trans ext_auto hz_; replace BY := BY.ext hxf; clear lBY cBY fBY; have lBY := BY.lt; have cBY := BY.cell; have fBY := BY.frozen))
  refine wp_rebase fun v3 hv => ?_
  have hx3 : Ext yf v3 := by rw [hv]; exact ext_auto
  clear hv
  replace hx := hx.trans (hxf.trans hx3)
  replace BP := BP.ext (hxf.trans hx3)
  replace BY := BY.ext hx3
  replace hown : v3.ownsRow w.heap.size 29 10 u0 1 ([] ++ [.bool s5, q64 (wn m5 0), q64 (wn m5 1), q64 (wn m5 2), q64 (wn m5 3), .bool t5, q64 (wn k5 0), q64 (wn k5 1), q64 (wn k5 2), q64 (wn k5 3)]) := by obtain ⟨d, rfl⟩ := hxf.trans hx3; exact hown.ext2 d
  have hws := hx.size
  clear hxf hx3 hz_ lBY cBY fBY
  have lBY := BY.lt; have cBY := BY.cell; have fBY := BY.frozen
  go_wp2_with (at_builtin; refine wpList_append_own _ rfl (.tmp 28) (.tmp 30) 95 rfl w.heap.size 29 i0 zRv 10 80 Tryz.underlying95 hi hz0 hz1 hz2 rfl (by decide) u0 1 ([] ++ [.bool s5, q64 (wn m5 0), q64 (wn m5 1), q64 (wn m5 2), q64 (wn m5 3), .bool t5, q64 (wn k5 0), q64 (wn k5 1), q64 (wn k5 2), q64 (wn k5 3)]) rfl (hown.alloc _) ⟨v3.heap.size, 0, none⟩ 1 1 [.bool s6, q64 (wn m6 0), q64 (wn m6 1), q64 (wn m6 2), q64 (wn m6 3), .bool t6, q64 (wn k6 0), q64 (wn k6 1), q64 (wn k6 2), q64 (wn k6 3)] rfl rfl ?c1 ?c2 ?c3 ?c4 ?c5 ?_)
  case c1 =>
    intro j u h
    have hj : j < 10 := by
      rcases Nat.lt_or_ge j 10 with h' | h'
      · exact h'
      · rw [List.getElem?_eq_none (by simpa using h')] at h; cases h
    have hadd : (⟨v3.heap.size, 0, none⟩ : Addr).add j = ⟨v3.heap.size, j, none⟩ := by unfold Addr.add; split <;> simp_all
    rw [hadd, cell_new_any]
    simpa using h
  case c2 => intro u h; simp only [List.mem_cons, List.not_mem_nil, or_false] at h; rcases h with rfl | rfl | rfl | rfl | rfl | rfl | rfl | rfl | rfl | rfl <;> rfl
  case c3 => unfold maxLen; omega
  case c4 => omega
  case c5 => simp; omega
  intro u1 v5 hown4 hgrow4 _
  have hx4 : Ext w v5 := Ext.of_below ((hx.below.alloc hws _).grown hgrow4 (by simp; omega) (fun k hk => by
    rcases hown.2 with ⟨h1, _⟩ | ⟨g, cap, cur, h1, hb, _⟩
    · rw [h1] at hk; cases hk
    · rw [h1] at hk; obtain rfl : g = k := by simpa [Value.ownBlock] using hk
      exact hb))
  replace hx := hx4
  replace BP := BP0.ext hx
  replace hown := hown4
  clear hown4 hgrow4 hx4 BY lBY cBY fBY hws
  have lBP := BP.lt; have cBP := BP.cell; have fBP := BP.frozen
  go_wp2
  rw [rounds_succ]
  go_wp2
  obtain ⟨g, cap, rfl⟩ := ownsRow_succ hown
  obtain ⟨q1, q2⟩ := RO hown rfl
  have hcap : 2 ≤ cap ∧ w.heap.size ≤ g := by
    obtain ⟨_, ⟨h1, _⟩ | ⟨g', cap', cur, h1, h3, _, h2, _⟩⟩ := hown
    · cases h1
    · cases h1; exact ⟨h2, h3⟩
  exact bodyPost_ret (v := .slice (some ⟨g, 0, none⟩) 2 cap) (by simp [results, Tryz.results49, go_sem]) rfl ⟨⟨g, cap, hcap.1, hcap.2, rfl, q1, q2⟩, hx⟩
set_option maxHeartbeats 16000000 in
theorem each_mid (a1 d1 a2 d2 S1 S2 : Rt) (f1 : S1.pf = true) (f2 : S2.pf = true) (c1 : AnsT 50 #[pV a1 d1] (.tuple #[S1.v, .int .i64 0])) (c2 : AnsT 50 #[pV a2 d2] (.tuple #[S2.v, .int .i64 0]))
    (b T : Nat) (w : World) (hT : Tab w) (BP0 : Blk w b #[.bool a1.s, q64 (wn a1.m 0), q64 (wn a1.m 1), q64 (wn a1.m 2), q64 (wn a1.m 3), .bool a1.t, q64 (wn a1.k 0), q64 (wn a1.k 1), q64 (wn a1.k 2), q64 (wn a1.k 3), .bool d1.s, q64 (wn d1.m 0), q64 (wn d1.m 1), q64 (wn d1.m 2), q64 (wn d1.m 3), .bool d1.t, q64 (wn d1.k 0), q64 (wn d1.k 1), q64 (wn d1.k 2), q64 (wn d1.k 3), .bool a2.s, q64 (wn a2.m 0), q64 (wn a2.m 1), q64 (wn a2.m 2), q64 (wn a2.m 3), .bool a2.t, q64 (wn a2.k 0), q64 (wn a2.k 1), q64 (wn a2.k 2), q64 (wn a2.k 3), .bool d2.s, q64 (wn d2.m 0), q64 (wn d2.m 1), q64 (wn d2.m 2), q64 (wn d2.m 3), .bool d2.t, q64 (wn d2.k 0), q64 (wn d2.k 1), q64 (wn d2.k 2), q64 (wn d2.k 3)] T) :
    Calls Tryz.prog 49 #[.func (.func 50) #[] #[], .slice (some ⟨b, 0, none⟩) 2 2] w fun e w' => (∃ g cap, 2 ≤ cap ∧ w.heap.size ≤ g ∧ e = .returned (.slice (some ⟨g, 0, none⟩) 2 cap) ∧ RatAt w' g 0 S1 ∧ RatAt w' g 10 S2) ∧ Ext w w' := by
  have hx : Ext w w := Ext.refl w
  have e1 := fits_any S1
  have e2 := fits_any S2
  rw [f1] at e1; rw [f2] at e2
  clear f1 f2
  have RO : ∀ {W : World} {base g cap : Nat} {xs : List Value}, W.ownsRow base 29 10 (.slice (some ⟨g, 0, none⟩) 2 cap) 2 xs → xs = S1.c.toList ++ S2.c.toList → RatAt W g 0 S1 ∧ RatAt W g 10 S2 := fun h hx => rat_owned h S1 S2 hx
  obtain ⟨i0, hi, hz0, hz1, hz2⟩ := info_parts info_rat
  obtain ⟨s1, m1, t1, k1, _, _⟩ := a1
  obtain ⟨s2, m2, t2, k2, _, _⟩ := d1
  obtain ⟨s3, m3, t3, k3, _, _⟩ := a2
  obtain ⟨s4, m4, t4, k4, _, _⟩ := d2
  obtain ⟨s5, m5, t5, k5, _, _⟩ := S1
  obtain ⟨s6, m6, t6, k6, _, _⟩ := S2
  dsimp only at BP0
  have BP := BP0
  have hown := World.ownsRow_nil w w.heap.size 29 10
  have lBP := BP.lt; have cBP := BP.cell; have fBP := BP.frozen
  go_enter Tryz.func49, Tryz.ntmps49
  go_wp2
  refine wp_loop_rounds 3 ?_
  rw [rounds_succ]
  go_upto_region 3 with fail
  go_upto_region 4 with (first | ((with_reducible apply wpList_load_at Tryz.isAgg31 Tryz.sizeOf31 #[.bool s1, q64 (wn m1 0), q64 (wn m1 1), q64 (wn m1 2), q64 (wn m1 3), .bool t1, q64 (wn k1 0), q64 (wn k1 1), q64 (wn k1 2), q64 (wn k1 3), .bool s2, q64 (wn m2 0), q64 (wn m2 1), q64 (wn m2 2), q64 (wn m2 3), .bool t2, q64 (wn k2 0), q64 (wn k2 1), q64 (wn k2 2), q64 (wn k2 3)]); (case hw => (simp [go_sem, Region.wanted, yielded]; done)); (case hs => exact rfl); (case hB => exact blk_auto); (case hv => rfl); (case hc => rfl)) | ((with_reducible apply wpList_store_row info_point); (case hs => exact rfl); (case hv => exact rfl); (case hB => exact blk_auto); (case hy => rfl); (case hc => rfl); (case h1 => rfl)))
  refine wp_rebase fun v1 hv => ?_
  have hx1 : Ext w v1 := by rw [hv]; exact Ext.setRow ext_auto (by first | exact Nat.le_refl _ | simp)
  have BX : Blk v1 w.heap.size #[.bool s1, q64 (wn m1 0), q64 (wn m1 1), q64 (wn m1 2), q64 (wn m1 3), .bool t1, q64 (wn k1 0), q64 (wn k1 1), q64 (wn k1 2), q64 (wn k1 3), .bool s2, q64 (wn m2 0), q64 (wn m2 1), q64 (wn m2 2), q64 (wn m2 3), .bool t2, q64 (wn k2 0), q64 (wn k2 1), q64 (wn k2 2), q64 (wn k2 3)] 31 := by rw [hv]; exact Blk.setRowSame (Blk.new _ _ _ rfl)
  clear hv lBP cBP fBP
  replace hx := hx.trans hx1
  replace BP := BP.ext hx1
  replace hown : v1.ownsRow w.heap.size 29 10 (.slice none 0 0) 0 [] := by obtain ⟨d, rfl⟩ := hx1; exact hown.ext2 d
  clear hx1
  have lBX := BX.lt; have cBX := BX.cell; have fBX := BX.frozen
  go_upto_region 5 with (first | ((with_reducible apply wpList_load_row Tryz.isAgg31 Tryz.sizeOf31); (case hw => (simp [go_sem, Region.wanted, yielded]; done)); (case hs => exact rfl); (case hB => exact blk_auto); (case hc => rfl)) | (go_at_call 50; (with_reducible refine (c1 _ (hT.ext (hx.trans ext_auto))).mono ?_); rintro e y ⟨rfl, hz_⟩; have hxy : Ext v1 y := Ext.trans ext_auto hz_))
  refine wp_rebase fun v2 hv => ?_
  have hx2 : Ext y v2 := by rw [hv]; exact ext_auto
  have BY : Blk v2 y.heap.size #[.bool s5, q64 (wn m5 0), q64 (wn m5 1), q64 (wn m5 2), q64 (wn m5 3), .bool t5, q64 (wn k5 0), q64 (wn k5 1), q64 (wn k5 2), q64 (wn k5 3)] 29 := by rw [hv]; exact blk_auto
  clear hv lBX cBX fBX BX
  replace hx := hx.trans (hxy.trans hx2)
  replace BP := BP.ext (hxy.trans hx2)
  replace hown : v2.ownsRow w.heap.size 29 10 (.slice none 0 0) 0 [] := by obtain ⟨d, rfl⟩ := hxy.trans hx2; exact hown.ext2 d
  clear hxy hx2 hz_
  have lBY := BY.lt; have cBY := BY.cell; have fBY := BY.frozen
  go_upto_region 7 with (first
    | (go_at_call 46; (with_reducible refine (must_point_yes _ _).mono ?_); rintro e w2 ⟨rfl, h2_⟩; subst w2)
    | (go_at_call 41; (with_reducible refine (e1 _).mono ?_); rintro e yf ⟨rfl, hz_⟩; have hxf : Ext v2 yf := Ext.trans ext_auto hz_; replace BY := BY.ext hxf; clear lBY cBY fBY; have lBY := BY.lt; have cBY := BY.cell; have fBY := BY.frozen))
  refine wp_rebase fun v3 hv => ?_
  have hx3 : Ext yf v3 := by rw [hv]; exact ext_auto
  clear hv
  replace hx := hx.trans (hxf.trans hx3)
  replace BP := BP.ext (hxf.trans hx3)
  replace BY := BY.ext hx3
  replace hown : v3.ownsRow w.heap.size 29 10 (.slice none 0 0) 0 [] := by obtain ⟨d, rfl⟩ := hxf.trans hx3; exact hown.ext2 d
  have hws := hx.size
  clear hxf hx3 hz_ lBY cBY fBY
  have lBY := BY.lt; have cBY := BY.cell; have fBY := BY.frozen
  go_wp2_with (at_builtin; refine wpList_append_own _ rfl (.tmp 28) (.tmp 30) 95 rfl w.heap.size 29 i0 zRv 10 80 Tryz.underlying95 hi hz0 hz1 hz2 rfl (by decide) (.slice none 0 0) 0 [] rfl (hown.alloc _) ⟨v3.heap.size, 0, none⟩ 1 1 [.bool s5, q64 (wn m5 0), q64 (wn m5 1), q64 (wn m5 2), q64 (wn m5 3), .bool t5, q64 (wn k5 0), q64 (wn k5 1), q64 (wn k5 2), q64 (wn k5 3)] rfl rfl ?c1 ?c2 ?c3 ?c4 ?c5 ?_)
  case c1 =>
    intro j u h
    have hj : j < 10 := by
      rcases Nat.lt_or_ge j 10 with h' | h'
      · exact h'
      · rw [List.getElem?_eq_none (by simpa using h')] at h; cases h
    have hadd : (⟨v3.heap.size, 0, none⟩ : Addr).add j = ⟨v3.heap.size, j, none⟩ := by unfold Addr.add; split <;> simp_all
    rw [hadd, cell_new_any]
    simpa using h
  case c2 => intro u h; simp only [List.mem_cons, List.not_mem_nil, or_false] at h; rcases h with rfl | rfl | rfl | rfl | rfl | rfl | rfl | rfl | rfl | rfl <;> rfl
  case c3 => unfold maxLen; omega
  case c4 => omega
  case c5 => simp; omega
  intro u0 v4 hown4 hgrow4 _
  have hx4 : Ext w v4 := Ext.of_below ((hx.below.alloc hws _).grown hgrow4 (by simp; omega) (fun k hk => by
    rcases hown.2 with ⟨h1, _⟩ | ⟨g, cap, cur, h1, hb, _⟩
    · rw [h1] at hk; cases hk
    · rw [h1] at hk; obtain rfl : g = k := by simpa [Value.ownBlock] using hk
      exact hb))
  replace hx := hx4
  replace BP := BP0.ext hx
  replace hown := hown4
  clear hown4 hgrow4 hx4 BY lBY cBY fBY hws
  have lBP := BP.lt; have cBP := BP.cell; have fBP := BP.frozen
  go_wp2
  rw [rounds_succ]
  go_upto_region 3 with fail
  go_upto_region 4 with (first | ((with_reducible apply wpList_load_at Tryz.isAgg31 Tryz.sizeOf31 #[.bool s3, q64 (wn m3 0), q64 (wn m3 1), q64 (wn m3 2), q64 (wn m3 3), .bool t3, q64 (wn k3 0), q64 (wn k3 1), q64 (wn k3 2), q64 (wn k3 3), .bool s4, q64 (wn m4 0), q64 (wn m4 1), q64 (wn m4 2), q64 (wn m4 3), .bool t4, q64 (wn k4 0), q64 (wn k4 1), q64 (wn k4 2), q64 (wn k4 3)]); (case hw => (simp [go_sem, Region.wanted, yielded]; done)); (case hs => exact rfl); (case hB => exact blk_auto); (case hv => rfl); (case hc => rfl)) | ((with_reducible apply wpList_store_row info_point); (case hs => exact rfl); (case hv => exact rfl); (case hB => exact blk_auto); (case hy => rfl); (case hc => rfl); (case h1 => rfl)))
  refine wp_rebase fun v1 hv => ?_
  have hx1 : Ext v4 v1 := by rw [hv]; exact Ext.setRow ext_auto (by first | exact Nat.le_refl _ | simp)
  have BX : Blk v1 v4.heap.size #[.bool s3, q64 (wn m3 0), q64 (wn m3 1), q64 (wn m3 2), q64 (wn m3 3), .bool t3, q64 (wn k3 0), q64 (wn k3 1), q64 (wn k3 2), q64 (wn k3 3), .bool s4, q64 (wn m4 0), q64 (wn m4 1), q64 (wn m4 2), q64 (wn m4 3), .bool t4, q64 (wn k4 0), q64 (wn k4 1), q64 (wn k4 2), q64 (wn k4 3)] 31 := by rw [hv]; exact Blk.setRowSame (Blk.new _ _ _ rfl)
  clear hv lBP cBP fBP
  replace hx := hx.trans hx1
  replace BP := BP.ext hx1
  replace hown : v1.ownsRow w.heap.size 29 10 u0 1 ([] ++ [.bool s5, q64 (wn m5 0), q64 (wn m5 1), q64 (wn m5 2), q64 (wn m5 3), .bool t5, q64 (wn k5 0), q64 (wn k5 1), q64 (wn k5 2), q64 (wn k5 3)]) := by obtain ⟨d, rfl⟩ := hx1; exact hown.ext2 d
  clear hx1
  have lBX := BX.lt; have cBX := BX.cell; have fBX := BX.frozen
  go_upto_region 5 with (first | ((with_reducible apply wpList_load_row Tryz.isAgg31 Tryz.sizeOf31); (case hw => (simp [go_sem, Region.wanted, yielded]; done)); (case hs => exact rfl); (case hB => exact blk_auto); (case hc => rfl)) | (go_at_call 50; (with_reducible refine (c2 _ (hT.ext (hx.trans ext_auto))).mono ?_); rintro e y ⟨rfl, hz_⟩; have hxy : Ext v1 y := Ext.trans ext_auto hz_))
  refine wp_rebase fun v2 hv => ?_
  have hx2 : Ext y v2 := by rw [hv]; exact ext_auto
  have BY : Blk v2 y.heap.size #[.bool s6, q64 (wn m6 0), q64 (wn m6 1), q64 (wn m6 2), q64 (wn m6 3), .bool t6, q64 (wn k6 0), q64 (wn k6 1), q64 (wn k6 2), q64 (wn k6 3)] 29 := by rw [hv]; exact blk_auto
  clear hv lBX cBX fBX BX
  replace hx := hx.trans (hxy.trans hx2)
  replace BP := BP.ext (hxy.trans hx2)
  replace hown : v2.ownsRow w.heap.size 29 10 u0 1 ([] ++ [.bool s5, q64 (wn m5 0), q64 (wn m5 1), q64 (wn m5 2), q64 (wn m5 3), .bool t5, q64 (wn k5 0), q64 (wn k5 1), q64 (wn k5 2), q64 (wn k5 3)]) := by obtain ⟨d, rfl⟩ := hxy.trans hx2; exact hown.ext2 d
  clear hxy hx2 hz_
  have lBY := BY.lt; have cBY := BY.cell; have fBY := BY.frozen
  go_upto_region 7 with (first
    | (go_at_call 46; (with_reducible refine (must_point_yes _ _).mono ?_); rintro e w2 ⟨rfl, h2_⟩; subst w2)
    | (go_at_call 41; (with_reducible refine (e2 _).mono ?_); rintro e yf ⟨rfl, hz_⟩; have hxf : Ext v2 yf := Ext.trans ext_auto hz_; replace BY := BY.ext hxf; clear lBY cBY fBY; have lBY := BY.lt; have cBY := BY.cell; have fBY := BY.frozen))
  refine wp_rebase fun v3 hv => ?_
  have hx3 : Ext yf v3 := by rw [hv]; exact ext_auto
  clear hv
  replace hx := hx.trans (hxf.trans hx3)
  replace BP := BP.ext (hxf.trans hx3)
  replace BY := BY.ext hx3
  replace hown : v3.ownsRow w.heap.size 29 10 u0 1 ([] ++ [.bool s5, q64 (wn m5 0), q64 (wn m5 1), q64 (wn m5 2), q64 (wn m5 3), .bool t5, q64 (wn k5 0), q64 (wn k5 1), q64 (wn k5 2), q64 (wn k5 3)]) := by obtain ⟨d, rfl⟩ := hxf.trans hx3; exact hown.ext2 d
  have hws := hx.size
  clear hxf hx3 hz_ lBY cBY fBY
  have lBY := BY.lt; have cBY := BY.cell; have fBY := BY.frozen
  go_wp2_with (at_builtin; refine wpList_append_own _ rfl (.tmp 28) (.tmp 30) 95 rfl w.heap.size 29 i0 zRv 10 80 Tryz.underlying95 hi hz0 hz1 hz2 rfl (by decide) u0 1 ([] ++ [.bool s5, q64 (wn m5 0), q64 (wn m5 1), q64 (wn m5 2), q64 (wn m5 3), .bool t5, q64 (wn k5 0), q64 (wn k5 1), q64 (wn k5 2), q64 (wn k5 3)]) rfl (hown.alloc _) ⟨v3.heap.size, 0, none⟩ 1 1 [.bool s6, q64 (wn m6 0), q64 (wn m6 1), q64 (wn m6 2), q64 (wn m6 3), .bool t6, q64 (wn k6 0), q64 (wn k6 1), q64 (wn k6 2), q64 (wn k6 3)] rfl rfl ?c1 ?c2 ?c3 ?c4 ?c5 ?_)
  case c1 =>
    intro j u h
    have hj : j < 10 := by
      rcases Nat.lt_or_ge j 10 with h' | h'
      · exact h'
      · rw [List.getElem?_eq_none (by simpa using h')] at h; cases h
    have hadd : (⟨v3.heap.size, 0, none⟩ : Addr).add j = ⟨v3.heap.size, j, none⟩ := by unfold Addr.add; split <;> simp_all
    rw [hadd, cell_new_any]
    simpa using h
  case c2 => intro u h; simp only [List.mem_cons, List.not_mem_nil, or_false] at h; rcases h with rfl | rfl | rfl | rfl | rfl | rfl | rfl | rfl | rfl | rfl <;> rfl
  case c3 => unfold maxLen; omega
  case c4 => omega
  case c5 => simp; omega
  intro u1 v5 hown4 hgrow4 _
  have hx4 : Ext w v5 := Ext.of_below ((hx.below.alloc hws _).grown hgrow4 (by simp; omega) (fun k hk => by
    rcases hown.2 with ⟨h1, _⟩ | ⟨g, cap, cur, h1, hb, _⟩
    · rw [h1] at hk; cases hk
    · rw [h1] at hk; obtain rfl : g = k := by simpa [Value.ownBlock] using hk
      exact hb))
  replace hx := hx4
  replace BP := BP0.ext hx
  replace hown := hown4
  clear hown4 hgrow4 hx4 BY lBY cBY fBY hws
  have lBP := BP.lt; have cBP := BP.cell; have fBP := BP.frozen
  go_wp2
  rw [rounds_succ]
  go_wp2
  obtain ⟨g, cap, rfl⟩ := ownsRow_succ hown
  obtain ⟨q1, q2⟩ := RO hown rfl
  have hcap : 2 ≤ cap ∧ w.heap.size ≤ g := by
    obtain ⟨_, ⟨h1, _⟩ | ⟨g', cap', cur, h1, h3, _, h2, _⟩⟩ := hown
    · cases h1
    · cases h1; exact ⟨h2, h3⟩
  exact bodyPost_ret (v := .slice (some ⟨g, 0, none⟩) 2 cap) (by simp [results, Tryz.results49, go_sem]) rfl ⟨⟨g, cap, hcap.1, hcap.2, rfl, q1, q2⟩, hx⟩
end Go.Proofs.YtmopgcbhmkemjaaGreatDoor

namespace Go.Proofs.YtmopgcbhmkemjaaGreatDoor
open Go Go.RowKit
set_option linter.unusedSimpArgs false
set_option linter.unusedVariables false
set_option maxRecDepth 100000
set_option exponentiation.threshold 3000

set_option maxHeartbeats 4000000 in
theorem sum_any (a d S : Rt) (z : Int) (AD : AnsT 53 #[a.v, d.v] (.tuple #[S.v, .int .i64 z])) : AnsT 52 #[pV a d] (.tuple #[S.v, .int .i64 z]) := fun w hT => by
  have hx : Ext w w := Ext.refl w
  obtain ⟨s1, m1, t1, k1, _, _⟩ := a
  obtain ⟨s2, m2, t2, k2, _, _⟩ := d
  obtain ⟨s3, m3, t3, k3, _, _⟩ := S
  go_enter Tryz.func52, Tryz.ntmps52
  go_wp2_with (go_at_call 53; (with_reducible refine (AD _ (hT.ext (hx.trans ext_auto))).mono ?_); rintro e y1 ⟨rfl, hz_⟩; have hzz_ : Ext w y1 := Ext.trans ext_auto hz_; have BO : Blk y1 (w.heap.size + 1) #[.bool false, .int .u64 0, .int .u64 0, .int .u64 0, .int .u64 0, .bool false, .int .u64 0, .int .u64 0, .int .u64 0, .int .u64 0] 29 := Blk.ext blk_auto hz_; replace hx := hx.trans hzz_; clear hz_ hzz_; have lBO := BO.lt; have cBO := BO.cell; have fBO := BO.frozen)
  refine bp_rebase fun u hu => ?_
  have hy : Ext w u := by rw [hu]; exact ext_auto
  have BF : Blk u (w.heap.size + 1) (ratsV s3 m3 t3 k3) 29 := by rw [hu]; exact blk_auto
  clear hu
  have lBF := BF.lt; have cBF := BF.cell; have fBF := BF.frozen; clear BF
  exact bodyPost_ret (v := .tuple #[ratV s3 m3 t3 k3, .int .i64 z]) (by simp [results, Tryz.results52, go_sem, cBF]) rfl ⟨rfl, hy⟩
/-- The words of a whole number. -/
def dRt (z : Int) (h1 : -9223372036854775808 ≤ z) (h2 : z ≤ 9223372036854775807) : Rt := ⟨decide (z < 0), z.natAbs, false, 1, Nat.lt_of_le_of_lt (by omega : z.natAbs ≤ 9223372036854775808) (by decide), by decide⟩
attribute [local go_sem ↓] storeP_eq storeR_eq storeE_eq
attribute [local go_sem] storeE_0 storeR_0 storeR_10 IsP.setRow IsP.setCell IsP.drew storeP_zero cell_setRow_z frozen_setRow_z cell_setRow_far
set_option maxHeartbeats 16000000 in
theorem Move_yes (a b : Rt) (ha : a.pok = true) (hb : b.pok = true) (dx dy : Int) (d1 d2 S1 S2 : Rt) (o1 : Ans 33 #[.int .i64 dx] d1.v) (o2 : Ans 33 #[.int .i64 dy] d2.v) (f1 : S1.pf = true) (f2 : S2.pf = true)
    (A1 : AnsT 53 #[a.v, d1.v] (.tuple #[S1.v, .int .i64 0])) (A2 : AnsT 53 #[b.v, d2.v] (.tuple #[S2.v, .int .i64 0])) :
    AnsT 23 #[pV a b, .int .i64 dx, .int .i64 dy] (.tuple #[pV S1 S2, .int .i64 0]) := fun w hT => by
  have hmf : ∀ (fn : Fn) (first cap : Array Value) (w : World), (Instr.makeFunc fn first cap).run Tryz.prog w = .ok (.func fn first cap) w := fun _ _ _ _ => rfl
  have hx : Ext w w := Ext.refl w
  have P1 := pright_yes a b ha hb
  have EE := fun bb TT w hT h => each_sum a d1 b d2 S1 S2 f1 f2 (sum_any a d1 S1 0 A1) (sum_any b d2 S2 0 A2) bb TT w hT h
  clear ha hb f1 f2 A1 A2
  obtain ⟨s1, m1, t1, k1, _, _⟩ := a
  obtain ⟨s2, m2, t2, k2, _, _⟩ := b
  obtain ⟨s3, m3, t3, k3, _, _⟩ := d1
  obtain ⟨s4, m4, t4, k4, _, _⟩ := d2
  obtain ⟨s5, m5, t5, k5, _, _⟩ := S1
  obtain ⟨s6, m6, t6, k6, _, _⟩ := S2
  dsimp only at EE
  go_enter_defers Tryz.func23, Tryz.ntmps23
  go_upto_region 1 with fail
  refine wp_rebase fun v hv => ?_
  replace hx : Ext w v := by rw [hv]; exact ext_auto
  have BA : Blk v w.heap.size (ptsV s1 m1 t1 k1 s2 m2 t2 k2) 31 := by rw [hv]; exact blk_auto
  have BO : Blk v (w.heap.size + 1) #[.bool false, .int .u64 0, .int .u64 0, .int .u64 0, .int .u64 0, .bool false, .int .u64 0, .int .u64 0, .int .u64 0, .int .u64 0, .bool false, .int .u64 0, .int .u64 0, .int .u64 0, .int .u64 0, .bool false, .int .u64 0, .int .u64 0, .int .u64 0, .int .u64 0] 31 := by rw [hv]; exact blk_auto
  have BE : Blk v (w.heap.size + 1 + 1) #[.int .i64 0] 33 := by rw [hv]; exact blk_auto
  clear hv
  have lBA := BA.lt; have cBA := BA.cell; have fBA := BA.frozen; have lBO := BO.lt; have cBO := BO.cell; have fBO := BO.frozen; have lBE := BE.lt; have cBE := BE.cell; have fBE := BE.frozen
  go_upto_region 4 with (first | ((with_reducible apply wpList_load_row Tryz.isAgg31 Tryz.sizeOf31); (case hw => (simp [go_sem, Region.wanted, yielded]; done)); (case hs => exact rfl); (case hB => exact blk_auto); (case hc => rfl)) | (go_at_call 46; (with_reducible refine (must_point_yes _ _).mono ?_); rintro e w2 ⟨rfl, h2_⟩; subst w2) | (go_at_call 16; (with_reducible refine (P1 _).mono ?_); rintro e y1 ⟨rfl, hz_⟩; have hxy : Ext v y1 := Ext.trans ext_auto hz_))
  replace BA := BA.ext hxy; replace BO := BO.ext hxy; replace BE := BE.ext hxy; replace hx := hx.trans hxy
  clear hxy hz_ lBA cBA fBA lBO cBO fBO lBE cBE fBE
  have lBA := BA.lt; have cBA := BA.cell; have fBA := BA.frozen; have lBO := BO.lt; have cBO := BO.cell; have fBO := BO.frozen; have lBE := BE.lt; have cBE := BE.cell; have fBE := BE.frozen
  obtain ⟨v, rfl⟩ : ∃ v', v' = y1 := ⟨_, rfl⟩
  go_region_held3 (fun w' => Ext v w' ∧ ∀ j, w'.cell? ⟨w.heap.size, j, none⟩ = (ptsV s1 m1 t1 k1 s2 m2 t2 k2)[j]?) ((exact (fun hh : Ext v _ => ⟨hh, (BA.ext hh).cell⟩) ext_auto))
    (first
      | (go_at_call 33; (first | (with_reducible refine (o1 _).mono ?_) | (with_reducible refine (o2 _).mono ?_)); rintro e z ⟨rfl, hz_⟩; have hzz_ : Ext v z := Ext.trans ext_auto hz_)
      | (go_at_call 49; (with_reducible refine (EE _ _ _ (hT.ext (hx.trans ext_auto)) (Blk.new _ _ _ rfl)).mono ?_); rintro e z ⟨⟨g, cap, hcap, hgs, rfl, hg1, hg2⟩, hz_⟩; have hbO := BO.lt; have hbE := BE.lt; have hgv : v.heap.size ≤ g := Nat.le_trans (Ext.size (by assumption : Ext v _)) (by simp at hgs; omega); clear hgs; have hzz_ : Ext v z := Ext.trans ext_auto hz_))
  go_upto_region 5 with fail
  refine wp_rebase fun u hu => ?_
  have hxu : Ext v u := by rw [hu]; exact ext_auto
  have hxz : Ext z u := by rw [hu]; exact ext_auto
  clear hu
  replace BO := BO.ext hxu; replace BE := BE.ext hxu; replace hx := hx.trans hxu; replace hg1 := hg1.ext hxz; replace hg2 := hg2.ext hxz
  clear hxz hzz_ hz_ hxu lBA cBA fBA lBO cBO fBO lBE cBE fBE
  have lBO := BO.lt; have cBO := BO.cell; have fBO := BO.frozen; have lBE := BE.lt; have cBE := BE.cell; have fBE := BE.frozen
  obtain ⟨lg, p0, p1, p2, p3, p4, p5, p6, p7, p8, p9⟩ := hg1
  obtain ⟨_, q0, q1, q2, q3, q4, q5, q6, q7, q8, q9⟩ := hg2
  simp only [Nat.zero_add, Nat.reduceAdd] at p0 p1 p2 p3 p4 p5 p6 p7 p8 p9 q0 q1 q2 q3 q4 q5 q6 q7 q8 q9
  generalize (Value.agg #[.bool s1, q64 (wn m1 0), q64 (wn m1 1), q64 (wn m1 2), q64 (wn m1 3), .bool t1, q64 (wn k1 0), q64 (wn k1 1), q64 (wn k1 2), q64 (wn k1 3), .bool s3, q64 (wn m3 0), q64 (wn m3 1), q64 (wn m3 2), q64 (wn m3 3), .bool t3, q64 (wn k3 0), q64 (wn k3 1), q64 (wn k3 2), q64 (wn k3 3)] : Value) = X1
  generalize (Value.agg #[.bool s2, q64 (wn m2 0), q64 (wn m2 1), q64 (wn m2 2), q64 (wn m2 3), .bool t2, q64 (wn k2 0), q64 (wn k2 1), q64 (wn k2 2), q64 (wn k2 3), .bool s4, q64 (wn m4 0), q64 (wn m4 1), q64 (wn m4 2), q64 (wn m4 3), .bool t4, q64 (wn k4 0), q64 (wn k4 1), q64 (wn k4 2), q64 (wn k4 3)] : Value) = X2
  generalize (Value.agg #[.bool s1, q64 (wn m1 0), q64 (wn m1 1), q64 (wn m1 2), q64 (wn m1 3), .bool t1, q64 (wn k1 0), q64 (wn k1 1), q64 (wn k1 2), q64 (wn k1 3)] : Value) = X3
  generalize (Value.agg #[.bool s2, q64 (wn m2 0), q64 (wn m2 1), q64 (wn m2 2), q64 (wn m2 3), .bool t2, q64 (wn k2 0), q64 (wn k2 1), q64 (wn k2 2), q64 (wn k2 3)] : Value) = X4
  generalize (Value.agg (ptsV s1 m1 t1 k1 s2 m2 t2 k2) : Value) = X5
  generalize hNm50 : wn m5 0 = Nm50 at *
  generalize hNm51 : wn m5 1 = Nm51 at *
  generalize hNm52 : wn m5 2 = Nm52 at *
  generalize hNm53 : wn m5 3 = Nm53 at *
  generalize hNk50 : wn k5 0 = Nk50 at *
  generalize hNk51 : wn k5 1 = Nk51 at *
  generalize hNk52 : wn k5 2 = Nk52 at *
  generalize hNk53 : wn k5 3 = Nk53 at *
  generalize hNm60 : wn m6 0 = Nm60 at *
  generalize hNm61 : wn m6 1 = Nm61 at *
  generalize hNm62 : wn m6 2 = Nm62 at *
  generalize hNm63 : wn m6 3 = Nm63 at *
  generalize hNk60 : wn k6 0 = Nk60 at *
  generalize hNk61 : wn k6 1 = Nk61 at *
  generalize hNk62 : wn k6 2 = Nk62 at *
  generalize hNk63 : wn k6 3 = Nk63 at *
  have hf1 : ∀ (W : World) (i j : Nat) (x : Value), (W.setCell ⟨w.heap.size + 1, i, none⟩ x).cell? ⟨g, j, none⟩ = W.cell? ⟨g, j, none⟩ := fun W i j x => World.cell?_setCell_other _ _ _ _ (by intro e; cases e; omega)
  have hf2 : ∀ (W : World) (i j : Nat) (x : Value), (W.setCell ⟨w.heap.size + 1 + 1, i, none⟩ x).cell? ⟨g, j, none⟩ = W.cell? ⟨g, j, none⟩ := fun W i j x => World.cell?_setCell_other _ _ _ _ (by intro e; cases e; omega)
  have hIP : IsP u (w.heap.size + 1) := ⟨_, BO, rfl⟩
  have hIE : IsE u (w.heap.size + 1 + 1) := ⟨_, BE⟩
  have hgb : ¬ g = w.heap.size + 1 := by omega
  go_region_held3 (fun w' => IsP w' (w.heap.size + 1) ∧ IsE w' (w.heap.size + 1 + 1) ∧ w'.cell? ⟨g, 0, none⟩ = some (.bool s5) ∧ w'.cell? ⟨g, 1, none⟩ = some (q64 Nm50) ∧ w'.cell? ⟨g, 2, none⟩ = some (q64 Nm51) ∧ w'.cell? ⟨g, 3, none⟩ = some (q64 Nm52) ∧ w'.cell? ⟨g, 4, none⟩ = some (q64 Nm53) ∧ w'.cell? ⟨g, 5, none⟩ = some (.bool t5) ∧ w'.cell? ⟨g, 6, none⟩ = some (q64 Nk50) ∧ w'.cell? ⟨g, 7, none⟩ = some (q64 Nk51) ∧ w'.cell? ⟨g, 8, none⟩ = some (q64 Nk52) ∧ w'.cell? ⟨g, 9, none⟩ = some (q64 Nk53) ∧ w'.cell? ⟨g, 10, none⟩ = some (.bool s6) ∧ w'.cell? ⟨g, 11, none⟩ = some (q64 Nm60) ∧ w'.cell? ⟨g, 12, none⟩ = some (q64 Nm61) ∧ w'.cell? ⟨g, 13, none⟩ = some (q64 Nm62) ∧ w'.cell? ⟨g, 14, none⟩ = some (q64 Nm63) ∧ w'.cell? ⟨g, 15, none⟩ = some (.bool t6) ∧ w'.cell? ⟨g, 16, none⟩ = some (q64 Nk60) ∧ w'.cell? ⟨g, 17, none⟩ = some (q64 Nk61) ∧ w'.cell? ⟨g, 18, none⟩ = some (q64 Nk62) ∧ w'.cell? ⟨g, 19, none⟩ = some (q64 Nk63)) ((refine ⟨?_, ?_, ?_⟩; (· (repeat (with_reducible first | assumption | apply IsP.setCell | apply IsP.setRow | apply IsP.drew))); (· (repeat (with_reducible first | assumption | apply IsE.setCell | (apply IsE.setRow (by omega)) | apply IsE.drew))); (· simp only [hf1, hf2, cell_setRow_far, hgb, ne_eq, not_false_eq_true, *, p0, p1, p2, p3, p4, p5, p6, p7, p8, p9, q0, q1, q2, q3, q4, q5, q6, q7, q8, q9, World.cell?_drew, and_self]))) (fail)
  subst hNm50 hNm51 hNm52 hNm53 hNk50 hNk51 hNk52 hNk53 hNm60 hNm61 hNm62 hNm63 hNk60 hNk61 hNk62 hNk63
  have hE0 : Ext w (u.drew.setRow (w.heap.size + 1) zPt) := Ext.setRow hx.drew (by omega)
  have hB0 : Blk (u.drew.setRow (w.heap.size + 1) zPt) (w.heap.size + 1) zPt 31 := BO.drew.setRowSame
  have hG0 : Blk (u.drew.setRow (w.heap.size + 1) zPt) (w.heap.size + 1 + 1) #[.int .i64 0] 33 := BE.drew.setRowOther (by omega)
  generalize u.drew.setRow (w.heap.size + 1) zPt = u0 at *
  go_wp2
  refine lv_rebase fun r hr => ?_
  have hy : Ext w r := by rw [hr]; exact ext_auto
  have BF : Blk r (w.heap.size + 1) (ptsV s5 m5 t5 k5 s6 m6 t6 k6) 31 := by rw [hr]; exact blk_auto
  have BG : Blk r (w.heap.size + 1 + 1) #[.int .i64 0] 33 := by rw [hr]; exact blk_auto
  clear hr
  exact leaves_point (.tuple #[ptV s5 m5 t5 k5 s6 m6 t6 k6, .int .i64 0]) (results_pt_err Tryz.results23 rfl rfl BF rfl BG) ⟨rfl, hy⟩
end Go.Proofs.YtmopgcbhmkemjaaGreatDoor

namespace Go.Proofs.YtmopgcbhmkemjaaGreatDoor
open Go Go.RowKit
set_option linter.unusedSimpArgs false
set_option linter.unusedVariables false
set_option linter.constructorNameAsVariable false
section
variable {P : Program} {ops : Array Oper} {md : Region.Mode}

/-- What is asked of a region: the loads H, the chain C, the new cells A, the end behind n. -/
def hcaB (md : Region.Mode) (ops : Array Oper) (n : Nat) (H C A : List Nat) : Bool :=
  Region.noSelect ops && decide (n ≤ ops.size) && dstsB ops n && looksB md ops n && (List.range ops.size).all (fun t => decide (t < n) || (List.range n).all fun i => anc md ops 6 t i) &&
  (List.range n).all (fun i => (opAt ops i).guard.isNone && ((H.contains i && !C.contains i && !A.contains i) || (!H.contains i && C.contains i && !A.contains i) || (!H.contains i && !C.contains i && A.contains i))) && H.all (· < n) && C.all (· < n) && A.all (· < n) &&
  A.all (fun j => (opAt ops j).after.all fun e => !Region.binds md e || H.contains e.on) &&
  H.all (fun h => (opAt ops h).after.all fun e => !Region.binds md e || (H.contains e.on && decide (e.on < h))) &&
  (List.range C.length).all (fun k => (opAt ops (C.getD k 0)).after.all fun e => !Region.binds md e || H.contains e.on || (C.take k).contains e.on) &&
  (List.range (C.length - 1)).all (fun k => Region.waitsFor md ops (C.getD (k + 1) 0) (C.getD k 0)) &&
  decide (H.Pairwise (· < ·)) && decide C.Nodup && decide A.Nodup &&
  Region.seqB md ops (ops.size - n) n ((Array.range ops.size).map fun i => decide (i < n))

structure Inv9 (md : Region.Mode) (ops : Array Oper) (n : Nat) (H C A : List Nat) (listed : Array Bool) (pend mid pa : List Nat) : Prop where
  size : listed.size = ops.size
  low : ∀ i, i < n → (listed.getD i false = false ↔ i ∈ pend ∨ i ∈ mid ∨ i ∈ pa)
  high : ∀ i, n ≤ i → listed.getD i false = false
  ph : ∀ h ∈ pend, h ∈ H
  pp : pend.Pairwise (· < ·)
  mc : ∃ k, mid = C.drop k
  pas : ∀ j ∈ pa, j ∈ A
  pad : pa.Nodup
  clo : Clo md ops listed
structure HCA (md : Region.Mode) (ops : Array Oper) (n : Nat) (H C A : List Nat) : Prop where
  sel : ∀ i cs b, (opAt ops i).op ≠ .select cs b
  nsz : n ≤ ops.size
  ds : dstsB ops n = true
  lk : looksB md ops n = true
  aw : ∀ t, t < ops.size → n ≤ t → ∀ i, i < n → anc md ops 6 t i = true
  gd : ∀ i, i < n → (opAt ops i).guard = none
  part : ∀ i, i ∈ H → i ∈ C → False
  parta : ∀ i, i ∈ A → i ∈ H ∨ i ∈ C → False
  hn : ∀ h ∈ H, h < n
  cn : ∀ c ∈ C, c < n
  an : ∀ c ∈ A, c < n
  all : ∀ i, i < n → i ∈ H ∨ i ∈ C ∨ i ∈ A
  acl : ∀ j ∈ A, ∀ e ∈ (opAt ops j).after, Region.binds md e = true → e.on ∈ H
  hcl : ∀ h ∈ H, ∀ e ∈ (opAt ops h).after, Region.binds md e = true → e.on ∈ H ∧ e.on < h
  ccl : ∀ k, k < C.length → ∀ e ∈ (opAt ops (C.getD k 0)).after, Region.binds md e = true → e.on ∈ H ∨ e.on ∈ C.take k
  chain : ∀ k, k + 1 < C.length → Region.waitsFor md ops (C.getD (k + 1) 0) (C.getD k 0) = true
  hp : H.Pairwise (· < ·)
  cnd : C.Nodup
  ad : A.Nodup
  seq : Region.seqB md ops (ops.size - n) n ((Array.range ops.size).map fun i => decide (i < n)) = true
theorem hcaB_spec {n : Nat} {H C A : List Nat} (h : hcaB md ops n H C A = true) : HCA md ops n H C A := by
  simp only [hcaB, Bool.and_eq_true, decide_eq_true_eq, List.all_eq_true, List.mem_range, Array.all_eq_true', Bool.or_eq_true, Bool.not_eq_true', Option.isNone_iff_eq_none, List.contains_iff_mem, Bool.eq_false_iff, ne_eq] at h
  obtain ⟨⟨⟨⟨⟨⟨⟨⟨⟨⟨⟨⟨⟨⟨⟨⟨h1, h2⟩, h3⟩, h4⟩, h5⟩, h6⟩, h7⟩, h8⟩, h8a⟩, h8b⟩, h9⟩, h10⟩, h11⟩, h12⟩, h13⟩, h13a⟩, h14⟩ := h
  refine ⟨fun i cs b => ?_, h2, h3, h4, fun t ht hn i hi => ((h5 t ht).resolve_left (by omega)) i hi, fun i hi => (h6 i hi).1, fun i hi hc => ?_, fun i hi hc => ?_, h7, h8, h8a, fun i hi => ?_, fun x hx e he hb => ?_, fun x hx e he hb => ?_, fun k hk e he hb => ?_, fun k hk => h11 k (by omega), h12, h13, h13a, h14⟩
  · cases ho : ops[i]? with
    | none => simp [opAt, Array.getD_eq_getD_getElem?, ho, default, instInhabitedOper.default, instInhabitedOp.default]
    | some o => rw [opAt_eq ho]; exact Region.noSelect_spec h1 i o cs b ho
  · rcases (h6 i (h7 i hi)).2 with (h | h) | h
    · exact h.1.2 hc
    · exact h.1.1 hi
    · exact h.1.1 hi
  · rcases (h6 i (h8a i hi)).2 with (h | h) | h
    · exact h.2 hi
    · exact h.2 hi
    · exact hc.elim h.1.1 h.1.2
  · rcases (h6 i hi).2 with (h | h) | h
    · exact .inl h.1.1
    · exact .inr (.inl h.1.2)
    · exact .inr (.inr h.2)
  · rcases h8b x hx e he with h | h
    · exact absurd hb h
    · exact h
  · rcases h9 x hx e he with h | h
    · exact absurd hb h
    · exact h
  · rcases h10 k hk e he with (h | h) | h
    · exact absurd hb h
    · exact .inl h
    · exact .inr h

abbrev ptrV (b : Nat) : Value := .pointer (some ⟨b, 0, none⟩)
/-- The new cells that are still to come lie apart. -/
structure GoodP (W w : World) (obj : Nat → Obj) (pa D : List Nat) (b : Nat → Nat) : Prop where
  at' : ∀ j ∈ pa, W.heap.size ≤ b j ∧ w.heap[b j]? = some (obj j)
  two : ∀ j ∈ pa, ∀ k ∈ pa, j ≠ k → b j ≠ b k
  old : ∀ j ∈ pa, ∀ x ∈ D, b j ≠ x
/-- The chain, whatever else is laid on the way. -/
def wpU (P : Program) (ops : Array Oper) (W : World) (obj : Nat → Obj) (E : Act → World → Prop) (pa D : List Nat) : List Oper → Act → World → Prop
  | [], a, w => ∀ w', Ext w w' → ∀ b, GoodP W w' obj pa D b → E (fill ops (fun j => ptrV (b j)) pa a) w'
  | o :: l, a, w => ∀ w', Ext w w' → (∃ v w'', (execOp a.eval o).run P w' = .ok (.value v) w'' ∧ Ext w' w'' ∧ wpU P ops W obj E pa D l (a.put o.dst v) w'') ∨
    (∃ f args, (execOp a.eval o).run P w' = .ok (.enter f args) w' ∧ Calls P f args w' fun e w'' => ∃ v, e = .returned v ∧ Ext w' w'' ∧ wpU P ops W obj E pa D l (a.put o.dst v) w'')
theorem wpU.mono {W : World} {obj : Nat → Obj} {E : Act → World → Prop} {pa D : List Nat} : ∀ {l : List Oper} {a : Act} {w w' : World}, wpU P ops W obj E pa D l a w → Ext w w' → wpU P ops W obj E pa D l a w'
  | [], _, _, _, h, hx => fun w'' hx' => h w'' (hx.trans hx')
  | _ :: _, _, _, _, h, hx => fun w'' hx' => h w'' (hx.trans hx')
theorem fill_congr {f g : Nat → Value} : ∀ (l : List Nat) (a : Act), (∀ j ∈ l, f j = g j) → fill ops f l a = fill ops g l a
  | [], _, _ => rfl
  | j :: l, a, h => by simp only [fill]; rw [h j (by simp)]; exact fill_congr l _ (fun k hk => h k (by simp [hk]))
theorem wpU_alloc {n : Nat} (hd : dstsB ops n = true) (hl : looksB md ops n = true) (hsel : ∀ i cs b, (opAt ops i).op ≠ .select cs b) {W : World} {obj : Nat → Obj} {E : Act → World → Prop} {pa D : List Nat} {i bi : Nat} (hin : i < n) (hpn : ∀ j ∈ pa, j < n) (hi : i ∈ pa) (hnd : pa.Nodup) (hWb : W.heap.size ≤ bi) (hbD : ∀ x ∈ D, bi ≠ x) :
    ∀ (cs : List Nat) (a : Act) (w : World), (∀ c ∈ cs, c < n ∧ c ≠ i ∧ Region.waitsFor md ops c i = false) → w.heap[bi]? = some (obj i) → wpU P ops W obj E pa D (cs.map (opAt ops)) a w →
      wpU P ops W obj E (pa.erase i) (bi :: D) (cs.map (opAt ops)) (a.put (opAt ops i).dst (ptrV bi)) w
  | [], a, w, _, hb, H => by
    intro w' hx b hg
    have hlt : bi < w.heap.size := (Array.getElem?_eq_some_iff.1 hb).1
    have hne : ∀ j ∈ pa.erase i, j ≠ i := fun j hj e => by subst e; exact List.Nodup.not_mem_erase hnd hj
    have hmem : ∀ j ∈ pa, j ≠ i → j ∈ pa.erase i := fun j hj hji => (List.mem_erase_of_ne hji).2 hj
    have hg' : GoodP W w' obj pa D (fun j => if j = i then bi else b j) := by
      refine ⟨fun j hj => ?_, fun j hj k hk hjk => ?_, fun j hj x hx => ?_⟩
      · by_cases e : j = i
        · subst e; simp only [if_true]; exact ⟨hWb, by rw [hx.block _ hlt, hb]⟩
        · simp only [if_neg e]; exact hg.at' j (hmem j hj e)
      · by_cases e : j = i
        · subst e
          simp only [if_true, if_neg (Ne.symm hjk)]
          exact (hg.old k (hmem k hk (Ne.symm hjk)) bi (by simp)).symm
        · by_cases e2 : k = i
          · subst e2
            simp only [if_true, if_neg e]
            exact hg.old j (hmem j hj e) bi (by simp)
          · simp only [if_neg e, if_neg e2]; exact hg.two j (hmem j hj e) k (hmem k hk e2) hjk
      · by_cases e : j = i
        · subst e; simp only [if_true]; exact hbD x hx
        · simp only [if_neg e]; exact hg.old j (hmem j hj e) x (by simp [hx])
    have h1 := H w' hx _ hg'
    have h2 := fill_erase (val := fun j => ptrV (if j = i then bi else b j)) hd hin pa a hpn hi
    simp only [if_true] at h2
    rw [fill_congr (ops := ops) (f := fun j => ptrV (b j)) (g := fun j => ptrV (if j = i then bi else b j)) (pa.erase i) _ (fun j hj => by simp only [if_neg (hne j hj)]), h2]
    exact h1
  | c :: cs, a, w, hcs, hb, H => by
    obtain ⟨hcn, hci, hcw⟩ := hcs c (by simp)
    intro w' hx
    have hlt : bi < w.heap.size := (Array.getElem?_eq_some_iff.1 hb).1
    have hb' : w'.heap[bi]? = some (obj i) := by rw [hx.block _ hlt, hb]
    have hlt' : bi < w'.heap.size := (Array.getElem?_eq_some_iff.1 hb').1
    have he : execOp (a.put (opAt ops i).dst (ptrV bi)).eval (opAt ops c) = execOp a.eval (opAt ops c) := execOp_put _ (hsel c) a _ _ (looksB_spec hl hcn hin hcw)
    have hcomm : ∀ v, (a.put (opAt ops i).dst (ptrV bi)).put (opAt ops c).dst v = (a.put (opAt ops c).dst v).put (opAt ops i).dst (ptrV bi) := fun v => Act.put_comm a (ptrV bi) v (dstsB_spec hd hin hcn (Ne.symm hci))
    have ih := fun v w'' (hxx : Ext w' w'') (h : wpU P ops W obj E pa D (cs.map (opAt ops)) (a.put (opAt ops c).dst v) w'') => wpU_alloc hd hl hsel hin hpn hi hnd hWb hbD cs (a.put (opAt ops c).dst v) w'' (fun x hx => hcs x (by simp [hx])) (by rw [hxx.block _ hlt', hb']) h
    rw [he]
    simp only [List.map_cons, wpU] at H
    rcases H w' hx with ⟨v, w'', h1, hx1, h2⟩ | ⟨f, args, h1, h2⟩
    · exact .inl ⟨v, w'', h1, hx1, by rw [hcomm]; exact ih v w'' hx1 h2⟩
    · exact .inr ⟨f, args, h1, h2.mono fun e w'' ⟨v, he, hx1, h3⟩ => ⟨v, he, hx1, by rw [hcomm]; exact ih v w'' hx1 h3⟩⟩

theorem wpAny_of_hca {n : Nat} {H C A : List Nat} (hB : HCA md ops n H C A) {W : World} {obj : Nat → Obj} (hA0 : ∀ j ∈ A, ∀ (a : Act) (w : World), (execOp a.eval (opAt ops j)).run P w = .ok (.value (ptrV w.heap.size)) (w.alloc (obj j)))
    {val : Nat → Value} {Q : Exit → Act → World → Prop} {E : Act → World → Prop} (hE : ∀ a w, E a w → wpList P ops Q (ops.toList.drop n) a w) :
    ∀ (f : Nat) (pend mid pa D : List Nat) (listed : Array Bool) (a F : Act) (w : World), f = pend.length + mid.length + pa.length → Inv9 md ops n H C A listed pend mid pa → F = fill ops val pend a → (∀ x ∈ D, x < w.heap.size) →
      (∀ h ∈ pend, ∀ d, (execOp F.eval (opAt ops h)).run P (grow W d) = .ok (.value (val h)) (grow W d)) → Ext W w → wpU P ops W obj E pa D (mid.map (opAt ops)) F w → wpAny P md ops Q (f + (ops.size - n)) listed a w := by
  intro f
  have hop : ∀ i, i < n → ops[i]? = some (opAt ops i) := fun i hi => by
    have : i < ops.size := Nat.lt_of_lt_of_le hi hB.nsz
    simp [opAt, Array.getD_eq_getD_getElem?, this]
  have hwt : ∀ i, i < n → ∀ a : Act, Region.wanted (opAt ops i) (yielded ops a.tmps) = true := fun i hi a => by simp [Region.wanted, hB.gd i hi]
  induction f with
  | zero =>
    intro pend mid pa D listed a F w hf inv hF _ _ hx hT
    obtain rfl : pend = [] := List.length_eq_zero_iff.1 (by omega)
    obtain rfl : mid = [] := List.length_eq_zero_iff.1 (by omega)
    obtain rfl : pa = [] := List.length_eq_zero_iff.1 (by omega)
    simp only [fill] at hF
    subst hF
    have hl : listed = (Array.range ops.size).map fun i => decide (i < n) := by
      apply Array.ext
      · simp [inv.size]
      · intro i h1 h2
        have hi : i < ops.size := by simpa using h2
        simp only [Array.getElem_map, Array.getElem_range]
        by_cases hin : i < n
        · have := inv.low i hin
          simp [h1] at this
          simp [hin, this]
        · have := inv.high i (by omega)
          simp [h1] at this
          simp [hin, this]
    have hfin : E F w := hT w (Ext.refl w) (fun _ => 0) ⟨fun j hj => (by cases hj), fun j hj => (by cases hj), fun j hj => (by cases hj)⟩
    have := wpAny_of_seq (md := md) (Q' := Q) (ops.toList.drop n) n listed F w (fun j => by simp [List.getElem?_drop]) (by rw [hl]; simpa using hB.seq) (hE _ _ hfin)
    simpa using this
  | succ f ih =>
    intro pend mid pa D listed a F w hf inv hF hD hV hx hT
    rw [show f + 1 + (ops.size - n) = (f + (ops.size - n)) + 1 by omega]
    obtain ⟨k, hmid⟩ := inv.mc
    have hmC : ∀ x ∈ mid, x ∈ C := fun x hx => by rw [hmid] at hx; exact List.mem_of_mem_drop hx
    have hpd : pend.Nodup := inv.pp.imp (fun h => Nat.ne_of_lt h)
    have unl : ∀ j, j < n → (j ∈ pend ∨ j ∈ mid ∨ j ∈ pa) → listed.getD j true = false := fun j hj h => getD_in (by rw [inv.size]; exact Nat.lt_of_lt_of_le hj hB.nsz) ((inv.low j hj).2 h)
    have hpan : ∀ j ∈ pa, j < n := fun j hj => hB.an j (inv.pas j hj)
    have hsome : ∃ j, j < n ∧ listed.getD j true = false := by
      cases pend with
      | cons h ps => exact ⟨h, hB.hn h (inv.ph h (by simp)), unl h (hB.hn h (inv.ph h (by simp))) (by simp)⟩
      | nil =>
        cases pa with
        | cons t ms => exact ⟨t, hpan t (by simp), unl t (hpan t (by simp)) (by simp)⟩
        | nil =>
          cases mid with
          | cons t ms => exact ⟨t, hB.cn t (hmC t (by simp)), unl t (hB.cn t (hmC t (by simp))) (by simp)⟩
          | nil => simp at hf
    refine ⟨fun h0 => ?_, fun i hi => ?_⟩
    · exfalso
      cases pend with
      | cons h ps =>
        have hH := inv.ph h (by simp)
        have hhn := hB.hn h hH
        have : h ∈ Region.ready md ops listed := mem_ready.2 ⟨unl h hhn (by simp), opAt ops h, hop h hhn, fun e he hb => by
          obtain ⟨h1, h2⟩ := hB.hcl h hH e he hb
          cases hg : listed.getD e.on false with
          | true => rfl
          | false =>
            rcases (inv.low e.on (by omega)).1 hg with h3 | h3 | h3
            · rcases List.mem_cons.1 h3 with h4 | h4
              · omega
              · have := (List.pairwise_cons.1 inv.pp).1 _ h4; omega
            · exact (hB.part _ h1 (hmC _ h3)).elim
            · exact (hB.parta _ (inv.pas _ h3) (.inl h1)).elim⟩
        rw [h0] at this; cases this
      | nil =>
        cases pa with
        | cons t ms =>
          have htA := inv.pas t (by simp)
          have htn := hB.an t htA
          have : t ∈ Region.ready md ops listed := mem_ready.2 ⟨unl t htn (by simp), opAt ops t, hop t htn, fun e he hb => by
            have h1 := hB.acl t htA e he hb
            cases hg : listed.getD e.on false with
            | true => rfl
            | false =>
              rcases (inv.low e.on (hB.hn _ h1)).1 hg with h3 | h3 | h3
              · cases h3
              · exact (hB.part _ h1 (hmC _ h3)).elim
              · exact (hB.parta _ (inv.pas _ h3) (.inl h1)).elim⟩
          rw [h0] at this; cases this
        | nil =>
        cases mid with
        | nil => simp at hf
        | cons t ms =>
          have htn := hB.cn t (hmC t (by simp))
          have hkl : k < C.length := by
            rcases Nat.lt_or_ge k C.length with h | h
            · exact h
            · rw [List.drop_eq_nil_of_le h] at hmid; cases hmid
          have htk : C.getD k 0 = t := by
            have := congrArg (fun l => l[0]?) hmid
            simp [List.getElem?_drop] at this
            simp [List.getD_eq_getElem?_getD, ← this]
          have : t ∈ Region.ready md ops listed := mem_ready.2 ⟨unl t htn (by simp), opAt ops t, hop t htn, fun e he hb => by
            have h1 := hB.ccl k hkl e (by rw [htk]; exact he) hb
            have hen : e.on < n := h1.elim (hB.hn _) (fun h => hB.cn _ (List.mem_of_mem_take h))
            cases hg : listed.getD e.on false with
            | true => rfl
            | false =>
              rcases (inv.low e.on hen).1 hg with h3 | h3 | h3
              · cases h3
              · rcases h1 with h1 | h1
                · exact (hB.part _ h1 (hmC _ h3)).elim
                · rw [hmid] at h3
                  have := hB.cnd
                  rw [← List.take_append_drop k C, List.nodup_append] at this
                  exact (this.2.2 _ h1 _ h3 rfl).elim
              · cases h3⟩
          rw [h0] at this; cases this
    · have hir := mem_ready.1 hi
      have hin : i < n := by
        rcases Nat.lt_or_ge i n with h | h
        · exact h
        · obtain ⟨j, hj, hu⟩ := hsome
          have hsz : i < ops.size := (Array.getElem?_eq_some_iff.1 hir.2.choose_spec.1).1
          have h1 := hB.aw i hsz h j hj
          rw [anc_ready inv.clo hi hu] at h1; cases h1
      have hisz : i < listed.size := by rw [inv.size]; exact Nat.lt_of_lt_of_le hin hB.nsz
      have hlook : ∀ h ∈ pend, ∀ d, (opAt ops h).dst = some d → d ∉ (opAt ops i).looksAt ops := fun h hh => looksB_spec hB.lk hin (hB.hn h (inv.ph h hh)) (by
        cases hw : Region.waitsFor md ops i h with
        | false => rfl
        | true =>
          have := waits_listed hi hw
          have h2 := (inv.low h (hB.hn h (inv.ph h hh))).2 (.inl hh)
          rw [h2] at this; cases this)
      have hex : execOp F.eval (opAt ops i) = execOp a.eval (opAt ops i) := by rw [hF]; exact exec_fill (hB.sel i) pend a hlook
      have hcase := (inv.low i hin).1 (getD_false_true hisz hir.1)
      have hnoA : i ∈ pa → i ∉ pend ∧ i ∉ mid := fun h => ⟨fun h2 => hB.parta _ (inv.pas _ h) (.inl (inv.ph _ h2)), fun h2 => hB.parta _ (inv.pas _ h) (.inr (hmC _ h2))⟩
      unfold wpOp
      rw [hop i hin]
      simp only
      rw [if_pos (hwt i hin a)]
      refine .inl ?_
      unfold Oper.wp
      rcases hcase with hp | hm | hpa
      · obtain ⟨d, hd⟩ := hx
        have hv := hV i hp d
        rw [← hex, hd, hv]
        refine ih (pend.erase i) mid pa D _ _ F _ ?_ ⟨by simp [inv.size], fun j hj => ?_, fun j hj => ?_, fun h hh => inv.ph h (List.mem_of_mem_erase hh), inv.pp.sublist List.erase_sublist, ⟨k, hmid⟩, inv.pas, inv.pad, inv.clo.set hi⟩ ?_ (by rw [hd] at hD; exact hD) (fun h hh => hV h (List.mem_of_mem_erase hh)) ⟨d, rfl⟩ (by rw [hd] at hT; exact hT)
        · rw [List.length_erase_of_mem hp]
          have := List.length_pos_of_mem hp
          omega
        · by_cases hji : j = i
          · subst hji
            rw [getD_set_same hisz]
            simp only [Bool.true_eq_false, false_iff, not_or]
            exact ⟨List.Nodup.not_mem_erase hpd, fun h => hB.part _ (inv.ph _ hp) (hmC _ h), fun h => (hnoA h).1 hp⟩
          · rw [getD_set_ne false (Ne.symm hji), inv.low j hj, List.mem_erase_of_ne hji]
        · rw [getD_set_ne false (by omega)]; exact inv.high j hj
        · rw [hF]; exact (fill_erase hB.ds hin pend a (fun h hh => hB.hn h (inv.ph h hh)) hp).symm
      · cases mid with
        | nil => cases hm
        | cons t ms =>
          have hkl : k < C.length := by
            rcases Nat.lt_or_ge k C.length with h | h
            · exact h
            · rw [List.drop_eq_nil_of_le h] at hmid; cases hmid
          obtain rfl : i = t := by
            rcases List.mem_cons.1 hm with h | h
            · exact h
            · exfalso
              obtain ⟨m, hml, hmi⟩ := List.mem_iff_getElem.1 h
              have e1 : C[k + 1 + m]? = some i := by
                have := congrArg (fun l => l[m + 1]?) hmid
                simp only [List.getElem?_cons_succ, List.getElem?_drop] at this
                rw [List.getElem?_eq_getElem hml, hmi] at this
                rw [show k + 1 + m = k + (m + 1) by omega]; exact this.symm
              have e2 : ∃ x, C[k + m]? = some x ∧ x ∈ t :: ms := by
                have := congrArg (fun l => l[m]?) hmid
                simp only [List.getElem?_drop] at this
                have hml' : m < (t :: ms).length := by simp; omega
                rw [List.getElem?_eq_getElem hml'] at this
                exact ⟨_, this.symm, List.getElem_mem _⟩
              obtain ⟨x, hx1, hx2⟩ := e2
              have hl := (List.getElem?_eq_some_iff.1 e1).1
              have hch := hB.chain (k + m) (by omega)
              rw [show k + m + 1 = k + 1 + m by omega] at hch
              simp only [List.getD_eq_getElem?_getD, e1, hx1, Option.getD_some] at hch
              have h1 := waits_listed hi hch
              have h2 := (inv.low x (hB.cn x (hmC x hx2))).2 (.inr (.inl hx2))
              rw [h2] at h1; cases h1
          have hms : ms = C.drop (k + 1) := by
            have := congrArg List.tail hmid
            simpa using this
          have hnd : (i :: ms).Nodup := by rw [hmid]; exact hB.cnd.sublist (List.drop_sublist _ _)
          have hcontrol : ∀ (v : Value) (w' : World), Ext w w' → wpU P ops W obj E pa D (ms.map (opAt ops)) (F.put (opAt ops i).dst v) w' → wpAny P md ops Q (f + (ops.size - n)) (listed.setIfInBounds i true) (a.put (opAt ops i).dst v) w' := fun v w' hx' hT' => by
            refine ih pend ms pa D _ _ (F.put (opAt ops i).dst v) w' (by simp at hf; omega) ⟨by simp [inv.size], fun j hj => ?_, fun j hj => ?_, inv.ph, inv.pp, ⟨k + 1, hms⟩, inv.pas, inv.pad, inv.clo.set hi⟩ ?_ (fun x hxD => Nat.lt_of_lt_of_le (hD x hxD) hx'.size) (fun h hh d => ?_) (hx.trans hx') hT'
            · by_cases hji : j = i
              · subst hji
                rw [getD_set_same hisz]
                simp only [Bool.true_eq_false, false_iff, not_or]
                exact ⟨fun h => hB.part _ (inv.ph _ h) (hmC _ (by simp)), (List.nodup_cons.1 hnd).1, fun h => (hnoA h).2 (by simp)⟩
              · rw [getD_set_ne false (Ne.symm hji), inv.low j hj, List.mem_cons]
                simp [hji]
            · rw [getD_set_ne false (by omega)]; exact inv.high j hj
            · rw [hF]
              exact (fill_put hB.ds hin v pend a (fun h hh => ⟨hB.hn h (inv.ph h hh), fun e => hB.part _ (inv.ph h hh) (by rw [e]; exact hmC _ (by simp))⟩)).symm
            · rw [execOp_put (opAt ops h) (hB.sel h) F _ _ (looksB_spec hB.lk (hB.hn h (inv.ph h hh)) hin (by
                cases hw : Region.waitsFor md ops h i with
                | false => rfl
                | true =>
                  obtain ⟨e, he, hb, hon⟩ := waitsFor_of (md := md) (e := default) (Nat.lt_of_lt_of_le (hB.hn h (inv.ph h hh)) hB.nsz) hw
                  have := (hB.hcl h (inv.ph h hh) e he hb).1
                  rw [hon] at this
                  exact (hB.part _ this (hmC _ (by simp))).elim))]
              exact hV h hh d
          simp only [List.map_cons, wpU] at hT
          rw [hex] at hT
          rcases hT w (Ext.refl w) with ⟨v, w', h1, hx', h2⟩ | ⟨fn, args, h1, hc⟩
          · rw [h1]; exact hcontrol v w' hx' h2
          · rw [h1]
            exact hc.mono fun e w' ⟨v, he, hx', h2⟩ => by subst he; exact hcontrol v w' hx' h2
      · -- a new cell
        have hiA := inv.pas i hpa
        have hxa : Ext w (w.alloc (obj i)) := (Ext.refl w).alloc _
        rw [hA0 i hiA a w]
        have hT' := wpU_alloc (P := P) (W := W) (obj := obj) (E := E) (D := D) hB.ds hB.lk hB.sel hin hpan hpa inv.pad hx.size (fun x hxD => Nat.ne_of_gt (hD x hxD)) mid F (w.alloc (obj i)) (fun c hc => ⟨hB.cn c (hmC c hc), fun e => (hnoA hpa).2 (e ▸ hc), by
          cases hw : Region.waitsFor md ops c i with
          | false => rfl
          | true =>
            exfalso
            have hcC := hmC c hc
            obtain ⟨m, hml, hmi⟩ := List.mem_iff_getElem.1 hcC
            obtain ⟨e, he, hb, hon⟩ := waitsFor_of (md := md) (e := default) (Nat.lt_of_lt_of_le (hB.cn c hcC) hB.nsz) hw
            have h1 := hB.ccl m hml e (by rw [show C.getD m 0 = c by simp [List.getD_eq_getElem?_getD, List.getElem?_eq_getElem hml, hmi]]; exact he) hb
            rw [hon] at h1
            exact hB.parta _ hiA (h1.imp id (fun h => List.mem_of_mem_take h))⟩) (by unfold World.alloc; simp) (hT.mono hxa)
        refine ih pend mid (pa.erase i) (w.heap.size :: D) _ _ (F.put (opAt ops i).dst (ptrV w.heap.size)) (w.alloc (obj i)) ?_ ⟨by simp [inv.size], fun j hj => ?_, fun j hj => ?_, inv.ph, inv.pp, ⟨k, hmid⟩, fun j hj => inv.pas j (List.mem_of_mem_erase hj), inv.pad.erase i, inv.clo.set hi⟩ ?_ (fun x hxD => ?_) (fun h hh d => ?_) (hx.trans hxa) hT'
        · rw [List.length_erase_of_mem hpa]
          have := List.length_pos_of_mem hpa
          omega
        · by_cases hji : j = i
          · subst hji
            rw [getD_set_same hisz]
            simp only [Bool.true_eq_false, false_iff, not_or]
            exact ⟨(hnoA hpa).1, (hnoA hpa).2, List.Nodup.not_mem_erase inv.pad⟩
          · rw [getD_set_ne false (Ne.symm hji), inv.low j hj, List.mem_erase_of_ne hji]
        · rw [getD_set_ne false (by omega)]; exact inv.high j hj
        · rw [hF]
          exact (fill_put hB.ds hin _ pend a (fun h hh => ⟨hB.hn h (inv.ph h hh), fun e => (hnoA hpa).1 (e ▸ hh)⟩)).symm
        · rcases List.mem_cons.1 hxD with h | h
          · subst h; simp
          · have := hD x h; simp; omega
        · rw [execOp_put (opAt ops h) (hB.sel h) F _ _ (looksB_spec hB.lk (hB.hn h (inv.ph h hh)) hin (by
            cases hw : Region.waitsFor md ops h i with
            | false => rfl
            | true =>
              obtain ⟨e, he, hb, hon⟩ := waitsFor_of (md := md) (e := default) (Nat.lt_of_lt_of_le (hB.hn h (inv.ph h hh)) hB.nsz) hw
              have := (hB.hcl h (inv.ph h hh) e he hb).1
              rw [hon] at this
              exact (hB.parta _ hiA (.inl this)).elim))]
          exact hV h hh d
/-- The rule. -/
theorem wp_region_ha' {id : Nat} {Q : Exit → Act → World → Prop} {a : Act} {w : World} {e : Gr} {l : List Oper} (n : Nat) (H C A : List Nat) (obj : Nat → Obj) (hm : P.follows .mixedOrders = true) (hB : hcaB .any l.toArray n H C A = true)
    (hA0 : ∀ j ∈ A, ∀ (a : Act) (w : World), (execOp a.eval (l.getD j default)).run P w = .ok (.value (ptrV w.heap.size)) (w.alloc (obj j)))
    (h : wpHL P w (H.map fun i => l.getD i default) a (fun F => ∀ d, wpU P l.toArray w obj (fun a' w' => wpList P l.toArray Q (l.drop n) a' w') A [] (C.map fun i => l.getD i default) F (grow w d))) : (Code.region id l.toArray true).wp P Q a (grow w e) := by
  have hc := hcaB_spec hB
  have hgd : ∀ i, opAt l.toArray i = l.getD i default := fun i => by simp [opAt, Array.getD_eq_getD_getElem?, List.getD_eq_getElem?_getD]
  have hm1 : ∀ L : List Nat, (L.map fun i => l.getD i default) = L.map (opAt l.toArray) := fun L => List.map_congr_left fun i _ => (hgd i).symm
  rw [hm1] at h
  simp only [hm1 C] at h
  have hself : ∀ h ∈ H, ∀ j, h ≤ j → Region.waitsFor .any l.toArray h j = false := fun x hx j hj => by
    cases hw : Region.waitsFor .any l.toArray x j with
    | false => rfl
    | true =>
      obtain ⟨e, he, hb, hon⟩ := waitsFor_of (md := .any) (e := default) (Nat.lt_of_lt_of_le (hc.hn x hx) hc.nsz) hw
      have := (hc.hcl x hx e he hb).2
      omega
  obtain ⟨val, h1, h2⟩ := wpHL_fill hc.sel hc.lk H a (hc.hp.imp fun h => Nat.ne_of_lt h) hc.hn (hc.hp.imp_of_mem fun ha _ hl => hself _ ha _ (by omega)) (fun x hx => hself x hx x (Nat.le_refl _)) h
  refine wp_region_any hm ?_
  have hlen : H.length + C.length + A.length = n := by
    have hnd : ((H ++ C) ++ A).Nodup := List.nodup_append.2 ⟨List.nodup_append.2 ⟨hc.hp.imp fun h => Nat.ne_of_lt h, hc.cnd, fun x hx y hy hxy => hc.part x hx (hxy ▸ hy)⟩, hc.ad, fun x hx y hy hxy => hc.parta y hy (by rw [← hxy]; exact List.mem_append.1 hx)⟩
    have hp : ((H ++ C) ++ A).Perm (List.range n) := (List.perm_ext_iff_of_nodup hnd List.nodup_range).2 fun x => by
      rw [List.mem_append, List.mem_append, List.mem_range]
      refine ⟨fun h => ?_, fun h => ?_⟩
      · rcases h with (h | h) | h
        · exact hc.hn x h
        · exact hc.cn x h
        · exact hc.an x h
      · rcases hc.all x h with h | h | h
        · exact .inl (.inl h)
        · exact .inl (.inr h)
        · exact .inr h
    have := hp.length_eq
    simpa [Nat.add_assoc] using this
  have := wpAny_of_hca (Q := Q) hc (obj := obj) (fun j hj a w => by rw [hgd]; exact hA0 j hj a w) (fun a w h => by simpa using h) (H.length + C.length + A.length) H C A [] (Array.replicate l.toArray.size false) a _ { grow w e with drawn := (grow w e).drawn + 1 } rfl
    ⟨by simp, fun i hi => by rw [getD_replicate_false]; simpa using hc.all i hi, fun i _ => getD_replicate_false _ _, fun _ h => h, hc.hp, ⟨0, rfl⟩, fun _ h => h, hc.ad, Clo.init _⟩ rfl (fun x hx => by cases hx) h2 (Ext.drew ⟨e, rfl⟩) (h1 ⟨e.obs, fun k => e.n k + 1⟩)
  rw [hlen, show n + (l.toArray.size - n) = l.toArray.size by have := hc.nsz; omega] at this
  exact this
theorem wp_region_ha {id : Nat} {Q : Exit → Act → World → Prop} {a : Act} {w : World} {l : List Oper} (n : Nat) (H C A : List Nat) (obj : Nat → Obj) (hm : P.follows .mixedOrders = true) (hB : hcaB .any l.toArray n H C A = true)
    (hA0 : ∀ j ∈ A, ∀ (a : Act) (w : World), (execOp a.eval (l.getD j default)).run P w = .ok (.value (ptrV w.heap.size)) (w.alloc (obj j)))
    (h : wpHL P w (H.map fun i => l.getD i default) a (fun F => ∀ d, wpU P l.toArray w obj (fun a' w' => wpList P l.toArray Q (l.drop n) a' w') A [] (C.map fun i => l.getD i default) F (grow w d))) : (Code.region id l.toArray true).wp P Q a w := by
  have := wp_region_ha' (id := id) (e := ⟨#[], fun k => k⟩) n H C A obj hm hB hA0 h
  simpa [grow] using this
/-- Its steps: what is laid on the way lies between two worlds. -/
theorem wpU_nil {W : World} {obj : Nat → Obj} {E : Act → World → Prop} {pa D : List Nat} {a : Act} {w : World} (h : ∀ w', Ext w w' → ∀ b, GoodP W w' obj pa D b → E (fill ops (fun j => ptrV (b j)) pa a) w') : wpU P ops W obj E pa D [] a w := h
theorem wpU_v {W : World} {obj : Nat → Obj} {E : Act → World → Prop} {pa D : List Nat} {o : Oper} {l : List Oper} {a : Act} {w : World}
    (h : ∀ w', Ext w w' → ∀ K : Act → World → Prop, (∀ a w, wpU P ops W obj E pa D l a w → K a w) → ∃ v w'', (execOp a.eval o).run P w' = .ok (.value v) w'' ∧ Ext w' w'' ∧ K (a.put o.dst v) w'') : wpU P ops W obj E pa D (o :: l) a w :=
  fun w' hx => .inl (h w' hx _ fun _ _ h => h)
theorem wpU_c {W : World} {obj : Nat → Obj} {E : Act → World → Prop} {pa D : List Nat} {o : Oper} {l : List Oper} {a : Act} {w : World}
    (h : ∀ w', Ext w w' → ∀ K : Act → World → Prop, (∀ a w, wpU P ops W obj E pa D l a w → K a w) → ∃ f args, (execOp a.eval o).run P w' = .ok (.enter f args) w' ∧ Calls P f args w' fun e w'' => ∃ v, e = .returned v ∧ Ext w' w'' ∧ K (a.put o.dst v) w'') : wpU P ops W obj E pa D (o :: l) a w :=
  fun w' hx => .inr (h w' hx _ fun _ _ h => h)
end
end Go.Proofs.YtmopgcbhmkemjaaGreatDoor
