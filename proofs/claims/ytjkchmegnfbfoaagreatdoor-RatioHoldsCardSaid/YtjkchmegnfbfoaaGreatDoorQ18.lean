/- The Rat of the empty text: none. RatioHolds answers true: the text; all. -/
import Derived.Test.YtjkchmegnfbfoaaGreatDoorProg
import Derived.Test.YtjkchmegnfbfoaaGreatDoorQ17
namespace Go.Proofs.YtjkchmegnfbfoaaGreatDoor
open Go Go.RowKit Go.Shelf
set_option linter.unusedSimpArgs false
set_option linter.unusedVariables false
set_option maxRecDepth 100000
attribute [local go_sem] Oper.semAt_some undef

set_option maxHeartbeats 8000000 in
theorem rParse_empty (n : Nat) (hn : 3 ≤ n) (w : World) :
    CallsIn Fence.wide n Tryz.prog 40 #[.string ⟨#[]⟩] w fun e w' => e = .returned (.tuple #[qZ, .int .i64 120]) ∧ Below w.heap.size w w' := by
  have hcut := cCut_no ⟨#[]⟩ rfl
  have ca := Parse_empty
  refine callsIn_of_wp_marks Tryz.func40 rfl trivial ?_ rfl
  simp only [Tryz.ntmps40, List.size_toArray, List.length_cons, List.length_nil, Nat.reduceAdd, Nat.reduceSub, Array.replicate_succ, Array.replicate_zero, List.push_toArray, List.append_toArray, List.nil_append, List.cons_append]
  gi_wp2_with (first
    | (refine ⟨trivial, (fun _ => by omega), ?_⟩; gi_at_call 52; refine (callsIn_wide.2 (one_any _)).mono ?_; rintro e w' ⟨rfl, d, rfl⟩)
    | (refine ⟨trivial, (fun _ => by omega), ?_⟩; gi_at_call 81; refine (parts_in (n - 1) _ _).mono ?_; rintro e w' ⟨rfl, rfl⟩))
  refine wpIn_rebase fun v hv => ?_
  have hx : Ext w v := by rw [hv]; exact (by repeat (first | (with_reducible exact Ext.refl _) | (with_reducible assumption) | (with_reducible apply Ext.grow) | (with_reducible apply Ext.alloc) | (with_reducible apply Ext.drew) | ((with_reducible apply Ext.set); (case hb => (first | omega | (simp; omega))))))
  have B2 : Blk v w.heap.size zR 27 := by rw [hv]; exact (by repeat (first | (with_reducible assumption) | ((with_reducible refine Blk.new _ _ _ ?_); (simp; done)) | (with_reducible apply Blk.alloc) | (with_reducible apply Blk.grow) | (with_reducible apply Blk.drew) | (with_reducible apply Blk.set10) | (with_reducible apply Blk.set5) | (with_reducible apply Blk.set4) | (with_reducible apply Blk.tail4) | (with_reducible apply Blk.set2) | (with_reducible apply Blk.set1) | ((with_reducible apply Blk.setOther); (case hne => omega))))
  have B3 : Blk v (w.heap.size + 1) #[.int .i64 0] 37 := by rw [hv]; exact (by repeat (first | (with_reducible assumption) | ((with_reducible refine Blk.new _ _ _ ?_); (simp; done)) | (with_reducible apply Blk.alloc) | (with_reducible apply Blk.grow) | (with_reducible apply Blk.drew) | (with_reducible apply Blk.set10) | (with_reducible apply Blk.set5) | (with_reducible apply Blk.set4) | (with_reducible apply Blk.tail4) | (with_reducible apply Blk.set2) | (with_reducible apply Blk.set1) | ((with_reducible apply Blk.setOther); (case hne => omega))))
  have hl : w.heap.size + 1 < w.heap.size + 1 + 1 + d.obs.size := by omega
  have BL : Blk v (w.heap.size + 1 + 1 + d.obs.size) (two false 0 1 []) 112 := by rw [hv]; apply Blk.alloc; apply Blk.alloc; exact Blk.new _ _ _ (by simp)
  have BV : Blk v (w.heap.size + 1 + 1 + d.obs.size + 1) #[.bool false] 4 := by rw [hv]; apply Blk.alloc; exact Blk.new _ _ _ (by simp)
  have BS : Blk v (w.heap.size + 1 + 1 + d.obs.size + 1 + 1) #[.string ⟨#[]⟩] 9 := by rw [hv]; exact Blk.new _ _ _ (by simp)
  clear hv
  generalize w.heap.size + 1 + 1 + d.obs.size = b4 at *
  have hst := parts_stops_one (n - 1) (by omega) (b4 + 1 + 1) w.heap.size ⟨#[]⟩ ⟨#[]⟩ ⟨#[]⟩ hcut v (BS.cell 0) BS.lt
  have hB0 : Below w.heap.size w v := hx.below
  refine wpIn_rangeFunc_ownG rfl (by omega) (gf := 109) (lb := #[.pointer (some ⟨b4 + 1 + 1, 0, none⟩)]) rfl trivial (enters_of Tryz.func109 (by kernel_rfl) rfl)
    hst belowK_t (belowK_b (by have := BS.lt; omega)) (Below.refl _ _) (fun _ => rfl)
    (fun pre W => pre = [] ∧ (Blk W b4 (two false 0 1 []) 112 ∧ Blk W (b4 + 1) #[.bool false] 4 ∧ Blk W w.heap.size zR 27 ∧ Blk W (w.heap.size + 1) #[.int .i64 0] 37) ∧ Below w.heap.size w W)
    (fun c pre W => c = .ret ∧ (Blk W w.heap.size zR 27 ∧ Blk W (w.heap.size + 1) #[.int .i64 120] 37) ∧ Below w.heap.size w W)
    (OwnFrom.and (fun _ _ _ _ h _ _ => h) (OwnFrom.and (OwnFrom.and ((own_blk _ (fun _ => _) _).from _) (OwnFrom.and ((own_blk _ (fun _ => _) _).from _) (OwnFrom.and ((own_blk _ (fun _ => _) _).from _) ((own_blk _ (fun _ => _) _).from _)))) (ownFrom_below (Nat.le_refl _) (by have := BS.lt; omega))))
    (fun c => OwnFrom.and (fun _ _ _ _ h _ _ => h) (OwnFrom.and (OwnFrom.and ((own_blk _ (fun _ => _) _).from _) ((own_blk _ (fun _ => _) _).from _)) (ownFrom_below (Nat.le_refl _) (by have := BS.lt; omega))))
    ⟨rfl, ⟨BL, BV, B2, B3⟩, hB0⟩
    (fun x => { tmps := #[.string ⟨#[]⟩, undef, .pointer (some ⟨w.heap.size, 0, none⟩), .pointer (some ⟨w.heap.size + 1, 0, none⟩), .pointer (some ⟨b4, 0, none⟩), .pointer (some ⟨b4 + 1, 0, none⟩), .int .i64 0, .string ⟨#[]⟩, undef, .agg #[.bool false, .int .u64 0, .int .u64 0, .int .u64 0, .int .u64 0], intV false 1, .agg #[.bool false, .int .u64 0, .int .u64 0, .int .u64 0, .int .u64 0, .bool false, q64 (wn 1 0), q64 (wn 1 1), q64 (wn 1 2), q64 (wn 1 3)], .string ⟨#[]⟩, .func (.func 109) #[] #[.pointer (some ⟨b4 + 1 + 1, 0, none⟩)], .int .i64 0, .string ⟨#[]⟩, undef, undef, undef, undef, undef, undef, undef, undef, undef, undef, undef, undef, undef, undef, undef, undef, undef, undef, undef, undef, undef, undef, undef, undef, undef, undef, undef, undef, undef, undef, undef, undef, undef, undef, undef, undef, undef, undef, undef, undef, undef, undef, undef], defers := [] }) ?assign ?body ?done ?stop
  case assign =>
    intro l x W K hK
    gi_wp2
    exact hK
  case done =>
    rintro D ys W hD rfl ⟨h, _⟩ hK
    cases h
  case body =>
    rintro l pre x W ⟨rfl, ⟨BL, BV, B2, B3⟩, hB⟩ _
    obtain ⟨c0, c1, c2, c3, c4, d0, d1, d2, d3, d4, t1, t2, t3⟩ := two_lit false 0 1 []
    rw [t1] at BL
    have lBL := BL.lt; have cBL := BL.cell; have fBL := BL.frozen; have lBV := BV.lt; have cBV := BV.cell; have fBV := BV.frozen; have lB2 := B2.lt; have cB2 := B2.cell; have fB2 := B2.frozen; have lB3 := B3.lt; have cB3 := B3.cell; have fB3 := B3.frozen
    gi_wp2_with (refine ⟨trivial, (fun _ => by omega), ?_⟩; gi_at_call 82; refine (CallsIn.inRound l (callsIn_wide.2 (ca _))).mono ?_; rintro e w' ⟨rfl, hx⟩; have BL' := BL.ext hx; have BV' := BV.ext hx; have B2' := B2.ext hx; have B3' := B3.ext hx; have lBL' := BL'.lt; have cBL' := BL'.cell; have fBL' := BL'.frozen; have lBV' := BV'.lt; have cBV' := BV'.cell; have fBV' := BV'.frozen; have lB2' := B2'.lt; have cB2' := B2'.cell; have fB2' := B2'.frozen; have lB3' := B3'.lt; have cB3' := B3'.cell; have fB3' := B3'.frozen)
    refine ⟨trivial, ?_⟩
    gi_wp2
    --s1
    have lS := BS.lt
    have hbW : Below w.heap.size W w' := hx.below.mono hB.size
    refine ⟨?_, rfl, ⟨?_, ?_⟩, ?_⟩
    · repeat (with_reducible first | exact keeps_ext hx | refine keepsCell ?_ (by omega))
    · exact (by repeat (first | (with_reducible assumption) | ((with_reducible refine Blk.new _ _ _ ?_); (simp; done)) | (with_reducible apply Blk.alloc) | (with_reducible apply Blk.grow) | (with_reducible apply Blk.drew) | (with_reducible apply Blk.set10) | (with_reducible apply Blk.set5) | (with_reducible apply Blk.set4) | (with_reducible apply Blk.tail4) | (with_reducible apply Blk.set2) | (with_reducible apply Blk.set1) | ((with_reducible apply Blk.setOther); (case hne => omega))))
    · exact (by repeat (first | (with_reducible assumption) | ((with_reducible refine Blk.new _ _ _ ?_); (simp; done)) | (with_reducible apply Blk.alloc) | (with_reducible apply Blk.grow) | (with_reducible apply Blk.drew) | (with_reducible apply Blk.set10) | (with_reducible apply Blk.set5) | (with_reducible apply Blk.set4) | (with_reducible apply Blk.tail4) | (with_reducible apply Blk.set2) | (with_reducible apply Blk.set1) | ((with_reducible apply Blk.setOther); (case hne => omega))))
    · repeat (with_reducible first | exact hB.trans hbW | refine belowCell ?_ (by omega))
  case stop =>
    rintro D c pre W hD _ ⟨rfl, ⟨B2, B3⟩, hB⟩ hK
    gi_wp2
    --s2
    have lS := BS.lt
    have BF5 := own_blk (β := Unit) w.heap.size (fun _ => _) _ () W _ (some D) B2 (grownBy_putObj' W D (.deferred none)) (fun r e => by cases e; exact ⟨_, hK, rfl⟩)
    have BE5 := own_blk (β := Unit) (w.heap.size + 1) (fun _ => _) _ () W _ (some D) B3 (grownBy_putObj' W D (.deferred none)) (fun r e => by cases e; exact ⟨_, hK, rfl⟩)
    have lBF5 := BF5.lt; have cBF5 := BF5.cell; have fBF5 := BF5.frozen; have lBE5 := BE5.lt; have cBE5 := BE5.cell; have fBE5 := BE5.frozen; clear BF5 BE5
    refine ⟨by simp, .inl ⟨_, _, rfl, run_takeDeferred hK, ?_⟩⟩
    refine ⟨.tuple #[qZ, .int .i64 120], ?_, ?_⟩
    · simp [results, Tryz.results40, go_sem, cBF5, cBE5]
    · exact ⟨by simp, hB.trans (belowK_b (w := w) (Nat.le_refl _) W D _ _ (by omega) hK rfl rfl)⟩
end Go.Proofs.YtjkchmegnfbfoaaGreatDoor

namespace Go.Proofs.YtjkchmegnfbfoaaGreatDoor
open Go Go.RowKit
set_option linter.unusedSimpArgs false
set_option linter.unusedVariables false
set_option maxRecDepth 100000
set_option exponentiation.threshold 3000

theorem cut_left (A C : ByteArray) : ((A ++ ⟨#[47]⟩) ++ C).extract 0 A.size = A := by
  rw [ByteArray.append_assoc]; exact ByteArray.extract_append_eq_left rfl
theorem cut_right (A C : ByteArray) : ((A ++ ⟨#[47]⟩) ++ C).extract (A.size + 1) ((A ++ ⟨#[47]⟩) ++ C).size = C := by
  exact ByteArray.extract_append_eq_right (by simp [ByteArray.size_append]; rfl) (by simp [ByteArray.size_append])
theorem cut_list (A C : ByteArray) : ((A ++ ⟨#[47]⟩) ++ C).data.toList = A.data.toList ++ 47 :: C.data.toList := by
  simp [ByteArray.data_append]
theorem rParse_calls {s : ByteArray} {v : Value} {w : World} (h : CallsIn Fence.wide 3 Tryz.prog 40 #[.string s] w fun e w' => e = .returned v ∧ Below w.heap.size w w') :
    Calls Tryz.prog 40 #[.string s] w fun e w' => e = .returned v ∧ Ext w w' :=
  (callsIn_wide.1 h).mono fun e w' ⟨h1, h2⟩ => ⟨h1, Ext.of_below h2⟩
theorem text_part (a : Rt) : ∃ (V : Rt) (u : ByteArray) (k l : Int), Ans 39 #[a.v] (.tuple #[.string u, .int .i64 k]) ∧ Ans 40 #[.string u] (.tuple #[V.v, .int .i64 l]) ∧
    (k = 2 ∨ (k = 0 ∧ l = 0 ∧ EqT 27 V.v a.v)) := by
  cases h : a.ok with
  | false =>
    exact ⟨noR, ⟨#[]⟩, 2, 120, fun w => rText_no a h w, fun w => by have := rParse_calls (rParse_empty 3 (by omega) w); rwa [qZ_eq] at this, .inl rfl⟩
  | true =>
    have ht := rText_yes a h
    refine ⟨a, ratT a, 0, 0, ht, ?_, .inr ⟨rfl, rfl, eqT_rt a⟩⟩
    clear ht
    have hok := h
    obtain ⟨b1, b2, b3, b4⟩ := (okR_iff _ _ _ _).1 h
    obtain ⟨s1, m1, t1, k1, hm, hk⟩ := a
    dsimp only at b1 b2 b3 b4
    subst b2
    have hbad : badI s1 m1 = false := by cases s1 <;> simp_all [badI]
    have ca := Parse_textB s1 m1 hm hbad
    have cb := Parse_textB false k1 hk rfl
    intro w
    apply rParse_calls
    show CallsIn _ _ _ _ _ _ fun e w' => e = .returned (.tuple #[ratV s1 m1 false k1, .int .i64 0]) ∧ _
    by_cases hk1 : k1 = 1
    · subst hk1
      have e : ratT ⟨s1, m1, false, 1, hm, hk⟩ = textB s1 m1 := rfl
      rw [e]
      exact rParse_one 3 (by omega) (textB s1 m1) (textB s1 m1) ⟨#[]⟩ (cCut_no _ (idx_no _ (textB_ne47 s1 m1))) s1 m1 hm ca _ 0 (.inl ⟨hok, rfl, rfl⟩) w
    · have e : ratT ⟨s1, m1, false, k1, hm, hk⟩ = (textB s1 m1 ++ ⟨#[47]⟩) ++ textB false k1 := if_neg hk1
      rw [e]
      have S1 := textB_size s1 m1
      have S2 := textB_size false k1
      have L1 := cods_len s1 m1 hm
      have L2 := cods_len false k1 hk
      have sz : ((textB s1 m1 ++ ⟨#[47]⟩) ++ textB false k1).size = (textB s1 m1).size + 1 + (textB false k1).size := by rw [ByteArray.size_append, ByteArray.size_append]; rfl
      have hcut := cCut_at ((textB s1 m1 ++ ⟨#[47]⟩) ++ textB false k1) (textB s1 m1).size (by rw [sz]; omega) (by rw [sz]; omega) (by
        rw [cut_list, idx_at _ _ (textB_ne47 s1 m1)]; rfl)
      rw [cut_left, cut_right] at hcut
      exact rParse_in 3 (by omega) _ (textB s1 m1) (textB false k1) hcut s1 m1 k1 hm hk ca cb (textB_not k1 0 (by omega) (by omega)) (textB_not k1 1 (by omega) hk1)
        (fun w => hasPrefix_no (textB false k1) (by omega) (by omega) (textB_front k1) w) _ 0 (.inl ⟨hok, rfl, rfl⟩) w
theorem holds_true (a b : Rt) (w : World) (hT : Tab w) :
    Calls Tryz.prog 7 #[a.v, b.v] w fun e w' => e = .returned (.bool true) ∧ Ext w w' := by
  obtain ⟨S, C, z1, z3, g1, g3, A1, A2, SB, e3⟩ := sums_part a b
  obtain ⟨P, D, z2, z4, g2, g4, M1, M2, DV, e4⟩ := prods_part a b
  obtain ⟨c, i, q, hc, C1, C2, hi, eq, hq⟩ := cmp_part a b
  obtain ⟨V, u, k, l, TX, PA, hk⟩ := text_part a
  exact Holds_walk a b S P C D V z1 z2 z3 z4 c i k l q u w hT g1 g2 g3 g4 hc A1 A2 M1 M2 (eqT_rt S) (eqT_rt P) SB e3 DV e4 C1 C2 hi eq hq TX PA hk
end Go.Proofs.YtjkchmegnfbfoaaGreatDoor
