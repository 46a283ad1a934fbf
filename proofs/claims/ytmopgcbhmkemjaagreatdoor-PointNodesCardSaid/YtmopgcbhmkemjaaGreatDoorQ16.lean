/- Ref 03's small and Grid, over rationals. PointNodes: the walks. PointNodes holds. -/
import Derived.Test.YtmopgcbhmkemjaaGreatDoorProg
import Derived.Test.YtmopgcbhmkemjaaGreatDoorQ15
import Derived.Test.YtmopgcbhmkemjaaGreatDoorQ13
import Derived.Test.YtmopgcbhmkemjaaGreatDoorQ14
import Derived.Test.YtmopgcbhmkemjaaGreatDoorQ11
namespace Go.Proofs.YtmopgcbhmkemjaaGreatDoor
open Go Go.RowKit
set_option linter.unusedSimpArgs false
set_option linter.unusedVariables false
set_option maxRecDepth 100000
set_option exponentiation.threshold 3000

/-- A rational that ref 03's small takes for a word. -/
def smq (x : Rat) : Bool := decide (x.den = 1) && decide (x.num.natAbs < 4294967296)
theorem smallR_any (x : Rat) (fx : Fits x) (v : Value) (w : World) (h : FrQ w v x) :
    Calls Tryz.prog 38 #[v] w fun e w' => e = .returned (.tuple #[.int .i64 (if smq x then x.num else 0), .bool (smq x)]) ∧ Ext w w' := by
  obtain ⟨s, a, n, c, s', a', n', c', rfl, h1, h2⟩ := h
  have CM : ∀ v w', Ext w w' → BigV w' v 1 → Calls Tryz.prog 73 #[.agg (bigC s' a' n' c'), v] w' fun e w2 => e = .returned (.int .i64 (cmpI x.den 1)) ∧ Ext w' w2 := fun v w' hx hb =>
    bCmp (x.den : Int) 1 _ v (small_lt (fit_lt (den_fit fx))) (small_lt (by decide)) w' (h2.ext hx) hb
  by_cases hd : x.den = 1
  · have hc : cmpI (x.den : Int) 1 = 0 := by rw [hd]; decide
    rw [hc] at CM
    clear h2
    obtain ⟨sl, e1, k1⟩ := h1
    simp only [bigC, Value.agg.injEq] at e1
    have es : s = decide (x.num < 0) := by
      have := congrArg (fun x : Array Value => match x[0]? with | some (Value.bool b) => b | _ => false) e1
      exact this
    have el : sl = .slice a n c := by
      have := congrArg (fun x : Array Value => x[1]?) e1
      simpa using this.symm
    subst el
    have hz : x.num = sv s x.num.natAbs := by rw [es]; by_cases h : x.num < 0 <;> simp [sv, h] <;> omega
    obtain ⟨m, hM⟩ : ∃ m, x.num.natAbs = m := ⟨_, rfl⟩
    rw [hM] at k1 hz
    have hm : smq x = decide (m < 4294967296) := by unfold smq; rw [decide_eq_true hd, hM]; rfl
    rw [hm]
    have hn : n ≤ 2 ↔ m < 4294967296 := by
      obtain ⟨a2, c2, e2⟩ := k1.len
      cases e2
      rw [dg_len_le]
    by_cases hl : n ≤ 2
    · have hm2 := hn.1 hl
      rw [decide_eq_true hm2, if_pos rfl]
      have hnn : n = (dg m).length := by
        obtain ⟨a2, c2, e2⟩ := k1.len
        cases e2; rfl
      rcases k1.1 with ⟨a1, cap, e2, e3⟩ | ⟨b, o, cap, e2, hc⟩
      · cases e2
        have h0 : m = 0 := (dg_nil m).1 e3
        have hs : s = false := by rw [es]; exact decide_eq_false (by omega)
        subst hs
        rw [show x.num = 0 by omega]
        exact smallR_2 false a 0 c s' a' n' c' w CM
      · cases e2
        by_cases h0 : m = 0
        · have hs : s = false := by rw [es]; exact decide_eq_false (by omega)
          subst hs
          rw [show x.num = 0 by omega]
          have e4 : (dg m).length = 0 := by rw [h0, dg_zero]; rfl
          rw [e4]
          exact smallR_2 false _ 0 c s' a' n' c' w CM
        · have c0 := hc.at' 0 (Nat.pos_of_ne_zero (fun h => h0 ((dg_nil m).1 (List.eq_nil_of_length_eq_zero h))))
          rw [dg_getD, Nat.pow_zero, Nat.div_one, Nat.add_zero] at c0
          by_cases h1 : m < 65536
          · have e4 : (dg m).length = 1 := by rw [dg_pos m h0, Nat.div_eq_of_lt h1, dg_zero]; rfl
            rw [Nat.mod_eq_of_lt h1] at c0
            rw [e4]
            cases s
            · rw [hz, sv_false]
              exact smallR_4 false none 1 c s' a' n' c' w b o m h1 c0 CM
            · rw [hz, show sv true m = -(m : Int) from rfl]
              exact smallR_3 true none 1 c s' a' n' c' w b o m h1 c0 CM
          · have e5 : m / 65536 < 65536 := by omega
            have e4 : (dg m).length = 2 := by rw [dg_pos m h0, dg_pos (m / 65536) (by omega), Nat.div_eq_of_lt e5, dg_zero]; rfl
            have c1 := hc.at' 1 (by rw [e4]; omega)
            rw [dg_getD, Nat.pow_one, Nat.mod_eq_of_lt e5] at c1
            rw [e4]
            have e6 : ((m / 65536 : Nat) : Int) * 65536 + ((m % 65536 : Nat) : Int) = (m : Int) := by omega
            cases s
            · rw [hz, sv_false, ← e6]
              exact smallR_6 false none 2 c s' a' n' c' w b o (m % 65536) (Nat.mod_lt _ (by decide)) c0 (m / 65536) e5 c1 CM
            · rw [hz, show sv true m = -(m : Int) from rfl, ← e6]
              exact smallR_5 true none 2 c s' a' n' c' w b o (m % 65536) (Nat.mod_lt _ (by decide)) c0 (m / 65536) e5 c1 CM
    · have hm2 : ¬ m < 4294967296 := fun h => hl (hn.2 h)
      rw [decide_eq_false hm2]
      exact smallR_1 s a n c s' a' n' c' w (by omega) CM
  · have hc : cmpI (x.den : Int) 1 = 1 := by
      have := x.den_nz
      unfold cmpI
      rw [if_neg (by omega), if_pos (by omega)]
    rw [hc] at CM
    have hm : smq x = false := by unfold smq; rw [decide_eq_false hd]; rfl
    rw [hm]
    exact smallR_0 s a n c s' a' n' c' w CM
set_option maxHeartbeats 8000000 in
theorem gridR_1 (s1 : Bool) (a1 : Option Addr) (n1 c1 : Nat) (s2 : Bool) (a2 : Option Addr) (n2 c2 : Nat) (s3 : Bool) (a3 : Option Addr) (n3 c3 : Nat) (s4 : Bool) (a4 : Option Addr) (n4 c4 : Nat) (w : World) (x y : Int) (p q : Bool) (S1 : ∀ w', Ext w w' → Calls Tryz.prog 38 #[(.agg #[.bool s1, .slice a1 n1 c1, .bool s2, .slice a2 n2 c2])] w' fun e w2 => e = .returned (.tuple #[.int .i64 x, .bool p]) ∧ Ext w' w2) (S2 : ∀ w', Ext w w' → Calls Tryz.prog 38 #[(.agg #[.bool s3, .slice a3 n3 c3, .bool s4, .slice a4 n4 c4])] w' fun e w2 => e = .returned (.tuple #[.int .i64 y, .bool q]) ∧ Ext w' w2)
    (hp : p = false) : Calls Tryz.prog 12 #[.agg #[.bool s1, .slice a1 n1 c1, .bool s2, .slice a2 n2 c2, .bool s3, .slice a3 n3 c3, .bool s4, .slice a4 n4 c4]] w fun e w' => e = .returned (.tuple #[ndV 0 0, .bool false]) ∧ Ext w w' := by
  have hx : Ext w w := Ext.refl w
  subst hp
  go_enter Tryz.func12, Tryz.ntmps12
  go_wp2_with (go_at_call 38; (with_reducible refine (S1 _ (hx.trans ext_auto)).mono ?_); rintro e y1 ⟨rfl, hz_⟩; have hzz_ : Ext w y1 := Ext.trans ext_auto hz_; have BA : Blk y1 w.heap.size #[.bool s1, .slice a1 n1 c1, .bool s2, .slice a2 n2 c2, .bool s3, .slice a3 n3 c3, .bool s4, .slice a4 n4 c4] 46 := Blk.ext blk_auto hz_; have BO : Blk y1 (w.heap.size + 1) #[.int .i64 0, .int .i64 0] 23 := Blk.ext blk_auto hz_; replace hx := hx.trans hzz_; clear hz_ hzz_; have lBA := BA.lt; have cBA := BA.cell; have fBA := BA.frozen; have lBO := BO.lt; have cBO := BO.cell; have fBO := BO.frozen)
  go_wp2_with (go_at_call 38; (with_reducible refine (S2 _ (hx.trans ext_auto)).mono ?_); rintro e y2 ⟨rfl, hz_⟩; have hzz_ : Ext y1 y2 := Ext.trans ext_auto hz_; replace BO := BO.ext hzz_; clear lBO cBO fBO; replace hx := hx.trans hzz_; clear hz_ hzz_; have lBO := BO.lt; have cBO := BO.cell; have fBO := BO.frozen)
  go_wp2
  refine bp_rebase fun u hu => ?_
  have hy : Ext w u := by rw [hu]; exact ext_auto
  have BF : Blk u (w.heap.size + 1) #[.int .i64 0, .int .i64 0] 23 := by rw [hu]; exact blk_auto
  clear hu
  have lBF := BF.lt; have cBF := BF.cell; have fBF := BF.frozen; clear BF
  exact bodyPost_ret (v := .tuple #[ndV 0 0, .bool false]) (by simp [results, Tryz.results12, go_sem, cBF]) rfl ⟨rfl, hy⟩
set_option maxHeartbeats 8000000 in
theorem gridR_2 (s1 : Bool) (a1 : Option Addr) (n1 c1 : Nat) (s2 : Bool) (a2 : Option Addr) (n2 c2 : Nat) (s3 : Bool) (a3 : Option Addr) (n3 c3 : Nat) (s4 : Bool) (a4 : Option Addr) (n4 c4 : Nat) (w : World) (x y : Int) (p q : Bool) (S1 : ∀ w', Ext w w' → Calls Tryz.prog 38 #[(.agg #[.bool s1, .slice a1 n1 c1, .bool s2, .slice a2 n2 c2])] w' fun e w2 => e = .returned (.tuple #[.int .i64 x, .bool p]) ∧ Ext w' w2) (S2 : ∀ w', Ext w w' → Calls Tryz.prog 38 #[(.agg #[.bool s3, .slice a3 n3 c3, .bool s4, .slice a4 n4 c4])] w' fun e w2 => e = .returned (.tuple #[.int .i64 y, .bool q]) ∧ Ext w' w2)
    (hp : p = true) (hq : q = false) : Calls Tryz.prog 12 #[.agg #[.bool s1, .slice a1 n1 c1, .bool s2, .slice a2 n2 c2, .bool s3, .slice a3 n3 c3, .bool s4, .slice a4 n4 c4]] w fun e w' => e = .returned (.tuple #[ndV 0 0, .bool false]) ∧ Ext w w' := by
  have hx : Ext w w := Ext.refl w
  subst hp hq
  go_enter Tryz.func12, Tryz.ntmps12
  go_wp2_with (go_at_call 38; (with_reducible refine (S1 _ (hx.trans ext_auto)).mono ?_); rintro e y1 ⟨rfl, hz_⟩; have hzz_ : Ext w y1 := Ext.trans ext_auto hz_; have BA : Blk y1 w.heap.size #[.bool s1, .slice a1 n1 c1, .bool s2, .slice a2 n2 c2, .bool s3, .slice a3 n3 c3, .bool s4, .slice a4 n4 c4] 46 := Blk.ext blk_auto hz_; have BO : Blk y1 (w.heap.size + 1) #[.int .i64 0, .int .i64 0] 23 := Blk.ext blk_auto hz_; replace hx := hx.trans hzz_; clear hz_ hzz_; have lBA := BA.lt; have cBA := BA.cell; have fBA := BA.frozen; have lBO := BO.lt; have cBO := BO.cell; have fBO := BO.frozen)
  go_wp2_with (go_at_call 38; (with_reducible refine (S2 _ (hx.trans ext_auto)).mono ?_); rintro e y2 ⟨rfl, hz_⟩; have hzz_ : Ext y1 y2 := Ext.trans ext_auto hz_; replace BO := BO.ext hzz_; clear lBO cBO fBO; replace hx := hx.trans hzz_; clear hz_ hzz_; have lBO := BO.lt; have cBO := BO.cell; have fBO := BO.frozen)
  go_wp2
  refine bp_rebase fun u hu => ?_
  have hy : Ext w u := by rw [hu]; exact ext_auto
  have BF : Blk u (w.heap.size + 1) #[.int .i64 0, .int .i64 0] 23 := by rw [hu]; exact blk_auto
  clear hu
  have lBF := BF.lt; have cBF := BF.cell; have fBF := BF.frozen; clear BF
  exact bodyPost_ret (v := .tuple #[ndV 0 0, .bool false]) (by simp [results, Tryz.results12, go_sem, cBF]) rfl ⟨rfl, hy⟩
set_option maxHeartbeats 8000000 in
theorem gridR_3 (s1 : Bool) (a1 : Option Addr) (n1 c1 : Nat) (s2 : Bool) (a2 : Option Addr) (n2 c2 : Nat) (s3 : Bool) (a3 : Option Addr) (n3 c3 : Nat) (s4 : Bool) (a4 : Option Addr) (n4 c4 : Nat) (w : World) (x y : Int) (p q : Bool) (S1 : ∀ w', Ext w w' → Calls Tryz.prog 38 #[(.agg #[.bool s1, .slice a1 n1 c1, .bool s2, .slice a2 n2 c2])] w' fun e w2 => e = .returned (.tuple #[.int .i64 x, .bool p]) ∧ Ext w' w2) (S2 : ∀ w', Ext w w' → Calls Tryz.prog 38 #[(.agg #[.bool s3, .slice a3 n3 c3, .bool s4, .slice a4 n4 c4])] w' fun e w2 => e = .returned (.tuple #[.int .i64 y, .bool q]) ∧ Ext w' w2)
    (hp : p = true) (hq : q = true) (NR : ∀ w, Calls Tryz.prog 8 #[ndV x y] w fun e w' => e = .returned (.bool false) ∧ Ext w w') : Calls Tryz.prog 12 #[.agg #[.bool s1, .slice a1 n1 c1, .bool s2, .slice a2 n2 c2, .bool s3, .slice a3 n3 c3, .bool s4, .slice a4 n4 c4]] w fun e w' => e = .returned (.tuple #[ndV 0 0, .bool false]) ∧ Ext w w' := by
  have hx : Ext w w := Ext.refl w
  subst hp hq
  go_enter Tryz.func12, Tryz.ntmps12
  go_wp2_with (go_at_call 38; (with_reducible refine (S1 _ (hx.trans ext_auto)).mono ?_); rintro e y1 ⟨rfl, hz_⟩; have hzz_ : Ext w y1 := Ext.trans ext_auto hz_; have BA : Blk y1 w.heap.size #[.bool s1, .slice a1 n1 c1, .bool s2, .slice a2 n2 c2, .bool s3, .slice a3 n3 c3, .bool s4, .slice a4 n4 c4] 46 := Blk.ext blk_auto hz_; have BO : Blk y1 (w.heap.size + 1) #[.int .i64 0, .int .i64 0] 23 := Blk.ext blk_auto hz_; replace hx := hx.trans hzz_; clear hz_ hzz_; have lBA := BA.lt; have cBA := BA.cell; have fBA := BA.frozen; have lBO := BO.lt; have cBO := BO.cell; have fBO := BO.frozen)
  go_wp2_with (go_at_call 38; (with_reducible refine (S2 _ (hx.trans ext_auto)).mono ?_); rintro e y2 ⟨rfl, hz_⟩; have hzz_ : Ext y1 y2 := Ext.trans ext_auto hz_; replace BO := BO.ext hzz_; clear lBO cBO fBO; replace hx := hx.trans hzz_; clear hz_ hzz_; have lBO := BO.lt; have cBO := BO.cell; have fBO := BO.frozen)
  go_wp2_with (go_at_call 8; (with_reducible refine (NR _).mono ?_); rintro e y3 ⟨rfl, hz_⟩; have hzz_ : Ext y2 y3 := Ext.trans ext_auto hz_; have BN : Blk y3 y2.heap.size #[.int .i64 x, .int .i64 y] 23 := Blk.ext blk_auto hz_; replace BO := BO.ext hzz_; clear lBO cBO fBO; replace hx := hx.trans hzz_; clear hz_ hzz_; have lBO := BO.lt; have cBO := BO.cell; have fBO := BO.frozen; have lBN := BN.lt; have cBN := BN.cell; have fBN := BN.frozen)
  go_wp2
  refine bp_rebase fun u hu => ?_
  have hy : Ext w u := by rw [hu]; exact ext_auto
  have BF : Blk u (w.heap.size + 1) #[.int .i64 0, .int .i64 0] 23 := by rw [hu]; exact blk_auto
  clear hu
  have lBF := BF.lt; have cBF := BF.cell; have fBF := BF.frozen; clear BF
  exact bodyPost_ret (v := .tuple #[ndV 0 0, .bool false]) (by simp [results, Tryz.results12, go_sem, cBF]) rfl ⟨rfl, hy⟩
set_option maxHeartbeats 8000000 in
theorem gridR_4 (s1 : Bool) (a1 : Option Addr) (n1 c1 : Nat) (s2 : Bool) (a2 : Option Addr) (n2 c2 : Nat) (s3 : Bool) (a3 : Option Addr) (n3 c3 : Nat) (s4 : Bool) (a4 : Option Addr) (n4 c4 : Nat) (w : World) (x y : Int) (p q : Bool) (S1 : ∀ w', Ext w w' → Calls Tryz.prog 38 #[(.agg #[.bool s1, .slice a1 n1 c1, .bool s2, .slice a2 n2 c2])] w' fun e w2 => e = .returned (.tuple #[.int .i64 x, .bool p]) ∧ Ext w' w2) (S2 : ∀ w', Ext w w' → Calls Tryz.prog 38 #[(.agg #[.bool s3, .slice a3 n3 c3, .bool s4, .slice a4 n4 c4])] w' fun e w2 => e = .returned (.tuple #[.int .i64 y, .bool q]) ∧ Ext w' w2)
    (hp : p = true) (hq : q = true) (NR : ∀ w, Calls Tryz.prog 8 #[ndV x y] w fun e w' => e = .returned (.bool true) ∧ Ext w w') : Calls Tryz.prog 12 #[.agg #[.bool s1, .slice a1 n1 c1, .bool s2, .slice a2 n2 c2, .bool s3, .slice a3 n3 c3, .bool s4, .slice a4 n4 c4]] w fun e w' => e = .returned (.tuple #[ndV x y, .bool true]) ∧ Ext w w' := by
  have hx : Ext w w := Ext.refl w
  subst hp hq
  go_enter Tryz.func12, Tryz.ntmps12
  go_wp2_with (go_at_call 38; (with_reducible refine (S1 _ (hx.trans ext_auto)).mono ?_); rintro e y1 ⟨rfl, hz_⟩; have hzz_ : Ext w y1 := Ext.trans ext_auto hz_; have BA : Blk y1 w.heap.size #[.bool s1, .slice a1 n1 c1, .bool s2, .slice a2 n2 c2, .bool s3, .slice a3 n3 c3, .bool s4, .slice a4 n4 c4] 46 := Blk.ext blk_auto hz_; have BO : Blk y1 (w.heap.size + 1) #[.int .i64 0, .int .i64 0] 23 := Blk.ext blk_auto hz_; replace hx := hx.trans hzz_; clear hz_ hzz_; have lBA := BA.lt; have cBA := BA.cell; have fBA := BA.frozen; have lBO := BO.lt; have cBO := BO.cell; have fBO := BO.frozen)
  go_wp2_with (go_at_call 38; (with_reducible refine (S2 _ (hx.trans ext_auto)).mono ?_); rintro e y2 ⟨rfl, hz_⟩; have hzz_ : Ext y1 y2 := Ext.trans ext_auto hz_; replace BO := BO.ext hzz_; clear lBO cBO fBO; replace hx := hx.trans hzz_; clear hz_ hzz_; have lBO := BO.lt; have cBO := BO.cell; have fBO := BO.frozen)
  go_wp2_with (go_at_call 8; (with_reducible refine (NR _).mono ?_); rintro e y3 ⟨rfl, hz_⟩; have hzz_ : Ext y2 y3 := Ext.trans ext_auto hz_; have BN : Blk y3 y2.heap.size #[.int .i64 x, .int .i64 y] 23 := Blk.ext blk_auto hz_; replace BO := BO.ext hzz_; clear lBO cBO fBO; replace hx := hx.trans hzz_; clear hz_ hzz_; have lBO := BO.lt; have cBO := BO.cell; have fBO := BO.frozen; have lBN := BN.lt; have cBN := BN.cell; have fBN := BN.frozen)
  go_wp2
  refine bp_rebase fun u hu => ?_
  have hy : Ext w u := by rw [hu]; exact ext_auto
  have BF : Blk u (w.heap.size + 1) #[.int .i64 x, .int .i64 y] 23 := by rw [hu]; exact blk_auto
  clear hu
  have lBF := BF.lt; have cBF := BF.cell; have fBF := BF.frozen; clear BF
  exact bodyPost_ret (v := .tuple #[ndV x y, .bool true]) (by simp [results, Tryz.results12, go_sem, cBF]) rfl ⟨rfl, hy⟩
def grq (x y : Rat) : Bool := smq x && smq y && (inC x.num && inC y.num)
theorem gridR_any (x y : Rat) (fx : Fits x) (fy : Fits y) (v : Value) (w : World) (h : PtV w v x y) :
    Calls Tryz.prog 12 #[v] w fun e w' => e = .returned (.tuple #[ndV (if grq x y then x.num else 0) (if grq x y then y.num else 0), .bool (grq x y)]) ∧ Ext w w' := by
  obtain ⟨s1, a1, n1, c1, s2, a2, n2, c2, s3, a3, n3, c3, s4, a4, n4, c4, rfl, g1, g2, g3, g4⟩ := h
  have S1 : ∀ w', Ext w w' → Calls Tryz.prog 38 #[(.agg #[.bool s1, .slice a1 n1 c1, .bool s2, .slice a2 n2 c2])] w' fun e w2 => e = .returned (.tuple #[.int .i64 (if smq x then x.num else 0), .bool (smq x)]) ∧ Ext w' w2 := fun w' hx => smallR_any x fx _ w' ⟨_, _, _, _, _, _, _, _, rfl, g1.ext hx, g2.ext hx⟩
  have S2 : ∀ w', Ext w w' → Calls Tryz.prog 38 #[(.agg #[.bool s3, .slice a3 n3 c3, .bool s4, .slice a4 n4 c4])] w' fun e w2 => e = .returned (.tuple #[.int .i64 (if smq y then y.num else 0), .bool (smq y)]) ∧ Ext w' w2 := fun w' hx => smallR_any y fy _ w' ⟨_, _, _, _, _, _, _, _, rfl, g3.ext hx, g4.ext hx⟩
  unfold grq
  cases hp : smq x with
  | false => rw [hp] at S1; exact gridR_1 _ _ _ _ _ _ _ _ _ _ _ _ _ _ _ _ w _ _ _ _ S1 S2 rfl
  | true =>
    cases hq : smq y with
    | false => rw [hp] at S1; rw [hq] at S2; exact gridR_2 _ _ _ _ _ _ _ _ _ _ _ _ _ _ _ _ w _ _ _ _ S1 S2 rfl rfl
    | true =>
      rw [hp] at S1; rw [hq] at S2
      have NR := fun w => nodeR_any x.num y.num w
      cases hc : (inC x.num && inC y.num) with
      | false => rw [hc] at NR; exact gridR_3 _ _ _ _ _ _ _ _ _ _ _ _ _ _ _ _ w _ _ _ _ S1 S2 rfl rfl NR
      | true => rw [hc] at NR; exact gridR_4 _ _ _ _ _ _ _ _ _ _ _ _ _ _ _ _ w _ _ _ _ S1 S2 rfl rfl NR
theorem grid_same (a b : Rt) (ha : a.pok = true) (hb : b.pok = true) : grq a.q b.q = gridQ a b := by
  have oa := (a.pok_iff.1 ha).1
  have ob := (b.pok_iff.1 hb).1
  obtain ⟨p1, p2, _⟩ := a.q_parts oa
  obtain ⟨q1, q2, _⟩ := b.q_parts ob
  rw [Bool.eq_iff_iff, gridQ_iff]
  unfold grq smq
  rw [p1, p2, q1, q2]
  simp only [Bool.and_eq_true, decide_eq_true_eq]
  constructor
  · rintro ⟨⟨⟨h1, _⟩, ⟨h2, _⟩⟩, h3, h4⟩
    exact ⟨oa, ob, h1, h2, h3, h4⟩
  · rintro ⟨_, _, h1, h2, h3, h4⟩
    have i1 := (inC_iff _).1 h3
    have i2 := (inC_iff _).1 h4
    exact ⟨⟨⟨h1, by omega⟩, ⟨h2, by omega⟩⟩, h3, h4⟩
end Go.Proofs.YtmopgcbhmkemjaaGreatDoor

namespace Go.Proofs.YtmopgcbhmkemjaaGreatDoor
open Go Go.RowKit
set_option linter.unusedSimpArgs false
set_option linter.unusedVariables false
set_option maxRecDepth 100000
set_option exponentiation.threshold 3000

set_option maxHeartbeats 16000000 in
theorem Nodes_nn (x y : Int) (a b Q1 Q2 : Rt) (ee gx gy : Int) (g : Bool) (NR : ∀ w, Calls Tryz.prog 8 #[ndV x y] w fun e w' => e = .returned (.bool false) ∧ Ext w w') (OF : ∀ w, Calls Tryz.prog 9 #[ndV x y] w fun e w' => e = .returned (.tuple #[pV Q1 Q2, .int .i64 ee]) ∧ Ext w w')
    (GR : ∀ w, Calls Tryz.prog 10 #[pV a b] w fun e w' => e = .returned (.tuple #[ndV gx gy, .bool g]) ∧ Ext w w') (RA : ∀ w, Calls Tryz.prog 11 #[pV a b] w fun e w' => e = .returned (.bool false) ∧ Ext w w')
    (hgx : gx = 0) (hgy : gy = 0) (hg : g = false) (CK : ∀ w, Calls Tryz.prog 15 #[ndV x y] w fun e w' => e = .returned (.int .i64 2) ∧ Ext w w') (PR : ∀ w, Calls Tryz.prog 16 #[pV a b] w fun e w' => e = .returned (.int .i64 2) ∧ Ext w w')
    (RF : ∀ w, Calls Tryz.prog 17 #[pV Q1 Q2, .int .i64 ee] w fun e w' => e = .returned (.bool true) ∧ Ext w w')
    (w : World) (hT : Tab w) : Calls Tryz.prog 3 #[ndV x y, pV a b] w fun e w' => e = .returned (.bool true) ∧ Ext w w' := by
  have hx : Ext w w := Ext.refl w
  have EQ1 := eqT_nd gx gy
  subst hgx hgy hg
  obtain ⟨sa, ma, ta, ka, _, _⟩ := a
  obtain ⟨sb, mb, tb, kb, _, _⟩ := b
  obtain ⟨sc, mc, tc, kc, _, _⟩ := Q1
  obtain ⟨sd, md, td, kd, _, _⟩ := Q2
  go_enter Tryz.func3, Tryz.ntmps3
  go_upto_region 2 with fail
  refine wp_rebase fun v0 hv => ?_
  replace hx : Ext w v0 := by rw [hv]; exact ext_auto
  have BN : Blk v0 w.heap.size #[.int .i64 x, .int .i64 y] 23 := by rw [hv]; exact blk_auto
  have BA : Blk v0 (w.heap.size + 1) (ptsV sa ma ta ka sb mb tb kb) 31 := by rw [hv]; exact blk_auto
  clear hv
  have lBN := BN.lt; have cBN := BN.cell; have fBN := BN.frozen; have lBA := BA.lt; have cBA := BA.cell; have fBA := BA.frozen
  
  go_wp2_with (go_at_call 8; (with_reducible refine (NR _).mono ?_); rintro e v1 ⟨rfl, hz_⟩; have hzz_ : Ext v0 v1 := Ext.trans ext_auto hz_; replace BN := BN.ext hzz_; clear lBN cBN fBN; replace BA := BA.ext hzz_; clear lBA cBA fBA; replace hx := hx.trans hzz_; clear hz_ hzz_; have lBN := BN.lt; have cBN := BN.cell; have fBN := BN.frozen; have lBA := BA.lt; have cBA := BA.cell; have fBA := BA.frozen)
  go_upto_region 5 with (first | ((with_reducible apply wpList_store_row info_point); (case hs => exact rfl); (case hv => exact rfl); (case hB => exact blk_auto); (case hy => rfl); (case hc => rfl); (case h1 => rfl)) | ((with_reducible apply wpList_load_row Tryz.isAgg31 Tryz.sizeOf31); (case hw => (simp [go_sem, Region.wanted, yielded]; done)); (case hs => exact rfl); (case hB => exact blk_auto); (case hc => rfl)) | (go_at_call 14; (with_reducible refine (num_p _ _).mono ?_); rintro e w2 ⟨rfl, h2_⟩; subst w2) | (go_at_call 9; (with_reducible refine (OF _).mono ?_); rintro e y2 ⟨rfl, hz_⟩; have hzz_ : Ext v1 y2 := Ext.trans ext_auto hz_))
  refine wp_rebase fun v2 hv => ?_
  have hzv : Ext y2 v2 := by rw [hv]; exact Ext.setRow ext_auto (Nat.le_refl _)
  have BQ : Blk v2 y2.heap.size (ptsV sc mc tc kc sd md td kd) 31 := by rw [hv]; exact Blk.setRowSame (Blk.new _ _ _ rfl)
  clear hv
  replace BN := (BN.ext hzz_).ext hzv
  replace BA := (BA.ext hzz_).ext hzv
  replace hx := (hx.trans hzz_).trans hzv
  clear hzz_ hzv hz_
  clear lBN cBN fBN lBA cBA fBA
  have lBN := BN.lt; have cBN := BN.cell; have fBN := BN.frozen; have lBA := BA.lt; have cBA := BA.cell; have fBA := BA.frozen; have lBQ := BQ.lt; have cBQ := BQ.cell; have fBQ := BQ.frozen
  go_upto_region 6 with (first | ((with_reducible apply wpList_load_row Tryz.isAgg31 Tryz.sizeOf31); (case hw => (simp [go_sem, Region.wanted, yielded]; done)); (case hs => exact rfl); (case hB => exact blk_auto); (case hc => rfl)) | (go_at_call 10; (with_reducible refine (GR _).mono ?_); rintro e y3 ⟨rfl, hz_⟩; have hzz_ : Ext v2 y3 := Ext.trans ext_auto hz_))
  refine wp_rebase fun v3 hv => ?_
  have hzv : Ext y3 v3 := by rw [hv]; exact ext_auto
  have BG : Blk v3 y3.heap.size #[.int .i64 0, .int .i64 0] 23 := by rw [hv]; exact blk_auto
  clear hv
  replace BN := (BN.ext hzz_).ext hzv; replace BA := (BA.ext hzz_).ext hzv; replace BQ := (BQ.ext hzz_).ext hzv
  replace hx := (hx.trans hzz_).trans hzv
  clear hzz_ hzv hz_
  have lBN := BN.lt; have cBN := BN.cell; have fBN := BN.frozen; have lBA := BA.lt; have cBA := BA.cell; have fBA := BA.frozen; have lBQ := BQ.lt; have cBQ := BQ.cell; have fBQ := BQ.frozen; have lBG := BG.lt; have cBG := BG.cell; have fBG := BG.frozen
  have q1 := lBN; have q2 := lBA; have q3 := lBQ; have q4 := lBG
  go_wp2_with (first | (go_at_call 14; (with_reducible refine (num_p _ _).mono ?_); rintro e w2 ⟨rfl, h2_⟩; subst w2) | ((with_reducible apply wpList_load_row Tryz.isAgg31 Tryz.sizeOf31); (case hw => (simp [go_sem, Region.wanted, yielded]; done)); (case hs => exact rfl); (case hB => exact blk_auto); (case hc => rfl)) | (go_at_call 11; (with_reducible refine (RA _).mono ?_); rintro e v4 ⟨rfl, hz_⟩; have hzz_ : Ext v3 v4 := Ext.trans ext_auto hz_; have BW : Blk v4 v3.heap.size #[.int .i64 0, .int .i64 0] 23 := Blk.ext blk_auto hz_; replace BN := BN.ext hzz_; clear lBN cBN fBN; replace BA := BA.ext hzz_; clear lBA cBA fBA; replace BQ := BQ.ext hzz_; clear lBQ cBQ fBQ; replace BG := BG.ext hzz_; clear lBG cBG fBG; replace hx := hx.trans hzz_; clear hz_ hzz_; have lBN := BN.lt; have cBN := BN.cell; have fBN := BN.frozen; have lBA := BA.lt; have cBA := BA.cell; have fBA := BA.frozen; have lBQ := BQ.lt; have cBQ := BQ.cell; have fBQ := BQ.frozen; have lBG := BG.lt; have cBG := BG.cell; have fBG := BG.frozen; have lBW := BW.lt; have cBW := BW.cell; have fBW := BW.frozen))
  go_wp2_with (first | (go_at_call 14; (with_reducible refine (num_p _ _).mono ?_); rintro e w2 ⟨rfl, h2_⟩; subst w2) | ((with_reducible apply wpList_load_row Tryz.isAgg31 Tryz.sizeOf31); (case hw => (simp [go_sem, Region.wanted, yielded]; done)); (case hs => exact rfl); (case hB => exact blk_auto); (case hc => rfl)) | (go_at_call 15; (with_reducible refine (CK _).mono ?_); rintro e v7 ⟨rfl, hz_⟩; have hzz_ : Ext v4 v7 := Ext.trans ext_auto hz_; replace BN := BN.ext hzz_; clear lBN cBN fBN; replace BA := BA.ext hzz_; clear lBA cBA fBA; replace BQ := BQ.ext hzz_; clear lBQ cBQ fBQ; replace BG := BG.ext hzz_; clear lBG cBG fBG; replace BW := BW.ext hzz_; clear lBW cBW fBW; replace hx := hx.trans hzz_; clear hz_ hzz_; have lBN := BN.lt; have cBN := BN.cell; have fBN := BN.frozen; have lBA := BA.lt; have cBA := BA.cell; have fBA := BA.frozen; have lBQ := BQ.lt; have cBQ := BQ.cell; have fBQ := BQ.frozen; have lBG := BG.lt; have cBG := BG.cell; have fBG := BG.frozen; have lBW := BW.lt; have cBW := BW.cell; have fBW := BW.frozen))
  go_wp2_with (first | (go_at_call 14; (with_reducible refine (num_p _ _).mono ?_); rintro e w2 ⟨rfl, h2_⟩; subst w2) | ((with_reducible apply wpList_load_row Tryz.isAgg31 Tryz.sizeOf31); (case hw => (simp [go_sem, Region.wanted, yielded]; done)); (case hs => exact rfl); (case hB => exact blk_auto); (case hc => rfl)) | (go_at_call 16; (with_reducible refine (PR _).mono ?_); rintro e v8 ⟨rfl, hz_⟩; have hzz_ : Ext v7 v8 := Ext.trans ext_auto hz_; replace BN := BN.ext hzz_; clear lBN cBN fBN; replace BA := BA.ext hzz_; clear lBA cBA fBA; replace BQ := BQ.ext hzz_; clear lBQ cBQ fBQ; replace BG := BG.ext hzz_; clear lBG cBG fBG; replace BW := BW.ext hzz_; clear lBW cBW fBW; replace hx := hx.trans hzz_; clear hz_ hzz_; have lBN := BN.lt; have cBN := BN.cell; have fBN := BN.frozen; have lBA := BA.lt; have cBA := BA.cell; have fBA := BA.frozen; have lBQ := BQ.lt; have cBQ := BQ.cell; have fBQ := BQ.frozen; have lBG := BG.lt; have cBG := BG.cell; have fBG := BG.frozen; have lBW := BW.lt; have cBW := BW.cell; have fBW := BW.frozen))
  go_wp2_with (first | (go_at_call 14; (with_reducible refine (num_p _ _).mono ?_); rintro e w2 ⟨rfl, h2_⟩; subst w2) | ((with_reducible apply wpList_load_row Tryz.isAgg31 Tryz.sizeOf31); (case hw => (simp [go_sem, Region.wanted, yielded]; done)); (case hs => exact rfl); (case hB => exact blk_auto); (case hc => rfl)) | (go_at_call 17; (with_reducible refine (RF _).mono ?_); rintro e v9 ⟨rfl, hz_⟩; have hzz_ : Ext v8 v9 := Ext.trans ext_auto hz_; replace hx := hx.trans hzz_; clear hz_ hzz_))
  go_wp2_with (first | (go_at_call 14; (with_reducible refine (num_p _ _).mono ?_); rintro e w2 ⟨rfl, h2_⟩; subst w2) | (go_at_call 18; (with_reducible refine (worksP_true _ (hT.ext (hx.trans ext_auto))).mono ?_); rintro e y9 ⟨rfl, hz_⟩; have hzz_ : Ext v9 y9 := Ext.trans ext_auto hz_))
  exact bodyPost_ret (v := .bool true) (by simp [results, Tryz.results3, go_sem]) rfl ⟨rfl, hx.trans hzz_⟩
set_option maxHeartbeats 16000000 in
theorem Nodes_ny (x y : Int) (a b Q1 Q2 : Rt) (ee gx gy : Int) (g : Bool) (NR : ∀ w, Calls Tryz.prog 8 #[ndV x y] w fun e w' => e = .returned (.bool false) ∧ Ext w w') (OF : ∀ w, Calls Tryz.prog 9 #[ndV x y] w fun e w' => e = .returned (.tuple #[pV Q1 Q2, .int .i64 ee]) ∧ Ext w w')
    (GR : ∀ w, Calls Tryz.prog 10 #[pV a b] w fun e w' => e = .returned (.tuple #[ndV gx gy, .bool g]) ∧ Ext w w') (RA : ∀ w, Calls Tryz.prog 11 #[pV a b] w fun e w' => e = .returned (.bool true) ∧ Ext w w')
    (xa xb : Rat) (FR : ∀ w, Calls Tryz.prog 13 #[pV a b] w (RetB (fun W r => PtV W r xa xb) w)) (RG : ∀ v w, PtV w v xa xb → Calls Tryz.prog 12 #[v] w fun e w' => e = .returned (.tuple #[ndV gx gy, .bool g]) ∧ Ext w w')
    (CK : ∀ w, Calls Tryz.prog 15 #[ndV x y] w fun e w' => e = .returned (.int .i64 2) ∧ Ext w w') (PR : ∀ w, Calls Tryz.prog 16 #[pV a b] w fun e w' => e = .returned (.int .i64 0) ∧ Ext w w')
    (RF : ∀ w, Calls Tryz.prog 17 #[pV Q1 Q2, .int .i64 ee] w fun e w' => e = .returned (.bool true) ∧ Ext w w')
    (w : World) (hT : Tab w) : Calls Tryz.prog 3 #[ndV x y, pV a b] w fun e w' => e = .returned (.bool true) ∧ Ext w w' := by
  have hx : Ext w w := Ext.refl w
  have EQ1 := eqT_nd gx gy
  obtain ⟨sa, ma, ta, ka, _, _⟩ := a
  obtain ⟨sb, mb, tb, kb, _, _⟩ := b
  obtain ⟨sc, mc, tc, kc, _, _⟩ := Q1
  obtain ⟨sd, md, td, kd, _, _⟩ := Q2
  go_enter Tryz.func3, Tryz.ntmps3
  go_upto_region 2 with fail
  refine wp_rebase fun v0 hv => ?_
  replace hx : Ext w v0 := by rw [hv]; exact ext_auto
  have BN : Blk v0 w.heap.size #[.int .i64 x, .int .i64 y] 23 := by rw [hv]; exact blk_auto
  have BA : Blk v0 (w.heap.size + 1) (ptsV sa ma ta ka sb mb tb kb) 31 := by rw [hv]; exact blk_auto
  clear hv
  have lBN := BN.lt; have cBN := BN.cell; have fBN := BN.frozen; have lBA := BA.lt; have cBA := BA.cell; have fBA := BA.frozen
  
  go_wp2_with (go_at_call 8; (with_reducible refine (NR _).mono ?_); rintro e v1 ⟨rfl, hz_⟩; have hzz_ : Ext v0 v1 := Ext.trans ext_auto hz_; replace BN := BN.ext hzz_; clear lBN cBN fBN; replace BA := BA.ext hzz_; clear lBA cBA fBA; replace hx := hx.trans hzz_; clear hz_ hzz_; have lBN := BN.lt; have cBN := BN.cell; have fBN := BN.frozen; have lBA := BA.lt; have cBA := BA.cell; have fBA := BA.frozen)
  go_upto_region 5 with (first | ((with_reducible apply wpList_store_row info_point); (case hs => exact rfl); (case hv => exact rfl); (case hB => exact blk_auto); (case hy => rfl); (case hc => rfl); (case h1 => rfl)) | ((with_reducible apply wpList_load_row Tryz.isAgg31 Tryz.sizeOf31); (case hw => (simp [go_sem, Region.wanted, yielded]; done)); (case hs => exact rfl); (case hB => exact blk_auto); (case hc => rfl)) | (go_at_call 14; (with_reducible refine (num_p _ _).mono ?_); rintro e w2 ⟨rfl, h2_⟩; subst w2) | (go_at_call 9; (with_reducible refine (OF _).mono ?_); rintro e y2 ⟨rfl, hz_⟩; have hzz_ : Ext v1 y2 := Ext.trans ext_auto hz_))
  refine wp_rebase fun v2 hv => ?_
  have hzv : Ext y2 v2 := by rw [hv]; exact Ext.setRow ext_auto (Nat.le_refl _)
  have BQ : Blk v2 y2.heap.size (ptsV sc mc tc kc sd md td kd) 31 := by rw [hv]; exact Blk.setRowSame (Blk.new _ _ _ rfl)
  clear hv
  replace BN := (BN.ext hzz_).ext hzv
  replace BA := (BA.ext hzz_).ext hzv
  replace hx := (hx.trans hzz_).trans hzv
  clear hzz_ hzv hz_
  clear lBN cBN fBN lBA cBA fBA
  have lBN := BN.lt; have cBN := BN.cell; have fBN := BN.frozen; have lBA := BA.lt; have cBA := BA.cell; have fBA := BA.frozen; have lBQ := BQ.lt; have cBQ := BQ.cell; have fBQ := BQ.frozen
  go_upto_region 6 with (first | ((with_reducible apply wpList_load_row Tryz.isAgg31 Tryz.sizeOf31); (case hw => (simp [go_sem, Region.wanted, yielded]; done)); (case hs => exact rfl); (case hB => exact blk_auto); (case hc => rfl)) | (go_at_call 10; (with_reducible refine (GR _).mono ?_); rintro e y3 ⟨rfl, hz_⟩; have hzz_ : Ext v2 y3 := Ext.trans ext_auto hz_))
  refine wp_rebase fun v3 hv => ?_
  have hzv : Ext y3 v3 := by rw [hv]; exact ext_auto
  have BG : Blk v3 y3.heap.size #[.int .i64 gx, .int .i64 gy] 23 := by rw [hv]; exact blk_auto
  clear hv
  replace BN := (BN.ext hzz_).ext hzv; replace BA := (BA.ext hzz_).ext hzv; replace BQ := (BQ.ext hzz_).ext hzv
  replace hx := (hx.trans hzz_).trans hzv
  clear hzz_ hzv hz_
  have lBN := BN.lt; have cBN := BN.cell; have fBN := BN.frozen; have lBA := BA.lt; have cBA := BA.cell; have fBA := BA.frozen; have lBQ := BQ.lt; have cBQ := BQ.cell; have fBQ := BQ.frozen; have lBG := BG.lt; have cBG := BG.cell; have fBG := BG.frozen
  have q1 := lBN; have q2 := lBA; have q3 := lBQ; have q4 := lBG
  go_wp2_with (first | (go_at_call 14; (with_reducible refine (num_p _ _).mono ?_); rintro e w2 ⟨rfl, h2_⟩; subst w2) | ((with_reducible apply wpList_load_row Tryz.isAgg31 Tryz.sizeOf31); (case hw => (simp [go_sem, Region.wanted, yielded]; done)); (case hs => exact rfl); (case hB => exact blk_auto); (case hc => rfl)) | (go_at_call 11; (with_reducible refine (RA _).mono ?_); rintro e v4 ⟨rfl, hz_⟩; have hzz_ : Ext v3 v4 := Ext.trans ext_auto hz_; have BW : Blk v4 v3.heap.size #[.int .i64 0, .int .i64 0] 23 := Blk.ext blk_auto hz_; replace BN := BN.ext hzz_; clear lBN cBN fBN; replace BA := BA.ext hzz_; clear lBA cBA fBA; replace BQ := BQ.ext hzz_; clear lBQ cBQ fBQ; replace BG := BG.ext hzz_; clear lBG cBG fBG; replace hx := hx.trans hzz_; clear hz_ hzz_; have lBN := BN.lt; have cBN := BN.cell; have fBN := BN.frozen; have lBA := BA.lt; have cBA := BA.cell; have fBA := BA.frozen; have lBQ := BQ.lt; have cBQ := BQ.cell; have fBQ := BQ.frozen; have lBG := BG.lt; have cBG := BG.cell; have fBG := BG.frozen; have lBW := BW.lt; have cBW := BW.cell; have fBW := BW.frozen))
  go_wp2_with (first | (go_at_call 14; (with_reducible refine (num_p _ _).mono ?_); rintro e w2 ⟨rfl, h2_⟩; subst w2) | ((with_reducible apply wpList_load_row Tryz.isAgg31 Tryz.sizeOf31); (case hw => (simp [go_sem, Region.wanted, yielded]; done)); (case hs => exact rfl); (case hB => exact blk_auto); (case hc => rfl)) | (go_at_call 13; (with_reducible refine (FR _).mono ?_); rintro e v5 ⟨fv, rfl, hf, hz_⟩; have hzz_ : Ext v4 v5 := Ext.trans ext_auto hz_; replace BN := BN.ext hzz_; clear lBN cBN fBN; replace BA := BA.ext hzz_; clear lBA cBA fBA; replace BQ := BQ.ext hzz_; clear lBQ cBQ fBQ; replace BG := BG.ext hzz_; clear lBG cBG fBG; replace BW := BW.ext hzz_; clear lBW cBW fBW; replace hx := hx.trans hzz_; clear hz_ hzz_; have lBN := BN.lt; have cBN := BN.cell; have fBN := BN.frozen; have lBA := BA.lt; have cBA := BA.cell; have fBA := BA.frozen; have lBQ := BQ.lt; have cBQ := BQ.cell; have fBQ := BQ.frozen; have lBG := BG.lt; have cBG := BG.cell; have fBG := BG.frozen; have lBW := BW.lt; have cBW := BW.cell; have fBW := BW.frozen))
  go_upto_region 11 with (go_at_call 12; (with_reducible refine (RG _ _ (hf.ext ext_auto)).mono ?_); rintro e y6 ⟨rfl, hz_⟩; have hzz_ : Ext v5 y6 := Ext.trans ext_auto hz_; replace BN := BN.ext hzz_; replace BA := BA.ext hzz_; replace BQ := BQ.ext hzz_; replace BG := BG.ext hzz_; replace BW := BW.ext hzz_; clear lBW cBW fBW; have lBW := BW.lt; have cBW := BW.cell; have fBW := BW.frozen)
  replace hx := hx.trans hzz_
  have hs := hzz_.size
  refine wp_rebase fun v6 hv => ?_
  replace BW : Blk v6 v3.heap.size #[.int .i64 gx, .int .i64 gy] 23 := by rw [hv]; exact blk_auto
  replace BN : Blk v6 w.heap.size #[.int .i64 x, .int .i64 y] 23 := by rw [hv]; exact blk_auto
  replace BA : Blk v6 (w.heap.size + 1) (ptsV sa ma ta ka sb mb tb kb) 31 := by rw [hv]; exact blk_auto
  replace BQ : Blk v6 y2.heap.size (ptsV sc mc tc kc sd md td kd) 31 := by rw [hv]; exact blk_auto
  replace BG : Blk v6 y3.heap.size #[.int .i64 gx, .int .i64 gy] 23 := by rw [hv]; exact blk_auto
  replace hx : Ext w v6 := by rw [hv]; exact ext_auto
  clear hv hzz_ hz_ lBN cBN fBN lBA cBA fBA lBQ cBQ fBQ lBG cBG fBG lBW cBW fBW hf
  have lBN := BN.lt; have cBN := BN.cell; have fBN := BN.frozen; have lBA := BA.lt; have cBA := BA.cell; have fBA := BA.frozen; have lBQ := BQ.lt; have cBQ := BQ.cell; have fBQ := BQ.frozen; have lBG := BG.lt; have cBG := BG.cell; have fBG := BG.frozen; have lBW := BW.lt; have cBW := BW.cell; have fBW := BW.frozen
  go_wp2_with (first | (go_at_call 14; (with_reducible refine (num_p _ _).mono ?_); rintro e w2 ⟨rfl, h2_⟩; subst w2) | ((with_reducible apply wpList_load_row Tryz.isAgg31 Tryz.sizeOf31); (case hw => (simp [go_sem, Region.wanted, yielded]; done)); (case hs => exact rfl); (case hB => exact blk_auto); (case hc => rfl)) | (go_at_call 15; (with_reducible refine (CK _).mono ?_); rintro e v7 ⟨rfl, hz_⟩; have hzz_ : Ext v6 v7 := Ext.trans ext_auto hz_; replace BN := BN.ext hzz_; clear lBN cBN fBN; replace BA := BA.ext hzz_; clear lBA cBA fBA; replace BQ := BQ.ext hzz_; clear lBQ cBQ fBQ; replace BG := BG.ext hzz_; clear lBG cBG fBG; replace BW := BW.ext hzz_; clear lBW cBW fBW; replace hx := hx.trans hzz_; clear hz_ hzz_; have lBN := BN.lt; have cBN := BN.cell; have fBN := BN.frozen; have lBA := BA.lt; have cBA := BA.cell; have fBA := BA.frozen; have lBQ := BQ.lt; have cBQ := BQ.cell; have fBQ := BQ.frozen; have lBG := BG.lt; have cBG := BG.cell; have fBG := BG.frozen; have lBW := BW.lt; have cBW := BW.cell; have fBW := BW.frozen))
  go_wp2_with (first | (go_at_call 14; (with_reducible refine (num_p _ _).mono ?_); rintro e w2 ⟨rfl, h2_⟩; subst w2) | ((with_reducible apply wpList_load_row Tryz.isAgg31 Tryz.sizeOf31); (case hw => (simp [go_sem, Region.wanted, yielded]; done)); (case hs => exact rfl); (case hB => exact blk_auto); (case hc => rfl)) | (go_at_call 16; (with_reducible refine (PR _).mono ?_); rintro e v8 ⟨rfl, hz_⟩; have hzz_ : Ext v7 v8 := Ext.trans ext_auto hz_; replace BN := BN.ext hzz_; clear lBN cBN fBN; replace BA := BA.ext hzz_; clear lBA cBA fBA; replace BQ := BQ.ext hzz_; clear lBQ cBQ fBQ; replace BG := BG.ext hzz_; clear lBG cBG fBG; replace BW := BW.ext hzz_; clear lBW cBW fBW; replace hx := hx.trans hzz_; clear hz_ hzz_; have lBN := BN.lt; have cBN := BN.cell; have fBN := BN.frozen; have lBA := BA.lt; have cBA := BA.cell; have fBA := BA.frozen; have lBQ := BQ.lt; have cBQ := BQ.cell; have fBQ := BQ.frozen; have lBG := BG.lt; have cBG := BG.cell; have fBG := BG.frozen; have lBW := BW.lt; have cBW := BW.cell; have fBW := BW.frozen))
  go_wp2_with (first | (go_at_call 14; (with_reducible refine (num_p _ _).mono ?_); rintro e w2 ⟨rfl, h2_⟩; subst w2) | ((with_reducible apply wpList_load_row Tryz.isAgg31 Tryz.sizeOf31); (case hw => (simp [go_sem, Region.wanted, yielded]; done)); (case hs => exact rfl); (case hB => exact blk_auto); (case hc => rfl)) | (go_at_call 17; (with_reducible refine (RF _).mono ?_); rintro e v9 ⟨rfl, hz_⟩; have hzz_ : Ext v8 v9 := Ext.trans ext_auto hz_; replace hx := hx.trans hzz_; clear hz_ hzz_))
  go_wp2_with (first | (go_at_call 14; (with_reducible refine (num_p _ _).mono ?_); rintro e w2 ⟨rfl, h2_⟩; subst w2) | (go_at_call 18; (with_reducible refine (worksP_true _ (hT.ext (hx.trans ext_auto))).mono ?_); rintro e y9 ⟨rfl, hz_⟩; have hzz_ : Ext v9 y9 := Ext.trans ext_auto hz_))
  exact bodyPost_ret (v := .bool true) (by simp [results, Tryz.results3, go_sem]) rfl ⟨rfl, hx.trans hzz_⟩
set_option maxHeartbeats 16000000 in
theorem Nodes_yn (x y : Int) (a b Q1 Q2 : Rt) (ee gx gy : Int) (g : Bool) (NR : ∀ w, Calls Tryz.prog 8 #[ndV x y] w fun e w' => e = .returned (.bool true) ∧ Ext w w') (OF : ∀ w, Calls Tryz.prog 9 #[ndV x y] w fun e w' => e = .returned (.tuple #[pV Q1 Q2, .int .i64 ee]) ∧ Ext w w')
    (GR : ∀ w, Calls Tryz.prog 10 #[pV a b] w fun e w' => e = .returned (.tuple #[ndV gx gy, .bool g]) ∧ Ext w w') (RA : ∀ w, Calls Tryz.prog 11 #[pV a b] w fun e w' => e = .returned (.bool false) ∧ Ext w w')
    (hgx : gx = 0) (hgy : gy = 0) (hg : g = false) (CK : ∀ w, Calls Tryz.prog 15 #[ndV x y] w fun e w' => e = .returned (.int .i64 0) ∧ Ext w w') (PR : ∀ w, Calls Tryz.prog 16 #[pV a b] w fun e w' => e = .returned (.int .i64 2) ∧ Ext w w')
    (G2 : ∀ w, Calls Tryz.prog 10 #[pV Q1 Q2] w fun e w' => e = .returned (.tuple #[ndV x y, .bool true]) ∧ Ext w w') (RO : ∀ w, Calls Tryz.prog 20 #[ndV x y] w (RetB (fun W r => PtV W r (x : Rat) (y : Rat)) w))
    (AN : ∀ v w, PtV w v (x : Rat) (y : Rat) → Calls Tryz.prog 19 #[pV Q1 Q2, .int .i64 ee, v] w fun e w' => e = .returned (.bool true) ∧ Ext w w')
    (w : World) (hT : Tab w) : Calls Tryz.prog 3 #[ndV x y, pV a b] w fun e w' => e = .returned (.bool true) ∧ Ext w w' := by
  have hx : Ext w w := Ext.refl w
  have EQ1 := eqT_nd gx gy
  subst hgx hgy hg
  have EQ2 := eqT_nd x y
  generalize (x : Rat) = rx at *
  generalize (y : Rat) = ry at *
  obtain ⟨sa, ma, ta, ka, _, _⟩ := a
  obtain ⟨sb, mb, tb, kb, _, _⟩ := b
  obtain ⟨sc, mc, tc, kc, _, _⟩ := Q1
  obtain ⟨sd, md, td, kd, _, _⟩ := Q2
  go_enter Tryz.func3, Tryz.ntmps3
  go_upto_region 2 with fail
  refine wp_rebase fun v0 hv => ?_
  replace hx : Ext w v0 := by rw [hv]; exact ext_auto
  have BN : Blk v0 w.heap.size #[.int .i64 x, .int .i64 y] 23 := by rw [hv]; exact blk_auto
  have BA : Blk v0 (w.heap.size + 1) (ptsV sa ma ta ka sb mb tb kb) 31 := by rw [hv]; exact blk_auto
  clear hv
  have lBN := BN.lt; have cBN := BN.cell; have fBN := BN.frozen; have lBA := BA.lt; have cBA := BA.cell; have fBA := BA.frozen
  
  go_wp2_with (go_at_call 8; (with_reducible refine (NR _).mono ?_); rintro e v1 ⟨rfl, hz_⟩; have hzz_ : Ext v0 v1 := Ext.trans ext_auto hz_; replace BN := BN.ext hzz_; clear lBN cBN fBN; replace BA := BA.ext hzz_; clear lBA cBA fBA; replace hx := hx.trans hzz_; clear hz_ hzz_; have lBN := BN.lt; have cBN := BN.cell; have fBN := BN.frozen; have lBA := BA.lt; have cBA := BA.cell; have fBA := BA.frozen)
  go_upto_region 5 with (first | ((with_reducible apply wpList_store_row info_point); (case hs => exact rfl); (case hv => exact rfl); (case hB => exact blk_auto); (case hy => rfl); (case hc => rfl); (case h1 => rfl)) | ((with_reducible apply wpList_load_row Tryz.isAgg31 Tryz.sizeOf31); (case hw => (simp [go_sem, Region.wanted, yielded]; done)); (case hs => exact rfl); (case hB => exact blk_auto); (case hc => rfl)) | (go_at_call 14; (with_reducible refine (num_p _ _).mono ?_); rintro e w2 ⟨rfl, h2_⟩; subst w2) | (go_at_call 9; (with_reducible refine (OF _).mono ?_); rintro e y2 ⟨rfl, hz_⟩; have hzz_ : Ext v1 y2 := Ext.trans ext_auto hz_))
  refine wp_rebase fun v2 hv => ?_
  have hzv : Ext y2 v2 := by rw [hv]; exact Ext.setRow ext_auto (Nat.le_refl _)
  have BQ : Blk v2 y2.heap.size (ptsV sc mc tc kc sd md td kd) 31 := by rw [hv]; exact Blk.setRowSame (Blk.new _ _ _ rfl)
  clear hv
  replace BN := (BN.ext hzz_).ext hzv
  replace BA := (BA.ext hzz_).ext hzv
  replace hx := (hx.trans hzz_).trans hzv
  clear hzz_ hzv hz_
  clear lBN cBN fBN lBA cBA fBA
  have lBN := BN.lt; have cBN := BN.cell; have fBN := BN.frozen; have lBA := BA.lt; have cBA := BA.cell; have fBA := BA.frozen; have lBQ := BQ.lt; have cBQ := BQ.cell; have fBQ := BQ.frozen
  go_upto_region 6 with (first | ((with_reducible apply wpList_load_row Tryz.isAgg31 Tryz.sizeOf31); (case hw => (simp [go_sem, Region.wanted, yielded]; done)); (case hs => exact rfl); (case hB => exact blk_auto); (case hc => rfl)) | (go_at_call 10; (with_reducible refine (GR _).mono ?_); rintro e y3 ⟨rfl, hz_⟩; have hzz_ : Ext v2 y3 := Ext.trans ext_auto hz_))
  refine wp_rebase fun v3 hv => ?_
  have hzv : Ext y3 v3 := by rw [hv]; exact ext_auto
  have BG : Blk v3 y3.heap.size #[.int .i64 0, .int .i64 0] 23 := by rw [hv]; exact blk_auto
  clear hv
  replace BN := (BN.ext hzz_).ext hzv; replace BA := (BA.ext hzz_).ext hzv; replace BQ := (BQ.ext hzz_).ext hzv
  replace hx := (hx.trans hzz_).trans hzv
  clear hzz_ hzv hz_
  have lBN := BN.lt; have cBN := BN.cell; have fBN := BN.frozen; have lBA := BA.lt; have cBA := BA.cell; have fBA := BA.frozen; have lBQ := BQ.lt; have cBQ := BQ.cell; have fBQ := BQ.frozen; have lBG := BG.lt; have cBG := BG.cell; have fBG := BG.frozen
  have q1 := lBN; have q2 := lBA; have q3 := lBQ; have q4 := lBG
  go_wp2_with (first | (go_at_call 14; (with_reducible refine (num_p _ _).mono ?_); rintro e w2 ⟨rfl, h2_⟩; subst w2) | ((with_reducible apply wpList_load_row Tryz.isAgg31 Tryz.sizeOf31); (case hw => (simp [go_sem, Region.wanted, yielded]; done)); (case hs => exact rfl); (case hB => exact blk_auto); (case hc => rfl)) | (go_at_call 11; (with_reducible refine (RA _).mono ?_); rintro e v4 ⟨rfl, hz_⟩; have hzz_ : Ext v3 v4 := Ext.trans ext_auto hz_; have BW : Blk v4 v3.heap.size #[.int .i64 0, .int .i64 0] 23 := Blk.ext blk_auto hz_; replace BN := BN.ext hzz_; clear lBN cBN fBN; replace BA := BA.ext hzz_; clear lBA cBA fBA; replace BQ := BQ.ext hzz_; clear lBQ cBQ fBQ; replace BG := BG.ext hzz_; clear lBG cBG fBG; replace hx := hx.trans hzz_; clear hz_ hzz_; have lBN := BN.lt; have cBN := BN.cell; have fBN := BN.frozen; have lBA := BA.lt; have cBA := BA.cell; have fBA := BA.frozen; have lBQ := BQ.lt; have cBQ := BQ.cell; have fBQ := BQ.frozen; have lBG := BG.lt; have cBG := BG.cell; have fBG := BG.frozen; have lBW := BW.lt; have cBW := BW.cell; have fBW := BW.frozen))
  go_wp2_with (first | (go_at_call 14; (with_reducible refine (num_p _ _).mono ?_); rintro e w2 ⟨rfl, h2_⟩; subst w2) | ((with_reducible apply wpList_load_row Tryz.isAgg31 Tryz.sizeOf31); (case hw => (simp [go_sem, Region.wanted, yielded]; done)); (case hs => exact rfl); (case hB => exact blk_auto); (case hc => rfl)) | (go_at_call 15; (with_reducible refine (CK _).mono ?_); rintro e v7 ⟨rfl, hz_⟩; have hzz_ : Ext v4 v7 := Ext.trans ext_auto hz_; replace BN := BN.ext hzz_; clear lBN cBN fBN; replace BA := BA.ext hzz_; clear lBA cBA fBA; replace BQ := BQ.ext hzz_; clear lBQ cBQ fBQ; replace BG := BG.ext hzz_; clear lBG cBG fBG; replace BW := BW.ext hzz_; clear lBW cBW fBW; replace hx := hx.trans hzz_; clear hz_ hzz_; have lBN := BN.lt; have cBN := BN.cell; have fBN := BN.frozen; have lBA := BA.lt; have cBA := BA.cell; have fBA := BA.frozen; have lBQ := BQ.lt; have cBQ := BQ.cell; have fBQ := BQ.frozen; have lBG := BG.lt; have cBG := BG.cell; have fBG := BG.frozen; have lBW := BW.lt; have cBW := BW.cell; have fBW := BW.frozen))
  go_wp2_with (first | (go_at_call 14; (with_reducible refine (num_p _ _).mono ?_); rintro e w2 ⟨rfl, h2_⟩; subst w2) | ((with_reducible apply wpList_load_row Tryz.isAgg31 Tryz.sizeOf31); (case hw => (simp [go_sem, Region.wanted, yielded]; done)); (case hs => exact rfl); (case hB => exact blk_auto); (case hc => rfl)) | (go_at_call 16; (with_reducible refine (PR _).mono ?_); rintro e v8 ⟨rfl, hz_⟩; have hzz_ : Ext v7 v8 := Ext.trans ext_auto hz_; replace BN := BN.ext hzz_; clear lBN cBN fBN; replace BA := BA.ext hzz_; clear lBA cBA fBA; replace BQ := BQ.ext hzz_; clear lBQ cBQ fBQ; replace BG := BG.ext hzz_; clear lBG cBG fBG; replace BW := BW.ext hzz_; clear lBW cBW fBW; replace hx := hx.trans hzz_; clear hz_ hzz_; have lBN := BN.lt; have cBN := BN.cell; have fBN := BN.frozen; have lBA := BA.lt; have cBA := BA.cell; have fBA := BA.frozen; have lBQ := BQ.lt; have cBQ := BQ.cell; have fBQ := BQ.frozen; have lBG := BG.lt; have cBG := BG.cell; have fBG := BG.frozen; have lBW := BW.lt; have cBW := BW.cell; have fBW := BW.frozen))
  go_upto_region 16 with (first | ((with_reducible apply wpList_load_row Tryz.isAgg31 Tryz.sizeOf31); (case hw => (simp [go_sem, Region.wanted, yielded]; done)); (case hs => exact rfl); (case hB => exact blk_auto); (case hc => rfl)) | (go_at_call 14; (with_reducible refine (num_p _ _).mono ?_); rintro e w2 ⟨rfl, h2_⟩; subst w2) | (go_at_call 10; (with_reducible refine (G2 _).mono ?_); rintro e y9 ⟨rfl, hz_⟩; have hzz_ : Ext v8 y9 := Ext.trans ext_auto hz_))
  refine wp_rebase fun v hv => ?_
  have hzv : Ext y9 v := by rw [hv]; exact ext_auto
  have BK : Blk v y9.heap.size #[.int .i64 x, .int .i64 y] 23 := by rw [hv]; exact blk_auto
  clear hv
  replace BN := (BN.ext hzz_).ext hzv; replace BQ := (BQ.ext hzz_).ext hzv
  replace hx := (hx.trans hzz_).trans hzv
  clear hzz_ hzv hz_ lBN cBN fBN lBQ cBQ fBQ lBA cBA fBA lBG cBG fBG lBW cBW fBW BA BG BW q1 q2 q3 q4
  have lBN := BN.lt; have cBN := BN.cell; have fBN := BN.frozen; have lBQ := BQ.lt; have cBQ := BQ.cell; have fBQ := BQ.frozen; have lBK := BK.lt; have cBK := BK.cell; have fBK := BK.frozen
  have hws := hx.size
  have cw := worksP_true
  (first | refine wp_region_p (by kernel_rfl) ?_ | refine wp_region_p' (by kernel_rfl) ?_); refine wpAny_ph 0 6 [0, 1, 2] [3, 4, 5] [] (fun _ => .cells #[] 0) (by decide) (by kernel_rfl) (clo_first (Nat.le_of_ble_eq_true (by kernel_rfl)) (by kernel_rfl)) (fun j hj => by cases hj) ?_; simp only [List.map_cons, List.map_nil, List.getD_cons_succ, List.getD_cons_zero]; (refine wpG_l rfl (fun K hK => ?_); (with_reducible apply ex_load_row Tryz.isAgg31 Tryz.sizeOf31); (case hs => exact rfl); (case hB => exact blk_auto); (case hc => rfl); refine hK _ ?_; clear hK K); (refine wpG_l rfl (fun K hK => ?_); go_simp; refine hK _ ?_; clear hK K); (refine wpG_l rfl (fun K hK => ?_); go_simp; refine hK _ ?_; clear hK K); refine wpG_nil ?_; intro d0; have hx0 : Ext v (grow v d0) := ⟨d0, rfl⟩; generalize grow v d0 = y0 at *; (refine wpX_c rfl (fun t0 ht K hK => ?_); have hx0 := hx0.trans ht; go_simp; refine ⟨_, _, ⟨rfl, rfl⟩, ?_⟩; (with_reducible refine (RO _).mono ?_); rintro e y1 ⟨r1, rfl, hr1, hz1⟩; have hx1 : Ext v y1 := hx0.trans hz1; refine ⟨_, rfl, hz1, hK _ _ ?_⟩; clear hK K); (refine wpX_c rfl (fun t1 ht K hK => ?_); have hx1 := hx1.trans ht; have hr1 := hr1.ext ht; go_simp; refine ⟨_, _, ⟨rfl, rfl⟩, ?_⟩; (with_reducible refine (AN _ _ hr1).mono ?_); rintro e y2 ⟨rfl, hz2⟩; have hx2 : Ext v y2 := hx1.trans hz2; have hr1 := hr1.ext hz2; refine ⟨_, rfl, hz2, hK _ _ ?_⟩; clear hK K); (refine wpX_v rfl (fun t2 ht K hK => ?_); have hx2 := hx2.trans ht; have hr1 := hr1.ext ht; go_simp; refine ⟨_, _, ⟨rfl, rfl⟩, Ext.refl _, hK _ _ ?_⟩; clear hK K); refine wpX_nil (fun y ht b hb => ?_); have hxv := hx2.trans ht; have hx := hx.trans hxv; have hr1 := hr1.ext ht; simp only [fill]; clear hb; replace BN := BN.ext hxv; clear lBN cBN fBN; replace BQ := BQ.ext hxv; clear lBQ cBQ fBQ; replace BK := BK.ext hxv; clear lBK cBK fBK; clear hxv ht b; obtain ⟨v, rfl⟩ : ∃ v', v' = y := ⟨_, rfl⟩; have lBN := BN.lt; have cBN := BN.cell; have fBN := BN.frozen; have lBQ := BQ.lt; have cBQ := BQ.cell; have fBQ := BQ.frozen; have lBK := BK.lt; have cBK := BK.cell; have fBK := BK.frozen; refine wpAny_at ?_; refine wpAny_ph 6 17 [6, 7, 8, 9, 10, 11, 12, 13] [14, 15, 16] [] (fun _ => .cells #[] 0) (by decide) (by kernel_rfl) (clo_first (Nat.le_of_ble_eq_true (by kernel_rfl)) (by kernel_rfl)) (fun j hj => by cases hj) ?_; simp only [List.map_cons, List.map_nil, List.getD_cons_succ, List.getD_cons_zero]; (first | (refine wpG_l ?_ (fun K hK => ?_); (· (simp [go_sem, Region.wanted, yielded]; done)); go_simp; refine hK _ ?_; clear hK K) | (refine wpG_s ?_ ?_; (· (simp [go_sem, Region.wanted, yielded]; done)))); (first | (refine wpG_l ?_ (fun K hK => ?_); (· (simp [go_sem, Region.wanted, yielded]; done)); go_simp; refine hK _ ?_; clear hK K) | (refine wpG_s ?_ ?_; (· (simp [go_sem, Region.wanted, yielded]; done)))); (first | (refine wpG_l ?_ (fun K hK => ?_); (· (simp [go_sem, Region.wanted, yielded]; done)); go_simp; refine hK _ ?_; clear hK K) | (refine wpG_s ?_ ?_; (· (simp [go_sem, Region.wanted, yielded]; done)))); (refine wpG_l rfl (fun K hK => ?_); go_simp; refine hK _ ?_; clear hK K); (refine wpG_l rfl (fun K hK => ?_); go_simp; refine hK _ ?_; clear hK K); (first | (refine wpG_l ?_ (fun K hK => ?_); (· (simp [go_sem, Region.wanted, yielded]; done)); go_simp; refine hK _ ?_; clear hK K) | (refine wpG_s ?_ ?_; (· (simp [go_sem, Region.wanted, yielded]; done)))); (refine wpG_l rfl (fun K hK => ?_); go_simp; refine hK _ ?_; clear hK K); (refine wpG_l rfl (fun K hK => ?_); go_simp; refine hK _ ?_; clear hK K); refine wpG_nil ?_; intro d0; have hx2 : Ext v (grow v d0) := ⟨d0, rfl⟩; have hr1 := hr1.ext hx2; generalize grow v d0 = y2 at *; (refine wpX_c ?_ (fun t2 ht K hK => ?_); (· (simp [go_sem, Region.wanted, yielded]; done)); have hx2 := hx2.trans ht; have hr1 := hr1.ext ht; go_simp; refine ⟨_, _, ⟨rfl, rfl⟩, ?_⟩; (with_reducible refine (cw _ (hT.ext (hx.trans hx2))).mono ?_); rintro e y3 ⟨rfl, hz3⟩; have hx3 : Ext v y3 := hx2.trans hz3; have hr1 := hr1.ext hz3; refine ⟨_, rfl, hz3, hK _ _ ?_⟩; clear hK K); (refine wpX_v rfl (fun t3 ht K hK => ?_); have hx3 := hx3.trans ht; have hr1 := hr1.ext ht; go_simp; refine ⟨_, _, ⟨rfl, rfl⟩, Ext.refl _, hK _ _ ?_⟩; clear hK K); (refine wpX_v rfl (fun t3 ht K hK => ?_); have hx3 := hx3.trans ht; have hr1 := hr1.ext ht; go_simp; refine ⟨_, _, ⟨rfl, rfl⟩, Ext.refl _, hK _ _ ?_⟩; clear hK K); refine wpX_nil (fun y ht b hb => ?_); have hxv := hx3.trans ht; have hx := hx.trans hxv; have hr1 := hr1.ext ht; simp only [fill]; clear hb; replace BN := BN.ext hxv; clear lBN cBN fBN; replace BQ := BQ.ext hxv; clear lBQ cBQ fBQ; replace BK := BK.ext hxv; clear lBK cBK fBK; clear hxv ht b; obtain ⟨v, rfl⟩ : ∃ v', v' = y := ⟨_, rfl⟩; have lBN := BN.lt; have cBN := BN.cell; have fBN := BN.frozen; have lBQ := BQ.lt; have cBQ := BQ.cell; have fBQ := BQ.frozen; have lBK := BK.lt; have cBK := BK.cell; have fBK := BK.frozen; refine wpAny_done (by kernel_rfl) ?_; simp only [List.drop_succ_cons, List.drop_zero, List.drop_nil]
  go_wp2
  exact bodyPost_ret (v := .bool true) (by simp [results, Tryz.results3, go_sem]) rfl ⟨rfl, hx⟩
set_option maxHeartbeats 16000000 in
theorem Nodes_yy (x y : Int) (a b Q1 Q2 : Rt) (ee gx gy : Int) (g : Bool) (NR : ∀ w, Calls Tryz.prog 8 #[ndV x y] w fun e w' => e = .returned (.bool true) ∧ Ext w w') (OF : ∀ w, Calls Tryz.prog 9 #[ndV x y] w fun e w' => e = .returned (.tuple #[pV Q1 Q2, .int .i64 ee]) ∧ Ext w w')
    (GR : ∀ w, Calls Tryz.prog 10 #[pV a b] w fun e w' => e = .returned (.tuple #[ndV gx gy, .bool g]) ∧ Ext w w') (RA : ∀ w, Calls Tryz.prog 11 #[pV a b] w fun e w' => e = .returned (.bool true) ∧ Ext w w')
    (xa xb : Rat) (FR : ∀ w, Calls Tryz.prog 13 #[pV a b] w (RetB (fun W r => PtV W r xa xb) w)) (RG : ∀ v w, PtV w v xa xb → Calls Tryz.prog 12 #[v] w fun e w' => e = .returned (.tuple #[ndV gx gy, .bool g]) ∧ Ext w w')
    (CK : ∀ w, Calls Tryz.prog 15 #[ndV x y] w fun e w' => e = .returned (.int .i64 0) ∧ Ext w w') (PR : ∀ w, Calls Tryz.prog 16 #[pV a b] w fun e w' => e = .returned (.int .i64 0) ∧ Ext w w')
    (G2 : ∀ w, Calls Tryz.prog 10 #[pV Q1 Q2] w fun e w' => e = .returned (.tuple #[ndV x y, .bool true]) ∧ Ext w w') (RO : ∀ w, Calls Tryz.prog 20 #[ndV x y] w (RetB (fun W r => PtV W r (x : Rat) (y : Rat)) w))
    (AN : ∀ v w, PtV w v (x : Rat) (y : Rat) → Calls Tryz.prog 19 #[pV Q1 Q2, .int .i64 ee, v] w fun e w' => e = .returned (.bool true) ∧ Ext w w')
    (w : World) (hT : Tab w) : Calls Tryz.prog 3 #[ndV x y, pV a b] w fun e w' => e = .returned (.bool true) ∧ Ext w w' := by
  have hx : Ext w w := Ext.refl w
  have EQ1 := eqT_nd gx gy
  have EQ2 := eqT_nd x y
  generalize (x : Rat) = rx at *
  generalize (y : Rat) = ry at *
  obtain ⟨sa, ma, ta, ka, _, _⟩ := a
  obtain ⟨sb, mb, tb, kb, _, _⟩ := b
  obtain ⟨sc, mc, tc, kc, _, _⟩ := Q1
  obtain ⟨sd, md, td, kd, _, _⟩ := Q2
  go_enter Tryz.func3, Tryz.ntmps3
  go_upto_region 2 with fail
  refine wp_rebase fun v0 hv => ?_
  replace hx : Ext w v0 := by rw [hv]; exact ext_auto
  have BN : Blk v0 w.heap.size #[.int .i64 x, .int .i64 y] 23 := by rw [hv]; exact blk_auto
  have BA : Blk v0 (w.heap.size + 1) (ptsV sa ma ta ka sb mb tb kb) 31 := by rw [hv]; exact blk_auto
  clear hv
  have lBN := BN.lt; have cBN := BN.cell; have fBN := BN.frozen; have lBA := BA.lt; have cBA := BA.cell; have fBA := BA.frozen
  
  go_wp2_with (go_at_call 8; (with_reducible refine (NR _).mono ?_); rintro e v1 ⟨rfl, hz_⟩; have hzz_ : Ext v0 v1 := Ext.trans ext_auto hz_; replace BN := BN.ext hzz_; clear lBN cBN fBN; replace BA := BA.ext hzz_; clear lBA cBA fBA; replace hx := hx.trans hzz_; clear hz_ hzz_; have lBN := BN.lt; have cBN := BN.cell; have fBN := BN.frozen; have lBA := BA.lt; have cBA := BA.cell; have fBA := BA.frozen)
  go_upto_region 5 with (first | ((with_reducible apply wpList_store_row info_point); (case hs => exact rfl); (case hv => exact rfl); (case hB => exact blk_auto); (case hy => rfl); (case hc => rfl); (case h1 => rfl)) | ((with_reducible apply wpList_load_row Tryz.isAgg31 Tryz.sizeOf31); (case hw => (simp [go_sem, Region.wanted, yielded]; done)); (case hs => exact rfl); (case hB => exact blk_auto); (case hc => rfl)) | (go_at_call 14; (with_reducible refine (num_p _ _).mono ?_); rintro e w2 ⟨rfl, h2_⟩; subst w2) | (go_at_call 9; (with_reducible refine (OF _).mono ?_); rintro e y2 ⟨rfl, hz_⟩; have hzz_ : Ext v1 y2 := Ext.trans ext_auto hz_))
  refine wp_rebase fun v2 hv => ?_
  have hzv : Ext y2 v2 := by rw [hv]; exact Ext.setRow ext_auto (Nat.le_refl _)
  have BQ : Blk v2 y2.heap.size (ptsV sc mc tc kc sd md td kd) 31 := by rw [hv]; exact Blk.setRowSame (Blk.new _ _ _ rfl)
  clear hv
  replace BN := (BN.ext hzz_).ext hzv
  replace BA := (BA.ext hzz_).ext hzv
  replace hx := (hx.trans hzz_).trans hzv
  clear hzz_ hzv hz_
  clear lBN cBN fBN lBA cBA fBA
  have lBN := BN.lt; have cBN := BN.cell; have fBN := BN.frozen; have lBA := BA.lt; have cBA := BA.cell; have fBA := BA.frozen; have lBQ := BQ.lt; have cBQ := BQ.cell; have fBQ := BQ.frozen
  go_upto_region 6 with (first | ((with_reducible apply wpList_load_row Tryz.isAgg31 Tryz.sizeOf31); (case hw => (simp [go_sem, Region.wanted, yielded]; done)); (case hs => exact rfl); (case hB => exact blk_auto); (case hc => rfl)) | (go_at_call 10; (with_reducible refine (GR _).mono ?_); rintro e y3 ⟨rfl, hz_⟩; have hzz_ : Ext v2 y3 := Ext.trans ext_auto hz_))
  refine wp_rebase fun v3 hv => ?_
  have hzv : Ext y3 v3 := by rw [hv]; exact ext_auto
  have BG : Blk v3 y3.heap.size #[.int .i64 gx, .int .i64 gy] 23 := by rw [hv]; exact blk_auto
  clear hv
  replace BN := (BN.ext hzz_).ext hzv; replace BA := (BA.ext hzz_).ext hzv; replace BQ := (BQ.ext hzz_).ext hzv
  replace hx := (hx.trans hzz_).trans hzv
  clear hzz_ hzv hz_
  have lBN := BN.lt; have cBN := BN.cell; have fBN := BN.frozen; have lBA := BA.lt; have cBA := BA.cell; have fBA := BA.frozen; have lBQ := BQ.lt; have cBQ := BQ.cell; have fBQ := BQ.frozen; have lBG := BG.lt; have cBG := BG.cell; have fBG := BG.frozen
  have q1 := lBN; have q2 := lBA; have q3 := lBQ; have q4 := lBG
  go_wp2_with (first | (go_at_call 14; (with_reducible refine (num_p _ _).mono ?_); rintro e w2 ⟨rfl, h2_⟩; subst w2) | ((with_reducible apply wpList_load_row Tryz.isAgg31 Tryz.sizeOf31); (case hw => (simp [go_sem, Region.wanted, yielded]; done)); (case hs => exact rfl); (case hB => exact blk_auto); (case hc => rfl)) | (go_at_call 11; (with_reducible refine (RA _).mono ?_); rintro e v4 ⟨rfl, hz_⟩; have hzz_ : Ext v3 v4 := Ext.trans ext_auto hz_; have BW : Blk v4 v3.heap.size #[.int .i64 0, .int .i64 0] 23 := Blk.ext blk_auto hz_; replace BN := BN.ext hzz_; clear lBN cBN fBN; replace BA := BA.ext hzz_; clear lBA cBA fBA; replace BQ := BQ.ext hzz_; clear lBQ cBQ fBQ; replace BG := BG.ext hzz_; clear lBG cBG fBG; replace hx := hx.trans hzz_; clear hz_ hzz_; have lBN := BN.lt; have cBN := BN.cell; have fBN := BN.frozen; have lBA := BA.lt; have cBA := BA.cell; have fBA := BA.frozen; have lBQ := BQ.lt; have cBQ := BQ.cell; have fBQ := BQ.frozen; have lBG := BG.lt; have cBG := BG.cell; have fBG := BG.frozen; have lBW := BW.lt; have cBW := BW.cell; have fBW := BW.frozen))
  go_wp2_with (first | (go_at_call 14; (with_reducible refine (num_p _ _).mono ?_); rintro e w2 ⟨rfl, h2_⟩; subst w2) | ((with_reducible apply wpList_load_row Tryz.isAgg31 Tryz.sizeOf31); (case hw => (simp [go_sem, Region.wanted, yielded]; done)); (case hs => exact rfl); (case hB => exact blk_auto); (case hc => rfl)) | (go_at_call 13; (with_reducible refine (FR _).mono ?_); rintro e v5 ⟨fv, rfl, hf, hz_⟩; have hzz_ : Ext v4 v5 := Ext.trans ext_auto hz_; replace BN := BN.ext hzz_; clear lBN cBN fBN; replace BA := BA.ext hzz_; clear lBA cBA fBA; replace BQ := BQ.ext hzz_; clear lBQ cBQ fBQ; replace BG := BG.ext hzz_; clear lBG cBG fBG; replace BW := BW.ext hzz_; clear lBW cBW fBW; replace hx := hx.trans hzz_; clear hz_ hzz_; have lBN := BN.lt; have cBN := BN.cell; have fBN := BN.frozen; have lBA := BA.lt; have cBA := BA.cell; have fBA := BA.frozen; have lBQ := BQ.lt; have cBQ := BQ.cell; have fBQ := BQ.frozen; have lBG := BG.lt; have cBG := BG.cell; have fBG := BG.frozen; have lBW := BW.lt; have cBW := BW.cell; have fBW := BW.frozen))
  go_upto_region 11 with (go_at_call 12; (with_reducible refine (RG _ _ (hf.ext ext_auto)).mono ?_); rintro e y6 ⟨rfl, hz_⟩; have hzz_ : Ext v5 y6 := Ext.trans ext_auto hz_; replace BN := BN.ext hzz_; replace BA := BA.ext hzz_; replace BQ := BQ.ext hzz_; replace BG := BG.ext hzz_; replace BW := BW.ext hzz_; clear lBW cBW fBW; have lBW := BW.lt; have cBW := BW.cell; have fBW := BW.frozen)
  replace hx := hx.trans hzz_
  have hs := hzz_.size
  refine wp_rebase fun v6 hv => ?_
  replace BW : Blk v6 v3.heap.size #[.int .i64 gx, .int .i64 gy] 23 := by rw [hv]; exact blk_auto
  replace BN : Blk v6 w.heap.size #[.int .i64 x, .int .i64 y] 23 := by rw [hv]; exact blk_auto
  replace BA : Blk v6 (w.heap.size + 1) (ptsV sa ma ta ka sb mb tb kb) 31 := by rw [hv]; exact blk_auto
  replace BQ : Blk v6 y2.heap.size (ptsV sc mc tc kc sd md td kd) 31 := by rw [hv]; exact blk_auto
  replace BG : Blk v6 y3.heap.size #[.int .i64 gx, .int .i64 gy] 23 := by rw [hv]; exact blk_auto
  replace hx : Ext w v6 := by rw [hv]; exact ext_auto
  clear hv hzz_ hz_ lBN cBN fBN lBA cBA fBA lBQ cBQ fBQ lBG cBG fBG lBW cBW fBW hf
  have lBN := BN.lt; have cBN := BN.cell; have fBN := BN.frozen; have lBA := BA.lt; have cBA := BA.cell; have fBA := BA.frozen; have lBQ := BQ.lt; have cBQ := BQ.cell; have fBQ := BQ.frozen; have lBG := BG.lt; have cBG := BG.cell; have fBG := BG.frozen; have lBW := BW.lt; have cBW := BW.cell; have fBW := BW.frozen
  go_wp2_with (first | (go_at_call 14; (with_reducible refine (num_p _ _).mono ?_); rintro e w2 ⟨rfl, h2_⟩; subst w2) | ((with_reducible apply wpList_load_row Tryz.isAgg31 Tryz.sizeOf31); (case hw => (simp [go_sem, Region.wanted, yielded]; done)); (case hs => exact rfl); (case hB => exact blk_auto); (case hc => rfl)) | (go_at_call 15; (with_reducible refine (CK _).mono ?_); rintro e v7 ⟨rfl, hz_⟩; have hzz_ : Ext v6 v7 := Ext.trans ext_auto hz_; replace BN := BN.ext hzz_; clear lBN cBN fBN; replace BA := BA.ext hzz_; clear lBA cBA fBA; replace BQ := BQ.ext hzz_; clear lBQ cBQ fBQ; replace BG := BG.ext hzz_; clear lBG cBG fBG; replace BW := BW.ext hzz_; clear lBW cBW fBW; replace hx := hx.trans hzz_; clear hz_ hzz_; have lBN := BN.lt; have cBN := BN.cell; have fBN := BN.frozen; have lBA := BA.lt; have cBA := BA.cell; have fBA := BA.frozen; have lBQ := BQ.lt; have cBQ := BQ.cell; have fBQ := BQ.frozen; have lBG := BG.lt; have cBG := BG.cell; have fBG := BG.frozen; have lBW := BW.lt; have cBW := BW.cell; have fBW := BW.frozen))
  go_wp2_with (first | (go_at_call 14; (with_reducible refine (num_p _ _).mono ?_); rintro e w2 ⟨rfl, h2_⟩; subst w2) | ((with_reducible apply wpList_load_row Tryz.isAgg31 Tryz.sizeOf31); (case hw => (simp [go_sem, Region.wanted, yielded]; done)); (case hs => exact rfl); (case hB => exact blk_auto); (case hc => rfl)) | (go_at_call 16; (with_reducible refine (PR _).mono ?_); rintro e v8 ⟨rfl, hz_⟩; have hzz_ : Ext v7 v8 := Ext.trans ext_auto hz_; replace BN := BN.ext hzz_; clear lBN cBN fBN; replace BA := BA.ext hzz_; clear lBA cBA fBA; replace BQ := BQ.ext hzz_; clear lBQ cBQ fBQ; replace BG := BG.ext hzz_; clear lBG cBG fBG; replace BW := BW.ext hzz_; clear lBW cBW fBW; replace hx := hx.trans hzz_; clear hz_ hzz_; have lBN := BN.lt; have cBN := BN.cell; have fBN := BN.frozen; have lBA := BA.lt; have cBA := BA.cell; have fBA := BA.frozen; have lBQ := BQ.lt; have cBQ := BQ.cell; have fBQ := BQ.frozen; have lBG := BG.lt; have cBG := BG.cell; have fBG := BG.frozen; have lBW := BW.lt; have cBW := BW.cell; have fBW := BW.frozen))
  go_upto_region 16 with (first | ((with_reducible apply wpList_load_row Tryz.isAgg31 Tryz.sizeOf31); (case hw => (simp [go_sem, Region.wanted, yielded]; done)); (case hs => exact rfl); (case hB => exact blk_auto); (case hc => rfl)) | (go_at_call 14; (with_reducible refine (num_p _ _).mono ?_); rintro e w2 ⟨rfl, h2_⟩; subst w2) | (go_at_call 10; (with_reducible refine (G2 _).mono ?_); rintro e y9 ⟨rfl, hz_⟩; have hzz_ : Ext v8 y9 := Ext.trans ext_auto hz_))
  refine wp_rebase fun v hv => ?_
  have hzv : Ext y9 v := by rw [hv]; exact ext_auto
  have BK : Blk v y9.heap.size #[.int .i64 x, .int .i64 y] 23 := by rw [hv]; exact blk_auto
  clear hv
  replace BN := (BN.ext hzz_).ext hzv; replace BQ := (BQ.ext hzz_).ext hzv
  replace hx := (hx.trans hzz_).trans hzv
  clear hzz_ hzv hz_ lBN cBN fBN lBQ cBQ fBQ lBA cBA fBA lBG cBG fBG lBW cBW fBW BA BG BW q1 q2 q3 q4
  have lBN := BN.lt; have cBN := BN.cell; have fBN := BN.frozen; have lBQ := BQ.lt; have cBQ := BQ.cell; have fBQ := BQ.frozen; have lBK := BK.lt; have cBK := BK.cell; have fBK := BK.frozen
  have hws := hx.size
  have cw := worksP_true
  (first | refine wp_region_p (by kernel_rfl) ?_ | refine wp_region_p' (by kernel_rfl) ?_); refine wpAny_ph 0 6 [0, 1, 2] [3, 4, 5] [] (fun _ => .cells #[] 0) (by decide) (by kernel_rfl) (clo_first (Nat.le_of_ble_eq_true (by kernel_rfl)) (by kernel_rfl)) (fun j hj => by cases hj) ?_; simp only [List.map_cons, List.map_nil, List.getD_cons_succ, List.getD_cons_zero]; (refine wpG_l rfl (fun K hK => ?_); (with_reducible apply ex_load_row Tryz.isAgg31 Tryz.sizeOf31); (case hs => exact rfl); (case hB => exact blk_auto); (case hc => rfl); refine hK _ ?_; clear hK K); (refine wpG_l rfl (fun K hK => ?_); go_simp; refine hK _ ?_; clear hK K); (refine wpG_l rfl (fun K hK => ?_); go_simp; refine hK _ ?_; clear hK K); refine wpG_nil ?_; intro d0; have hx0 : Ext v (grow v d0) := ⟨d0, rfl⟩; generalize grow v d0 = y0 at *; (refine wpX_c rfl (fun t0 ht K hK => ?_); have hx0 := hx0.trans ht; go_simp; refine ⟨_, _, ⟨rfl, rfl⟩, ?_⟩; (with_reducible refine (RO _).mono ?_); rintro e y1 ⟨r1, rfl, hr1, hz1⟩; have hx1 : Ext v y1 := hx0.trans hz1; refine ⟨_, rfl, hz1, hK _ _ ?_⟩; clear hK K); (refine wpX_c rfl (fun t1 ht K hK => ?_); have hx1 := hx1.trans ht; have hr1 := hr1.ext ht; go_simp; refine ⟨_, _, ⟨rfl, rfl⟩, ?_⟩; (with_reducible refine (AN _ _ hr1).mono ?_); rintro e y2 ⟨rfl, hz2⟩; have hx2 : Ext v y2 := hx1.trans hz2; have hr1 := hr1.ext hz2; refine ⟨_, rfl, hz2, hK _ _ ?_⟩; clear hK K); (refine wpX_v rfl (fun t2 ht K hK => ?_); have hx2 := hx2.trans ht; have hr1 := hr1.ext ht; go_simp; refine ⟨_, _, ⟨rfl, rfl⟩, Ext.refl _, hK _ _ ?_⟩; clear hK K); refine wpX_nil (fun y ht b hb => ?_); have hxv := hx2.trans ht; have hx := hx.trans hxv; have hr1 := hr1.ext ht; simp only [fill]; clear hb; replace BN := BN.ext hxv; clear lBN cBN fBN; replace BQ := BQ.ext hxv; clear lBQ cBQ fBQ; replace BK := BK.ext hxv; clear lBK cBK fBK; clear hxv ht b; obtain ⟨v, rfl⟩ : ∃ v', v' = y := ⟨_, rfl⟩; have lBN := BN.lt; have cBN := BN.cell; have fBN := BN.frozen; have lBQ := BQ.lt; have cBQ := BQ.cell; have fBQ := BQ.frozen; have lBK := BK.lt; have cBK := BK.cell; have fBK := BK.frozen; refine wpAny_at ?_; refine wpAny_ph 6 17 [6, 7, 8, 9, 10, 11, 12, 13] [14, 15, 16] [] (fun _ => .cells #[] 0) (by decide) (by kernel_rfl) (clo_first (Nat.le_of_ble_eq_true (by kernel_rfl)) (by kernel_rfl)) (fun j hj => by cases hj) ?_; simp only [List.map_cons, List.map_nil, List.getD_cons_succ, List.getD_cons_zero]; (first | (refine wpG_l ?_ (fun K hK => ?_); (· (simp [go_sem, Region.wanted, yielded]; done)); go_simp; refine hK _ ?_; clear hK K) | (refine wpG_s ?_ ?_; (· (simp [go_sem, Region.wanted, yielded]; done)))); (first | (refine wpG_l ?_ (fun K hK => ?_); (· (simp [go_sem, Region.wanted, yielded]; done)); go_simp; refine hK _ ?_; clear hK K) | (refine wpG_s ?_ ?_; (· (simp [go_sem, Region.wanted, yielded]; done)))); (first | (refine wpG_l ?_ (fun K hK => ?_); (· (simp [go_sem, Region.wanted, yielded]; done)); go_simp; refine hK _ ?_; clear hK K) | (refine wpG_s ?_ ?_; (· (simp [go_sem, Region.wanted, yielded]; done)))); (refine wpG_l rfl (fun K hK => ?_); go_simp; refine hK _ ?_; clear hK K); (refine wpG_l rfl (fun K hK => ?_); go_simp; refine hK _ ?_; clear hK K); (first | (refine wpG_l ?_ (fun K hK => ?_); (· (simp [go_sem, Region.wanted, yielded]; done)); go_simp; refine hK _ ?_; clear hK K) | (refine wpG_s ?_ ?_; (· (simp [go_sem, Region.wanted, yielded]; done)))); (refine wpG_l rfl (fun K hK => ?_); go_simp; refine hK _ ?_; clear hK K); (refine wpG_l rfl (fun K hK => ?_); go_simp; refine hK _ ?_; clear hK K); refine wpG_nil ?_; intro d0; have hx2 : Ext v (grow v d0) := ⟨d0, rfl⟩; have hr1 := hr1.ext hx2; generalize grow v d0 = y2 at *; (refine wpX_c ?_ (fun t2 ht K hK => ?_); (· (simp [go_sem, Region.wanted, yielded]; done)); have hx2 := hx2.trans ht; have hr1 := hr1.ext ht; go_simp; refine ⟨_, _, ⟨rfl, rfl⟩, ?_⟩; (with_reducible refine (cw _ (hT.ext (hx.trans hx2))).mono ?_); rintro e y3 ⟨rfl, hz3⟩; have hx3 : Ext v y3 := hx2.trans hz3; have hr1 := hr1.ext hz3; refine ⟨_, rfl, hz3, hK _ _ ?_⟩; clear hK K); (refine wpX_v rfl (fun t3 ht K hK => ?_); have hx3 := hx3.trans ht; have hr1 := hr1.ext ht; go_simp; refine ⟨_, _, ⟨rfl, rfl⟩, Ext.refl _, hK _ _ ?_⟩; clear hK K); (refine wpX_v rfl (fun t3 ht K hK => ?_); have hx3 := hx3.trans ht; have hr1 := hr1.ext ht; go_simp; refine ⟨_, _, ⟨rfl, rfl⟩, Ext.refl _, hK _ _ ?_⟩; clear hK K); refine wpX_nil (fun y ht b hb => ?_); have hxv := hx3.trans ht; have hx := hx.trans hxv; have hr1 := hr1.ext ht; simp only [fill]; clear hb; replace BN := BN.ext hxv; clear lBN cBN fBN; replace BQ := BQ.ext hxv; clear lBQ cBQ fBQ; replace BK := BK.ext hxv; clear lBK cBK fBK; clear hxv ht b; obtain ⟨v, rfl⟩ : ∃ v', v' = y := ⟨_, rfl⟩; have lBN := BN.lt; have cBN := BN.cell; have fBN := BN.frozen; have lBQ := BQ.lt; have cBQ := BQ.cell; have fBQ := BQ.frozen; have lBK := BK.lt; have cBK := BK.cell; have fBK := BK.frozen; refine wpAny_done (by kernel_rfl) ?_; simp only [List.drop_succ_cons, List.drop_zero, List.drop_nil]
  go_wp2
  exact bodyPost_ret (v := .bool true) (by simp [results, Tryz.results3, go_sem]) rfl ⟨rfl, hx⟩
end Go.Proofs.YtmopgcbhmkemjaaGreatDoor

namespace Go.Proofs.YtmopgcbhmkemjaaGreatDoor
open Go Go.RowKit
set_option linter.unusedSimpArgs false
set_option linter.unusedVariables false
set_option maxRecDepth 100000
set_option exponentiation.threshold 3000

theorem gridQ_pok (a b : Rt) (h : gridQ a b = true) : (a.pok && b.pok) = true := by
  obtain ⟨h1, h2, h3, h4, h5, h6⟩ := (gridQ_iff a b).1 h
  have i1 := (inC_iff _).1 h5
  have i2 := (inC_iff _).1 h6
  have e1 : a.m = (sv a.s a.m).natAbs := by rw [sv_natAbs]
  have e2 : b.m = (sv b.s b.m).natAbs := by rw [sv_natAbs]
  have c1 : 67108865 < C96 := by decide
  have c2 : 1 < B := by decide
  have k1 := a.pok_iff.2 ⟨h1, by omega, by omega⟩
  have k2 := b.pok_iff.2 ⟨h2, by omega, by omega⟩
  rw [k1, k2]; rfl
theorem gridQ_I (x y : Int) (hx : x.natAbs ≤ 9223372036854775808) (hy : y.natAbs ≤ 9223372036854775808) (h1 : inC x = true) (h2 : inC y = true) :
    gridQ (rI x hx) (rI y hy) = true ∧ sv (rI x hx).s (rI x hx).m = x ∧ sv (rI y hy).s (rI y hy).m = y := by
  obtain ⟨q1, q2, q3, q4⟩ := rI_same x hx
  obtain ⟨q5, q6, q7, q8⟩ := rI_same y hy
  have e : ∀ z : Int, sv (decide (z < 0)) z.natAbs = z := fun z => by by_cases h : z < 0 <;> simp [sv, h] <;> omega
  have e1 : sv (rI x hx).s (rI x hx).m = x := by rw [q1, q2, e]
  have e2 : sv (rI y hy).s (rI y hy).m = y := by rw [q5, q6, e]
  refine ⟨(gridQ_iff _ _).2 ⟨rt_ok _ _, rt_ok _ _, q4, q8, by rw [e1]; exact h1, by rw [e2]; exact h2⟩, e1, e2⟩
theorem nodesP_true (x y : Int) (h1 : -9223372036854775808 ≤ x) (h2 : x ≤ 9223372036854775807) (h3 : -9223372036854775808 ≤ y) (h4 : y ≤ 9223372036854775807) (a b : Rt) (w : World) (hT : Tab w) :
    Calls Tryz.prog 3 #[ndV x y, pV a b] w fun e w' => e = .returned (.bool true) ∧ Ext w w' := by
  have NR := fun w => nodeR_any x y w
  have OF := fun w => ptOf_any x y h1 h2 h3 h4 w
  have GR := fun w => ptGrid_any a b w
  have RA := fun w => rightP_any a b w
  have CK := fun w => pcheck_any x y w
  have PR := fun w => pright_any a b w
  have nx : x.natAbs ≤ 9223372036854775808 := by omega
  have ny : y.natAbs ≤ 9223372036854775808 := by omega
  have hR : (a.pok && b.pok) = true → (∀ w, Calls Tryz.prog 13 #[pV a b] w (RetB (fun W r => PtV W r a.q b.q) w)) ∧ ∀ v w, PtV w v a.q b.q → Calls Tryz.prog 12 #[v] w fun e w' => e = .returned (.tuple #[ndV (if gridQ a b then sv a.s a.m else 0) (if gridQ a b then sv b.s b.m else 0), .bool (gridQ a b)]) ∧ Ext w w' := fun hp => by
    obtain ⟨ha, hb⟩ : a.pok = true ∧ b.pok = true := by simpa using hp
    have oa := (a.pok_iff.1 ha).1
    have ob := (b.pok_iff.1 hb).1
    refine ⟨fun w => fromP a b oa ob w, fun v w h => ?_⟩
    have := gridR_any a.q b.q (a.q_fits oa) (b.q_fits ob) v w h
    rwa [grid_same a b ha hb, (a.q_parts oa).1, (b.q_parts ob).1] at this
  cases hc : (inC x && inC y) with
  | false =>
    rw [hc] at NR OF CK
    have OF' : ∀ w, Calls Tryz.prog 9 #[ndV x y] w fun e w' => e = .returned (.tuple #[pV zRt zRt, .int .i64 2]) ∧ Ext w w' := by rw [← pZ_z]; exact OF
    have RF : ∀ w, Calls Tryz.prog 17 #[pV zRt zRt, .int .i64 2] w fun e w' => e = .returned (.bool true) ∧ Ext w w' := by rw [← pZ_z]; exact fun w => refusedP w
    cases hp : (a.pok && b.pok) with
    | false =>
      have hg : gridQ a b = false := by
        cases hg : gridQ a b with
        | false => rfl
        | true => rw [gridQ_pok a b hg] at hp; cases hp
      rw [hp] at RA PR; rw [hg] at GR
      exact Nodes_nn x y a b zRt zRt 2 0 0 false NR OF' GR RA rfl rfl rfl CK PR RF w hT
    | true =>
      rw [hp] at RA PR
      exact Nodes_ny x y a b zRt zRt 2 _ _ _ NR OF' GR RA a.q b.q (hR hp).1 (hR hp).2 CK PR RF w hT
  | true =>
    have hc' : inC x = true ∧ inC y = true := by simpa using hc
    rw [hc] at NR OF CK
    have G2 := fun w => ptGrid_any (rI x nx) (rI y ny) w
    obtain ⟨g1, g2, g3⟩ := gridQ_I x y nx ny hc'.1 hc'.2
    rw [g1, if_pos rfl, if_pos rfl, g2, g3] at G2
    have RO := fun w => ofP_any x y h1 (by omega) h3 (by omega) w
    have AN := fun v w h => answersP (rI x nx) (rI y ny) 0 x y (fun v w h => outP_yes x y (int_q x nx) (int_q y ny) v w h) v w h
    cases hp : (a.pok && b.pok) with
    | false =>
      have hg : gridQ a b = false := by
        cases hg : gridQ a b with
        | false => rfl
        | true => rw [gridQ_pok a b hg] at hp; cases hp
      rw [hp] at RA PR; rw [hg] at GR
      exact Nodes_yn x y a b _ _ 0 0 0 false NR OF GR RA rfl rfl rfl CK PR G2 RO AN w hT
    | true =>
      rw [hp] at RA PR
      exact Nodes_yy x y a b _ _ 0 _ _ _ NR OF GR RA a.q b.q (hR hp).1 (hR hp).2 CK PR G2 RO AN w hT
end Go.Proofs.YtmopgcbhmkemjaaGreatDoor
