/- The parts of a text: the iterator. The parts of a text; a text's beginning. The Int of a text. The Int of a text with a sign. A text cut at the stroke. The Rat of a text with a stroke. The chapter's rows of ratio hold. RatioMirrors: the walk. -/
import Derived.Test.YtjkchmegnfbfoaaGreatDoorProg
import Derived.Test.YtjkchmegnfbfoaaGreatDoorQ03
import Derived.Test.YtjkchmegnfbfoaaGreatDoorQ08
import Derived.Scope
import Derived.Test.YtjkchmegnfbfoaaGreatDoorQ02
import Derived.Test.YtjkchmegnfbfoaaGreatDoorQ04
import Derived.Test.YtjkchmegnfbfoaaGreatDoorQ07
import Derived.Deep.DeepCutAuto
namespace Go.Proofs.YtjkchmegnfbfoaaGreatDoor
open Go Go.RowKit Go.Shelf
set_option linter.unusedSimpArgs false
set_option linter.unusedVariables false
set_option maxRecDepth 100000
attribute [local go_sem] Oper.semAt_some

theorem wpIn_scope_wide {n : Nat} {P : Program} {c : Code} {Q : Exit → Act → World → Prop} {a : Act} {w : World} (h : c.wpIn Fence.wide n P (Exit.noGoto Q) a w) : (Code.scope c).wpIn Fence.wide n P Q a w :=
  wpIn_wide.2 (wp_scope_straight (wpIn_wide.1 h))
def partsOf (is : Bool) : List (Fin 2) := if is then [0, 1] else [0]
def ups (j : Nat) : List (Fin 2) := ([0, 1] : List (Fin 2)).take j
theorem ups_succ (j : Nat) (h : j < 2) : ups (j + 1) = ups j ++ [⟨j, h⟩] := by
  match j, h with
  | 0, _ => rfl
  | 1, _ => rfl
theorem ups_length (j : Nat) (h : j ≤ 2) : (ups j).length = j := by
  rcases (by omega : j = 0 ∨ j = 1 ∨ j = 2) with rfl | rfl | rfl <;> rfl
abbrev prt (a b : ByteArray) (x : Nat) : Value := .string (if x = 0 then a else b)
theorem index_prt (a b : ByteArray) (i : Nat) (hi : i < 2) (w : World) : (Instr.index 143 (.agg #[.string a, .string b]) (.int .i64 (i : Int))).run Tryz.prog w = .ok (prt a b i) w := by
  rcases (by omega : i = 0 ∨ i = 1) with rfl | rfl <;> kernel_rfl
set_option maxHeartbeats 4000000 in
theorem parts1_in (n : Nat) (hn : 1 ≤ n) (l Bs n₀ : Nat) (s a b : ByteArray) (is : Bool) (hcut : ∀ w, Calls Tryz.prog 110 #[.string s, .string ⟨#[47]⟩] w fun e w' => e = .returned (.tuple #[.string a, .string b, .bool is]) ∧ Ext w w')
    (J Jx : List (Fin 2) → World → Prop) (hE : ∀ A B, Ext A B → J [] A → J [] B)
    (hY : ∀ pre x W, J pre W → pre.length < 2 → pre = ups x.1 → (x.1 = 1 → is = true) → YieldAt Fence.wide (n - 1) Tryz.prog l #[.int .i64 (x.1 : Int), prt a b x.1] W fun e W' =>
      (e = .returned (.bool true) ∧ J (pre ++ [x]) W' ∧ Below n₀ W W') ∨ (e = .returned (.bool false) ∧ Jx (pre ++ [x]) W'))
    (W : World) (hBs : W.cell? ⟨Bs, 0, none⟩ = some (.string s)) (h0 : J [] W) :
    CallsIn Fence.wide n Tryz.prog 109 #[.func (.yield l) #[] #[], .pointer (some ⟨Bs, 0, none⟩)] W fun e W' => (∃ v, e = .returned v) ∧
      ((∃ ys, ys = partsOf is ∧ J ys W') ∨ (∃ pre, (∃ k, k < 2 ∧ pre = ups (k + 1)) ∧ Jx pre W')) := by
  refine callsIn_of_wp Tryz.func109 rfl trivial ?_ rfl
  simp only [Tryz.ntmps109, List.size_toArray, List.length_cons, List.length_nil, Nat.reduceAdd, Nat.reduceSub, Array.replicate_succ, Array.replicate_zero, List.push_toArray, List.append_toArray, List.nil_append, List.cons_append]
  refine wpIn_scope_wide ?_
  gi_wp2_with (refine ⟨trivial, ?_⟩; gi_at_call 110; refine (callsIn_wide.2 (hcut _)).mono ?_; rintro e w' ⟨rfl, hx⟩; have h0 := hE _ _ hx h0)
  refine wpIn_label ?_
  gi_wp2
  gi_loopw [17] (fun i wr => ∃ k : Nat, k ≤ 2 ∧ (k = 2 → is = true) ∧ i = .int .i64 (k : Int) ∧ J (ups k) wr)
    (fun i _ => 2 - (intOf i).toNat)
  case atStart => exact ⟨0, by omega, by omega, rfl, h0⟩
  case round =>
    obtain ⟨k, hk, his, rfl, hJs⟩ := hrel
    by_cases h2 : k = 2
    · subst h2
      have hi := his rfl
      subst hi
      gi_wp2
      --s1
      go_end0
      exact ⟨⟨_, rfl⟩, .inl (by first | exact hJs | exact ⟨_, rfl, hJs⟩)⟩
    · by_cases hstop : k = 1 ∧ is = false
      · obtain ⟨rfl, rfl⟩ := hstop
        have hx1 : ∀ w, (Instr.index 143 (.agg #[.string a, .string b]) (.int .i64 1)).run Tryz.prog w = .ok (.string b) w := fun w => index_prt a b 1 (by omega) w
        gi_wp2
        refine ⟨fun f h => (by cases h), ?_⟩
        gi_wp2
        --s2
        simp only [Exit.noGoto]
        go_end0
        exact ⟨⟨_, rfl⟩, .inl (by first | exact hJs | exact ⟨_, rfl, hJs⟩)⟩
      · have hk2 : k < 2 := by omega
        have hx1 : ∀ w, (Instr.index 143 (.agg #[.string a, .string b]) (.int .i64 1)).run Tryz.prog w = .ok (.string b) w := fun w => index_prt a b 1 (by omega) w
        have hx0 : ∀ w, (Instr.index 143 (.agg #[.string a, .string b]) (.int .i64 0)).run Tryz.prog w = .ok (.string a) w := fun w => index_prt a b 0 (by omega) w
        obtain ⟨fn, tmps, assign, body, hy, hR⟩ := hY _ (⟨k, hk2⟩ : Fin 2) wr hJs (by rw [ups_length _ hk]; omega) rfl (fun h => by
          cases is with
          | true => rfl
          | false => exact absurd ⟨h, rfl⟩ hstop)
        dsimp only at hy
        have hc : k = 0 ∨ (k = 1 ∧ is = true) := by
          rcases (by omega : k = 0 ∨ k = 1) with h | h
          · exact .inl h
          · right; refine ⟨h, ?_⟩; cases is with
            | true => rfl
            | false => exact absurd ⟨h, rfl⟩ hstop
        clear hstop his
        rcases hc with rfl | ⟨rfl, rfl⟩
        all_goals
          simp only [prt, if_true, Nat.one_ne_zero, if_false, Int.natCast_zero, Int.natCast_one, Nat.reduceEqDiff] at hy
          gi_wp2
          --s3
          refine hR.mono ?_
          rintro e W3 (⟨rfl, hJ3, hk3⟩ | ⟨rfl, hJx3⟩)
          · gi_wp2
            --s4
            go_roundw
            case rel => first | exact ⟨1, by omega, by omega, rfl, hJ3⟩ | exact ⟨2, by omega, fun _ => trivial, rfl, hJ3⟩
            case measure => simp [intOf]
          · gi_wp2
            --s5
            simp only [Exit.noGoto]
            go_end0
            first
              | exact ⟨⟨_, rfl⟩, .inr ⟨_, ⟨0, by omega, rfl⟩, hJx3⟩⟩
              | exact ⟨⟨_, rfl⟩, .inr ⟨_, ⟨1, by omega, rfl⟩, hJx3⟩⟩
end Go.Proofs.YtjkchmegnfbfoaaGreatDoor

namespace Go.Proofs.YtjkchmegnfbfoaaGreatDoor
open Go Go.RowKit Go.Shelf
set_option linter.unusedSimpArgs false
set_option linter.unusedVariables false
set_option maxRecDepth 100000
attribute [local go_sem] Oper.semAt_some

theorem parts_in (n : Nat) (s : ByteArray) (w : World) :
    CallsIn Fence.wide n Tryz.prog 81 #[.string s] w fun e w' =>
      e = .returned (.func (.func 109) #[] #[.pointer (some ⟨w.heap.size, 0, none⟩)]) ∧ w' = w.alloc (.cells #[.string s] 9) := by
  refine callsIn_of_wp Tryz.func81 rfl trivial ?_ rfl
  simp only [Tryz.ntmps81, List.size_toArray, List.length_cons, List.length_nil, Nat.reduceAdd, Nat.reduceSub, Array.replicate_succ, Array.replicate_zero, List.push_toArray, List.append_toArray, List.nil_append, List.cons_append]
  gi_wp2
  go_ret
  exact ⟨rfl, rfl⟩
theorem hasPrefix_lite (s : ByteArray) (h0 : 0 < s.size) (hs : s.size < 1000000) (hb : ((s.extract 0 1).toList == [45]) = false) (w : World) :
    Calls Tryz.prog 115 #[.string s, .string ⟨#[45]⟩] w fun e w' => e = .returned (.bool false) ∧ w' = w := by
  have h1 : (1 : Int) ≤ s.size := by omega
  have h2 : 1 ≤ s.size := by omega
  go_enter Tryz.func115, Tryz.ntmps115
  go_wp2
  --s1
  go_ret
  exact ⟨rfl, rfl⟩
theorem hasPrefix_no (s : ByteArray) (h0 : 0 < s.size) (hs : s.size < 1000000) (hb : ((s.extract 0 1).toList == [45]) = false) (w : World) :
    Calls Tryz.prog 83 #[.string s, .string ⟨#[45]⟩] w fun e w' => e = .returned (.bool false) ∧ w' = w := by
  have c := hasPrefix_lite s h0 hs hb w
  go_enter Tryz.func83, Tryz.ntmps83
  go_wp2_with (go_at_call 115; refine c.mono ?_; rintro e w' ⟨rfl, rfl⟩)
  go_ret
  exact ⟨rfl, rfl⟩
theorem Ext.grownBy {A B : World} (h : Ext A B) : A.grownBy B none := by
  have hb := h.below
  exact ⟨hb.os, hb.tape, hb.output, hb.size, fun k hk _ => hb.block k hk⟩
theorem parts_stops (n : Nat) (hn : 1 ≤ n) (Bs n₀ : Nat) (s a b : ByteArray) (is : Bool) (hcut : ∀ w, Calls Tryz.prog 110 #[.string s, .string ⟨#[47]⟩] w fun e w' => e = .returned (.tuple #[.string a, .string b, .bool is]) ∧ Ext w w')
    (w : World) (hc : w.cell? ⟨Bs, 0, none⟩ = some (.string s)) (hBl : Bs < w.heap.size) :
    SeqStopsK Fence.wide n Tryz.prog 109 #[.pointer (some ⟨Bs, 0, none⟩)] (fun x : Fin 2 => #[Value.int .i64 (x.1 : Int), prt a b x.1]) (Below n₀) (fun ys => ys = partsOf is) (fun pre => ∃ k, k < 2 ∧ pre = ups (k + 1)) 2 w :=
  fun l J Jx W hW hJ _ hY h0 => parts1_in n hn l Bs n₀ s a b is hcut J Jx (fun A B hx h => by
    refine hJ [] A B none h ?_ (fun r e => by cases e)
    exact Ext.grownBy hx) (fun pre x W h1 h2 _ _ => hY pre x W h1 h2) W ((hW.cell (p := ⟨Bs, 0, none⟩) hBl).trans hc) h0
/-- A text without the stroke: one part. -/
theorem parts_stops_one (n : Nat) (hn : 1 ≤ n) (Bs n₀ : Nat) (s a b : ByteArray) (hcut : ∀ w, Calls Tryz.prog 110 #[.string s, .string ⟨#[47]⟩] w fun e w' => e = .returned (.tuple #[.string a, .string b, .bool false]) ∧ Ext w w')
    (w : World) (hc : w.cell? ⟨Bs, 0, none⟩ = some (.string s)) (hBl : Bs < w.heap.size) :
    SeqStopsK Fence.wide n Tryz.prog 109 #[.pointer (some ⟨Bs, 0, none⟩)] (fun _ : Unit => #[Value.int .i64 0, .string a]) (Below n₀) (fun ys => ys = [()]) (fun _ => True) 1 w :=
  fun l J Jx W hW hJ _ hY h0 => by
    have h := parts1_in n hn l Bs n₀ s a b false hcut (fun pre W => J (pre.map fun _ => ()) W) (fun pre W => Jx (pre.map fun _ => ()) W) (fun A B hx h => by
      refine hJ [] A B none h ?_ (fun r e => by cases e)
      exact Ext.grownBy hx) (fun pre x W h1 _ h3 h4 => by
        have hx0 : x.1 = 0 := by
          have := x.2
          rcases (by omega : x.1 = 0 ∨ x.1 = 1) with h | h
          · exact h
          · cases h4 h
        have hp : pre = [] := by rw [h3, hx0]; rfl
        subst hp
        have := hY [] () W h1 (by simp)
        rw [hx0]
        exact this) W ((hW.cell (p := ⟨Bs, 0, none⟩) hBl).trans hc) h0
    refine h.mono ?_
    rintro e W' ⟨hv, (⟨ys, rfl, hj⟩ | ⟨pre, _, hj⟩)⟩
    · exact ⟨hv, .inl ⟨_, rfl, hj⟩⟩
    · exact ⟨hv, .inr ⟨_, trivial, hj⟩⟩
end Go.Proofs.YtjkchmegnfbfoaaGreatDoor

namespace Go.Proofs.YtjkchmegnfbfoaaGreatDoor
open Go Go.RowKit
set_option linter.unusedSimpArgs false
set_option linter.unusedVariables false
set_option maxRecDepth 100000

def ofDec (ds : List Nat) : Nat := ds.foldl (fun a d => a * 10 + d) 0
theorem ofDec_snoc (ds : List Nat) (d : Nat) : ofDec (ds ++ [d]) = ofDec ds * 10 + d := by simp [ofDec, List.foldl_append]
theorem ofDec_take (ds : List Nat) (k : Nat) (h : k < ds.length) : ofDec (ds.take (k + 1)) = ofDec (ds.take k) * 10 + ds.getD k 0 := by
  have e : ds.take (k + 1) = ds.take k ++ [ds.getD k 0] := by
    rw [List.take_succ_eq_append_getElem h]; simp [List.getD_eq_getElem?_getD, List.getElem?_eq_getElem h]
  rw [e, ofDec_snoc]
theorem ofDec_le (ds : List Nat) : ∀ j, ofDec (ds.take (ds.length - j)) ≤ ofDec ds
  | 0 => by simp
  | j + 1 => by
    by_cases h : ds.length ≤ j
    · rw [show ds.length - (j + 1) = ds.length - j by omega]; exact ofDec_le ds j
    · have h1 := ofDec_le ds j
      have h2 := ofDec_take ds (ds.length - (j + 1)) (by omega)
      rw [show ds.length - (j + 1) + 1 = ds.length - j by omega] at h2
      omega
theorem ofDec_take_le (ds : List Nat) (k : Nat) (h : k ≤ ds.length) : ofDec (ds.take k) ≤ ofDec ds := by
  have := ofDec_le ds (ds.length - k)
  rwa [show ds.length - (ds.length - k) = k by omega] at this
theorem DecAt.set {W : World} {b o : Nat} {ds : List Nat} {k j : Nat} {v : Value} (h : DecAt W b o ds) (hne : k ≠ b) : DecAt (W.setCell ⟨k, j, none⟩ v) b o ds :=
  ⟨by simpa using h.lt, fun i hi => by
    rw [World.cell?_setCell_other _ _ _ _ (by intro e; cases e; exact hne rfl)]; exact h.at' i hi⟩
theorem small_mag (d : Nat) (hd : d < B) : magV d = .agg #[.int .u64 (d : Int), .int .u64 0, .int .u64 0, .int .u64 0] := by
  have h0 : wn d 0 = d := by unfold wn; rw [Nat.pow_zero, Nat.div_one, Nat.mod_eq_of_lt hd]
  have h1 : ∀ j, 1 ≤ j → wn d j = 0 := fun j hj => wn_high _ _ (Nat.lt_of_lt_of_le hd (Nat.le_trans (Nat.le_of_eq (Nat.pow_one B).symm) (Nat.pow_le_pow_right B_pos hj)))
  show Value.agg #[q64 (wn d 0), q64 (wn d 1), q64 (wn d 2), q64 (wn d 3)] = _
  rw [h0, h1 1 (by omega), h1 2 (by omega), h1 3 (by omega)]
  rfl
theorem cell_new_any (w : World) (cs : Array Value) (T : TypeId) (fr : Nat × Nat) (i : Nat) : (w.alloc (.cells cs T fr)).cell? ⟨w.heap.size, i, none⟩ = cs[i]? := by
  have h : (w.alloc (.cells cs T fr)).heap[w.heap.size]? = some (.cells cs T fr) := by show (w.heap.push _)[w.heap.size]? = _; rw [Array.getElem?_push_size]
  unfold World.cell?
  rw [h]
  rfl
/-- The bytes of a text, in a new row. -/
theorem conv_dec (bs : ByteArray) (off : Nat) (ds : List Nat) (hz : bs.size = off + ds.length) (hb : ∀ i, i < ds.length → bs.data[off + i]? = some (UInt8.ofNat (48 + ds.getD i 0))) (hd : Decs ds) (w : World) :
    ∃ cap W, (convert 9 137 (.string bs)).run Tryz.prog w = .ok (.slice (some ⟨w.heap.size, 0, none⟩) (off + ds.length) cap) W ∧ Ext w W ∧ DecAt W w.heap.size off ds ∧ (∀ c, 0 < off → bs.data[0]? = some c → W.cell? ⟨w.heap.size, 0, none⟩ = some (.int .u8 (c.toNat : Int))) ∧ W.heap.size = w.heap.size + 1 ∧ off + ds.length ≤ cap := by
  have hcap := grownCap_ge w (off + ds.length) 0 5
  have h := run_bytes_of_string (P := Tryz.prog) w 9 137 5 bs Tryz.underlying9 Tryz.underlying137 Tryz.underlying5
  rw [hz] at h
  generalize grownCap w (off + ds.length) 0 5 = cap at *
  have hs : bs.data.size = off + ds.length := hz
  have hrow : ∀ (i : Nat) (c : UInt8), bs.data[i]? = some c → (bytesRow bs cap)[i]? = some (Value.int .u8 (c.toNat : Int)) := fun i c hc => by
    have hi : i < bs.data.size := by
      rcases Nat.lt_or_ge i bs.data.size with h | h
      · exact h
      · rw [Array.getElem?_eq_none h] at hc; cases hc
    unfold bytesRow
    rw [Array.getElem?_append_left (by simpa using hi), Array.getElem?_map, hc]; rfl
  refine ⟨cap, _, h, Ext.of_below (Below.alloc (Below.drew (Below.refl _ w)) (Nat.le_refl _) _), ⟨by simp [World.alloc], fun i hi => ?_⟩, fun c h0 hc => ?_, by simp [World.alloc], hcap⟩
  · have e := hrow _ _ (hb i hi)
    have hd9 := hd i
    rw [show ((UInt8.ofNat (48 + ds.getD i 0)).toNat : Int) = ((48 + ds.getD i 0 : Nat) : Int) by
      rw [UInt8.toNat_ofNat']; omega] at e
    exact (cell_new_any w.drew _ _ _ _).trans e
  · have e := hrow _ _ hc
    exact (cell_new_any w.drew _ _ _ _).trans e
set_option maxHeartbeats 8000000 in
theorem Parse_pos (bs : ByteArray) (ds : List Nat) (hz : bs.size = ds.length) (hb : ∀ i, i < ds.length → bs.data[i]? = some (UInt8.ofNat (48 + ds.getD i 0))) (hd : Decs ds)
    (hn : 0 < ds.length) (hn2 : ds.length ≤ 1000) (h0 : ds.getD 0 0 ≠ 0 ∨ ds.length = 1) (hv : ofDec ds < B4) (w : World) :
    Calls Tryz.prog 82 #[.string bs] w fun e w' => e = .returned (.tuple #[intV false (ofDec ds), .int .i64 0]) ∧ Ext w w' := by
  have hmf : ∀ (fn : Fn) (first cap : Array Value) (w : World), (Instr.makeFunc fn first cap).run Tryz.prog w = .ok (.func fn first cap) w := fun _ _ _ _ => rfl
  obtain ⟨cap, W, hcv, hxW, HD, _, hsz, _⟩ := conv_dec bs 0 ds (by omega) (fun i hi => by rw [Nat.zero_add]; exact hb i hi) hd ((w.alloc (.cells #[.bool false, .int .u64 0, .int .u64 0, .int .u64 0, .int .u64 0] 25)).alloc (.cells #[.int .i64 0] 37))
  have BO : Blk W w.heap.size #[.bool false, .int .u64 0, .int .u64 0, .int .u64 0, .int .u64 0] 25 := Blk.ext (by repeat (first | (with_reducible assumption) | ((with_reducible refine Blk.new _ _ _ ?_); (simp; done)) | (with_reducible apply Blk.alloc) | (with_reducible apply Blk.grow) | (with_reducible apply Blk.drew) | (with_reducible apply Blk.set10) | (with_reducible apply Blk.set5) | (with_reducible apply Blk.set4) | (with_reducible apply Blk.tail4) | (with_reducible apply Blk.set2) | (with_reducible apply Blk.set1) | ((with_reducible apply Blk.setOther); (case hne => omega)))) hxW
  have BE : Blk W (w.heap.size + 1) #[.int .i64 0] 37 := Blk.ext (by repeat (first | (with_reducible assumption) | ((with_reducible refine Blk.new _ _ _ ?_); (simp; done)) | (with_reducible apply Blk.alloc) | (with_reducible apply Blk.grow) | (with_reducible apply Blk.drew) | (with_reducible apply Blk.set10) | (with_reducible apply Blk.set5) | (with_reducible apply Blk.set4) | (with_reducible apply Blk.tail4) | (with_reducible apply Blk.set2) | (with_reducible apply Blk.set1) | ((with_reducible apply Blk.setOther); (case hne => omega)))) hxW
  have hx : Ext w W := Ext.trans (by repeat (first | (with_reducible exact Ext.refl _) | (with_reducible assumption) | (with_reducible apply Ext.grow) | (with_reducible apply Ext.alloc) | (with_reducible apply Ext.drew) | ((with_reducible apply Ext.set); (case hb => (first | omega | (simp; omega)))))) hxW
  simp only [World.size_alloc, Nat.zero_add] at hcv HD hsz
  have hc0 := HD.at' 0 hn
  have hd0 := hd 0
  have e1 : (48 + ((ds.getD 0 0 : Nat) : Int) == 45) = false := by simp only [beq_eq_false_iff_ne]; omega
  have e2 : ((48 + ((ds.getD 0 0 : Nat) : Int) != 48) = true) ∨ ((48 + ((ds.getD 0 0 : Nat) : Int) != 48) = false ∧ ((ds.length : Int) == 1) = true) := by
    rcases h0 with h | h
    · left; simp only [bne_iff_ne]; omega
    · by_cases h' : ds.getD 0 0 = 0
      · right; rw [h, h']; exact ⟨rfl, rfl⟩
      · left; simp only [bne_iff_ne]; omega
  have CN := fun W h => contains_no (w.heap.size + 1 + 1) 0 cap ds hd (by omega) W h
  have HV := Lib.hid hv
  have HB := Lib.hid hd
  have hne : w.heap.size + 1 + 1 < W.heap.size := HD.lt
  have hn0 : 0 < (ds.length : Int) := by omega
  have hnn : (ds.length : Int) ≤ 1000 := by omega
  clear hb hd hv hz h0 hd0
  generalize hx0 : ds.getD 0 0 = x0 at *
  clear hx0
  have HTT : ∀ (b6 k : Nat), k < ds.length → ∃ p d, p * 10 < B4 ∧ p * 10 + d < B4 ∧ d < 10 ∧ ofDec (ds.take k) = p ∧ ds.getD k 0 = d ∧ ofDec (ds.take (k + 1)) = p * 10 + d := fun b6 k hk => by
    have h1 := ofDec_take ds k hk
    have h2 := ofDec_take_le ds (k + 1) (by omega)
    have h3 := HV.out
    exact ⟨_, _, by omega, by omega, HB.out k, rfl, rfl, h1⟩
  have HT := Lib.hid HTT
  clear HTT HB
  have lBO := BO.lt; have cBO := BO.cell; have fBO := BO.frozen; have lBE := BE.lt; have cBE := BE.cell; have fBE := BE.frozen
  --s2
  go_enter_defers Tryz.func82, Tryz.ntmps82
  rcases e2 with e2 | ⟨e2, e3⟩
  all_goals
    go_wp2_with (first | (go_at_call 98; refine (must_yes _ _).mono ?_; rintro e w' ⟨rfl, rfl⟩) | (go_at_call 112; refine (CN _ HD).mono ?_; rintro e w' ⟨rfl, rfl⟩))
    go_loopw [49] (fun iv wr => ∃ k p : Nat, iv = .int .i64 (k : Int) ∧ k ≤ ds.length ∧ ofDec (ds.take k) = p ∧ Ext w wr ∧ DecAt wr (w.heap.size + 1 + 1) 0 ds ∧
        Blk wr w.heap.size #[.bool false, .int .u64 0, .int .u64 0, .int .u64 0, .int .u64 0] 25 ∧ Blk wr (w.heap.size + 1) #[.int .i64 0] 37 ∧ Blk wr (w.heap.size + 1 + 1 + 1) #[q64 (wn p 0), q64 (wn p 1), q64 (wn p 2), q64 (wn p 3)] 109) (fun q _ => ds.length - (intOf q).toNat)
    case atStart =>
      refine ⟨0, 0, rfl, Nat.zero_le _, rfl, hx.trans (by repeat (first | (with_reducible exact Ext.refl _) | (with_reducible assumption) | (with_reducible apply Ext.grow) | (with_reducible apply Ext.alloc) | (with_reducible apply Ext.drew) | ((with_reducible apply Ext.set); (case hb => (first | omega | (simp; omega)))))), HD.ext (by repeat (first | (with_reducible exact Ext.refl _) | (with_reducible assumption) | (with_reducible apply Ext.grow) | (with_reducible apply Ext.alloc) | (with_reducible apply Ext.drew) | ((with_reducible apply Ext.set); (case hb => (first | omega | (simp; omega)))))), BO.ext (by repeat (first | (with_reducible exact Ext.refl _) | (with_reducible assumption) | (with_reducible apply Ext.grow) | (with_reducible apply Ext.alloc) | (with_reducible apply Ext.drew) | ((with_reducible apply Ext.set); (case hb => (first | omega | (simp; omega)))))), BE.ext (by repeat (first | (with_reducible exact Ext.refl _) | (with_reducible assumption) | (with_reducible apply Ext.grow) | (with_reducible apply Ext.alloc) | (with_reducible apply Ext.drew) | ((with_reducible apply Ext.set); (case hb => (first | omega | (simp; omega)))))), ?_⟩
      rw [wn_zero, wn_zero, wn_zero, wn_zero]
      exact Blk.new _ _ _ hsz.symm
    case round =>
      obtain ⟨k, p, rfl, hk, hp, hxr, HD, BO, BE, B6⟩ := hrel
      by_cases hlt : k < ds.length
      · obtain ⟨p', d, h1, h2, h3, h4, h5, h6⟩ := HT.out 0 k hlt
        obtain rfl : p' = p := h4.symm.trans hp
        have hc := HD.at' k hlt
        rw [h5, Nat.zero_add] at hc
        have ct : ∀ w, Calls Tryz.prog 114 #[magV p', .agg #[.int .u64 10, .int .u64 0, .int .u64 0, .int .u64 0]] w fun e w' => e = .returned (magV (p' * 10)) ∧ Ext w w' := fun w => by
          have := times_yes p' 10 (by omega) (by decide) h1 w
          rw [small_mag 10 (by decide)] at this; exact this
        have cp := plus_yes (p' * 10) d h1 (Nat.lt_of_lt_of_le (by omega : d < 10) (by decide)) h2
        rw [small_mag d (Nat.lt_of_lt_of_le h3 (by decide))] at cp
        have hkd : (k : Int) < (ds.length : Int) := by omega
        have hs1 : IntKind.u8.wrap (d : Int) = d := by rw [IntKind.wrap_u8]; omega
        have hs3 : 48 + (d : Int) - 48 = d := by omega
        have hs2 : IntKind.u64.wrap (d : Int) = d := by rw [IntKind.wrap_u64]; omega
        have HN : Hid (ofDec (ds.take (k + 1)) = p' * 10 + d) := Lib.hid h6
        have hne6 : w.heap.size + 1 + 1 + 1 ≠ w.heap.size + 1 + 1 := by omega
        clear hp h1 h2 h3 h4 h5 h6 HT HV CN
        generalize p' * 10 = p1 at *
        generalize p1 + d = p2 at *
        have lBO := BO.lt; have cBO := BO.cell; have fBO := BO.frozen; have lBE := BE.lt; have cBE := BE.cell; have fBE := BE.frozen; have lB6 := B6.lt; have cB6 := B6.cell; have fB6 := B6.frozen
        go_wp2_with (first
          | (go_at_call 114; (with_reducible refine (ct _).mono ?_); clear ct; rintro e y1 ⟨rfl, hy1⟩; replace B6 := B6.ext hy1; replace BO := BO.ext hy1; replace BE := BE.ext hy1; have hxr := hxr.trans hy1; have lB6 := B6.lt; have cB6 := B6.cell; have fB6 := B6.frozen)
          | (go_at_call 104; (with_reducible refine (cp _).mono ?_); clear cp; rintro e y2 ⟨rfl, hy2⟩; replace B6 := B6.ext hy2; replace BO := BO.ext hy2; replace BE := BE.ext hy2; have hxr := hxr.trans hy2; have lB6 := B6.lt; have cB6 := B6.cell; have fB6 := B6.frozen))
        --s1
        go_roundw
        case rel =>
          have HDy := HD.ext (hy1.trans hy2)
          refine ⟨k + 1, p2, by go_num, by omega, HN.out, (by repeat (first | (with_reducible exact Ext.refl _) | (with_reducible assumption) | (with_reducible apply Ext.grow) | (with_reducible apply Ext.alloc) | (with_reducible apply Ext.drew) | ((with_reducible apply Ext.set); (case hb => (first | omega | (simp; omega)))))), (((HDy.set hne6).set hne6).set hne6).set hne6, (by repeat (first | (with_reducible assumption) | ((with_reducible refine Blk.new _ _ _ ?_); (simp; done)) | (with_reducible apply Blk.alloc) | (with_reducible apply Blk.grow) | (with_reducible apply Blk.drew) | (with_reducible apply Blk.set10) | (with_reducible apply Blk.set5) | (with_reducible apply Blk.set4) | (with_reducible apply Blk.tail4) | (with_reducible apply Blk.set2) | (with_reducible apply Blk.set1) | ((with_reducible apply Blk.setOther); (case hne => omega)))), (by repeat (first | (with_reducible assumption) | ((with_reducible refine Blk.new _ _ _ ?_); (simp; done)) | (with_reducible apply Blk.alloc) | (with_reducible apply Blk.grow) | (with_reducible apply Blk.drew) | (with_reducible apply Blk.set10) | (with_reducible apply Blk.set5) | (with_reducible apply Blk.set4) | (with_reducible apply Blk.tail4) | (with_reducible apply Blk.set2) | (with_reducible apply Blk.set1) | ((with_reducible apply Blk.setOther); (case hne => omega)))), (by repeat (first | (with_reducible assumption) | ((with_reducible refine Blk.new _ _ _ ?_); (simp; done)) | (with_reducible apply Blk.alloc) | (with_reducible apply Blk.grow) | (with_reducible apply Blk.drew) | (with_reducible apply Blk.set10) | (with_reducible apply Blk.set5) | (with_reducible apply Blk.set4) | (with_reducible apply Blk.tail4) | (with_reducible apply Blk.set2) | (with_reducible apply Blk.set1) | ((with_reducible apply Blk.setOther); (case hne => omega))))⟩
        case measure => simp [intOf]; omega
      · obtain rfl : k = ds.length := by omega
        rw [List.take_length] at hp
        have hp4 : p < B4 := by rw [← hp]; exact HV.out
        have co : ∀ w, Calls Tryz.prog 79 #[.bool false, magV p] w fun e w' => e = .returned (intV false p) ∧ Ext w w' := of_any false p hp4
        have HP := Lib.hid hp
        have hnlt : ¬ (ds.length : Int) < (ds.length : Int) := by omega
        clear hp HT HV CN hlt
        have lBO := BO.lt; have cBO := BO.cell; have fBO := BO.frozen; have lBE := BE.lt; have cBE := BE.cell; have fBE := BE.frozen; have lB6 := B6.lt; have cB6 := B6.cell; have fB6 := B6.frozen
        go_wp2_with (go_at_call 79; (with_reducible refine (co _).mono ?_); clear co; rintro e y1 ⟨rfl, hy1⟩; have BO := BO.ext hy1; have BE := BE.ext hy1; have hx1 := hxr.trans hy1; have lBO := BO.lt; have cBO := BO.cell; have fBO := BO.frozen; have lBE := BE.lt; have cBE := BE.cell; have fBE := BE.frozen)
        refine leaves_limb (.tuple #[intV false p, .int .i64 0]) (by simp [results, Tryz.results82, go_sem, lBO, lBE, cBO, cBE]) ⟨by rw [HP.out], ?_⟩
        exact (by repeat (first | (with_reducible exact Ext.refl _) | (with_reducible assumption) | (with_reducible apply Ext.grow) | (with_reducible apply Ext.alloc) | (with_reducible apply Ext.drew) | ((with_reducible apply Ext.set); (case hb => (first | omega | (simp; omega))))))
end Go.Proofs.YtjkchmegnfbfoaaGreatDoor

namespace Go.Proofs.YtjkchmegnfbfoaaGreatDoor
open Go Go.RowKit
set_option linter.unusedSimpArgs false
set_option linter.unusedVariables false
set_option maxRecDepth 100000

set_option maxHeartbeats 8000000 in
theorem Parse_neg (bs : ByteArray) (ds : List Nat) (hz : bs.size = 1 + ds.length) (hm : bs.data[0]? = some 45) (hb : ∀ i, i < ds.length → bs.data[1 + i]? = some (UInt8.ofNat (48 + ds.getD i 0))) (hd : Decs ds)
    (hn : 0 < ds.length) (hn2 : ds.length ≤ 1000) (h0 : ds.getD 0 0 ≠ 0) (hp0 : ofDec ds ≠ 0) (hv : ofDec ds < B4) (w : World) :
    Calls Tryz.prog 82 #[.string bs] w fun e w' => e = .returned (.tuple #[intV true (ofDec ds), .int .i64 0]) ∧ Ext w w' := by
  have hmf : ∀ (fn : Fn) (first cap : Array Value) (w : World), (Instr.makeFunc fn first cap).run Tryz.prog w = .ok (.func fn first cap) w := fun _ _ _ _ => rfl
  obtain ⟨cap, W, hcv, hxW, HD, hc45, hsz, hcap⟩ := conv_dec bs 1 ds hz hb hd ((w.alloc (.cells #[.bool false, .int .u64 0, .int .u64 0, .int .u64 0, .int .u64 0] 25)).alloc (.cells #[.int .i64 0] 37))
  have BO : Blk W w.heap.size #[.bool false, .int .u64 0, .int .u64 0, .int .u64 0, .int .u64 0] 25 := Blk.ext (by repeat (first | (with_reducible assumption) | ((with_reducible refine Blk.new _ _ _ ?_); (simp; done)) | (with_reducible apply Blk.alloc) | (with_reducible apply Blk.grow) | (with_reducible apply Blk.drew) | (with_reducible apply Blk.set10) | (with_reducible apply Blk.set5) | (with_reducible apply Blk.set4) | (with_reducible apply Blk.tail4) | (with_reducible apply Blk.set2) | (with_reducible apply Blk.set1) | ((with_reducible apply Blk.setOther); (case hne => omega)))) hxW
  have BE : Blk W (w.heap.size + 1) #[.int .i64 0] 37 := Blk.ext (by repeat (first | (with_reducible assumption) | ((with_reducible refine Blk.new _ _ _ ?_); (simp; done)) | (with_reducible apply Blk.alloc) | (with_reducible apply Blk.grow) | (with_reducible apply Blk.drew) | (with_reducible apply Blk.set10) | (with_reducible apply Blk.set5) | (with_reducible apply Blk.set4) | (with_reducible apply Blk.tail4) | (with_reducible apply Blk.set2) | (with_reducible apply Blk.set1) | ((with_reducible apply Blk.setOther); (case hne => omega)))) hxW
  have hx : Ext w W := Ext.trans (by repeat (first | (with_reducible exact Ext.refl _) | (with_reducible assumption) | (with_reducible apply Ext.grow) | (with_reducible apply Ext.alloc) | (with_reducible apply Ext.drew) | ((with_reducible apply Ext.set); (case hb => (first | omega | (simp; omega)))))) hxW
  simp only [World.size_alloc] at hcv HD hsz hc45
  have hc45 : W.cell? ⟨w.heap.size + 1 + 1, 0, none⟩ = some (.int .u8 45) := hc45 45 (by decide) hm
  obtain ⟨cp, rfl⟩ : ∃ cp, cap = 1 + cp := ⟨cap - 1, by omega⟩
  have hcp : ds.length ≤ cp := by omega
  have hc0 := HD.at' 0 hn
  have hd0 := hd 0
  have e2 : (48 + ((ds.getD 0 0 : Nat) : Int) != 48) = true := by simp only [bne_iff_ne]; omega
  have CN := fun W h => contains_no (w.heap.size + 1 + 1) 1 cp ds hd (by omega) W h
  have HV := Lib.hid hv
  have HZ := Lib.hid hp0
  clear hp0
  have HB := Lib.hid hd
  have hne : w.heap.size + 1 + 1 < W.heap.size := HD.lt
  have hn0 : 0 < (ds.length : Int) := by omega
  have hnn : (ds.length : Int) ≤ 1000 := by omega
  clear hb hd hv hz h0 hd0 hm hcap
  generalize hx0 : ds.getD 0 0 = x0 at *
  clear hx0
  have HTT : ∀ (b6 k : Nat), k < ds.length → ∃ p d, p * 10 < B4 ∧ p * 10 + d < B4 ∧ d < 10 ∧ ofDec (ds.take k) = p ∧ ds.getD k 0 = d ∧ ofDec (ds.take (k + 1)) = p * 10 + d := fun b6 k hk => by
    have h1 := ofDec_take ds k hk
    have h2 := ofDec_take_le ds (k + 1) (by omega)
    have h3 := HV.out
    exact ⟨_, _, by omega, by omega, HB.out k, rfl, rfl, h1⟩
  have HT := Lib.hid HTT
  clear HTT HB
  have lBO := BO.lt; have cBO := BO.cell; have fBO := BO.frozen; have lBE := BE.lt; have cBE := BE.cell; have fBE := BE.frozen
  --s2
  go_enter_defers Tryz.func82, Tryz.ntmps82
  all_goals
    go_wp2_with (first | (go_at_call 98; refine (must_yes _ _).mono ?_; rintro e w' ⟨rfl, rfl⟩) | (go_at_call 112; refine (CN _ HD).mono ?_; rintro e w' ⟨rfl, rfl⟩))
    go_loopw [49] (fun iv wr => ∃ k p : Nat, iv = .int .i64 (k : Int) ∧ k ≤ ds.length ∧ ofDec (ds.take k) = p ∧ Ext w wr ∧ DecAt wr (w.heap.size + 1 + 1) 1 ds ∧
        Blk wr w.heap.size #[.bool false, .int .u64 0, .int .u64 0, .int .u64 0, .int .u64 0] 25 ∧ Blk wr (w.heap.size + 1) #[.int .i64 0] 37 ∧ Blk wr (w.heap.size + 1 + 1 + 1) #[q64 (wn p 0), q64 (wn p 1), q64 (wn p 2), q64 (wn p 3)] 109) (fun q _ => ds.length - (intOf q).toNat)
    case atStart =>
      refine ⟨0, 0, rfl, Nat.zero_le _, rfl, hx.trans (by repeat (first | (with_reducible exact Ext.refl _) | (with_reducible assumption) | (with_reducible apply Ext.grow) | (with_reducible apply Ext.alloc) | (with_reducible apply Ext.drew) | ((with_reducible apply Ext.set); (case hb => (first | omega | (simp; omega)))))), HD.ext (by repeat (first | (with_reducible exact Ext.refl _) | (with_reducible assumption) | (with_reducible apply Ext.grow) | (with_reducible apply Ext.alloc) | (with_reducible apply Ext.drew) | ((with_reducible apply Ext.set); (case hb => (first | omega | (simp; omega)))))), BO.ext (by repeat (first | (with_reducible exact Ext.refl _) | (with_reducible assumption) | (with_reducible apply Ext.grow) | (with_reducible apply Ext.alloc) | (with_reducible apply Ext.drew) | ((with_reducible apply Ext.set); (case hb => (first | omega | (simp; omega)))))), BE.ext (by repeat (first | (with_reducible exact Ext.refl _) | (with_reducible assumption) | (with_reducible apply Ext.grow) | (with_reducible apply Ext.alloc) | (with_reducible apply Ext.drew) | ((with_reducible apply Ext.set); (case hb => (first | omega | (simp; omega)))))), ?_⟩
      rw [wn_zero, wn_zero, wn_zero, wn_zero]
      exact Blk.new _ _ _ hsz.symm
    case round =>
      obtain ⟨k, p, rfl, hk, hp, hxr, HD, BO, BE, B6⟩ := hrel
      by_cases hlt : k < ds.length
      · obtain ⟨p', d, h1, h2, h3, h4, h5, h6⟩ := HT.out 0 k hlt
        obtain rfl : p' = p := h4.symm.trans hp
        have hc := HD.at' k hlt
        rw [h5] at hc
        have ct : ∀ w, Calls Tryz.prog 114 #[magV p', .agg #[.int .u64 10, .int .u64 0, .int .u64 0, .int .u64 0]] w fun e w' => e = .returned (magV (p' * 10)) ∧ Ext w w' := fun w => by
          have := times_yes p' 10 (by omega) (by decide) h1 w
          rw [small_mag 10 (by decide)] at this; exact this
        have cp := plus_yes (p' * 10) d h1 (Nat.lt_of_lt_of_le (by omega : d < 10) (by decide)) h2
        rw [small_mag d (Nat.lt_of_lt_of_le h3 (by decide))] at cp
        have hkd : (k : Int) < (ds.length : Int) := by omega
        have hs1 : IntKind.u8.wrap (d : Int) = d := by rw [IntKind.wrap_u8]; omega
        have hs3 : 48 + (d : Int) - 48 = d := by omega
        have hs2 : IntKind.u64.wrap (d : Int) = d := by rw [IntKind.wrap_u64]; omega
        have HN : Hid (ofDec (ds.take (k + 1)) = p' * 10 + d) := Lib.hid h6
        have hne6 : w.heap.size + 1 + 1 + 1 ≠ w.heap.size + 1 + 1 := by omega
        clear hp h1 h2 h3 h4 h5 h6 HT HV CN
        generalize p' * 10 = p1 at *
        generalize p1 + d = p2 at *
        have lBO := BO.lt; have cBO := BO.cell; have fBO := BO.frozen; have lBE := BE.lt; have cBE := BE.cell; have fBE := BE.frozen; have lB6 := B6.lt; have cB6 := B6.cell; have fB6 := B6.frozen
        go_wp2_with (first
          | (go_at_call 114; (with_reducible refine (ct _).mono ?_); clear ct; rintro e y1 ⟨rfl, hy1⟩; replace B6 := B6.ext hy1; replace BO := BO.ext hy1; replace BE := BE.ext hy1; have hxr := hxr.trans hy1; have lB6 := B6.lt; have cB6 := B6.cell; have fB6 := B6.frozen)
          | (go_at_call 104; (with_reducible refine (cp _).mono ?_); clear cp; rintro e y2 ⟨rfl, hy2⟩; replace B6 := B6.ext hy2; replace BO := BO.ext hy2; replace BE := BE.ext hy2; have hxr := hxr.trans hy2; have lB6 := B6.lt; have cB6 := B6.cell; have fB6 := B6.frozen))
        --s1
        go_roundw
        case rel =>
          have HDy := HD.ext (hy1.trans hy2)
          refine ⟨k + 1, p2, by go_num, by omega, HN.out, (by repeat (first | (with_reducible exact Ext.refl _) | (with_reducible assumption) | (with_reducible apply Ext.grow) | (with_reducible apply Ext.alloc) | (with_reducible apply Ext.drew) | ((with_reducible apply Ext.set); (case hb => (first | omega | (simp; omega)))))), (((HDy.set hne6).set hne6).set hne6).set hne6, (by repeat (first | (with_reducible assumption) | ((with_reducible refine Blk.new _ _ _ ?_); (simp; done)) | (with_reducible apply Blk.alloc) | (with_reducible apply Blk.grow) | (with_reducible apply Blk.drew) | (with_reducible apply Blk.set10) | (with_reducible apply Blk.set5) | (with_reducible apply Blk.set4) | (with_reducible apply Blk.tail4) | (with_reducible apply Blk.set2) | (with_reducible apply Blk.set1) | ((with_reducible apply Blk.setOther); (case hne => omega)))), (by repeat (first | (with_reducible assumption) | ((with_reducible refine Blk.new _ _ _ ?_); (simp; done)) | (with_reducible apply Blk.alloc) | (with_reducible apply Blk.grow) | (with_reducible apply Blk.drew) | (with_reducible apply Blk.set10) | (with_reducible apply Blk.set5) | (with_reducible apply Blk.set4) | (with_reducible apply Blk.tail4) | (with_reducible apply Blk.set2) | (with_reducible apply Blk.set1) | ((with_reducible apply Blk.setOther); (case hne => omega)))), (by repeat (first | (with_reducible assumption) | ((with_reducible refine Blk.new _ _ _ ?_); (simp; done)) | (with_reducible apply Blk.alloc) | (with_reducible apply Blk.grow) | (with_reducible apply Blk.drew) | (with_reducible apply Blk.set10) | (with_reducible apply Blk.set5) | (with_reducible apply Blk.set4) | (with_reducible apply Blk.tail4) | (with_reducible apply Blk.set2) | (with_reducible apply Blk.set1) | ((with_reducible apply Blk.setOther); (case hne => omega))))⟩
        case measure => simp [intOf]; omega
      · obtain rfl : k = ds.length := by omega
        rw [List.take_length] at hp
        have hp4 : p < B4 := by rw [← hp]; exact HV.out
        have co : ∀ w, Calls Tryz.prog 79 #[.bool true, magV p] w fun e w' => e = .returned (intV true p) ∧ Ext w w' := by
          have := of_any true p hp4
          rwa [show (true && !decide (p = 0)) = true by have : p ≠ 0 := by rw [← hp]; exact HZ.out
                                                        simp [this]] at this
        have HP := Lib.hid hp
        have hnlt : ¬ (ds.length : Int) < (ds.length : Int) := by omega
        clear hp HT HV CN hlt
        have lBO := BO.lt; have cBO := BO.cell; have fBO := BO.frozen; have lBE := BE.lt; have cBE := BE.cell; have fBE := BE.frozen; have lB6 := B6.lt; have cB6 := B6.cell; have fB6 := B6.frozen
        go_wp2_with (go_at_call 79; (with_reducible refine (co _).mono ?_); clear co; rintro e y1 ⟨rfl, hy1⟩; have BO := BO.ext hy1; have BE := BE.ext hy1; have hx1 := hxr.trans hy1; have lBO := BO.lt; have cBO := BO.cell; have fBO := BO.frozen; have lBE := BE.lt; have cBE := BE.cell; have fBE := BE.frozen)
        refine leaves_limb (.tuple #[intV true p, .int .i64 0]) (by simp [results, Tryz.results82, go_sem, lBO, lBE, cBO, cBE]) ⟨by rw [HP.out], ?_⟩
        exact (by repeat (first | (with_reducible exact Ext.refl _) | (with_reducible assumption) | (with_reducible apply Ext.grow) | (with_reducible apply Ext.alloc) | (with_reducible apply Ext.drew) | ((with_reducible apply Ext.set); (case hb => (first | omega | (simp; omega))))))
end Go.Proofs.YtjkchmegnfbfoaaGreatDoor

namespace Go.Proofs.YtjkchmegnfbfoaaGreatDoor
open Go Go.RowKit
set_option linter.unusedSimpArgs false
set_option linter.unusedVariables false
set_option maxRecDepth 100000

theorem scut_at (s : ByteArray) (i : Nat) (hi : i < s.size) (hs : s.size < 1000000) (hx : Lib.indexByte s.data.toList 47 = (i : Int)) (w : World) :
    Calls Tryz.prog 127 #[.string s, .string ⟨#[47]⟩] w fun e w' => e = .returned (.tuple #[.string (s.extract 0 i), .string (s.extract (i + 1) s.size), .bool true]) ∧ Ext w w' := by
  have hc := fun w => Tryz.stringslite_Index_one s 47 w
  rw [hx] at hc
  have h1 : decide ((i : Int) ≥ 0) = true := by simp
  have hii : (i : Int) < s.size := by omega
  have hi1 : (i : Int) + 1 ≤ s.size := by omega
  have hw1 : IntKind.i64.wrap ((i : Int) + 1) = (i : Int) + 1 := by rw [IntKind.wrap_i64]; omega
  have hw2 : ((i : Int) + 1).toNat = i + 1 := by omega
  have hw3 : 0 ≤ (i : Int) + 1 := by omega
  have hi2 : i ≤ s.size := by omega
  have hi3 : i + 1 ≤ s.size := by omega
  go_enter Tryz.func127, Tryz.ntmps127
  go_wp2_with (go_at_call 135; refine (hc _).mono ?_; rintro e w' ⟨rfl, rfl⟩)
  --s1
  (first | refine wp_region_k' [.p, .p, .p, .p, .p, .p, .r, .p, .p, .p, .p, .p] (by kernel_rfl) (by kernel_rfl) ?_ | refine wp_region_k [.p, .p, .p, .p, .p, .p, .r, .p, .p, .p, .p, .p] (by kernel_rfl) (by kernel_rfl) ?_); (repeat (first | (refine wpK_p rfl (fun K hK => ?_); go_simp; refine hK _ _ ?_; clear hK K) | (refine wpK_r rfl (fun K hK => ?_); go_simp; refine hK _ _ ?_; clear hK K) | (refine wpK_w rfl (fun K hK => ?_); go_simp; refine hK _ _ ?_; clear hK K) | (refine wpK_r rfl (fun K hK => ?_); go_simp; apply Exists.intro; refine ⟨fun d => ?_, hK _ _ ?_⟩; (fail); clear hK K))); refine wpK_nil ?_; intro d
  --s2
  go_wp2
  exact bodyPost_ret (v := .tuple #[.string (s.extract 0 i), .string (s.extract (i + 1) s.size), .bool true]) (by simp [results, Tryz.results127, go_sem]) rfl ⟨rfl, (by repeat (first | (with_reducible exact Ext.refl _) | (with_reducible assumption) | (with_reducible apply Ext.grow) | (with_reducible apply Ext.alloc) | (with_reducible apply Ext.drew) | ((with_reducible apply Ext.set); (case hb => (first | omega | (simp; omega))))))⟩
theorem cCut_at (s : ByteArray) (i : Nat) (hi : i < s.size) (hs : s.size < 1000000) (hx : Lib.indexByte s.data.toList 47 = (i : Int)) (w : World) :
    Calls Tryz.prog 110 #[.string s, .string ⟨#[47]⟩] w fun e w' => e = .returned (.tuple #[.string (s.extract 0 i), .string (s.extract (i + 1) s.size), .bool true]) ∧ Ext w w' := by
  have hc := scut_at s i hi hs hx
  go_enter Tryz.func110, Tryz.ntmps110
  go_wp2_with (go_at_call 127; refine (hc _).mono ?_; rintro e w' ⟨rfl, d, rfl⟩)
  exact bodyPost_ret (v := .tuple #[.string (s.extract 0 i), .string (s.extract (i + 1) s.size), .bool true]) (by simp [results, Tryz.results110, go_sem]) rfl ⟨rfl, (by repeat (first | (with_reducible exact Ext.refl _) | (with_reducible assumption) | (with_reducible apply Ext.grow) | (with_reducible apply Ext.alloc) | (with_reducible apply Ext.drew) | ((with_reducible apply Ext.set); (case hb => (first | omega | (simp; omega))))))⟩
end Go.Proofs.YtjkchmegnfbfoaaGreatDoor

namespace Go.Proofs.YtjkchmegnfbfoaaGreatDoor
open Go Go.RowKit Go.Shelf
set_option linter.unusedSimpArgs false
set_option linter.unusedVariables false
set_option maxRecDepth 100000
attribute [local go_sem] Oper.semAt_some

theorem wpIn_rebase {F : Fence} {n : Nat} {P : Program} {c : Code} {Q : Exit → Act → World → Prop} {a : Act} {W : World} (h : ∀ v, v = W → c.wpIn F n P Q a v) : c.wpIn F n P Q a W := h W rfl
/-- What lies in l when those of pre have been. -/
def two (sa : Bool) (ma mb : Nat) (pre : List (Fin 2)) : Array Value :=
  (if (0 : Fin 2) ∈ pre then ints1 sa ma else #[.bool false, .int .u64 0, .int .u64 0, .int .u64 0, .int .u64 0]) ++ (if (1 : Fin 2) ∈ pre then ints1 false mb else ints1 false 1)
theorem two_lit (sa : Bool) (ma mb : Nat) (pre : List (Fin 2)) : ∃ c0 c1 c2 c3 c4 d0 d1 d2 d3 d4 : Value, two sa ma mb pre = #[c0, c1, c2, c3, c4, d0, d1, d2, d3, d4] ∧
    two sa ma mb (pre ++ [0]) = #[.bool sa, q64 (wn ma 0), q64 (wn ma 1), q64 (wn ma 2), q64 (wn ma 3), d0, d1, d2, d3, d4] ∧ two sa ma mb (pre ++ [1]) = #[c0, c1, c2, c3, c4, .bool false, q64 (wn mb 0), q64 (wn mb 1), q64 (wn mb 2), q64 (wn mb 3)] := by
  have e0 : (0 : Fin 2) ∈ pre ++ [0] := by simp
  have e1 : (1 : Fin 2) ∈ pre ++ [1] := by simp
  have e2 : (1 : Fin 2) ∈ pre ++ [0] ↔ (1 : Fin 2) ∈ pre := by simp
  have e3 : (0 : Fin 2) ∈ pre ++ [1] ↔ (0 : Fin 2) ∈ pre := by simp
  unfold two
  by_cases h0 : (0 : Fin 2) ∈ pre <;> by_cases h1 : (1 : Fin 2) ∈ pre <;> simp only [e0, e1, e2, e3, h0, h1, if_true, if_false] <;>
    exact ⟨_, _, _, _, _, _, _, _, _, _, rfl, rfl, rfl⟩
abbrev zR : Array Value := #[.bool false, .int .u64 0, .int .u64 0, .int .u64 0, .int .u64 0, .bool false, .int .u64 0, .int .u64 0, .int .u64 0, .int .u64 0]
theorem own_blk {β : Type} (b : Nat) (cs : β → Array Value) (T : TypeId) : Own (fun (s : β) W => Blk W b (cs s) T) := fun s W W' row h hg hr => by
  refine h.grown hg ?_
  intro e
  obtain ⟨o, ho, hc⟩ := hr b e.symm
  unfold Blk at h
  rw [h] at ho; cases ho; simp [Obj.isCells] at hc
theorem bpM_rebase {F : Fence} {n : Nat} {P : Program} {f : Func} {R : Ending → World → Prop} {e : Exit} {a : Act} {W : World} (h : ∀ v, v = W → bodyPostM F n P f R e a v) : bodyPostM F n P f R e a W := h W rfl
theorem keeps_ext {B : Nat} {W W' : World} (h : Ext W W') : KeepsFrom B W W' := .of_grownBy h.grownBy (fun j e => by cases e)
theorem keepsGrow {B : Nat} {W W' : World} {d : Gr} (h : KeepsFrom B W W') : KeepsFrom B W (grow W' d) := h.trans (keeps_ext ⟨d, rfl⟩)
theorem keepsCell {B b o : Nat} {v : Value} {W W' : World} (h : KeepsFrom B W W') (hb : b < B) : KeepsFrom B W (W'.setCell ⟨b, o, none⟩ v) :=
  ⟨by simpa using h.size, fun k x hB hk hx => (Below.heap_setCell W' ⟨b, o, none⟩ v k (by show k ≠ b; omega)).trans (h.same k x hB hk hx)⟩
theorem belowGrow {n : Nat} {W W' : World} {d : Gr} (h : Below n W W') (hn : n ≤ W'.heap.size) : Below n W (grow W' d) := h.trans ((show Ext W' (grow W' d) from ⟨d, rfl⟩).below.mono hn)
theorem belowCell {n b o : Nat} {v : Value} {W W' : World} (h : Below n W W') (hb : n ≤ b) : Below n W (W'.setCell ⟨b, o, none⟩ v) := h.setCell (p := ⟨b, o, none⟩) hb v
set_option maxHeartbeats 8000000 in
theorem rParse_in (n : Nat) (hn : 3 ≤ n) (s a b : ByteArray) (hcut : ∀ w, Calls Tryz.prog 110 #[.string s, .string ⟨#[47]⟩] w fun e w' => e = .returned (.tuple #[.string a, .string b, .bool true]) ∧ Ext w w')
    (sa : Bool) (ma mb : Nat) (ha : ma < B4) (hb : mb < B4)
    (ca : ∀ w, Calls Tryz.prog 82 #[.string a] w fun e w' => e = .returned (.tuple #[intV sa ma, .int .i64 0]) ∧ Ext w w')
    (cb : ∀ w, Calls Tryz.prog 82 #[.string b] w fun e w' => e = .returned (.tuple #[intV false mb, .int .i64 0]) ∧ Ext w w')
    (h48 : (b.toList == [48]) = false) (h49 : (b.toList == [49]) = false) (ch : ∀ w, Calls Tryz.prog 83 #[.string b, .string ⟨#[45]⟩] w fun e w' => e = .returned (.bool false) ∧ w' = w)
    (rv : Value) (re : Int) (hres : (okR sa ma false mb = true ∧ rv = ratV sa ma false mb ∧ re = 0) ∨ (okR sa ma false mb = false ∧ rv = qZ ∧ re = 120)) (w : World) :
    CallsIn Fence.wide n Tryz.prog 40 #[.string s] w fun e w' => e = .returned (.tuple #[rv, .int .i64 re]) ∧ Below w.heap.size w w' := by
  refine callsIn_of_wp_marks Tryz.func40 rfl trivial ?_ rfl
  simp only [Tryz.ntmps40, List.size_toArray, List.length_cons, List.length_nil, Nat.reduceAdd, Nat.reduceSub, Array.replicate_succ, Array.replicate_zero, List.push_toArray, List.append_toArray, List.nil_append, List.cons_append]
  gi_wp2_with (first
    | (refine ⟨trivial, (fun _ => by omega), ?_⟩; gi_at_call 52; refine (callsIn_wide.2 (one_any _)).mono ?_; rintro e w' ⟨rfl, d, rfl⟩)
    | (refine ⟨trivial, (fun _ => by omega), ?_⟩; gi_at_call 81; refine (parts_in (n - 1) _ _).mono ?_; rintro e w' ⟨rfl, rfl⟩))
  refine wpIn_rebase fun v hv => ?_
  have hx : Ext w v := by rw [hv]; exact (by repeat (first | (with_reducible exact Ext.refl _) | (with_reducible assumption) | (with_reducible apply Ext.grow) | (with_reducible apply Ext.alloc) | (with_reducible apply Ext.drew) | ((with_reducible apply Ext.set); (case hb => (first | omega | (simp; omega))))))
  have B2 : Blk v w.heap.size zR 27 := by rw [hv]; exact (by repeat (first | (with_reducible assumption) | ((with_reducible refine Blk.new _ _ _ ?_); (simp; done)) | (with_reducible apply Blk.alloc) | (with_reducible apply Blk.grow) | (with_reducible apply Blk.drew) | (with_reducible apply Blk.set10) | (with_reducible apply Blk.set5) | (with_reducible apply Blk.set4) | (with_reducible apply Blk.tail4) | (with_reducible apply Blk.set2) | (with_reducible apply Blk.set1) | ((with_reducible apply Blk.setOther); (case hne => omega))))
  have B3 : Blk v (w.heap.size + 1) #[.int .i64 0] 37 := by rw [hv]; exact (by repeat (first | (with_reducible assumption) | ((with_reducible refine Blk.new _ _ _ ?_); (simp; done)) | (with_reducible apply Blk.alloc) | (with_reducible apply Blk.grow) | (with_reducible apply Blk.drew) | (with_reducible apply Blk.set10) | (with_reducible apply Blk.set5) | (with_reducible apply Blk.set4) | (with_reducible apply Blk.tail4) | (with_reducible apply Blk.set2) | (with_reducible apply Blk.set1) | ((with_reducible apply Blk.setOther); (case hne => omega))))
  have hl : w.heap.size + 1 < w.heap.size + 1 + 1 + d.obs.size := by omega
  have BL : Blk v (w.heap.size + 1 + 1 + d.obs.size) (two sa ma mb []) 112 := by rw [hv]; apply Blk.alloc; apply Blk.alloc; exact Blk.new _ _ _ (by simp)
  have BV : Blk v (w.heap.size + 1 + 1 + d.obs.size + 1) #[.bool false] 4 := by rw [hv]; apply Blk.alloc; exact Blk.new _ _ _ (by simp)
  have BS : Blk v (w.heap.size + 1 + 1 + d.obs.size + 1 + 1) #[.string s] 9 := by rw [hv]; exact Blk.new _ _ _ (by simp)
  clear hv
  generalize w.heap.size + 1 + 1 + d.obs.size = b4 at *
  have hst := parts_stops (n - 1) (by omega) (b4 + 1 + 1) w.heap.size s a b true hcut v (BS.cell 0) BS.lt
  have hB0 : Below w.heap.size w v := hx.below
  refine wpIn_rangeFunc_ownG rfl (by omega) (gf := 109) (lb := #[.pointer (some ⟨b4 + 1 + 1, 0, none⟩)]) rfl trivial (enters_of Tryz.func109 (by kernel_rfl) rfl)
    hst belowK_t (belowK_b (by have := BS.lt; omega)) (Below.refl _ _) (fun _ => rfl)
    (fun pre W => (Blk W b4 (two sa ma mb pre) 112 ∧ Blk W (b4 + 1) #[.bool false] 4 ∧ Blk W w.heap.size zR 27 ∧ Blk W (w.heap.size + 1) #[.int .i64 0] 37) ∧ Below w.heap.size w W)
    (fun c pre W => False)
    (OwnFrom.and (OwnFrom.and ((own_blk _ _ _).from _) (OwnFrom.and ((own_blk _ (fun _ => _) _).from _) (OwnFrom.and ((own_blk _ (fun _ => _) _).from _) ((own_blk _ (fun _ => _) _).from _)))) (ownFrom_below (Nat.le_refl _) (by have := BS.lt; omega)))
    (fun c => fun s W W' row hs => hs.elim)
    ⟨⟨BL, BV, B2, B3⟩, hB0⟩
    (fun x => { tmps := #[.string s, undef, .pointer (some ⟨w.heap.size, 0, none⟩), .pointer (some ⟨w.heap.size + 1, 0, none⟩), .pointer (some ⟨b4, 0, none⟩), .pointer (some ⟨b4 + 1, 0, none⟩), .int .i64 (x.1 : Int), prt a b x.1, undef, .agg #[.bool false, .int .u64 0, .int .u64 0, .int .u64 0, .int .u64 0], intV false 1, .agg #[.bool false, .int .u64 0, .int .u64 0, .int .u64 0, .int .u64 0, .bool false, q64 (wn 1 0), q64 (wn 1 1), q64 (wn 1 2), q64 (wn 1 3)], .string s, .func (.func 109) #[] #[.pointer (some ⟨b4 + 1 + 1, 0, none⟩)], .int .i64 (x.1 : Int), prt a b x.1, undef, undef, undef, undef, undef, undef, undef, undef, undef, undef, undef, undef, undef, undef, undef, undef, undef, undef, undef, undef, undef, undef, undef, undef, undef, undef, undef, undef, undef, undef, undef, undef, undef, undef, undef, undef, undef, undef, undef, undef, undef, undef, undef], defers := [] }) ?assign ?body ?done ?stop
  case assign =>
    intro l x W K hK
    gi_wp2
    exact hK
  case stop =>
    rintro D c pre W hD _ h _
    exact h.elim
  case body =>
    rintro l pre x W ⟨⟨BL, BV, B2, B3⟩, hB⟩ _
    have hx2 : x = 0 ∨ x = 1 := by omega
    obtain ⟨c0, c1, c2, c3, c4, d0, d1, d2, d3, d4, t1, t2, t3⟩ := two_lit sa ma mb pre
    rw [t1] at BL
    have lBL := BL.lt; have cBL := BL.cell; have fBL := BL.frozen; have lBV := BV.lt; have cBV := BV.cell; have fBV := BV.frozen; have lB2 := B2.lt; have cB2 := B2.cell; have fB2 := B2.frozen; have lB3 := B3.lt; have cB3 := B3.cell; have fB3 := B3.frozen
    rcases hx2 with rfl | rfl
    · gi_wp2_with (refine ⟨trivial, (fun _ => by omega), ?_⟩; gi_at_call 82; refine (CallsIn.inRound l (callsIn_wide.2 (ca _))).mono ?_; rintro e w' ⟨rfl, hx⟩; have BL' := BL.ext hx; have BV' := BV.ext hx; have lBL' := BL'.lt; have cBL' := BL'.cell; have fBL' := BL'.frozen; have lBV' := BV'.lt; have cBV' := BV'.cell; have fBV' := BV'.frozen)
      refine ⟨trivial, ?_⟩
      gi_wp2
      --s1
      have lS := BS.lt
      have l4 : b4 < v.heap.size := by omega
      have l5 : b4 + 1 < v.heap.size := by omega
      have g4 : w.heap.size ≤ b4 := by omega
      have g5 : w.heap.size ≤ b4 + 1 := by omega
      have hbW : Below w.heap.size W w' := hx.below.mono hB.size
      have B2' := B2.ext hx
      have B3' := B3.ext hx
      refine ⟨keepsCell (keepsCell (keepsCell (keepsCell (keepsCell (keepsCell (keeps_ext hx) l4) l4) l4) l4) l4) l5, belowCell (belowCell (belowCell (belowCell (belowCell (belowCell (hbW) g4) g4) g4) g4) g4) g5, ⟨?_, ?_, ?_, ?_⟩, belowCell (belowCell (belowCell (belowCell (belowCell (belowCell (hB.trans hbW) g4) g4) g4) g4) g4) g5⟩
      · rw [t2]; exact ((((((BL'.setSame (o := 0)).setSame (o := 1)).setSame (o := 2)).setSame (o := 3)).setSame (o := 4)).setOther (by omega))
      · exact ((((((BV'.setOther (by omega)).setOther (by omega)).setOther (by omega)).setOther (by omega)).setOther (by omega)).setSame (o := 0))
      · exact ((((((B2'.setOther (by omega)).setOther (by omega)).setOther (by omega)).setOther (by omega)).setOther (by omega)).setOther (by omega))
      · exact ((((((B3'.setOther (by omega)).setOther (by omega)).setOther (by omega)).setOther (by omega)).setOther (by omega)).setOther (by omega))
    · gi_wp2_with (first | (refine ⟨trivial, (fun _ => by omega), ?_⟩; gi_at_call 82; refine (CallsIn.inRound l (callsIn_wide.2 (cb _))).mono ?_; rintro e w' ⟨rfl, hx⟩; have BL' := BL.ext hx; have BV' := BV.ext hx; have lBL' := BL'.lt; have cBL' := BL'.cell; have fBL' := BL'.frozen; have lBV' := BV'.lt; have cBV' := BV'.cell; have fBV' := BV'.frozen) | (refine ⟨trivial, (fun _ => by omega), ?_⟩; gi_at_call 83; refine (CallsIn.inRound l (callsIn_wide.2 (ch _))).mono ?_; rintro e w2 ⟨rfl, rfl⟩))
      --s3
      have lS := BS.lt
      have l4 : b4 < v.heap.size := by omega
      have l5 : b4 + 1 < v.heap.size := by omega
      have g4 : w.heap.size ≤ b4 := by omega
      have g5 : w.heap.size ≤ b4 + 1 := by omega
      have hbW : Below w.heap.size W w' := hx.below.mono hB.size
      have B2' := B2.ext hx
      have B3' := B3.ext hx
      refine ⟨keepsCell (keepsCell (keepsCell (keepsCell (keepsCell (keepsCell (keeps_ext hx) l4) l4) l4) l4) l4) l5, belowCell (belowCell (belowCell (belowCell (belowCell (belowCell (hbW) g4) g4) g4) g4) g4) g5, ⟨?_, ?_, ?_, ?_⟩, belowCell (belowCell (belowCell (belowCell (belowCell (belowCell (hB.trans hbW) g4) g4) g4) g4) g4) g5⟩
      · rw [t3]; exact ((((((BL'.setSame (o := 5)).setSame (o := 6)).setSame (o := 7)).setSame (o := 8)).setSame (o := 9)).setOther (by omega))
      · exact ((((((BV'.setOther (by omega)).setOther (by omega)).setOther (by omega)).setOther (by omega)).setOther (by omega)).setSame (o := 0))
      · exact ((((((B2'.setOther (by omega)).setOther (by omega)).setOther (by omega)).setOther (by omega)).setOther (by omega)).setOther (by omega))
      · exact ((((((B3'.setOther (by omega)).setOther (by omega)).setOther (by omega)).setOther (by omega)).setOther (by omega)).setOther (by omega))
  case done =>
    rintro D ys W hD rfl ⟨⟨BL, BV, B2, B3⟩, hB⟩ hK
    have e2 : two sa ma mb (partsOf true) = #[.bool sa, q64 (wn ma 0), q64 (wn ma 1), q64 (wn ma 2), q64 (wn ma 3), .bool false, q64 (wn mb 0), q64 (wn mb 1), q64 (wn mb 2), q64 (wn mb 3)] := by simp [two, partsOf]
    rw [e2] at BL
    have lBL := BL.lt; have cBL := BL.cell; have fBL := BL.frozen; have lBV := BV.lt; have cBV := BV.cell; have fBV := BV.frozen; have lB2 := B2.lt; have cB2 := B2.cell; have fB2 := B2.frozen; have lB3 := B3.lt; have cB3 := B3.cell; have fB3 := B3.frozen
    rcases hres with ⟨hok, rfl, rfl⟩ | ⟨hok, rfl, rfl⟩
    · have ck := rcheck_yes sa ma false mb ha hb hok
      gi_wp2_with (refine ⟨trivial, (fun _ => by omega), ?_⟩; gi_at_call 13; refine (callsIn_wide.2 (ck _)).mono ?_; rintro e w3 ⟨rfl, d3, rfl⟩)
      refine bpM_rebase fun u hu => ?_
      have lS := BS.lt
      have hKD : KeepsFrom v.heap.size W u := by
        rw [hu]; repeat (with_reducible first | exact KeepsFrom.refl _ _ | apply keepsGrow | (refine keepsCell ?_ (by omega)))
      have hK' := hKD.same D _ hD hK rfl
      have BF : Blk u w.heap.size #[.bool sa, q64 (wn ma 0), q64 (wn ma 1), q64 (wn ma 2), q64 (wn ma 3), .bool false, q64 (wn mb 0), q64 (wn mb 1), q64 (wn mb 2), q64 (wn mb 3)] 27 := by rw [hu]; exact (by repeat (first | (with_reducible assumption) | ((with_reducible refine Blk.new _ _ _ ?_); (simp; done)) | (with_reducible apply Blk.alloc) | (with_reducible apply Blk.grow) | (with_reducible apply Blk.drew) | (with_reducible apply Blk.set10) | (with_reducible apply Blk.set5) | (with_reducible apply Blk.set4) | (with_reducible apply Blk.tail4) | (with_reducible apply Blk.set2) | (with_reducible apply Blk.set1) | ((with_reducible apply Blk.setOther); (case hne => omega))))
      have BE : Blk u (w.heap.size + 1) #[.int .i64 0] 37 := by rw [hu]; exact (by repeat (first | (with_reducible assumption) | ((with_reducible refine Blk.new _ _ _ ?_); (simp; done)) | (with_reducible apply Blk.alloc) | (with_reducible apply Blk.grow) | (with_reducible apply Blk.drew) | (with_reducible apply Blk.set10) | (with_reducible apply Blk.set5) | (with_reducible apply Blk.set4) | (with_reducible apply Blk.tail4) | (with_reducible apply Blk.set2) | (with_reducible apply Blk.set1) | ((with_reducible apply Blk.setOther); (case hne => omega))))
      have BF5 := own_blk (β := Unit) w.heap.size (fun _ => _) _ () u _ (some D) BF (grownBy_putObj' u D (.deferred none)) (fun r e => by cases e; exact ⟨_, hK', rfl⟩)
      have BE5 := own_blk (β := Unit) (w.heap.size + 1) (fun _ => _) _ () u _ (some D) BE (grownBy_putObj' u D (.deferred none)) (fun r e => by cases e; exact ⟨_, hK', rfl⟩)
      have lBF5 := BF5.lt; have cBF5 := BF5.cell; have fBF5 := BF5.frozen; have lBE5 := BE5.lt; have cBE5 := BE5.cell; have fBE5 := BE5.frozen; clear BF5 BE5
      refine ⟨by simp, .inl ⟨_, _, rfl, run_takeDeferred hK', ?_⟩⟩
      have hBu : Below w.heap.size w u := by
        rw [hu]; repeat (with_reducible first | exact hB | (refine belowGrow ?_ (by simp; omega)) | (refine belowCell ?_ (by omega)))
      refine ⟨.tuple #[ratV sa ma false mb, .int .i64 0], ?_, ?_⟩
      · simp [results, Tryz.results40, go_sem, cBF5, cBE5]
      · exact ⟨by simp, hBu.trans (belowK_b (w := w) (Nat.le_refl _) u D _ _ (by omega) hK' rfl rfl)⟩
    · have ck := rcheck_no sa ma false mb ha hb hok
      gi_wp2_with (refine ⟨trivial, (fun _ => by omega), ?_⟩; gi_at_call 13; refine (callsIn_wide.2 (ck _)).mono ?_; rintro e w3 ⟨rfl, d3, rfl⟩)
      refine bpM_rebase fun u hu => ?_
      have lS := BS.lt
      have hKD : KeepsFrom v.heap.size W u := by
        rw [hu]; repeat (with_reducible first | exact KeepsFrom.refl _ _ | apply keepsGrow | (refine keepsCell ?_ (by omega)))
      have hK' := hKD.same D _ hD hK rfl
      have BF : Blk u w.heap.size zR 27 := by rw [hu]; exact (by repeat (first | (with_reducible assumption) | ((with_reducible refine Blk.new _ _ _ ?_); (simp; done)) | (with_reducible apply Blk.alloc) | (with_reducible apply Blk.grow) | (with_reducible apply Blk.drew) | (with_reducible apply Blk.set10) | (with_reducible apply Blk.set5) | (with_reducible apply Blk.set4) | (with_reducible apply Blk.tail4) | (with_reducible apply Blk.set2) | (with_reducible apply Blk.set1) | ((with_reducible apply Blk.setOther); (case hne => omega))))
      have BE : Blk u (w.heap.size + 1) #[.int .i64 120] 37 := by rw [hu]; exact (by repeat (first | (with_reducible assumption) | ((with_reducible refine Blk.new _ _ _ ?_); (simp; done)) | (with_reducible apply Blk.alloc) | (with_reducible apply Blk.grow) | (with_reducible apply Blk.drew) | (with_reducible apply Blk.set10) | (with_reducible apply Blk.set5) | (with_reducible apply Blk.set4) | (with_reducible apply Blk.tail4) | (with_reducible apply Blk.set2) | (with_reducible apply Blk.set1) | ((with_reducible apply Blk.setOther); (case hne => omega))))
      have BF5 := own_blk (β := Unit) w.heap.size (fun _ => _) _ () u _ (some D) BF (grownBy_putObj' u D (.deferred none)) (fun r e => by cases e; exact ⟨_, hK', rfl⟩)
      have BE5 := own_blk (β := Unit) (w.heap.size + 1) (fun _ => _) _ () u _ (some D) BE (grownBy_putObj' u D (.deferred none)) (fun r e => by cases e; exact ⟨_, hK', rfl⟩)
      have lBF5 := BF5.lt; have cBF5 := BF5.cell; have fBF5 := BF5.frozen; have lBE5 := BE5.lt; have cBE5 := BE5.cell; have fBE5 := BE5.frozen; clear BF5 BE5
      refine ⟨by simp, .inl ⟨_, _, rfl, run_takeDeferred hK', ?_⟩⟩
      have hBu : Below w.heap.size w u := by
        rw [hu]; repeat (with_reducible first | exact hB | (refine belowGrow ?_ (by simp; omega)) | (refine belowCell ?_ (by omega)))
      refine ⟨.tuple #[qZ, .int .i64 120], ?_, ?_⟩
      · simp [results, Tryz.results40, go_sem, cBF5, cBE5]
      · exact ⟨by simp, hBu.trans (belowK_b (w := w) (Nat.le_refl _) u D _ _ (by omega) hK' rfl rfl)⟩
end Go.Proofs.YtjkchmegnfbfoaaGreatDoor

namespace Go.Proofs.YtjkchmegnfbfoaaGreatDoor
open Go Go.RowKit
set_option linter.unusedSimpArgs false
set_option linter.unusedVariables false
set_option maxRecDepth 100000
set_option exponentiation.threshold 3000

theorem loop_data (bs : ByteArray) : ∀ n i r, bs.size - i = n → ByteArray.toList.loop bs i r = r.reverse ++ bs.data.toList.drop i := by
  intro n
  induction n with
  | zero =>
    intro i r h
    unfold ByteArray.toList.loop
    have h' : bs.data.size - i = 0 := h
    rw [if_neg (by omega), List.drop_eq_nil_of_le (by simp; omega)]; simp
  | succ n ih =>
    intro i r h
    unfold ByteArray.toList.loop
    have h' : bs.data.size - i = n + 1 := h
    rw [if_pos (by omega), ih (i + 1) _ (by omega)]
    have hlt : i < bs.data.toList.length := by simp; omega
    rw [List.drop_eq_getElem_cons hlt]
    have : bs.get! i = bs.data.toList[i] := by
      show bs.data[i]! = _
      rw [getElem!_pos bs.data i (by omega)]; simp
    simp [this]
theorem toList_data (bs : ByteArray) : bs.toList = bs.data.toList := by
  unfold ByteArray.toList; rw [loop_data bs _ 0 [] rfl]; simp
theorem B4_big : 65536 < B4 := by decide
theorem ratFits (x y : Int) (h0 : y ≠ 0) (h1 : x.natAbs < 65536) (h2 : y.natAbs < 65536) : Fits (Rat.divInt x y) :=
  divInt_fits x y h0 (Nat.lt_trans h1 B4_big) (Nat.lt_trans h2 B4_big)
theorem Fits.small {q : Rat} (h1 : q.num.natAbs < 65536) (h2 : q.den < 65536) : Fits q := ⟨Nat.lt_trans h1 B4_big, Nat.lt_trans h2 B4_big⟩
theorem eqT_q (x y : Rat) (fx : Fits x) (fy : Fits y) (h : x = y) : EqT 27 (qV x) (qV y) := fun w => by
  rw [run_eq_q x y fx fy w]; simp [h]
theorem qV_of (q : Rat) (s : Bool) (m k : Nat) (h1 : decide (q.num < 0) = s) (h2 : q.num.natAbs = m) (h3 : q.den = k) : qV q = ratV s m false k := by
  subst h1 h2 h3; rfl
abbrev S46 : ByteArray := ⟨#[52, 47, 54]⟩
abbrev Sm73 : ByteArray := ⟨#[45, 55, 47, 51]⟩
theorem parse_one (c d : Nat) (bs : ByteArray) (hs : bs.data = #[UInt8.ofNat (48 + d)]) (hd : d < 10) (w : World) :
    Calls Tryz.prog 82 #[.string bs] w fun e w' => e = .returned (.tuple #[intV false d, .int .i64 0]) ∧ Ext w w' := by
  have e : ofDec [d] = d := by simp [ofDec]
  have := Parse_pos bs [d] (by show bs.data.size = 1; rw [hs]; rfl) (fun i hi => by
    have : i = 0 := by simpa using hi
    subst this; rw [hs]; simp) (fun i => by
    rcases i with _ | i
    · simpa using hd
    · simp) (by simp) (by simp) (.inr (by simp)) (by rw [e]; exact Nat.lt_trans (by omega) B4_big) w
  rwa [e] at this
theorem parse_mone (d : Nat) (bs : ByteArray) (hs : bs.data = #[45, UInt8.ofNat (48 + d)]) (hd : d < 10) (h0 : d ≠ 0) (w : World) :
    Calls Tryz.prog 82 #[.string bs] w fun e w' => e = .returned (.tuple #[intV true d, .int .i64 0]) ∧ Ext w w' := by
  have e : ofDec [d] = d := by simp [ofDec]
  have := Parse_neg bs [d] (by show bs.data.size = 2; rw [hs]; rfl) (by rw [hs]; rfl) (fun i hi => by
    have : i = 0 := by simpa using hi
    subst this; rw [hs]; simp) (fun i => by
    rcases i with _ | i
    · simpa using hd
    · simp) (by simp) (by simp) (by simpa using h0) (by rw [e]; exact h0) (by rw [e]; exact Nat.lt_trans (by omega) B4_big) w
  rwa [e] at this
theorem parse_46 : Ans 40 #[.string S46] (.tuple #[ratV false 0 false 0, .int .i64 120]) := fun w => by
  have hcut := cCut_at S46 1 (by decide) (by decide) (by decide)
  have ca := parse_one 4 4 (S46.extract 0 1) (by decide) (by decide)
  have cb := parse_one 6 6 (S46.extract 2 3) (by decide) (by decide)
  have ch := hasPrefix_no (S46.extract 2 3) (by decide) (by decide) (by rw [toList_data]; decide)
  have := rParse_in 3 (by decide) S46 _ _ hcut false 4 6 (Nat.lt_trans (by decide) B4_big) (Nat.lt_trans (by decide) B4_big) ca cb (by rw [toList_data]; decide) (by rw [toList_data]; decide) ch (ratV false 0 false 0) 120 (.inr ⟨by decide, qZ_eq.symm, rfl⟩) w
  exact (callsIn_wide.1 this).mono fun e w' ⟨h1, h2⟩ => ⟨h1, Ext.of_below h2⟩
theorem parse_m73 : Ans 40 #[.string Sm73] (.tuple #[ratV true 7 false 3, .int .i64 0]) := fun w => by
  have hcut := cCut_at Sm73 2 (by decide) (by decide) (by decide)
  have ca := parse_mone 7 (Sm73.extract 0 2) (by decide) (by decide) (by decide)
  have cb := parse_one 3 3 (Sm73.extract 3 4) (by decide) (by decide)
  have ch := hasPrefix_no (Sm73.extract 3 4) (by decide) (by decide) (by rw [toList_data]; decide)
  have := rParse_in 3 (by decide) Sm73 _ _ hcut true 7 3 (Nat.lt_trans (by decide) B4_big) (Nat.lt_trans (by decide) B4_big) ca cb (by rw [toList_data]; decide) (by rw [toList_data]; decide) ch (ratV true 7 false 3) 0 (.inl ⟨by decide, rfl, rfl⟩) w
  exact (callsIn_wide.1 this).mono fun e w' ⟨h1, h2⟩ => ⟨h1, Ext.of_below h2⟩
theorem works_true (w : World) (hT : Tab w) : Calls Tryz.prog 17 #[] w fun e w' => e = .returned (.bool true) ∧ Ext w w' := by
  have wh : ∀ x : Int, x.natAbs < 65536 → Ans 54 #[.int .i64 x] (intZ x) := fun x h w => cWhole x (by omega) (by omega) w
  have of : ∀ x y : Int, x.natAbs < 65536 → y.natAbs < 65536 → y ≠ 0 → Ans 55 #[.int .i64 x, .int .i64 y] (qV (Rat.divInt x y)) := fun x y h1 h2 h0 w =>
    cOf_law x y (Nat.lt_trans h1 (by decide)) (Nat.lt_trans h2 (by decide)) h0 (ratFits x y h0 h1 h2) w
  have f1 := ratFits 1 6 (by decide) (by decide) (by decide)
  have f2 := ratFits 1 10 (by decide) (by decide) (by decide)
  have hs : Rat.divInt 1 6 + Rat.divInt 1 10 = Rat.divInt 4 15 := by rw [Rat.divInt_add_divInt _ _ (by decide) (by decide)]; decide
  have f3 := ratFits 4 15 (by decide) (by decide) (by decide)
  have f4 := ratFits (-7) 3 (by decide) (by decide) (by decide)
  refine works_walk (intZ 10) (intZ (-4)) (intZ 3) (intZ 0) (qV (Rat.divInt 1 6)) (qV (Rat.divInt 1 10)) _ _ _ _ _ _ _ _ _ _ _ _ _ _ _ _ _ _ _ _ _ _ _ _ _ _ _ _
    (wh 10 (by decide)) (wh (-4) (by decide)) (wh 3 (by decide)) (wh 0 (by decide)) (wh (-3) (by decide))
    (fun w hT => cMake_yes 10 (-4) (by decide) (Nat.lt_trans (by decide) B4_big) (Nat.lt_trans (by decide) B4_big) w hT)
    (fun w hT => by have := cMake_zero 3 (Nat.lt_trans (by decide) B4_big) w hT; rwa [qZ_eq] at this)
    (of 1 6 (by decide) (by decide) (by decide)) (of 1 10 (by decide) (by decide) (by decide))
    (fun w hT => cAdd_yes _ _ f1 f2 (by rw [hs]; exact f3) w hT)
    (of (-7) 3 (by decide) (by decide) (by decide)) (fun w => cFloor _ f4 w)
    parse_46 parse_m73
    (of (-5) 2 (by decide) (by decide) (by decide)) (of 4 15 (by decide) (by decide) (by decide))
    (eqT_q _ _ (ratFits 10 (-4) (by decide) (by decide) (by decide)) (ratFits (-5) 2 (by decide) (by decide) (by decide)) (by decide))
    (eqT_q _ _ (by rw [hs]; exact f3) f3 hs) ?e3 ?e4 w hT
  case e3 =>
    intro w
    have : floorQ (Rat.divInt (-7) 3) = -3 := by decide
    rw [this]
    rw [run_eq_int _ _ _ _ (Nat.lt_trans (by decide) B4_big) (Nat.lt_trans (by decide) B4_big)]
    simp
  case e4 =>
    have := qV_of (Rat.divInt (-7) 3) true 7 3 (by decide) (by decide) (by decide)
    rw [← this]
    exact eqT_q _ _ f4 f4 rfl
end Go.Proofs.YtjkchmegnfbfoaaGreatDoor

namespace Go.Proofs.YtjkchmegnfbfoaaGreatDoor
open Go Go.RowKit
set_option linter.unusedSimpArgs false
set_option linter.unusedVariables false
set_option maxRecDepth 100000

set_option maxHeartbeats 16000000 in
theorem Mirrors_bad (a b : Rt) (sn : Bool) (mn kn : Nat) (sx : Bool) (mx : Nat) (tx : Bool) (kx : Nat) (sy : Bool) (my : Nat) (ty : Bool) (ky : Nat) (z1 z2 : Int) (hz1 : 0 ≤ z1 ∧ z1 ≤ 200) (hz2 : 0 ≤ z2 ∧ z2 ≤ 200) (hz : z1 + z2 ≠ 0)
    (c0 : Ans 14 #[.int .i64 0] (ratV sn mn false kn)) (cx : AnsT 22 #[ratV sn mn false kn, a.v] (.tuple #[ratV sx mx tx kx, .int .i64 z1])) (cy : AnsT 22 #[ratV sn mn false kn, b.v] (.tuple #[ratV sy my ty ky, .int .i64 z2]))
    (w : World) (hT : Tab w) :
    Calls Tryz.prog 6 #[a.v, b.v] w fun e w' => e = .returned (.bool true) ∧ Ext w w' := by
  have hx : Ext w w := Ext.refl w
  have cw := works_true
  obtain ⟨s1, m1, u1, k1, _, _⟩ := a
  obtain ⟨s2, m2, u2, k2, _, _⟩ := b
  obtain ⟨h1, h2⟩ := hz1
  obtain ⟨h3, h4⟩ := hz2
  have hw1 : -9223372036854775808 ≤ z1 + z2 := by omega
  have hw2 : z1 + z2 ≤ 9223372036854775807 := by omega
  have hne : (z1 + z2 != 0) = true := by simpa using hz
  go_enter Tryz.func6, Tryz.ntmps6
  go_wp2_with (go_at_call 14; (with_reducible refine (c0 _).mono ?_); rintro e y1 ⟨rfl, hz_⟩; have hzz_ : Ext w y1 := Ext.trans (by repeat (first | (with_reducible exact Ext.refl _) | (with_reducible assumption) | (with_reducible apply Ext.grow) | (with_reducible apply Ext.alloc) | (with_reducible apply Ext.drew) | ((with_reducible apply Ext.set); (case hb => (first | omega | (simp; omega)))))) hz_; have BA : Blk y1 w.heap.size (ratsV s1 m1 u1 k1) 27 := Blk.ext (by repeat (first | (with_reducible assumption) | ((with_reducible refine Blk.new _ _ _ ?_); (simp; done)) | (with_reducible apply Blk.alloc) | (with_reducible apply Blk.grow) | (with_reducible apply Blk.drew) | (with_reducible apply Blk.set10) | (with_reducible apply Blk.set5) | (with_reducible apply Blk.set4) | (with_reducible apply Blk.tail4) | (with_reducible apply Blk.set2) | (with_reducible apply Blk.set1) | ((with_reducible apply Blk.setOther); (case hne => omega)))) hz_; have BB : Blk y1 (w.heap.size + 1) (ratsV s2 m2 u2 k2) 27 := Blk.ext (by repeat (first | (with_reducible assumption) | ((with_reducible refine Blk.new _ _ _ ?_); (simp; done)) | (with_reducible apply Blk.alloc) | (with_reducible apply Blk.grow) | (with_reducible apply Blk.drew) | (with_reducible apply Blk.set10) | (with_reducible apply Blk.set5) | (with_reducible apply Blk.set4) | (with_reducible apply Blk.tail4) | (with_reducible apply Blk.set2) | (with_reducible apply Blk.set1) | ((with_reducible apply Blk.setOther); (case hne => omega)))) hz_; replace hx := hx.trans hzz_; clear hz_ hzz_; have lBA := BA.lt; have cBA := BA.cell; have fBA := BA.frozen; have lBB := BB.lt; have cBB := BB.cell; have fBB := BB.frozen)
  go_wp2_with (go_at_call 22; (with_reducible refine (cx _ (hT.ext (hx.trans (by repeat (first | (with_reducible exact Ext.refl _) | (with_reducible assumption) | (with_reducible apply Ext.grow) | (with_reducible apply Ext.alloc) | (with_reducible apply Ext.drew) | ((with_reducible apply Ext.set); (case hb => (first | omega | (simp; omega))))))))).mono ?_); rintro e y2 ⟨rfl, hz_⟩; have hzz_ : Ext y1 y2 := Ext.trans (by repeat (first | (with_reducible exact Ext.refl _) | (with_reducible assumption) | (with_reducible apply Ext.grow) | (with_reducible apply Ext.alloc) | (with_reducible apply Ext.drew) | ((with_reducible apply Ext.set); (case hb => (first | omega | (simp; omega)))))) hz_; have BN : Blk y2 y1.heap.size (ratsV sn mn false kn) 27 := Blk.ext (by repeat (first | (with_reducible assumption) | ((with_reducible refine Blk.new _ _ _ ?_); (simp; done)) | (with_reducible apply Blk.alloc) | (with_reducible apply Blk.grow) | (with_reducible apply Blk.drew) | (with_reducible apply Blk.set10) | (with_reducible apply Blk.set5) | (with_reducible apply Blk.set4) | (with_reducible apply Blk.tail4) | (with_reducible apply Blk.set2) | (with_reducible apply Blk.set1) | ((with_reducible apply Blk.setOther); (case hne => omega)))) hz_; replace BA := BA.ext hzz_; clear lBA cBA fBA; replace BB := BB.ext hzz_; clear lBB cBB fBB; replace hx := hx.trans hzz_; clear hz_ hzz_; have lBA := BA.lt; have cBA := BA.cell; have fBA := BA.frozen; have lBB := BB.lt; have cBB := BB.cell; have fBB := BB.frozen; have lBN := BN.lt; have cBN := BN.cell; have fBN := BN.frozen)
  go_wp2_with (go_at_call 22; (with_reducible refine (cy _ (hT.ext (hx.trans (by repeat (first | (with_reducible exact Ext.refl _) | (with_reducible assumption) | (with_reducible apply Ext.grow) | (with_reducible apply Ext.alloc) | (with_reducible apply Ext.drew) | ((with_reducible apply Ext.set); (case hb => (first | omega | (simp; omega))))))))).mono ?_); rintro e y3 ⟨rfl, hz_⟩; have hzz_ : Ext y2 y3 := Ext.trans (by repeat (first | (with_reducible exact Ext.refl _) | (with_reducible assumption) | (with_reducible apply Ext.grow) | (with_reducible apply Ext.alloc) | (with_reducible apply Ext.drew) | ((with_reducible apply Ext.set); (case hb => (first | omega | (simp; omega)))))) hz_; replace BA := BA.ext hzz_; clear lBA cBA fBA; replace BB := BB.ext hzz_; clear lBB cBB fBB; replace BN := BN.ext hzz_; clear lBN cBN fBN; replace hx := hx.trans hzz_; clear hz_ hzz_; have lBA := BA.lt; have cBA := BA.cell; have fBA := BA.frozen; have lBB := BB.lt; have cBB := BB.cell; have fBB := BB.frozen; have lBN := BN.lt; have cBN := BN.cell; have fBN := BN.frozen)
  clear cx cy c0
  --s1
  go_wp2_with (first
    | (go_at_call 12; (with_reducible refine (num_law _ _).mono ?_); rintro e w2 ⟨rfl, rfl⟩)
    | (go_at_call 17; (with_reducible refine (cw _ (hT.ext (hx.trans (by repeat (first | (with_reducible exact Ext.refl _) | (with_reducible assumption) | (with_reducible apply Ext.grow) | (with_reducible apply Ext.alloc) | (with_reducible apply Ext.drew) | ((with_reducible apply Ext.set); (case hb => (first | omega | (simp; omega))))))))).mono ?_); rintro e w2 ⟨rfl, hz_⟩; replace hx := (Ext.trans hx (by repeat (first | (with_reducible exact Ext.refl _) | (with_reducible assumption) | (with_reducible apply Ext.grow) | (with_reducible apply Ext.alloc) | (with_reducible apply Ext.drew) | ((with_reducible apply Ext.set); (case hb => (first | omega | (simp; omega))))))).trans hz_))
  --s2
  exact bodyPost_ret (v := .bool true) (by simp [results, Tryz.results6, go_sem]) rfl ⟨rfl, (by repeat (first | (with_reducible exact Ext.refl _) | (with_reducible assumption) | (with_reducible apply Ext.grow) | (with_reducible apply Ext.alloc) | (with_reducible apply Ext.drew) | ((with_reducible apply Ext.set); (case hb => (first | omega | (simp; omega))))))⟩
set_option maxHeartbeats 16000000 in
theorem Mirrors_good (a b : Rt) (sn : Bool) (mn kn : Nat) (sx : Bool) (mx : Nat) (tx : Bool) (kx : Nat) (sy : Bool) (my : Nat) (ty : Bool) (ky : Nat)
    (ss : Bool) (ms ks : Nat) (g1 : Int) (st : Bool) (mt kt : Nat) (su : Bool) (mu ku : Nat) (sp : Bool) (mp kp : Nat) (g2 : Int) (sq : Bool) (mq kq : Nat) (sr : Bool) (mr kr : Nat)
    (c : Int) (sf : Bool) (mf : Nat) (sg : Bool) (mg : Nat) (sh : Bool) (mh : Nat) (hk : a.t = false)
    (c0 : Ans 14 #[.int .i64 0] (ratV sn mn false kn)) (cx : AnsT 22 #[ratV sn mn false kn, a.v] (.tuple #[ratV sx mx tx kx, .int .i64 0])) (cy : AnsT 22 #[ratV sn mn false kn, b.v] (.tuple #[ratV sy my ty ky, .int .i64 0]))
    (cs : AnsT 21 #[a.v, b.v] (.tuple #[ratV ss ms false ks, .int .i64 g1])) (ct : g1 = 0 → AnsT 21 #[ratV sx mx tx kx, ratV sy my ty ky] (.tuple #[ratV st mt false kt, .int .i64 0]))
    (cu : g1 = 0 → AnsT 22 #[ratV sn mn false kn, ratV st mt false kt] (.tuple #[ratV su mu false ku, .int .i64 0])) (eu : g1 = 0 → EqT 27 (ratV su mu false ku) (ratV ss ms false ks))
    (cp : AnsT 23 #[a.v, b.v] (.tuple #[ratV sp mp false kp, .int .i64 g2])) (cq : g2 = 0 → AnsT 23 #[ratV sx mx tx kx, b.v] (.tuple #[ratV sq mq false kq, .int .i64 0]))
    (cr : g2 = 0 → AnsT 22 #[ratV sn mn false kn, ratV sq mq false kq] (.tuple #[ratV sr mr false kr, .int .i64 0])) (er : g2 = 0 → EqT 27 (ratV sr mr false kr) (ratV sp mp false kp))
    (cc : Ans 31 #[a.v, b.v] (.tuple #[.int .i64 c, .int .i64 0])) (cd : Ans 31 #[ratV sy my ty ky, ratV sx mx tx kx] (.tuple #[.int .i64 c, .int .i64 0]))
    (cf : Ans 32 #[a.v] (.tuple #[intV sf mf, .int .i64 0])) (cg : Ans 32 #[ratV sx mx tx kx] (.tuple #[intV sg mg, .int .i64 0]))
    (ch : ∀ w b cap, IntAt w b 0 sf mf → IntAt w b 5 sg mg → Calls Tryz.prog 37 #[.slice (some ⟨b, 0, none⟩) 2 cap] w fun e w' => e = .returned (.tuple #[intV sh mh, .int .i64 0]) ∧ Ext w w')
    (o1 : Ans 38 #[.int .i64 1] (intV false 1)) (o0 : Ans 38 #[.int .i64 0] (intV false 0)) (om : Ans 38 #[.int .i64 (-1)] (intV true 1))
    (h1 : a.k = 1 → EqT 25 (intV sh mh) (intV false 0)) (h2 : a.k ≠ 1 → EqT 25 (intV sh mh) (intV true 1))
    (w : World) (hT : Tab w) :
    Calls Tryz.prog 6 #[a.v, b.v] w fun e w' => e = .returned (.bool true) ∧ Ext w w' := by
  have hx : Ext w w := Ext.refl w
  have cw := works_true
  have l1 : (1 : Nat) < Go.Proofs.YtjkchmegnfbfoaaGreatDoor.B4 := Nat.lt_trans (by decide) B4_big
  obtain ⟨s1, m1, u1, k1, hm1, hk1⟩ := a
  obtain ⟨s2, m2, u2, k2, _, _⟩ := b
  dsimp only at hk h1 h2
  subst hk
  go_enter Tryz.func6, Tryz.ntmps6
  go_wp2_with (go_at_call 14; (with_reducible refine (c0 _).mono ?_); rintro e y1 ⟨rfl, hz_⟩; have hzz_ : Ext w y1 := Ext.trans (by repeat (first | (with_reducible exact Ext.refl _) | (with_reducible assumption) | (with_reducible apply Ext.grow) | (with_reducible apply Ext.alloc) | (with_reducible apply Ext.drew) | ((with_reducible apply Ext.set); (case hb => (first | omega | (simp; omega)))))) hz_; have BA : Blk y1 w.heap.size (ratsV s1 m1 false k1) 27 := Blk.ext (by repeat (first | (with_reducible assumption) | ((with_reducible refine Blk.new _ _ _ ?_); (simp; done)) | (with_reducible apply Blk.alloc) | (with_reducible apply Blk.grow) | (with_reducible apply Blk.drew) | (with_reducible apply Blk.set10) | (with_reducible apply Blk.set5) | (with_reducible apply Blk.set4) | (with_reducible apply Blk.tail4) | (with_reducible apply Blk.set2) | (with_reducible apply Blk.set1) | ((with_reducible apply Blk.setOther); (case hne => omega)))) hz_; have BB : Blk y1 (w.heap.size + 1) (ratsV s2 m2 u2 k2) 27 := Blk.ext (by repeat (first | (with_reducible assumption) | ((with_reducible refine Blk.new _ _ _ ?_); (simp; done)) | (with_reducible apply Blk.alloc) | (with_reducible apply Blk.grow) | (with_reducible apply Blk.drew) | (with_reducible apply Blk.set10) | (with_reducible apply Blk.set5) | (with_reducible apply Blk.set4) | (with_reducible apply Blk.tail4) | (with_reducible apply Blk.set2) | (with_reducible apply Blk.set1) | ((with_reducible apply Blk.setOther); (case hne => omega)))) hz_; replace hx := hx.trans hzz_; clear hz_ hzz_; have lBA := BA.lt; have cBA := BA.cell; have fBA := BA.frozen; have lBB := BB.lt; have cBB := BB.cell; have fBB := BB.frozen)
  go_wp2_with (go_at_call 22; (with_reducible refine (cx _ (hT.ext (hx.trans (by repeat (first | (with_reducible exact Ext.refl _) | (with_reducible assumption) | (with_reducible apply Ext.grow) | (with_reducible apply Ext.alloc) | (with_reducible apply Ext.drew) | ((with_reducible apply Ext.set); (case hb => (first | omega | (simp; omega))))))))).mono ?_); rintro e y2 ⟨rfl, hz_⟩; have hzz_ : Ext y1 y2 := Ext.trans (by repeat (first | (with_reducible exact Ext.refl _) | (with_reducible assumption) | (with_reducible apply Ext.grow) | (with_reducible apply Ext.alloc) | (with_reducible apply Ext.drew) | ((with_reducible apply Ext.set); (case hb => (first | omega | (simp; omega)))))) hz_; have BN : Blk y2 y1.heap.size (ratsV sn mn false kn) 27 := Blk.ext (by repeat (first | (with_reducible assumption) | ((with_reducible refine Blk.new _ _ _ ?_); (simp; done)) | (with_reducible apply Blk.alloc) | (with_reducible apply Blk.grow) | (with_reducible apply Blk.drew) | (with_reducible apply Blk.set10) | (with_reducible apply Blk.set5) | (with_reducible apply Blk.set4) | (with_reducible apply Blk.tail4) | (with_reducible apply Blk.set2) | (with_reducible apply Blk.set1) | ((with_reducible apply Blk.setOther); (case hne => omega)))) hz_; replace BA := BA.ext hzz_; clear lBA cBA fBA; replace BB := BB.ext hzz_; clear lBB cBB fBB; replace hx := hx.trans hzz_; clear hz_ hzz_; have lBA := BA.lt; have cBA := BA.cell; have fBA := BA.frozen; have lBB := BB.lt; have cBB := BB.cell; have fBB := BB.frozen; have lBN := BN.lt; have cBN := BN.cell; have fBN := BN.frozen)
  go_wp2_with (go_at_call 22; (with_reducible refine (cy _ (hT.ext (hx.trans (by repeat (first | (with_reducible exact Ext.refl _) | (with_reducible assumption) | (with_reducible apply Ext.grow) | (with_reducible apply Ext.alloc) | (with_reducible apply Ext.drew) | ((with_reducible apply Ext.set); (case hb => (first | omega | (simp; omega))))))))).mono ?_); rintro e y3 ⟨rfl, hz_⟩; have hzz_ : Ext y2 y3 := Ext.trans (by repeat (first | (with_reducible exact Ext.refl _) | (with_reducible assumption) | (with_reducible apply Ext.grow) | (with_reducible apply Ext.alloc) | (with_reducible apply Ext.drew) | ((with_reducible apply Ext.set); (case hb => (first | omega | (simp; omega)))))) hz_; have BX : Blk y3 y2.heap.size (ratsV sx mx tx kx) 27 := Blk.ext (by repeat (first | (with_reducible assumption) | ((with_reducible refine Blk.new _ _ _ ?_); (simp; done)) | (with_reducible apply Blk.alloc) | (with_reducible apply Blk.grow) | (with_reducible apply Blk.drew) | (with_reducible apply Blk.set10) | (with_reducible apply Blk.set5) | (with_reducible apply Blk.set4) | (with_reducible apply Blk.tail4) | (with_reducible apply Blk.set2) | (with_reducible apply Blk.set1) | ((with_reducible apply Blk.setOther); (case hne => omega)))) hz_; replace BA := BA.ext hzz_; clear lBA cBA fBA; replace BB := BB.ext hzz_; clear lBB cBB fBB; replace BN := BN.ext hzz_; clear lBN cBN fBN; replace hx := hx.trans hzz_; clear hz_ hzz_; have lBA := BA.lt; have cBA := BA.cell; have fBA := BA.frozen; have lBB := BB.lt; have cBB := BB.cell; have fBB := BB.frozen; have lBN := BN.lt; have cBN := BN.cell; have fBN := BN.frozen; have lBX := BX.lt; have cBX := BX.cell; have fBX := BX.frozen)
  
  go_upto_if 60 with (first | (go_at_call 12; (with_reducible refine (num_law _ _).mono ?_); rintro e w2 ⟨rfl, h2_⟩; subst w2) | (go_at_call 21; (with_reducible refine (cs _ (hT.ext (hx.trans (by repeat (first | (with_reducible exact Ext.refl _) | (with_reducible assumption) | (with_reducible apply Ext.grow) | (with_reducible apply Ext.alloc) | (with_reducible apply Ext.drew) | ((with_reducible apply Ext.set); (case hb => (first | omega | (simp; omega))))))))).mono ?_); rintro e y4 ⟨rfl, hz_⟩; have hzz_ : Ext y3 y4 := Ext.trans (by repeat (first | (with_reducible exact Ext.refl _) | (with_reducible assumption) | (with_reducible apply Ext.grow) | (with_reducible apply Ext.alloc) | (with_reducible apply Ext.drew) | ((with_reducible apply Ext.set); (case hb => (first | omega | (simp; omega)))))) hz_; have BY : Blk y4 y3.heap.size (ratsV sy my ty ky) 27 := Blk.ext (by repeat (first | (with_reducible assumption) | ((with_reducible refine Blk.new _ _ _ ?_); (simp; done)) | (with_reducible apply Blk.alloc) | (with_reducible apply Blk.grow) | (with_reducible apply Blk.drew) | (with_reducible apply Blk.set10) | (with_reducible apply Blk.set5) | (with_reducible apply Blk.set4) | (with_reducible apply Blk.tail4) | (with_reducible apply Blk.set2) | (with_reducible apply Blk.set1) | ((with_reducible apply Blk.setOther); (case hne => omega)))) hz_; replace BA := BA.ext hzz_; clear lBA cBA fBA; replace BB := BB.ext hzz_; clear lBB cBB fBB; replace BN := BN.ext hzz_; clear lBN cBN fBN; replace BX := BX.ext hzz_; clear lBX cBX fBX; replace hx := hx.trans hzz_; clear hz_ hzz_; have lBA := BA.lt; have cBA := BA.cell; have fBA := BA.frozen; have lBB := BB.lt; have cBB := BB.cell; have fBB := BB.frozen; have lBN := BN.lt; have cBN := BN.cell; have fBN := BN.frozen; have lBX := BX.lt; have cBX := BX.cell; have fBX := BX.frozen; have lBY := BY.lt; have cBY := BY.cell; have fBY := BY.frozen))
  refine wp_rebase fun v hv => ?_
  have hz_ : Ext y4 v := by rw [hv]; exact (by repeat (first | (with_reducible exact Ext.refl _) | (with_reducible assumption) | (with_reducible apply Ext.grow) | (with_reducible apply Ext.alloc) | (with_reducible apply Ext.drew) | ((with_reducible apply Ext.set); (case hb => (first | omega | (simp; omega))))))
  have BS : Blk v y4.heap.size (ratsV ss ms false ks) 27 := by rw [hv]; exact (by repeat (first | (with_reducible assumption) | ((with_reducible refine Blk.new _ _ _ ?_); (simp; done)) | (with_reducible apply Blk.alloc) | (with_reducible apply Blk.grow) | (with_reducible apply Blk.drew) | (with_reducible apply Blk.set10) | (with_reducible apply Blk.set5) | (with_reducible apply Blk.set4) | (with_reducible apply Blk.tail4) | (with_reducible apply Blk.set2) | (with_reducible apply Blk.set1) | ((with_reducible apply Blk.setOther); (case hne => omega))))
  clear hv
  replace BA := BA.ext hz_; replace BB := BB.ext hz_; replace BN := BN.ext hz_; replace BX := BX.ext hz_; replace BY := BY.ext hz_; replace hx := hx.trans hz_
  clear hz_ lBA cBA fBA lBB cBB fBB lBN cBN fBN lBX cBX fBX lBY cBY fBY
  have lBA := BA.lt; have cBA := BA.cell; have fBA := BA.frozen; have lBB := BB.lt; have cBB := BB.cell; have fBB := BB.frozen; have lBN := BN.lt; have cBN := BN.cell; have fBN := BN.frozen; have lBX := BX.lt; have cBX := BX.cell; have fBX := BX.frozen; have lBY := BY.lt; have cBY := BY.cell; have fBY := BY.frozen; have lBS := BS.lt; have cBS := BS.cell; have fBS := BS.frozen
  go_cut [] (fun z => Ext v z)
  case first =>
    by_cases hg : g1 = 0
    · replace ct := ct hg; replace cu := cu hg; replace eu := eu hg
      subst hg
      have hv := Ext.refl v
      go_wp2_with (go_at_call 21; (with_reducible refine (ct _ (hT.ext (hx.trans (by repeat (first | (with_reducible exact Ext.refl _) | (with_reducible assumption) | (with_reducible apply Ext.grow) | (with_reducible apply Ext.alloc) | (with_reducible apply Ext.drew) | ((with_reducible apply Ext.set); (case hb => (first | omega | (simp; omega))))))))).mono ?_); rintro e v1 ⟨rfl, hz_⟩; have hzz_ : Ext v v1 := Ext.trans (by repeat (first | (with_reducible exact Ext.refl _) | (with_reducible assumption) | (with_reducible apply Ext.grow) | (with_reducible apply Ext.alloc) | (with_reducible apply Ext.drew) | ((with_reducible apply Ext.set); (case hb => (first | omega | (simp; omega)))))) hz_; replace hv := Ext.trans hv hzz_; replace BA := BA.ext hzz_; clear lBA cBA fBA; replace BB := BB.ext hzz_; clear lBB cBB fBB; replace BN := BN.ext hzz_; clear lBN cBN fBN; replace BX := BX.ext hzz_; clear lBX cBX fBX; replace BY := BY.ext hzz_; clear lBY cBY fBY; replace BS := BS.ext hzz_; clear lBS cBS fBS; replace hx := hx.trans hzz_; clear hz_ hzz_; have lBA := BA.lt; have cBA := BA.cell; have fBA := BA.frozen; have lBB := BB.lt; have cBB := BB.cell; have fBB := BB.frozen; have lBN := BN.lt; have cBN := BN.cell; have fBN := BN.frozen; have lBX := BX.lt; have cBX := BX.cell; have fBX := BX.frozen; have lBY := BY.lt; have cBY := BY.cell; have fBY := BY.frozen; have lBS := BS.lt; have cBS := BS.cell; have fBS := BS.frozen)
      go_wp2_with (go_at_call 22; (with_reducible refine (cu _ (hT.ext (hx.trans (by repeat (first | (with_reducible exact Ext.refl _) | (with_reducible assumption) | (with_reducible apply Ext.grow) | (with_reducible apply Ext.alloc) | (with_reducible apply Ext.drew) | ((with_reducible apply Ext.set); (case hb => (first | omega | (simp; omega))))))))).mono ?_); rintro e v2 ⟨rfl, hz_⟩; have hzz_ : Ext v1 v2 := Ext.trans (by repeat (first | (with_reducible exact Ext.refl _) | (with_reducible assumption) | (with_reducible apply Ext.grow) | (with_reducible apply Ext.alloc) | (with_reducible apply Ext.drew) | ((with_reducible apply Ext.set); (case hb => (first | omega | (simp; omega)))))) hz_; have BT : Blk v2 v1.heap.size (ratsV st mt false kt) 27 := Blk.ext (by repeat (first | (with_reducible assumption) | ((with_reducible refine Blk.new _ _ _ ?_); (simp; done)) | (with_reducible apply Blk.alloc) | (with_reducible apply Blk.grow) | (with_reducible apply Blk.drew) | (with_reducible apply Blk.set10) | (with_reducible apply Blk.set5) | (with_reducible apply Blk.set4) | (with_reducible apply Blk.tail4) | (with_reducible apply Blk.set2) | (with_reducible apply Blk.set1) | ((with_reducible apply Blk.setOther); (case hne => omega)))) hz_; replace hv := Ext.trans hv hzz_; replace BA := BA.ext hzz_; clear lBA cBA fBA; replace BB := BB.ext hzz_; clear lBB cBB fBB; replace BN := BN.ext hzz_; clear lBN cBN fBN; replace BX := BX.ext hzz_; clear lBX cBX fBX; replace BY := BY.ext hzz_; clear lBY cBY fBY; replace BS := BS.ext hzz_; clear lBS cBS fBS; replace hx := hx.trans hzz_; clear hz_ hzz_; have lBA := BA.lt; have cBA := BA.cell; have fBA := BA.frozen; have lBB := BB.lt; have cBB := BB.cell; have fBB := BB.frozen; have lBN := BN.lt; have cBN := BN.cell; have fBN := BN.frozen; have lBX := BX.lt; have cBX := BX.cell; have fBX := BX.frozen; have lBY := BY.lt; have cBY := BY.cell; have fBY := BY.frozen; have lBS := BS.lt; have cBS := BS.cell; have fBS := BS.frozen; have lBT := BT.lt; have cBT := BT.cell; have fBT := BT.frozen)
      --s3
      go_wp2_with (go_at_call 12; (with_reducible refine (num_law _ _).mono ?_); rintro e w2 ⟨rfl, h2_⟩; subst w2)
      --s4
      go_meet
      case rel => exact (by repeat (first | (with_reducible exact Ext.refl _) | (with_reducible assumption) | (with_reducible apply Ext.grow) | (with_reducible apply Ext.alloc) | (with_reducible apply Ext.drew) | ((with_reducible apply Ext.set); (case hb => (first | omega | (simp; omega))))))
    · have hg' : (g1 == 0) = false := by simpa using hg
      go_wp2
      go_meet
      case rel => exact (by repeat (first | (with_reducible exact Ext.refl _) | (with_reducible assumption) | (with_reducible apply Ext.grow) | (with_reducible apply Ext.alloc) | (with_reducible apply Ext.drew) | ((with_reducible apply Ext.set); (case hb => (first | omega | (simp; omega))))))
  case rest =>
  clear ct cu eu
  replace BA := BA.ext hcut; replace BB := BB.ext hcut; replace BN := BN.ext hcut; replace BX := BX.ext hcut; replace BY := BY.ext hcut; replace hx := hx.trans hcut
  clear hcut BS lBS cBS fBS lBA cBA fBA lBB cBB fBB lBN cBN fBN lBX cBX fBX lBY cBY fBY
  have lBA := BA.lt; have cBA := BA.cell; have fBA := BA.frozen; have lBB := BB.lt; have cBB := BB.cell; have fBB := BB.frozen; have lBN := BN.lt; have cBN := BN.cell; have fBN := BN.frozen; have lBX := BX.lt; have cBX := BX.cell; have fBX := BX.frozen; have lBY := BY.lt; have cBY := BY.cell; have fBY := BY.frozen
  --s5
  go_upto_if 92 with (first | (go_at_call 12; (with_reducible refine (num_law _ _).mono ?_); rintro e w2 ⟨rfl, h2_⟩; subst w2) | (go_at_call 23; (with_reducible refine (cp _ (hT.ext (hx.trans (by repeat (first | (with_reducible exact Ext.refl _) | (with_reducible assumption) | (with_reducible apply Ext.grow) | (with_reducible apply Ext.alloc) | (with_reducible apply Ext.drew) | ((with_reducible apply Ext.set); (case hb => (first | omega | (simp; omega))))))))).mono ?_); rintro e y5 ⟨rfl, hz_⟩; have hzz_ : Ext wc y5 := Ext.trans (by repeat (first | (with_reducible exact Ext.refl _) | (with_reducible assumption) | (with_reducible apply Ext.grow) | (with_reducible apply Ext.alloc) | (with_reducible apply Ext.drew) | ((with_reducible apply Ext.set); (case hb => (first | omega | (simp; omega)))))) hz_; replace BA := BA.ext hzz_; clear lBA cBA fBA; replace BB := BB.ext hzz_; clear lBB cBB fBB; replace BN := BN.ext hzz_; clear lBN cBN fBN; replace BX := BX.ext hzz_; clear lBX cBX fBX; replace BY := BY.ext hzz_; clear lBY cBY fBY; replace hx := hx.trans hzz_; clear hz_ hzz_; have lBA := BA.lt; have cBA := BA.cell; have fBA := BA.frozen; have lBB := BB.lt; have cBB := BB.cell; have fBB := BB.frozen; have lBN := BN.lt; have cBN := BN.cell; have fBN := BN.frozen; have lBX := BX.lt; have cBX := BX.cell; have fBX := BX.frozen; have lBY := BY.lt; have cBY := BY.cell; have fBY := BY.frozen))
  --s6
  refine wp_rebase fun v2 hv2 => ?_
  have hz_ : Ext y5 v2 := by rw [hv2]; exact (by repeat (first | (with_reducible exact Ext.refl _) | (with_reducible assumption) | (with_reducible apply Ext.grow) | (with_reducible apply Ext.alloc) | (with_reducible apply Ext.drew) | ((with_reducible apply Ext.set); (case hb => (first | omega | (simp; omega))))))
  have BP : Blk v2 y5.heap.size (ratsV sp mp false kp) 27 := by rw [hv2]; exact (by repeat (first | (with_reducible assumption) | ((with_reducible refine Blk.new _ _ _ ?_); (simp; done)) | (with_reducible apply Blk.alloc) | (with_reducible apply Blk.grow) | (with_reducible apply Blk.drew) | (with_reducible apply Blk.set10) | (with_reducible apply Blk.set5) | (with_reducible apply Blk.set4) | (with_reducible apply Blk.tail4) | (with_reducible apply Blk.set2) | (with_reducible apply Blk.set1) | ((with_reducible apply Blk.setOther); (case hne => omega))))
  clear hv2
  replace BA := BA.ext hz_; replace BB := BB.ext hz_; replace BN := BN.ext hz_; replace BX := BX.ext hz_; replace BY := BY.ext hz_; replace hx := hx.trans hz_
  clear hz_ lBA cBA fBA lBB cBB fBB lBN cBN fBN lBX cBX fBX lBY cBY fBY
  have lBA := BA.lt; have cBA := BA.cell; have fBA := BA.frozen; have lBB := BB.lt; have cBB := BB.cell; have fBB := BB.frozen; have lBN := BN.lt; have cBN := BN.cell; have fBN := BN.frozen; have lBX := BX.lt; have cBX := BX.cell; have fBX := BX.frozen; have lBY := BY.lt; have cBY := BY.cell; have fBY := BY.frozen; have lBP := BP.lt; have cBP := BP.cell; have fBP := BP.frozen
  go_cut [] (fun z => Ext v2 z)
  case first =>
    by_cases hg : g2 = 0
    · replace cq := cq hg; replace cr := cr hg; replace er := er hg
      subst hg
      have hv := Ext.refl v2
      go_wp2_with (go_at_call 23; (with_reducible refine (cq _ (hT.ext (hx.trans (by repeat (first | (with_reducible exact Ext.refl _) | (with_reducible assumption) | (with_reducible apply Ext.grow) | (with_reducible apply Ext.alloc) | (with_reducible apply Ext.drew) | ((with_reducible apply Ext.set); (case hb => (first | omega | (simp; omega))))))))).mono ?_); rintro e v3 ⟨rfl, hz_⟩; have hzz_ : Ext v2 v3 := Ext.trans (by repeat (first | (with_reducible exact Ext.refl _) | (with_reducible assumption) | (with_reducible apply Ext.grow) | (with_reducible apply Ext.alloc) | (with_reducible apply Ext.drew) | ((with_reducible apply Ext.set); (case hb => (first | omega | (simp; omega)))))) hz_; replace hv := Ext.trans hv hzz_; replace BA := BA.ext hzz_; clear lBA cBA fBA; replace BB := BB.ext hzz_; clear lBB cBB fBB; replace BN := BN.ext hzz_; clear lBN cBN fBN; replace BX := BX.ext hzz_; clear lBX cBX fBX; replace BY := BY.ext hzz_; clear lBY cBY fBY; replace BP := BP.ext hzz_; clear lBP cBP fBP; replace hx := hx.trans hzz_; clear hz_ hzz_; have lBA := BA.lt; have cBA := BA.cell; have fBA := BA.frozen; have lBB := BB.lt; have cBB := BB.cell; have fBB := BB.frozen; have lBN := BN.lt; have cBN := BN.cell; have fBN := BN.frozen; have lBX := BX.lt; have cBX := BX.cell; have fBX := BX.frozen; have lBY := BY.lt; have cBY := BY.cell; have fBY := BY.frozen; have lBP := BP.lt; have cBP := BP.cell; have fBP := BP.frozen)
      go_wp2_with (go_at_call 22; (with_reducible refine (cr _ (hT.ext (hx.trans (by repeat (first | (with_reducible exact Ext.refl _) | (with_reducible assumption) | (with_reducible apply Ext.grow) | (with_reducible apply Ext.alloc) | (with_reducible apply Ext.drew) | ((with_reducible apply Ext.set); (case hb => (first | omega | (simp; omega))))))))).mono ?_); rintro e v4 ⟨rfl, hz_⟩; have hzz_ : Ext v3 v4 := Ext.trans (by repeat (first | (with_reducible exact Ext.refl _) | (with_reducible assumption) | (with_reducible apply Ext.grow) | (with_reducible apply Ext.alloc) | (with_reducible apply Ext.drew) | ((with_reducible apply Ext.set); (case hb => (first | omega | (simp; omega)))))) hz_; have BQ : Blk v4 v3.heap.size (ratsV sq mq false kq) 27 := Blk.ext (by repeat (first | (with_reducible assumption) | ((with_reducible refine Blk.new _ _ _ ?_); (simp; done)) | (with_reducible apply Blk.alloc) | (with_reducible apply Blk.grow) | (with_reducible apply Blk.drew) | (with_reducible apply Blk.set10) | (with_reducible apply Blk.set5) | (with_reducible apply Blk.set4) | (with_reducible apply Blk.tail4) | (with_reducible apply Blk.set2) | (with_reducible apply Blk.set1) | ((with_reducible apply Blk.setOther); (case hne => omega)))) hz_; replace hv := Ext.trans hv hzz_; replace BA := BA.ext hzz_; clear lBA cBA fBA; replace BB := BB.ext hzz_; clear lBB cBB fBB; replace BN := BN.ext hzz_; clear lBN cBN fBN; replace BX := BX.ext hzz_; clear lBX cBX fBX; replace BY := BY.ext hzz_; clear lBY cBY fBY; replace BP := BP.ext hzz_; clear lBP cBP fBP; replace hx := hx.trans hzz_; clear hz_ hzz_; have lBA := BA.lt; have cBA := BA.cell; have fBA := BA.frozen; have lBB := BB.lt; have cBB := BB.cell; have fBB := BB.frozen; have lBN := BN.lt; have cBN := BN.cell; have fBN := BN.frozen; have lBX := BX.lt; have cBX := BX.cell; have fBX := BX.frozen; have lBY := BY.lt; have cBY := BY.cell; have fBY := BY.frozen; have lBP := BP.lt; have cBP := BP.cell; have fBP := BP.frozen; have lBQ := BQ.lt; have cBQ := BQ.cell; have fBQ := BQ.frozen)
      --s7
      go_wp2_with (go_at_call 12; (with_reducible refine (num_law _ _).mono ?_); rintro e w2 ⟨rfl, h2_⟩; subst w2)
      go_meet
      case rel => exact (by repeat (first | (with_reducible exact Ext.refl _) | (with_reducible assumption) | (with_reducible apply Ext.grow) | (with_reducible apply Ext.alloc) | (with_reducible apply Ext.drew) | ((with_reducible apply Ext.set); (case hb => (first | omega | (simp; omega))))))
    · have hg' : (g2 == 0) = false := by simpa using hg
      go_wp2
      go_meet
      case rel => exact (by repeat (first | (with_reducible exact Ext.refl _) | (with_reducible assumption) | (with_reducible apply Ext.grow) | (with_reducible apply Ext.alloc) | (with_reducible apply Ext.drew) | ((with_reducible apply Ext.set); (case hb => (first | omega | (simp; omega))))))
  case rest =>
  clear cq cr er
  replace BA := BA.ext hcut; replace BB := BB.ext hcut; replace BN := BN.ext hcut; replace BX := BX.ext hcut; replace BY := BY.ext hcut; replace hx := hx.trans hcut
  clear hcut BP lBP cBP fBP lBA cBA fBA lBB cBB fBB lBN cBN fBN lBX cBX fBX lBY cBY fBY
  have lBA := BA.lt; have cBA := BA.cell; have fBA := BA.frozen; have lBB := BB.lt; have cBB := BB.cell; have fBB := BB.frozen; have lBN := BN.lt; have cBN := BN.cell; have fBN := BN.frozen; have lBX := BX.lt; have cBX := BX.cell; have fBX := BX.frozen; have lBY := BY.lt; have cBY := BY.cell; have fBY := BY.frozen
  --s8
  go_wp2_with (go_at_call 31; (with_reducible refine (cc _).mono ?_); rintro e x1 ⟨rfl, hz_⟩; have hzz_ : Ext wc x1 := Ext.trans (by repeat (first | (with_reducible exact Ext.refl _) | (with_reducible assumption) | (with_reducible apply Ext.grow) | (with_reducible apply Ext.alloc) | (with_reducible apply Ext.drew) | ((with_reducible apply Ext.set); (case hb => (first | omega | (simp; omega)))))) hz_; replace BA := BA.ext hzz_; clear lBA cBA fBA; replace BB := BB.ext hzz_; clear lBB cBB fBB; replace BN := BN.ext hzz_; clear lBN cBN fBN; replace BX := BX.ext hzz_; clear lBX cBX fBX; replace BY := BY.ext hzz_; clear lBY cBY fBY; replace hx := hx.trans hzz_; clear hz_ hzz_; have lBA := BA.lt; have cBA := BA.cell; have fBA := BA.frozen; have lBB := BB.lt; have cBB := BB.cell; have fBB := BB.frozen; have lBN := BN.lt; have cBN := BN.cell; have fBN := BN.frozen; have lBX := BX.lt; have cBX := BX.cell; have fBX := BX.frozen; have lBY := BY.lt; have cBY := BY.cell; have fBY := BY.frozen)
  go_wp2_with (go_at_call 31; (with_reducible refine (cd _).mono ?_); rintro e x2 ⟨rfl, hz_⟩; have hzz_ : Ext x1 x2 := Ext.trans (by repeat (first | (with_reducible exact Ext.refl _) | (with_reducible assumption) | (with_reducible apply Ext.grow) | (with_reducible apply Ext.alloc) | (with_reducible apply Ext.drew) | ((with_reducible apply Ext.set); (case hb => (first | omega | (simp; omega)))))) hz_; replace BA := BA.ext hzz_; clear lBA cBA fBA; replace BB := BB.ext hzz_; clear lBB cBB fBB; replace BN := BN.ext hzz_; clear lBN cBN fBN; replace BX := BX.ext hzz_; clear lBX cBX fBX; replace BY := BY.ext hzz_; clear lBY cBY fBY; replace hx := hx.trans hzz_; clear hz_ hzz_; have lBA := BA.lt; have cBA := BA.cell; have fBA := BA.frozen; have lBB := BB.lt; have cBB := BB.cell; have fBB := BB.frozen; have lBN := BN.lt; have cBN := BN.cell; have fBN := BN.frozen; have lBX := BX.lt; have cBX := BX.cell; have fBX := BX.frozen; have lBY := BY.lt; have cBY := BY.cell; have fBY := BY.frozen)
  go_wp2_with (go_at_call 32; (with_reducible refine (cf _).mono ?_); rintro e x3 ⟨rfl, hz_⟩; have hzz_ : Ext x2 x3 := Ext.trans (by repeat (first | (with_reducible exact Ext.refl _) | (with_reducible assumption) | (with_reducible apply Ext.grow) | (with_reducible apply Ext.alloc) | (with_reducible apply Ext.drew) | ((with_reducible apply Ext.set); (case hb => (first | omega | (simp; omega)))))) hz_; replace BA := BA.ext hzz_; clear lBA cBA fBA; replace BX := BX.ext hzz_; clear lBX cBX fBX; replace hx := hx.trans hzz_; clear hz_ hzz_; have lBA := BA.lt; have cBA := BA.cell; have fBA := BA.frozen; have lBX := BX.lt; have cBX := BX.cell; have fBX := BX.frozen)
  go_wp2_with (go_at_call 32; (with_reducible refine (cg _).mono ?_); rintro e x4 ⟨rfl, hz_⟩; have hzz_ : Ext x3 x4 := Ext.trans (by repeat (first | (with_reducible exact Ext.refl _) | (with_reducible assumption) | (with_reducible apply Ext.grow) | (with_reducible apply Ext.alloc) | (with_reducible apply Ext.drew) | ((with_reducible apply Ext.set); (case hb => (first | omega | (simp; omega)))))) hz_; have BF : Blk x4 x3.heap.size (ints1 sf mf) 25 := Blk.ext (by repeat (first | (with_reducible assumption) | ((with_reducible refine Blk.new _ _ _ ?_); (simp; done)) | (with_reducible apply Blk.alloc) | (with_reducible apply Blk.grow) | (with_reducible apply Blk.drew) | (with_reducible apply Blk.set10) | (with_reducible apply Blk.set5) | (with_reducible apply Blk.set4) | (with_reducible apply Blk.tail4) | (with_reducible apply Blk.set2) | (with_reducible apply Blk.set1) | ((with_reducible apply Blk.setOther); (case hne => omega)))) hz_; replace BA := BA.ext hzz_; clear lBA cBA fBA; replace BX := BX.ext hzz_; clear lBX cBX fBX; replace hx := hx.trans hzz_; clear hz_ hzz_; have lBA := BA.lt; have cBA := BA.cell; have fBA := BA.frozen; have lBX := BX.lt; have cBX := BX.cell; have fBX := BX.frozen; have lBF := BF.lt; have cBF := BF.cell; have fBF := BF.frozen)
  --s9
  go_wp2_with (first | (go_at_call 12; (with_reducible refine (num_law _ _).mono ?_); rintro e w2 ⟨rfl, h2_⟩; subst w2) | (go_at_call 37; (with_reducible refine (ch _ _ _ ⟨by simp, by simp [go_sem], by simp [go_sem], by simp [go_sem], by simp [go_sem], by simp [go_sem]⟩ ⟨by simp, by simp [go_sem], by simp [go_sem], by simp [go_sem], by simp [go_sem], by simp [go_sem]⟩).mono ?_); rintro e x5 ⟨rfl, hz_⟩; have hzz_ : Ext x4 x5 := Ext.trans (by repeat (first | (with_reducible exact Ext.refl _) | (with_reducible assumption) | (with_reducible apply Ext.grow) | (with_reducible apply Ext.alloc) | (with_reducible apply Ext.drew) | ((with_reducible apply Ext.set); (case hb => (first | omega | (simp; omega)))))) hz_; replace BA := BA.ext hzz_; clear lBA cBA fBA; replace hx := hx.trans hzz_; clear hz_ hzz_; have lBA := BA.lt; have cBA := BA.cell; have fBA := BA.frozen))
  --s10
  go_wp2
  --s11
  refine wp_rebase fun v5 hv5 => ?_
  have hz_ : Ext x5 v5 := by rw [hv5]; exact (by repeat (first | (with_reducible exact Ext.refl _) | (with_reducible assumption) | (with_reducible apply Ext.grow) | (with_reducible apply Ext.alloc) | (with_reducible apply Ext.drew) | ((with_reducible apply Ext.set); (case hb => (first | omega | (simp; omega))))))
  have BR : Blk v5 x5.heap.size (ints1 sh mh) 25 := by rw [hv5]; exact (by repeat (first | (with_reducible assumption) | ((with_reducible refine Blk.new _ _ _ ?_); (simp; done)) | (with_reducible apply Blk.alloc) | (with_reducible apply Blk.grow) | (with_reducible apply Blk.drew) | (with_reducible apply Blk.set10) | (with_reducible apply Blk.set5) | (with_reducible apply Blk.set4) | (with_reducible apply Blk.tail4) | (with_reducible apply Blk.set2) | (with_reducible apply Blk.set1) | ((with_reducible apply Blk.setOther); (case hne => omega))))
  clear hv5
  replace BA := BA.ext hz_; replace hx := hx.trans hz_
  clear hz_ lBA cBA fBA
  have hTv := hT.ext hx
  have lBA := BA.lt; have cBA := BA.cell; have fBA := BA.frozen; have lBR := BR.lt; have cBR := BR.cell; have fBR := BR.frozen; clear BA BR
  by_cases hk : k1 = 1
  · have heq : EqT 25 (intV false k1) (intV false 1) := fun w => by rw [run_eq_int false k1 false 1 hk1 l1 w]; simp [hk]
    replace h1 := h1 hk
    clear hk h2
    (first | refine wp_region_k' [.p, .r, .r, .p] (by kernel_rfl) (by kernel_rfl) ?_ | refine wp_region_k [.p, .r, .r, .p] (by kernel_rfl) (by kernel_rfl) ?_); (repeat (first | (refine wpK_p rfl (fun K hK => ?_); go_simp; refine hK _ _ ?_; clear hK K) | (refine wpK_r rfl (fun K hK => ?_); go_simp; refine hK _ _ ?_; clear hK K) | (refine wpK_w rfl (fun K hK => ?_); go_simp; refine hK _ _ ?_; clear hK K) | (refine wpK_r rfl (fun K hK => ?_); go_simp; apply Exists.intro; refine ⟨fun d => ?_, hK _ _ ?_⟩; (with_reducible exact Calls.calm (o1 _)); clear hK K))); refine wpK_nil ?_; intro d
    --s12
    go_wp2
    --s13
    (first | refine wp_region_k' [.p, .r, .p, .p, .r, .r, .p, .p, .p, .r, .p, .p] (by kernel_rfl) (by kernel_rfl) ?_ | refine wp_region_k [.p, .r, .p, .p, .r, .r, .p, .p, .p, .r, .p, .p] (by kernel_rfl) (by kernel_rfl) ?_); (repeat (first | (refine wpK_p rfl (fun K hK => ?_); go_simp; refine hK _ _ ?_; clear hK K) | (refine wpK_r rfl (fun K hK => ?_); go_simp; refine hK _ _ ?_; clear hK K) | (refine wpK_w rfl (fun K hK => ?_); go_simp; refine hK _ _ ?_; clear hK K) | (refine wpK_r rfl (fun K hK => ?_); go_simp; apply Exists.intro; refine ⟨fun d => ?_, hK _ _ ?_⟩; (first | (with_reducible exact Calls.calm (o0 _)) | (with_reducible exact Calls.calm (cw _ (hTv.grow _))) | (with_reducible exact Calls.calm ((num_law _ _).mono fun e w' h => ⟨h.1, Ext.of_eq h.2⟩))); clear hK K) | (refine wpK_skip ?_ ?_; (· (simp [go_sem, Region.wanted, yielded]; done))) | (refine wpK_want ?_ ?_; (· (simp [go_sem, Region.wanted, yielded]; done))))); refine wpK_nil ?_; intro d
    go_wp2
    exact bodyPost_ret (v := .bool true) (by simp [results, Tryz.results6, go_sem]) rfl ⟨rfl, (by repeat (first | (with_reducible exact Ext.refl _) | (with_reducible assumption) | (with_reducible apply Ext.grow) | (with_reducible apply Ext.alloc) | (with_reducible apply Ext.drew) | ((with_reducible apply Ext.set); (case hb => (first | omega | (simp; omega))))))⟩
  · have heq : ∀ w, (Op.equalIn 10000 25 (intV false k1) (intV false 1)).run Tryz.prog w = .ok false w := fun w => by rw [run_eq_int false k1 false 1 hk1 l1 w]; simp [hk]
    replace h2 := h2 hk
    clear hk h1
    (first | refine wp_region_k' [.p, .r, .r, .p] (by kernel_rfl) (by kernel_rfl) ?_ | refine wp_region_k [.p, .r, .r, .p] (by kernel_rfl) (by kernel_rfl) ?_); (repeat (first | (refine wpK_p rfl (fun K hK => ?_); go_simp; refine hK _ _ ?_; clear hK K) | (refine wpK_r rfl (fun K hK => ?_); go_simp; refine hK _ _ ?_; clear hK K) | (refine wpK_w rfl (fun K hK => ?_); go_simp; refine hK _ _ ?_; clear hK K) | (refine wpK_r rfl (fun K hK => ?_); go_simp; apply Exists.intro; refine ⟨fun d => ?_, hK _ _ ?_⟩; (with_reducible exact Calls.calm (o1 _)); clear hK K))); refine wpK_nil ?_; intro d
    go_wp2
    --s14
    (first | refine wp_region_k' [.p, .r, .p, .p, .r, .r, .p, .p, .p, .r, .p, .p] (by kernel_rfl) (by kernel_rfl) ?_ | refine wp_region_k [.p, .r, .p, .p, .r, .r, .p, .p, .p, .r, .p, .p] (by kernel_rfl) (by kernel_rfl) ?_); (repeat (first | (refine wpK_p rfl (fun K hK => ?_); go_simp; refine hK _ _ ?_; clear hK K) | (refine wpK_r rfl (fun K hK => ?_); go_simp; refine hK _ _ ?_; clear hK K) | (refine wpK_w rfl (fun K hK => ?_); go_simp; refine hK _ _ ?_; clear hK K) | (refine wpK_r rfl (fun K hK => ?_); go_simp; apply Exists.intro; refine ⟨fun d => ?_, hK _ _ ?_⟩; (first | (with_reducible exact Calls.calm (om _)) | (with_reducible exact Calls.calm (cw _ (hTv.grow _))) | (with_reducible exact Calls.calm ((num_law _ _).mono fun e w' h => ⟨h.1, Ext.of_eq h.2⟩))); clear hK K) | (refine wpK_skip ?_ ?_; (· (simp [go_sem, Region.wanted, yielded]; done))) | (refine wpK_want ?_ ?_; (· (simp [go_sem, Region.wanted, yielded]; done))))); refine wpK_nil ?_; intro d
    go_wp2
    exact bodyPost_ret (v := .bool true) (by simp [results, Tryz.results6, go_sem]) rfl ⟨rfl, (by repeat (first | (with_reducible exact Ext.refl _) | (with_reducible assumption) | (with_reducible apply Ext.grow) | (with_reducible apply Ext.alloc) | (with_reducible apply Ext.drew) | ((with_reducible apply Ext.set); (case hb => (first | omega | (simp; omega))))))⟩
end Go.Proofs.YtjkchmegnfbfoaaGreatDoor
