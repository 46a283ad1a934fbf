/- Regions that draw their order, in which a call may panic: what is said of a panic need not speak of the frame. point.Move and point.Mid refuse or give up. PointMoves: the walk. PointMoves holds. -/
import Derived.Test.YtmopgcbhmkemjaaGreatDoorQ07
import Derived.Deep.RegionHeld3
import Derived.Test.YtmopgcbhmkemjaaGreatDoorProg
import Derived.Test.YtmopgcbhmkemjaaGreatDoorQ11
import Derived.Test.YtmopgcbhmkemjaaGreatDoorQ06
namespace Go.Proofs.YtmopgcbhmkemjaaGreatDoor
open Go Go.RowKit
set_option linter.unusedSimpArgs false
set_option linter.unusedVariables false
set_option linter.constructorNameAsVariable false
section
variable {P : Program} {md : Region.Mode}

def PanicR (R : List PanicEntry → World → Prop) (Q : Exit → Act → World → Prop) : Exit → Act → World → Prop
  | .panic c, _, w => R c w
  | e, a, w => Q e a w
theorem PanicR.normal {R : List PanicEntry → World → Prop} {Q : Exit → Act → World → Prop} {a : Act} {w : World} (h : Q .normal a w) : PanicR R Q .normal a w := h
/-- An operation that lays nothing up for later. -/
def NoDefer (P : Program) (o : Oper) : Prop := ∀ (a : Act) (w : World) (d : Deferred) (w' : World), (execOp a.eval o).run P w ≠ .ok (.defer d) w'
theorem noDefer_v {s : Sem Value} {w : World} {d : Deferred} {w' : World} : (do pure (Next.value (← s)) : Sem Next).run P w ≠ .ok (.defer d) w' := by
  intro h
  rw [Sem.run_bind] at h
  cases hs : s.run P w with
  | ok x u => rw [hs] at h; simp [Result.andThen] at h
  | halt x u => rw [hs] at h; simp [Result.andThen] at h
theorem noDefer_u {s : Sem Unit} {w : World} {d : Deferred} {w' : World} : (do s; pure Next.skip : Sem Next).run P w ≠ .ok (.defer d) w' := by
  intro h
  rw [Sem.run_bind] at h
  cases hs : s.run P w with
  | ok x u => rw [hs] at h; simp [Result.andThen] at h
  | halt x u => rw [hs] at h; simp [Result.andThen] at h
theorem noDefer_p {x : Value} {w : World} {d : Deferred} {w' : World} : (pure (Next.value x) : Sem Next).run P w ≠ .ok (.defer d) w' := by
  intro h
  rw [Sem.run_pure] at h
  cases h
theorem noDefer_e {s : Sem Next} {f : FuncId} {args : Array Value} {w : World} (he : s.run P w = .ok (.enter f args) w) {d : Deferred} {w' : World} : s.run P w ≠ .ok (.defer d) w' := by
  intro h
  rw [he] at h
  cases h
theorem noDefer_f {f : FuncId} {args : Array Operand} {ts : Array TypeId} {dst : Option Tmp} {ty : TypeId} {pos : String} {af : Array Edge} {g : Option (Nat × Bool)} (eg : ∀ args w, (callFunc f args).run P w = .ok (.enter f args) w) :
    NoDefer P { dst := dst, op := .call { callee := .value (.func f), args := args, argTypes := ts }, type := ty, pos := pos, after := af, guard := g } := by
  intro a w d w' h
  have h2 : (execOp a.eval { dst := dst, op := .call { callee := .value (.func f), args := args, argTypes := ts }, type := ty, pos := pos, after := af, guard := g }).run P w = .ok (.enter f (args.map a.eval)) w := by
    simp [execOp, resolve, Act.eval, Deferred.ofValue, invoke, eg, go_sem]
  rw [h2] at h
  cases h
theorem wpAny_panic {l : List Oper} {a0 : Act} {R : List PanicEntry → World → Prop} {Q : Exit → Act → World → Prop} (hnd : ∀ o ∈ l, NoDefer P o)
    (hR : ∀ c a w, a.defers = a0.defers → Kept l a0 a → R c w → Q (.panic c) a w) : ∀ (f : Nat) (listed : Array Bool) (a : Act) (w : World), a.defers = a0.defers → Kept l a0 a →
      wpAny P md l.toArray (PanicR R Q) f listed a w → wpAny P md l.toArray Q f listed a w
  | 0, _, _, _, _, _, h => ⟨h.1, h.2⟩
  | f + 1, listed, a, w, hd, hk, h => by
    refine ⟨fun h0 => h.1 h0, fun i hi => ?_⟩
    have hh := h.2 i hi
    have ih := fun a w h1 h2 h3 => wpAny_panic hnd hR f (listed.setIfInBounds i true) a w h1 h2 h3
    cases ho : l[i]? with
    | none =>
      have ho' : l.toArray[i]? = none := by simpa using ho
      simp only [wpOp, ho'] at hh ⊢
      exact ih _ _ hd hk hh
    | some o =>
      have ho' : l.toArray[i]? = some o := by simpa using ho
      have hp : ∀ v, wpAny P md l.toArray (PanicR R Q) f (listed.setIfInBounds i true) (a.put o.dst v) w → wpAny P md l.toArray Q f (listed.setIfInBounds i true) (a.put o.dst v) w := fun v h => ih _ _ (by rw [Act.put_defers, hd]) (hk.put ho v) h
      have hn := hnd o (List.mem_of_getElem? ho)
      simp only [wpOp, ho'] at hh ⊢
      split
      · rename_i hw
        simp only [hw, if_true] at hh
        refine hh.imp (fun hh => ?_) (fun hh => ⟨hh.1, hh.2⟩)
        unfold Oper.wp at *
        generalize hr : (execOp a.eval o).run P w = r at *
        cases r with
        | ok n w' =>
          cases n <;> simp only [Oper.upon] at hh ⊢ <;>
            first
              | exact ih _ _ (by rw [Act.put_defers, hd]) (hk.put ho _) hh
              | exact absurd hr (hn _ _ _ _)
              | exact Calls.mono hh (fun e w'' he => by cases e <;> first | exact ih _ _ (by rw [Act.put_defers, hd]) (hk.put ho _) he | exact hR _ _ _ hd hk he | exact he)
              | exact Rows.mono hh (fun _ _ he => ih _ _ (by rw [Act.put_defers, hd]) (hk.put ho _) he)
        | halt x w' => cases x <;> simp only [Oper.upon] at hh ⊢ <;> first | exact hR _ _ _ hd hk hh | exact hh
      · rename_i hw
        simp only [hw] at hh
        exact ih _ _ (by rw [Act.put_defers, hd]) (hk.put ho _) hh
/-- A region that draws its order, and may panic: R tells of a panic. -/
theorem wp_region_panic {id : Nat} {l : List Oper} {S : World → Prop} {R : List PanicEntry → World → Prop} {Q : Exit → Act → World → Prop} {a : Act} {w : World} (hm : P.follows .mixedOrders = true)
    (hnd : ∀ o ∈ l, NoDefer P o) (hR : ∀ c a' w', a'.defers = a.defers → Kept l a a' → R c w' → Q (.panic c) a' w') (hS : S w.drew)
    (h : S w.drew → wpAnyH P .any l.toArray (PanicR R Q) S l.length (Array.replicate l.length false) a w.drew) : (Code.region id l.toArray true).wp P Q a w := by
  have h1 := wpAny_of_held (P := P) (md := .any) (ops := l.toArray) (Q := PanicR R Q) (S := S) _ _ _ _ (h hS)
  exact wp_region_any hm (wpAny_panic hnd hR _ _ a _ rfl (fun _ _ => rfl) (by simpa using h1))
end
end Go.Proofs.YtmopgcbhmkemjaaGreatDoor

namespace Go.Proofs.YtmopgcbhmkemjaaGreatDoor
open Go Go.RowKit
set_option linter.unusedSimpArgs false
set_option linter.unusedVariables false
set_option maxRecDepth 100000
set_option exponentiation.threshold 3000

theorem Move_clear (b : Nat) (W : World) (cs : Array Value) (h : Blk W b cs 31) (hc : cs.size = 20) :
    Calls Tryz.prog 51 #[.pointer (some ⟨b, 0, none⟩)] W fun e w' => e = .returned (.tuple #[]) ∧ w' = W.setRow b zPt := by
  have lh := h.lt; have ch := h.cell; have fh := h.frozen
  go_enter Tryz.func51, Tryz.ntmps51
  go_wp2_with ((with_reducible apply wpList_store_row info_point); (case hs => exact rfl); (case hv => exact rfl); (case hB => exact h); (case hy => exact hc); (case hc => rfl); (case h1 => rfl))
  go_end0
  exact ⟨rfl, rfl⟩
theorem Mid_clear (b : Nat) (W : World) (cs : Array Value) (h : Blk W b cs 31) (hc : cs.size = 20) :
    Calls Tryz.prog 48 #[.pointer (some ⟨b, 0, none⟩)] W fun e w' => e = .returned (.tuple #[]) ∧ w' = W.setRow b zPt := by
  have lh := h.lt; have ch := h.cell; have fh := h.frozen
  go_enter Tryz.func48, Tryz.ntmps48
  go_wp2_with ((with_reducible apply wpList_store_row info_point); (case hs => exact rfl); (case hv => exact rfl); (case hB => exact h); (case hy => exact hc); (case hc => rfl); (case h1 => rfl))
  go_end0
  exact ⟨rfl, rfl⟩
set_option maxHeartbeats 8000000 in
theorem Move_bad (a b : Rt) (h : (a.pok && b.pok) = false) (dx dy : Int) : Ans 23 #[pV a b, .int .i64 dx, .int .i64 dy] (.tuple #[pZ, .int .i64 2]) := fun w => by
  have hmf : ∀ (fn : Fn) (first cap : Array Value) (w : World), (Instr.makeFunc fn first cap).run Tryz.prog w = .ok (.func fn first cap) w := fun _ _ _ _ => rfl
  have hx : Ext w w := Ext.refl w
  have P1 := pright_no a b h
  clear h
  obtain ⟨s1, m1, t1, k1, _, _⟩ := a
  obtain ⟨s2, m2, t2, k2, _, _⟩ := b
  go_enter_defers Tryz.func23, Tryz.ntmps23
  go_upto_region 1 with fail
  refine wp_rebase fun v hv => ?_
  replace hx : Ext w v := by rw [hv]; exact ext_auto
  have BA : Blk v w.heap.size (ptsV s1 m1 t1 k1 s2 m2 t2 k2) 31 := by rw [hv]; exact blk_auto
  have BO : Blk v (w.heap.size + 1) #[.bool false, .int .u64 0, .int .u64 0, .int .u64 0, .int .u64 0, .bool false, .int .u64 0, .int .u64 0, .int .u64 0, .int .u64 0, .bool false, .int .u64 0, .int .u64 0, .int .u64 0, .int .u64 0, .bool false, .int .u64 0, .int .u64 0, .int .u64 0, .int .u64 0] 31 := by rw [hv]; exact blk_auto
  have BE : Blk v (w.heap.size + 1 + 1) #[.int .i64 0] 33 := by rw [hv]; exact blk_auto
  clear hv
  have lBA := BA.lt; have cBA := BA.cell; have fBA := BA.frozen; have lBO := BO.lt; have cBO := BO.cell; have fBO := BO.frozen; have lBE := BE.lt; have cBE := BE.cell; have fBE := BE.frozen
  go_wp2_with (first | ((with_reducible apply wpList_load_row Tryz.isAgg31 Tryz.sizeOf31); (case hw => (simp [go_sem, Region.wanted, yielded]; done)); (case hs => exact rfl); (case hB => exact blk_auto); (case hc => rfl)) | (go_at_call 46; (with_reducible refine (must_point_no _ _).mono ?_); rintro e w2 ⟨rfl, h2_⟩; subst w2) | (go_at_call 16; (with_reducible refine (P1 _).mono ?_); rintro e y1 ⟨rfl, hz_⟩; have hxy : Ext v y1 := Ext.trans ext_auto hz_))
  refine lv_rebase fun v5 hv => ?_
  have hxv : Ext v v5 := by rw [hv]; exact ext_auto
  clear hv
  replace hx := hx.trans hxv
  replace BO := BO.ext hxv; replace BE := BE.ext hxv
  refine leaves_point_pan 0 2 51 _ (BE.cell 0) (BE.frozen 0) (fun _ _ => by kernel_rfl) ?_
  refine (Move_clear _ _ _ (BO.setOther (by omega)) rfl).mono ?_
  rintro e' z ⟨rfl, hz⟩
  have hy : Ext w z := by rw [hz]; exact Ext.setRow ext_auto (by omega)
  have BF : Blk z (w.heap.size + 1) zPt 31 := by rw [hz]; exact Blk.setRowSame (BO.setOther (by omega))
  have BG : Blk z (w.heap.size + 1 + 1) #[.int .i64 2] 33 := by rw [hz]; exact Blk.setRowOther BE.setSame (by omega)
  clear hz
  exact ⟨rfl, .tuple #[pZ, .int .i64 2], results_pt_err Tryz.results23 rfl rfl BF rfl BG, rfl, hy⟩
set_option maxHeartbeats 16000000 in
theorem Move_over_1 (a b : Rt) (ha : a.pok = true) (hb : b.pok = true) (dx dy : Int) (d1 d2 S1 S2 : Rt) (o1 : Ans 33 #[.int .i64 dx] d1.v) (o2 : Ans 33 #[.int .i64 dy] d2.v) (f1 : S1.pf = false)
    (A1 : AnsT 53 #[a.v, d1.v] (.tuple #[S1.v, .int .i64 0])) :
    AnsT 23 #[pV a b, .int .i64 dx, .int .i64 dy] (.tuple #[pZ, .int .i64 110]) := fun w hT => by
  have hmf : ∀ (fn : Fn) (first cap : Array Value) (w : World), (Instr.makeFunc fn first cap).run Tryz.prog w = .ok (.func fn first cap) w := fun _ _ _ _ => rfl
  have hx : Ext w w := Ext.refl w
  have P1 := pright_yes a b ha hb
  have EE := fun bb TT w hT h => each_sum_1 a d1 b d2 S1 S2 f1 (sum_any a d1 S1 0 A1) bb TT w hT h
  clear ha hb f1 A1
  obtain ⟨s1, m1, t1, k1, _, _⟩ := a
  obtain ⟨s2, m2, t2, k2, _, _⟩ := b
  obtain ⟨s3, m3, t3, k3, _, _⟩ := d1
  obtain ⟨s4, m4, t4, k4, _, _⟩ := d2
  obtain ⟨s5, m5, t5, k5, _, _⟩ := S1
  obtain ⟨s6, m6, t6, k6, _, _⟩ := S2
  dsimp only at EE
  go_enter_defers Tryz.func23, Tryz.ntmps23
  go_upto_region 1 with fail
  refine wp_rebase fun v hv => ?_
  replace hx : Ext w v := by rw [hv]; exact ext_auto
  have BA : Blk v w.heap.size (ptsV s1 m1 t1 k1 s2 m2 t2 k2) 31 := by rw [hv]; exact blk_auto
  have BO : Blk v (w.heap.size + 1) #[.bool false, .int .u64 0, .int .u64 0, .int .u64 0, .int .u64 0, .bool false, .int .u64 0, .int .u64 0, .int .u64 0, .int .u64 0, .bool false, .int .u64 0, .int .u64 0, .int .u64 0, .int .u64 0, .bool false, .int .u64 0, .int .u64 0, .int .u64 0, .int .u64 0] 31 := by rw [hv]; exact blk_auto
  have BE : Blk v (w.heap.size + 1 + 1) #[.int .i64 0] 33 := by rw [hv]; exact blk_auto
  clear hv
  have lBA := BA.lt; have cBA := BA.cell; have fBA := BA.frozen; have lBO := BO.lt; have cBO := BO.cell; have fBO := BO.frozen; have lBE := BE.lt; have cBE := BE.cell; have fBE := BE.frozen
  go_upto_region 4 with (first | ((with_reducible apply wpList_load_row Tryz.isAgg31 Tryz.sizeOf31); (case hw => (simp [go_sem, Region.wanted, yielded]; done)); (case hs => exact rfl); (case hB => exact blk_auto); (case hc => rfl)) | (go_at_call 46; (with_reducible refine (must_point_yes _ _).mono ?_); rintro e w2 ⟨rfl, h2_⟩; subst w2) | (go_at_call 16; (with_reducible refine (P1 _).mono ?_); rintro e y1 ⟨rfl, hz_⟩; have hxy : Ext v y1 := Ext.trans ext_auto hz_))
  replace BA := BA.ext hxy; replace BO := BO.ext hxy; replace BE := BE.ext hxy; replace hx := hx.trans hxy
  clear hxy hz_ lBA cBA fBA lBO cBO fBO lBE cBE fBE
  have lBA := BA.lt; have cBA := BA.cell; have fBA := BA.frozen; have lBO := BO.lt; have cBO := BO.cell; have fBO := BO.frozen; have lBE := BE.lt; have cBE := BE.cell; have fBE := BE.frozen
  obtain ⟨v, rfl⟩ : ∃ v', v' = y1 := ⟨_, rfl⟩
  refine wp_region_panic (S := fun w' => Ext v w' ∧ ∀ j, w'.cell? ⟨w.heap.size, j, none⟩ = (ptsV s1 m1 t1 k1 s2 m2 t2 k2)[j]?) (R := fun c w' => c = [{ v := .iface 33 (.int .i64 110), recovered := false }] ∧ Ext v w') (by kernel_rfl) (by (intro o ho; simp only [List.mem_cons, List.not_mem_nil, or_false] at ho; rcases ho with rfl | rfl | rfl | rfl | rfl | rfl | rfl | rfl | rfl | rfl | rfl | rfl | rfl | rfl <;> (first | (exact noDefer_f (fun _ _ => by kernel_rfl)) | (intro a w d w'; first | exact noDefer_p | exact noDefer_v | exact noDefer_u)))) ?hR (by exact (fun hh : Ext v _ => ⟨hh, (BA.ext hh).cell⟩) ext_auto) (fun hHeld => ?_)
  case hR =>
    rintro c a v5 hd hkept ⟨rfl, hxv⟩
    have e6 := hkept 6 (by kernel_rfl)
    have e7 := hkept 7 (by kernel_rfl)
    simp at e6 e7
    replace hx := hx.trans hxv
    replace BO := BO.ext hxv; replace BE := BE.ext hxv
    show Leaves _ _ a.tmps _ a.defers _ _
    rw [hd]
    clear hkept hd
    refine leaves_point_pan 0 110 51 _ (BE.cell 0) (BE.frozen 0) (fun _ _ => by kernel_rfl) ?_
    refine (Move_clear _ _ _ (BO.setOther (by omega)) rfl).mono ?_
    rintro e' z ⟨rfl, hz⟩
    have hy : Ext w z := by rw [hz]; exact Ext.setRow ext_auto (by omega)
    have BF : Blk z (w.heap.size + 1) zPt 31 := by rw [hz]; exact Blk.setRowSame (BO.setOther (by omega))
    have BG : Blk z (w.heap.size + 1 + 1) #[.int .i64 110] 33 := by rw [hz]; exact Blk.setRowOther BE.setSame (by omega)
    clear hz
    exact ⟨rfl, .tuple #[pZ, .int .i64 110], results_pt_err Tryz.results23 e6 e7 BF rfl BG, rfl, hy⟩
  refine wpAnyH_take (i := 0) (oi := ({ dst := some 15, op := Go.Op.move (Go.Operand.tmp 8), type := 97, pos := "point.go:127", after := #[], guard := none } : Oper)) (v := ?_) rfl (by kernel_rfl) (by kernel_rfl) (by kernel_rfl) (fun _ _ _ h => h) (Or.inl ⟨by rfl, ?_⟩) (by assumption) ?_; rotate_left; (· (intro w hSw; (try dsimp only at hSw); go_simp; (try with_reducible rfl))); (try simp only [Act.put, List.setIfInBounds_toArray, List.set_cons_zero, List.set_cons_succ]); refine wpAnyH_take (i := 1) (oi := ({ dst := some 16, op := Go.Op.fieldAddr 31 (Go.Operand.tmp 3) 0, type := 0, pos := "point.go:127", after := #[], guard := none } : Oper)) (v := ?_) rfl (by kernel_rfl) (by kernel_rfl) (by kernel_rfl) (fun _ _ _ h => h) (Or.inl ⟨by rfl, ?_⟩) (by assumption) ?_; rotate_left; (· (intro w hSw; (try dsimp only at hSw); go_simp; (try with_reducible rfl))); (try simp only [Act.put, List.setIfInBounds_toArray, List.set_cons_zero, List.set_cons_succ]); refine wpAnyH_take (i := 2) (oi := ({ dst := some 17, op := Go.Op.load 29 (Go.Operand.tmp 16), type := 29, pos := "point.go:127", after := #[{ on := 1, ground := Go.Ground.data }], guard := none } : Oper)) (v := ?_) rfl (by kernel_rfl) (by kernel_rfl) (by kernel_rfl) (fun _ _ _ h => h) (Or.inl ⟨by rfl, ?_⟩) (by assumption) ?_; rotate_left; (· (intro w hSw; (try dsimp only at hSw); go_simp; (try with_reducible rfl))); (try simp only [Act.put, List.setIfInBounds_toArray, List.set_cons_zero, List.set_cons_succ]); refine wpAnyH_take (i := 3) (oi := ({ dst := some 18, op := Go.Op.move (Go.Operand.tmp 1), type := 2, pos := "point.go:127", after := #[], guard := none } : Oper)) (v := ?_) rfl (by kernel_rfl) (by kernel_rfl) (by kernel_rfl) (fun _ _ _ h => h) (Or.inl ⟨by rfl, ?_⟩) (by assumption) ?_; rotate_left; (· (intro w hSw; (try dsimp only at hSw); go_simp; (try with_reducible rfl))); (try simp only [Act.put, List.setIfInBounds_toArray, List.set_cons_zero, List.set_cons_succ]); refine wpAnyH_take (i := 6) (oi := ({ dst := some 21, op := Go.Op.fieldAddr 31 (Go.Operand.tmp 3) 1, type := 0, pos := "point.go:127", after := #[], guard := none } : Oper)) (v := ?_) rfl (by kernel_rfl) (by kernel_rfl) (by kernel_rfl) (fun _ _ _ h => h) (Or.inl ⟨by rfl, ?_⟩) (by assumption) ?_; rotate_left; (· (intro w hSw; (try dsimp only at hSw); go_simp; (try with_reducible rfl))); (try simp only [Act.put, List.setIfInBounds_toArray, List.set_cons_zero, List.set_cons_succ]); refine wpAnyH_take (i := 7) (oi := ({ dst := some 22, op := Go.Op.load 29 (Go.Operand.tmp 21), type := 29, pos := "point.go:127", after := #[{ on := 6, ground := Go.Ground.data }], guard := none } : Oper)) (v := ?_) rfl (by kernel_rfl) (by kernel_rfl) (by kernel_rfl) (fun _ _ _ h => h) (Or.inl ⟨by rfl, ?_⟩) (by assumption) ?_; rotate_left; (· (intro w hSw; (try dsimp only at hSw); go_simp; (try with_reducible rfl))); (try simp only [Act.put, List.setIfInBounds_toArray, List.set_cons_zero, List.set_cons_succ]); refine wpAnyH_take (i := 8) (oi := ({ dst := some 23, op := Go.Op.move (Go.Operand.tmp 2), type := 2, pos := "point.go:127", after := #[], guard := none } : Oper)) (v := ?_) rfl (by kernel_rfl) (by kernel_rfl) (by kernel_rfl) (fun _ _ _ h => h) (Or.inl ⟨by rfl, ?_⟩) (by assumption) ?_; rotate_left; (· (intro w hSw; (try dsimp only at hSw); go_simp; (try with_reducible rfl))); (try simp only [Act.put, List.setIfInBounds_toArray, List.set_cons_zero, List.set_cons_succ]); refine wpAnyH_ready (rs := [4]) (by kernel_rfl) (by simp) ?_; refine AllReadyH.cons (o := ({ dst := some 19, op := Go.Op.call { callee := Go.Callee.value (Go.Operand.func 33), args := #[Go.Operand.tmp 18], argTypes := #[2] }, type := 29, pos := "point.go:127", after := #[{ on := 3, ground := Go.Ground.data }], guard := none } : Oper)) rfl (fun K hK => ?_) AllReadyH.nil; (go_simp; (go_at_call 33; (with_reducible refine (o1 _).mono ?_); rintro e z1 ⟨rfl, hz_⟩; have hzz_ : Ext v z1 := Ext.trans ext_auto hz_)); refine hK.out _ _ ?_ (fun hHeld => ?_); (· ((try dsimp only); ((exact (fun hh : Ext v _ => ⟨hh, (BA.ext hh).cell⟩) ext_auto)))); clear hK K; (try simp only [Act.put, List.setIfInBounds_toArray, List.set_cons_zero, List.set_cons_succ]); refine wpAnyH_take (i := 5) (oi := ({ dst := some 20, op := Go.Op.build 31 #[(0, Go.Operand.tmp 17), (1, Go.Operand.tmp 19)], type := 31, pos := "point.go:127", after := #[{ on := 2, ground := Go.Ground.data }, { on := 4, ground := Go.Ground.data }], guard := none } : Oper)) (v := ?_) rfl (by kernel_rfl) (by kernel_rfl) (by kernel_rfl) (fun _ _ _ h => h) (Or.inl ⟨by rfl, ?_⟩) (by assumption) ?_; rotate_left; (· (intro w hSw; (try dsimp only at hSw); go_simp; (try with_reducible rfl))); (try simp only [Act.put, List.setIfInBounds_toArray, List.set_cons_zero, List.set_cons_succ]); refine wpAnyH_ready (rs := [9]) (by kernel_rfl) (by simp) ?_; refine AllReadyH.cons (o := ({ dst := some 24, op := Go.Op.call { callee := Go.Callee.value (Go.Operand.func 33), args := #[Go.Operand.tmp 23], argTypes := #[2] }, type := 29, pos := "point.go:127", after := #[{ on := 8, ground := Go.Ground.data }, { on := 4, ground := Go.Ground.chain }], guard := none } : Oper)) rfl (fun K hK => ?_) AllReadyH.nil; (go_simp; (go_at_call 33; (with_reducible refine (o2 _).mono ?_); rintro e z2 ⟨rfl, hz_⟩; have hzz_ : Ext v z2 := Ext.trans ext_auto hz_)); refine hK.out _ _ ?_ (fun hHeld => ?_); (· ((try dsimp only); ((exact (fun hh : Ext v _ => ⟨hh, (BA.ext hh).cell⟩) ext_auto)))); clear hK K; (try simp only [Act.put, List.setIfInBounds_toArray, List.set_cons_zero, List.set_cons_succ]); refine wpAnyH_take (i := 10) (oi := ({ dst := some 25, op := Go.Op.build 31 #[(0, Go.Operand.tmp 22), (1, Go.Operand.tmp 24)], type := 31, pos := "point.go:127", after := #[{ on := 7, ground := Go.Ground.data }, { on := 9, ground := Go.Ground.data }], guard := none } : Oper)) (v := ?_) rfl (by kernel_rfl) (by kernel_rfl) (by kernel_rfl) (fun _ _ _ h => h) (Or.inl ⟨by rfl, ?_⟩) (by assumption) ?_; rotate_left; (· (intro w hSw; (try dsimp only at hSw); go_simp; (try with_reducible rfl))); (try simp only [Act.put, List.setIfInBounds_toArray, List.set_cons_zero, List.set_cons_succ]); refine wpAnyH_ready (rs := [11]) (by kernel_rfl) (by simp) ?_; refine AllReadyH.cons (o := ({ dst := some 26, op := Go.Op.buildSlice 71 2 #[(0, Go.Operand.tmp 20), (1, Go.Operand.tmp 25)], type := 71, pos := "point.go:127", after := #[{ on := 5, ground := Go.Ground.data }, { on := 10, ground := Go.Ground.data }], guard := none } : Oper)) rfl (fun K hK => ?_) AllReadyH.nil; (go_simp); refine hK.out _ _ ?_ (fun hHeld => ?_); (· ((try dsimp only); ((exact (fun hh : Ext v _ => ⟨hh, (BA.ext hh).cell⟩) ext_auto)))); clear hK K; (try simp only [Act.put, List.setIfInBounds_toArray, List.set_cons_zero, List.set_cons_succ]); refine wpAnyH_ready (rs := [12]) (by kernel_rfl) (by simp) ?_; refine AllReadyH.cons (o := ({ dst := some 27, op := Go.Op.call { callee := Go.Callee.value (Go.Operand.func 49), args := #[Go.Operand.tmp 15, Go.Operand.tmp 26], argTypes := #[97, 71] }, type := 95, pos := "point.go:127", after := #[{ on := 0, ground := Go.Ground.data }, { on := 11, ground := Go.Ground.data }, { on := 9, ground := Go.Ground.chain }], guard := none } : Oper)) rfl (fun K hK => ?_) AllReadyH.nil; (go_simp; (go_at_call 49; (with_reducible refine (EE _ _ _ (hT.ext (hx.trans ext_auto)) (Blk.new _ _ _ rfl)).mono ?_); rintro e z ⟨rfl, hz_⟩; exact ⟨rfl, Ext.trans ext_auto hz_⟩))
  --s5
set_option maxHeartbeats 16000000 in
theorem Move_over_2 (a b : Rt) (ha : a.pok = true) (hb : b.pok = true) (dx dy : Int) (d1 d2 S1 S2 : Rt) (o1 : Ans 33 #[.int .i64 dx] d1.v) (o2 : Ans 33 #[.int .i64 dy] d2.v) (f1 : S1.pf = true) (f2 : S2.pf = false)
    (A1 : AnsT 53 #[a.v, d1.v] (.tuple #[S1.v, .int .i64 0])) (A2 : AnsT 53 #[b.v, d2.v] (.tuple #[S2.v, .int .i64 0])) :
    AnsT 23 #[pV a b, .int .i64 dx, .int .i64 dy] (.tuple #[pZ, .int .i64 110]) := fun w hT => by
  have hmf : ∀ (fn : Fn) (first cap : Array Value) (w : World), (Instr.makeFunc fn first cap).run Tryz.prog w = .ok (.func fn first cap) w := fun _ _ _ _ => rfl
  have hx : Ext w w := Ext.refl w
  have P1 := pright_yes a b ha hb
  have EE := fun bb TT w hT h => each_sum_2 a d1 b d2 S1 S2 f1 f2 (sum_any a d1 S1 0 A1) (sum_any b d2 S2 0 A2) bb TT w hT h
  clear ha hb f1 f2 A1 A2
  obtain ⟨s1, m1, t1, k1, _, _⟩ := a
  obtain ⟨s2, m2, t2, k2, _, _⟩ := b
  obtain ⟨s3, m3, t3, k3, _, _⟩ := d1
  obtain ⟨s4, m4, t4, k4, _, _⟩ := d2
  obtain ⟨s5, m5, t5, k5, _, _⟩ := S1
  obtain ⟨s6, m6, t6, k6, _, _⟩ := S2
  dsimp only at EE
  go_enter_defers Tryz.func23, Tryz.ntmps23
  go_upto_region 1 with fail
  refine wp_rebase fun v hv => ?_
  replace hx : Ext w v := by rw [hv]; exact ext_auto
  have BA : Blk v w.heap.size (ptsV s1 m1 t1 k1 s2 m2 t2 k2) 31 := by rw [hv]; exact blk_auto
  have BO : Blk v (w.heap.size + 1) #[.bool false, .int .u64 0, .int .u64 0, .int .u64 0, .int .u64 0, .bool false, .int .u64 0, .int .u64 0, .int .u64 0, .int .u64 0, .bool false, .int .u64 0, .int .u64 0, .int .u64 0, .int .u64 0, .bool false, .int .u64 0, .int .u64 0, .int .u64 0, .int .u64 0] 31 := by rw [hv]; exact blk_auto
  have BE : Blk v (w.heap.size + 1 + 1) #[.int .i64 0] 33 := by rw [hv]; exact blk_auto
  clear hv
  have lBA := BA.lt; have cBA := BA.cell; have fBA := BA.frozen; have lBO := BO.lt; have cBO := BO.cell; have fBO := BO.frozen; have lBE := BE.lt; have cBE := BE.cell; have fBE := BE.frozen
  go_upto_region 4 with (first | ((with_reducible apply wpList_load_row Tryz.isAgg31 Tryz.sizeOf31); (case hw => (simp [go_sem, Region.wanted, yielded]; done)); (case hs => exact rfl); (case hB => exact blk_auto); (case hc => rfl)) | (go_at_call 46; (with_reducible refine (must_point_yes _ _).mono ?_); rintro e w2 ⟨rfl, h2_⟩; subst w2) | (go_at_call 16; (with_reducible refine (P1 _).mono ?_); rintro e y1 ⟨rfl, hz_⟩; have hxy : Ext v y1 := Ext.trans ext_auto hz_))
  replace BA := BA.ext hxy; replace BO := BO.ext hxy; replace BE := BE.ext hxy; replace hx := hx.trans hxy
  clear hxy hz_ lBA cBA fBA lBO cBO fBO lBE cBE fBE
  have lBA := BA.lt; have cBA := BA.cell; have fBA := BA.frozen; have lBO := BO.lt; have cBO := BO.cell; have fBO := BO.frozen; have lBE := BE.lt; have cBE := BE.cell; have fBE := BE.frozen
  obtain ⟨v, rfl⟩ : ∃ v', v' = y1 := ⟨_, rfl⟩
  refine wp_region_panic (S := fun w' => Ext v w' ∧ ∀ j, w'.cell? ⟨w.heap.size, j, none⟩ = (ptsV s1 m1 t1 k1 s2 m2 t2 k2)[j]?) (R := fun c w' => c = [{ v := .iface 33 (.int .i64 110), recovered := false }] ∧ Ext v w') (by kernel_rfl) (by (intro o ho; simp only [List.mem_cons, List.not_mem_nil, or_false] at ho; rcases ho with rfl | rfl | rfl | rfl | rfl | rfl | rfl | rfl | rfl | rfl | rfl | rfl | rfl | rfl <;> (first | (exact noDefer_f (fun _ _ => by kernel_rfl)) | (intro a w d w'; first | exact noDefer_p | exact noDefer_v | exact noDefer_u)))) ?hR (by exact (fun hh : Ext v _ => ⟨hh, (BA.ext hh).cell⟩) ext_auto) (fun hHeld => ?_)
  case hR =>
    rintro c a v5 hd hkept ⟨rfl, hxv⟩
    have e6 := hkept 6 (by kernel_rfl)
    have e7 := hkept 7 (by kernel_rfl)
    simp at e6 e7
    replace hx := hx.trans hxv
    replace BO := BO.ext hxv; replace BE := BE.ext hxv
    show Leaves _ _ a.tmps _ a.defers _ _
    rw [hd]
    clear hkept hd
    refine leaves_point_pan 0 110 51 _ (BE.cell 0) (BE.frozen 0) (fun _ _ => by kernel_rfl) ?_
    refine (Move_clear _ _ _ (BO.setOther (by omega)) rfl).mono ?_
    rintro e' z ⟨rfl, hz⟩
    have hy : Ext w z := by rw [hz]; exact Ext.setRow ext_auto (by omega)
    have BF : Blk z (w.heap.size + 1) zPt 31 := by rw [hz]; exact Blk.setRowSame (BO.setOther (by omega))
    have BG : Blk z (w.heap.size + 1 + 1) #[.int .i64 110] 33 := by rw [hz]; exact Blk.setRowOther BE.setSame (by omega)
    clear hz
    exact ⟨rfl, .tuple #[pZ, .int .i64 110], results_pt_err Tryz.results23 e6 e7 BF rfl BG, rfl, hy⟩
  refine wpAnyH_take (i := 0) (oi := ({ dst := some 15, op := Go.Op.move (Go.Operand.tmp 8), type := 97, pos := "point.go:127", after := #[], guard := none } : Oper)) (v := ?_) rfl (by kernel_rfl) (by kernel_rfl) (by kernel_rfl) (fun _ _ _ h => h) (Or.inl ⟨by rfl, ?_⟩) (by assumption) ?_; rotate_left; (· (intro w hSw; (try dsimp only at hSw); go_simp; (try with_reducible rfl))); (try simp only [Act.put, List.setIfInBounds_toArray, List.set_cons_zero, List.set_cons_succ]); refine wpAnyH_take (i := 1) (oi := ({ dst := some 16, op := Go.Op.fieldAddr 31 (Go.Operand.tmp 3) 0, type := 0, pos := "point.go:127", after := #[], guard := none } : Oper)) (v := ?_) rfl (by kernel_rfl) (by kernel_rfl) (by kernel_rfl) (fun _ _ _ h => h) (Or.inl ⟨by rfl, ?_⟩) (by assumption) ?_; rotate_left; (· (intro w hSw; (try dsimp only at hSw); go_simp; (try with_reducible rfl))); (try simp only [Act.put, List.setIfInBounds_toArray, List.set_cons_zero, List.set_cons_succ]); refine wpAnyH_take (i := 2) (oi := ({ dst := some 17, op := Go.Op.load 29 (Go.Operand.tmp 16), type := 29, pos := "point.go:127", after := #[{ on := 1, ground := Go.Ground.data }], guard := none } : Oper)) (v := ?_) rfl (by kernel_rfl) (by kernel_rfl) (by kernel_rfl) (fun _ _ _ h => h) (Or.inl ⟨by rfl, ?_⟩) (by assumption) ?_; rotate_left; (· (intro w hSw; (try dsimp only at hSw); go_simp; (try with_reducible rfl))); (try simp only [Act.put, List.setIfInBounds_toArray, List.set_cons_zero, List.set_cons_succ]); refine wpAnyH_take (i := 3) (oi := ({ dst := some 18, op := Go.Op.move (Go.Operand.tmp 1), type := 2, pos := "point.go:127", after := #[], guard := none } : Oper)) (v := ?_) rfl (by kernel_rfl) (by kernel_rfl) (by kernel_rfl) (fun _ _ _ h => h) (Or.inl ⟨by rfl, ?_⟩) (by assumption) ?_; rotate_left; (· (intro w hSw; (try dsimp only at hSw); go_simp; (try with_reducible rfl))); (try simp only [Act.put, List.setIfInBounds_toArray, List.set_cons_zero, List.set_cons_succ]); refine wpAnyH_take (i := 6) (oi := ({ dst := some 21, op := Go.Op.fieldAddr 31 (Go.Operand.tmp 3) 1, type := 0, pos := "point.go:127", after := #[], guard := none } : Oper)) (v := ?_) rfl (by kernel_rfl) (by kernel_rfl) (by kernel_rfl) (fun _ _ _ h => h) (Or.inl ⟨by rfl, ?_⟩) (by assumption) ?_; rotate_left; (· (intro w hSw; (try dsimp only at hSw); go_simp; (try with_reducible rfl))); (try simp only [Act.put, List.setIfInBounds_toArray, List.set_cons_zero, List.set_cons_succ]); refine wpAnyH_take (i := 7) (oi := ({ dst := some 22, op := Go.Op.load 29 (Go.Operand.tmp 21), type := 29, pos := "point.go:127", after := #[{ on := 6, ground := Go.Ground.data }], guard := none } : Oper)) (v := ?_) rfl (by kernel_rfl) (by kernel_rfl) (by kernel_rfl) (fun _ _ _ h => h) (Or.inl ⟨by rfl, ?_⟩) (by assumption) ?_; rotate_left; (· (intro w hSw; (try dsimp only at hSw); go_simp; (try with_reducible rfl))); (try simp only [Act.put, List.setIfInBounds_toArray, List.set_cons_zero, List.set_cons_succ]); refine wpAnyH_take (i := 8) (oi := ({ dst := some 23, op := Go.Op.move (Go.Operand.tmp 2), type := 2, pos := "point.go:127", after := #[], guard := none } : Oper)) (v := ?_) rfl (by kernel_rfl) (by kernel_rfl) (by kernel_rfl) (fun _ _ _ h => h) (Or.inl ⟨by rfl, ?_⟩) (by assumption) ?_; rotate_left; (· (intro w hSw; (try dsimp only at hSw); go_simp; (try with_reducible rfl))); (try simp only [Act.put, List.setIfInBounds_toArray, List.set_cons_zero, List.set_cons_succ]); refine wpAnyH_ready (rs := [4]) (by kernel_rfl) (by simp) ?_; refine AllReadyH.cons (o := ({ dst := some 19, op := Go.Op.call { callee := Go.Callee.value (Go.Operand.func 33), args := #[Go.Operand.tmp 18], argTypes := #[2] }, type := 29, pos := "point.go:127", after := #[{ on := 3, ground := Go.Ground.data }], guard := none } : Oper)) rfl (fun K hK => ?_) AllReadyH.nil; (go_simp; (go_at_call 33; (with_reducible refine (o1 _).mono ?_); rintro e z1 ⟨rfl, hz_⟩; have hzz_ : Ext v z1 := Ext.trans ext_auto hz_)); refine hK.out _ _ ?_ (fun hHeld => ?_); (· ((try dsimp only); ((exact (fun hh : Ext v _ => ⟨hh, (BA.ext hh).cell⟩) ext_auto)))); clear hK K; (try simp only [Act.put, List.setIfInBounds_toArray, List.set_cons_zero, List.set_cons_succ]); refine wpAnyH_take (i := 5) (oi := ({ dst := some 20, op := Go.Op.build 31 #[(0, Go.Operand.tmp 17), (1, Go.Operand.tmp 19)], type := 31, pos := "point.go:127", after := #[{ on := 2, ground := Go.Ground.data }, { on := 4, ground := Go.Ground.data }], guard := none } : Oper)) (v := ?_) rfl (by kernel_rfl) (by kernel_rfl) (by kernel_rfl) (fun _ _ _ h => h) (Or.inl ⟨by rfl, ?_⟩) (by assumption) ?_; rotate_left; (· (intro w hSw; (try dsimp only at hSw); go_simp; (try with_reducible rfl))); (try simp only [Act.put, List.setIfInBounds_toArray, List.set_cons_zero, List.set_cons_succ]); refine wpAnyH_ready (rs := [9]) (by kernel_rfl) (by simp) ?_; refine AllReadyH.cons (o := ({ dst := some 24, op := Go.Op.call { callee := Go.Callee.value (Go.Operand.func 33), args := #[Go.Operand.tmp 23], argTypes := #[2] }, type := 29, pos := "point.go:127", after := #[{ on := 8, ground := Go.Ground.data }, { on := 4, ground := Go.Ground.chain }], guard := none } : Oper)) rfl (fun K hK => ?_) AllReadyH.nil; (go_simp; (go_at_call 33; (with_reducible refine (o2 _).mono ?_); rintro e z2 ⟨rfl, hz_⟩; have hzz_ : Ext v z2 := Ext.trans ext_auto hz_)); refine hK.out _ _ ?_ (fun hHeld => ?_); (· ((try dsimp only); ((exact (fun hh : Ext v _ => ⟨hh, (BA.ext hh).cell⟩) ext_auto)))); clear hK K; (try simp only [Act.put, List.setIfInBounds_toArray, List.set_cons_zero, List.set_cons_succ]); refine wpAnyH_take (i := 10) (oi := ({ dst := some 25, op := Go.Op.build 31 #[(0, Go.Operand.tmp 22), (1, Go.Operand.tmp 24)], type := 31, pos := "point.go:127", after := #[{ on := 7, ground := Go.Ground.data }, { on := 9, ground := Go.Ground.data }], guard := none } : Oper)) (v := ?_) rfl (by kernel_rfl) (by kernel_rfl) (by kernel_rfl) (fun _ _ _ h => h) (Or.inl ⟨by rfl, ?_⟩) (by assumption) ?_; rotate_left; (· (intro w hSw; (try dsimp only at hSw); go_simp; (try with_reducible rfl))); (try simp only [Act.put, List.setIfInBounds_toArray, List.set_cons_zero, List.set_cons_succ]); refine wpAnyH_ready (rs := [11]) (by kernel_rfl) (by simp) ?_; refine AllReadyH.cons (o := ({ dst := some 26, op := Go.Op.buildSlice 71 2 #[(0, Go.Operand.tmp 20), (1, Go.Operand.tmp 25)], type := 71, pos := "point.go:127", after := #[{ on := 5, ground := Go.Ground.data }, { on := 10, ground := Go.Ground.data }], guard := none } : Oper)) rfl (fun K hK => ?_) AllReadyH.nil; (go_simp); refine hK.out _ _ ?_ (fun hHeld => ?_); (· ((try dsimp only); ((exact (fun hh : Ext v _ => ⟨hh, (BA.ext hh).cell⟩) ext_auto)))); clear hK K; (try simp only [Act.put, List.setIfInBounds_toArray, List.set_cons_zero, List.set_cons_succ]); refine wpAnyH_ready (rs := [12]) (by kernel_rfl) (by simp) ?_; refine AllReadyH.cons (o := ({ dst := some 27, op := Go.Op.call { callee := Go.Callee.value (Go.Operand.func 49), args := #[Go.Operand.tmp 15, Go.Operand.tmp 26], argTypes := #[97, 71] }, type := 95, pos := "point.go:127", after := #[{ on := 0, ground := Go.Ground.data }, { on := 11, ground := Go.Ground.data }, { on := 9, ground := Go.Ground.chain }], guard := none } : Oper)) rfl (fun K hK => ?_) AllReadyH.nil; (go_simp; (go_at_call 49; (with_reducible refine (EE _ _ _ (hT.ext (hx.trans ext_auto)) (Blk.new _ _ _ rfl)).mono ?_); rintro e z ⟨rfl, hz_⟩; exact ⟨rfl, Ext.trans ext_auto hz_⟩))
  --s5
end Go.Proofs.YtmopgcbhmkemjaaGreatDoor

namespace Go.Proofs.YtmopgcbhmkemjaaGreatDoor
open Go Go.RowKit
set_option linter.unusedSimpArgs false
set_option linter.unusedVariables false
set_option maxRecDepth 100000
set_option exponentiation.threshold 3000

set_option maxHeartbeats 8000000 in
theorem Moves_out (a b : Rt) (dx dy : Int) (h : dx < -1099511627776 ∨ dx > 1099511627776 ∨ dy < -1099511627776 ∨ dy > 1099511627776) (w : World) (hT : Tab w) :
    Calls Tryz.prog 5 #[pV a b, .int .i64 dx, .int .i64 dy] w fun e w' => e = .returned (.bool true) ∧ Ext w w' := by
  have hx : Ext w w := Ext.refl w
  obtain ⟨s1, m1, t1, k1, _, _⟩ := a
  obtain ⟨s2, m2, t2, k2, _, _⟩ := b
  by_cases h1 : dx < -1099511627776
  · have e1 : decide (dx < -1099511627776) = true := by simpa using h1
    clear h h1
    go_enter Tryz.func5, Tryz.ntmps5
    go_wp2_with (go_at_call 18; (with_reducible refine (worksP_true _ (hT.ext (hx.trans ext_auto))).mono ?_); rintro e y9 ⟨rfl, hz_⟩; have hzz_ : Ext w y9 := Ext.trans ext_auto hz_)
    exact bodyPost_ret (v := .bool true) (by simp [results, Tryz.results5, go_sem]) rfl ⟨rfl, hzz_⟩
  · have e1 : decide (dx < -1099511627776) = false := by simpa using h1
    by_cases h2 : dx > 1099511627776
    · have e2 : decide (dx > 1099511627776) = true := by simpa using h2
      clear h h1 h2
      go_enter Tryz.func5, Tryz.ntmps5
      go_wp2_with (go_at_call 18; (with_reducible refine (worksP_true _ (hT.ext (hx.trans ext_auto))).mono ?_); rintro e y9 ⟨rfl, hz_⟩; have hzz_ : Ext w y9 := Ext.trans ext_auto hz_)
      exact bodyPost_ret (v := .bool true) (by simp [results, Tryz.results5, go_sem]) rfl ⟨rfl, hzz_⟩
    · have e2 : decide (dx > 1099511627776) = false := by simpa using h2
      by_cases h3 : dy < -1099511627776
      · have e3 : decide (dy < -1099511627776) = true := by simpa using h3
        clear h h1 h2 h3
        go_enter Tryz.func5, Tryz.ntmps5
        go_wp2_with (go_at_call 18; (with_reducible refine (worksP_true _ (hT.ext (hx.trans ext_auto))).mono ?_); rintro e y9 ⟨rfl, hz_⟩; have hzz_ : Ext w y9 := Ext.trans ext_auto hz_)
        exact bodyPost_ret (v := .bool true) (by simp [results, Tryz.results5, go_sem]) rfl ⟨rfl, hzz_⟩
      · have e3 : decide (dy < -1099511627776) = false := by simpa using h3
        have e4 : decide (dy > 1099511627776) = true := by simp; omega
        clear h h1 h2 h3
        go_enter Tryz.func5, Tryz.ntmps5
        go_wp2_with (go_at_call 18; (with_reducible refine (worksP_true _ (hT.ext (hx.trans ext_auto))).mono ?_); rintro e y9 ⟨rfl, hz_⟩; have hzz_ : Ext w y9 := Ext.trans ext_auto hz_)
        exact bodyPost_ret (v := .bool true) (by simp [results, Tryz.results5, go_sem]) rfl ⟨rfl, hzz_⟩
set_option maxHeartbeats 16000000 in
theorem Moves_no (a b : Rt) (dx dy : Int) (hb : -1099511627776 ≤ dx ∧ dx ≤ 1099511627776 ∧ -1099511627776 ≤ dy ∧ dy ≤ 1099511627776) (e : Int) (he : (e == 0) = false) (M : AnsT 23 #[pV a b, .int .i64 dx, .int .i64 dy] (.tuple #[pZ, .int .i64 e])) (w : World) (hT : Tab w) :
    Calls Tryz.prog 5 #[pV a b, .int .i64 dx, .int .i64 dy] w fun e w' => e = .returned (.bool true) ∧ Ext w w' := by
  have hx : Ext w w := Ext.refl w
  obtain ⟨s1, m1, t1, k1, _, _⟩ := a
  obtain ⟨s2, m2, t2, k2, _, _⟩ := b
  have e1 : decide (dx < -1099511627776) = false := by simpa using hb.1
  have e2 : decide (dx > 1099511627776) = false := by simpa using hb.2.1
  have e3 : decide (dy < -1099511627776) = false := by simpa using hb.2.2.1
  have e4 : decide (dy > 1099511627776) = false := by simpa using hb.2.2.2
  clear hb
  go_enter Tryz.func5, Tryz.ntmps5
  go_upto_region 3 with fail
  refine wp_rebase fun v0 hv => ?_
  replace hx : Ext w v0 := by rw [hv]; exact ext_auto
  have BA : Blk v0 w.heap.size (ptsV s1 m1 t1 k1 s2 m2 t2 k2) 31 := by rw [hv]; exact blk_auto
  clear hv e1 e2 e3 e4
  have lBA := BA.lt; have cBA := BA.cell; have fBA := BA.frozen
  go_upto_region 4 with (first | ((with_reducible apply wpList_store_row info_point); (case hs => exact rfl); (case hv => exact rfl); (case hB => exact blk_auto); (case hy => rfl); (case hc => rfl); (case h1 => rfl)) | ((with_reducible apply wpList_load_row Tryz.isAgg31 Tryz.sizeOf31); (case hw => (simp [go_sem, Region.wanted, yielded]; done)); (case hs => exact rfl); (case hB => exact blk_auto); (case hc => rfl)) | (go_at_call 23; (with_reducible refine (M _ (hT.ext (hx.trans ext_auto))).mono ?_); rintro e y1 ⟨rfl, hz_⟩; have hzz_ : Ext v0 y1 := Ext.trans ext_auto hz_))
  refine wp_rebase fun v hv => ?_
  have hzv : Ext y1 v := by rw [hv]; exact Ext.setRow ext_auto (Nat.le_refl _)
  clear hv
  replace hx := (hx.trans hzz_).trans hzv
  clear hzz_ hzv hz_ M
  go_wp2_with (first | (go_at_call 14; (with_reducible refine (num_p _ _).mono ?_); rintro e w2 ⟨rfl, h2_⟩; subst w2) | (go_at_call 18; (with_reducible refine (worksP_true _ (hT.ext (hx.trans ext_auto))).mono ?_); rintro e y9 ⟨rfl, hz_⟩; have hzz_ : Ext v y9 := Ext.trans ext_auto hz_))
  exact bodyPost_ret (v := .bool true) (by simp [results, Tryz.results5, go_sem]) rfl ⟨rfl, hx.trans hzz_⟩
set_option maxHeartbeats 16000000 in
theorem Moves_yes (a b S1 S2 : Rt) (dx dy : Int) (hb : -1099511627776 ≤ dx ∧ dx ≤ 1099511627776 ∧ -1099511627776 ≤ dy ∧ dy ≤ 1099511627776) (M : AnsT 23 #[pV a b, .int .i64 dx, .int .i64 dy] (.tuple #[pV S1 S2, .int .i64 0]))
    (M2 : AnsT 23 #[pV S1 S2, .int .i64 (-dx), .int .i64 (-dy)] (.tuple #[pV a b, .int .i64 0]))
    (C : Ans 21 #[pV S1 S2, pV a b] (.tuple #[.int .i64 (if dx < 0 then -1 else if dx = 0 then (if dy < 0 then -1 else if dy = 0 then 0 else 1) else 1), .int .i64 0])) (w : World) (hT : Tab w) :
    Calls Tryz.prog 5 #[pV a b, .int .i64 dx, .int .i64 dy] w fun e w' => e = .returned (.bool true) ∧ Ext w w' := by
  have hx : Ext w w := Ext.refl w
  have EQ := eqT_pt a b
  have n1 : IntKind.i64.wrap (-dx) = -dx := by rw [IntKind.wrap_i64]; omega
  have n2 : IntKind.i64.wrap (-dy) = -dy := by rw [IntKind.wrap_i64]; omega
  obtain ⟨s1, m1, t1, k1, _, _⟩ := a
  obtain ⟨s2, m2, t2, k2, _, _⟩ := b
  obtain ⟨s3, m3, t3, k3, _, _⟩ := S1
  obtain ⟨s4, m4, t4, k4, _, _⟩ := S2
  have e1 : decide (dx < -1099511627776) = false := by simpa using hb.1
  have e2 : decide (dx > 1099511627776) = false := by simpa using hb.2.1
  have e3 : decide (dy < -1099511627776) = false := by simpa using hb.2.2.1
  have e4 : decide (dy > 1099511627776) = false := by simpa using hb.2.2.2
  clear hb
  go_enter Tryz.func5, Tryz.ntmps5
  go_upto_region 3 with fail
  refine wp_rebase fun v0 hv => ?_
  replace hx : Ext w v0 := by rw [hv]; exact ext_auto
  have BA : Blk v0 w.heap.size (ptsV s1 m1 t1 k1 s2 m2 t2 k2) 31 := by rw [hv]; exact blk_auto
  clear hv e1 e2 e3 e4
  have lBA := BA.lt; have cBA := BA.cell; have fBA := BA.frozen
  go_upto_region 4 with (first | ((with_reducible apply wpList_store_row info_point); (case hs => exact rfl); (case hv => exact rfl); (case hB => exact blk_auto); (case hy => rfl); (case hc => rfl); (case h1 => rfl)) | ((with_reducible apply wpList_load_row Tryz.isAgg31 Tryz.sizeOf31); (case hw => (simp [go_sem, Region.wanted, yielded]; done)); (case hs => exact rfl); (case hB => exact blk_auto); (case hc => rfl)) | (go_at_call 23; (with_reducible refine (M _ (hT.ext (hx.trans ext_auto))).mono ?_); rintro e y1 ⟨rfl, hz_⟩; have hzz_ : Ext v0 y1 := Ext.trans ext_auto hz_))
  refine wp_rebase fun v hv => ?_
  have hzv : Ext y1 v := by rw [hv]; exact Ext.setRow ext_auto (Nat.le_refl _)
  have BM : Blk v y1.heap.size (ptsV s3 m3 t3 k3 s4 m4 t4 k4) 31 := by rw [hv]; exact Blk.setRowSame (Blk.new _ _ _ rfl)
  clear hv
  replace BA := (BA.ext hzz_).ext hzv
  replace hx := (hx.trans hzz_).trans hzv
  clear hzz_ hzv hz_ M lBA cBA fBA
  have lBA := BA.lt; have cBA := BA.cell; have fBA := BA.frozen; have lBM := BM.lt; have cBM := BM.cell; have fBM := BM.frozen
  go_upto_region 6 with (go_at_call 14; (with_reducible refine (num_p _ _).mono ?_); rintro e w2 ⟨rfl, h2_⟩; subst w2)
  go_upto_region 7 with (first | ((with_reducible apply wpList_store_row info_point); (case hs => exact rfl); (case hv => exact rfl); (case hB => exact blk_auto); (case hy => rfl); (case hc => rfl); (case h1 => rfl)) | ((with_reducible apply wpList_load_row Tryz.isAgg31 Tryz.sizeOf31); (case hw => (simp [go_sem, Region.wanted, yielded]; done)); (case hs => exact rfl); (case hB => exact blk_auto); (case hc => rfl)) | (go_at_call 23; (with_reducible refine (M2 _ (hT.ext (hx.trans ext_auto))).mono ?_); rintro e y2 ⟨rfl, hz_⟩; have hzz_ : Ext v y2 := Ext.trans ext_auto hz_))
  refine wp_rebase fun v2 hv => ?_
  have hzv : Ext y2 v2 := by rw [hv]; exact Ext.setRow ext_auto (Nat.le_refl _)
  have BB : Blk v2 y2.heap.size (ptsV s1 m1 t1 k1 s2 m2 t2 k2) 31 := by rw [hv]; exact Blk.setRowSame (Blk.new _ _ _ rfl)
  clear hv
  replace BA := (BA.ext hzz_).ext hzv; replace BM := (BM.ext hzz_).ext hzv
  replace hx := (hx.trans hzz_).trans hzv
  clear hzz_ hzv hz_ M2 lBA cBA fBA lBM cBM fBM n1 n2
  have lBA := BA.lt; have cBA := BA.cell; have fBA := BA.frozen; have lBM := BM.lt; have cBM := BM.cell; have fBM := BM.frozen; have lBB := BB.lt; have cBB := BB.cell; have fBB := BB.frozen
  go_upto_region 8 with (first | ((with_reducible apply wpList_load_row Tryz.isAgg31 Tryz.sizeOf31); (case hw => (simp [go_sem, Region.wanted, yielded]; done)); (case hs => exact rfl); (case hB => exact blk_auto); (case hc => rfl)) | (go_at_call 21; (with_reducible refine (C _).mono ?_); rintro e y3 ⟨rfl, hz_⟩; have hzz_ : Ext v2 y3 := Ext.trans ext_auto hz_))
  replace BA := BA.ext hzz_; replace BB := BB.ext hzz_; replace hx := hx.trans hzz_
  clear hzz_ hz_ C lBA cBA fBA lBM cBM fBM lBB cBB fBB BM
  obtain ⟨v, rfl⟩ : ∃ v', v' = y3 := ⟨_, rfl⟩
  have lBA := BA.lt; have cBA := BA.cell; have fBA := BA.frozen; have lBB := BB.lt; have cBB := BB.cell; have fBB := BB.frozen
  rcases Int.lt_trichotomy dx 0 with hd | hd | hd
  · have hc : (if dx < 0 then (-1 : Int) else if dx = 0 then (if dy < 0 then -1 else if dy = 0 then 0 else 1) else 1) = -1 := by rw [if_pos hd]
    have dx1 : decide (dx < 0) = true := by simp; omega
    have dx2 : (dx == 0) = false := by simp; omega
    have dx3 : decide (dx > 0) = false := by simp; omega
    rw [hc]
    go_wp2_with (first | ((with_reducible apply wpList_load_row Tryz.isAgg31 Tryz.sizeOf31); (case hw => (simp [go_sem, Region.wanted, yielded]; done)); (case hs => exact rfl); (case hB => exact blk_auto); (case hc => rfl)) | (go_at_call 14; (with_reducible refine (num_p _ _).mono ?_); rintro e w2 ⟨rfl, h2_⟩; subst w2) | (go_at_call 18; (with_reducible refine (worksP_true _ (hT.ext (hx.trans ext_auto))).mono ?_); rintro e y9 ⟨rfl, hz_⟩; have hzz_ : Ext v y9 := Ext.trans ext_auto hz_))
    exact bodyPost_ret (v := .bool true) (by simp [results, Tryz.results5, go_sem]) rfl ⟨rfl, hx.trans hzz_⟩
  · rcases Int.lt_trichotomy dy 0 with hd2 | hd2 | hd2
    · have hc : (if dx < 0 then (-1 : Int) else if dx = 0 then (if dy < 0 then -1 else if dy = 0 then 0 else 1) else 1) = -1 := by rw [if_neg (by omega), if_pos hd, if_pos hd2]
      have dx1 : decide (dx < 0) = false := by simp; omega
      have dx2 : (dx == 0) = true := by simp; omega
      have dx3 : decide (dx > 0) = false := by simp; omega
      have dy1 : decide (dy < 0) = true := by simp; omega
      have dy2 : (dy == 0) = false := by simp; omega
      have dy3 : decide (dy > 0) = false := by simp; omega
      rw [hc]
      go_wp2_with (first | ((with_reducible apply wpList_load_row Tryz.isAgg31 Tryz.sizeOf31); (case hw => (simp [go_sem, Region.wanted, yielded]; done)); (case hs => exact rfl); (case hB => exact blk_auto); (case hc => rfl)) | (go_at_call 14; (with_reducible refine (num_p _ _).mono ?_); rintro e w2 ⟨rfl, h2_⟩; subst w2) | (go_at_call 18; (with_reducible refine (worksP_true _ (hT.ext (hx.trans ext_auto))).mono ?_); rintro e y9 ⟨rfl, hz_⟩; have hzz_ : Ext v y9 := Ext.trans ext_auto hz_))
      exact bodyPost_ret (v := .bool true) (by simp [results, Tryz.results5, go_sem]) rfl ⟨rfl, hx.trans hzz_⟩
    · have hc : (if dx < 0 then (-1 : Int) else if dx = 0 then (if dy < 0 then -1 else if dy = 0 then 0 else 1) else 1) = 0 := by rw [if_neg (by omega), if_pos hd, if_neg (by omega), if_pos hd2]
      have dx1 : decide (dx < 0) = false := by simp; omega
      have dx2 : (dx == 0) = true := by simp; omega
      have dx3 : decide (dx > 0) = false := by simp; omega
      have dy1 : decide (dy < 0) = false := by simp; omega
      have dy2 : (dy == 0) = true := by simp; omega
      have dy3 : decide (dy > 0) = false := by simp; omega
      rw [hc]
      go_wp2_with (first | ((with_reducible apply wpList_load_row Tryz.isAgg31 Tryz.sizeOf31); (case hw => (simp [go_sem, Region.wanted, yielded]; done)); (case hs => exact rfl); (case hB => exact blk_auto); (case hc => rfl)) | (go_at_call 14; (with_reducible refine (num_p _ _).mono ?_); rintro e w2 ⟨rfl, h2_⟩; subst w2) | (go_at_call 18; (with_reducible refine (worksP_true _ (hT.ext (hx.trans ext_auto))).mono ?_); rintro e y9 ⟨rfl, hz_⟩; have hzz_ : Ext v y9 := Ext.trans ext_auto hz_))
      exact bodyPost_ret (v := .bool true) (by simp [results, Tryz.results5, go_sem]) rfl ⟨rfl, hx.trans hzz_⟩
    · have hc : (if dx < 0 then (-1 : Int) else if dx = 0 then (if dy < 0 then -1 else if dy = 0 then 0 else 1) else 1) = 1 := by rw [if_neg (by omega), if_pos hd, if_neg (by omega), if_neg (by omega)]
      have dx1 : decide (dx < 0) = false := by simp; omega
      have dx2 : (dx == 0) = true := by simp; omega
      have dx3 : decide (dx > 0) = false := by simp; omega
      have dy1 : decide (dy < 0) = false := by simp; omega
      have dy2 : (dy == 0) = false := by simp; omega
      have dy3 : decide (dy > 0) = true := by simp; omega
      rw [hc]
      go_wp2_with (first | ((with_reducible apply wpList_load_row Tryz.isAgg31 Tryz.sizeOf31); (case hw => (simp [go_sem, Region.wanted, yielded]; done)); (case hs => exact rfl); (case hB => exact blk_auto); (case hc => rfl)) | (go_at_call 14; (with_reducible refine (num_p _ _).mono ?_); rintro e w2 ⟨rfl, h2_⟩; subst w2) | (go_at_call 18; (with_reducible refine (worksP_true _ (hT.ext (hx.trans ext_auto))).mono ?_); rintro e y9 ⟨rfl, hz_⟩; have hzz_ : Ext v y9 := Ext.trans ext_auto hz_))
      exact bodyPost_ret (v := .bool true) (by simp [results, Tryz.results5, go_sem]) rfl ⟨rfl, hx.trans hzz_⟩
  · have hc : (if dx < 0 then (-1 : Int) else if dx = 0 then (if dy < 0 then -1 else if dy = 0 then 0 else 1) else 1) = 1 := by rw [if_neg (by omega), if_neg (by omega)]
    have dx1 : decide (dx < 0) = false := by simp; omega
    have dx2 : (dx == 0) = false := by simp; omega
    have dx3 : decide (dx > 0) = true := by simp; omega
    rw [hc]
    go_wp2_with (first | ((with_reducible apply wpList_load_row Tryz.isAgg31 Tryz.sizeOf31); (case hw => (simp [go_sem, Region.wanted, yielded]; done)); (case hs => exact rfl); (case hB => exact blk_auto); (case hc => rfl)) | (go_at_call 14; (with_reducible refine (num_p _ _).mono ?_); rintro e w2 ⟨rfl, h2_⟩; subst w2) | (go_at_call 18; (with_reducible refine (worksP_true _ (hT.ext (hx.trans ext_auto))).mono ?_); rintro e y9 ⟨rfl, hz_⟩; have hzz_ : Ext v y9 := Ext.trans ext_auto hz_))
    exact bodyPost_ret (v := .bool true) (by simp [results, Tryz.results5, go_sem]) rfl ⟨rfl, hx.trans hzz_⟩
end Go.Proofs.YtmopgcbhmkemjaaGreatDoor

namespace Go.Proofs.YtmopgcbhmkemjaaGreatDoor
open Go Go.RowKit
set_option linter.unusedSimpArgs false
set_option linter.unusedVariables false
set_option maxRecDepth 100000
set_option exponentiation.threshold 3000

/-- A part that is moved. -/
def mvS (a : Rt) (ha : a.pok = true) (d : Int) (hd : d.natAbs ≤ 9223372036854775808) : Rt := rt (a.q + (d : Rat)) (add_int_fits a.q (a.pok_fits ha) d hd)
theorem mvS_add (a : Rt) (ha : a.pok = true) (d : Int) (hd : d.natAbs ≤ 9223372036854775808) : AnsT 53 #[a.v, (rI d hd).v] (.tuple #[(mvS a ha d hd).v, .int .i64 0]) := fun w hT => by
  have := cAdd_yes a.q (d : Rat) (a.q_fits (a.pok_iff.1 ha).1) (pfits_fits (int_q d hd)) (add_int_fits a.q (a.pok_fits ha) d hd) w hT
  rwa [← a.v_q (a.pok_iff.1 ha).1] at this
theorem mvS_q (a : Rt) (ha : a.pok = true) (d : Int) (hd : d.natAbs ≤ 9223372036854775808) : (mvS a ha d hd).q = a.q + (d : Rat) := rt_q _ _
theorem mvS_ok (a : Rt) (ha : a.pok = true) (d : Int) (hd : d.natAbs ≤ 9223372036854775808) : (mvS a ha d hd).ok = true := rt_ok _ _
theorem mvS_pok (a : Rt) (ha : a.pok = true) (d : Int) (hd : d.natAbs ≤ 9223372036854775808) (h : (mvS a ha d hd).pf = true) : (mvS a ha d hd).pok = true := by
  unfold Rt.pok; rw [mvS_ok, h]; rfl
theorem mvS_back (a : Rt) (ha : a.pok = true) (d : Int) (hd : d.natAbs ≤ 9223372036854775808) (hd2 : (-d).natAbs ≤ 9223372036854775808) : AnsT 53 #[(mvS a ha d hd).v, (rI (-d) hd2).v] (.tuple #[a.v, .int .i64 0]) := fun w hT => by
  have oa := (a.pok_iff.1 ha).1
  have := cAdd_yes (a.q + (d : Rat)) ((-d : Int) : Rat) (add_int_fits a.q (a.pok_fits ha) d hd) (pfits_fits (int_q (-d) hd2)) (by rw [add_int_back]; exact a.q_fits oa) w hT
  rw [add_int_back, ← a.v_q oa] at this
  exact this
theorem movesP_true (a b : Rt) (dx : Int) (lx : -9223372036854775808 ≤ dx) (hx : dx ≤ 9223372036854775807) (dy : Int) (ly : -9223372036854775808 ≤ dy) (hy : dy ≤ 9223372036854775807) (w : World) (hT : Tab w) :
    Calls Tryz.prog 5 #[pV a b, .int .i64 dx, .int .i64 dy] w fun e w' => e = .returned (.bool true) ∧ Ext w w' := by
  by_cases ho : dx < -1099511627776 ∨ dx > 1099511627776 ∨ dy < -1099511627776 ∨ dy > 1099511627776
  · exact Moves_out a b dx dy ho w hT
  have hb : -1099511627776 ≤ dx ∧ dx ≤ 1099511627776 ∧ -1099511627776 ≤ dy ∧ dy ≤ 1099511627776 := by omega
  have nx : dx.natAbs ≤ 9223372036854775808 := by omega
  have ny : dy.natAbs ≤ 9223372036854775808 := by omega
  have nx' : (-dx).natAbs ≤ 9223372036854775808 := by omega
  have ny' : (-dy).natAbs ≤ 9223372036854775808 := by omega
  cases hp : (a.pok && b.pok) with
  | false => exact Moves_no a b dx dy hb 2 (by decide) (fun w _ => Move_bad a b hp dx dy w) w hT
  | true =>
    obtain ⟨ha, hbk⟩ : a.pok = true ∧ b.pok = true := by simpa using hp
    have o1 := rOf_I dx lx hx
    have o2 := rOf_I dy ly hy
    have A1 := mvS_add a ha dx nx
    have A2 := mvS_add b hbk dy ny
    cases p1 : (mvS a ha dx nx).pf with
    | false => exact Moves_no a b dx dy hb 110 (by decide) (Move_over_1 a b ha hbk dx dy _ _ _ (mvS b hbk dy ny) o1 o2 p1 A1) w hT
    | true =>
      cases p2 : (mvS b hbk dy ny).pf with
      | false => exact Moves_no a b dx dy hb 110 (by decide) (Move_over_2 a b ha hbk dx dy _ _ _ _ o1 o2 p1 p2 A1 A2) w hT
      | true =>
        have k1 := mvS_pok a ha dx nx p1
        have k2 := mvS_pok b hbk dy ny p2
        have M2 := Move_yes (mvS a ha dx nx) (mvS b hbk dy ny) k1 k2 (-dx) (-dy) _ _ a b (rOf_I (-dx) (by omega) (by omega)) (rOf_I (-dy) (by omega) (by omega)) (by have := (a.pok_iff.1 ha).2; unfold Rt.pf; simp [this]) (by have := (b.pok_iff.1 hbk).2; unfold Rt.pf; simp [this]) (mvS_back a ha dx nx nx') (mvS_back b hbk dy ny ny')
        have C := ptCmp_q (mvS a ha dx nx) (mvS b hbk dy ny) a b k1 k2 ha hbk
        have hc : cmpP (mvS a ha dx nx).q (mvS b hbk dy ny).q a.q b.q = if dx < 0 then -1 else if dx = 0 then (if dy < 0 then -1 else if dy = 0 then 0 else 1) else 1 := by
          unfold cmpP
          rw [mvS_q, mvS_q, cmpQ_add, cmpQ_add]
          by_cases h1 : dx < 0
          · simp [h1]
          · by_cases h2 : dx = 0
            · simp [h2]
            · simp [h1, h2]
        rw [hc] at C
        exact Moves_yes a b _ _ dx dy hb (Move_yes a b ha hbk dx dy _ _ _ _ o1 o2 p1 p2 A1 A2) M2 C w hT
end Go.Proofs.YtmopgcbhmkemjaaGreatDoor
