/- A world that has grown: 'w.ext d' is w with new blocks behind and more draws; the walk sees through it. Regions that draw their order, whose operations and callees at most make new memory: one walk of the text's order serves every order. Words: a magnitude's 64-bit words, sums and differences with carries: plain arithmetic. How numbers lie in values: an Int's words, a wide number's; the equality of arrays of words. Walks of limb's sums, differences, comparisons of magnitudes. Walks of limb's comparison, sign, of, bits. Products word by word: plain arithmetic. Walks of ratio's wide numbers: sums, differences, products. Walk of ratio's product of two Ints. Halves and trailing zeros of wide numbers: plain arithmetic. Walks of ratio's halves: shift, zeros, halved, odd. -/
import Derived.WalkKit
import Derived.WalkSpells
import Derived.WalkLawsBesides
import Derived.KernelRfl
import Derived.Deep.QuietTactic
import Derived.BigQuiet
import Derived.StillTail
import Derived.Lib.Hide
import Derived.Test.YtmopgcbhmkemjaaGreatDoorProg
import Derived.Shelf.Spec.BitsCarry
import Derived.Shelf.Bits.Mul64
import Derived.Lib.TrailingZeros
import Derived.Shelf.Spec.TrailingZeros
namespace Go.Proofs.YtmopgcbhmkemjaaGreatDoor
open Go Go.RowKit
set_option linter.unusedSimpArgs false
set_option linter.unusedVariables false
set_option linter.constructorNameAsVariable false

/-- What a world has grown by: new blocks, more draws. -/
structure Gr where
  obs : Array Obj
  n : Nat → Nat

instance : Inhabited Gr := ⟨⟨#[], fun k => k⟩⟩

def grow (w : World) (d : Gr) : World := { w with heap := w.heap ++ d.obs, drawn := d.n w.drawn }
def Ext (w w' : World) : Prop := ∃ d, w' = grow w d

section
variable (w : World) (d e : Gr) (o : Obj) (v : Value)

@[simp, go_sem] theorem size_grow : (grow w d).heap.size = w.heap.size + d.obs.size := by simp [grow]
@[simp, go_sem] theorem tape_grow : (grow w d).tape = w.tape := rfl
theorem block_grow (k : Nat) (h : k < w.heap.size) : (grow w d).heap[k]? = w.heap[k]? := by simp [grow, Array.getElem?_append, h]
@[go_sem] theorem cell_grow (b i : Nat) (h : b < w.heap.size) : (grow w d).cell? ⟨b, i, none⟩ = w.cell? ⟨b, i, none⟩ :=
  World.cell?_of_block (w := w) (block_grow w d b h)
@[go_sem] theorem frozen_grow (b i : Nat) (h : b < w.heap.size) : (grow w d).frozen? ⟨b, i, none⟩ = w.frozen? ⟨b, i, none⟩ :=
  World.frozen?_of_block (w := w) (block_grow w d b h)
theorem cell_grow' (p : Addr) (u : Value) (h : w.cell? p = some u) : (grow w d).cell? p = some u := by
  rw [World.cell?_of_block (w := w) (block_grow w d p.block (World.block_lt_of_cell? _ _ h)), h]
@[go_sem] theorem setCell_grow (b i : Nat) (h : b < w.heap.size) : (grow w d).setCell ⟨b, i, none⟩ v = grow (w.setCell ⟨b, i, none⟩ v) d := by
  simp only [grow, World.setCell]
  congr 1
  apply Array.ext_getElem?
  intro k
  simp only [Array.getElem?_append, Array.getElem?_modify, Array.size_modify]
  by_cases hk : k < w.heap.size
  · simp [hk, Array.getElem?_modify, Array.getElem?_append]
  · have : ¬ b = k := by omega
    simp [hk, this, Array.getElem?_append]
@[simp, go_sem] theorem drew_grow : (grow w d).drew = grow w ⟨d.obs, fun k => d.n k + 1⟩ := rfl
@[simp, go_sem] theorem grow_drew : grow w.drew d = grow w ⟨d.obs, fun k => d.n (k + 1)⟩ := rfl
@[simp, go_sem] theorem grow_grow : grow (grow w d) e = grow w ⟨d.obs ++ e.obs, fun k => e.n (d.n k)⟩ := by simp [grow]
@[simp, go_sem] theorem drewN_grow (k : Nat) : (grow w d).drewN k = grow w ⟨d.obs, fun j => d.n j + k⟩ := by simp [grow, World.drewN]

theorem grow_none : grow w ⟨#[], fun k => k⟩ = w := by simp [grow]
@[go_sem] theorem lt_obs (n m : Nat) (h : n < m) : n < m + d.obs.size := by omega
@[go_sem] theorem le_obs (n m : Nat) (h : n ≤ m) : n ≤ m + d.obs.size := by omega
/-- A block laid in a grown world is forgotten. -/
theorem grow_alloc_grow : grow ((grow w d).alloc o) e = grow w ⟨d.obs.push o ++ e.obs, fun k => e.n (d.n k)⟩ := by
  simp [grow, World.alloc]
theorem Ext.refl : Ext w w := ⟨⟨#[], fun k => k⟩, by simp [grow]⟩
variable {w} {w' w'' : World}
theorem Ext.trans (h : Ext w w') (h' : Ext w' w'') : Ext w w'' := by
  obtain ⟨d, rfl⟩ := h; obtain ⟨e, rfl⟩ := h'; exact ⟨_, grow_grow _ _ _⟩
theorem Ext.alloc (h : Ext w w') : Ext w (w'.alloc o) := by
  obtain ⟨d, rfl⟩ := h; exact ⟨⟨d.obs.push o, d.n⟩, by simp [grow, World.alloc]⟩
theorem Ext.drew (h : Ext w w') : Ext w w'.drew := by obtain ⟨d, rfl⟩ := h; exact ⟨_, drew_grow _ _⟩
theorem Ext.drewN (h : Ext w w') (k : Nat) : Ext w (w'.drewN k) := by obtain ⟨d, rfl⟩ := h; exact ⟨_, drewN_grow _ _ _⟩
theorem Ext.grow (h : Ext w w') : Ext w (grow w' d) := h.trans ⟨d, rfl⟩
theorem Ext.size (h : Ext w w') : w.heap.size ≤ w'.heap.size := by obtain ⟨d, rfl⟩ := h; simp
theorem Ext.block (h : Ext w w') (k : Nat) (hk : k < w.heap.size) : w'.heap[k]? = w.heap[k]? := by obtain ⟨d, rfl⟩ := h; exact block_grow _ _ _ hk
theorem Ext.cell (h : Ext w w') {p : Addr} {u : Value} (hc : w.cell? p = some u) : w'.cell? p = some u := by
  obtain ⟨d, rfl⟩ := h; exact cell_grow' _ _ _ _ hc
theorem Ext.below (h : Ext w w') : Below w.heap.size w w' := by
  obtain ⟨d, rfl⟩ := h; exact ⟨rfl, rfl, rfl, by simp, fun k hk => block_grow w d k hk⟩
/-- A store into a block that is new. -/
theorem Ext.setCell (h : Ext w w') (p : Addr) (hp : w.heap.size ≤ p.block) : Ext w (w'.setCell p v) := by
  obtain ⟨d, rfl⟩ := h
  refine ⟨⟨((Go.Proofs.YtmopgcbhmkemjaaGreatDoor.grow w d).setCell p v).heap.extract w.heap.size ((Go.Proofs.YtmopgcbhmkemjaaGreatDoor.grow w d).setCell p v).heap.size, d.n⟩, ?_⟩
  have e : ((Go.Proofs.YtmopgcbhmkemjaaGreatDoor.grow w d).setCell p v).heap = w.heap ++ ((Go.Proofs.YtmopgcbhmkemjaaGreatDoor.grow w d).setCell p v).heap.extract w.heap.size ((Go.Proofs.YtmopgcbhmkemjaaGreatDoor.grow w d).setCell p v).heap.size := by
    apply Array.ext_getElem?
    intro k
    rw [Array.getElem?_append]
    by_cases hk : k < w.heap.size
    · rw [if_pos hk, Below.heap_setCell _ _ _ _ (by omega), block_grow _ _ _ hk]
    · rw [if_neg hk, Array.getElem?_extract]
      by_cases hk2 : k < ((Go.Proofs.YtmopgcbhmkemjaaGreatDoor.grow w d).setCell p v).heap.size
      · rw [if_pos (by omega), show w.heap.size + (k - w.heap.size) = k by omega]
      · rw [if_neg (by omega), Array.getElem?_eq_none (by omega)]
  conv => lhs; rw [show (Go.Proofs.YtmopgcbhmkemjaaGreatDoor.grow w d).setCell p v = { (Go.Proofs.YtmopgcbhmkemjaaGreatDoor.grow w d).setCell p v with heap := ((Go.Proofs.YtmopgcbhmkemjaaGreatDoor.grow w d).setCell p v).heap } from rfl, e]
  rfl
theorem Ext.of_below (h : Below w.heap.size w w') : Ext w w' := by
  refine ⟨⟨w'.heap.extract w.heap.size w'.heap.size, fun _ => w'.drawn⟩, ?_⟩
  obtain ⟨h1, h2, h3, h4, h5⟩ := h
  have e : w'.heap = w.heap ++ w'.heap.extract w.heap.size w'.heap.size := by
    apply Array.ext_getElem?
    intro k
    rw [Array.getElem?_append]
    by_cases hk : k < w.heap.size
    · rw [if_pos hk, h5 _ hk]
    · rw [if_neg hk, Array.getElem?_extract]
      by_cases hk2 : k < w'.heap.size
      · rw [if_pos (by omega), show w.heap.size + (k - w.heap.size) = k by omega]
      · rw [if_neg (by omega), Array.getElem?_eq_none (by omega)]
  cases w'; cases w; simp only [Go.Proofs.YtmopgcbhmkemjaaGreatDoor.grow] at *
  simp only [World.mk.injEq]
  exact ⟨e, h2, trivial, h1, h3⟩
end

theorem grow_inj (X Y : World) : (∀ d, grow X d = grow Y d) ↔ X = Y := by
  constructor
  · intro h
    have := h ⟨#[], fun k => k⟩
    cases X; cases Y
    simpa [grow] using this
  · rintro rfl d; rfl
attribute [go_sem] grow_inj

/-! ### Regions that draw their order: operations of three kinds: 'p': the same in whatever world; 'r': reads, or calls that at most make memory; 'w': a store. -/
inductive RK where | p | r | w

def RK.clash : RK → RK → Bool
  | .w, .r | .r, .w | .w, .w => true
  | _, _ => false

section
variable {P : Program} {ops : Array Oper} {md : Region.Mode}

/-- What an operation of a kind does, in a state over a base world. -/
def RK.does (P : Program) (k : RK) (o : Oper) (a : Act) (W : World) (v : Value) (W' : World) : Prop :=
  match k with
  | .p => (∀ w, (execOp a.eval o).run P w = .ok (.value v) w) ∧ W' = W
  | .r => (∀ d, Oper.quietUpon P (Ext W) (grow W d) v ((execOp a.eval o).run P (grow W d))) ∧ W' = W
  | .w => (∀ d, (execOp a.eval o).run P (grow W d) = .ok .skip (grow W' d)) ∧ v = undef

def RK.yields (P : Program) (ops : Array Oper) (k : RK) (o : Oper) (a : Act) (W : World) (v : Value) (W' : World) : Prop :=
  (Region.wanted o (yielded ops a.tmps) = true ∧ k.does P o a W v W') ∨ (Region.wanted o (yielded ops a.tmps) = false ∧ v = undef ∧ W' = W)

def anyK (P : Program) (md : Region.Mode) (ops : Array Oper) (ks : List RK) (Q : Act → World → Prop) : Nat → Array Bool → Act → World → Prop
  | 0, listed, a, W => Region.ready md ops listed = [] ∧ Q a W
  | f + 1, listed, a, W => (Region.ready md ops listed = [] → Q a W) ∧
    ∀ i ∈ Region.ready md ops listed, ∃ o v W', ops[i]? = some o ∧ (ks.getD i .w).yields P ops o a W v W' ∧ anyK P md ops ks Q f (listed.setIfInBounds i true) (a.put o.dst v) W'

theorem wpOp_of_yields {k : RK} {i : Nat} {o : Oper} {a : Act} {W : World} {v : Value} {W' : World} {K : Act → World → Prop} {Q' : Exit → Act → World → Prop}
    (hi : ops[i]? = some o) (hy : k.yields P ops o a W v W') (hK : ∀ w, Ext W' w → K (a.put o.dst v) w) (w : World) (hw : Ext W w) : wpOp P ops Q' i K a w := by
  unfold wpOp
  simp only [hi]
  rcases hy with ⟨hwt, hd⟩ | ⟨hwt, rfl, rfl⟩
  · rw [if_pos hwt]
    refine .inl ?_
    unfold Oper.wp
    obtain ⟨d, rfl⟩ := hw
    cases k with
    | p =>
      obtain ⟨h1, rfl⟩ := hd
      rw [h1]; exact hK _ ⟨d, rfl⟩
    | r =>
      obtain ⟨h1, rfl⟩ := hd
      have h3 := h1 d
      generalize (execOp a.eval o).run P (grow W' d) = r at *
      cases r with
      | ok n w' =>
        cases n <;> simp only [Oper.quietUpon] at h3 <;> simp only [Oper.upon]
        case value u => obtain ⟨e1, e2⟩ := h3; rw [e1, e2]; exact hK _ ⟨d, rfl⟩
        case skip => obtain ⟨e1, e2⟩ := h3; rw [e1, ← e2]; exact hK _ ⟨d, rfl⟩
        case enter f args =>
          obtain ⟨e1, hc⟩ := h3
          rw [e1]
          exact hc.mono fun e w'' ⟨he, hw''⟩ => by subst he; exact hK _ hw''
      | halt x w' => simp only [Oper.quietUpon] at h3
    | w =>
      obtain ⟨h1, rfl⟩ := hd
      rw [h1]; exact hK _ ⟨d, rfl⟩
  · rw [if_neg (by rw [hwt]; exact Bool.false_ne_true)]
    exact hK _ hw

theorem wpAny_of_anyK {ks : List RK} {Q : Act → World → Prop} {Q' : Exit → Act → World → Prop} (hQ : ∀ a W, Q a W → ∀ w, Ext W w → Q' .normal a w) :
    ∀ (f : Nat) (listed : Array Bool) (a : Act) (W : World), anyK P md ops ks Q f listed a W → ∀ w, Ext W w → wpAny P md ops Q' f listed a w
  | 0, _, _, _, h, w, hw => ⟨h.1, hQ _ _ h.2 w hw⟩
  | f + 1, listed, a, W, h, w, hw => ⟨fun h0 => hQ _ _ (h.1 h0) w hw, fun i hi => by
      obtain ⟨o, v, W', ho, hy, hn⟩ := h.2 i hi
      exact wpOp_of_yields ho hy (fun w' hw' => wpAny_of_anyK hQ f _ _ _ hn w' hw') w hw⟩

theorem does_same {k : RK} {o : Oper} {a a' : Act} {W W' : World} {v : Value} (he : execOp a'.eval o = execOp a.eval o) (h : k.does P o a W v W') : k.does P o a' W v W' := by
  cases k <;> simp only [RK.does, he] at * <;> exact h

theorem yields_swap {ki kj : RK} {oi oj : Oper} {a : Act} {W W' W'' : World} {v u : Value} (hap : oi.apart ops oj = true) (hcl : ki.clash kj = false)
    (hsi : ∀ cs b, oi.op ≠ .select cs b) (hsj : ∀ cs b, oj.op ≠ .select cs b)
    (hi : ki.yields P ops oi a W v W') (hj : kj.yields P ops oj (a.put oi.dst v) W' u W'') :
    ∃ Wj, kj.yields P ops oj a W u Wj ∧ ki.yields P ops oi (a.put oj.dst u) Wj v W'' := by
  obtain ⟨h1, h2, h3⟩ := Oper.apart_spec hap
  have ei := execOp_put oi hsi a oj.dst u h3
  have ej := execOp_put oj hsj a oi.dst v h1
  have wi := wanted_put oi a oj.dst u h3
  have wj := wanted_put oj a oi.dst v h1
  unfold RK.yields at *
  rw [wj] at hj
  rw [wi]
  have gj : ∀ {X Y}, kj.does P oj (a.put oi.dst v) X u Y → kj.does P oj a X u Y := fun h => does_same ej.symm h
  have gi : ∀ {X Y}, ki.does P oi a X v Y → ki.does P oi (a.put oj.dst u) X v Y := fun h => does_same ei h
  rcases hi with ⟨hiw, hid⟩ | ⟨hiw, rfl, rfl⟩
  · rcases hj with ⟨hjw, hjd⟩ | ⟨hjw, rfl, rfl⟩
    · replace hjd := gj hjd
      cases ki <;> cases kj <;> simp only [RK.clash, Bool.true_eq_false] at hcl
      · obtain ⟨p1, rfl⟩ := hid; obtain ⟨q1, rfl⟩ := hjd
        exact ⟨_, .inl ⟨hjw, q1, rfl⟩, .inl ⟨hiw, gi ⟨p1, rfl⟩⟩⟩
      · obtain ⟨p1, rfl⟩ := hid; obtain ⟨q1, rfl⟩ := hjd
        exact ⟨_, .inl ⟨hjw, q1, rfl⟩, .inl ⟨hiw, gi ⟨p1, rfl⟩⟩⟩
      · obtain ⟨p1, rfl⟩ := hid
        exact ⟨W'', .inl ⟨hjw, hjd⟩, .inl ⟨hiw, gi ⟨p1, rfl⟩⟩⟩
      · obtain ⟨p1, rfl⟩ := hid; obtain ⟨q1, rfl⟩ := hjd
        exact ⟨_, .inl ⟨hjw, q1, rfl⟩, .inl ⟨hiw, gi ⟨p1, rfl⟩⟩⟩
      · obtain ⟨p1, rfl⟩ := hid; obtain ⟨q1, rfl⟩ := hjd
        exact ⟨_, .inl ⟨hjw, q1, rfl⟩, .inl ⟨hiw, gi ⟨p1, rfl⟩⟩⟩
      · obtain ⟨q1, rfl⟩ := hjd
        exact ⟨W, .inl ⟨hjw, q1, rfl⟩, .inl ⟨hiw, gi hid⟩⟩
    · exact ⟨W, .inr ⟨hjw, rfl, rfl⟩, .inl ⟨hiw, gi hid⟩⟩
  · rcases hj with ⟨hjw, hjd⟩ | ⟨hjw, rfl, rfl⟩
    · exact ⟨W'', .inl ⟨hjw, gj hjd⟩, .inr ⟨hiw, rfl, rfl⟩⟩
    · exact ⟨_, .inr ⟨hjw, rfl, rfl⟩, .inr ⟨hiw, rfl, rfl⟩⟩

/-- What is listed bears with it all that it waits for. -/
def Clo (md : Region.Mode) (ops : Array Oper) (listed : Array Bool) : Prop :=
  ∀ (j : Nat) (oj : Oper), ops[j]? = some oj → listed.getD j false = true → ∀ e ∈ oj.after, Region.binds md e = true → listed.getD e.on false = true
theorem Clo.init (n : Nat) : Clo md ops (Array.replicate n false) := fun j oj _ hl => (by rw [getD_replicate_false] at hl; cases hl)
theorem Clo.set {i : Nat} {listed : Array Bool} (inv : Clo md ops listed) (hi : i ∈ Region.ready md ops listed) : Clo md ops (listed.setIfInBounds i true) := by
  obtain ⟨_, oi, hoi, hall⟩ := mem_ready.1 hi
  intro j oj hj hl e he hb
  by_cases hij : i = j
  · subst hij
    have : oj = oi := Option.some.inj (hj.symm.trans hoi)
    subst this
    exact getD_set_true (hall e he hb)
  · rw [getD_set_ne false hij] at hl
    exact getD_set_true (inv j oj hj hl e he hb)
/-- Does operation j wait for i, over f steps at most? -/
def anc (md : Region.Mode) (ops : Array Oper) : Nat → Nat → Nat → Bool
  | 0, _, _ => false
  | f + 1, j, i => match ops[j]? with
    | none => false
    | some oj => oj.after.any (fun e => Region.binds md e && e.on == i) || oj.after.any (fun e => Region.binds md e && anc md ops f e.on i)
theorem anc_listed {listed : Array Bool} (inv : Clo md ops listed) {i : Nat} : ∀ (f j : Nat), listed.getD j false = true → anc md ops f j i = true → listed.getD i false = true
  | 0, _, _, h => by cases h
  | f + 1, j, hj, h => by
    unfold anc at h
    cases ho : ops[j]? with
    | none => rw [ho] at h; cases h
    | some oj =>
      rw [ho] at h
      simp only [Bool.or_eq_true] at h
      rcases h with h | h
      · obtain ⟨e, he, hb⟩ := Array.any_eq_true'.1 h
        simp only [Bool.and_eq_true, beq_iff_eq] at hb
        rw [← hb.2]; exact inv j oj ho hj e he hb.1
      · obtain ⟨e, he, hb⟩ := Array.any_eq_true'.1 h
        simp only [Bool.and_eq_true] at hb
        exact anc_listed inv f e.on (inv j oj ho hj e he hb.1) hb.2
theorem anc_ready {listed : Array Bool} (inv : Clo md ops listed) {i j f : Nat} (hj : j ∈ Region.ready md ops listed) (hi : listed.getD i true = false) : anc md ops f j i = false := by
  cases h : anc md ops f j i with
  | false => rfl
  | true =>
    exfalso
    obtain ⟨_, oj, ho, hall⟩ := mem_ready.1 hj
    cases f with
    | zero => cases h
    | succ f =>
      unfold anc at h
      rw [ho] at h
      simp only [Bool.or_eq_true] at h
      have : listed.getD i false = true := by
        rcases h with h | h
        · obtain ⟨e, he, hb⟩ := Array.any_eq_true'.1 h
          simp only [Bool.and_eq_true, beq_iff_eq] at hb
          rw [← hb.2]; exact hall e he hb.1
        · obtain ⟨e, he, hb⟩ := Array.any_eq_true'.1 h
          simp only [Bool.and_eq_true] at hb
          exact anc_listed inv f e.on (hall e he hb.1) hb.2
      rw [getD_both hi] at this
      cases this

theorem anyK_first {ks : List RK} {Q : Act → World → Prop} {i : Nat} {oi : Oper} {v : Value} (hi : ops[i]? = some oi) (hsel : ∀ (j : Nat) (o : Oper) cs b, ops[j]? = some o → o.op ≠ .select cs b) :
    ∀ (fuel : Nat) (listed : Array Bool) (a : Act) (W W' : World), Clo md ops listed →
      (∀ j oj, ops[j]? = some oj → j ≠ i → listed.getD j true = false → anc md ops 2 j i = false → oi.apart ops oj = true ∧ (ks.getD i .w).clash (ks.getD j .w) = false) →
      i ∈ Region.ready md ops listed → (ks.getD i .w).yields P ops oi a W v W' →
      anyK P md ops ks Q fuel (listed.setIfInBounds i true) (a.put oi.dst v) W' → anyK P md ops ks Q (fuel + 1) listed a W := by
  intro fuel
  induction fuel with
  | zero =>
    intro listed a W W' inv _ hr hy H
    refine ⟨fun h => (by rw [h] at hr; cases hr), fun j hj => ?_⟩
    by_cases hji : j = i
    · subst hji; exact ⟨oi, v, W', hi, hy, H⟩
    · have := ready_mono hj hji
      rw [H.1] at this
      cases this
  | succ fuel ih =>
    intro listed a W W' inv hfree hr hy H
    refine ⟨fun h => (by rw [h] at hr; cases hr), fun j hj => ?_⟩
    by_cases hji : j = i
    · subst hji; exact ⟨oi, v, W', hi, hy, H⟩
    · obtain ⟨oj', u, W'', hoj', hyj, hn⟩ := H.2 j (ready_mono hj hji)
      obtain ⟨hjun, oj, hoj, hall⟩ := mem_ready.1 hj
      obtain rfl : oj = oj' := Option.some.inj (hoj.symm.trans hoj')
      have hnot : anc md ops 2 j i = false := anc_ready inv hj (mem_ready.1 hr).1
      obtain ⟨hap, hcl⟩ := hfree j oj hoj hji hjun hnot
      obtain ⟨Wj, hj1, hi1⟩ := yields_swap hap hcl (fun cs b => hsel i oi cs b hi) (fun cs b => hsel j oj cs b hoj) hy hyj
      refine ⟨oj, u, Wj, hoj, hj1, ?_⟩
      have hfree' : ∀ k ok, ops[k]? = some ok → k ≠ i → (listed.setIfInBounds j true).getD k true = false →
          anc md ops 2 k i = false → oi.apart ops ok = true ∧ (ks.getD i .w).clash (ks.getD k .w) = false := fun k ok hk hki hun hno => by
        refine hfree k ok hk hki ?_ hno
        by_cases hjk : j = k
        · subst hjk; exact hjun
        · rw [getD_set_ne true hjk] at hun; exact hun
      refine ih (listed.setIfInBounds j true) _ Wj W'' (inv.set hj) hfree' (ready_mono hr (Ne.symm hji)) hi1 ?_
      rw [Array.setIfInBounds_comm _ _ hji, ← Act.put_comm a v u (Oper.apart_spec hap).2.1]
      exact hn

def freeK (md : Region.Mode) (ops : Array Oper) (ks : List RK) (listed : Array Bool) (i : Nat) : Bool :=
  match ops[i]? with
  | none => false
  | some oi => (List.range ops.size).all fun j => j == i || listed.getD j true || match ops[j]? with
      | some oj => anc md ops 2 j i || (oi.apart ops oj && !(ks.getD i .w).clash (ks.getD j .w))
      | none => true

theorem freeK_spec {ks : List RK} {listed : Array Bool} {i : Nat} {oi : Oper} (hi : ops[i]? = some oi) (h : freeK md ops ks listed i = true) :
    ∀ j oj, ops[j]? = some oj → j ≠ i → listed.getD j true = false → anc md ops 2 j i = false → oi.apart ops oj = true ∧ (ks.getD i .w).clash (ks.getD j .w) = false := by
  intro j oj hj hji hun hno
  simp only [freeK, hi] at h
  have h1 := List.all_eq_true.1 h j (List.mem_range.2 (Array.getElem?_eq_some_iff.1 hj).1)
  rw [hun, hj] at h1
  simp only [Bool.or_false, Bool.or_eq_true, beq_iff_eq, Bool.and_eq_true, Bool.not_eq_true'] at h1
  rcases h1 with h1 | h1 | h1
  · exact absurd h1 hji
  · rw [hno] at h1; cases h1
  · exact h1

def lexK (md : Region.Mode) (ops : Array Oper) (ks : List RK) : Nat → Nat → Array Bool → Bool
  | 0, _, listed => (Region.ready md ops listed).isEmpty
  | f + 1, k, listed => (Region.ready md ops listed).contains k && freeK md ops ks listed k && lexK md ops ks f (k + 1) (listed.setIfInBounds k true)

/-- The walk in the text's order. -/
def wpK (P : Program) (ops : Array Oper) (Q : Act → World → Prop) : List Oper → List RK → Act → World → Prop
  | [], _, a, W => Q a W
  | o :: l, k :: ks, a, W => ∃ v W', k.yields P ops o a W v W' ∧ wpK P ops Q l ks (a.put o.dst v) W'
  | _ :: _, [], _, _ => False

theorem anyK_lex {ks : List RK} {Q : Act → World → Prop} (hs : Region.noSelect ops = true) : ∀ (l : List Oper) (lk : List RK) (k : Nat) (listed : Array Bool) (a : Act) (W : World), (∀ j, l[j]? = ops[k + j]?) → (∀ j, lk[j]? = ks[k + j]?) → Clo md ops listed →
    lexK md ops ks l.length k listed = true → wpK P ops Q l lk a W → anyK P md ops ks Q l.length listed a W
  | [], _, _, _, _, _, _, _, _, hB, h => ⟨by simpa [lexK] using hB, h⟩
  | o :: l, [], _, _, _, _, _, _, _, _, h => h.elim
  | o :: l, r :: lk, k, listed, a, W, hl, hk, inv, hB, h => by
    have h0 : ops[k]? = some o := by simpa using (hl 0).symm
    have hk0 : ks[k]? = some r := by simpa using (hk 0).symm
    have hkd : ks.getD k .w = r := by simp [List.getD_eq_getElem?_getD, hk0]
    simp only [List.length_cons, lexK, Bool.and_eq_true] at hB
    obtain ⟨⟨hr, hf⟩, hB'⟩ := hB
    obtain ⟨v, W', hy, hn⟩ := h
    refine anyK_first h0 (Region.noSelect_spec hs) l.length listed a W W' inv (freeK_spec h0 hf) (by simpa using hr) (by rw [hkd]; exact hy)
      (anyK_lex hs l lk (k + 1) _ _ _ (fun j => by have := hl (j + 1); simpa [Nat.add_assoc, Nat.add_comm 1 j] using this) (fun j => by have := hk (j + 1); simpa [Nat.add_assoc, Nat.add_comm 1 j] using this) (inv.set (by simpa using hr)) hB' hn)

/-- A region that draws: one walk in the text's order, each operation of its kind. -/
theorem wp_region_k {id : Nat} {Q : Exit → Act → World → Prop} {a : Act} {w : World} {l : List Oper} (ks : List RK) (hm : P.follows .mixedOrders = true)
    (hB : (Region.noSelect l.toArray && lexK .any l.toArray ks l.length 0 (Array.replicate l.toArray.size false)) = true)
    (h : wpK P l.toArray (fun a' W' => ∀ d, Q .normal a' (grow W' d)) l ks a w) : (Code.region id l.toArray true).wp P Q a w := by
  simp only [Bool.and_eq_true] at hB
  refine wp_region_any hm ?_
  have := anyK_lex (md := .any) (ks := ks) hB.1 l ks 0 _ a w (by simp) (by simp) (Clo.init _) hB.2 h
  have h2 := wpAny_of_anyK (Q' := Q) (fun a W hq w' ⟨d, hd⟩ => hd ▸ hq d) _ _ _ _ this { w with drawn := w.drawn + 1 } (Ext.refl w).drew
  simpa using h2

/-- The same in a world that has grown out of w. -/
theorem wp_region_k' {id : Nat} {Q : Exit → Act → World → Prop} {a : Act} {w : World} {e : Gr} {l : List Oper} (ks : List RK) (hm : P.follows .mixedOrders = true)
    (hB : (Region.noSelect l.toArray && lexK .any l.toArray ks l.length 0 (Array.replicate l.toArray.size false)) = true)
    (h : wpK P l.toArray (fun a' W' => ∀ d, Q .normal a' (grow W' d)) l ks a w) : (Code.region id l.toArray true).wp P Q a (grow w e) := by
  simp only [Bool.and_eq_true] at hB
  refine wp_region_any hm ?_
  have := anyK_lex (md := .any) (ks := ks) hB.1 l ks 0 _ a w (by simp) (by simp) (Clo.init _) hB.2 h
  have h2 := wpAny_of_anyK (Q' := Q) (fun a W hq w' ⟨d, hd⟩ => hd ▸ hq d) _ _ _ _ this { grow w e with drawn := (grow w e).drawn + 1 } (Ext.drew ⟨e, rfl⟩)
  simpa using h2

theorem wpK_nil {Q : Act → World → Prop} {ks : List RK} {a : Act} {W : World} (h : Q a W) : wpK P ops Q [] ks a W := h
theorem wpK_p {Q : Act → World → Prop} {o : Oper} {l : List Oper} {ks : List RK} {a : Act} {W : World} (hg : o.guard = none)
    (h : ∀ K : Act → World → Prop, (∀ a W, wpK P ops Q l ks a W → K a W) → ∃ v, (∀ w, (execOp a.eval o).run P w = .ok (.value v) w) ∧ K (a.put o.dst v) W) : wpK P ops Q (o :: l) (.p :: ks) a W := by
  obtain ⟨v, h1, h2⟩ := h _ (fun _ _ h => h)
  exact ⟨v, W, .inl ⟨by simp [Region.wanted, hg], h1, rfl⟩, h2⟩
theorem wpK_r {Q : Act → World → Prop} {o : Oper} {l : List Oper} {ks : List RK} {a : Act} {W : World} (hg : o.guard = none)
    (h : ∀ K : Act → World → Prop, (∀ a W, wpK P ops Q l ks a W → K a W) → ∃ v, (∀ d, Oper.quietUpon P (Ext W) (grow W d) v ((execOp a.eval o).run P (grow W d))) ∧ K (a.put o.dst v) W) : wpK P ops Q (o :: l) (.r :: ks) a W := by
  obtain ⟨v, h1, h2⟩ := h _ (fun _ _ h => h)
  exact ⟨v, W, .inl ⟨by simp [Region.wanted, hg], h1, rfl⟩, h2⟩
theorem wpK_w {Q : Act → World → Prop} {o : Oper} {l : List Oper} {ks : List RK} {a : Act} {W : World} (hg : o.guard = none)
    (h : ∀ K : Act → World → Prop, (∀ a W, wpK P ops Q l ks a W → K a W) → ∃ W', (∀ d, (execOp a.eval o).run P (grow W d) = .ok .skip (grow W' d)) ∧ K (a.put o.dst undef) W') : wpK P ops Q (o :: l) (.w :: ks) a W := by
  obtain ⟨W', h1, h2⟩ := h _ (fun _ _ h => h)
  exact ⟨undef, W', .inl ⟨by simp [Region.wanted, hg], h1, rfl⟩, h2⟩
/-- A guarded operation: its guard's word first. -/
theorem wpK_skip {Q : Act → World → Prop} {o : Oper} {l : List Oper} {k : RK} {ks : List RK} {a : Act} {W : World} (hw : Region.wanted o (yielded ops a.tmps) = false)
    (h : wpK P ops Q l ks (a.put o.dst undef) W) : wpK P ops Q (o :: l) (k :: ks) a W := ⟨undef, W, .inr ⟨hw, rfl, rfl⟩, h⟩
theorem wpK_want {Q : Act → World → Prop} {o : Oper} {l : List Oper} {k : RK} {ks : List RK} {a : Act} {W : World} (hw : Region.wanted o (yielded ops a.tmps) = true)
    (h : wpK P ops Q ({ o with guard := none } :: l) (k :: ks) a W) : wpK P ops Q (o :: l) (k :: ks) a W := by
  obtain ⟨v, W', hy, hn⟩ := h
  refine ⟨v, W', ?_, hn⟩
  rcases hy with ⟨_, hd⟩ | ⟨h0, _⟩
  · refine .inl ⟨hw, ?_⟩
    cases k <;> exact hd
  · simp [Region.wanted] at h0

/-! A head of such operations, in any order, and behind it a tail in its order, walked as everywhere. -/
def anyKL (P : Program) (md : Region.Mode) (ops : Array Oper) (ks : List RK) (n : Nat) (L : Array Bool → Act → World → Prop) : Nat → Array Bool → Act → World → Prop
  | 0, listed, a, W => L listed a W
  | f + 1, listed, a, W => Region.ready md ops listed ≠ [] ∧
    ∀ i ∈ Region.ready md ops listed, i < n ∧ ∃ o v W', ops[i]? = some o ∧ (ks.getD i .w).yields P ops o a W v W' ∧ anyKL P md ops ks n L f (listed.setIfInBounds i true) (a.put o.dst v) W'

theorem wpAny_of_anyKL {ks : List RK} {n g : Nat} {L : Array Bool → Act → World → Prop} {Q' : Exit → Act → World → Prop} (hL : ∀ listed a W, L listed a W → ∀ w, Ext W w → wpAny P md ops Q' g listed a w) :
    ∀ (f : Nat) (listed : Array Bool) (a : Act) (W : World), anyKL P md ops ks n L f listed a W → ∀ w, Ext W w → wpAny P md ops Q' (f + g) listed a w
  | 0, listed, a, W, h, w, hw => by rw [Nat.zero_add]; exact hL _ _ _ h w hw
  | f + 1, listed, a, W, h, w, hw => by
    rw [show f + 1 + g = (f + g) + 1 by omega]
    exact ⟨fun h0 => absurd h0 h.1, fun i hi => by
      obtain ⟨_, o, v, W', ho, hy, hn⟩ := h.2 i hi
      exact wpOp_of_yields ho hy (fun w' hw' => wpAny_of_anyKL hL f _ _ _ hn w' hw') w hw⟩

theorem anyKL_first {ks : List RK} {n : Nat} {L : Array Bool → Act → World → Prop} {i : Nat} {oi : Oper} {v : Value} (hi : ops[i]? = some oi) (hsel : ∀ (j : Nat) (o : Oper) cs b, ops[j]? = some o → o.op ≠ .select cs b)
    (hs : Region.sinkB md ops n = true) (hc : Region.chainB md ops n = true) (hn : n < ops.size) (hin : i < n)
    (hdone : ∀ listed a W, L listed a W → ∀ j ∈ Region.ready md ops listed, n ≤ j) :
    ∀ (fuel : Nat) (listed : Array Bool) (a : Act) (W W' : World), HeadInv md ops n listed →
      (∀ j oj, ops[j]? = some oj → j < n → j ≠ i → listed.getD j true = false → anc md ops 2 j i = false → oi.apart ops oj = true ∧ (ks.getD i .w).clash (ks.getD j .w) = false) →
      i ∈ Region.ready md ops listed → (ks.getD i .w).yields P ops oi a W v W' →
      anyKL P md ops ks n L fuel (listed.setIfInBounds i true) (a.put oi.dst v) W' → anyKL P md ops ks n L (fuel + 1) listed a W := by
  intro fuel
  induction fuel with
  | zero =>
    intro listed a W W' inv _ hr hy H
    have hun := (mem_ready.1 hr).1
    refine ⟨fun h => (by rw [h] at hr; cases hr), fun j hj => ?_⟩
    have hjn : j < n := by
      rcases Nat.lt_or_ge j n with h | h
      · exact h
      · exact absurd hj (tail_waits hs hc hn inv _ i rfl hin hun j h)
    refine ⟨hjn, ?_⟩
    by_cases hji : j = i
    · subst hji; exact ⟨oi, v, W', hi, hy, H⟩
    · have := hdone _ _ _ H j (ready_mono hj hji)
      omega
  | succ fuel ih =>
    intro listed a W W' inv hfree hr hy H
    have hun := (mem_ready.1 hr).1
    refine ⟨fun h => (by rw [h] at hr; cases hr), fun j hj => ?_⟩
    have hjn : j < n := by
      rcases Nat.lt_or_ge j n with h | h
      · exact h
      · exact absurd hj (tail_waits hs hc hn inv _ i rfl hin hun j h)
    refine ⟨hjn, ?_⟩
    by_cases hji : j = i
    · subst hji; exact ⟨oi, v, W', hi, hy, H⟩
    · obtain ⟨_, oj', u, W'', hoj', hyj, hn'⟩ := H.2 j (ready_mono hj hji)
      obtain ⟨hjun, oj, hoj, hall⟩ := mem_ready.1 hj
      obtain rfl : oj = oj' := Option.some.inj (hoj.symm.trans hoj')
      have hnot : anc md ops 2 j i = false := anc_ready inv.closed hj hun
      obtain ⟨hap, hcl⟩ := hfree j oj hoj hjn hji hjun hnot
      obtain ⟨Wj, hj1, hi1⟩ := yields_swap hap hcl (fun cs b => hsel i oi cs b hi) (fun cs b => hsel j oj cs b hoj) hy hyj
      refine ⟨oj, u, Wj, hoj, hj1, ?_⟩
      have hfree' : ∀ k ok, ops[k]? = some ok → k < n → k ≠ i → (listed.setIfInBounds j true).getD k true = false →
          anc md ops 2 k i = false → oi.apart ops ok = true ∧ (ks.getD i .w).clash (ks.getD k .w) = false := fun k ok hk hkn hki hun hno => by
        refine hfree k ok hk hkn hki ?_ hno
        by_cases hjk : j = k
        · subst hjk; exact hjun
        · rw [getD_set_ne true hjk] at hun; exact hun
      refine ih (listed.setIfInBounds j true) _ Wj W'' (inv.set hj hjn) hfree' (ready_mono hr (Ne.symm hji)) hi1 ?_
      rw [Array.setIfInBounds_comm _ _ hji, ← Act.put_comm a v u (Oper.apart_spec hap).2.1]
      exact hn'

def freeKn (md : Region.Mode) (ops : Array Oper) (ks : List RK) (n : Nat) (listed : Array Bool) (i : Nat) : Bool :=
  match ops[i]? with
  | none => false
  | some oi => (List.range n).all fun j => j == i || listed.getD j true || match ops[j]? with
      | some oj => anc md ops 2 j i || (oi.apart ops oj && !(ks.getD i .w).clash (ks.getD j .w))
      | none => true

theorem freeKn_spec {ks : List RK} {listed : Array Bool} {n i : Nat} {oi : Oper} (hi : ops[i]? = some oi) (h : freeKn md ops ks n listed i = true) :
    ∀ j oj, ops[j]? = some oj → j < n → j ≠ i → listed.getD j true = false → anc md ops 2 j i = false → oi.apart ops oj = true ∧ (ks.getD i .w).clash (ks.getD j .w) = false := by
  intro j oj hj hjn hji hun hno
  simp only [freeKn, hi] at h
  have h1 := List.all_eq_true.1 h j (List.mem_range.2 hjn)
  rw [hun, hj] at h1
  simp only [Bool.or_false, Bool.or_eq_true, beq_iff_eq, Bool.and_eq_true, Bool.not_eq_true'] at h1
  rcases h1 with h1 | h1 | h1
  · exact absurd h1 hji
  · rw [hno] at h1; cases h1
  · exact h1

def lexKH (md : Region.Mode) (ops : Array Oper) (ks : List RK) (n g : Nat) : Nat → Nat → Array Bool → Bool
  | 0, k, listed => Region.seqB md ops g k listed
  | f + 1, k, listed => (Region.ready md ops listed).contains k && freeKn md ops ks n listed k && lexKH md ops ks n g f (k + 1) (listed.setIfInBounds k true)

theorem anyKL_lex {ks : List RK} {n g : Nat} {Lq : Act → World → Prop} (hsel : Region.noSelect ops = true) (hs : Region.sinkB md ops n = true) (hc : Region.chainB md ops n = true) (hn : n < ops.size) :
    ∀ (l : List Oper) (lk : List RK) (k : Nat) (listed : Array Bool) (a : Act) (W : World), (∀ j, j < l.length → l[j]? = ops[k + j]?) → (∀ j, lk[j]? = ks[k + j]?) → k + l.length = n → HeadInv md ops n listed →
    lexKH md ops ks n g l.length k listed = true → wpK P ops Lq l lk a W →
    anyKL P md ops ks n (fun listed' a' W' => Region.seqB md ops g n listed' = true ∧ Lq a' W') l.length listed a W
  | [], _, k, listed, a, W, _, _, hk, _, hB, h => by
    have : k = n := by simpa using hk
    subst this
    exact ⟨by simpa [lexKH] using hB, h⟩
  | o :: l, [], _, _, _, _, _, _, _, _, _, h => h.elim
  | o :: l, kd :: lk, k, listed, a, W, hl, hks, hk, inv, hB, h => by
    have h0 : ops[k]? = some o := by simpa using (hl 0 (by simp)).symm
    have hk0 : ks[k]? = some kd := by simpa using (hks 0).symm
    have hkd : ks.getD k .w = kd := by simp [List.getD_eq_getElem?_getD, hk0]
    simp only [List.length_cons, lexKH, Bool.and_eq_true] at hB
    obtain ⟨⟨hr, hf⟩, hB'⟩ := hB
    have hkn : k < n := by simp only [List.length_cons] at hk; omega
    have hr' : k ∈ Region.ready md ops listed := by simpa using hr
    obtain ⟨v, W', hy, hn'⟩ := h
    exact anyKL_first h0 (Region.noSelect_spec hsel) hs hc hn hkn (fun listed' a' W' hL => seqB_ready hL.1) l.length listed a W W' inv (freeKn_spec h0 hf) hr' (by rw [hkd]; exact hy)
      (anyKL_lex hsel hs hc hn l lk (k + 1) _ _ _ (fun j hj => by have := hl (j + 1) (by simp; omega); simpa [Nat.add_assoc, Nat.add_comm 1 j] using this) (fun j => by have := hks (j + 1); simpa [Nat.add_assoc, Nat.add_comm 1 j] using this) (by simp only [List.length_cons] at hk; omega) (inv.set hr' hkn) hB' hn')

def lexKT (ops : Array Oper) (ks : List RK) (n : Nat) : Bool :=
  Region.noSelect ops && decide (n < ops.size) && Region.sinkB .any ops n && Region.chainB .any ops n && lexKH .any ops ks n (ops.size - n) n 0 (Array.replicate ops.size false)

theorem wp_region_kt' {id : Nat} {Q : Exit → Act → World → Prop} {a : Act} {w : World} {e : Gr} {l : List Oper} (n : Nat) (ks : List RK) (hm : P.follows .mixedOrders = true) (hB : lexKT l.toArray ks n = true)
    (h : wpK P l.toArray (fun a' W' => ∀ d, wpList P l.toArray Q (l.drop n) a' (grow W' d)) (l.take n) ks a w) : (Code.region id l.toArray true).wp P Q a (grow w e) := by
  simp only [lexKT, Bool.and_eq_true, decide_eq_true_eq] at hB
  obtain ⟨⟨⟨⟨hsel, hn⟩, hs⟩, hc⟩, hlex⟩ := hB
  have hn' : n < l.length := by simpa using hn
  have htl : (l.take n).length = n := by simp; omega
  have hdl : (l.drop n).length = l.toArray.size - n := by simp
  have inv0 : HeadInv .any l.toArray n (Array.replicate l.toArray.size false) :=
    ⟨by simp, fun j oj _ hl => (by rw [getD_replicate_false] at hl; cases hl), fun t _ ht => getD_in (by simpa using ht) (getD_replicate_false _ _)⟩
  have H := anyKL_lex (md := .any) (g := l.toArray.size - n) (ks := ks) hsel hs hc hn (l.take n) ks 0 _ a w (fun j hj => by
    have hj' : j < n := by rw [htl] at hj; exact hj
    simp [hj']) (by simp) (by simpa using htl) inv0 (by rw [htl]; exact hlex) h
  refine wp_region_any hm ?_
  have := wpAny_of_anyKL (Q' := Q) (g := l.toArray.size - n) (fun listed a' W' hL w' hw' => by
    obtain ⟨d, rfl⟩ := hw'
    have := wpAny_of_seq (md := .any) (Q' := Q) (l.drop n) n listed a' (grow W' d) (fun j => by simp [List.getElem?_drop]) (by rw [hdl]; exact hL.1) (hL.2 d)
    rwa [hdl] at this) _ _ _ _ H { grow w e with drawn := (grow w e).drawn + 1 } (Ext.drew ⟨e, rfl⟩)
  rw [htl, show n + (l.toArray.size - n) = l.toArray.size by omega] at this
  exact this
theorem wp_region_kt {id : Nat} {Q : Exit → Act → World → Prop} {a : Act} {w : World} {l : List Oper} (n : Nat) (ks : List RK) (hm : P.follows .mixedOrders = true) (hB : lexKT l.toArray ks n = true)
    (h : wpK P l.toArray (fun a' W' => ∀ d, wpList P l.toArray Q (l.drop n) a' (grow W' d)) (l.take n) ks a w) : (Code.region id l.toArray true).wp P Q a w := by
  have := wp_region_kt' (id := id) (e := ⟨#[], fun k => k⟩) n ks hm hB h
  simpa [grow] using this

/-- A callee's contract, met inside such a region. -/
theorem Calls.calm {f : FuncId} {args : Array Value} {w : World} {d : Gr} {v : Value}
    (h : Calls P f args (grow w d) fun e w' => e = .returned v ∧ Ext (grow w d) w') : Calls P f args (grow w d) fun e w'' => e = .returned v ∧ Ext w w'' :=
  h.mono fun _ _ ⟨he, hx⟩ => ⟨he, Ext.trans ⟨d, rfl⟩ hx⟩

end
end Go.Proofs.YtmopgcbhmkemjaaGreatDoor

namespace Go.Proofs.YtmopgcbhmkemjaaGreatDoor
set_option linter.unusedSimpArgs false
set_option linter.unusedVariables false

/-- 2^64. -/
def B : Nat := 18446744073709551616
theorem B_eq : B = 18446744073709551616 := rfl
theorem B_pos : 0 < B := by decide
theorem B_two : B = 2 ^ 64 := by decide
/-- 2^256, 2^576. -/
def B4 : Nat := B ^ 4
def B9 : Nat := B ^ 9
theorem B4_pos : 0 < B4 := by unfold B4; exact Nat.pow_pos B_pos
theorem B9_pos : 0 < B9 := by unfold B9; exact Nat.pow_pos B_pos
/-- The i-th word. -/
def wn (m i : Nat) : Nat := m / B ^ i % B
theorem wn_lt (m i : Nat) : wn m i < B := Nat.mod_lt _ B_pos
theorem wn_zero (i : Nat) : wn 0 i = 0 := by simp [wn]

/-- The carry into word i. -/
def cy (a b i : Nat) : Nat := (a % B ^ i + b % B ^ i) / B ^ i
theorem cy_zero (a b : Nat) : cy a b 0 = 0 := by simp [cy, Nat.mod_one]
theorem cy_le (a b i : Nat) : cy a b i ≤ 1 := by
  unfold cy
  have hp : 0 < B ^ i := Nat.pow_pos B_pos
  have h1 := Nat.mod_lt a hp
  have h2 := Nat.mod_lt b hp
  have : (a % B ^ i + b % B ^ i) / B ^ i < 2 := by rw [Nat.div_lt_iff_lt_mul hp]; omega
  omega
theorem mod_succ (a i : Nat) : a % B ^ (i + 1) = wn a i * B ^ i + a % B ^ i := by
  unfold wn
  rw [Nat.pow_succ, Nat.mod_mul, Nat.mul_comm (B ^ i)]; omega
theorem wn_of_mod (a i n : Nat) (h : i < n) : wn (a % B ^ n) i = wn a i := by
  unfold wn
  obtain ⟨k, rfl⟩ : ∃ k, n = i + 1 + k := ⟨n - (i + 1), by omega⟩
  rw [Nat.pow_add, Nat.pow_succ]
  rw [Nat.mul_assoc, Nat.mod_mul_right_div_self, Nat.mod_mul_right_mod]
theorem cy_succ (a b i : Nat) : (wn a i + wn b i + cy a b i) / B = cy a b (i + 1) := by
  have hp : 0 < B ^ i := Nat.pow_pos B_pos
  have e : a % B ^ (i + 1) + b % B ^ (i + 1) = (wn a i + wn b i) * B ^ i + (a % B ^ i + b % B ^ i) := by
    rw [mod_succ, mod_succ, Nat.add_mul]; omega
  show _ = (a % B ^ (i + 1) + b % B ^ (i + 1)) / B ^ (i + 1)
  rw [e, Nat.pow_succ, ← Nat.div_div_eq_div_mul, Nat.add_comm ((wn a i + wn b i) * B ^ i), Nat.add_mul_div_right _ _ hp]
  unfold cy; rw [Nat.add_comm]
theorem wn_add (a b i : Nat) : (wn a i + wn b i + cy a b i) % B = wn (a + b) i := by
  have hp : 0 < B ^ i := Nat.pow_pos B_pos
  have e : a + b = (a / B ^ i + b / B ^ i) * B ^ i + (a % B ^ i + b % B ^ i) := by
    have h1 := Nat.div_add_mod a (B ^ i); have h2 := Nat.div_add_mod b (B ^ i)
    rw [Nat.add_mul, Nat.mul_comm (a / _), Nat.mul_comm (b / _)]; omega
  show _ = (a + b) / B ^ i % B
  have : (a + b) / B ^ i = a / B ^ i + b / B ^ i + cy a b i := by
    rw [e, Nat.add_comm, Nat.add_mul_div_right _ _ hp]; unfold cy; omega
  rw [this]; unfold wn
  rw [Nat.add_mod, Nat.add_mod (a / B ^ i % B), Nat.add_mod (a / B ^ i + b / B ^ i), Nat.add_mod (a / B ^ i)]
  simp
theorem cy_top (a b n : Nat) (ha : a < B ^ n) (hb : b < B ^ n) : cy a b n = (a + b) / B ^ n := by
  unfold cy; rw [Nat.mod_eq_of_lt ha, Nat.mod_eq_of_lt hb]

/-- The borrow out of the words below i. -/
def bw (a b i : Nat) : Nat := if a % B ^ i < b % B ^ i then 1 else 0
theorem bw_zero (a b : Nat) : bw a b 0 = 0 := by simp [bw, Nat.mod_one]
theorem bw_le (a b i : Nat) : bw a b i ≤ 1 := by unfold bw; split <;> omega
theorem bw_succ (a b i : Nat) : (if wn a i < wn b i + bw a b i then 1 else 0) = bw a b (i + 1) := by
  have hp : 0 < B ^ i := Nat.pow_pos B_pos
  have h1 := Nat.mod_lt a hp
  have h2 := Nat.mod_lt b hp
  unfold bw
  rw [mod_succ, mod_succ]
  generalize wn a i = x at *
  generalize wn b i = y at *
  generalize a % B ^ i = p at *
  generalize b % B ^ i = q at *
  generalize B ^ i = s at *
  by_cases hpq : p < q
  · rw [if_pos hpq]
    by_cases hxy : x < y + 1
    · rw [if_pos hxy, if_pos]
      have : x * s ≤ y * s := Nat.mul_le_mul_right _ (by omega)
      omega
    · rw [if_neg hxy, if_neg]
      have : (y + 1) * s ≤ x * s := Nat.mul_le_mul_right _ (by omega)
      rw [Nat.add_mul] at this; omega
  · rw [if_neg hpq]
    by_cases hxy : x < y + 0
    · rw [if_pos hxy, if_pos]
      have : (x + 1) * s ≤ y * s := Nat.mul_le_mul_right _ (by omega)
      rw [Nat.add_mul] at this; omega
    · rw [if_neg hxy, if_neg]
      have : y * s ≤ x * s := Nat.mul_le_mul_right _ (by omega)
      omega
/-- The i-th word of the difference, modulo B^n. -/
theorem wn_sub (a b i n : Nat) (hi : i < n) (ha : a < B ^ n) (hb : b < B ^ n) : (wn a i + B - wn b i - bw a b i) % B = wn ((a + B ^ n - b) % B ^ n) i := by
  rw [wn_of_mod _ _ _ hi]
  have hx := wn_lt a i
  have hy := wn_lt b i
  have hbl := bw_le a b i
  have hB : 1 < B := by decide
  have hp : 0 < B ^ i := Nat.pow_pos B_pos
  -- d = a + B^n - b;  d + b = a + B^n
  generalize hd : a + B ^ n - b = d
  have hdb : d + b = a + B ^ n := by omega
  have hw : wn (d + b) i = wn a i := by
    rw [hdb]
    obtain ⟨k, rfl⟩ : ∃ k, n = i + 1 + k := ⟨n - (i + 1), by omega⟩
    unfold wn
    rw [show B ^ (i + 1 + k) = B ^ i * (B * B ^ k) by rw [Nat.pow_add, Nat.pow_succ, Nat.mul_assoc], Nat.add_mul_div_left _ _ hp, Nat.add_mul_mod_self_left]
  have hadd := wn_add d b i
  rw [hw] at hadd
  -- cy d b i = bw a b i
  have hmod : (d + b) % B ^ i = a % B ^ i := by
    rw [hdb]
    obtain ⟨k, rfl⟩ : ∃ k, n = i + 1 + k := ⟨n - (i + 1), by omega⟩
    rw [show B ^ (i + 1 + k) = B ^ i * (B * B ^ k) by rw [Nat.pow_add, Nat.pow_succ, Nat.mul_assoc], Nat.add_mul_mod_self_left]
  have hcb : cy d b i = bw a b i := by
    have h1 := Nat.mod_lt d hp
    have h2 := Nat.mod_lt b hp
    have h3 := cy_le d b i
    unfold bw
    rw [← hmod, Nat.add_mod]
    unfold cy at *
    generalize d % B ^ i = p at *
    generalize b % B ^ i = q at *
    generalize B ^ i = s at *
    by_cases hs : p + q < s
    · rw [Nat.mod_eq_of_lt hs, Nat.div_eq_of_lt hs, if_neg (by omega)]
    · have e : p + q = (p + q - s) + s := by omega
      rw [e, Nat.add_mod_right, Nat.mod_eq_of_lt (by omega), Nat.add_div_right _ hp, Nat.div_eq_of_lt (by omega), if_pos (by omega)]
  rw [hcb] at hadd
  have hz := wn_lt d i
  generalize wn a i = x at *
  generalize wn b i = y at *
  generalize wn d i = z at *
  generalize bw a b i = c at *
  -- (z + y + c) % B = x ; show (x + B - y - c) % B = z
  by_cases h : z + y + c < B
  · rw [Nat.mod_eq_of_lt h] at hadd
    rw [show x + B - y - c = z + B by omega, Nat.add_mod_right, Nat.mod_eq_of_lt hz]
  · have e : (z + y + c) % B = z + y + c - B := by
      rw [show z + y + c = (z + y + c - B) + B by omega, Nat.add_mod_right, Nat.mod_eq_of_lt (by omega)]; omega
    rw [e] at hadd
    rw [show x + B - y - c = z by omega, Nat.mod_eq_of_lt hz]
theorem bw_top (a b n : Nat) (ha : a < B ^ n) (hb : b < B ^ n) : bw a b n = if a < b then 1 else 0 := by
  unfold bw; rw [Nat.mod_eq_of_lt ha, Nat.mod_eq_of_lt hb]
theorem sub_top (a b n : Nat) (ha : a < B ^ n) (h : b ≤ a) : (a + B ^ n - b) % B ^ n = a - b := by
  rw [show a + B ^ n - b = (a - b) + B ^ n by omega, Nat.add_mod_right, Nat.mod_eq_of_lt (by omega)]

/-- Words make the number. -/
theorem of_words : ∀ (n m : Nat), m < B ^ n → ∀ m', m' < B ^ n → (∀ i, i < n → wn m i = wn m' i) → m = m' := by
  intro n
  induction n with
  | zero => intro m hm m' hm' _; simp at hm hm'; omega
  | succ n ih =>
    intro m hm m' hm' h
    have h1 := ih (m % B ^ n) (Nat.mod_lt _ (Nat.pow_pos B_pos)) (m' % B ^ n) (Nat.mod_lt _ (Nat.pow_pos B_pos)) (fun i hi => by rw [wn_of_mod _ _ _ hi, wn_of_mod _ _ _ hi]; exact h i (by omega))
    have h2 := mod_succ m n; have h3 := mod_succ m' n
    rw [Nat.mod_eq_of_lt hm] at h2; rw [Nat.mod_eq_of_lt hm'] at h3
    rw [h2, h3, h1, h n (by omega)]
theorem eq4 {a b : Nat} (ha : a < B4) (hb : b < B4) : a = b ↔ wn a 0 = wn b 0 ∧ wn a 1 = wn b 1 ∧ wn a 2 = wn b 2 ∧ wn a 3 = wn b 3 := by
  constructor
  · rintro rfl; simp
  · rintro ⟨h0, h1, h2, h3⟩
    refine of_words 4 a ha b hb (fun i hi => ?_)
    rcases (by omega : i = 0 ∨ i = 1 ∨ i = 2 ∨ i = 3) with rfl | rfl | rfl | rfl <;> assumption
theorem eq9 {a b : Nat} (ha : a < B9) (hb : b < B9) : a = b ↔ wn a 0 = wn b 0 ∧ wn a 1 = wn b 1 ∧ wn a 2 = wn b 2 ∧ wn a 3 = wn b 3 ∧ wn a 4 = wn b 4 ∧ wn a 5 = wn b 5 ∧ wn a 6 = wn b 6 ∧ wn a 7 = wn b 7 ∧ wn a 8 = wn b 8 := by
  constructor
  · rintro rfl; simp
  · rintro ⟨h0, h1, h2, h3, h4, h5, h6, h7, h8⟩
    refine of_words 9 a ha b hb (fun i hi => ?_)
    rcases (by omega : i = 0 ∨ i = 1 ∨ i = 2 ∨ i = 3 ∨ i = 4 ∨ i = 5 ∨ i = 6 ∨ i = 7 ∨ i = 8) with rfl | rfl | rfl | rfl | rfl | rfl | rfl | rfl | rfl <;> assumption
/-- Any four words below B are those of a number. -/
def num4 (x0 x1 x2 x3 : Nat) : Nat := x0 + B * (x1 + B * (x2 + B * x3))
theorem num4_lt {x0 x1 x2 x3 : Nat} (h0 : x0 < B) (h1 : x1 < B) (h2 : x2 < B) (h3 : x3 < B) : num4 x0 x1 x2 x3 < B4 := by
  unfold num4 B4; rw [B_eq] at *; omega
theorem wn_num4 {x0 x1 x2 x3 : Nat} (h0 : x0 < B) (h1 : x1 < B) (h2 : x2 < B) (h3 : x3 < B) :
    wn (num4 x0 x1 x2 x3) 0 = x0 ∧ wn (num4 x0 x1 x2 x3) 1 = x1 ∧ wn (num4 x0 x1 x2 x3) 2 = x2 ∧ wn (num4 x0 x1 x2 x3) 3 = x3 := by
  unfold wn num4; rw [B_eq] at *; simp only [Nat.reducePow, Nat.pow_zero, Nat.div_one]; omega
theorem wn_high (m i : Nat) (h : m < B ^ i) : wn m i = 0 := by unfold wn; rw [Nat.div_eq_of_lt h]; rfl
theorem wn_small (m : Nat) (h : m < B) : wn m 0 = m := by simp [wn, Nat.mod_eq_of_lt h]
end Go.Proofs.YtmopgcbhmkemjaaGreatDoor

namespace Go.Proofs.YtmopgcbhmkemjaaGreatDoor
open Go Go.RowKit
set_option linter.unusedSimpArgs false
set_option linter.unusedVariables false
set_option maxRecDepth 100000

abbrev q64 (n : Nat) : Value := .int .u64 (n : Int)
abbrev magV (m : Nat) : Value := .agg #[q64 (wn m 0), q64 (wn m 1), q64 (wn m 2), q64 (wn m 3)]
abbrev intV (s : Bool) (m : Nat) : Value := .agg #[.bool s, q64 (wn m 0), q64 (wn m 1), q64 (wn m 2), q64 (wn m 3)]
abbrev wideV (m : Nat) : Value := .agg #[q64 (wn m 0), q64 (wn m 1), q64 (wn m 2), q64 (wn m 3), q64 (wn m 4), q64 (wn m 5), q64 (wn m 6), q64 (wn m 7), q64 (wn m 8)]

@[go_sem] theorem wrap_i64_in (n : Int) (h1 : -9223372036854775808 ≤ n) (h2 : n ≤ 9223372036854775807) : IntKind.i64.wrap n = n := by rw [IntKind.wrap_i64]; omega
@[go_sem] theorem wrap_u64_in (n : Int) (h1 : 0 ≤ n) (h2 : n ≤ 18446744073709551615) : IntKind.u64.wrap n = n := by rw [IntKind.wrap_u64]; omega

section
variable {P : Program} (w : World)
/-- Arrays, element by element. -/
def eqElems (n : Nat) (e : TypeId) (sz : Nat) (xs ys : Array Value) : List Nat → Sem Bool
  | [] => pure true
  | i :: l => do
    let a ← part e xs (i * sz)
    let b ← part e ys (i * sz)
    let r ← Op.equalIn n e a b
    if (!r) = true then pure false else eqElems n e sz xs ys l

theorem run_equalIn_array (n : Nat) (t e : TypeId) (len sz : Nat) (xs ys : Array Value) (ht : P.underlying t = some (.array len e)) (hs : ∀ w, (sizeOf e).run P w = .ok sz w) :
    (Op.equalIn (n + 1) t (.agg xs) (.agg ys)).run P w = (eqElems n e sz xs ys (List.range' 0 len)).run P w := by
  simp only [Op.equalIn, Sem.run_bind, run_underlying ht, Result.andThen_ok, hs, Std.Legacy.Range.forIn_eq_forIn_range', Std.Legacy.Range.size, Nat.sub_zero, Nat.add_sub_cancel, Nat.div_one]
  generalize List.range' 0 len = l
  induction l generalizing w with
  | nil => simp [eqElems]
  | cons i l ih =>
    simp only [List.forIn_cons, eqElems, Sem.run_bind]
    generalize (part e xs (i * sz)).run P w = r1
    cases r1 with
    | halt x w1 => simp [Result.andThen]
    | ok a w1 =>
      simp only [Result.andThen_ok]
      generalize (part e ys (i * sz)).run P w1 = r2
      cases r2 with
      | halt x w2 => simp [Result.andThen]
      | ok b w2 =>
        simp only [Result.andThen_ok]
        generalize (Op.equalIn n e a b).run P w2 = r3
        cases r3 with
        | halt x w3 => simp [Result.andThen]
        | ok r w3 =>
          cases r
          · simp only [Result.andThen_ok, Bool.not_false, if_true, Sem.run_pure]
          · simp only [Result.andThen_ok, Bool.not_true, Bool.false_eq_true, if_false, Sem.run_pure]
            exact ih w3
end

section
theorem size_u64 (w : World) : (sizeOf 24).run Tryz.prog w = .ok 1 w := by kernel_rfl
theorem part_u64 (xs : Array Value) (i : Nat) (h : i < xs.size) (w : World) : (part 24 xs i).run Tryz.prog w = .ok xs[i] w := by
  simp [part, size_u64, go_sem, h]
theorem run_eqElems_cons (P : Program) (n : Nat) (e sz : Nat) (xs ys : Array Value) (i : Nat) (l : List Nat) (x y : Value) (r : Bool) (w : World)
    (hx : (part e xs (i * sz)).run P w = .ok x w) (hy : (part e ys (i * sz)).run P w = .ok y w) (hr : (Op.equalIn n e x y).run P w = .ok r w) :
    (eqElems n e sz xs ys (i :: l)).run P w = if r then (eqElems n e sz xs ys l).run P w else .ok false w := by
  simp only [eqElems, Sem.run_bind, hx, hy, hr, Result.andThen_ok]
  cases r <;> simp
/-- Arrays of words are the same just if all words are. -/
theorem run_eqElems (n : Nat) (xs ys : Array Nat) (hl : ys.size = xs.size) (w : World) : ∀ (l : List Nat), (∀ i ∈ l, i < xs.size) →
    (eqElems (n + 1) 24 1 (xs.map q64) (ys.map q64) l).run Tryz.prog w = .ok (decide (∀ i ∈ l, xs.getD i 0 = ys.getD i 0)) w
  | [], _ => by simp [eqElems]
  | i :: l, h => by
    have hi := h i (by simp)
    have hj : i < ys.size := by omega
    rw [run_eqElems_cons Tryz.prog (n + 1) _ 1 _ _ i l (q64 xs[i]) (q64 ys[i]) (xs[i] == ys[i]) w
      (by rw [part_u64 _ _ (by simpa using hi)]; simp) (by rw [part_u64 _ _ (by simpa using hj)]; simp)
      (by rw [run_equalIn_int (P := Tryz.prog) (h := Tryz.underlying24)]; congr 1; rw [Bool.eq_iff_iff, beq_iff_eq, beq_iff_eq]; omega)]
    rw [run_eqElems n xs ys hl w l (fun k hk => h k (by simp [hk]))]
    by_cases e : xs[i] = ys[i]
    · simp [e, hi, hj]
    · simp [e, hi, hj]
theorem run_eq_arr4 (t : TypeId) (ht : Tryz.prog.underlying t = some (.array 4 24)) (n a0 a1 a2 a3 b0 b1 b2 b3 : Nat) (w : World) :
    (Op.equalIn (n + 2) t (.agg #[q64 a0, q64 a1, q64 a2, q64 a3]) (.agg #[q64 b0, q64 b1, q64 b2, q64 b3])).run Tryz.prog w = .ok (decide (a0 = b0 ∧ a1 = b1 ∧ a2 = b2 ∧ a3 = b3)) w := by
  rw [run_equalIn_array w (n + 1) t _ 4 1 _ _ ht size_u64]
  have := run_eqElems n #[a0, a1, a2, a3] #[b0, b1, b2, b3] rfl w (List.range' 0 4) (by intro i hi; simpa using hi)
  simp only [List.map_toArray, List.map_cons, List.map_nil] at this
  rw [this]; simp [List.range']
theorem run_eq_mag (t : TypeId) (ht : Tryz.prog.underlying t = some (.array 4 24)) (a b : Nat) (ha : a < B4) (hb : b < B4) (w : World) :
    (Op.equalIn 10000 t (magV a) (magV b)).run Tryz.prog w = .ok (decide (a = b)) w := by
  show (Op.equalIn (9998 + 2) t (magV a) (magV b)).run Tryz.prog w = _
  rw [run_eq_arr4 t ht]; simp only [← eq4 ha hb]
theorem magV_zero : magV 0 = .agg #[.int .u64 0, .int .u64 0, .int .u64 0, .int .u64 0] := by simp [magV, q64, wn_zero]
theorem wideV_zero : wideV 0 = .agg #[.int .u64 0, .int .u64 0, .int .u64 0, .int .u64 0, .int .u64 0, .int .u64 0, .int .u64 0, .int .u64 0, .int .u64 0] := by simp [wideV, q64, wn_zero]
theorem run_eq_mag0 (t : TypeId) (ht : Tryz.prog.underlying t = some (.array 4 24)) (a : Nat) (ha : a < B4) (w : World) :
    (Op.equalIn 10000 t (magV a) (.agg #[.int .u64 0, .int .u64 0, .int .u64 0, .int .u64 0])).run Tryz.prog w = .ok (decide (a = 0)) w := by
  rw [← magV_zero]; exact run_eq_mag t ht a 0 ha B4_pos w
@[go_sem] theorem run_eq_mag23 (a b : Nat) (ha : a < B4) (hb : b < B4) (w : World) : (Op.equalIn 10000 25 (magV a) (magV b)).run Tryz.prog w = .ok (decide (a = b)) w := run_eq_mag _ Tryz.underlying25 a b ha hb w
@[go_sem] theorem run_eq_mag23z (a : Nat) (ha : a < B4) (w : World) : (Op.equalIn 10000 25 (magV a) (.agg #[.int .u64 0, .int .u64 0, .int .u64 0, .int .u64 0])).run Tryz.prog w = .ok (decide (a = 0)) w := run_eq_mag0 _ Tryz.underlying25 a ha w
@[go_sem] theorem run_eq_magm (a b : Nat) (ha : a < B4) (hb : b < B4) (w : World) : (Op.equalIn 10000 156 (magV a) (magV b)).run Tryz.prog w = .ok (decide (a = b)) w := run_eq_mag _ Tryz.underlying156 a b ha hb w
@[go_sem] theorem run_eq_magmz (a : Nat) (ha : a < B4) (w : World) : (Op.equalIn 10000 156 (magV a) (.agg #[.int .u64 0, .int .u64 0, .int .u64 0, .int .u64 0])).run Tryz.prog w = .ok (decide (a = 0)) w := run_eq_mag0 _ Tryz.underlying156 a ha w
theorem run_eq_arr9 (t : TypeId) (ht : Tryz.prog.underlying t = some (.array 9 24)) (a b : Nat) (ha : a < B9) (hb : b < B9) (w : World) :
    (Op.equalIn 10000 t (wideV a) (wideV b)).run Tryz.prog w = .ok (decide (a = b)) w := by
  show (Op.equalIn (9999 + 1) t (wideV a) (wideV b)).run Tryz.prog w = _
  rw [run_equalIn_array w 9999 t _ 9 1 _ _ ht size_u64]
  have := run_eqElems 9998 #[wn a 0, wn a 1, wn a 2, wn a 3, wn a 4, wn a 5, wn a 6, wn a 7, wn a 8] #[wn b 0, wn b 1, wn b 2, wn b 3, wn b 4, wn b 5, wn b 6, wn b 7, wn b 8] rfl w (List.range' 0 9) (by intro i hi; simpa using hi)
  simp only [List.map_toArray, List.map_cons, List.map_nil] at this
  rw [this]; simp only [eq9 ha hb]; simp [List.range']
@[go_sem] theorem run_eq_wide (a b : Nat) (ha : a < B9) (hb : b < B9) (w : World) : (Op.equalIn 10000 128 (wideV a) (wideV b)).run Tryz.prog w = .ok (decide (a = b)) w := run_eq_arr9 _ Tryz.underlying128 a b ha hb w
@[go_sem] theorem run_eq_widez (a : Nat) (ha : a < B9) (w : World) : (Op.equalIn 10000 128 (wideV a) (.agg #[.int .u64 0, .int .u64 0, .int .u64 0, .int .u64 0, .int .u64 0, .int .u64 0, .int .u64 0, .int .u64 0, .int .u64 0])).run Tryz.prog w = .ok (decide (a = 0)) w := by
  rw [← wideV_zero]; exact run_eq_wide a 0 ha B9_pos w
end
end Go.Proofs.YtmopgcbhmkemjaaGreatDoor

namespace Go.Proofs.YtmopgcbhmkemjaaGreatDoor
open Go Go.RowKit
set_option linter.unusedSimpArgs false
set_option linter.unusedVariables false
set_option maxRecDepth 100000

theorem run_add (x y c : Nat) (hc : c ≤ 1) (w : World) : (callFunc 116 #[q64 x, q64 y, q64 c]).run Tryz.prog w =
    .ok (.value (.tuple #[q64 ((x + y + c) % B), q64 ((x + y + c) / B)])) w := by
  rw [run_callFunc_extern Tryz.func116 (by kernel_rfl) (by kernel_rfl) (by kernel_rfl) (e := add64Entry) (by kernel_rfl), run_add64 x y c (by omega) (by omega) (by omega) (by omega)]
  simp only [Result.andThen, B_eq]
  congr 5 <;> omega
theorem run_add0 (x y : Nat) (w : World) : (callFunc 116 #[q64 x, q64 y, .int .u64 0]).run Tryz.prog w = .ok (.value (.tuple #[q64 ((x + y) % B), q64 ((x + y) / B)])) w := run_add x y 0 (by omega) w
theorem run_sub (x y c : Nat) (hc : c ≤ 1) (w : World) : (callFunc 148 #[q64 x, q64 y, q64 c]).run Tryz.prog w =
    .ok (.value (.tuple #[q64 ((x + B - y - c) % B), q64 (if x < y + c then 1 else 0)])) w := by
  rw [run_callFunc_extern Tryz.func148 (by kernel_rfl) (by kernel_rfl) (by kernel_rfl) (e := sub64Entry) (by kernel_rfl), run_sub64 x y c hc]
  rfl
/-- One word of a sum, of a difference. -/
theorem run_add_wn (a b i : Nat) (w : World) : (callFunc 116 #[q64 (wn a i), q64 (wn b i), q64 (cy a b i)]).run Tryz.prog w =
    .ok (.value (.tuple #[q64 (wn (a + b) i), q64 (cy a b (i + 1))])) w := by
  rw [run_add _ _ _ (cy_le a b i), wn_add, cy_succ]
theorem run_add_w0 (a b : Nat) (w : World) : (callFunc 116 #[q64 (wn a 0), q64 (wn b 0), .int .u64 0]).run Tryz.prog w =
    .ok (.value (.tuple #[q64 (wn (a + b) 0), q64 (cy a b 1)])) w := by
  have := run_add_wn a b 0 w; rw [cy_zero] at this; exact this
theorem run_sub_wn (a b i n : Nat) (hi : i < n) (ha : a < B ^ n) (hb : b < B ^ n) (w : World) : (callFunc 148 #[q64 (wn a i), q64 (wn b i), q64 (bw a b i)]).run Tryz.prog w =
    .ok (.value (.tuple #[q64 (wn ((a + B ^ n - b) % B ^ n) i), q64 (bw a b (i + 1))])) w := by
  rw [run_sub _ _ _ (bw_le a b i), wn_sub a b i n hi ha hb, bw_succ]
theorem run_sub_w0 (a b n : Nat) (hi : 0 < n) (ha : a < B ^ n) (hb : b < B ^ n) (w : World) : (callFunc 148 #[q64 (wn a 0), q64 (wn b 0), .int .u64 0]).run Tryz.prog w =
    .ok (.value (.tuple #[q64 (wn ((a + B ^ n - b) % B ^ n) 0), q64 (bw a b 1)])) w := by
  have := run_sub_wn a b 0 n hi ha hb w; rw [bw_zero] at this; exact this

theorem must_yes (e : Int) (w : World) : Calls Tryz.prog 127 #[.bool true, .int .i64 e] w fun e' w' => e' = .returned (.tuple #[]) ∧ w' = w := by
  go_enter Tryz.func127, Tryz.ntmps127
  go_wp2
  go_end0
  exact ⟨rfl, rfl⟩
/-- What a call that gives up with a number ends in. -/
abbrev givesUp (e : Int) : Ending := .panicked [{ v := .iface 33 (.int .i64 e), recovered := false }]
theorem must_no (e : Int) (w : World) : Calls Tryz.prog 127 #[.bool false, .int .i64 e] w fun e' w' => e' = givesUp e ∧ w' = w := by
  go_enter Tryz.func127, Tryz.ntmps127
  go_wp2
  exact ⟨rfl, rfl, rfl⟩

set_option maxHeartbeats 1600000 in
theorem plus_yes (a b : Nat) (ha : a < B4) (hb : b < B4) (h : a + b < B4) (w : World) :
    Calls Tryz.prog 130 #[magV a, magV b] w fun e w' => e = .returned (magV (a + b)) ∧ Ext w w' := by
  have h0 := run_add_w0 a b
  have h1 := run_add_wn a b 1
  have h2 := run_add_wn a b 2
  have h3 := run_add_wn a b 3
  have hc : (((cy a b 4 : Nat) : Int) == 0) = true := by
    have : cy a b 4 = 0 := by rw [cy_top a b 4 ha hb]; exact Nat.div_eq_of_lt h
    rw [this]; rfl
  clear ha hb h
  go_enter Tryz.func130, Tryz.ntmps130
  go_wp2
  refine wp_loop_rounds 5 ?_
  iterate 4 (rw [rounds_succ]; go_wp2; (first | refine wp_region_k' [.p, .p, .p, .r, .p, .p, .r, .p, .r, .p, .p, .p, .p, .w, .p] (by kernel_rfl) (by kernel_rfl) ?_ | refine wp_region_k [.p, .p, .p, .r, .p, .p, .r, .p, .r, .p, .p, .p, .p, .w, .p] (by kernel_rfl) (by kernel_rfl) ?_); (repeat (first | (refine wpK_p rfl (fun K hK => ?_); go_simp; refine hK _ _ ?_; clear hK K) | (refine wpK_r rfl (fun K hK => ?_); go_simp; refine hK _ _ ?_; clear hK K) | (refine wpK_w rfl (fun K hK => ?_); go_simp; refine hK _ _ ?_; clear hK K))); refine wpK_nil ?_; intro d; go_wp2)
  rw [rounds_succ]
  go_wp2_with (go_at_call 127; refine (must_yes _ _).mono ?_; rintro e w' ⟨rfl, rfl⟩)
  exact bodyPost_ret (v := magV (a + b)) (by simp [results, Tryz.results130, go_sem]) rfl ⟨rfl, (by repeat (first | (with_reducible exact Ext.refl _) | (with_reducible assumption) | (with_reducible apply Ext.grow) | (with_reducible apply Ext.alloc) | (with_reducible apply Ext.drew) | ((with_reducible apply Ext.set); (case hb => (first | omega | (simp; omega))))))⟩
set_option maxHeartbeats 1600000 in
theorem plus_no (a b : Nat) (ha : a < B4) (hb : b < B4) (h : ¬ a + b < B4) (w : World) :
    Calls Tryz.prog 130 #[magV a, magV b] w fun e w' => e = givesUp 110 ∧ Ext w w' := by
  have h0 := run_add_w0 a b
  have h1 := run_add_wn a b 1
  have h2 := run_add_wn a b 2
  have h3 := run_add_wn a b 3
  have hc : (((cy a b 4 : Nat) : Int) == 0) = false := by
    have : 0 < cy a b 4 := by rw [cy_top a b 4 ha hb]; exact Nat.div_pos (by unfold B4 at h; omega) (Nat.pow_pos B_pos)
    simp; omega
  clear ha hb h
  go_enter Tryz.func130, Tryz.ntmps130
  go_wp2
  refine wp_loop_rounds 5 ?_
  iterate 4 (rw [rounds_succ]; go_wp2; (first | refine wp_region_k' [.p, .p, .p, .r, .p, .p, .r, .p, .r, .p, .p, .p, .p, .w, .p] (by kernel_rfl) (by kernel_rfl) ?_ | refine wp_region_k [.p, .p, .p, .r, .p, .p, .r, .p, .r, .p, .p, .p, .p, .w, .p] (by kernel_rfl) (by kernel_rfl) ?_); (repeat (first | (refine wpK_p rfl (fun K hK => ?_); go_simp; refine hK _ _ ?_; clear hK K) | (refine wpK_r rfl (fun K hK => ?_); go_simp; refine hK _ _ ?_; clear hK K) | (refine wpK_w rfl (fun K hK => ?_); go_simp; refine hK _ _ ?_; clear hK K))); refine wpK_nil ?_; intro d; go_wp2)
  rw [rounds_succ]
  go_wp2_with (go_at_call 127; refine (must_no _ _).mono ?_; rintro e w' ⟨rfl, rfl⟩)
  exact ⟨rfl, rfl, (by repeat (first | (with_reducible exact Ext.refl _) | (with_reducible assumption) | (with_reducible apply Ext.grow) | (with_reducible apply Ext.alloc) | (with_reducible apply Ext.drew) | ((with_reducible apply Ext.set); (case hb => (first | omega | (simp; omega))))))⟩

set_option maxHeartbeats 1600000 in
theorem less_any (a b : Nat) (ha : a < B4) (hb : b < B4) (w : World) :
    Calls Tryz.prog 153 #[magV a, magV b] w fun e w' => e = .returned (magV ((a + B ^ 4 - b) % B ^ 4)) ∧ Ext w w' := by
  have h0 := run_sub_w0 a b 4 (by omega) ha hb
  have h1 := run_sub_wn a b 1 4 (by omega) ha hb
  have h2 := run_sub_wn a b 2 4 (by omega) ha hb
  have h3 := run_sub_wn a b 3 4 (by omega) ha hb
  generalize (a + B ^ 4 - b) % B ^ 4 = r at *
  clear ha hb
  go_enter Tryz.func153, Tryz.ntmps153
  go_wp2
  refine wp_loop_rounds 5 ?_
  iterate 4 (rw [rounds_succ]; go_wp2; (first | refine wp_region_k' [.p, .p, .p, .r, .p, .p, .r, .p, .r, .p, .p, .p, .p, .w, .p] (by kernel_rfl) (by kernel_rfl) ?_ | refine wp_region_k [.p, .p, .p, .r, .p, .p, .r, .p, .r, .p, .p, .p, .p, .w, .p] (by kernel_rfl) (by kernel_rfl) ?_); (repeat (first | (refine wpK_p rfl (fun K hK => ?_); go_simp; refine hK _ _ ?_; clear hK K) | (refine wpK_r rfl (fun K hK => ?_); go_simp; refine hK _ _ ?_; clear hK K) | (refine wpK_w rfl (fun K hK => ?_); go_simp; refine hK _ _ ?_; clear hK K))); refine wpK_nil ?_; intro d; go_wp2)
  rw [rounds_succ]
  go_wp2
  exact bodyPost_ret (v := magV r) (by simp [results, Tryz.results153, go_sem]) rfl ⟨rfl, (by repeat (first | (with_reducible exact Ext.refl _) | (with_reducible assumption) | (with_reducible apply Ext.grow) | (with_reducible apply Ext.alloc) | (with_reducible apply Ext.drew) | ((with_reducible apply Ext.set); (case hb => (first | omega | (simp; omega))))))⟩
theorem less_le (a b : Nat) (ha : a < B4) (h : b ≤ a) (w : World) :
    Calls Tryz.prog 153 #[magV a, magV b] w fun e w' => e = .returned (magV (a - b)) ∧ Ext w w' := by
  have := less_any a b ha (by omega) w
  rwa [sub_top a b 4 ha h] at this

/-- Which Ints may not be: nought that is Neg. -/
def badI (s : Bool) (m : Nat) : Bool := s && decide (m = 0)
def chk (s : Bool) (m : Nat) : Int := if badI s m then 2 else 0
theorem check_any (s : Bool) (m : Nat) (hm : m < B4) (w : World) :
    Calls Tryz.prog 69 #[intV s m] w fun e w' => e = .returned (.int .i64 (chk s m)) ∧ Ext w w' := by
  cases s with
  | false =>
    have hr : chk false m = 0 := by simp [chk, badI]
    rw [hr]; clear hr
    go_enter Tryz.func69, Tryz.ntmps69
    go_wp2
    go_ret
    exact ⟨rfl, (by repeat (first | (with_reducible exact Ext.refl _) | (with_reducible assumption) | (with_reducible apply Ext.grow) | (with_reducible apply Ext.alloc) | (with_reducible apply Ext.drew) | ((with_reducible apply Ext.set); (case hb => (first | omega | (simp; omega))))))⟩
  | true =>
    by_cases h : m = 0
    · have hd : decide (m = 0) = true := by simp [h]
      have hr : chk true m = 2 := by simp [chk, badI, h]
      rw [hr]; clear hr h
      go_enter Tryz.func69, Tryz.ntmps69
      go_wp2
      go_ret
      exact ⟨rfl, (by repeat (first | (with_reducible exact Ext.refl _) | (with_reducible assumption) | (with_reducible apply Ext.grow) | (with_reducible apply Ext.alloc) | (with_reducible apply Ext.drew) | ((with_reducible apply Ext.set); (case hb => (first | omega | (simp; omega))))))⟩
    · have hd : decide (m = 0) = false := by simp [h]
      have hr : chk true m = 0 := by simp [chk, badI, h]
      rw [hr]; clear hr h
      go_enter Tryz.func69, Tryz.ntmps69
      go_wp2
      go_ret
      exact ⟨rfl, (by repeat (first | (with_reducible exact Ext.refl _) | (with_reducible assumption) | (with_reducible apply Ext.grow) | (with_reducible apply Ext.alloc) | (with_reducible apply Ext.drew) | ((with_reducible apply Ext.set); (case hb => (first | omega | (simp; omega))))))⟩
end Go.Proofs.YtmopgcbhmkemjaaGreatDoor

namespace Go.Proofs.YtmopgcbhmkemjaaGreatDoor
open Go Go.RowKit
set_option linter.unusedSimpArgs false
set_option linter.unusedVariables false
set_option maxRecDepth 100000

def cmp3 (a b : Nat) : Int := if a < b then -1 else if b < a then 1 else 0
def or2 (x y : Int) : Int := if x = 0 then y else x
def cm (a b i : Nat) : Int := cmp3 (a % B ^ i) (b % B ^ i)
theorem cm_zero (a b : Nat) : cm a b 0 = 0 := by simp [cm, cmp3, Nat.mod_one]
theorem cm_succ (a b i : Nat) : or2 (cmp3 (wn a i) (wn b i)) (cm a b i) = cm a b (i + 1) := by
  have hp : 0 < B ^ i := Nat.pow_pos B_pos
  have h1 := Nat.mod_lt a hp
  have h2 := Nat.mod_lt b hp
  unfold cm
  rw [mod_succ, mod_succ]
  generalize wn a i = x at *
  generalize wn b i = y at *
  generalize a % B ^ i = p at *
  generalize b % B ^ i = q at *
  generalize B ^ i = s at *
  have h3 : x < y → x * s + s ≤ y * s := fun h => by have := Nat.mul_le_mul_right s (show x + 1 ≤ y from h); rw [Nat.add_mul] at this; omega
  have h4 : y < x → y * s + s ≤ x * s := fun h => by have := Nat.mul_le_mul_right s (show y + 1 ≤ x from h); rw [Nat.add_mul] at this; omega
  have h5 : x = y → x * s = y * s := fun h => by rw [h]
  generalize x * s = X at *
  generalize y * s = Y at *
  unfold or2 cmp3
  (repeat' split) <;> omega
theorem cm_one (a b : Nat) : or2 (cmp3 (wn a 0) (wn b 0)) 0 = cm a b 1 := by have := cm_succ a b 0; rwa [cm_zero] at this
theorem cm_top (a b n : Nat) (ha : a < B ^ n) (hb : b < B ^ n) : cm a b n = cmp3 a b := by
  unfold cm; rw [Nat.mod_eq_of_lt ha, Nat.mod_eq_of_lt hb]

theorem ret_i64 {a b : Int} (h : a = b) : Ending.returned (.int .i64 a) = .returned (.int .i64 b) := by rw [h]

theorem compare_any (x y : Nat) (w : World) : Calls Tryz.prog 165 #[q64 x, q64 y] w fun e w' => e = .returned (.int .i64 (cmp3 x y)) ∧ Ext w w' := by
  rcases Nat.lt_trichotomy x y with h | h | h
  · have hr : cmp3 x y = -1 := by simp [cmp3, h]
    rw [hr]; clear hr
    go_enter Tryz.func165, Tryz.ntmps165
    go_wp2
    go_ret
    exact ⟨rfl, (by repeat (first | (with_reducible exact Ext.refl _) | (with_reducible assumption) | (with_reducible apply Ext.grow) | (with_reducible apply Ext.alloc) | (with_reducible apply Ext.drew) | ((with_reducible apply Ext.set); (case hb => (first | omega | (simp; omega))))))⟩
  · have hr : cmp3 x y = 0 := by simp [cmp3, h]
    rw [hr]; clear hr
    subst h
    go_enter Tryz.func165, Tryz.ntmps165
    go_wp2
    go_ret
    exact ⟨rfl, (by repeat (first | (with_reducible exact Ext.refl _) | (with_reducible assumption) | (with_reducible apply Ext.grow) | (with_reducible apply Ext.alloc) | (with_reducible apply Ext.drew) | ((with_reducible apply Ext.set); (case hb => (first | omega | (simp; omega))))))⟩
  · have hr : cmp3 x y = 1 := by simp [cmp3, h, Nat.lt_asymm h]
    rw [hr]; clear hr
    go_enter Tryz.func165, Tryz.ntmps165
    go_wp2
    go_ret
    exact ⟨rfl, (by repeat (first | (with_reducible exact Ext.refl _) | (with_reducible assumption) | (with_reducible apply Ext.grow) | (with_reducible apply Ext.alloc) | (with_reducible apply Ext.drew) | ((with_reducible apply Ext.set); (case hb => (first | omega | (simp; omega))))))⟩

theorem or_any (x y : Int) (b cap : Nat) (w : World) (h0 : w.cell? ⟨b, 0, none⟩ = some (.int .i64 x)) (h1 : w.cell? ⟨b, 1, none⟩ = some (.int .i64 y)) :
    Calls Tryz.prog 173 #[.slice (some ⟨b, 0, none⟩) 2 cap] w fun e w' => e = .returned (.int .i64 (or2 x y)) ∧ Ext w w' := by
  by_cases hx : x = 0
  · have hr : or2 x y = y := by simp [or2, hx]
    have bx : (x != 0) = false := by simp [hx]
    rw [hr]; clear hr hx
    by_cases hy : y = 0
    · have by' : (y != 0) = false := by simp [hy]
      have Hy := Lib.hid hy
      clear hy
      go_enter Tryz.func173, Tryz.ntmps173
      go_wp2
      refine wp_loop_rounds 3 ?_
      rw [rounds_succ]
      go_wp2
      rw [rounds_succ]
      go_wp2
      rw [rounds_succ]
      go_wp2
      go_ret
      exact ⟨ret_i64 Hy.out.symm, (by repeat (first | (with_reducible exact Ext.refl _) | (with_reducible assumption) | (with_reducible apply Ext.grow) | (with_reducible apply Ext.alloc) | (with_reducible apply Ext.drew) | ((with_reducible apply Ext.set); (case hb => (first | omega | (simp; omega))))))⟩
    · have by' : (y != 0) = true := by simp [hy]
      clear hy
      go_enter Tryz.func173, Tryz.ntmps173
      go_wp2
      refine wp_loop_rounds 3 ?_
      rw [rounds_succ]
      go_wp2
      rw [rounds_succ]
      go_wp2
      go_ret
      exact ⟨rfl, (by repeat (first | (with_reducible exact Ext.refl _) | (with_reducible assumption) | (with_reducible apply Ext.grow) | (with_reducible apply Ext.alloc) | (with_reducible apply Ext.drew) | ((with_reducible apply Ext.set); (case hb => (first | omega | (simp; omega))))))⟩
  · have hr : or2 x y = x := by simp [or2, hx]
    have bx : (x != 0) = true := by simp [hx]
    rw [hr]; clear hr hx
    go_enter Tryz.func173, Tryz.ntmps173
    go_wp2
    refine wp_loop_rounds 3 ?_
    rw [rounds_succ]
    go_wp2
    go_ret
    exact ⟨rfl, (by repeat (first | (with_reducible exact Ext.refl _) | (with_reducible assumption) | (with_reducible apply Ext.grow) | (with_reducible apply Ext.alloc) | (with_reducible apply Ext.drew) | ((with_reducible apply Ext.set); (case hb => (first | omega | (simp; omega))))))⟩
theorem first_any (x y : Int) (b cap : Nat) (w : World) (h0 : w.cell? ⟨b, 0, none⟩ = some (.int .i64 x)) (h1 : w.cell? ⟨b, 1, none⟩ = some (.int .i64 y)) :
    Calls Tryz.prog 164 #[.slice (some ⟨b, 0, none⟩) 2 cap] w fun e w' => e = .returned (.int .i64 (or2 x y)) ∧ Ext w w' := by
  go_enter Tryz.func164, Tryz.ntmps164
  go_wp2_with (go_at_call 173; refine (or_any x y _ _ _ (by assumption) (by assumption)).mono ?_; rintro e w' ⟨rfl, d, rfl⟩)
  go_ret
  exact ⟨rfl, (by repeat (first | (with_reducible exact Ext.refl _) | (with_reducible assumption) | (with_reducible apply Ext.grow) | (with_reducible apply Ext.alloc) | (with_reducible apply Ext.drew) | ((with_reducible apply Ext.set); (case hb => (first | omega | (simp; omega))))))⟩

theorem first_at (x y : Int) (W : World) (t : TypeId) (n cap : Nat) (hn : n = W.heap.size) :
    Calls Tryz.prog 164 #[.slice (some ⟨n, 0, none⟩) 2 cap] (W.alloc (.cells #[.int .i64 x, .int .i64 y] t)) fun e w' => e = .returned (.int .i64 (or2 x y)) ∧ Ext (W.alloc (.cells #[.int .i64 x, .int .i64 y] t)) w' := by
  subst hn
  exact first_any x y _ _ _ (by simp) (by simp)

set_option maxHeartbeats 1600000 in
theorem mags_any (a b : Nat) (ha : a < B4) (hb : b < B4) (w : World) :
    Calls Tryz.prog 152 #[magV a, magV b] w fun e w' => e = .returned (.int .i64 (cmp3 a b)) ∧ Ext w w' := by
  have hr := Lib.hid (cm_top a b 4 ha hb)
  clear ha hb
  go_enter Tryz.func152, Tryz.ntmps152
  go_wp2
  refine wp_loop_rounds 5 ?_
  iterate 4 (
    rw [rounds_succ]
    go_wp2
    (first | refine wp_region_kt' 8 [.p, .p, .r, .p, .p, .r, .r, .p] (by kernel_rfl) (by kernel_rfl) ?_ | refine wp_region_kt 8 [.p, .p, .r, .p, .p, .r, .r, .p] (by kernel_rfl) (by kernel_rfl) ?_); simp only [List.take_succ_cons, List.take_zero, List.drop_succ_cons, List.drop_zero]; (repeat (first | (refine wpK_p rfl (fun K hK => ?_); go_simp; refine hK _ _ ?_; clear hK K) | (refine wpK_r rfl (fun K hK => ?_); go_simp; refine hK _ _ ?_; clear hK K) | (refine wpK_w rfl (fun K hK => ?_); go_simp; refine hK _ _ ?_; clear hK K) | (refine wpK_r rfl (fun K hK => ?_); go_simp; apply Exists.intro; refine ⟨fun d => ?_, hK _ _ ?_⟩; (exact Calls.calm (compare_any _ _ _)); clear hK K))); refine wpK_nil ?_; intro d
    go_wp2_with (go_at_call 164; refine (first_at _ _ _ _ _ _ ?_).mono ?_; (· simp); rintro e w' ⟨rfl, d, rfl⟩)
    simp only [cm_one, cm_succ, grow_alloc_grow]
    go_wp2)
  rw [rounds_succ]
  go_wp2
  go_ret
  exact ⟨ret_i64 hr.out, (by repeat (first | (with_reducible exact Ext.refl _) | (with_reducible assumption) | (with_reducible apply Ext.grow) | (with_reducible apply Ext.alloc) | (with_reducible apply Ext.drew) | ((with_reducible apply Ext.set); (case hb => (first | omega | (simp; omega))))))⟩

theorem of_any (s : Bool) (m : Nat) (hm : m < B4) (w : World) :
    Calls Tryz.prog 102 #[.bool s, magV m] w fun e w' => e = .returned (intV (s && !decide (m = 0)) m) ∧ Ext w w' := by
  cases s with
  | false =>
    go_enter Tryz.func102, Tryz.ntmps102
    go_wp2
    (first | refine wp_region_k' [.p, .p, .r, .p, .p, .p, .r, .p, .w] (by kernel_rfl) (by kernel_rfl) ?_ | refine wp_region_k [.p, .p, .r, .p, .p, .p, .r, .p, .w] (by kernel_rfl) (by kernel_rfl) ?_); (repeat (first | (refine wpK_p rfl (fun K hK => ?_); go_simp; refine hK _ _ ?_; clear hK K) | (refine wpK_r rfl (fun K hK => ?_); go_simp; refine hK _ _ ?_; clear hK K) | (refine wpK_w rfl (fun K hK => ?_); go_simp; refine hK _ _ ?_; clear hK K) | (refine wpK_skip ?_ ?_; (· (simp [go_sem, Region.wanted, yielded]; done))) | (refine wpK_want ?_ ?_; (· (simp [go_sem, Region.wanted, yielded]; done))))); refine wpK_nil ?_; intro d
    go_wp2
    exact bodyPost_ret (v := intV false m) (by simp [results, Tryz.results102, go_sem]) rfl ⟨rfl, (by repeat (first | (with_reducible exact Ext.refl _) | (with_reducible assumption) | (with_reducible apply Ext.grow) | (with_reducible apply Ext.alloc) | (with_reducible apply Ext.drew) | ((with_reducible apply Ext.set); (case hb => (first | omega | (simp; omega))))))⟩
  | true =>
    go_enter Tryz.func102, Tryz.ntmps102
    go_wp2
    (first | refine wp_region_k' [.p, .p, .r, .p, .p, .p, .r, .p, .w] (by kernel_rfl) (by kernel_rfl) ?_ | refine wp_region_k [.p, .p, .r, .p, .p, .p, .r, .p, .w] (by kernel_rfl) (by kernel_rfl) ?_); (repeat (first | (refine wpK_p rfl (fun K hK => ?_); go_simp; refine hK _ _ ?_; clear hK K) | (refine wpK_r rfl (fun K hK => ?_); go_simp; refine hK _ _ ?_; clear hK K) | (refine wpK_w rfl (fun K hK => ?_); go_simp; refine hK _ _ ?_; clear hK K) | (refine wpK_skip ?_ ?_; (· (simp [go_sem, Region.wanted, yielded]; done))) | (refine wpK_want ?_ ?_; (· (simp [go_sem, Region.wanted, yielded]; done))))); refine wpK_nil ?_; intro d
    go_wp2
    exact bodyPost_ret (v := intV (!decide (m = 0)) m) (by simp [results, Tryz.results102, go_sem]) rfl ⟨by simp, (by repeat (first | (with_reducible exact Ext.refl _) | (with_reducible assumption) | (with_reducible apply Ext.grow) | (with_reducible apply Ext.alloc) | (with_reducible apply Ext.drew) | ((with_reducible apply Ext.set); (case hb => (first | omega | (simp; omega))))))⟩

def sgn (s : Bool) (m : Nat) : Int := if m = 0 then 0 else if s then -1 else 1
theorem sign_any (s : Bool) (m : Nat) (hm : m < B4) (w : World) :
    Calls Tryz.prog 104 #[intV s m] w fun e w' => e = .returned (.int .i64 (sgn s m)) ∧ Ext w w' := by
  by_cases h : m = 0
  · have hr : sgn s m = 0 := by simp [sgn, h]
    have hd : decide (m = 0) = true := by simp [h]
    rw [hr]; clear hr h
    cases s
    · have hb : (chk false m != 0) = false := by simp [chk, badI]
      go_enter Tryz.func104, Tryz.ntmps104
      go_wp2_with (go_at_call 69; refine (check_any _ m hm _).mono ?_; rintro e w' ⟨rfl, d, rfl⟩)
      go_ret
      exact ⟨rfl, (by repeat (first | (with_reducible exact Ext.refl _) | (with_reducible assumption) | (with_reducible apply Ext.grow) | (with_reducible apply Ext.alloc) | (with_reducible apply Ext.drew) | ((with_reducible apply Ext.set); (case hb => (first | omega | (simp; omega))))))⟩
    · have hb : (chk true m != 0) = true := by simp only [chk, badI, hd]; decide
      go_enter Tryz.func104, Tryz.ntmps104
      go_wp2_with (go_at_call 69; refine (check_any _ m hm _).mono ?_; rintro e w' ⟨rfl, d, rfl⟩)
      go_ret
      exact ⟨rfl, (by repeat (first | (with_reducible exact Ext.refl _) | (with_reducible assumption) | (with_reducible apply Ext.grow) | (with_reducible apply Ext.alloc) | (with_reducible apply Ext.drew) | ((with_reducible apply Ext.set); (case hb => (first | omega | (simp; omega))))))⟩
  · have hd : decide (m = 0) = false := by simp [h]
    have hb : (chk s m != 0) = false := by simp only [chk, badI, hd, Bool.and_false]; decide
    cases s
    · have hr : sgn false m = 1 := by simp [sgn, h]
      rw [hr]; clear hr h
      go_enter Tryz.func104, Tryz.ntmps104
      go_wp2_with (go_at_call 69; refine (check_any _ m hm _).mono ?_; rintro e w' ⟨rfl, d, rfl⟩)
      go_ret
      exact ⟨rfl, (by repeat (first | (with_reducible exact Ext.refl _) | (with_reducible assumption) | (with_reducible apply Ext.grow) | (with_reducible apply Ext.alloc) | (with_reducible apply Ext.drew) | ((with_reducible apply Ext.set); (case hb => (first | omega | (simp; omega))))))⟩
    · have hr : sgn true m = -1 := by simp [sgn, h]
      rw [hr]; clear hr h
      go_enter Tryz.func104, Tryz.ntmps104
      go_wp2_with (go_at_call 69; refine (check_any _ m hm _).mono ?_; rintro e w' ⟨rfl, d, rfl⟩)
      go_ret
      exact ⟨rfl, (by repeat (first | (with_reducible exact Ext.refl _) | (with_reducible assumption) | (with_reducible apply Ext.grow) | (with_reducible apply Ext.alloc) | (with_reducible apply Ext.drew) | ((with_reducible apply Ext.set); (case hb => (first | omega | (simp; omega))))))⟩
end Go.Proofs.YtmopgcbhmkemjaaGreatDoor

namespace Go.Proofs.YtmopgcbhmkemjaaGreatDoor
set_option linter.unusedSimpArgs false
set_option linter.unusedVariables false

/-- What has been added when i words of m are done; within word i, when k words of n are. -/
def xk (m n i : Nat) : Nat := (m % B ^ i) * n
def tk (m n i k : Nat) : Nat := xk m n i + wn m i * B ^ i * (n % B ^ k)
/-- The carry on the way. -/
def ck (m n i k : Nat) : Nat := tk m n i k / B ^ (i + k) - xk m n i / B ^ (i + k)
theorem tk_zero (m n i : Nat) : tk m n i 0 = xk m n i := by simp [tk, Nat.mod_one]
theorem ck_zero (m n i : Nat) : ck m n i 0 = 0 := by simp [ck, tk_zero]
theorem tk_top (m n i k : Nat) (hn : n < B ^ k) : tk m n i k = xk m n (i + 1) := by
  unfold tk xk
  rw [Nat.mod_eq_of_lt hn, mod_succ, Nat.add_mul]; omega
theorem xk_zero (m n : Nat) : xk m n 0 = 0 := by simp [xk, Nat.mod_one]
theorem xk_top (m n i : Nat) (hm : m < B ^ i) : xk m n i = m * n := by unfold xk; rw [Nat.mod_eq_of_lt hm]
theorem div_wn (x j : Nat) : x / B ^ j = wn x j + B * (x / B ^ (j + 1)) := by
  unfold wn
  rw [Nat.pow_succ, ← Nat.div_div_eq_div_mul]
  exact (Nat.mod_add_div (x / B ^ j) B).symm
theorem xk_le_tk (m n i k : Nat) : xk m n i ≤ tk m n i k := Nat.le_add_right _ _
theorem tk_succ (m n i k : Nat) : tk m n i (k + 1) = tk m n i k + wn m i * wn n k * B ^ (i + k) := by
  unfold tk
  rw [mod_succ, Nat.mul_add, Nat.pow_add]
  have : wn m i * B ^ i * (wn n k * B ^ k) = wn m i * wn n k * (B ^ i * B ^ k) := by
    rw [Nat.mul_assoc, Nat.mul_assoc, Nat.mul_left_comm (B ^ i)]
  omega
/-- One word's step. -/
theorem step_div (m n i k : Nat) : tk m n i (k + 1) / B ^ (i + k) = (wn m i * wn n k + wn (xk m n i) (i + k) + ck m n i k) + B * (xk m n i / B ^ (i + k + 1)) := by
  have hp : 0 < B ^ (i + k) := Nat.pow_pos B_pos
  rw [tk_succ, Nat.add_mul_div_right _ _ hp]
  have h1 := div_wn (xk m n i) (i + k)
  have h2 : xk m n i / B ^ (i + k) ≤ tk m n i k / B ^ (i + k) := Nat.div_le_div_right (xk_le_tk m n i k)
  have h3 : ck m n i k = tk m n i k / B ^ (i + k) - xk m n i / B ^ (i + k) := rfl
  omega
theorem step_word (m n i k : Nat) : (wn m i * wn n k + wn (xk m n i) (i + k) + ck m n i k) % B = wn (tk m n i (k + 1)) (i + k) := by
  show _ = tk m n i (k + 1) / B ^ (i + k) % B
  rw [step_div, Nat.add_mul_mod_self_left]
theorem step_carry (m n i k : Nat) : (wn m i * wn n k + wn (xk m n i) (i + k) + ck m n i k) / B = ck m n i (k + 1) := by
  have e : ∀ x, x / B ^ (i + (k + 1)) = x / B ^ (i + k) / B := fun x => by
    rw [show i + (k + 1) = i + k + 1 from rfl, Nat.pow_succ, ← Nat.div_div_eq_div_mul]
  show _ = tk m n i (k + 1) / B ^ (i + (k + 1)) - xk m n i / B ^ (i + (k + 1))
  rw [e (tk m n i (k + 1)), step_div, Nat.add_mul_div_left _ _ B_pos]
  exact (Nat.add_sub_cancel _ _).symm
theorem tk_mod (m n i k d : Nat) : tk m n i (k + d) % B ^ (i + k) = tk m n i k % B ^ (i + k) := by
  induction d with
  | zero => rfl
  | succ d ih =>
    rw [show k + (d + 1) = (k + d) + 1 from rfl, tk_succ, show B ^ (i + (k + d)) = B ^ (i + k) * B ^ d by rw [← Nat.pow_add, Nat.add_assoc]]
    rw [show wn m i * wn n (k + d) * (B ^ (i + k) * B ^ d) = B ^ (i + k) * (wn m i * wn n (k + d) * B ^ d) by
      rw [Nat.mul_left_comm]]
    rw [Nat.add_mul_mod_self_left, ih]
/-- The word that is laid is the one that stays. -/
theorem step_word' (m n i k K : Nat) (hk : k < K) (hn : n < B ^ K) : (wn m i * wn n k + wn (xk m n i) (i + k) + ck m n i k) % B = wn (xk m n (i + 1)) (i + k) := by
  rw [step_word, ← tk_top m n i K hn]
  obtain ⟨d, rfl⟩ : ∃ d, K = k + 1 + d := ⟨K - (k + 1), by omega⟩
  rw [← wn_of_mod (tk m n i (k + 1)) (i + k) (i + (k + 1)) (by omega), ← wn_of_mod (tk m n i (k + 1 + d)) (i + k) (i + (k + 1)) (by omega), tk_mod]
theorem ck_lt (m n i k : Nat) : ck m n i k < B := by
  induction k with
  | zero => rw [ck_zero]; exact B_pos
  | succ k ih =>
    rw [← step_carry]
    have h1 := wn_lt m i; have h2 := wn_lt n k; have h3 := wn_lt (xk m n i) (i + k)
    have h4 : wn m i * wn n k ≤ (B - 1) * (B - 1) := Nat.mul_le_mul (by omega) (by omega)
    have h5 : (B - 1) * (B - 1) + (B - 1) + (B - 1) < B * B := by decide
    rw [Nat.div_lt_iff_lt_mul B_pos]
    omega
theorem xk_lt (m n i K : Nat) (hn : n < B ^ K) : xk m n i < B ^ (i + K) := by
  unfold xk
  have hp : 0 < B ^ i := Nat.pow_pos B_pos
  have h1 := Nat.mod_lt m hp
  rw [Nat.pow_add]
  rcases Nat.eq_zero_or_pos n with h | h
  · subst h; simp; exact Nat.mul_pos hp (Nat.pow_pos B_pos)
  · calc m % B ^ i * n < B ^ i * n := Nat.mul_lt_mul_of_pos_right h1 h
      _ ≤ B ^ i * B ^ K := Nat.mul_le_mul_left _ (Nat.le_of_lt hn)
/-- The last carry is the word above. -/
theorem last_carry (m n i K : Nat) (hn : n < B ^ K) : wn (xk m n i) (i + K) + ck m n i K = wn (xk m n (i + 1)) (i + K) := by
  have h1 := xk_lt m n i K hn
  have h2 := xk_lt m n (i + 1) K hn
  have h3 : ck m n i K = tk m n i K / B ^ (i + K) - xk m n i / B ^ (i + K) := rfl
  have h5 : xk m n (i + 1) / B ^ (i + K) < B := by
    rw [Nat.div_lt_iff_lt_mul (Nat.pow_pos B_pos), Nat.mul_comm, ← Nat.pow_succ]
    have e : (i + K).succ = i + 1 + K := by omega
    rw [e]; exact h2
  rw [wn_high _ _ h1, h3, tk_top m n i K hn, Nat.div_eq_of_lt h1]
  unfold wn
  rw [Nat.mod_eq_of_lt h5, Nat.zero_add, Nat.sub_zero]
/-- Words beyond and below stay. -/
theorem xk_low (m n i j : Nat) (hj : j < i) : wn (xk m n (i + 1)) j = wn (xk m n i) j := by
  rw [← wn_of_mod (xk m n (i + 1)) j i hj, ← wn_of_mod (xk m n i) j i hj]
  congr 1
  unfold xk
  rw [mod_succ, Nat.add_mul, Nat.add_comm, Nat.mul_right_comm, Nat.mul_comm _ (B ^ i), Nat.add_mul_mod_self_left]
theorem xk_high (m n i j K : Nat) (hn : n < B ^ K) (hj : i + K ≤ j) : wn (xk m n i) j = 0 :=
  wn_high _ _ (Nat.lt_of_lt_of_le (xk_lt m n i K hn) (Nat.pow_le_pow_right B_pos hj))
/-- The three sums of a step. -/
theorem step_sums (x y o c : Nat) (ho : o < B) (hc : c < B) (hx : x < B) (hy : y < B) :
    ((x * y % B + o) % B + c) % B = (x * y + o + c) % B ∧ x * y / B + (x * y % B + o) / B + ((x * y % B + o) % B + c) / B = (x * y + o + c) / B := by
  have h1 := Nat.div_add_mod (x * y) B
  have h2 := Nat.div_add_mod (x * y % B + o) B
  have h3 := Nat.div_add_mod ((x * y % B + o) % B + c) B
  have h4 := Nat.mod_lt ((x * y % B + o) % B + c) B_pos
  generalize x * y % B = p at *
  generalize x * y / B = q at *
  generalize (p + o) % B = r at *
  generalize (p + o) / B = s at *
  generalize (r + c) % B = t at *
  generalize (r + c) / B = u at *
  have e : x * y + o + c = t + B * (q + s + u) := by rw [Nat.mul_add, Nat.mul_add]; omega
  rw [e, Nat.add_mul_mod_self_left, Nat.add_mul_div_left _ _ B_pos, Nat.mod_eq_of_lt h4, Nat.div_eq_of_lt h4]
  omega
end Go.Proofs.YtmopgcbhmkemjaaGreatDoor

namespace Go.Proofs.YtmopgcbhmkemjaaGreatDoor
open Go Go.RowKit
set_option linter.unusedSimpArgs false
set_option linter.unusedVariables false
set_option maxRecDepth 100000

set_option maxHeartbeats 1000000 in
theorem mul64_any (x y : Nat) (hx' : x < B) (hy' : y < B) (w : World) :
    Calls Tryz.prog 115 #[q64 x, q64 y] w fun e w' => e = .returned (.tuple #[q64 (x * y / B), q64 (x * y % B)]) ∧ w' = w := by
  rw [B_eq] at *
  have hx := hx'; have hy := hy'; clear hx' hy'
  obtain ⟨bd, bt, bw, hhi⟩ := Lib.mul64_hi x y hx hy
  have ba := Lib.half_mul_le (a := x / 4294967296) (b := y / 4294967296) (by omega) (by omega)
  have bb := Lib.half_mul_le (a := x / 4294967296) (b := y % 4294967296) (by omega) (by omega)
  have bc := Lib.half_mul_le (a := x % 4294967296) (b := y / 4294967296) (by omega) (by omega)
  have ba' : x / 4294967296 * (y / 4294967296) < 18446744073709551616 := by omega
  have bb' : x / 4294967296 * (y % 4294967296) < 18446744073709551616 := by omega
  have bc' : x % 4294967296 * (y / 4294967296) < 18446744073709551616 := by omega
  have bh1 : x / 4294967296 * (y / 4294967296) + (x / 4294967296 * (y % 4294967296) + x % 4294967296 * (y % 4294967296) / 4294967296) / 4294967296 < 18446744073709551616 := by omega
  have bh : x / 4294967296 * (y / 4294967296) + (x / 4294967296 * (y % 4294967296) + x % 4294967296 * (y % 4294967296) / 4294967296) / 4294967296 + ((x / 4294967296 * (y % 4294967296) + x % 4294967296 * (y % 4294967296) / 4294967296) % 4294967296 + x % 4294967296 * (y / 4294967296)) / 4294967296 < 18446744073709551616 := by omega
  go_enter Tryz.func115, Tryz.ntmps115
  go_wp2
  simp only [Mul64.maskN x hx, Mul64.maskN y hy, Mul64.divN, Mul64.mulN, Mul64.addN, Mul64.wrapN _ bd, Mul64.wrapN _ bb', Mul64.wrapN _ bt, Mul64.maskN _ bt, Mul64.wrapN _ bc', Mul64.wrapN _ bw, Mul64.wrapN _ ba', Mul64.wrapN _ bh1, Mul64.wrapN _ bh, Mul64.wrapM (x * y)]
  rw [hhi]
  go_ret2
  exact ⟨rfl, rfl⟩

set_option maxHeartbeats 4000000 in
theorem wsum_any (a b : Nat) (w : World) :
    Calls Tryz.prog 113 #[wideV a, wideV b] w fun e w' => e = .returned (wideV (a + b)) ∧ Ext w w' := by
  have h0 := run_add_w0 a b
  have h1 := run_add_wn a b 1
  have h2 := run_add_wn a b 2
  have h3 := run_add_wn a b 3
  have h4 := run_add_wn a b 4
  have h5 := run_add_wn a b 5
  have h6 := run_add_wn a b 6
  have h7 := run_add_wn a b 7
  have h8 := run_add_wn a b 8
  go_enter Tryz.func113, Tryz.ntmps113
  go_wp2
  refine wp_loop_rounds 10 ?_
  iterate 9 (rw [rounds_succ]; go_wp2; (first | refine wp_region_k' [.p, .p, .p, .r, .p, .p, .r, .p, .r, .p, .p, .p, .p, .w, .p] (by kernel_rfl) (by kernel_rfl) ?_ | refine wp_region_k [.p, .p, .p, .r, .p, .p, .r, .p, .r, .p, .p, .p, .p, .w, .p] (by kernel_rfl) (by kernel_rfl) ?_); (repeat (first | (refine wpK_p rfl (fun K hK => ?_); go_simp; refine hK _ _ ?_; clear hK K) | (refine wpK_r rfl (fun K hK => ?_); go_simp; refine hK _ _ ?_; clear hK K) | (refine wpK_w rfl (fun K hK => ?_); go_simp; refine hK _ _ ?_; clear hK K))); refine wpK_nil ?_; intro d; go_wp2)
  rw [rounds_succ]
  go_wp2
  exact bodyPost_ret (v := wideV (a + b)) (by simp [results, Tryz.results113, go_sem]) rfl ⟨rfl, (by repeat (first | (with_reducible exact Ext.refl _) | (with_reducible assumption) | (with_reducible apply Ext.grow) | (with_reducible apply Ext.alloc) | (with_reducible apply Ext.drew) | ((with_reducible apply Ext.set); (case hb => (first | omega | (simp; omega))))))⟩

/-- Is there a borrow left? -/
def wbelow (a b : Nat) : Bool := ((bw a b 9 : Nat) : Int) == 1
theorem wbelow_eq (a b : Nat) (ha : a < B9) (hb : b < B9) : wbelow a b = decide (a < b) := by
  unfold wbelow; rw [bw_top a b 9 ha hb]
  by_cases h : a < b <;> simp [h]
set_option maxHeartbeats 4000000 in
theorem wless_any (a b : Nat) (ha : a < B9) (hb : b < B9) (w : World) :
    Calls Tryz.prog 114 #[wideV a, wideV b] w fun e w' => e = .returned (.tuple #[wideV ((a + B9 - b) % B9), .bool (decide (a < b))]) ∧ Ext w w' := by
  rw [← wbelow_eq a b ha hb]
  have h0 := run_sub_w0 a b 9 (by omega) ha hb
  have h1 := run_sub_wn a b 1 9 (by omega) ha hb
  have h2 := run_sub_wn a b 2 9 (by omega) ha hb
  have h3 := run_sub_wn a b 3 9 (by omega) ha hb
  have h4 := run_sub_wn a b 4 9 (by omega) ha hb
  have h5 := run_sub_wn a b 5 9 (by omega) ha hb
  have h6 := run_sub_wn a b 6 9 (by omega) ha hb
  have h7 := run_sub_wn a b 7 9 (by omega) ha hb
  have h8 := run_sub_wn a b 8 9 (by omega) ha hb
  unfold B9
  generalize (a + B ^ 9 - b) % B ^ 9 = r at *
  clear ha hb
  go_enter Tryz.func114, Tryz.ntmps114
  go_wp2
  refine wp_loop_rounds 10 ?_
  iterate 9 (rw [rounds_succ]; go_wp2; (first | refine wp_region_k' [.p, .p, .p, .r, .p, .p, .r, .p, .r, .p, .p, .p, .p, .w, .p] (by kernel_rfl) (by kernel_rfl) ?_ | refine wp_region_k [.p, .p, .p, .r, .p, .p, .r, .p, .r, .p, .p, .p, .p, .w, .p] (by kernel_rfl) (by kernel_rfl) ?_); (repeat (first | (refine wpK_p rfl (fun K hK => ?_); go_simp; refine hK _ _ ?_; clear hK K) | (refine wpK_r rfl (fun K hK => ?_); go_simp; refine hK _ _ ?_; clear hK K) | (refine wpK_w rfl (fun K hK => ?_); go_simp; refine hK _ _ ?_; clear hK K))); refine wpK_nil ?_; intro d; go_wp2)
  rw [rounds_succ]
  go_wp2
  exact bodyPost_ret (v := .tuple #[wideV r, .bool (wbelow a b)]) (by simp [results, Tryz.results114, go_sem, wbelow]) rfl ⟨rfl, (by repeat (first | (with_reducible exact Ext.refl _) | (with_reducible assumption) | (with_reducible apply Ext.grow) | (with_reducible apply Ext.alloc) | (with_reducible apply Ext.drew) | ((with_reducible apply Ext.set); (case hb => (first | omega | (simp; omega))))))⟩
end Go.Proofs.YtmopgcbhmkemjaaGreatDoor

namespace Go.Proofs.YtmopgcbhmkemjaaGreatDoor
open Go Go.RowKit
set_option linter.unusedSimpArgs false
set_option linter.unusedVariables false
set_option maxRecDepth 100000

theorem index_mag (m i : Nat) (hi : i < 4) (w : World) : (Instr.index 25 (magV m) (.int .i64 (i : Int))).run Tryz.prog w = .ok (q64 (wn m i)) w := by
  rcases (by omega : i = 0 ∨ i = 1 ∨ i = 2 ∨ i = 3) with rfl | rfl | rfl | rfl <;> kernel_rfl

/-- What the words of the product hold while word i of m is put in, k words of n done. -/
def pw (m n i k j : Nat) : Nat := if i ≤ j ∧ j < i + k then wn (xk m n (i + 1)) j else wn (xk m n i) j
def Holds9 (A : Array Value) (f : Nat → Nat) : Prop := A.size = 9 ∧ ∀ j, j < 9 → A[j]? = some (q64 (f j))
theorem Holds9.set {A : Array Value} {f g : Nat → Nat} (h : Holds9 A f) (i x : Nat) (hi : i < 9) (hx : g i = x) (hg : ∀ j, j < 9 → j ≠ i → g j = f j) : Holds9 (A.setIfInBounds i (q64 x)) g := by
  obtain ⟨h1, h2⟩ := h
  refine ⟨by simp [h1], fun j hj => ?_⟩
  by_cases e : i = j
  · subst e; simp [h1, hi, hx]
  · rw [Array.getElem?_setIfInBounds_ne e, h2 j hj, hg j hj (by omega)]
theorem Holds9.lit {A : Array Value} {f : Nat → Nat} (h : Holds9 A f) : A = #[q64 (f 0), q64 (f 1), q64 (f 2), q64 (f 3), q64 (f 4), q64 (f 5), q64 (f 6), q64 (f 7), q64 (f 8)] := by
  obtain ⟨h1, h2⟩ := h
  apply Array.ext_getElem?
  intro j
  by_cases hj : j < 9
  · rw [h2 j hj]
    rcases (by omega : j = 0 ∨ j = 1 ∨ j = 2 ∨ j = 3 ∨ j = 4 ∨ j = 5 ∨ j = 6 ∨ j = 7 ∨ j = 8) with rfl | rfl | rfl | rfl | rfl | rfl | rfl | rfl | rfl <;> rfl
  · rw [Array.getElem?_eq_none (by omega), Array.getElem?_eq_none (by simp; omega)]

set_option maxHeartbeats 4000000 in
theorem product_any (s t : Bool) (m n : Nat) (hm : m < B4) (hn : n < B4) (w : World) :
    Calls Tryz.prog 85 #[intV s m, intV t n] w fun e w' => e = .returned (wideV (m * n)) ∧ Ext w w' := by
  have hn4 : n < B ^ 4 := hn
  have hm4 : m < B ^ 4 := hm
  go_enter Tryz.func85, Tryz.ntmps85
  go_wp2
  go_loopw [16] (fun q wr => ∃ (i : Nat) (A : Array Value), i ≤ 4 ∧ q = .int .i64 i ∧ Holds9 A (wn (xk m n i)) ∧
      wr = ((w.alloc (.cells #[.bool s, q64 (wn m 0), q64 (wn m 1), q64 (wn m 2), q64 (wn m 3)] 27)).alloc (.cells #[.bool t, q64 (wn n 0), q64 (wn n 1), q64 (wn n 2), q64 (wn n 3)] 27)).alloc (.cells A 128))
    (fun q _ => 4 - (intOf q).toNat)
  case atStart =>
    refine ⟨0, #[.int .u64 0, .int .u64 0, .int .u64 0, .int .u64 0, .int .u64 0, .int .u64 0, .int .u64 0, .int .u64 0, .int .u64 0], by omega, rfl, ⟨rfl, fun j hj => ?_⟩, rfl⟩
    rw [xk_zero, wn_zero]
    rcases (by omega : j = 0 ∨ j = 1 ∨ j = 2 ∨ j = 3 ∨ j = 4 ∨ j = 5 ∨ j = 6 ∨ j = 7 ∨ j = 8) with rfl | rfl | rfl | rfl | rfl | rfl | rfl | rfl | rfl <;> rfl
  case round =>
    obtain ⟨i, A, hi, rfl, hA, rfl⟩ := hrel
    by_cases hlt : i < 4
    · have hix := index_mag m i hlt
      have hdi : decide ((i : Int) < 4) = true := by simp; omega
      go_wp2
      go_loopw [7, 22] (fun c q wr => ∃ (k : Nat) (A : Array Value), k ≤ 4 ∧ c = q64 (ck m n i k) ∧ q = .int .i64 k ∧ Holds9 A (pw m n i k) ∧
          wr = ((w.alloc (.cells #[.bool s, q64 (wn m 0), q64 (wn m 1), q64 (wn m 2), q64 (wn m 3)] 27)).alloc (.cells #[.bool t, q64 (wn n 0), q64 (wn n 1), q64 (wn n 2), q64 (wn n 3)] 27)).alloc (.cells A 128))
        (fun _ q _ => 4 - (intOf q).toNat)
      case atStart =>
        refine ⟨0, A, by omega, by rw [ck_zero]; rfl, rfl, ⟨hA.1, fun j hj => ?_⟩, rfl⟩
        rw [hA.2 j hj]; unfold pw; rw [if_neg (by omega)]
      case round =>
        obtain ⟨k, A', hk, rfl, rfl, hA', rfl⟩ := hrel
        by_cases hlt' : k < 4
        · have hiy := index_mag n k hlt'
          have hmul := mul64_any (wn m i) (wn n k) (wn_lt _ _) (wn_lt _ _)
          have hold : A'[i + k]? = some (q64 (wn (xk m n i) (i + k))) := by
            rw [hA'.2 (i + k) (by omega)]; unfold pw; rw [if_neg (by omega)]
          have ha1 := run_add0 (wn m i * wn n k % B) (wn (xk m n i) (i + k))
          have ha2 := run_add0 ((wn m i * wn n k % B + wn (xk m n i) (i + k)) % B) (ck m n i k)
          obtain ⟨hs1, hs2⟩ := step_sums (wn m i) (wn n k) (wn (xk m n i) (i + k)) (ck m n i k) (wn_lt _ _) (ck_lt _ _ _ _) (wn_lt _ _) (wn_lt _ _)
          rw [step_word' m n i k 4 hlt' hn4] at hs1
          rw [step_carry] at hs2
          rw [hs1] at ha2
          have hcl := ck_lt m n i (k + 1)
          generalize hlo : wn m i * wn n k % B = lo at *
          generalize hhi : wn m i * wn n k / B = hi' at *
          generalize (lo + wn (xk m n i) (i + k)) % B = s1 at *
          generalize (lo + wn (xk m n i) (i + k)) / B = c1 at *
          generalize (s1 + ck m n i k) / B = c2 at *
          have hw : IntKind.u64.wrap (IntKind.u64.wrap ((hi' : Int) + (c1 : Int)) + (c2 : Int)) = ((ck m n i (k + 1) : Nat) : Int) := by
            rw [IntKind.wrap_u64, IntKind.wrap_u64]; rw [B_eq] at hcl; omega
          clear hlo hhi hs1 hs2 hcl
          go_wp2_with (go_at_call 115; refine (hmul _).mono ?_; rintro e w' ⟨rfl, rfl⟩)
          go_roundw
          case rel =>
            refine ⟨k + 1, A'.setIfInBounds (i + k) (q64 (wn (xk m n (i + 1)) (i + k))), by omega, rfl, by go_num, hA'.set (i + k) _ (by omega) ?_ (fun j hj hne => ?_), rfl⟩
            · unfold pw; rw [if_pos (by omega)]
            · unfold pw
              by_cases h : i ≤ j ∧ j < i + k
              · rw [if_pos h, if_pos (by omega)]
              · rw [if_neg h, if_neg (by omega)]
          case measure => simp [intOf]; omega
        · obtain rfl : k = 4 := by omega
          have hold : A'[i + 4]? = some (q64 (wn (xk m n i) (i + 4))) := by
            rw [hA'.2 (i + 4) (by omega)]; unfold pw; rw [if_neg (by omega)]
          have hl := last_carry m n i 4 hn4
          have hcl := wn_lt (xk m n (i + 1)) (i + 4)
          have hw : IntKind.u64.wrap (((wn (xk m n i) (i + 4) : Nat) : Int) + ((ck m n i 4 : Nat) : Int)) = ((wn (xk m n (i + 1)) (i + 4) : Nat) : Int) := by
            rw [IntKind.wrap_u64]; rw [B_eq] at hcl; omega
          clear hl hcl
          go_wp2
          go_roundw
          case rel =>
            refine ⟨i + 1, A'.setIfInBounds (i + 4) (q64 (wn (xk m n (i + 1)) (i + 4))), by omega, by go_num, hA'.set (i + 4) _ (by omega) rfl (fun j hj hne => ?_), rfl⟩
            unfold pw
            by_cases h : i ≤ j ∧ j < i + 4
            · rw [if_pos h]
            · rw [if_neg h]
              by_cases h2 : j < i
              · exact xk_low m n i j h2
              · rw [xk_high m n i j 4 hn4 (by omega), xk_high m n (i + 1) j 4 hn4 (by omega)]
          case measure => simp [intOf]; omega
    · have e := hA.lit
      have hk4 : i = 4 := by omega
      rw [hk4, xk_top m n 4 hm4] at e
      clear hA
      subst e
      go_wp2
      exact bodyPost_ret (v := wideV (m * n)) (by simp [results, Tryz.results85, go_sem]) rfl ⟨rfl, (by repeat (first | (with_reducible exact Ext.refl _) | (with_reducible assumption) | (with_reducible apply Ext.grow) | (with_reducible apply Ext.alloc) | (with_reducible apply Ext.drew) | ((with_reducible apply Ext.set); (case hb => (first | omega | (simp; omega))))))⟩
end Go.Proofs.YtmopgcbhmkemjaaGreatDoor

namespace Go.Proofs.YtmopgcbhmkemjaaGreatDoor
set_option linter.unusedSimpArgs false
set_option linter.unusedVariables false
def H : Nat := 9223372036854775808
theorem wn_half (a i : Nat) : wn (a / 2) i = wn a i / 2 + wn a (i + 1) % 2 * H := by
  unfold wn
  have h1 : a / 2 / B ^ i = a / B ^ i / 2 := by rw [Nat.div_div_eq_div_mul, Nat.div_div_eq_div_mul, Nat.mul_comm]
  have h2 : a / B ^ (i + 1) = a / B ^ i / B := by rw [Nat.pow_succ, ← Nat.div_div_eq_div_mul]
  rw [h1, h2]
  generalize a / B ^ i = x
  rw [B_eq]; unfold H; omega
theorem wn_half_top (a i : Nat) (h : a < B ^ (i + 1)) : wn (a / 2) i = wn a i / 2 := by
  rw [wn_half, wn_high a (i + 1) h]; simp
theorem first_word (a n : Nat) (h0 : a ≠ 0) (h : a < B ^ n) : ∃ j, j < n ∧ wn a j ≠ 0 ∧ ∀ i, i < j → wn a i = 0 := by
  have : ∃ j, j < n ∧ wn a j ≠ 0 := by
    apply Classical.byContradiction
    intro hc
    apply h0
    refine of_words n a h 0 (Nat.pow_pos B_pos) (fun i hi => ?_)
    rw [wn_zero]
    apply Classical.byContradiction
    intro hne; exact hc ⟨i, hi, hne⟩
  obtain ⟨j, hj, hw⟩ := this
  induction j using Nat.strongRecOn with
  | _ j ih =>
    by_cases hex : ∃ i, i < j ∧ wn a i ≠ 0
    · obtain ⟨i, hi, hwi⟩ := hex; exact ih i hi (by omega) hwi
    · exact ⟨j, hj, hw, fun i hi => by
        apply Classical.byContradiction
        intro hne; exact hex ⟨i, hi, hne⟩⟩
theorem low_words (a j : Nat) (h : ∀ i, i < j → wn a i = 0) : a % B ^ j = 0 := by
  induction j with
  | zero => simp [Nat.mod_one]
  | succ j ih => rw [mod_succ, ih (fun i hi => h i (by omega)), h j (by omega)]; simp
/-- The number of trailing zeros: of the first word that is not nought, behind j words. -/
theorem zeros_spec (a j : Nat) (hn : wn a j ≠ 0) (hz : ∀ i, i < j → wn a i = 0) : ∃ m, a = 2 ^ (64 * j + Lib.ctz 64 (wn a j)) * (2 * m + 1) ∧ Lib.ctz 64 (wn a j) < 64 := by
  have hl := low_words a j hz
  have hw := wn_lt a j
  have hx : 0 < wn a j := Nat.pos_of_ne_zero hn
  obtain ⟨m, hm, hlt⟩ := Lib.ctzFrom_spec 64 (wn a j) hx (by rw [B_two] at hw; exact hw)
  have hc : Lib.ctz 64 (wn a j) = Lib.ctzFrom 64 (wn a j) := by unfold Lib.ctz; rw [if_neg hn]
  rw [hc]
  generalize Lib.ctzFrom 64 (wn a j) = k at *
  have h1 : a = B ^ j * (a / B ^ j) := by have := Nat.div_add_mod a (B ^ j); omega
  have h2 : a / B ^ j = wn a j + B * (a / B ^ (j + 1)) := div_wn a j
  refine ⟨m + 2 ^ (63 - k) * (a / B ^ (j + 1)), ?_, hlt⟩
  have e1 : B ^ j = 2 ^ (64 * j) := by rw [B_two, ← Nat.pow_mul]
  have e2 : B = 2 ^ k * (2 * 2 ^ (63 - k)) := by
    rw [B_two, ← Nat.pow_succ', ← Nat.pow_add]; congr 1; omega
  have h3 : a / B ^ j = 2 ^ k * (2 * m + 1) + 2 ^ k * (2 * 2 ^ (63 - k)) * (a / B ^ (j + 1)) := by rw [← hm, ← e2]; exact h2
  have h4 : a = 2 ^ (64 * j) * (2 ^ k * (2 * m + 1) + 2 ^ k * (2 * 2 ^ (63 - k)) * (a / B ^ (j + 1))) := by rw [← h3, ← e1]; exact h1
  rw [Nat.pow_add]
  conv => lhs; rw [h4]
  generalize a / B ^ (j + 1) = q
  generalize 2 ^ (64 * j) = s
  generalize 2 ^ k = t
  generalize 2 ^ (63 - k) = u
  grind
theorem half_pow (a k : Nat) : a / 2 ^ k / 2 = a / 2 ^ (k + 1) := by rw [Nat.pow_succ, Nat.div_div_eq_div_mul]
end Go.Proofs.YtmopgcbhmkemjaaGreatDoor

namespace Go.Proofs.YtmopgcbhmkemjaaGreatDoor
open Go Go.RowKit
set_option linter.unusedSimpArgs false
set_option linter.unusedVariables false
set_option maxRecDepth 100000

theorem join64 (x y : Nat) (hx : x < B) : bits .or .u64 ((x : Int) / 2) (IntKind.u64.wrap ((y : Int) * 9223372036854775808)) = ((x / 2 + y % 2 * H : Nat) : Int) := by
  have e1 : IntKind.u64.wrap ((y : Int) * 9223372036854775808) = (((y % 2 * H : Nat) : Nat) : Int) := by
    rw [IntKind.wrap_u64]; unfold H; omega
  have e2 : (x : Int) / 2 = ((x / 2 : Nat) : Int) := by omega
  rw [B_eq] at hx
  rw [e1, e2, (bits_nat .u64 64 (by decide) (fun n h0 h1 => by rw [IntKind.wrap_u64]; omega) (x / 2) (y % 2 * H) (by omega) (by unfold H; omega)).2]
  congr 1
  have h63 : x / 2 < 2 ^ 63 := by omega
  have := Nat.two_pow_add_eq_or_of_lt h63 (y % 2)
  rw [Nat.or_comm, Nat.mul_comm, show H = 2 ^ 63 from rfl, ← this]; omega

set_option maxHeartbeats 8000000 in
theorem shift_any (a : Nat) (ha : a < B9) (w : World) :
    Calls Tryz.prog 171 #[wideV a] w fun e w' => e = .returned (wideV (a / 2)) ∧ Ext w w' := by
  have h0 := join64 (wn a 0) (wn a 1) (wn_lt _ _)
  have h1 := join64 (wn a 1) (wn a 2) (wn_lt _ _)
  have h2 := join64 (wn a 2) (wn a 3) (wn_lt _ _)
  have h3 := join64 (wn a 3) (wn a 4) (wn_lt _ _)
  have h4 := join64 (wn a 4) (wn a 5) (wn_lt _ _)
  have h5 := join64 (wn a 5) (wn a 6) (wn_lt _ _)
  have h6 := join64 (wn a 6) (wn a 7) (wn_lt _ _)
  have h7 := join64 (wn a 7) (wn a 8) (wn_lt _ _)
  have h8 : ((wn a 8 : Nat) : Int) / 2 = ((wn (a / 2) 8 : Nat) : Int) := by rw [wn_half_top a 8 ha]; omega
  rw [← wn_half] at h0 h1 h2 h3 h4 h5 h6 h7
  clear ha
  go_enter Tryz.func171, Tryz.ntmps171
  go_wp2
  refine wp_loop_rounds 10 ?_
  iterate 8 (rw [rounds_succ]; go_wp2; (first | refine wp_region_k' [.p, .p, .r, .p, .p, .p, .r, .p, .p, .p, .w] (by kernel_rfl) (by kernel_rfl) ?_ | refine wp_region_k [.p, .p, .r, .p, .p, .p, .r, .p, .p, .p, .w] (by kernel_rfl) (by kernel_rfl) ?_); (repeat (first | (refine wpK_p rfl (fun K hK => ?_); go_simp; refine hK _ _ ?_; clear hK K) | (refine wpK_r rfl (fun K hK => ?_); go_simp; refine hK _ _ ?_; clear hK K) | (refine wpK_w rfl (fun K hK => ?_); go_simp; refine hK _ _ ?_; clear hK K))); refine wpK_nil ?_; intro d; go_wp2)
  rw [rounds_succ]
  go_wp2
  rw [rounds_succ]
  go_wp2
  exact bodyPost_ret (v := wideV (a / 2)) (by simp [results, Tryz.results171, go_sem]) rfl ⟨rfl, (by repeat (first | (with_reducible exact Ext.refl _) | (with_reducible assumption) | (with_reducible apply Ext.grow) | (with_reducible apply Ext.alloc) | (with_reducible apply Ext.drew) | ((with_reducible apply Ext.set); (case hb => (first | omega | (simp; omega))))))⟩

/-- math/bits' table lies as its initialiser lays it. -/
def Tab (w : World) : Prop := TabAt 1 Lib.deBruijn64tab w
theorem Tab.ext {w w' : World} (h : Tab w) (hx : Ext w w') : Tab w' := fun j hj => hx.cell (h j hj)
theorem Tab.grow {w : World} (h : Tab w) (d : Gr) : Tab (grow w d) := h.ext ⟨d, rfl⟩
theorem Tab.alloc {w : World} (h : Tab w) (o : Obj) : Tab (w.alloc o) := h.ext ((Ext.refl w).alloc o)

theorem tz_core (x idx k : Nat) (w : World) (hx0 : ((x : Int) == 0) = false)
    (key : IntKind.u64.wrap (bits BinOp.and IntKind.u64 (x : Int) (IntKind.u64.wrap (-(x : Int))) * 285870213051353865) / 288230376151711744 = (idx : Int)) (hi : idx < 64) (hk : k < 64)
    (hc : w.cell? ⟨1, idx, none⟩ = some (.int .u8 k)) :
    Calls Tryz.prog 161 #[q64 x] w fun e w' => e = .returned (.int .i64 (k : Int)) ∧ w' = w := by
  go_enter Tryz.func161, Tryz.ntmps161
  go_wp2
  go_ret
  exact ⟨rfl, rfl⟩
theorem tz_any (x : Nat) (hx : x < B) (h0 : x ≠ 0) (w : World) (hT : Tab w) :
    Calls Tryz.prog 161 #[q64 x] w fun e w' => e = .returned (.int .i64 (Lib.ctz 64 x)) ∧ w' = w := by
  rw [B_eq] at hx
  obtain ⟨hlow, hk⟩ := Lib.lowest_bit 64 x h0 hx
  obtain ⟨hi, htab⟩ := Lib.deBruijn64_at _ hk
  have hcell := hT _ hi
  rw [htab] at hcell
  exact tz_core x _ _ w (by simp; omega) (tz64_key x _ hx h0 hlow) hi hk hcell

theorem index_wide (a i : Nat) (hi : i < 9) (w : World) : (Instr.index 128 (wideV a) (.int .i64 (i : Int))).run Tryz.prog w = .ok (q64 (wn a i)) w := by
  rcases (by omega : i = 0 ∨ i = 1 ∨ i = 2 ∨ i = 3 ∨ i = 4 ∨ i = 5 ∨ i = 6 ∨ i = 7 ∨ i = 8) with rfl | rfl | rfl | rfl | rfl | rfl | rfl | rfl | rfl <;> kernel_rfl

theorem zeros_at (a j : Nat) (hj : j < 9) (hn : wn a j ≠ 0) (hz : ∀ i, i < j → wn a i = 0) (w : World) (hT : Tab w) :
    Calls Tryz.prog 146 #[wideV a] w fun e w' => e = .returned (.int .i64 ((64 * j + Lib.ctz 64 (wn a j) : Nat) : Int)) ∧ Ext w w' := by
  have hct : Lib.ctz 64 (wn a j) < 64 := (zeros_spec a j hn hz).choose_spec.2
  have htz := tz_any (wn a j) (wn_lt _ _) hn
  have HZ := Lib.hid hz
  have hne : (((wn a j : Nat) : Int) != 0) = true := by simp; omega
  generalize Lib.ctz 64 (wn a j) = c at *
  clear hz hn
  go_enter Tryz.func146, Tryz.ntmps146
  go_wp2
  go_loop [2, 6] (fun n q => ∃ i : Nat, i ≤ j ∧ n = .int .i64 ((64 * i : Nat) : Int) ∧ q = .int .i64 i) (fun _ q => 9 - (intOf q).toNat)
  case atStart => exact ⟨0, by omega, rfl, rfl⟩
  case round =>
    obtain ⟨i, hi, rfl, rfl⟩ := hrel
    have hix := index_wide a i (by omega)
    by_cases e : i < j
    · have h0 := HZ.out i e
      rw [h0] at hix
      clear h0
      go_wp2
      go_round
      case rel => exact ⟨i + 1, by omega, by go_num, by go_num⟩
      case measure => simp [intOf]; omega
    · obtain rfl : i = j := by omega
      go_wp2_with (go_at_call 161; refine (htz _ (hT.alloc _)).mono ?_; rintro e w' ⟨rfl, rfl⟩)
      go_ret
      exact ⟨ret_i64 (by omega), (by repeat (first | (with_reducible exact Ext.refl _) | (with_reducible assumption) | (with_reducible apply Ext.grow) | (with_reducible apply Ext.alloc) | (with_reducible apply Ext.drew) | ((with_reducible apply Ext.set); (case hb => (first | omega | (simp; omega))))))⟩
end Go.Proofs.YtmopgcbhmkemjaaGreatDoor
