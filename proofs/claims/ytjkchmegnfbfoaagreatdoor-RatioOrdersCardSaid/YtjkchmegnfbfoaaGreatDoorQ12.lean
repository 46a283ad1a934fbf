/- Regions that draw their order: loads, a chain of calls, and new cells that are laid whenever. The references' fractions: differences, signs, the fraction of a word, of a Rat; may a Rat be; the whole number below. The references' fractions: may a Rat be; the greatest whole number below. The references' fractions: the greatest whole number below. Regions that draw their order, phase by phase: in each phase loads, a chain of calls, new cells; guarded operations whose guards are behind. -/
import Derived.Test.YtjkchmegnfbfoaaGreatDoorQ06
import Derived.Test.YtjkchmegnfbfoaaGreatDoorProg
import Derived.Test.YtjkchmegnfbfoaaGreatDoorQ11
import Derived.Deep.DeepCutAuto
namespace Go.Proofs.YtjkchmegnfbfoaaGreatDoor
open Go Go.RowKit
set_option linter.unusedSimpArgs false
set_option linter.unusedVariables false
set_option linter.constructorNameAsVariable false
section
variable {P : Program} {ops : Array Oper} {md : Region.Mode}

/-- What is asked of a region: the loads H, the chain C, the new cells A, the end behind n. -/
def hcaB (md : Region.Mode) (ops : Array Oper) (n : Nat) (H C A : List Nat) : Bool :=
  Region.noSelect ops && decide (n ≤ ops.size) && dstsB ops n && looksB md ops n && (List.range ops.size).all (fun t => decide (t < n) || (List.range n).all fun i => anc md ops 6 t i) &&
  (List.range n).all (fun i => (opAt ops i).guard.isNone && ((H.contains i && !C.contains i && !A.contains i) || (!H.contains i && C.contains i && !A.contains i) || (!H.contains i && !C.contains i && A.contains i))) && H.all (· < n) && C.all (· < n) && A.all (· < n) &&
  A.all (fun j => (opAt ops j).after.all fun e => !Region.binds md e || H.contains e.on) &&
  H.all (fun h => (opAt ops h).after.all fun e => !Region.binds md e || (H.contains e.on && decide (e.on < h))) &&
  (List.range C.length).all (fun k => (opAt ops (C.getD k 0)).after.all fun e => !Region.binds md e || H.contains e.on || (C.take k).contains e.on) &&
  (List.range (C.length - 1)).all (fun k => Region.waitsFor md ops (C.getD (k + 1) 0) (C.getD k 0)) &&
  decide (H.Pairwise (· < ·)) && decide C.Nodup && decide A.Nodup &&
  Region.seqB md ops (ops.size - n) n ((Array.range ops.size).map fun i => decide (i < n))

structure Inv9 (md : Region.Mode) (ops : Array Oper) (n : Nat) (H C A : List Nat) (listed : Array Bool) (pend mid pa : List Nat) : Prop where
  size : listed.size = ops.size
  low : ∀ i, i < n → (listed.getD i false = false ↔ i ∈ pend ∨ i ∈ mid ∨ i ∈ pa)
  high : ∀ i, n ≤ i → listed.getD i false = false
  ph : ∀ h ∈ pend, h ∈ H
  pp : pend.Pairwise (· < ·)
  mc : ∃ k, mid = C.drop k
  pas : ∀ j ∈ pa, j ∈ A
  pad : pa.Nodup
  clo : Clo md ops listed
structure HCA (md : Region.Mode) (ops : Array Oper) (n : Nat) (H C A : List Nat) : Prop where
  sel : ∀ i cs b, (opAt ops i).op ≠ .select cs b
  nsz : n ≤ ops.size
  ds : dstsB ops n = true
  lk : looksB md ops n = true
  aw : ∀ t, t < ops.size → n ≤ t → ∀ i, i < n → anc md ops 6 t i = true
  gd : ∀ i, i < n → (opAt ops i).guard = none
  part : ∀ i, i ∈ H → i ∈ C → False
  parta : ∀ i, i ∈ A → i ∈ H ∨ i ∈ C → False
  hn : ∀ h ∈ H, h < n
  cn : ∀ c ∈ C, c < n
  an : ∀ c ∈ A, c < n
  all : ∀ i, i < n → i ∈ H ∨ i ∈ C ∨ i ∈ A
  acl : ∀ j ∈ A, ∀ e ∈ (opAt ops j).after, Region.binds md e = true → e.on ∈ H
  hcl : ∀ h ∈ H, ∀ e ∈ (opAt ops h).after, Region.binds md e = true → e.on ∈ H ∧ e.on < h
  ccl : ∀ k, k < C.length → ∀ e ∈ (opAt ops (C.getD k 0)).after, Region.binds md e = true → e.on ∈ H ∨ e.on ∈ C.take k
  chain : ∀ k, k + 1 < C.length → Region.waitsFor md ops (C.getD (k + 1) 0) (C.getD k 0) = true
  hp : H.Pairwise (· < ·)
  cnd : C.Nodup
  ad : A.Nodup
  seq : Region.seqB md ops (ops.size - n) n ((Array.range ops.size).map fun i => decide (i < n)) = true
theorem hcaB_spec {n : Nat} {H C A : List Nat} (h : hcaB md ops n H C A = true) : HCA md ops n H C A := by
  simp only [hcaB, Bool.and_eq_true, decide_eq_true_eq, List.all_eq_true, List.mem_range, Array.all_eq_true', Bool.or_eq_true, Bool.not_eq_true', Option.isNone_iff_eq_none, List.contains_iff_mem, Bool.eq_false_iff, ne_eq] at h
  obtain ⟨⟨⟨⟨⟨⟨⟨⟨⟨⟨⟨⟨⟨⟨⟨⟨h1, h2⟩, h3⟩, h4⟩, h5⟩, h6⟩, h7⟩, h8⟩, h8a⟩, h8b⟩, h9⟩, h10⟩, h11⟩, h12⟩, h13⟩, h13a⟩, h14⟩ := h
  refine ⟨fun i cs b => ?_, h2, h3, h4, fun t ht hn i hi => ((h5 t ht).resolve_left (by omega)) i hi, fun i hi => (h6 i hi).1, fun i hi hc => ?_, fun i hi hc => ?_, h7, h8, h8a, fun i hi => ?_, fun x hx e he hb => ?_, fun x hx e he hb => ?_, fun k hk e he hb => ?_, fun k hk => h11 k (by omega), h12, h13, h13a, h14⟩
  · cases ho : ops[i]? with
    | none => simp [opAt, Array.getD_eq_getD_getElem?, ho, default, instInhabitedOper.default, instInhabitedOp.default]
    | some o => rw [opAt_eq ho]; exact Region.noSelect_spec h1 i o cs b ho
  · rcases (h6 i (h7 i hi)).2 with (h | h) | h
    · exact h.1.2 hc
    · exact h.1.1 hi
    · exact h.1.1 hi
  · rcases (h6 i (h8a i hi)).2 with (h | h) | h
    · exact h.2 hi
    · exact h.2 hi
    · exact hc.elim h.1.1 h.1.2
  · rcases (h6 i hi).2 with (h | h) | h
    · exact .inl h.1.1
    · exact .inr (.inl h.1.2)
    · exact .inr (.inr h.2)
  · rcases h8b x hx e he with h | h
    · exact absurd hb h
    · exact h
  · rcases h9 x hx e he with h | h
    · exact absurd hb h
    · exact h
  · rcases h10 k hk e he with (h | h) | h
    · exact absurd hb h
    · exact .inl h
    · exact .inr h

abbrev ptrV (b : Nat) : Value := .pointer (some ⟨b, 0, none⟩)
/-- The new cells that are still to come lie apart. -/
structure GoodP (W w : World) (obj : Nat → Obj) (pa D : List Nat) (b : Nat → Nat) : Prop where
  at' : ∀ j ∈ pa, W.heap.size ≤ b j ∧ w.heap[b j]? = some (obj j)
  two : ∀ j ∈ pa, ∀ k ∈ pa, j ≠ k → b j ≠ b k
  old : ∀ j ∈ pa, ∀ x ∈ D, b j ≠ x
/-- The chain, whatever else is laid on the way. -/
def wpU (P : Program) (ops : Array Oper) (W : World) (obj : Nat → Obj) (E : Act → World → Prop) (pa D : List Nat) : List Oper → Act → World → Prop
  | [], a, w => ∀ w', Ext w w' → ∀ b, GoodP W w' obj pa D b → E (fill ops (fun j => ptrV (b j)) pa a) w'
  | o :: l, a, w => ∀ w', Ext w w' → (∃ v w'', (execOp a.eval o).run P w' = .ok (.value v) w'' ∧ Ext w' w'' ∧ wpU P ops W obj E pa D l (a.put o.dst v) w'') ∨
    (∃ f args, (execOp a.eval o).run P w' = .ok (.enter f args) w' ∧ Calls P f args w' fun e w'' => ∃ v, e = .returned v ∧ Ext w' w'' ∧ wpU P ops W obj E pa D l (a.put o.dst v) w'')
theorem wpU.mono {W : World} {obj : Nat → Obj} {E : Act → World → Prop} {pa D : List Nat} : ∀ {l : List Oper} {a : Act} {w w' : World}, wpU P ops W obj E pa D l a w → Ext w w' → wpU P ops W obj E pa D l a w'
  | [], _, _, _, h, hx => fun w'' hx' => h w'' (hx.trans hx')
  | _ :: _, _, _, _, h, hx => fun w'' hx' => h w'' (hx.trans hx')
theorem fill_congr {f g : Nat → Value} : ∀ (l : List Nat) (a : Act), (∀ j ∈ l, f j = g j) → fill ops f l a = fill ops g l a
  | [], _, _ => rfl
  | j :: l, a, h => by simp only [fill]; rw [h j (by simp)]; exact fill_congr l _ (fun k hk => h k (by simp [hk]))
theorem wpU_alloc {n : Nat} (hd : dstsB ops n = true) (hl : looksB md ops n = true) (hsel : ∀ i cs b, (opAt ops i).op ≠ .select cs b) {W : World} {obj : Nat → Obj} {E : Act → World → Prop} {pa D : List Nat} {i bi : Nat} (hin : i < n) (hpn : ∀ j ∈ pa, j < n) (hi : i ∈ pa) (hnd : pa.Nodup) (hWb : W.heap.size ≤ bi) (hbD : ∀ x ∈ D, bi ≠ x) :
    ∀ (cs : List Nat) (a : Act) (w : World), (∀ c ∈ cs, c < n ∧ c ≠ i ∧ Region.waitsFor md ops c i = false) → w.heap[bi]? = some (obj i) → wpU P ops W obj E pa D (cs.map (opAt ops)) a w →
      wpU P ops W obj E (pa.erase i) (bi :: D) (cs.map (opAt ops)) (a.put (opAt ops i).dst (ptrV bi)) w
  | [], a, w, _, hb, H => by
    intro w' hx b hg
    have hlt : bi < w.heap.size := (Array.getElem?_eq_some_iff.1 hb).1
    have hne : ∀ j ∈ pa.erase i, j ≠ i := fun j hj e => by subst e; exact List.Nodup.not_mem_erase hnd hj
    have hmem : ∀ j ∈ pa, j ≠ i → j ∈ pa.erase i := fun j hj hji => (List.mem_erase_of_ne hji).2 hj
    have hg' : GoodP W w' obj pa D (fun j => if j = i then bi else b j) := by
      refine ⟨fun j hj => ?_, fun j hj k hk hjk => ?_, fun j hj x hx => ?_⟩
      · by_cases e : j = i
        · subst e; simp only [if_true]; exact ⟨hWb, by rw [hx.block _ hlt, hb]⟩
        · simp only [if_neg e]; exact hg.at' j (hmem j hj e)
      · by_cases e : j = i
        · subst e
          simp only [if_true, if_neg (Ne.symm hjk)]
          exact (hg.old k (hmem k hk (Ne.symm hjk)) bi (by simp)).symm
        · by_cases e2 : k = i
          · subst e2
            simp only [if_true, if_neg e]
            exact hg.old j (hmem j hj e) bi (by simp)
          · simp only [if_neg e, if_neg e2]; exact hg.two j (hmem j hj e) k (hmem k hk e2) hjk
      · by_cases e : j = i
        · subst e; simp only [if_true]; exact hbD x hx
        · simp only [if_neg e]; exact hg.old j (hmem j hj e) x (by simp [hx])
    have h1 := H w' hx _ hg'
    have h2 := fill_erase (val := fun j => ptrV (if j = i then bi else b j)) hd hin pa a hpn hi
    simp only [if_true] at h2
    rw [fill_congr (ops := ops) (f := fun j => ptrV (b j)) (g := fun j => ptrV (if j = i then bi else b j)) (pa.erase i) _ (fun j hj => by simp only [if_neg (hne j hj)]), h2]
    exact h1
  | c :: cs, a, w, hcs, hb, H => by
    obtain ⟨hcn, hci, hcw⟩ := hcs c (by simp)
    intro w' hx
    have hlt : bi < w.heap.size := (Array.getElem?_eq_some_iff.1 hb).1
    have hb' : w'.heap[bi]? = some (obj i) := by rw [hx.block _ hlt, hb]
    have hlt' : bi < w'.heap.size := (Array.getElem?_eq_some_iff.1 hb').1
    have he : execOp (a.put (opAt ops i).dst (ptrV bi)).eval (opAt ops c) = execOp a.eval (opAt ops c) := execOp_put _ (hsel c) a _ _ (looksB_spec hl hcn hin hcw)
    have hcomm : ∀ v, (a.put (opAt ops i).dst (ptrV bi)).put (opAt ops c).dst v = (a.put (opAt ops c).dst v).put (opAt ops i).dst (ptrV bi) := fun v => Act.put_comm a (ptrV bi) v (dstsB_spec hd hin hcn (Ne.symm hci))
    have ih := fun v w'' (hxx : Ext w' w'') (h : wpU P ops W obj E pa D (cs.map (opAt ops)) (a.put (opAt ops c).dst v) w'') => wpU_alloc hd hl hsel hin hpn hi hnd hWb hbD cs (a.put (opAt ops c).dst v) w'' (fun x hx => hcs x (by simp [hx])) (by rw [hxx.block _ hlt', hb']) h
    rw [he]
    simp only [List.map_cons, wpU] at H
    rcases H w' hx with ⟨v, w'', h1, hx1, h2⟩ | ⟨f, args, h1, h2⟩
    · exact .inl ⟨v, w'', h1, hx1, by rw [hcomm]; exact ih v w'' hx1 h2⟩
    · exact .inr ⟨f, args, h1, h2.mono fun e w'' ⟨v, he, hx1, h3⟩ => ⟨v, he, hx1, by rw [hcomm]; exact ih v w'' hx1 h3⟩⟩

theorem wpAny_of_hca {n : Nat} {H C A : List Nat} (hB : HCA md ops n H C A) {W : World} {obj : Nat → Obj} (hA0 : ∀ j ∈ A, ∀ (a : Act) (w : World), (execOp a.eval (opAt ops j)).run P w = .ok (.value (ptrV w.heap.size)) (w.alloc (obj j)))
    {val : Nat → Value} {Q : Exit → Act → World → Prop} {E : Act → World → Prop} (hE : ∀ a w, E a w → wpList P ops Q (ops.toList.drop n) a w) :
    ∀ (f : Nat) (pend mid pa D : List Nat) (listed : Array Bool) (a F : Act) (w : World), f = pend.length + mid.length + pa.length → Inv9 md ops n H C A listed pend mid pa → F = fill ops val pend a → (∀ x ∈ D, x < w.heap.size) →
      (∀ h ∈ pend, ∀ d, (execOp F.eval (opAt ops h)).run P (grow W d) = .ok (.value (val h)) (grow W d)) → Ext W w → wpU P ops W obj E pa D (mid.map (opAt ops)) F w → wpAny P md ops Q (f + (ops.size - n)) listed a w := by
  intro f
  have hop : ∀ i, i < n → ops[i]? = some (opAt ops i) := fun i hi => by
    have : i < ops.size := Nat.lt_of_lt_of_le hi hB.nsz
    simp [opAt, Array.getD_eq_getD_getElem?, this]
  have hwt : ∀ i, i < n → ∀ a : Act, Region.wanted (opAt ops i) (yielded ops a.tmps) = true := fun i hi a => by simp [Region.wanted, hB.gd i hi]
  induction f with
  | zero =>
    intro pend mid pa D listed a F w hf inv hF _ _ hx hT
    obtain rfl : pend = [] := List.length_eq_zero_iff.1 (by omega)
    obtain rfl : mid = [] := List.length_eq_zero_iff.1 (by omega)
    obtain rfl : pa = [] := List.length_eq_zero_iff.1 (by omega)
    simp only [fill] at hF
    subst hF
    have hl : listed = (Array.range ops.size).map fun i => decide (i < n) := by
      apply Array.ext
      · simp [inv.size]
      · intro i h1 h2
        have hi : i < ops.size := by simpa using h2
        simp only [Array.getElem_map, Array.getElem_range]
        by_cases hin : i < n
        · have := inv.low i hin
          simp [h1] at this
          simp [hin, this]
        · have := inv.high i (by omega)
          simp [h1] at this
          simp [hin, this]
    have hfin : E F w := hT w (Ext.refl w) (fun _ => 0) ⟨fun j hj => (by cases hj), fun j hj => (by cases hj), fun j hj => (by cases hj)⟩
    have := wpAny_of_seq (md := md) (Q' := Q) (ops.toList.drop n) n listed F w (fun j => by simp [List.getElem?_drop]) (by rw [hl]; simpa using hB.seq) (hE _ _ hfin)
    simpa using this
  | succ f ih =>
    intro pend mid pa D listed a F w hf inv hF hD hV hx hT
    rw [show f + 1 + (ops.size - n) = (f + (ops.size - n)) + 1 by omega]
    obtain ⟨k, hmid⟩ := inv.mc
    have hmC : ∀ x ∈ mid, x ∈ C := fun x hx => by rw [hmid] at hx; exact List.mem_of_mem_drop hx
    have hpd : pend.Nodup := inv.pp.imp (fun h => Nat.ne_of_lt h)
    have unl : ∀ j, j < n → (j ∈ pend ∨ j ∈ mid ∨ j ∈ pa) → listed.getD j true = false := fun j hj h => getD_in (by rw [inv.size]; exact Nat.lt_of_lt_of_le hj hB.nsz) ((inv.low j hj).2 h)
    have hpan : ∀ j ∈ pa, j < n := fun j hj => hB.an j (inv.pas j hj)
    have hsome : ∃ j, j < n ∧ listed.getD j true = false := by
      cases pend with
      | cons h ps => exact ⟨h, hB.hn h (inv.ph h (by simp)), unl h (hB.hn h (inv.ph h (by simp))) (by simp)⟩
      | nil =>
        cases pa with
        | cons t ms => exact ⟨t, hpan t (by simp), unl t (hpan t (by simp)) (by simp)⟩
        | nil =>
          cases mid with
          | cons t ms => exact ⟨t, hB.cn t (hmC t (by simp)), unl t (hB.cn t (hmC t (by simp))) (by simp)⟩
          | nil => simp at hf
    refine ⟨fun h0 => ?_, fun i hi => ?_⟩
    · exfalso
      cases pend with
      | cons h ps =>
        have hH := inv.ph h (by simp)
        have hhn := hB.hn h hH
        have : h ∈ Region.ready md ops listed := mem_ready.2 ⟨unl h hhn (by simp), opAt ops h, hop h hhn, fun e he hb => by
          obtain ⟨h1, h2⟩ := hB.hcl h hH e he hb
          cases hg : listed.getD e.on false with
          | true => rfl
          | false =>
            rcases (inv.low e.on (by omega)).1 hg with h3 | h3 | h3
            · rcases List.mem_cons.1 h3 with h4 | h4
              · omega
              · have := (List.pairwise_cons.1 inv.pp).1 _ h4; omega
            · exact (hB.part _ h1 (hmC _ h3)).elim
            · exact (hB.parta _ (inv.pas _ h3) (.inl h1)).elim⟩
        rw [h0] at this; cases this
      | nil =>
        cases pa with
        | cons t ms =>
          have htA := inv.pas t (by simp)
          have htn := hB.an t htA
          have : t ∈ Region.ready md ops listed := mem_ready.2 ⟨unl t htn (by simp), opAt ops t, hop t htn, fun e he hb => by
            have h1 := hB.acl t htA e he hb
            cases hg : listed.getD e.on false with
            | true => rfl
            | false =>
              rcases (inv.low e.on (hB.hn _ h1)).1 hg with h3 | h3 | h3
              · cases h3
              · exact (hB.part _ h1 (hmC _ h3)).elim
              · exact (hB.parta _ (inv.pas _ h3) (.inl h1)).elim⟩
          rw [h0] at this; cases this
        | nil =>
        cases mid with
        | nil => simp at hf
        | cons t ms =>
          have htn := hB.cn t (hmC t (by simp))
          have hkl : k < C.length := by
            rcases Nat.lt_or_ge k C.length with h | h
            · exact h
            · rw [List.drop_eq_nil_of_le h] at hmid; cases hmid
          have htk : C.getD k 0 = t := by
            have := congrArg (fun l => l[0]?) hmid
            simp [List.getElem?_drop] at this
            simp [List.getD_eq_getElem?_getD, ← this]
          have : t ∈ Region.ready md ops listed := mem_ready.2 ⟨unl t htn (by simp), opAt ops t, hop t htn, fun e he hb => by
            have h1 := hB.ccl k hkl e (by rw [htk]; exact he) hb
            have hen : e.on < n := h1.elim (hB.hn _) (fun h => hB.cn _ (List.mem_of_mem_take h))
            cases hg : listed.getD e.on false with
            | true => rfl
            | false =>
              rcases (inv.low e.on hen).1 hg with h3 | h3 | h3
              · cases h3
              · rcases h1 with h1 | h1
                · exact (hB.part _ h1 (hmC _ h3)).elim
                · rw [hmid] at h3
                  have := hB.cnd
                  rw [← List.take_append_drop k C, List.nodup_append] at this
                  exact (this.2.2 _ h1 _ h3 rfl).elim
              · cases h3⟩
          rw [h0] at this; cases this
    · have hir := mem_ready.1 hi
      have hin : i < n := by
        rcases Nat.lt_or_ge i n with h | h
        · exact h
        · obtain ⟨j, hj, hu⟩ := hsome
          have hsz : i < ops.size := (Array.getElem?_eq_some_iff.1 hir.2.choose_spec.1).1
          have h1 := hB.aw i hsz h j hj
          rw [anc_ready inv.clo hi hu] at h1; cases h1
      have hisz : i < listed.size := by rw [inv.size]; exact Nat.lt_of_lt_of_le hin hB.nsz
      have hlook : ∀ h ∈ pend, ∀ d, (opAt ops h).dst = some d → d ∉ (opAt ops i).looksAt ops := fun h hh => looksB_spec hB.lk hin (hB.hn h (inv.ph h hh)) (by
        cases hw : Region.waitsFor md ops i h with
        | false => rfl
        | true =>
          have := waits_listed hi hw
          have h2 := (inv.low h (hB.hn h (inv.ph h hh))).2 (.inl hh)
          rw [h2] at this; cases this)
      have hex : execOp F.eval (opAt ops i) = execOp a.eval (opAt ops i) := by rw [hF]; exact exec_fill (hB.sel i) pend a hlook
      have hcase := (inv.low i hin).1 (getD_false_true hisz hir.1)
      have hnoA : i ∈ pa → i ∉ pend ∧ i ∉ mid := fun h => ⟨fun h2 => hB.parta _ (inv.pas _ h) (.inl (inv.ph _ h2)), fun h2 => hB.parta _ (inv.pas _ h) (.inr (hmC _ h2))⟩
      unfold wpOp
      rw [hop i hin]
      simp only
      rw [if_pos (hwt i hin a)]
      refine .inl ?_
      unfold Oper.wp
      rcases hcase with hp | hm | hpa
      · obtain ⟨d, hd⟩ := hx
        have hv := hV i hp d
        rw [← hex, hd, hv]
        refine ih (pend.erase i) mid pa D _ _ F _ ?_ ⟨by simp [inv.size], fun j hj => ?_, fun j hj => ?_, fun h hh => inv.ph h (List.mem_of_mem_erase hh), inv.pp.sublist List.erase_sublist, ⟨k, hmid⟩, inv.pas, inv.pad, inv.clo.set hi⟩ ?_ (by rw [hd] at hD; exact hD) (fun h hh => hV h (List.mem_of_mem_erase hh)) ⟨d, rfl⟩ (by rw [hd] at hT; exact hT)
        · rw [List.length_erase_of_mem hp]
          have := List.length_pos_of_mem hp
          omega
        · by_cases hji : j = i
          · subst hji
            rw [getD_set_same hisz]
            simp only [Bool.true_eq_false, false_iff, not_or]
            exact ⟨List.Nodup.not_mem_erase hpd, fun h => hB.part _ (inv.ph _ hp) (hmC _ h), fun h => (hnoA h).1 hp⟩
          · rw [getD_set_ne false (Ne.symm hji), inv.low j hj, List.mem_erase_of_ne hji]
        · rw [getD_set_ne false (by omega)]; exact inv.high j hj
        · rw [hF]; exact (fill_erase hB.ds hin pend a (fun h hh => hB.hn h (inv.ph h hh)) hp).symm
      · cases mid with
        | nil => cases hm
        | cons t ms =>
          have hkl : k < C.length := by
            rcases Nat.lt_or_ge k C.length with h | h
            · exact h
            · rw [List.drop_eq_nil_of_le h] at hmid; cases hmid
          obtain rfl : i = t := by
            rcases List.mem_cons.1 hm with h | h
            · exact h
            · exfalso
              obtain ⟨m, hml, hmi⟩ := List.mem_iff_getElem.1 h
              have e1 : C[k + 1 + m]? = some i := by
                have := congrArg (fun l => l[m + 1]?) hmid
                simp only [List.getElem?_cons_succ, List.getElem?_drop] at this
                rw [List.getElem?_eq_getElem hml, hmi] at this
                rw [show k + 1 + m = k + (m + 1) by omega]; exact this.symm
              have e2 : ∃ x, C[k + m]? = some x ∧ x ∈ t :: ms := by
                have := congrArg (fun l => l[m]?) hmid
                simp only [List.getElem?_drop] at this
                have hml' : m < (t :: ms).length := by simp; omega
                rw [List.getElem?_eq_getElem hml'] at this
                exact ⟨_, this.symm, List.getElem_mem _⟩
              obtain ⟨x, hx1, hx2⟩ := e2
              have hl := (List.getElem?_eq_some_iff.1 e1).1
              have hch := hB.chain (k + m) (by omega)
              rw [show k + m + 1 = k + 1 + m by omega] at hch
              simp only [List.getD_eq_getElem?_getD, e1, hx1, Option.getD_some] at hch
              have h1 := waits_listed hi hch
              have h2 := (inv.low x (hB.cn x (hmC x hx2))).2 (.inr (.inl hx2))
              rw [h2] at h1; cases h1
          have hms : ms = C.drop (k + 1) := by
            have := congrArg List.tail hmid
            simpa using this
          have hnd : (i :: ms).Nodup := by rw [hmid]; exact hB.cnd.sublist (List.drop_sublist _ _)
          have hcontrol : ∀ (v : Value) (w' : World), Ext w w' → wpU P ops W obj E pa D (ms.map (opAt ops)) (F.put (opAt ops i).dst v) w' → wpAny P md ops Q (f + (ops.size - n)) (listed.setIfInBounds i true) (a.put (opAt ops i).dst v) w' := fun v w' hx' hT' => by
            refine ih pend ms pa D _ _ (F.put (opAt ops i).dst v) w' (by simp at hf; omega) ⟨by simp [inv.size], fun j hj => ?_, fun j hj => ?_, inv.ph, inv.pp, ⟨k + 1, hms⟩, inv.pas, inv.pad, inv.clo.set hi⟩ ?_ (fun x hxD => Nat.lt_of_lt_of_le (hD x hxD) hx'.size) (fun h hh d => ?_) (hx.trans hx') hT'
            · by_cases hji : j = i
              · subst hji
                rw [getD_set_same hisz]
                simp only [Bool.true_eq_false, false_iff, not_or]
                exact ⟨fun h => hB.part _ (inv.ph _ h) (hmC _ (by simp)), (List.nodup_cons.1 hnd).1, fun h => (hnoA h).2 (by simp)⟩
              · rw [getD_set_ne false (Ne.symm hji), inv.low j hj, List.mem_cons]
                simp [hji]
            · rw [getD_set_ne false (by omega)]; exact inv.high j hj
            · rw [hF]
              exact (fill_put hB.ds hin v pend a (fun h hh => ⟨hB.hn h (inv.ph h hh), fun e => hB.part _ (inv.ph h hh) (by rw [e]; exact hmC _ (by simp))⟩)).symm
            · rw [execOp_put (opAt ops h) (hB.sel h) F _ _ (looksB_spec hB.lk (hB.hn h (inv.ph h hh)) hin (by
                cases hw : Region.waitsFor md ops h i with
                | false => rfl
                | true =>
                  obtain ⟨e, he, hb, hon⟩ := waitsFor_of (md := md) (e := default) (Nat.lt_of_lt_of_le (hB.hn h (inv.ph h hh)) hB.nsz) hw
                  have := (hB.hcl h (inv.ph h hh) e he hb).1
                  rw [hon] at this
                  exact (hB.part _ this (hmC _ (by simp))).elim))]
              exact hV h hh d
          simp only [List.map_cons, wpU] at hT
          rw [hex] at hT
          rcases hT w (Ext.refl w) with ⟨v, w', h1, hx', h2⟩ | ⟨fn, args, h1, hc⟩
          · rw [h1]; exact hcontrol v w' hx' h2
          · rw [h1]
            exact hc.mono fun e w' ⟨v, he, hx', h2⟩ => by subst he; exact hcontrol v w' hx' h2
      · -- a new cell
        have hiA := inv.pas i hpa
        have hxa : Ext w (w.alloc (obj i)) := (Ext.refl w).alloc _
        rw [hA0 i hiA a w]
        have hT' := wpU_alloc (P := P) (W := W) (obj := obj) (E := E) (D := D) hB.ds hB.lk hB.sel hin hpan hpa inv.pad hx.size (fun x hxD => Nat.ne_of_gt (hD x hxD)) mid F (w.alloc (obj i)) (fun c hc => ⟨hB.cn c (hmC c hc), fun e => (hnoA hpa).2 (e ▸ hc), by
          cases hw : Region.waitsFor md ops c i with
          | false => rfl
          | true =>
            exfalso
            have hcC := hmC c hc
            obtain ⟨m, hml, hmi⟩ := List.mem_iff_getElem.1 hcC
            obtain ⟨e, he, hb, hon⟩ := waitsFor_of (md := md) (e := default) (Nat.lt_of_lt_of_le (hB.cn c hcC) hB.nsz) hw
            have h1 := hB.ccl m hml e (by rw [show C.getD m 0 = c by simp [List.getD_eq_getElem?_getD, List.getElem?_eq_getElem hml, hmi]]; exact he) hb
            rw [hon] at h1
            exact hB.parta _ hiA (h1.imp id (fun h => List.mem_of_mem_take h))⟩) (by unfold World.alloc; simp) (hT.mono hxa)
        refine ih pend mid (pa.erase i) (w.heap.size :: D) _ _ (F.put (opAt ops i).dst (ptrV w.heap.size)) (w.alloc (obj i)) ?_ ⟨by simp [inv.size], fun j hj => ?_, fun j hj => ?_, inv.ph, inv.pp, ⟨k, hmid⟩, fun j hj => inv.pas j (List.mem_of_mem_erase hj), inv.pad.erase i, inv.clo.set hi⟩ ?_ (fun x hxD => ?_) (fun h hh d => ?_) (hx.trans hxa) hT'
        · rw [List.length_erase_of_mem hpa]
          have := List.length_pos_of_mem hpa
          omega
        · by_cases hji : j = i
          · subst hji
            rw [getD_set_same hisz]
            simp only [Bool.true_eq_false, false_iff, not_or]
            exact ⟨(hnoA hpa).1, (hnoA hpa).2, List.Nodup.not_mem_erase inv.pad⟩
          · rw [getD_set_ne false (Ne.symm hji), inv.low j hj, List.mem_erase_of_ne hji]
        · rw [getD_set_ne false (by omega)]; exact inv.high j hj
        · rw [hF]
          exact (fill_put hB.ds hin _ pend a (fun h hh => ⟨hB.hn h (inv.ph h hh), fun e => (hnoA hpa).1 (e ▸ hh)⟩)).symm
        · rcases List.mem_cons.1 hxD with h | h
          · subst h; simp
          · have := hD x h; simp; omega
        · rw [execOp_put (opAt ops h) (hB.sel h) F _ _ (looksB_spec hB.lk (hB.hn h (inv.ph h hh)) hin (by
            cases hw : Region.waitsFor md ops h i with
            | false => rfl
            | true =>
              obtain ⟨e, he, hb, hon⟩ := waitsFor_of (md := md) (e := default) (Nat.lt_of_lt_of_le (hB.hn h (inv.ph h hh)) hB.nsz) hw
              have := (hB.hcl h (inv.ph h hh) e he hb).1
              rw [hon] at this
              exact (hB.parta _ hiA (.inl this)).elim))]
          exact hV h hh d
/-- The rule. -/
theorem wp_region_ha' {id : Nat} {Q : Exit → Act → World → Prop} {a : Act} {w : World} {e : Gr} {l : List Oper} (n : Nat) (H C A : List Nat) (obj : Nat → Obj) (hm : P.follows .mixedOrders = true) (hB : hcaB .any l.toArray n H C A = true)
    (hA0 : ∀ j ∈ A, ∀ (a : Act) (w : World), (execOp a.eval (l.getD j default)).run P w = .ok (.value (ptrV w.heap.size)) (w.alloc (obj j)))
    (h : wpHL P w (H.map fun i => l.getD i default) a (fun F => ∀ d, wpU P l.toArray w obj (fun a' w' => wpList P l.toArray Q (l.drop n) a' w') A [] (C.map fun i => l.getD i default) F (grow w d))) : (Code.region id l.toArray true).wp P Q a (grow w e) := by
  have hc := hcaB_spec hB
  have hgd : ∀ i, opAt l.toArray i = l.getD i default := fun i => by simp [opAt, Array.getD_eq_getD_getElem?, List.getD_eq_getElem?_getD]
  have hm1 : ∀ L : List Nat, (L.map fun i => l.getD i default) = L.map (opAt l.toArray) := fun L => List.map_congr_left fun i _ => (hgd i).symm
  rw [hm1] at h
  simp only [hm1 C] at h
  have hself : ∀ h ∈ H, ∀ j, h ≤ j → Region.waitsFor .any l.toArray h j = false := fun x hx j hj => by
    cases hw : Region.waitsFor .any l.toArray x j with
    | false => rfl
    | true =>
      obtain ⟨e, he, hb, hon⟩ := waitsFor_of (md := .any) (e := default) (Nat.lt_of_lt_of_le (hc.hn x hx) hc.nsz) hw
      have := (hc.hcl x hx e he hb).2
      omega
  obtain ⟨val, h1, h2⟩ := wpHL_fill hc.sel hc.lk H a (hc.hp.imp fun h => Nat.ne_of_lt h) hc.hn (hc.hp.imp_of_mem fun ha _ hl => hself _ ha _ (by omega)) (fun x hx => hself x hx x (Nat.le_refl _)) h
  refine wp_region_any hm ?_
  have hlen : H.length + C.length + A.length = n := by
    have hnd : ((H ++ C) ++ A).Nodup := List.nodup_append.2 ⟨List.nodup_append.2 ⟨hc.hp.imp fun h => Nat.ne_of_lt h, hc.cnd, fun x hx y hy hxy => hc.part x hx (hxy ▸ hy)⟩, hc.ad, fun x hx y hy hxy => hc.parta y hy (by rw [← hxy]; exact List.mem_append.1 hx)⟩
    have hp : ((H ++ C) ++ A).Perm (List.range n) := (List.perm_ext_iff_of_nodup hnd List.nodup_range).2 fun x => by
      rw [List.mem_append, List.mem_append, List.mem_range]
      refine ⟨fun h => ?_, fun h => ?_⟩
      · rcases h with (h | h) | h
        · exact hc.hn x h
        · exact hc.cn x h
        · exact hc.an x h
      · rcases hc.all x h with h | h | h
        · exact .inl (.inl h)
        · exact .inl (.inr h)
        · exact .inr h
    have := hp.length_eq
    simpa [Nat.add_assoc] using this
  have := wpAny_of_hca (Q := Q) hc (obj := obj) (fun j hj a w => by rw [hgd]; exact hA0 j hj a w) (fun a w h => by simpa using h) (H.length + C.length + A.length) H C A [] (Array.replicate l.toArray.size false) a _ { grow w e with drawn := (grow w e).drawn + 1 } rfl
    ⟨by simp, fun i hi => by rw [getD_replicate_false]; simpa using hc.all i hi, fun i _ => getD_replicate_false _ _, fun _ h => h, hc.hp, ⟨0, rfl⟩, fun _ h => h, hc.ad, Clo.init _⟩ rfl (fun x hx => by cases hx) h2 (Ext.drew ⟨e, rfl⟩) (h1 ⟨e.obs, fun k => e.n k + 1⟩)
  rw [hlen, show n + (l.toArray.size - n) = l.toArray.size by have := hc.nsz; omega] at this
  exact this
theorem wp_region_ha {id : Nat} {Q : Exit → Act → World → Prop} {a : Act} {w : World} {l : List Oper} (n : Nat) (H C A : List Nat) (obj : Nat → Obj) (hm : P.follows .mixedOrders = true) (hB : hcaB .any l.toArray n H C A = true)
    (hA0 : ∀ j ∈ A, ∀ (a : Act) (w : World), (execOp a.eval (l.getD j default)).run P w = .ok (.value (ptrV w.heap.size)) (w.alloc (obj j)))
    (h : wpHL P w (H.map fun i => l.getD i default) a (fun F => ∀ d, wpU P l.toArray w obj (fun a' w' => wpList P l.toArray Q (l.drop n) a' w') A [] (C.map fun i => l.getD i default) F (grow w d))) : (Code.region id l.toArray true).wp P Q a w := by
  have := wp_region_ha' (id := id) (e := ⟨#[], fun k => k⟩) n H C A obj hm hB hA0 h
  simpa [grow] using this
/-- Its steps: what is laid on the way lies between two worlds. -/
theorem wpU_nil {W : World} {obj : Nat → Obj} {E : Act → World → Prop} {pa D : List Nat} {a : Act} {w : World} (h : ∀ w', Ext w w' → ∀ b, GoodP W w' obj pa D b → E (fill ops (fun j => ptrV (b j)) pa a) w') : wpU P ops W obj E pa D [] a w := h
theorem wpU_v {W : World} {obj : Nat → Obj} {E : Act → World → Prop} {pa D : List Nat} {o : Oper} {l : List Oper} {a : Act} {w : World}
    (h : ∀ w', Ext w w' → ∀ K : Act → World → Prop, (∀ a w, wpU P ops W obj E pa D l a w → K a w) → ∃ v w'', (execOp a.eval o).run P w' = .ok (.value v) w'' ∧ Ext w' w'' ∧ K (a.put o.dst v) w'') : wpU P ops W obj E pa D (o :: l) a w :=
  fun w' hx => .inl (h w' hx _ fun _ _ h => h)
theorem wpU_c {W : World} {obj : Nat → Obj} {E : Act → World → Prop} {pa D : List Nat} {o : Oper} {l : List Oper} {a : Act} {w : World}
    (h : ∀ w', Ext w w' → ∀ K : Act → World → Prop, (∀ a w, wpU P ops W obj E pa D l a w → K a w) → ∃ f args, (execOp a.eval o).run P w' = .ok (.enter f args) w' ∧ Calls P f args w' fun e w'' => ∃ v, e = .returned v ∧ Ext w' w'' ∧ K (a.put o.dst v) w'') : wpU P ops W obj E pa D (o :: l) a w :=
  fun w' hx => .inr (h w' hx _ fun _ _ h => h)
end
end Go.Proofs.YtjkchmegnfbfoaaGreatDoor

namespace Go.Proofs.YtjkchmegnfbfoaaGreatDoor
open Go Go.RowKit
set_option linter.unusedSimpArgs false
set_option linter.unusedVariables false
set_option maxRecDepth 100000
set_option exponentiation.threshold 3000
theorem FrV.mk {W : World} {s s' : Bool} {a a' : Option Addr} {n c n' c' : Nat} {N D : Int} (h1 : BigV W (.agg (bigC s a n c)) N) (h2 : BigV W (.agg (bigC s' a' n' c')) D) : FrV W (.agg #[.bool s, .slice a n c, .bool s', .slice a' n' c']) N D :=
  ⟨_, _, _, _, _, _, _, _, rfl, h1, h2⟩
set_option maxHeartbeats 8000000 in
theorem fSub (x y : Rat) (v1 v2 : Value) (fx : Fits x) (fy : Fits y) (w : World) (h1 : FrQ w v1 x) (h2 : FrQ w v2 y) :
    Calls Tryz.prog 27 #[v1, v2] w (RetB (fun W r => FrQ W r (x - y)) w) := by
  have NG := fun p w h => bNeg y.num p (small_lt (fit_lt fy.1)) w h
  have AD : ∀ p q w, FrV w p x.num x.den → FrV w q (-y.num) y.den → Calls Tryz.prog 26 #[p, q] w (RetB (fun W r => FrQ W r (x - y)) w) := fun p q w h1 h2 => by
    have := fAdd x (-y) p q fx (neg_fits y fy) w h1 (by show FrV w q (-y).num ((-y).den : Int); rw [Rat.neg_num, Rat.neg_den]; exact h2)
    rwa [← Rat.sub_eq_add_neg] at this
  generalize x - y = z at *
  obtain ⟨s11, a11, n11, c11, s12, a12, n12, c12, rfl, VA, VB⟩ := h1
  obtain ⟨s13, a13, n13, c13, s14, a14, n14, c14, rfl, VC, VD⟩ := h2
  generalize x.num = xn at *
  generalize y.num = yn at *
  generalize (x.den : Int) = xd at *
  generalize (y.den : Int) = yd at *
  go_enter Tryz.func27, Tryz.ntmps27
  go_wp2
  refine wp_rebase fun v hv => ?_
  have hx : Ext w v := by rw [hv]; exact (by repeat (first | (with_reducible exact Ext.refl _) | (with_reducible assumption) | (with_reducible apply Ext.grow) | (with_reducible apply Ext.alloc) | (with_reducible apply Ext.drew) | ((with_reducible apply Ext.set); (case hb => (first | omega | (simp; omega))))))
  have BA : Blk v w.heap.size #[.bool s11, .slice a11 n11 c11, .bool s12, .slice a12 n12 c12] 35 := by rw [hv]; exact (by repeat (first | (with_reducible assumption) | ((with_reducible refine Blk.new _ _ _ ?_); (simp; done)) | (with_reducible apply Blk.alloc) | (with_reducible apply Blk.grow) | (with_reducible apply Blk.drew) | (with_reducible apply Blk.set10) | (with_reducible apply Blk.set5) | (with_reducible apply Blk.set4) | (with_reducible apply Blk.tail4) | (with_reducible apply Blk.set2) | (with_reducible apply Blk.set1) | ((with_reducible apply Blk.setOther); (case hne => omega))))
  have BB : Blk v (w.heap.size + 1) #[.bool s13, .slice a13 n13 c13, .bool s14, .slice a14 n14 c14] 35 := by rw [hv]; exact (by repeat (first | (with_reducible assumption) | ((with_reducible refine Blk.new _ _ _ ?_); (simp; done)) | (with_reducible apply Blk.alloc) | (with_reducible apply Blk.grow) | (with_reducible apply Blk.drew) | (with_reducible apply Blk.set10) | (with_reducible apply Blk.set5) | (with_reducible apply Blk.set4) | (with_reducible apply Blk.tail4) | (with_reducible apply Blk.set2) | (with_reducible apply Blk.set1) | ((with_reducible apply Blk.setOther); (case hne => omega))))
  have BO : Blk v (w.heap.size + 1 + 1) #[.bool false, .slice none 0 0, .bool false, .slice none 0 0] 35 := by rw [hv]; exact (by repeat (first | (with_reducible assumption) | ((with_reducible refine Blk.new _ _ _ ?_); (simp; done)) | (with_reducible apply Blk.alloc) | (with_reducible apply Blk.grow) | (with_reducible apply Blk.drew) | (with_reducible apply Blk.set10) | (with_reducible apply Blk.set5) | (with_reducible apply Blk.set4) | (with_reducible apply Blk.tail4) | (with_reducible apply Blk.set2) | (with_reducible apply Blk.set1) | ((with_reducible apply Blk.setOther); (case hne => omega))))
  clear hv
  have lBA := BA.lt; have cBA := BA.cell; have fBA := BA.frozen; have lBB := BB.lt; have cBB := BB.cell; have fBB := BB.frozen; have lBO := BO.lt; have cBO := BO.cell; have fBO := BO.frozen
  replace VA := VA.ext hx; replace VB := VB.ext hx; replace VC := VC.ext hx; replace VD := VD.ext hx
  (first | refine wp_region_h' 8 [0, 1, 2, 4, 5] [3, 6, 7] (by kernel_rfl) (by kernel_rfl) ?_ | refine wp_region_h 8 [0, 1, 2, 4, 5] [3, 6, 7] (by kernel_rfl) (by kernel_rfl) ?_); simp only [List.map_cons, List.map_nil, List.getD_cons_succ, List.getD_cons_zero]; (repeat (refine wpHL_l (fun K hK => ?_); go_simp; refine hK _ ?_; clear hK K)); refine wpHL_nil ?_; intro d0; have hx0 : Ext v (grow v d0) := ⟨d0, rfl⟩; generalize grow v d0 = y0 at *; (refine wpT_c (fun K hK => ?_); go_simp; refine ⟨_, _, ⟨rfl, rfl⟩, ?_⟩; (with_reducible refine (NG _ _ (VC.ext hx0)).mono ?_); rintro e y1 ⟨r1, rfl, hr1, hz1⟩; have hx1 : Ext v y1 := hx0.trans hz1; obtain ⟨s1, a1, n1, c1, rfl, e1, k1⟩ := hr1.opened; refine ⟨_, rfl, hx1, hK _ _ ?_⟩; clear hK K); (refine wpT_v (fun K hK => ?_); go_simp; refine hK _ _ ?_; clear hK K); (refine wpT_c (fun K hK => ?_); go_simp; refine ⟨_, _, ⟨rfl, rfl⟩, ?_⟩; (with_reducible refine (AD _ _ _ (FrV.mk (VA.ext hx1) (VB.ext hx1)) (FrV.mk (BigV.shut e1 k1) (VD.ext hx1))).mono ?_); rintro e y2 ⟨r2, rfl, hr2, hz2⟩; have hx2 : Ext v y2 := hx1.trans hz2; refine ⟨_, rfl, hx2, hK _ _ ?_⟩; clear hK K); refine wpT_nil ?_; simp only [List.drop_succ_cons, List.drop_zero]
  obtain ⟨s8, a8, n8, c8, s9, a9, n9, c9, rfl, W1, W2⟩ := hr2
  have BO2 := BO.ext hx2
  have hxw : Ext w y2 := hx.trans hx2
  have lBO2 := BO2.lt; have cBO2 := BO2.cell; have fBO2 := BO2.frozen
  go_wp2
  refine bp_rebase fun u hu => ?_
  have hy : Ext w u := by rw [hu]; exact (by repeat (first | (with_reducible exact Ext.refl _) | (with_reducible assumption) | (with_reducible apply Ext.grow) | (with_reducible apply Ext.alloc) | (with_reducible apply Ext.drew) | ((with_reducible apply Ext.set); (case hb => (first | omega | (simp; omega))))))
  replace W1 := W1.set4 (x0 := .bool s8) (x1 := .slice a8 n8 c8) (x2 := .bool s9) (x3 := .slice a9 n9 c9) BO2 (by decide)
  replace W2 := W2.set4 (x0 := .bool s8) (x1 := .slice a8 n8 c8) (x2 := .bool s9) (x3 := .slice a9 n9 c9) BO2 (by decide)
  rw [← hu] at W1 W2
  have BF : Blk u (w.heap.size + 1 + 1) #[.bool s8, .slice a8 n8 c8, .bool s9, .slice a9 n9 c9] 35 := by rw [hu]; exact BO2.set4
  clear hu BO2
  have lBF := BF.lt; have cBF := BF.cell; have fBF := BF.frozen; clear BF
  exact bodyPost_ret (v := .agg #[.bool s8, .slice a8 n8 c8, .bool s9, .slice a9 n9 c9]) (by simp [results, Tryz.results27, go_sem, cBF]) rfl ⟨_, rfl, ⟨_, _, _, _, _, _, _, _, rfl, W1, W2⟩, hy⟩
set_option maxHeartbeats 8000000 in
theorem fSign (x : Rat) (v1 : Value) (fx : Fits x) (w : World) (h1 : FrQ w v1 x) :
    Calls Tryz.prog 29 #[v1] w fun e w' => e = .returned (.int .i64 (cmpI x.num 0)) ∧ Ext w w' := by
  have SG := fun p w h => bSign x.num p (small_lt (fit_lt fx.1)) w h
  obtain ⟨s11, a11, n11, c11, s12, a12, n12, c12, rfl, VA, VB⟩ := h1
  generalize x.num = xn at *
  generalize (x.den : Int) = xd at *
  generalize cmpI xn 0 = c at *
  go_enter Tryz.func29, Tryz.ntmps29
  go_wp2_with (go_at_call 41; (with_reducible refine (SG _ _ (VA.ext (by repeat (first | (with_reducible exact Ext.refl _) | (with_reducible assumption) | (with_reducible apply Ext.grow) | (with_reducible apply Ext.alloc) | (with_reducible apply Ext.drew) | ((with_reducible apply Ext.set); (case hb => (first | omega | (simp; omega)))))))).mono ?_); rintro e z ⟨rfl, hz⟩; have hx : Ext w z := Ext.trans (by repeat (first | (with_reducible exact Ext.refl _) | (with_reducible assumption) | (with_reducible apply Ext.grow) | (with_reducible apply Ext.alloc) | (with_reducible apply Ext.drew) | ((with_reducible apply Ext.set); (case hb => (first | omega | (simp; omega)))))) hz)
  exact bodyPost_ret (v := .int .i64 c) (by simp [results, Tryz.results29, go_sem]) rfl ⟨rfl, hx⟩
set_option maxHeartbeats 8000000 in
theorem fNum (z : Int) (b1 : -9223372036854775808 ≤ z) (b2 : z < 9223372036854775808) (w : World) :
    Calls Tryz.prog 10 #[.int .i64 z] w (RetB (fun W r => FrV W r z 1) w) := by
  have N1 := fun w => bNum z b1 b2 w
  have N2 : ∀ w, Calls Tryz.prog 44 #[.int .i64 1] w (RetB (fun W r => BigV W r 1) w) := fun w => bNum 1 (by decide) (by decide) w
  clear b1 b2
  go_enter Tryz.func10, Tryz.ntmps10
  go_wp2_with (go_at_call 44; (with_reducible refine (N1 _).mono ?_); clear N1; rintro e y1 ⟨r, rfl, hr, hz⟩; obtain ⟨s1, a1, n1, c1, rfl, e1, k1⟩ := hr.opened; have hx : Ext w y1 := Ext.trans (by repeat (first | (with_reducible exact Ext.refl _) | (with_reducible assumption) | (with_reducible apply Ext.grow) | (with_reducible apply Ext.alloc) | (with_reducible apply Ext.drew) | ((with_reducible apply Ext.set); (case hb => (first | omega | (simp; omega)))))) hz; have BO : Blk y1 w.heap.size #[.bool false, .slice none 0 0, .bool false, .slice none 0 0] 35 := Blk.ext (by repeat (first | (with_reducible assumption) | ((with_reducible refine Blk.new _ _ _ ?_); (simp; done)) | (with_reducible apply Blk.alloc) | (with_reducible apply Blk.grow) | (with_reducible apply Blk.drew) | (with_reducible apply Blk.set10) | (with_reducible apply Blk.set5) | (with_reducible apply Blk.set4) | (with_reducible apply Blk.tail4) | (with_reducible apply Blk.set2) | (with_reducible apply Blk.set1) | ((with_reducible apply Blk.setOther); (case hne => omega)))) hz)
  go_wp2_with (go_at_call 44; (with_reducible refine (N2 _).mono ?_); clear N2; rintro e y2 ⟨r, rfl, hr2, hz2⟩; obtain ⟨s2, a2, n2, c2, rfl, e2, k2⟩ := hr2.opened; have hxw : Ext w y2 := hx.trans hz2; have BO2 := BO.ext hz2; have lBO2 := BO2.lt; have cBO2 := BO2.cell; have fBO2 := BO2.frozen)
  refine bp_rebase fun u hu => ?_
  have hy : Ext w u := by rw [hu]; exact (by repeat (first | (with_reducible exact Ext.refl _) | (with_reducible assumption) | (with_reducible apply Ext.grow) | (with_reducible apply Ext.alloc) | (with_reducible apply Ext.drew) | ((with_reducible apply Ext.set); (case hb => (first | omega | (simp; omega))))))
  have W1 := ((BigV.shut e1 k1).ext hz2).set4 (x0 := .bool s1) (x1 := .slice a1 n1 c1) (x2 := .bool s2) (x3 := .slice a2 n2 c2) BO2 (by decide)
  have W2 := (BigV.shut e2 k2).set4 (x0 := .bool s1) (x1 := .slice a1 n1 c1) (x2 := .bool s2) (x3 := .slice a2 n2 c2) BO2 (by decide)
  rw [← hu] at W1 W2
  have BF : Blk u w.heap.size #[.bool s1, .slice a1 n1 c1, .bool s2, .slice a2 n2 c2] 35 := by rw [hu]; exact BO2.set4
  clear hu BO2
  have lBF := BF.lt; have cBF := BF.cell; have fBF := BF.frozen; clear BF
  exact bodyPost_ret (v := .agg #[.bool s1, .slice a1 n1 c1, .bool s2, .slice a2 n2 c2]) (by simp [results, Tryz.results10, go_sem, cBF]) rfl ⟨_, rfl, ⟨_, _, _, _, _, _, _, _, rfl, W1, W2⟩, hy⟩
set_option maxHeartbeats 8000000 in
theorem fFrom (r : Rt) (w : World) :
    Calls Tryz.prog 25 #[r.v] w (RetB (fun W q => FrV W q (sv r.s r.m) (sv r.t r.k)) w) := by
  have FA := fun w => bFrom r.s r.m r.hm w
  have FB := fun w => bFrom r.t r.k r.hk w
  obtain ⟨s, m, t, k, _, _⟩ := r
  dsimp only at *
  generalize sv s m = P at *
  generalize sv t k = Q at *
  go_enter Tryz.func25, Tryz.ntmps25
  go_wp2
  refine wp_rebase fun v hv => ?_
  have hx : Ext w v := by rw [hv]; exact (by repeat (first | (with_reducible exact Ext.refl _) | (with_reducible assumption) | (with_reducible apply Ext.grow) | (with_reducible apply Ext.alloc) | (with_reducible apply Ext.drew) | ((with_reducible apply Ext.set); (case hb => (first | omega | (simp; omega))))))
  have BA : Blk v w.heap.size (ratsV s m t k) 27 := by rw [hv]; exact (by repeat (first | (with_reducible assumption) | ((with_reducible refine Blk.new _ _ _ ?_); (simp; done)) | (with_reducible apply Blk.alloc) | (with_reducible apply Blk.grow) | (with_reducible apply Blk.drew) | (with_reducible apply Blk.set10) | (with_reducible apply Blk.set5) | (with_reducible apply Blk.set4) | (with_reducible apply Blk.tail4) | (with_reducible apply Blk.set2) | (with_reducible apply Blk.set1) | ((with_reducible apply Blk.setOther); (case hne => omega))))
  have BO : Blk v (w.heap.size + 1) #[.bool false, .slice none 0 0, .bool false, .slice none 0 0] 35 := by rw [hv]; exact (by repeat (first | (with_reducible assumption) | ((with_reducible refine Blk.new _ _ _ ?_); (simp; done)) | (with_reducible apply Blk.alloc) | (with_reducible apply Blk.grow) | (with_reducible apply Blk.drew) | (with_reducible apply Blk.set10) | (with_reducible apply Blk.set5) | (with_reducible apply Blk.set4) | (with_reducible apply Blk.tail4) | (with_reducible apply Blk.set2) | (with_reducible apply Blk.set1) | ((with_reducible apply Blk.setOther); (case hne => omega))))
  clear hv
  have lBA := BA.lt; have cBA := BA.cell; have fBA := BA.frozen; have lBO := BO.lt; have cBO := BO.cell; have fBO := BO.frozen
  (first | refine wp_region_h' 6 [0, 1, 3, 4] [2, 5] (by kernel_rfl) (by kernel_rfl) ?_ | refine wp_region_h 6 [0, 1, 3, 4] [2, 5] (by kernel_rfl) (by kernel_rfl) ?_); simp only [List.map_cons, List.map_nil, List.getD_cons_succ, List.getD_cons_zero]; (repeat (refine wpHL_l (fun K hK => ?_); go_simp; refine hK _ ?_; clear hK K)); refine wpHL_nil ?_; intro d0; have hx0 : Ext v (grow v d0) := ⟨d0, rfl⟩; generalize grow v d0 = y0 at *; (refine wpT_c (fun K hK => ?_); go_simp; refine ⟨_, _, ⟨rfl, rfl⟩, ?_⟩; (with_reducible refine (FA _).mono ?_); rintro e y1 ⟨r1, rfl, hr1, hz1⟩; have hx1 : Ext v y1 := hx0.trans hz1; obtain ⟨s1, a1, n1, c1, rfl, e1, k1⟩ := hr1.opened; refine ⟨_, rfl, hx1, hK _ _ ?_⟩; clear hK K); (refine wpT_c (fun K hK => ?_); go_simp; refine ⟨_, _, ⟨rfl, rfl⟩, ?_⟩; (with_reducible refine (FB _).mono ?_); rintro e y2 ⟨r2, rfl, hr2, hz2⟩; have hx2 : Ext v y2 := hx1.trans hz2; obtain ⟨s2, a2, n2, c2, rfl, e2, k2⟩ := hr2.opened; refine ⟨_, rfl, hx2, hK _ _ ?_⟩; clear hK K); refine wpT_nil ?_; simp only [List.drop_succ_cons, List.drop_zero]
  have BO2 := BO.ext hx2
  have hxw : Ext w y2 := hx.trans hx2
  have lBO2 := BO2.lt; have cBO2 := BO2.cell; have fBO2 := BO2.frozen
  go_wp2
  refine bp_rebase fun u hu => ?_
  have hy : Ext w u := by rw [hu]; exact (by repeat (first | (with_reducible exact Ext.refl _) | (with_reducible assumption) | (with_reducible apply Ext.grow) | (with_reducible apply Ext.alloc) | (with_reducible apply Ext.drew) | ((with_reducible apply Ext.set); (case hb => (first | omega | (simp; omega))))))
  have W1 := ((BigV.shut e1 k1).ext hz2).set4 (x0 := .bool s1) (x1 := .slice a1 n1 c1) (x2 := .bool s2) (x3 := .slice a2 n2 c2) BO2 (by decide)
  have W2 := (BigV.shut e2 k2).set4 (x0 := .bool s1) (x1 := .slice a1 n1 c1) (x2 := .bool s2) (x3 := .slice a2 n2 c2) BO2 (by decide)
  rw [← hu] at W1 W2
  have BF : Blk u (w.heap.size + 1) #[.bool s1, .slice a1 n1 c1, .bool s2, .slice a2 n2 c2] 35 := by rw [hu]; exact BO2.set4
  clear hu BO2
  have lBF := BF.lt; have cBF := BF.cell; have fBF := BF.frozen; clear BF
  exact bodyPost_ret (v := .agg #[.bool s1, .slice a1 n1 c1, .bool s2, .slice a2 n2 c2]) (by simp [results, Tryz.results25, go_sem, cBF]) rfl ⟨_, rfl, ⟨_, _, _, _, _, _, _, _, rfl, W1, W2⟩, hy⟩
theorem fFrom_ok (r : Rt) (h : r.ok = true) (w : World) :
    Calls Tryz.prog 25 #[r.v] w (RetB (fun W q => FrQ W q r.q) w) := by
  obtain ⟨h1, h2, h3, _, _⟩ := Rt.q_parts r h
  have := fFrom r w
  rw [← h1, h3, sv_false, ← h2] at this
  exact this
end Go.Proofs.YtjkchmegnfbfoaaGreatDoor

namespace Go.Proofs.YtjkchmegnfbfoaaGreatDoor
open Go Go.RowKit
set_option linter.unusedSimpArgs false
set_option linter.unusedVariables false
set_option maxRecDepth 100000
set_option exponentiation.threshold 3000

theorem sv_abs_lt {s : Bool} {m : Nat} (h : m < B4) : (sv s m).natAbs < B4 := by rw [sv_natAbs]; exact h
theorem gcd_b4 {m k : Nat} (h0 : 0 < k) (h : k < B4) : Nat.gcd m k < B4 := Nat.lt_of_le_of_lt (Nat.gcd_le_right _ h0) h
set_option maxHeartbeats 8000000 in
theorem fRight (r : Rt) (w : World) :
    Calls Tryz.prog 8 #[r.v] w fun e w' => e = .returned (.bool r.ok) ∧ Ext w w' := by
  have RA := fun w => bRight r.s r.m r.hm w
  have RB := fun w => bRight r.t r.k r.hk w
  have FA := fun w => bFrom r.s r.m r.hm w
  have FB := fun w => bFrom r.t r.k r.hk w
  have N1 : ∀ w, Calls Tryz.prog 44 #[.int .i64 1] w (RetB (fun W r => BigV W r 1) w) := fun w => bNum 1 (by decide) (by decide) w
  have SG := fun p w h => bSign (sv r.t r.k) p (small_lt (fit_lt (sv_abs_lt r.hk))) w h
  have CG := fun p q w h1 h2 => bGcd (2 ^ 520) (Nat.le_refl _) (fun x y hx hy h0 => quo_all x y (by simpa using hx) (by simpa using hy) (by omega)) (sv r.s r.m) (sv r.t r.k) p q (fit_lt (sv_abs_lt r.hm)) (fit_lt (sv_abs_lt r.hk)) w h1 h2
  rw [sv_natAbs, sv_natAbs] at CG
  obtain ⟨s, m, t, k, hm, hk⟩ := r
  dsimp only at *
  by_cases b1 : badI s m = true
  · rw [show Rt.ok ⟨s, m, t, k, hm, hk⟩ = false by simp [Rt.ok, okR, b1]]
    rw [b1] at RA
    clear RB FA FB N1 SG CG
    go_enter Tryz.func8, Tryz.ntmps8
    go_wp2_with (go_at_call 15; (with_reducible refine (RA _).mono ?_); rintro e z ⟨rfl, d, rfl⟩)
    exact bodyPost_ret (v := .bool false) (by simp [results, Tryz.results8, go_sem]) rfl ⟨rfl, (by repeat (first | (with_reducible exact Ext.refl _) | (with_reducible assumption) | (with_reducible apply Ext.grow) | (with_reducible apply Ext.alloc) | (with_reducible apply Ext.drew) | ((with_reducible apply Ext.set); (case hb => (first | omega | (simp; omega))))))⟩
  · have b1' : badI s m = false := by simpa using b1
    clear b1
    rw [b1'] at RA
    by_cases b2 : badI t k = true
    · rw [show Rt.ok ⟨s, m, t, k, hm, hk⟩ = false by simp [Rt.ok, okR, b2]]
      rw [b2] at RB
      clear FA FB N1 SG CG
      go_enter Tryz.func8, Tryz.ntmps8
      go_wp2_with (go_at_call 15; (first | (with_reducible refine (RA _).mono ?_) | (with_reducible refine (RB _).mono ?_)); rintro e z ⟨rfl, d, rfl⟩)
      exact bodyPost_ret (v := .bool false) (by simp [results, Tryz.results8, go_sem]) rfl ⟨rfl, (by repeat (first | (with_reducible exact Ext.refl _) | (with_reducible assumption) | (with_reducible apply Ext.grow) | (with_reducible apply Ext.alloc) | (with_reducible apply Ext.drew) | ((with_reducible apply Ext.set); (case hb => (first | omega | (simp; omega))))))⟩
    · have b2' : badI t k = false := by simpa using b2
      clear b2
      rw [b2'] at RB
      have hg1 : sgn t k = cmpI (sv t k) 0 := by
        rw [sgn_sv]; unfold cmpI
        rcases Int.lt_trichotomy (sv t k) 0 with h | h | h
        · rw [if_pos h, if_pos h]
        · rw [h]; simp
        · rw [if_neg (by omega), if_neg (by omega), if_neg (by omega), if_pos h]
      have hok : Rt.ok ⟨s, m, t, k, hm, hk⟩ = (decide (cmpI (sv t k) 0 > 0) && decide (Nat.gcd m k = 1)) := by
        simp [Rt.ok, okR, b1', b2', hg1]
      rw [hok]
      have HC : 0 < cmpI (sv t k) 0 → ∀ p q w, BigV w p (Nat.gcd m k : Nat) → BigV w q 1 → Calls Tryz.prog 42 #[p, q] w fun e w' => e = .returned (.int .i64 (cmpI (Nat.gcd m k : Nat) 1)) ∧ Ext w w' := fun h p q w h1 h2 => by
        have h0 : 0 < k := by
          rcases Nat.eq_zero_or_pos k with e | e
          · exfalso; subst e; cases t <;> simp [sv, cmpI] at h
          · exact e
        exact bCmp (Nat.gcd m k : Nat) 1 p q (small_lt (fit_lt (by simpa using gcd_b4 h0 hk))) small_one w h1 h2
      have HE := cmpI_one (Nat.gcd m k : Nat)
      have HG : decide (Nat.gcd m k = 1) = (cmpI (Nat.gcd m k : Nat) 1 == 0) := by
        rw [Bool.eq_iff_iff, HE]; simp; omega
      rw [HG]
      clear hok hg1 b1' b2' HE HG
      generalize cmpI (Nat.gcd m k : Nat) 1 = q2 at *
      generalize cmpI (sv t k) 0 = q1 at *
      obtain ⟨ans, hans⟩ : ∃ ans, ans = (decide (q1 > 0) && (q2 == 0)) := ⟨_, rfl⟩
      rw [← hans]
      have HANS := Lib.hid hans
      clear hans
      generalize sv s m = P at *
      generalize sv t k = Q at *
      generalize ((Nat.gcd m k : Nat) : Int) = G at *
      go_enter Tryz.func8, Tryz.ntmps8
      go_wp2_with (go_at_call 15; (first | (with_reducible refine (RA _).mono ?_) | (with_reducible refine (RB _).mono ?_)); rintro e z ⟨rfl, d, rfl⟩)
      refine wp_rebase fun v hv => ?_
      have hx : Ext w v := by rw [hv]; exact (by repeat (first | (with_reducible exact Ext.refl _) | (with_reducible assumption) | (with_reducible apply Ext.grow) | (with_reducible apply Ext.alloc) | (with_reducible apply Ext.drew) | ((with_reducible apply Ext.set); (case hb => (first | omega | (simp; omega))))))
      have BA : Blk v w.heap.size (ratsV s m t k) 27 := by rw [hv]; exact (by repeat (first | (with_reducible assumption) | ((with_reducible refine Blk.new _ _ _ ?_); (simp; done)) | (with_reducible apply Blk.alloc) | (with_reducible apply Blk.grow) | (with_reducible apply Blk.drew) | (with_reducible apply Blk.set10) | (with_reducible apply Blk.set5) | (with_reducible apply Blk.set4) | (with_reducible apply Blk.tail4) | (with_reducible apply Blk.set2) | (with_reducible apply Blk.set1) | ((with_reducible apply Blk.setOther); (case hne => omega))))
      clear hv RA RB
      have lBA := BA.lt; have cBA := BA.cell; have fBA := BA.frozen
      have hwv := hx.size
      --s1
      (first | refine wp_region_ha' 8 [0, 1, 3, 4] [2, 5] [6, 7] (fun j => if j = 6 then .cells #[.bool false, .slice none 0 0] 33 else .cells #[.bool false, .slice none 0 0] 33) (by kernel_rfl) (by kernel_rfl) ?hA ?_ | refine wp_region_ha 8 [0, 1, 3, 4] [2, 5] [6, 7] (fun j => if j = 6 then .cells #[.bool false, .slice none 0 0] 33 else .cells #[.bool false, .slice none 0 0] 33) (by kernel_rfl) (by kernel_rfl) ?hA ?_); (case hA => (intro j hj a w; simp only [List.mem_cons, List.not_mem_nil, or_false] at hj; obtain rfl | rfl := hj <;> kernel_rfl)); simp only [List.map_cons, List.map_nil, List.getD_cons_succ, List.getD_cons_zero]; (repeat (refine wpHL_l (fun K hK => ?_); go_simp; refine hK _ ?_; clear hK K)); refine wpHL_nil ?_; intro d0; have hx0 : Ext v (grow v d0) := ⟨d0, rfl⟩; generalize grow v d0 = y0 at *; (refine wpU_c (fun t0 ht K hK => ?_); go_simp; have hx0 := hx0.trans ht; refine ⟨_, _, ⟨rfl, rfl⟩, ?_⟩; (with_reducible refine (FA _).mono ?_); rintro e y1 ⟨r1, rfl, hr1, hz1⟩; have hx1 : Ext v y1 := hx0.trans hz1; obtain ⟨s1, a1, n1, c1, rfl, e1, k1⟩ := hr1.opened; refine ⟨_, rfl, hz1, hK _ _ ?_⟩; clear hK K); (refine wpU_c (fun t1 ht K hK => ?_); go_simp; have hx1 := hx1.trans ht; have hr1 := hr1.ext ht; refine ⟨_, _, ⟨rfl, rfl⟩, ?_⟩; (with_reducible refine (FB _).mono ?_); rintro e y2 ⟨r2, rfl, hr2, hz2⟩; have hx2 : Ext v y2 := hx1.trans hz2; have hr1 := hr1.ext hz2; obtain ⟨s2, a2, n2, c2, rfl, e2, k2⟩ := hr2.opened; refine ⟨_, rfl, hz2, hK _ _ ?_⟩; clear hK K); refine wpU_nil (fun y ht b hb => ?_); have hx := hx.trans (hx2.trans ht); have hxv := hx2.trans ht; have hr1 := hr1.ext ht; have hr2 := hr2.ext ht; obtain ⟨hl6, hc6⟩ := hb.at' 6 (by simp); obtain ⟨hl7, hc7⟩ := hb.at' 7 (by simp); have hn6_7 := hb.two 6 (by simp) 7 (by simp) (by decide); simp only [fill, opAt, Array.getD_eq_getD_getElem?, List.getElem?_toArray, List.getElem?_cons_succ, List.getElem?_cons_zero, Option.getD_some, if_true, Nat.reduceEqDiff, if_false] at *; clear hb; generalize b 6 = b6 at *; have B6 : Blk y b6 #[.bool false, .slice none 0 0] 33 := hc6; clear hc6; generalize b 7 = b7 at *; have B7 : Blk y b7 #[.bool false, .slice none 0 0] 33 := hc7; clear hc7; clear b; simp only [List.drop_succ_cons, List.drop_zero]
      clear BA lBA cBA fBA FA FB hx0 hx1 hx2 hz1 hz2 hxv
      have lB6 := B6.lt; have cB6 := B6.cell; have fB6 := B6.frozen; have lB7 := B7.lt; have cB7 := B7.cell; have fB7 := B7.frozen
      --s2
      go_upto_region 4 with fail
      --s3
      refine wp_rebase fun v2 hv2 => ?_
      have B6' : Blk v2 b6 #[.bool s1, .slice a1 n1 c1] 33 := by rw [hv2]; exact (by repeat (first | (with_reducible assumption) | ((with_reducible refine Blk.new _ _ _ ?_); (simp; done)) | (with_reducible apply Blk.alloc) | (with_reducible apply Blk.grow) | (with_reducible apply Blk.drew) | (with_reducible apply Blk.set10) | (with_reducible apply Blk.set5) | (with_reducible apply Blk.set4) | (with_reducible apply Blk.tail4) | (with_reducible apply Blk.set2) | (with_reducible apply Blk.set1) | ((with_reducible apply Blk.setOther); (case hne => omega))))
      have B7' : Blk v2 b7 #[.bool s2, .slice a2 n2 c2] 33 := by rw [hv2]; exact (by repeat (first | (with_reducible assumption) | ((with_reducible refine Blk.new _ _ _ ?_); (simp; done)) | (with_reducible apply Blk.alloc) | (with_reducible apply Blk.grow) | (with_reducible apply Blk.drew) | (with_reducible apply Blk.set10) | (with_reducible apply Blk.set5) | (with_reducible apply Blk.set4) | (with_reducible apply Blk.tail4) | (with_reducible apply Blk.set2) | (with_reducible apply Blk.set1) | ((with_reducible apply Blk.setOther); (case hne => omega))))
      have B7a : Blk ((y.setCell ⟨b6, 0, none⟩ (.bool s1)).setCell ⟨b6, 1, none⟩ (.slice a1 n1 c1)) b7 #[.bool false, .slice none 0 0] 33 := (B7.setOther (by omega)).setOther (by omega)
      have VP := (((hr1.set (j := 0) (x := .bool s1) B6 (by decide)).set (j := 1) (x := .slice a1 n1 c1) B6.setSame (by decide)).set (j := 0) (x := .bool s2) B7a (by decide)).set (j := 1) (x := .slice a2 n2 c2) B7a.setSame (by decide)
      have VQ := (((hr2.set (j := 0) (x := .bool s1) B6 (by decide)).set (j := 1) (x := .slice a1 n1 c1) B6.setSame (by decide)).set (j := 0) (x := .bool s2) B7a (by decide)).set (j := 1) (x := .slice a2 n2 c2) B7a.setSame (by decide)
      rw [← hv2] at VP VQ
      have hx2 : Ext w v2 := by rw [hv2]; exact (by repeat (first | (with_reducible exact Ext.refl _) | (with_reducible assumption) | (with_reducible apply Ext.grow) | (with_reducible apply Ext.alloc) | (with_reducible apply Ext.drew) | ((with_reducible apply Ext.set); (case hb => (first | omega | (simp; omega))))))
      clear hv2 B6 B7 B7a lB6 cB6 fB6 lB7 cB7 fB7 hx hn6_7 k1 k2 e1 e2 hr1 hr2
      have lB6' := B6'.lt; have cB6' := B6'.cell; have fB6' := B6'.frozen; have lB7' := B7'.lt; have cB7' := B7'.cell; have fB7' := B7'.frozen
      --s4
      by_cases hp : 0 < q1
      · have HC := HC hp
        have hp' : decide (q1 > 0) = true := by simpa using hp
        have e0 : ans = (q2 == 0) := by rw [HANS.out, hp', Bool.true_and]
        subst e0
        clear hp HANS
        go_wp2_with (first
          | (go_at_call 41; (with_reducible refine (SG _ _ VQ).mono ?_); rintro e z ⟨rfl, hz⟩; replace VP := VP.ext hz; replace VQ := VQ.ext hz; replace hx2 := hx2.trans hz; replace B6' := B6'.ext hz; replace B7' := B7'.ext hz; clear lB6' cB6' fB6' lB7' cB7' fB7'; have lB6' := B6'.lt; have cB6' := B6'.cell; have fB6' := B6'.frozen; have lB7' := B7'.lt; have cB7' := B7'.cell; have fB7' := B7'.frozen)
          | (go_at_call 43; (with_reducible refine (CG _ _ _ VP VQ).mono ?_); rintro e z2 ⟨r, rfl, hr, hz2⟩; replace hx2 := hx2.trans hz2)
          | (go_at_call 44; (with_reducible refine (N1 _).mono ?_); rintro e z3 ⟨r', rfl, hr', hz3⟩; replace hx2 := hx2.trans hz3; replace hr := hr.ext hz3)
          | (go_at_call 42; (with_reducible refine (HC _ _ _ hr hr').mono ?_); rintro e z4 ⟨rfl, hz4⟩; replace hx2 := hx2.trans hz4))
        --s5
        exact bodyPost_ret (v := .bool (q2 == 0)) (by simp [results, Tryz.results8, go_sem]) rfl ⟨rfl, hx2⟩
      · have hp' : decide (q1 > 0) = false := by simpa using hp
        have e0 : ans = false := by rw [HANS.out, hp', Bool.false_and]
        subst e0
        clear hp HC HANS
        go_wp2_with (go_at_call 41; (with_reducible refine (SG _ _ VQ).mono ?_); rintro e z ⟨rfl, hz⟩; replace hx2 := hx2.trans hz)
        --s6
        exact bodyPost_ret (v := .bool false) (by simp [results, Tryz.results8, go_sem]) rfl ⟨rfl, hx2⟩
end Go.Proofs.YtjkchmegnfbfoaaGreatDoor

namespace Go.Proofs.YtjkchmegnfbfoaaGreatDoor
open Go Go.RowKit
set_option linter.unusedSimpArgs false
set_option linter.unusedVariables false
set_option maxRecDepth 100000
set_option exponentiation.threshold 3000

theorem floor_tdiv (x : Rat) : floorQ x = if x.num.tmod x.den < 0 then x.num.tdiv x.den - 1 else x.num.tdiv x.den := by
  unfold floorQ
  have hd : (0 : Int) < x.den := by have := x.den_pos; omega
  generalize (x.den : Int) = d at *
  generalize x.num = n at *
  rcases (by omega : 0 ≤ n ∨ n < 0) with h | h
  · have h1 : ¬ n.tmod d < 0 := by have := Int.tmod_nonneg d h; omega
    rw [if_neg h1, Int.tdiv_eq_ediv_of_nonneg h]
  · have h1 := Int.mul_tdiv_add_tmod n d
    have h2 : n.tmod d ≤ 0 := by
      have := Int.tmod_nonneg d (show 0 ≤ -n by omega)
      rw [Int.neg_tmod] at this; omega
    have h3 : -d < n.tmod d := by
      have := Int.tmod_lt_of_pos (-n) hd
      rw [Int.neg_tmod] at this; omega
    generalize n.tdiv d = q at *
    generalize n.tmod d = r at *
    by_cases h0 : r < 0
    · rw [if_pos h0]
      have e : n = (r + d) + d * (q - 1) := by rw [Int.mul_sub]; omega
      rw [e, Int.add_mul_ediv_left _ _ (by omega), Int.ediv_eq_zero_of_lt (by omega) (by omega)]; omega
    · rw [if_neg h0]
      have e : n = d * q := by omega
      rw [e, Int.mul_ediv_cancel_left _ (by omega)]
theorem tdiv_abs_le (n d : Int) : (n.tdiv d).natAbs ≤ n.natAbs := by
  rw [tdiv_sv, sv_natAbs]; exact Nat.div_le_self _ _
theorem tmod_abs_le (n d : Int) : (n.tmod d).natAbs ≤ n.natAbs := by
  rw [tmod_sv, sv_natAbs]; exact Nat.mod_le _ _
theorem cmp0_neg (r : Int) : decide (cmpI r 0 < 0) = decide (r < 0) := by
  unfold cmpI
  by_cases h : r < 0
  · simp [h]
  · rw [if_neg h]; split <;> simp [h]
set_option maxHeartbeats 8000000 in
theorem fFloor (x : Rat) (v1 : Value) (fx : Fits x) (w : World) (h1 : FrQ w v1 x) :
    Calls Tryz.prog 35 #[v1] w (RetB (fun W r => BigV W r (floorQ x)) w) := by
  have QC := fun p q w h1 h2 => quo_all x.num x.den (fit_lt fx.1) (fit_lt (den_fit fx)) (by have := x.den_nz; omega) p q w h1 h2
  unfold RetQ at QC
  have s1 : Small (x.num.tdiv x.den) := small_lt (Nat.lt_of_le_of_lt (tdiv_abs_le _ _) (fit_lt fx.1))
  have s2 : Small (x.num.tmod x.den) := small_lt (Nat.lt_of_le_of_lt (tmod_abs_le _ _) (fit_lt fx.1))
  have SG := fun p w h => bSign (x.num.tmod x.den) p s2 w h
  have N1 : ∀ w, Calls Tryz.prog 44 #[.int .i64 1] w (RetB (fun W r => BigV W r 1) w) := fun w => bNum 1 (by decide) (by decide) w
  have SB := fun p q w h1 h2 => bSub (x.num.tdiv x.den) 1 p q s1 small_one w h1 h2
  have HF := Lib.hid (floor_tdiv x)
  have HS := Lib.hid (cmp0_neg (x.num.tmod x.den))
  obtain ⟨s11, a11, n11, c11, s12, a12, n12, c12, rfl, VA, VB⟩ := h1
  clear s1 s2
  generalize floorQ x = fl at *
  generalize x.num.tdiv x.den = Q at *
  generalize x.num.tmod x.den = R at *
  generalize cmpI R 0 = q1 at *
  generalize x.num = xn at *
  generalize (x.den : Int) = xd at *
  go_enter Tryz.func35, Tryz.ntmps35
  go_upto_region 2 with (go_at_call 57; (with_reducible refine (QC _ _ _ (VA.ext (by repeat (first | (with_reducible exact Ext.refl _) | (with_reducible assumption) | (with_reducible apply Ext.grow) | (with_reducible apply Ext.alloc) | (with_reducible apply Ext.drew) | ((with_reducible apply Ext.set); (case hb => (first | omega | (simp; omega))))))) (VB.ext (by repeat (first | (with_reducible exact Ext.refl _) | (with_reducible assumption) | (with_reducible apply Ext.grow) | (with_reducible apply Ext.alloc) | (with_reducible apply Ext.drew) | ((with_reducible apply Ext.set); (case hb => (first | omega | (simp; omega)))))))).mono ?_); rintro e z ⟨q, r, rfl, hq, hr, hz⟩; obtain ⟨sq, aq, nq, cq, rfl, eq, kq⟩ := hq.opened; obtain ⟨sr, ar, nr, cr, rfl, er, kr⟩ := hr.opened; have hx : Ext w z := Ext.trans (by repeat (first | (with_reducible exact Ext.refl _) | (with_reducible assumption) | (with_reducible apply Ext.grow) | (with_reducible apply Ext.alloc) | (with_reducible apply Ext.drew) | ((with_reducible apply Ext.set); (case hb => (first | omega | (simp; omega)))))) hz; have BO : Blk z (w.heap.size + 1) #[.bool false, .slice none 0 0] 33 := Blk.ext (by repeat (first | (with_reducible assumption) | ((with_reducible refine Blk.new _ _ _ ?_); (simp; done)) | (with_reducible apply Blk.alloc) | (with_reducible apply Blk.grow) | (with_reducible apply Blk.drew) | (with_reducible apply Blk.set10) | (with_reducible apply Blk.set5) | (with_reducible apply Blk.set4) | (with_reducible apply Blk.tail4) | (with_reducible apply Blk.set2) | (with_reducible apply Blk.set1) | ((with_reducible apply Blk.setOther); (case hne => omega)))) hz)
  clear QC hz VA VB
  refine wp_rebase fun v hv => ?_
  have hzv : Ext z v := by rw [hv]; exact (by repeat (first | (with_reducible exact Ext.refl _) | (with_reducible assumption) | (with_reducible apply Ext.grow) | (with_reducible apply Ext.alloc) | (with_reducible apply Ext.drew) | ((with_reducible apply Ext.set); (case hb => (first | omega | (simp; omega))))))
  have BQ : Blk v z.heap.size #[.bool sq, .slice aq nq cq] 33 := by rw [hv]; exact (by repeat (first | (with_reducible assumption) | ((with_reducible refine Blk.new _ _ _ ?_); (simp; done)) | (with_reducible apply Blk.alloc) | (with_reducible apply Blk.grow) | (with_reducible apply Blk.drew) | (with_reducible apply Blk.set10) | (with_reducible apply Blk.set5) | (with_reducible apply Blk.set4) | (with_reducible apply Blk.tail4) | (with_reducible apply Blk.set2) | (with_reducible apply Blk.set1) | ((with_reducible apply Blk.setOther); (case hne => omega))))
  have BR : Blk v (z.heap.size + 1) #[.bool sr, .slice ar nr cr] 33 := by rw [hv]; exact (by repeat (first | (with_reducible assumption) | ((with_reducible refine Blk.new _ _ _ ?_); (simp; done)) | (with_reducible apply Blk.alloc) | (with_reducible apply Blk.grow) | (with_reducible apply Blk.drew) | (with_reducible apply Blk.set10) | (with_reducible apply Blk.set5) | (with_reducible apply Blk.set4) | (with_reducible apply Blk.tail4) | (with_reducible apply Blk.set2) | (with_reducible apply Blk.set1) | ((with_reducible apply Blk.setOther); (case hne => omega))))
  clear hv
  have BO' := BO.ext hzv
  have VQ := (BigV.shut eq kq).ext hzv
  have VR := (BigV.shut er kr).ext hzv
  have hxv := hx.trans hzv
  clear BO hzv hx hq hr eq kq er kr
  have lBQ := BQ.lt; have cBQ := BQ.cell; have fBQ := BQ.frozen; have lBR := BR.lt; have cBR := BR.cell; have fBR := BR.frozen; have lBO' := BO'.lt; have cBO' := BO'.cell; have fBO' := BO'.frozen
  have hq1 : decide (q1 < 0) = decide (R < 0) := HS.out
  by_cases hR : R < 0
  · have hq2 : q1 < 0 := by simpa [hR] using hq1
    have e0 : fl = Q - 1 := by rw [HF.out, if_pos hR]
    subst e0
    clear HS HF hq1 hR
    --s1
    go_upto_region 3 with (go_at_call 41; (with_reducible refine (SG _ _ VR).mono ?_); rintro e z2 ⟨rfl, hz⟩)
    obtain ⟨v0, hv0⟩ : ∃ v0, v0 = v := ⟨_, rfl⟩
    have BQ2 := BQ.ext hz
    have BO := BO'.ext hz
    have VQ2 := VQ.ext hz
    have hx := hxv.trans hz
    clear BQ BO' BR VQ VR hxv lBQ cBQ fBQ lBR cBR fBR lBO' cBO' fBO' hv0 v0
    have lBQ2 := BQ2.lt; have cBQ2 := BQ2.cell; have fBQ2 := BQ2.frozen; have lBO := BO.lt; have cBO := BO.cell; have fBO := BO.frozen
    obtain ⟨v, rfl⟩ : ∃ v', v' = z2 := ⟨_, rfl⟩
    (first | refine wp_region_h' 3 [0] [1, 2] (by kernel_rfl) (by kernel_rfl) ?_ | refine wp_region_h 3 [0] [1, 2] (by kernel_rfl) (by kernel_rfl) ?_); simp only [List.map_cons, List.map_nil, List.getD_cons_succ, List.getD_cons_zero]; (repeat (refine wpHL_l (fun K hK => ?_); go_simp; refine hK _ ?_; clear hK K)); refine wpHL_nil ?_; intro d0; have hx0 : Ext v (grow v d0) := ⟨d0, rfl⟩; generalize grow v d0 = y0 at *; (refine wpT_c (fun K hK => ?_); go_simp; refine ⟨_, _, ⟨rfl, rfl⟩, ?_⟩; (with_reducible refine (N1 _).mono ?_); rintro e y1 ⟨r1, rfl, hr1, hz1⟩; have hx1 : Ext v y1 := hx0.trans hz1; obtain ⟨s1, a1, n1, c1, rfl, e1, k1⟩ := hr1.opened; refine ⟨_, rfl, hx1, hK _ _ ?_⟩; clear hK K); (refine wpT_c (fun K hK => ?_); go_simp; refine ⟨_, _, ⟨rfl, rfl⟩, ?_⟩; (with_reducible refine (SB _ _ _ (VQ2.ext hx1) hr1).mono ?_); rintro e y2 ⟨r2, rfl, hr2, hz2⟩; have hx2 : Ext v y2 := hx1.trans hz2; refine ⟨_, rfl, hx2, hK _ _ ?_⟩; clear hK K); refine wpT_nil ?_; simp only [List.drop_succ_cons, List.drop_zero]
    --s2
    obtain ⟨tr, ar, nr, cr, rfl, er, ks⟩ := hr2.opened; have hxn : Ext w y2 := hx.trans hx2; have BOn := BO.ext hx2; have lBOn := BOn.lt; have cBOn := BOn.cell; have fBOn := BOn.frozen; go_wp2; refine bp_rebase fun u hu => ?_; have hy : Ext w u := (by rw [hu]; exact (by repeat (first | (with_reducible exact Ext.refl _) | (with_reducible assumption) | (with_reducible apply Ext.grow) | (with_reducible apply Ext.alloc) | (with_reducible apply Ext.drew) | ((with_reducible apply Ext.set); (case hb => (first | omega | (simp; omega))))))); have hsl := (ks.set (k := (w.heap.size + 1)) (j := 0) (x := .bool tr) BOn (by decide)).set (k := (w.heap.size + 1)) (j := 1) (x := .slice ar nr cr) BOn.setSame (by decide); rw [← hu] at hsl; have BF : Blk u (w.heap.size + 1) #[.bool tr, .slice ar nr cr] 33 := (by rw [hu]; exact (by repeat (first | (with_reducible assumption) | ((with_reducible refine Blk.new _ _ _ ?_); (simp; done)) | (with_reducible apply Blk.alloc) | (with_reducible apply Blk.grow) | (with_reducible apply Blk.drew) | (with_reducible apply Blk.set10) | (with_reducible apply Blk.set5) | (with_reducible apply Blk.set4) | (with_reducible apply Blk.tail4) | (with_reducible apply Blk.set2) | (with_reducible apply Blk.set1) | ((with_reducible apply Blk.setOther); (case hne => omega))))); clear hu; have lBF := BF.lt; have cBF := BF.cell; have fBF := BF.frozen; clear BF; exact bodyPost_ret (v := .agg #[.bool tr, .slice ar nr cr]) (by simp [results, Tryz.results35, go_sem, cBF]) rfl ⟨_, rfl, BigV.shut er hsl, hy⟩
  · have hq2 : ¬ q1 < 0 := by simpa [hR] using hq1
    have e0 : fl = Q := by rw [HF.out, if_neg hR]
    subst e0
    clear HS HF hq1 hR N1 SB
    go_wp2_with (go_at_call 41; (with_reducible refine (SG _ _ VR).mono ?_); rintro e z2 ⟨rfl, hz⟩; have BQ2 := BQ.ext hz; have BO := BO'.ext hz; have VQ2 := VQ.ext hz; have hx := hxv.trans hz; have lBQ2 := BQ2.lt; have cBQ2 := BQ2.cell; have fBQ2 := BQ2.frozen; have lBO := BO.lt; have cBO := BO.cell; have fBO := BO.frozen)
    --s3
    refine bp_rebase fun u hu => ?_
    have hy : Ext w u := by rw [hu]; exact (by repeat (first | (with_reducible exact Ext.refl _) | (with_reducible assumption) | (with_reducible apply Ext.grow) | (with_reducible apply Ext.alloc) | (with_reducible apply Ext.drew) | ((with_reducible apply Ext.set); (case hb => (first | omega | (simp; omega))))))
    have hsl := (VQ2.set (j := 0) (x := .bool sq) BO (by decide)).set (j := 1) (x := .slice aq nq cq) BO.setSame (by decide)
    rw [← hu] at hsl
    have BF : Blk u (w.heap.size + 1) #[.bool sq, .slice aq nq cq] 33 := by rw [hu]; exact (by repeat (first | (with_reducible assumption) | ((with_reducible refine Blk.new _ _ _ ?_); (simp; done)) | (with_reducible apply Blk.alloc) | (with_reducible apply Blk.grow) | (with_reducible apply Blk.drew) | (with_reducible apply Blk.set10) | (with_reducible apply Blk.set5) | (with_reducible apply Blk.set4) | (with_reducible apply Blk.tail4) | (with_reducible apply Blk.set2) | (with_reducible apply Blk.set1) | ((with_reducible apply Blk.setOther); (case hne => omega))))
    clear hu
    have lBF := BF.lt; have cBF := BF.cell; have fBF := BF.frozen; clear BF
    exact bodyPost_ret (v := .agg #[.bool sq, .slice aq nq cq]) (by simp [results, Tryz.results35, go_sem, cBF]) rfl ⟨_, rfl, hsl, hy⟩
end Go.Proofs.YtjkchmegnfbfoaaGreatDoor

namespace Go.Proofs.YtjkchmegnfbfoaaGreatDoor
open Go Go.RowKit
set_option linter.unusedSimpArgs false
set_option linter.unusedVariables false
set_option linter.constructorNameAsVariable false
section
variable {P : Program} {ops : Array Oper} {md : Region.Mode}

def firstN (N n : Nat) : Array Bool := (Array.range N).map fun i => decide (i < n)
def phB (md : Region.Mode) (ops : Array Oper) (m n : Nat) (H C A : List Nat) : Bool :=
  Region.noSelect ops && decide (n ≤ ops.size) && dstsB ops n && looksB md ops n &&
  (List.range ops.size).all (fun t => decide (t < n) || (List.range n).all fun i => decide (i < m) || anc md ops 4 t i || (anc md ops 4 t (n - 1) && anc md ops 6 (n - 1) i)) &&
  (List.range n).all (fun i => decide (i < m) || (H.contains i && !C.contains i && !A.contains i) || (!H.contains i && C.contains i && !A.contains i) || (!H.contains i && !C.contains i && A.contains i && (opAt ops i).guard.isNone)) &&
  H.all (fun i => decide (m ≤ i) && decide (i < n)) && C.all (fun i => decide (m ≤ i) && decide (i < n)) && A.all (fun i => decide (m ≤ i) && decide (i < n)) &&
  A.all (fun j => (opAt ops j).after.all fun e => !Region.binds md e || decide (e.on < m) || H.contains e.on) &&
  H.all (fun h => (opAt ops h).after.all fun e => !Region.binds md e || decide (e.on < m) || (H.contains e.on && decide (e.on < h))) &&
  (List.range C.length).all (fun k => (opAt ops (C.getD k 0)).after.all fun e => !Region.binds md e || decide (e.on < m) || H.contains e.on || (C.take k).contains e.on) &&
  (List.range (C.length - 1)).all (fun k => Region.waitsFor md ops (C.getD (k + 1) 0) (C.getD k 0)) &&
  decide (H.Pairwise (· < ·)) && decide C.Nodup && decide A.Nodup

structure Inv10 (md : Region.Mode) (ops : Array Oper) (m n : Nat) (H C A : List Nat) (listed : Array Bool) (pend mid pa : List Nat) : Prop where
  size : listed.size = ops.size
  old : ∀ i, i < m → listed.getD i false = true
  low : ∀ i, m ≤ i → i < n → (listed.getD i false = false ↔ i ∈ pend ∨ i ∈ mid ∨ i ∈ pa)
  high : ∀ i, n ≤ i → listed.getD i false = false
  ph : ∀ h ∈ pend, h ∈ H
  pp : pend.Pairwise (· < ·)
  mc : ∃ k, mid = C.drop k
  pas : ∀ j ∈ pa, j ∈ A
  pad : pa.Nodup
  clo : Clo md ops listed
structure PH (md : Region.Mode) (ops : Array Oper) (m n : Nat) (H C A : List Nat) : Prop where
  sel : ∀ i cs b, (opAt ops i).op ≠ .select cs b
  nsz : n ≤ ops.size
  ds : dstsB ops n = true
  lk : looksB md ops n = true
  aw : ∀ t, t < ops.size → n ≤ t → ∀ i, m ≤ i → i < n → anc md ops 4 t i = true ∨ (anc md ops 4 t (n - 1) = true ∧ anc md ops 6 (n - 1) i = true)
  ga : ∀ i ∈ A, (opAt ops i).guard = none
  part : ∀ i, i ∈ H → i ∈ C → False
  parta : ∀ i, i ∈ A → i ∈ H ∨ i ∈ C → False
  hn : ∀ h ∈ H, m ≤ h ∧ h < n
  cn : ∀ c ∈ C, m ≤ c ∧ c < n
  an : ∀ c ∈ A, m ≤ c ∧ c < n
  all : ∀ i, m ≤ i → i < n → i ∈ H ∨ i ∈ C ∨ i ∈ A
  acl : ∀ j ∈ A, ∀ e ∈ (opAt ops j).after, Region.binds md e = true → e.on < m ∨ e.on ∈ H
  hcl : ∀ h ∈ H, ∀ e ∈ (opAt ops h).after, Region.binds md e = true → e.on < m ∨ (e.on ∈ H ∧ e.on < h)
  ccl : ∀ k, k < C.length → ∀ e ∈ (opAt ops (C.getD k 0)).after, Region.binds md e = true → e.on < m ∨ e.on ∈ H ∨ e.on ∈ C.take k
  chain : ∀ k, k + 1 < C.length → Region.waitsFor md ops (C.getD (k + 1) 0) (C.getD k 0) = true
  hp : H.Pairwise (· < ·)
  cnd : C.Nodup
  ad : A.Nodup
theorem phB_spec {m n : Nat} {H C A : List Nat} (h : phB md ops m n H C A = true) : PH md ops m n H C A := by
  simp only [phB, Bool.and_eq_true, decide_eq_true_eq, List.all_eq_true, List.mem_range, Array.all_eq_true', Bool.or_eq_true, Bool.not_eq_true', Option.isNone_iff_eq_none, List.contains_iff_mem, Bool.eq_false_iff, ne_eq] at h
  obtain ⟨⟨⟨⟨⟨⟨⟨⟨⟨⟨⟨⟨⟨⟨⟨h1, h2⟩, h3⟩, h4⟩, h5⟩, h6⟩, h7⟩, h8⟩, h8a⟩, h8b⟩, h9⟩, h10⟩, h11⟩, h12⟩, h13⟩, h13a⟩ := h
  have h6' : ∀ i, m ≤ i → i < n → (i ∈ H ∧ i ∉ C ∧ i ∉ A) ∨ (i ∉ H ∧ i ∈ C ∧ i ∉ A) ∨ (i ∉ H ∧ i ∉ C ∧ i ∈ A ∧ (opAt ops i).guard = none) := fun i hm hi => by
    rcases h6 i hi with ((h | h) | h) | h
    · omega
    · exact .inl ⟨h.1.1, h.1.2, h.2⟩
    · exact .inr (.inl ⟨h.1.1, h.1.2, h.2⟩)
    · exact .inr (.inr ⟨h.1.1.1, h.1.1.2, h.1.2, h.2⟩)
  refine ⟨fun i cs b => ?_, h2, h3, h4, fun t ht hn i hm hi => ?_, fun i hi => ?_, fun i hi hc => ?_, fun i hi hc => ?_, h7, h8, h8a, fun i hm hi => ?_, fun x hx e he hb => ?_, fun x hx e he hb => ?_, fun k hk e he hb => ?_, fun k hk => h11 k (by omega), h12, h13, h13a⟩
  · cases ho : ops[i]? with
    | none => simp [opAt, Array.getD_eq_getD_getElem?, ho, default, instInhabitedOper.default, instInhabitedOp.default]
    | some o => rw [opAt_eq ho]; exact Region.noSelect_spec h1 i o cs b ho
  · rcases (h5 t ht).resolve_left (by omega) i hi with (h | h) | h
    · omega
    · exact .inl h
    · exact .inr h
  · have := h8a i hi
    rcases h6' i this.1 this.2 with h | h | h
    · exact absurd hi h.2.2
    · exact absurd hi h.2.2
    · exact h.2.2.2
  · have := h7 i hi
    rcases h6' i this.1 this.2 with h | h | h
    · exact h.2.1 hc
    · exact h.1 hi
    · exact h.1 hi
  · have := h8a i hi
    rcases h6' i this.1 this.2 with h | h | h
    · exact h.2.2 hi
    · exact h.2.2 hi
    · exact hc.elim h.1 h.2.1
  · rcases h6' i hm hi with h | h | h
    · exact .inl h.1
    · exact .inr (.inl h.2.1)
    · exact .inr (.inr h.2.2.1)
  · rcases h8b x hx e he with (h | h) | h
    · exact absurd hb h
    · exact .inl h
    · exact .inr h
  · rcases h9 x hx e he with (h | h) | h
    · exact absurd hb h
    · exact .inl h
    · exact .inr h
  · rcases h10 k hk e he with ((h | h) | h) | h
    · exact absurd hb h
    · exact .inl h
    · exact .inr (.inl h)
    · exact .inr (.inr h)

/-- The loads, each wanted or not. -/
def wpG (P : Program) (ops : Array Oper) (W : World) : List Oper → Act → (Act → Prop) → Prop
  | [], a, F => F a
  | o :: l, a, F => ∃ v, ((Region.wanted o (yielded ops a.tmps) = true ∧ ∀ d, (execOp a.eval o).run P (grow W d) = .ok (.value v) (grow W d)) ∨ (Region.wanted o (yielded ops a.tmps) = false ∧ v = undef)) ∧ wpG P ops W l (a.put o.dst v) F
def wpX (P : Program) (ops : Array Oper) (W : World) (obj : Nat → Obj) (E : Act → World → Prop) (pa D : List Nat) : List Oper → Act → World → Prop
  | [], a, w => ∀ w', Ext w w' → ∀ b, GoodP W w' obj pa D b → E (fill ops (fun j => ptrV (b j)) pa a) w'
  | o :: l, a, w => ∀ w', Ext w w' → (Region.wanted o (yielded ops a.tmps) = true ∧ ((∃ v w'', (execOp a.eval o).run P w' = .ok (.value v) w'' ∧ Ext w' w'' ∧ wpX P ops W obj E pa D l (a.put o.dst v) w'') ∨
    (∃ f args, (execOp a.eval o).run P w' = .ok (.enter f args) w' ∧ Calls P f args w' fun e w'' => ∃ v, e = .returned v ∧ Ext w' w'' ∧ wpX P ops W obj E pa D l (a.put o.dst v) w''))) ∨
    (Region.wanted o (yielded ops a.tmps) = false ∧ wpX P ops W obj E pa D l (a.put o.dst undef) w')
theorem wpX.mono {W : World} {obj : Nat → Obj} {E : Act → World → Prop} {pa D : List Nat} : ∀ {l : List Oper} {a : Act} {w w' : World}, wpX P ops W obj E pa D l a w → Ext w w' → wpX P ops W obj E pa D l a w'
  | [], _, _, _, h, hx => fun w'' hx' => h w'' (hx.trans hx')
  | _ :: _, _, _, _, h, hx => fun w'' hx' => h w'' (hx.trans hx')
theorem wpX_alloc {n : Nat} (hd : dstsB ops n = true) (hl : looksB md ops n = true) (hsel : ∀ i cs b, (opAt ops i).op ≠ .select cs b) {W : World} {obj : Nat → Obj} {E : Act → World → Prop} {pa D : List Nat} {i bi : Nat} (hin : i < n) (hpn : ∀ j ∈ pa, j < n) (hi : i ∈ pa) (hnd : pa.Nodup) (hWb : W.heap.size ≤ bi) (hbD : ∀ x ∈ D, bi ≠ x) :
    ∀ (cs : List Nat) (a : Act) (w : World), (∀ c ∈ cs, c < n ∧ c ≠ i ∧ Region.waitsFor md ops c i = false) → w.heap[bi]? = some (obj i) → wpX P ops W obj E pa D (cs.map (opAt ops)) a w →
      wpX P ops W obj E (pa.erase i) (bi :: D) (cs.map (opAt ops)) (a.put (opAt ops i).dst (ptrV bi)) w
  | [], a, w, _, hb, H => by
    intro w' hx b hg
    have hlt : bi < w.heap.size := (Array.getElem?_eq_some_iff.1 hb).1
    have hne : ∀ j ∈ pa.erase i, j ≠ i := fun j hj e => by subst e; exact List.Nodup.not_mem_erase hnd hj
    have hmem : ∀ j ∈ pa, j ≠ i → j ∈ pa.erase i := fun j hj hji => (List.mem_erase_of_ne hji).2 hj
    have hg' : GoodP W w' obj pa D (fun j => if j = i then bi else b j) := by
      refine ⟨fun j hj => ?_, fun j hj k hk hjk => ?_, fun j hj x hx => ?_⟩
      · by_cases e : j = i
        · subst e; simp only [if_true]; exact ⟨hWb, by rw [hx.block _ hlt, hb]⟩
        · simp only [if_neg e]; exact hg.at' j (hmem j hj e)
      · by_cases e : j = i
        · subst e
          simp only [if_true, if_neg (Ne.symm hjk)]
          exact (hg.old k (hmem k hk (Ne.symm hjk)) bi (by simp)).symm
        · by_cases e2 : k = i
          · subst e2
            simp only [if_true, if_neg e]
            exact hg.old j (hmem j hj e) bi (by simp)
          · simp only [if_neg e, if_neg e2]; exact hg.two j (hmem j hj e) k (hmem k hk e2) hjk
      · by_cases e : j = i
        · subst e; simp only [if_true]; exact hbD x hx
        · simp only [if_neg e]; exact hg.old j (hmem j hj e) x (by simp [hx])
    have h1 := H w' hx _ hg'
    have h2 := fill_erase (val := fun j => ptrV (if j = i then bi else b j)) hd hin pa a hpn hi
    simp only [if_true] at h2
    rw [fill_congr (ops := ops) (f := fun j => ptrV (b j)) (g := fun j => ptrV (if j = i then bi else b j)) (pa.erase i) _ (fun j hj => by simp only [if_neg (hne j hj)]), h2]
    exact h1
  | c :: cs, a, w, hcs, hb, H => by
    obtain ⟨hcn, hci, hcw⟩ := hcs c (by simp)
    intro w' hx
    have hlt : bi < w.heap.size := (Array.getElem?_eq_some_iff.1 hb).1
    have hb' : w'.heap[bi]? = some (obj i) := by rw [hx.block _ hlt, hb]
    have hlt' : bi < w'.heap.size := (Array.getElem?_eq_some_iff.1 hb').1
    have he : execOp (a.put (opAt ops i).dst (ptrV bi)).eval (opAt ops c) = execOp a.eval (opAt ops c) := execOp_put _ (hsel c) a _ _ (looksB_spec hl hcn hin hcw)
    have hcomm : ∀ v, (a.put (opAt ops i).dst (ptrV bi)).put (opAt ops c).dst v = (a.put (opAt ops c).dst v).put (opAt ops i).dst (ptrV bi) := fun v => Act.put_comm a (ptrV bi) v (dstsB_spec hd hin hcn (Ne.symm hci))
    have ih := fun v w'' (hxx : Ext w' w'') (h : wpX P ops W obj E pa D (cs.map (opAt ops)) (a.put (opAt ops c).dst v) w'') => wpX_alloc hd hl hsel hin hpn hi hnd hWb hbD cs (a.put (opAt ops c).dst v) w'' (fun x hx => hcs x (by simp [hx])) (by rw [hxx.block _ hlt', hb']) h
    rw [he]
    simp only [List.map_cons, wpX] at H
    rw [wanted_put (opAt ops c) a (opAt ops i).dst (ptrV bi) (looksB_spec hl hcn hin hcw)]
    rcases H w' hx with ⟨hw, ⟨v, w'', h1, hx1, h2⟩ | ⟨f, args, h1, h2⟩⟩ | ⟨hw, h2⟩
    · exact .inl ⟨hw, .inl ⟨v, w'', h1, hx1, by rw [hcomm]; exact ih v w'' hx1 h2⟩⟩
    · exact .inl ⟨hw, .inr ⟨f, args, h1, h2.mono fun e w'' ⟨v, he, hx1, h3⟩ => ⟨v, he, hx1, by rw [hcomm]; exact ih v w'' hx1 h3⟩⟩⟩
    · exact .inr ⟨hw, by rw [hcomm]; exact ih undef w' (Ext.refl w') h2⟩

theorem wanted_fill {val : Nat → Value} {o : Oper} : ∀ (hs : List Nat) (a : Act), (∀ h ∈ hs, ∀ d, (opAt ops h).dst = some d → d ∉ o.looksAt ops) → Region.wanted o (yielded ops (fill ops val hs a).tmps) = Region.wanted o (yielded ops a.tmps)
  | [], _, _ => rfl
  | h :: hs, a, H => by
    simp only [fill]
    rw [wanted_fill hs _ (fun k hk => H k (by simp [hk])), wanted_put o a _ _ (H h (by simp))]
theorem wpG_fill {n : Nat} (hsel : ∀ i cs b, (opAt ops i).op ≠ .select cs b) (hl : looksB md ops n = true) {W : World} {F : Act → Prop} :
    ∀ (hs : List Nat) (a : Act), hs.Nodup → (∀ h ∈ hs, h < n) → hs.Pairwise (fun h j => Region.waitsFor md ops h j = false) → (∀ h ∈ hs, Region.waitsFor md ops h h = false) → wpG P ops W (hs.map (opAt ops)) a F →
      ∃ val, F (fill ops val hs a) ∧ ∀ h ∈ hs, (Region.wanted (opAt ops h) (yielded ops (fill ops val hs a).tmps) = true ∧ ∀ d, (execOp (fill ops val hs a).eval (opAt ops h)).run P (grow W d) = .ok (.value (val h)) (grow W d)) ∨ (Region.wanted (opAt ops h) (yielded ops (fill ops val hs a).tmps) = false ∧ val h = undef)
  | [], a, _, _, _, _, h => ⟨fun _ => undef, h, fun h hh => by cases hh⟩
  | h :: hs, a, hnd, hn, hp, hself, H => by
    simp only [List.map_cons, wpG] at H
    obtain ⟨v, hv, H⟩ := H
    obtain ⟨hnm, hnd'⟩ := List.nodup_cons.1 hnd
    obtain ⟨hp1, hp'⟩ := List.pairwise_cons.1 hp
    obtain ⟨val', h1, h2⟩ := wpG_fill hsel hl hs _ hnd' (fun k hk => hn k (by simp [hk])) hp' (fun k hk => hself k (by simp [hk])) H
    have hfe : ∀ (l : List Nat) (b : Act), h ∉ l → fill ops (fun k => if k = h then v else val' k) l b = fill ops val' l b := fun l b hb => fill_congr l b (fun j hj => by rw [if_neg]; rintro rfl; exact hb hj)
    refine ⟨fun k => if k = h then v else val' k, ?_, ?_⟩
    · simp only [fill, if_true]
      rw [hfe hs _ hnm]; exact h1
    · intro k hk
      simp only [fill, if_true]
      rw [hfe hs _ hnm]
      by_cases e : k = h
      · subst e
        rw [if_pos rfl]
        have g1 := fun j (hj : j ∈ hs) => looksB_spec hl (hn k (by simp)) (hn j (by simp [hj])) (hp1 j hj)
        have g2 := looksB_spec hl (hn k (by simp)) (hn k (by simp)) (hself k (by simp))
        rw [exec_fill (hsel k) hs _ g1, execOp_put _ (hsel k) a _ _ g2, wanted_fill hs _ g1, wanted_put _ a _ _ g2]
        exact hv
      · rw [if_neg e]
        refine h2 k ?_
        rcases List.mem_cons.1 hk with h3 | h3
        · exact absurd h3 e
        · exact h3
theorem wpAny_of_ph {m n : Nat} {H C A : List Nat} (hB : PH md ops m n H C A) {W : World} {obj : Nat → Obj} (hA0 : ∀ j ∈ A, ∀ (a : Act) (w : World), (execOp a.eval (opAt ops j)).run P w = .ok (.value (ptrV w.heap.size)) (w.alloc (obj j)))
    {val : Nat → Value} {Q : Exit → Act → World → Prop} {E : Act → World → Prop} (hmn : m ≤ n) (hE : ∀ a w, E a w → wpAny P md ops Q (ops.size - n) (firstN ops.size n) a w) :
    ∀ (f : Nat) (pend mid pa D : List Nat) (listed : Array Bool) (a F : Act) (w : World), f = pend.length + mid.length + pa.length → Inv10 md ops m n H C A listed pend mid pa → F = fill ops val pend a → (∀ x ∈ D, x < w.heap.size) →
      (∀ h ∈ pend, (Region.wanted (opAt ops h) (yielded ops F.tmps) = true ∧ ∀ d, (execOp F.eval (opAt ops h)).run P (grow W d) = .ok (.value (val h)) (grow W d)) ∨ (Region.wanted (opAt ops h) (yielded ops F.tmps) = false ∧ val h = undef)) → Ext W w → wpX P ops W obj E pa D (mid.map (opAt ops)) F w → wpAny P md ops Q (f + (ops.size - n)) listed a w := by
  intro f
  have hop : ∀ i, i < n → ops[i]? = some (opAt ops i) := fun i hi => by
    have : i < ops.size := Nat.lt_of_lt_of_le hi hB.nsz
    simp [opAt, Array.getD_eq_getD_getElem?, this]
  induction f with
  | zero =>
    intro pend mid pa D listed a F w hf inv hF _ _ hx hT
    obtain rfl : pend = [] := List.length_eq_zero_iff.1 (by omega)
    obtain rfl : mid = [] := List.length_eq_zero_iff.1 (by omega)
    obtain rfl : pa = [] := List.length_eq_zero_iff.1 (by omega)
    simp only [fill] at hF
    subst hF
    have hl : listed = firstN ops.size n := by
      unfold firstN
      apply Array.ext
      · simp [inv.size]
      · intro i h1 h2
        have hi : i < ops.size := by simpa using h2
        simp only [Array.getElem_map, Array.getElem_range]
        by_cases him : i < m
        · have := inv.old i him
          simp [h1] at this
          simp [this]; omega
        by_cases hin : i < n
        · have := inv.low i (by omega) hin
          simp [h1] at this
          simp [hin, this]
        · have := inv.high i (by omega)
          simp [h1] at this
          simp [hin, this]
    have hfin : E F w := hT w (Ext.refl w) (fun _ => 0) ⟨fun j hj => (by cases hj), fun j hj => (by cases hj), fun j hj => (by cases hj)⟩
    rw [hl, Nat.zero_add]; exact hE _ _ hfin
  | succ f ih =>
    intro pend mid pa D listed a F w hf inv hF hD hV hx hT
    rw [show f + 1 + (ops.size - n) = (f + (ops.size - n)) + 1 by omega]
    obtain ⟨k, hmid⟩ := inv.mc
    have hmC : ∀ x ∈ mid, x ∈ C := fun x hx => by rw [hmid] at hx; exact List.mem_of_mem_drop hx
    have hpd : pend.Nodup := inv.pp.imp (fun h => Nat.ne_of_lt h)
    have unl : ∀ j, m ≤ j → j < n → (j ∈ pend ∨ j ∈ mid ∨ j ∈ pa) → listed.getD j true = false := fun j hm hj h => getD_in (by rw [inv.size]; exact Nat.lt_of_lt_of_le hj hB.nsz) ((inv.low j hm hj).2 h)
    have hpan : ∀ j ∈ pa, j < n := fun j hj => (hB.an j (inv.pas j hj)).2
    have hpam : ∀ j ∈ pa, m ≤ j := fun j hj => (hB.an j (inv.pas j hj)).1
    have hsome : ∃ j, m ≤ j ∧ j < n ∧ listed.getD j true = false := by
      cases pend with
      | cons h ps => exact ⟨h, (hB.hn h (inv.ph h (by simp))).1, (hB.hn h (inv.ph h (by simp))).2, unl h (hB.hn h (inv.ph h (by simp))).1 (hB.hn h (inv.ph h (by simp))).2 (by simp)⟩
      | nil =>
        cases pa with
        | cons t ms => exact ⟨t, hpam t (by simp), hpan t (by simp), unl t (hpam t (by simp)) (hpan t (by simp)) (by simp)⟩
        | nil =>
          cases mid with
          | cons t ms => exact ⟨t, (hB.cn t (hmC t (by simp))).1, (hB.cn t (hmC t (by simp))).2, unl t (hB.cn t (hmC t (by simp))).1 (hB.cn t (hmC t (by simp))).2 (by simp)⟩
          | nil => simp at hf
    refine ⟨fun h0 => ?_, fun i hi => ?_⟩
    · exfalso
      cases pend with
      | cons h ps =>
        have hH := inv.ph h (by simp)
        have hhn := (hB.hn h hH).2
        have hhm := (hB.hn h hH).1
        have : h ∈ Region.ready md ops listed := mem_ready.2 ⟨unl h hhm hhn (by simp), opAt ops h, hop h hhn, fun e he hb => by
          rcases hB.hcl h hH e he hb with h0 | ⟨h1, h2⟩
          · exact inv.old _ h0
          cases hg : listed.getD e.on false with
          | true => rfl
          | false =>
            rcases (inv.low e.on (hB.hn _ h1).1 (by omega)).1 hg with h3 | h3 | h3
            · rcases List.mem_cons.1 h3 with h4 | h4
              · omega
              · have := (List.pairwise_cons.1 inv.pp).1 _ h4; omega
            · exact (hB.part _ h1 (hmC _ h3)).elim
            · exact (hB.parta _ (inv.pas _ h3) (.inl h1)).elim⟩
        rw [h0] at this; cases this
      | nil =>
        cases pa with
        | cons t ms =>
          have htA := inv.pas t (by simp)
          have htn := (hB.an t htA).2
          have htm := (hB.an t htA).1
          have : t ∈ Region.ready md ops listed := mem_ready.2 ⟨unl t htm htn (by simp), opAt ops t, hop t htn, fun e he hb => by
            rcases hB.acl t htA e he hb with h0 | h1
            · exact inv.old _ h0
            cases hg : listed.getD e.on false with
            | true => rfl
            | false =>
              rcases (inv.low e.on (hB.hn _ h1).1 (hB.hn _ h1).2).1 hg with h3 | h3 | h3
              · cases h3
              · exact (hB.part _ h1 (hmC _ h3)).elim
              · exact (hB.parta _ (inv.pas _ h3) (.inl h1)).elim⟩
          rw [h0] at this; cases this
        | nil =>
        cases mid with
        | nil => simp at hf
        | cons t ms =>
          have htn := (hB.cn t (hmC t (by simp))).2
          have htm := (hB.cn t (hmC t (by simp))).1
          have hkl : k < C.length := by
            rcases Nat.lt_or_ge k C.length with h | h
            · exact h
            · rw [List.drop_eq_nil_of_le h] at hmid; cases hmid
          have htk : C.getD k 0 = t := by
            have := congrArg (fun l => l[0]?) hmid
            simp [List.getElem?_drop] at this
            simp [List.getD_eq_getElem?_getD, ← this]
          have : t ∈ Region.ready md ops listed := mem_ready.2 ⟨unl t htm htn (by simp), opAt ops t, hop t htn, fun e he hb => by
            rcases hB.ccl k hkl e (by rw [htk]; exact he) hb with h0 | h1
            · exact inv.old _ h0
            have hen : m ≤ e.on ∧ e.on < n := h1.elim (hB.hn _) (fun h => hB.cn _ (List.mem_of_mem_take h))
            cases hg : listed.getD e.on false with
            | true => rfl
            | false =>
              rcases (inv.low e.on hen.1 hen.2).1 hg with h3 | h3 | h3
              · cases h3
              · rcases h1 with h1 | h1
                · exact (hB.part _ h1 (hmC _ h3)).elim
                · rw [hmid] at h3
                  have := hB.cnd
                  rw [← List.take_append_drop k C, List.nodup_append] at this
                  exact (this.2.2 _ h1 _ h3 rfl).elim
              · cases h3⟩
          rw [h0] at this; cases this
    · have hir := mem_ready.1 hi
      have hin : i < n := by
        rcases Nat.lt_or_ge i n with h | h
        · exact h
        · obtain ⟨j, hmj, hj, hu⟩ := hsome
          have hsz : i < ops.size := (Array.getElem?_eq_some_iff.1 hir.2.choose_spec.1).1
          rcases hB.aw i hsz h j hmj hj with h1 | ⟨h1, h2⟩
          · rw [anc_ready inv.clo hi hu] at h1; cases h1
          · have hl : listed.getD (n - 1) false = true := by
              cases hg : listed.getD (n - 1) true with
              | true =>
                have hnl : n - 1 < listed.size := by rw [inv.size]; have := hB.nsz; omega
                simp [hnl] at hg ⊢; exact hg
              | false => rw [anc_ready inv.clo hi hg] at h1; cases h1
            have h3 := anc_listed inv.clo 6 (n - 1) hl h2
            rw [getD_both hu] at h3; cases h3
      have him : m ≤ i := by
        rcases Nat.lt_or_ge i m with h | h
        · have h1 := inv.old i h
          rw [getD_both hir.1] at h1; cases h1
        · exact h
      have hisz : i < listed.size := by rw [inv.size]; exact Nat.lt_of_lt_of_le hin hB.nsz
      have hlook : ∀ h ∈ pend, ∀ d, (opAt ops h).dst = some d → d ∉ (opAt ops i).looksAt ops := fun h hh => looksB_spec hB.lk hin (hB.hn h (inv.ph h hh)).2 (by
        cases hw : Region.waitsFor md ops i h with
        | false => rfl
        | true =>
          have := waits_listed hi hw
          have h2 := (inv.low h (hB.hn h (inv.ph h hh)).1 (hB.hn h (inv.ph h hh)).2).2 (.inl hh)
          rw [h2] at this; cases this)
      have hex : execOp F.eval (opAt ops i) = execOp a.eval (opAt ops i) := by rw [hF]; exact exec_fill (hB.sel i) pend a hlook
      have hwex : Region.wanted (opAt ops i) (yielded ops F.tmps) = Region.wanted (opAt ops i) (yielded ops a.tmps) := by rw [hF]; exact wanted_fill pend a hlook
      have hcase := (inv.low i him hin).1 (getD_false_true hisz hir.1)
      have hnoA : i ∈ pa → i ∉ pend ∧ i ∉ mid := fun h => ⟨fun h2 => hB.parta _ (inv.pas _ h) (.inl (inv.ph _ h2)), fun h2 => hB.parta _ (inv.pas _ h) (.inr (hmC _ h2))⟩
      unfold wpOp
      rw [hop i hin]
      simp only
      rcases hcase with hp | hm | hpa
      · have hgo : wpAny P md ops Q (f + (ops.size - n)) (listed.setIfInBounds i true) (a.put (opAt ops i).dst (val i)) w := by
          refine ih (pend.erase i) mid pa D _ _ F _ ?_ ⟨by simp [inv.size], fun j hj => getD_set_true (inv.old j hj), fun j hm' hj => ?_, fun j hj => ?_, fun h hh => inv.ph h (List.mem_of_mem_erase hh), inv.pp.sublist List.erase_sublist, ⟨k, hmid⟩, inv.pas, inv.pad, inv.clo.set hi⟩ ?_ hD (fun h hh => hV h (List.mem_of_mem_erase hh)) hx hT
          · rw [List.length_erase_of_mem hp]
            have := List.length_pos_of_mem hp
            omega
          · by_cases hji : j = i
            · subst hji
              rw [getD_set_same hisz]
              simp only [Bool.true_eq_false, false_iff, not_or]
              exact ⟨List.Nodup.not_mem_erase hpd, fun h => hB.part _ (inv.ph _ hp) (hmC _ h), fun h => (hnoA h).1 hp⟩
            · rw [getD_set_ne false (Ne.symm hji), inv.low j hm' hj, List.mem_erase_of_ne hji]
          · rw [getD_set_ne false (by omega)]; exact inv.high j hj
          · rw [hF]; exact (fill_erase hB.ds hin pend a (fun h hh => (hB.hn h (inv.ph h hh)).2) hp).symm
        rcases hV i hp with ⟨hw, hv⟩ | ⟨hw, hv⟩
        · rw [if_pos (by rw [← hwex]; exact hw)]
          refine .inl ?_
          unfold Oper.wp
          obtain ⟨d, hd⟩ := hx
          have hv := hv d
          rw [← hex, hd, hv]
          rw [hd] at hgo
          exact hgo
        · rw [if_neg (by rw [← hwex, hw]; exact Bool.false_ne_true)]
          rw [hv] at hgo
          exact hgo
      · cases mid with
        | nil => cases hm
        | cons t ms =>
          have hkl : k < C.length := by
            rcases Nat.lt_or_ge k C.length with h | h
            · exact h
            · rw [List.drop_eq_nil_of_le h] at hmid; cases hmid
          obtain rfl : i = t := by
            rcases List.mem_cons.1 hm with h | h
            · exact h
            · exfalso
              obtain ⟨m, hml, hmi⟩ := List.mem_iff_getElem.1 h
              have e1 : C[k + 1 + m]? = some i := by
                have := congrArg (fun l => l[m + 1]?) hmid
                simp only [List.getElem?_cons_succ, List.getElem?_drop] at this
                rw [List.getElem?_eq_getElem hml, hmi] at this
                rw [show k + 1 + m = k + (m + 1) by omega]; exact this.symm
              have e2 : ∃ x, C[k + m]? = some x ∧ x ∈ t :: ms := by
                have := congrArg (fun l => l[m]?) hmid
                simp only [List.getElem?_drop] at this
                have hml' : m < (t :: ms).length := by simp; omega
                rw [List.getElem?_eq_getElem hml'] at this
                exact ⟨_, this.symm, List.getElem_mem _⟩
              obtain ⟨x, hx1, hx2⟩ := e2
              have hl := (List.getElem?_eq_some_iff.1 e1).1
              have hch := hB.chain (k + m) (by omega)
              rw [show k + m + 1 = k + 1 + m by omega] at hch
              simp only [List.getD_eq_getElem?_getD, e1, hx1, Option.getD_some] at hch
              have h1 := waits_listed hi hch
              have h2 := (inv.low x (hB.cn x (hmC x hx2)).1 (hB.cn x (hmC x hx2)).2).2 (.inr (.inl hx2))
              rw [h2] at h1; cases h1
          have hms : ms = C.drop (k + 1) := by
            have := congrArg List.tail hmid
            simpa using this
          have hnd : (i :: ms).Nodup := by rw [hmid]; exact hB.cnd.sublist (List.drop_sublist _ _)
          have hcontrol : ∀ (v : Value) (w' : World), Ext w w' → wpX P ops W obj E pa D (ms.map (opAt ops)) (F.put (opAt ops i).dst v) w' → wpAny P md ops Q (f + (ops.size - n)) (listed.setIfInBounds i true) (a.put (opAt ops i).dst v) w' := fun v w' hx' hT' => by
            refine ih pend ms pa D _ _ (F.put (opAt ops i).dst v) w' (by simp at hf; omega) ⟨by simp [inv.size], fun j hj => getD_set_true (inv.old j hj), fun j hm' hj => ?_, fun j hj => ?_, inv.ph, inv.pp, ⟨k + 1, hms⟩, inv.pas, inv.pad, inv.clo.set hi⟩ ?_ (fun x hxD => Nat.lt_of_lt_of_le (hD x hxD) hx'.size) (fun h hh => ?_) (hx.trans hx') hT'
            · by_cases hji : j = i
              · subst hji
                rw [getD_set_same hisz]
                simp only [Bool.true_eq_false, false_iff, not_or]
                exact ⟨fun h => hB.part _ (inv.ph _ h) (hmC _ (by simp)), (List.nodup_cons.1 hnd).1, fun h => (hnoA h).2 (by simp)⟩
              · rw [getD_set_ne false (Ne.symm hji), inv.low j hm' hj, List.mem_cons]
                simp [hji]
            · rw [getD_set_ne false (by omega)]; exact inv.high j hj
            · rw [hF]
              exact (fill_put hB.ds hin v pend a (fun h hh => ⟨(hB.hn h (inv.ph h hh)).2, fun e => hB.part _ (inv.ph h hh) (by rw [e]; exact hmC _ (by simp))⟩)).symm
            · have hlk := (looksB_spec hB.lk (hB.hn h (inv.ph h hh)).2 hin (by
                cases hw : Region.waitsFor md ops h i with
                | false => rfl
                | true =>
                  obtain ⟨e, he, hb, hon⟩ := waitsFor_of (md := md) (e := default) (Nat.lt_of_lt_of_le (hB.hn h (inv.ph h hh)).2 hB.nsz) hw
                  rcases hB.hcl h (inv.ph h hh) e he hb with h0 | ⟨this, _⟩
                  · omega
                  · rw [hon] at this
                    exact (hB.part _ this (hmC _ (by simp))).elim))
              rw [execOp_put (opAt ops h) (hB.sel h) F _ _ hlk, wanted_put (opAt ops h) F _ _ hlk]
              exact hV h hh
          simp only [List.map_cons, wpX] at hT
          rw [hex, hwex] at hT
          rcases hT w (Ext.refl w) with ⟨hw, ⟨v, w', h1, hx', h2⟩ | ⟨fn, args, h1, hc⟩⟩ | ⟨hw, h2⟩
          · rw [if_pos hw]; refine .inl ?_; unfold Oper.wp; rw [h1]; exact hcontrol v w' hx' h2
          · rw [if_pos hw]; refine .inl ?_; unfold Oper.wp; rw [h1]
            exact hc.mono fun e w' ⟨v, he, hx', h2⟩ => by subst he; exact hcontrol v w' hx' h2
          · rw [if_neg (by rw [hw]; exact Bool.false_ne_true)]
            exact hcontrol undef w (Ext.refl w) h2
      · -- a new cell
        have hiA := inv.pas i hpa
        have hxa : Ext w (w.alloc (obj i)) := (Ext.refl w).alloc _
        rw [if_pos (by simp [Region.wanted, hB.ga i hiA])]
        refine .inl ?_
        unfold Oper.wp
        rw [hA0 i hiA a w]
        have hT' := wpX_alloc (P := P) (W := W) (obj := obj) (E := E) (D := D) hB.ds hB.lk hB.sel hin hpan hpa inv.pad hx.size (fun x hxD => Nat.ne_of_gt (hD x hxD)) mid F (w.alloc (obj i)) (fun c hc => ⟨(hB.cn c (hmC c hc)).2, fun e => (hnoA hpa).2 (e ▸ hc), by
          cases hw : Region.waitsFor md ops c i with
          | false => rfl
          | true =>
            exfalso
            have hcC := hmC c hc
            obtain ⟨m', hml, hmi⟩ := List.mem_iff_getElem.1 hcC
            obtain ⟨e, he, hb, hon⟩ := waitsFor_of (md := md) (e := default) (Nat.lt_of_lt_of_le (hB.cn c hcC).2 hB.nsz) hw
            have h1 := hB.ccl m' hml e (by rw [show C.getD m' 0 = c by simp [List.getD_eq_getElem?_getD, List.getElem?_eq_getElem hml, hmi]]; exact he) hb
            rw [hon] at h1
            rcases h1 with h0 | h1
            · omega
            · exact hB.parta _ hiA (h1.imp id (fun h => List.mem_of_mem_take h))⟩) (by unfold World.alloc; simp) (hT.mono hxa)
        refine ih pend mid (pa.erase i) (w.heap.size :: D) _ _ (F.put (opAt ops i).dst (ptrV w.heap.size)) (w.alloc (obj i)) ?_ ⟨by simp [inv.size], fun j hj => getD_set_true (inv.old j hj), fun j hm' hj => ?_, fun j hj => ?_, inv.ph, inv.pp, ⟨k, hmid⟩, fun j hj => inv.pas j (List.mem_of_mem_erase hj), inv.pad.erase i, inv.clo.set hi⟩ ?_ (fun x hxD => ?_) (fun h hh => ?_) (hx.trans hxa) hT'
        · rw [List.length_erase_of_mem hpa]
          have := List.length_pos_of_mem hpa
          omega
        · by_cases hji : j = i
          · subst hji
            rw [getD_set_same hisz]
            simp only [Bool.true_eq_false, false_iff, not_or]
            exact ⟨(hnoA hpa).1, (hnoA hpa).2, List.Nodup.not_mem_erase inv.pad⟩
          · rw [getD_set_ne false (Ne.symm hji), inv.low j hm' hj, List.mem_erase_of_ne hji]
        · rw [getD_set_ne false (by omega)]; exact inv.high j hj
        · rw [hF]
          exact (fill_put hB.ds hin _ pend a (fun h hh => ⟨(hB.hn h (inv.ph h hh)).2, fun e => (hnoA hpa).1 (e ▸ hh)⟩)).symm
        · rcases List.mem_cons.1 hxD with h | h
          · subst h; simp
          · have := hD x h; simp; omega
        · have hlk := (looksB_spec hB.lk (hB.hn h (inv.ph h hh)).2 hin (by
                cases hw : Region.waitsFor md ops h i with
                | false => rfl
                | true =>
                  obtain ⟨e, he, hb, hon⟩ := waitsFor_of (md := md) (e := default) (Nat.lt_of_lt_of_le (hB.hn h (inv.ph h hh)).2 hB.nsz) hw
                  rcases hB.hcl h (inv.ph h hh) e he hb with h0 | ⟨this, _⟩
                  · omega
                  · rw [hon] at this
                    exact (hB.parta _ hiA (.inl this)).elim))
          rw [execOp_put (opAt ops h) (hB.sel h) F _ _ hlk, wanted_put (opAt ops h) F _ _ hlk]
          exact hV h hh
/-- One phase, from what is behind it. -/
theorem wpAny_ph {Q : Exit → Act → World → Prop} {a : Act} {w : World} {l : List Oper} (m n : Nat) (H C A : List Nat) (obj : Nat → Obj) (hmn : m ≤ n) (hB : phB .any l.toArray m n H C A = true) (hcl : Clo .any l.toArray (firstN l.length m))
    (hA0 : ∀ j ∈ A, ∀ (a : Act) (w : World), (execOp a.eval (l.getD j default)).run P w = .ok (.value (ptrV w.heap.size)) (w.alloc (obj j)))
    (h : wpG P l.toArray w (H.map fun i => l.getD i default) a (fun F => ∀ d, wpX P l.toArray w obj (fun a' w' => wpAny P .any l.toArray Q (l.length - n) (firstN l.length n) a' w') A [] (C.map fun i => l.getD i default) F (grow w d))) :
    ∀ d, wpAny P .any l.toArray Q (l.length - m) (firstN l.length m) a (grow w d) := by
  intro d
  have hc := phB_spec hB
  have hgd : ∀ i, opAt l.toArray i = l.getD i default := fun i => by simp [opAt, Array.getD_eq_getD_getElem?, List.getD_eq_getElem?_getD]
  have hm1 : ∀ L : List Nat, (L.map fun i => l.getD i default) = L.map (opAt l.toArray) := fun L => List.map_congr_left fun i _ => (hgd i).symm
  rw [hm1] at h
  simp only [hm1 C] at h
  have hself : ∀ h ∈ H, ∀ j ∈ H, h ≤ j → Region.waitsFor .any l.toArray h j = false := fun x hx j hjH hj => by
    cases hw : Region.waitsFor .any l.toArray x j with
    | false => rfl
    | true =>
      obtain ⟨e, he, hb, hon⟩ := waitsFor_of (md := .any) (e := default) (Nat.lt_of_lt_of_le (hc.hn x hx).2 hc.nsz) hw
      have h1 := (hc.hn j hjH).1
      rcases hc.hcl x hx e he hb with h0 | h0
      · omega
      · omega
  obtain ⟨val, h1, h2⟩ := wpG_fill hc.sel hc.lk H a (hc.hp.imp fun h => Nat.ne_of_lt h) (fun h hh => (hc.hn h hh).2) (hc.hp.imp_of_mem fun ha hb hl => hself _ ha _ hb (by omega)) (fun x hx => hself x hx x hx (Nat.le_refl _)) h
  have hlen : H.length + C.length + A.length = n - m := by
    have hnd : ((H ++ C) ++ A).Nodup := List.nodup_append.2 ⟨List.nodup_append.2 ⟨hc.hp.imp fun h => Nat.ne_of_lt h, hc.cnd, fun x hx y hy hxy => hc.part x hx (hxy ▸ hy)⟩, hc.ad, fun x hx y hy hxy => hc.parta y hy (by rw [← hxy]; exact List.mem_append.1 hx)⟩
    have hp : ((H ++ C) ++ A).Perm (List.range' m (n - m)) := (List.perm_ext_iff_of_nodup hnd (List.nodup_range' ..)).2 fun x => by
      rw [List.mem_append, List.mem_append, List.mem_range'_1]
      refine ⟨fun h => ?_, fun h => ?_⟩
      · rcases h with (h | h) | h
        · have := hc.hn x h; omega
        · have := hc.cn x h; omega
        · have := hc.an x h; omega
      · rcases hc.all x (by omega) (by omega) with h | h | h
        · exact .inl (.inl h)
        · exact .inl (.inr h)
        · exact .inr h
    have := hp.length_eq
    simpa [Nat.add_assoc] using this
  have hnl : n ≤ l.length := by simpa using hc.nsz
  have hfs : (firstN l.length m).size = l.toArray.size := by simp [firstN]
  have hfd : ∀ i, (firstN l.length m).getD i false = decide (i < m ∧ i < l.length) := fun i => by
    simp only [firstN, Array.getD_eq_getD_getElem?, Array.getElem?_map, Array.getElem?_range]
    by_cases hi : i < l.length
    · simp [hi]
    · simp [hi]
  have := wpAny_of_ph (Q := Q) hc (obj := obj) (fun j hj a w => by rw [hgd]; exact hA0 j hj a w) hmn (fun a w h => by simpa using h) (H.length + C.length + A.length) H C A [] (firstN l.length m) a _ (grow w d) rfl
    ⟨hfs, fun i hi => by rw [hfd]; simp; omega, fun i hmi hi => by rw [hfd]; simp; exact ⟨fun _ => hc.all i hmi hi, fun _ => by omega⟩, fun i hi => by rw [hfd]; simp; omega, fun _ h => h, hc.hp, ⟨0, rfl⟩, fun _ h => h, hc.ad, hcl⟩ rfl (fun x hx => by cases hx) h2 ⟨d, rfl⟩ (h1 d)
  rw [hlen, show n - m + (l.toArray.size - n) = l.length - m by simp; omega] at this
  exact this
def cloB (md : Region.Mode) (ops : Array Oper) (m : Nat) : Bool :=
  (List.range m).all fun j => (opAt ops j).after.all fun e => !Region.binds md e || decide (e.on < m)
theorem clo_first {l : List Oper} {m : Nat} (hm : m ≤ l.length) (h : cloB .any l.toArray m = true) : Clo .any l.toArray (firstN l.length m) := by
  intro j oj hj hl e he hb
  have hfd : ∀ i, (firstN l.length m).getD i false = decide (i < m ∧ i < l.length) := fun i => by
    simp only [firstN, Array.getD_eq_getD_getElem?, Array.getElem?_map, Array.getElem?_range]
    by_cases hi : i < l.length
    · simp [hi]
    · simp [hi]
  rw [hfd] at hl ⊢
  have hjm : j < m := by simp at hl; omega
  simp only [cloB, List.all_eq_true, List.mem_range, Array.all_eq_true', Bool.or_eq_true, Bool.not_eq_true', decide_eq_true_eq] at h
  have h1 := h j hjm e (by rw [opAt_eq hj]; exact he)
  rcases h1 with h1 | h1
  · rw [hb] at h1; cases h1
  · simp; omega
/-- The first phase. -/
theorem wp_region_p {id : Nat} {Q : Exit → Act → World → Prop} {a : Act} {w : World} {l : List Oper} (hm : P.follows .mixedOrders = true)
    (h : ∀ d, wpAny P .any l.toArray Q (l.length - 0) (firstN l.length 0) a (grow w d)) : (Code.region id l.toArray true).wp P Q a w := by
  refine wp_region_any hm ?_
  have e : firstN l.length 0 = Array.replicate l.toArray.size false := by
    apply Array.ext <;> simp [firstN]
  have := h ⟨#[], fun k => k + 1⟩
  rw [e] at this
  simpa [grow] using this
theorem wp_region_p' {id : Nat} {Q : Exit → Act → World → Prop} {a : Act} {w : World} {e : Gr} {l : List Oper} (hm : P.follows .mixedOrders = true)
    (h : ∀ d, wpAny P .any l.toArray Q (l.length - 0) (firstN l.length 0) a (grow w d)) : (Code.region id l.toArray true).wp P Q a (grow w e) := by
  refine wp_region_any hm ?_
  have e' : firstN l.length 0 = Array.replicate l.toArray.size false := by
    apply Array.ext <;> simp [firstN]
  have := h ⟨e.obs, fun k => e.n k + 1⟩
  rw [e'] at this
  simpa [grow] using this
theorem wpAny_at {Q : Exit → Act → World → Prop} {a : Act} {w : World} {l : List Oper} {m : Nat} (h : ∀ d, wpAny P .any l.toArray Q (l.length - m) (firstN l.length m) a (grow w d)) : wpAny P .any l.toArray Q (l.length - m) (firstN l.length m) a w := by
  have := h ⟨#[], fun k => k⟩
  simpa [grow] using this
/-- The end: nothing, or a list in its order. -/
theorem wpAny_done {Q : Exit → Act → World → Prop} {a : Act} {w : World} {l : List Oper} {m : Nat} (hs : Region.seqB .any l.toArray (l.length - m) m (firstN l.length m) = true) (h : wpList P l.toArray Q (l.drop m) a w) : wpAny P .any l.toArray Q (l.length - m) (firstN l.length m) a w := by
  have := wpAny_of_seq (md := .any) (ops := l.toArray) (Q' := Q) (l.drop m) m (firstN l.length m) a w (fun j => by simp [List.getElem?_drop]) (by simpa using hs) h
  simpa using this
theorem wpG_nil {W : World} {a : Act} {F : Act → Prop} (h : F a) : wpG P ops W [] a F := h
theorem wpG_l {W : World} {o : Oper} {l : List Oper} {a : Act} {F : Act → Prop} (hw : Region.wanted o (yielded ops a.tmps) = true)
    (h : ∀ K : Act → Prop, (∀ a, wpG P ops W l a F → K a) → ∃ v, (∀ d, (execOp a.eval o).run P (grow W d) = .ok (.value v) (grow W d)) ∧ K (a.put o.dst v)) : wpG P ops W (o :: l) a F := by
  obtain ⟨v, h1, h2⟩ := h _ (fun _ h => h)
  exact ⟨v, .inl ⟨hw, h1⟩, h2⟩
theorem wpG_s {W : World} {o : Oper} {l : List Oper} {a : Act} {F : Act → Prop} (hw : Region.wanted o (yielded ops a.tmps) = false)
    (h : wpG P ops W l (a.put o.dst undef) F) : wpG P ops W (o :: l) a F := ⟨undef, .inr ⟨hw, rfl⟩, h⟩
section
variable {W : World} {obj : Nat → Obj} {E : Act → World → Prop} {pa D : List Nat} {o : Oper} {l : List Oper} {a : Act} {w : World}
theorem wpX_nil (h : ∀ w', Ext w w' → ∀ b, GoodP W w' obj pa D b → E (fill ops (fun j => ptrV (b j)) pa a) w') : wpX P ops W obj E pa D [] a w := h
theorem wpX_v (hw : Region.wanted o (yielded ops a.tmps) = true) (h : ∀ w', Ext w w' → ∀ K : Act → World → Prop, (∀ a w, wpX P ops W obj E pa D l a w → K a w) → ∃ v w'', (execOp a.eval o).run P w' = .ok (.value v) w'' ∧ Ext w' w'' ∧ K (a.put o.dst v) w'') : wpX P ops W obj E pa D (o :: l) a w :=
  fun w' hx => .inl ⟨hw, .inl (h w' hx _ fun _ _ h => h)⟩
theorem wpX_c (hw : Region.wanted o (yielded ops a.tmps) = true) (h : ∀ w', Ext w w' → ∀ K : Act → World → Prop, (∀ a w, wpX P ops W obj E pa D l a w → K a w) → ∃ f args, (execOp a.eval o).run P w' = .ok (.enter f args) w' ∧ Calls P f args w' fun e w'' => ∃ v, e = .returned v ∧ Ext w' w'' ∧ K (a.put o.dst v) w'') : wpX P ops W obj E pa D (o :: l) a w :=
  fun w' hx => .inl ⟨hw, .inr (h w' hx _ fun _ _ h => h)⟩
theorem wpX_s (hw : Region.wanted o (yielded ops a.tmps) = false) (h : ∀ w', Ext w w' → wpX P ops W obj E pa D l (a.put o.dst undef) w') : wpX P ops W obj E pa D (o :: l) a w :=
  fun w' hx => .inr ⟨hw, h w' hx⟩
end
end
end Go.Proofs.YtjkchmegnfbfoaaGreatDoor
