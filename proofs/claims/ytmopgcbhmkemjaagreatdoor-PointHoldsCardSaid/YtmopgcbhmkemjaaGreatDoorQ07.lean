/- Regions that draw their order, phase by phase: in each phase loads, a chain of calls, new cells; guarded operations whose guards are behind. point.Mid. The references' numbers: sums, differences. The references' numbers: differences; that of a word. The references' numbers: that of a word below nought. The references' numbers: the Int of a number. The references' numbers: may an Int be; the number of an Int. The references' numbers: quotients of few digits. -/
import Derived.Test.YtmopgcbhmkemjaaGreatDoorQ06
import Derived.Test.YtmopgcbhmkemjaaGreatDoorProg
import Derived.Deep.RegionHeld3
import Derived.Test.YtmopgcbhmkemjaaGreatDoorQ04
namespace Go.Proofs.YtmopgcbhmkemjaaGreatDoor
open Go Go.RowKit
set_option linter.unusedSimpArgs false
set_option linter.unusedVariables false
set_option linter.constructorNameAsVariable false
section
variable {P : Program} {ops : Array Oper} {md : Region.Mode}

def firstN (N n : Nat) : Array Bool := (Array.range N).map fun i => decide (i < n)
def phB (md : Region.Mode) (ops : Array Oper) (m n : Nat) (H C A : List Nat) : Bool :=
  Region.noSelect ops && decide (n ≤ ops.size) && dstsB ops n && looksB md ops n &&
  (List.range ops.size).all (fun t => decide (t < n) || (List.range n).all fun i => decide (i < m) || anc md ops 4 t i || (anc md ops 4 t (n - 1) && anc md ops 6 (n - 1) i)) &&
  (List.range n).all (fun i => decide (i < m) || (H.contains i && !C.contains i && !A.contains i) || (!H.contains i && C.contains i && !A.contains i) || (!H.contains i && !C.contains i && A.contains i && (opAt ops i).guard.isNone)) &&
  H.all (fun i => decide (m ≤ i) && decide (i < n)) && C.all (fun i => decide (m ≤ i) && decide (i < n)) && A.all (fun i => decide (m ≤ i) && decide (i < n)) &&
  A.all (fun j => (opAt ops j).after.all fun e => !Region.binds md e || decide (e.on < m) || H.contains e.on) &&
  H.all (fun h => (opAt ops h).after.all fun e => !Region.binds md e || decide (e.on < m) || (H.contains e.on && decide (e.on < h))) &&
  (List.range C.length).all (fun k => (opAt ops (C.getD k 0)).after.all fun e => !Region.binds md e || decide (e.on < m) || H.contains e.on || (C.take k).contains e.on) &&
  (List.range (C.length - 1)).all (fun k => Region.waitsFor md ops (C.getD (k + 1) 0) (C.getD k 0)) &&
  decide (H.Pairwise (· < ·)) && decide C.Nodup && decide A.Nodup

structure Inv10 (md : Region.Mode) (ops : Array Oper) (m n : Nat) (H C A : List Nat) (listed : Array Bool) (pend mid pa : List Nat) : Prop where
  size : listed.size = ops.size
  old : ∀ i, i < m → listed.getD i false = true
  low : ∀ i, m ≤ i → i < n → (listed.getD i false = false ↔ i ∈ pend ∨ i ∈ mid ∨ i ∈ pa)
  high : ∀ i, n ≤ i → listed.getD i false = false
  ph : ∀ h ∈ pend, h ∈ H
  pp : pend.Pairwise (· < ·)
  mc : ∃ k, mid = C.drop k
  pas : ∀ j ∈ pa, j ∈ A
  pad : pa.Nodup
  clo : Clo md ops listed
structure PH (md : Region.Mode) (ops : Array Oper) (m n : Nat) (H C A : List Nat) : Prop where
  sel : ∀ i cs b, (opAt ops i).op ≠ .select cs b
  nsz : n ≤ ops.size
  ds : dstsB ops n = true
  lk : looksB md ops n = true
  aw : ∀ t, t < ops.size → n ≤ t → ∀ i, m ≤ i → i < n → anc md ops 4 t i = true ∨ (anc md ops 4 t (n - 1) = true ∧ anc md ops 6 (n - 1) i = true)
  ga : ∀ i ∈ A, (opAt ops i).guard = none
  part : ∀ i, i ∈ H → i ∈ C → False
  parta : ∀ i, i ∈ A → i ∈ H ∨ i ∈ C → False
  hn : ∀ h ∈ H, m ≤ h ∧ h < n
  cn : ∀ c ∈ C, m ≤ c ∧ c < n
  an : ∀ c ∈ A, m ≤ c ∧ c < n
  all : ∀ i, m ≤ i → i < n → i ∈ H ∨ i ∈ C ∨ i ∈ A
  acl : ∀ j ∈ A, ∀ e ∈ (opAt ops j).after, Region.binds md e = true → e.on < m ∨ e.on ∈ H
  hcl : ∀ h ∈ H, ∀ e ∈ (opAt ops h).after, Region.binds md e = true → e.on < m ∨ (e.on ∈ H ∧ e.on < h)
  ccl : ∀ k, k < C.length → ∀ e ∈ (opAt ops (C.getD k 0)).after, Region.binds md e = true → e.on < m ∨ e.on ∈ H ∨ e.on ∈ C.take k
  chain : ∀ k, k + 1 < C.length → Region.waitsFor md ops (C.getD (k + 1) 0) (C.getD k 0) = true
  hp : H.Pairwise (· < ·)
  cnd : C.Nodup
  ad : A.Nodup
theorem phB_spec {m n : Nat} {H C A : List Nat} (h : phB md ops m n H C A = true) : PH md ops m n H C A := by
  simp only [phB, Bool.and_eq_true, decide_eq_true_eq, List.all_eq_true, List.mem_range, Array.all_eq_true', Bool.or_eq_true, Bool.not_eq_true', Option.isNone_iff_eq_none, List.contains_iff_mem, Bool.eq_false_iff, ne_eq] at h
  obtain ⟨⟨⟨⟨⟨⟨⟨⟨⟨⟨⟨⟨⟨⟨⟨h1, h2⟩, h3⟩, h4⟩, h5⟩, h6⟩, h7⟩, h8⟩, h8a⟩, h8b⟩, h9⟩, h10⟩, h11⟩, h12⟩, h13⟩, h13a⟩ := h
  have h6' : ∀ i, m ≤ i → i < n → (i ∈ H ∧ i ∉ C ∧ i ∉ A) ∨ (i ∉ H ∧ i ∈ C ∧ i ∉ A) ∨ (i ∉ H ∧ i ∉ C ∧ i ∈ A ∧ (opAt ops i).guard = none) := fun i hm hi => by
    rcases h6 i hi with ((h | h) | h) | h
    · omega
    · exact .inl ⟨h.1.1, h.1.2, h.2⟩
    · exact .inr (.inl ⟨h.1.1, h.1.2, h.2⟩)
    · exact .inr (.inr ⟨h.1.1.1, h.1.1.2, h.1.2, h.2⟩)
  refine ⟨fun i cs b => ?_, h2, h3, h4, fun t ht hn i hm hi => ?_, fun i hi => ?_, fun i hi hc => ?_, fun i hi hc => ?_, h7, h8, h8a, fun i hm hi => ?_, fun x hx e he hb => ?_, fun x hx e he hb => ?_, fun k hk e he hb => ?_, fun k hk => h11 k (by omega), h12, h13, h13a⟩
  · cases ho : ops[i]? with
    | none => simp [opAt, Array.getD_eq_getD_getElem?, ho, default, instInhabitedOper.default, instInhabitedOp.default]
    | some o => rw [opAt_eq ho]; exact Region.noSelect_spec h1 i o cs b ho
  · rcases (h5 t ht).resolve_left (by omega) i hi with (h | h) | h
    · omega
    · exact .inl h
    · exact .inr h
  · have := h8a i hi
    rcases h6' i this.1 this.2 with h | h | h
    · exact absurd hi h.2.2
    · exact absurd hi h.2.2
    · exact h.2.2.2
  · have := h7 i hi
    rcases h6' i this.1 this.2 with h | h | h
    · exact h.2.1 hc
    · exact h.1 hi
    · exact h.1 hi
  · have := h8a i hi
    rcases h6' i this.1 this.2 with h | h | h
    · exact h.2.2 hi
    · exact h.2.2 hi
    · exact hc.elim h.1 h.2.1
  · rcases h6' i hm hi with h | h | h
    · exact .inl h.1
    · exact .inr (.inl h.2.1)
    · exact .inr (.inr h.2.2.1)
  · rcases h8b x hx e he with (h | h) | h
    · exact absurd hb h
    · exact .inl h
    · exact .inr h
  · rcases h9 x hx e he with (h | h) | h
    · exact absurd hb h
    · exact .inl h
    · exact .inr h
  · rcases h10 k hk e he with ((h | h) | h) | h
    · exact absurd hb h
    · exact .inl h
    · exact .inr (.inl h)
    · exact .inr (.inr h)

/-- The loads, each wanted or not. -/
def wpG (P : Program) (ops : Array Oper) (W : World) : List Oper → Act → (Act → Prop) → Prop
  | [], a, F => F a
  | o :: l, a, F => ∃ v, ((Region.wanted o (yielded ops a.tmps) = true ∧ ∀ d, (execOp a.eval o).run P (grow W d) = .ok (.value v) (grow W d)) ∨ (Region.wanted o (yielded ops a.tmps) = false ∧ v = undef)) ∧ wpG P ops W l (a.put o.dst v) F
def wpX (P : Program) (ops : Array Oper) (W : World) (obj : Nat → Obj) (E : Act → World → Prop) (pa D : List Nat) : List Oper → Act → World → Prop
  | [], a, w => ∀ w', Ext w w' → ∀ b, GoodP W w' obj pa D b → E (fill ops (fun j => ptrV (b j)) pa a) w'
  | o :: l, a, w => ∀ w', Ext w w' → (Region.wanted o (yielded ops a.tmps) = true ∧ ((∃ v w'', (execOp a.eval o).run P w' = .ok (.value v) w'' ∧ Ext w' w'' ∧ wpX P ops W obj E pa D l (a.put o.dst v) w'') ∨
    (∃ f args, (execOp a.eval o).run P w' = .ok (.enter f args) w' ∧ Calls P f args w' fun e w'' => ∃ v, e = .returned v ∧ Ext w' w'' ∧ wpX P ops W obj E pa D l (a.put o.dst v) w''))) ∨
    (Region.wanted o (yielded ops a.tmps) = false ∧ wpX P ops W obj E pa D l (a.put o.dst undef) w')
theorem wpX.mono {W : World} {obj : Nat → Obj} {E : Act → World → Prop} {pa D : List Nat} : ∀ {l : List Oper} {a : Act} {w w' : World}, wpX P ops W obj E pa D l a w → Ext w w' → wpX P ops W obj E pa D l a w'
  | [], _, _, _, h, hx => fun w'' hx' => h w'' (hx.trans hx')
  | _ :: _, _, _, _, h, hx => fun w'' hx' => h w'' (hx.trans hx')
theorem wpX_alloc {n : Nat} (hd : dstsB ops n = true) (hl : looksB md ops n = true) (hsel : ∀ i cs b, (opAt ops i).op ≠ .select cs b) {W : World} {obj : Nat → Obj} {E : Act → World → Prop} {pa D : List Nat} {i bi : Nat} (hin : i < n) (hpn : ∀ j ∈ pa, j < n) (hi : i ∈ pa) (hnd : pa.Nodup) (hWb : W.heap.size ≤ bi) (hbD : ∀ x ∈ D, bi ≠ x) :
    ∀ (cs : List Nat) (a : Act) (w : World), (∀ c ∈ cs, c < n ∧ c ≠ i ∧ Region.waitsFor md ops c i = false) → w.heap[bi]? = some (obj i) → wpX P ops W obj E pa D (cs.map (opAt ops)) a w →
      wpX P ops W obj E (pa.erase i) (bi :: D) (cs.map (opAt ops)) (a.put (opAt ops i).dst (ptrV bi)) w
  | [], a, w, _, hb, H => by
    intro w' hx b hg
    have hlt : bi < w.heap.size := (Array.getElem?_eq_some_iff.1 hb).1
    have hne : ∀ j ∈ pa.erase i, j ≠ i := fun j hj e => by subst e; exact List.Nodup.not_mem_erase hnd hj
    have hmem : ∀ j ∈ pa, j ≠ i → j ∈ pa.erase i := fun j hj hji => (List.mem_erase_of_ne hji).2 hj
    have hg' : GoodP W w' obj pa D (fun j => if j = i then bi else b j) := by
      refine ⟨fun j hj => ?_, fun j hj k hk hjk => ?_, fun j hj x hx => ?_⟩
      · by_cases e : j = i
        · subst e; simp only [if_true]; exact ⟨hWb, by rw [hx.block _ hlt, hb]⟩
        · simp only [if_neg e]; exact hg.at' j (hmem j hj e)
      · by_cases e : j = i
        · subst e
          simp only [if_true, if_neg (Ne.symm hjk)]
          exact (hg.old k (hmem k hk (Ne.symm hjk)) bi (by simp)).symm
        · by_cases e2 : k = i
          · subst e2
            simp only [if_true, if_neg e]
            exact hg.old j (hmem j hj e) bi (by simp)
          · simp only [if_neg e, if_neg e2]; exact hg.two j (hmem j hj e) k (hmem k hk e2) hjk
      · by_cases e : j = i
        · subst e; simp only [if_true]; exact hbD x hx
        · simp only [if_neg e]; exact hg.old j (hmem j hj e) x (by simp [hx])
    have h1 := H w' hx _ hg'
    have h2 := fill_erase (val := fun j => ptrV (if j = i then bi else b j)) hd hin pa a hpn hi
    simp only [if_true] at h2
    rw [fill_congr (ops := ops) (f := fun j => ptrV (b j)) (g := fun j => ptrV (if j = i then bi else b j)) (pa.erase i) _ (fun j hj => by simp only [if_neg (hne j hj)]), h2]
    exact h1
  | c :: cs, a, w, hcs, hb, H => by
    obtain ⟨hcn, hci, hcw⟩ := hcs c (by simp)
    intro w' hx
    have hlt : bi < w.heap.size := (Array.getElem?_eq_some_iff.1 hb).1
    have hb' : w'.heap[bi]? = some (obj i) := by rw [hx.block _ hlt, hb]
    have hlt' : bi < w'.heap.size := (Array.getElem?_eq_some_iff.1 hb').1
    have he : execOp (a.put (opAt ops i).dst (ptrV bi)).eval (opAt ops c) = execOp a.eval (opAt ops c) := execOp_put _ (hsel c) a _ _ (looksB_spec hl hcn hin hcw)
    have hcomm : ∀ v, (a.put (opAt ops i).dst (ptrV bi)).put (opAt ops c).dst v = (a.put (opAt ops c).dst v).put (opAt ops i).dst (ptrV bi) := fun v => Act.put_comm a (ptrV bi) v (dstsB_spec hd hin hcn (Ne.symm hci))
    have ih := fun v w'' (hxx : Ext w' w'') (h : wpX P ops W obj E pa D (cs.map (opAt ops)) (a.put (opAt ops c).dst v) w'') => wpX_alloc hd hl hsel hin hpn hi hnd hWb hbD cs (a.put (opAt ops c).dst v) w'' (fun x hx => hcs x (by simp [hx])) (by rw [hxx.block _ hlt', hb']) h
    rw [he]
    simp only [List.map_cons, wpX] at H
    rw [wanted_put (opAt ops c) a (opAt ops i).dst (ptrV bi) (looksB_spec hl hcn hin hcw)]
    rcases H w' hx with ⟨hw, ⟨v, w'', h1, hx1, h2⟩ | ⟨f, args, h1, h2⟩⟩ | ⟨hw, h2⟩
    · exact .inl ⟨hw, .inl ⟨v, w'', h1, hx1, by rw [hcomm]; exact ih v w'' hx1 h2⟩⟩
    · exact .inl ⟨hw, .inr ⟨f, args, h1, h2.mono fun e w'' ⟨v, he, hx1, h3⟩ => ⟨v, he, hx1, by rw [hcomm]; exact ih v w'' hx1 h3⟩⟩⟩
    · exact .inr ⟨hw, by rw [hcomm]; exact ih undef w' (Ext.refl w') h2⟩

theorem wanted_fill {val : Nat → Value} {o : Oper} : ∀ (hs : List Nat) (a : Act), (∀ h ∈ hs, ∀ d, (opAt ops h).dst = some d → d ∉ o.looksAt ops) → Region.wanted o (yielded ops (fill ops val hs a).tmps) = Region.wanted o (yielded ops a.tmps)
  | [], _, _ => rfl
  | h :: hs, a, H => by
    simp only [fill]
    rw [wanted_fill hs _ (fun k hk => H k (by simp [hk])), wanted_put o a _ _ (H h (by simp))]
theorem wpG_fill {n : Nat} (hsel : ∀ i cs b, (opAt ops i).op ≠ .select cs b) (hl : looksB md ops n = true) {W : World} {F : Act → Prop} :
    ∀ (hs : List Nat) (a : Act), hs.Nodup → (∀ h ∈ hs, h < n) → hs.Pairwise (fun h j => Region.waitsFor md ops h j = false) → (∀ h ∈ hs, Region.waitsFor md ops h h = false) → wpG P ops W (hs.map (opAt ops)) a F →
      ∃ val, F (fill ops val hs a) ∧ ∀ h ∈ hs, (Region.wanted (opAt ops h) (yielded ops (fill ops val hs a).tmps) = true ∧ ∀ d, (execOp (fill ops val hs a).eval (opAt ops h)).run P (grow W d) = .ok (.value (val h)) (grow W d)) ∨ (Region.wanted (opAt ops h) (yielded ops (fill ops val hs a).tmps) = false ∧ val h = undef)
  | [], a, _, _, _, _, h => ⟨fun _ => undef, h, fun h hh => by cases hh⟩
  | h :: hs, a, hnd, hn, hp, hself, H => by
    simp only [List.map_cons, wpG] at H
    obtain ⟨v, hv, H⟩ := H
    obtain ⟨hnm, hnd'⟩ := List.nodup_cons.1 hnd
    obtain ⟨hp1, hp'⟩ := List.pairwise_cons.1 hp
    obtain ⟨val', h1, h2⟩ := wpG_fill hsel hl hs _ hnd' (fun k hk => hn k (by simp [hk])) hp' (fun k hk => hself k (by simp [hk])) H
    have hfe : ∀ (l : List Nat) (b : Act), h ∉ l → fill ops (fun k => if k = h then v else val' k) l b = fill ops val' l b := fun l b hb => fill_congr l b (fun j hj => by rw [if_neg]; rintro rfl; exact hb hj)
    refine ⟨fun k => if k = h then v else val' k, ?_, ?_⟩
    · simp only [fill, if_true]
      rw [hfe hs _ hnm]; exact h1
    · intro k hk
      simp only [fill, if_true]
      rw [hfe hs _ hnm]
      by_cases e : k = h
      · subst e
        rw [if_pos rfl]
        have g1 := fun j (hj : j ∈ hs) => looksB_spec hl (hn k (by simp)) (hn j (by simp [hj])) (hp1 j hj)
        have g2 := looksB_spec hl (hn k (by simp)) (hn k (by simp)) (hself k (by simp))
        rw [exec_fill (hsel k) hs _ g1, execOp_put _ (hsel k) a _ _ g2, wanted_fill hs _ g1, wanted_put _ a _ _ g2]
        exact hv
      · rw [if_neg e]
        refine h2 k ?_
        rcases List.mem_cons.1 hk with h3 | h3
        · exact absurd h3 e
        · exact h3
theorem wpAny_of_ph {m n : Nat} {H C A : List Nat} (hB : PH md ops m n H C A) {W : World} {obj : Nat → Obj} (hA0 : ∀ j ∈ A, ∀ (a : Act) (w : World), (execOp a.eval (opAt ops j)).run P w = .ok (.value (ptrV w.heap.size)) (w.alloc (obj j)))
    {val : Nat → Value} {Q : Exit → Act → World → Prop} {E : Act → World → Prop} (hmn : m ≤ n) (hE : ∀ a w, E a w → wpAny P md ops Q (ops.size - n) (firstN ops.size n) a w) :
    ∀ (f : Nat) (pend mid pa D : List Nat) (listed : Array Bool) (a F : Act) (w : World), f = pend.length + mid.length + pa.length → Inv10 md ops m n H C A listed pend mid pa → F = fill ops val pend a → (∀ x ∈ D, x < w.heap.size) →
      (∀ h ∈ pend, (Region.wanted (opAt ops h) (yielded ops F.tmps) = true ∧ ∀ d, (execOp F.eval (opAt ops h)).run P (grow W d) = .ok (.value (val h)) (grow W d)) ∨ (Region.wanted (opAt ops h) (yielded ops F.tmps) = false ∧ val h = undef)) → Ext W w → wpX P ops W obj E pa D (mid.map (opAt ops)) F w → wpAny P md ops Q (f + (ops.size - n)) listed a w := by
  intro f
  have hop : ∀ i, i < n → ops[i]? = some (opAt ops i) := fun i hi => by
    have : i < ops.size := Nat.lt_of_lt_of_le hi hB.nsz
    simp [opAt, Array.getD_eq_getD_getElem?, this]
  induction f with
  | zero =>
    intro pend mid pa D listed a F w hf inv hF _ _ hx hT
    obtain rfl : pend = [] := List.length_eq_zero_iff.1 (by omega)
    obtain rfl : mid = [] := List.length_eq_zero_iff.1 (by omega)
    obtain rfl : pa = [] := List.length_eq_zero_iff.1 (by omega)
    simp only [fill] at hF
    subst hF
    have hl : listed = firstN ops.size n := by
      unfold firstN
      apply Array.ext
      · simp [inv.size]
      · intro i h1 h2
        have hi : i < ops.size := by simpa using h2
        simp only [Array.getElem_map, Array.getElem_range]
        by_cases him : i < m
        · have := inv.old i him
          simp [h1] at this
          simp [this]; omega
        by_cases hin : i < n
        · have := inv.low i (by omega) hin
          simp [h1] at this
          simp [hin, this]
        · have := inv.high i (by omega)
          simp [h1] at this
          simp [hin, this]
    have hfin : E F w := hT w (Ext.refl w) (fun _ => 0) ⟨fun j hj => (by cases hj), fun j hj => (by cases hj), fun j hj => (by cases hj)⟩
    rw [hl, Nat.zero_add]; exact hE _ _ hfin
  | succ f ih =>
    intro pend mid pa D listed a F w hf inv hF hD hV hx hT
    rw [show f + 1 + (ops.size - n) = (f + (ops.size - n)) + 1 by omega]
    obtain ⟨k, hmid⟩ := inv.mc
    have hmC : ∀ x ∈ mid, x ∈ C := fun x hx => by rw [hmid] at hx; exact List.mem_of_mem_drop hx
    have hpd : pend.Nodup := inv.pp.imp (fun h => Nat.ne_of_lt h)
    have unl : ∀ j, m ≤ j → j < n → (j ∈ pend ∨ j ∈ mid ∨ j ∈ pa) → listed.getD j true = false := fun j hm hj h => getD_in (by rw [inv.size]; exact Nat.lt_of_lt_of_le hj hB.nsz) ((inv.low j hm hj).2 h)
    have hpan : ∀ j ∈ pa, j < n := fun j hj => (hB.an j (inv.pas j hj)).2
    have hpam : ∀ j ∈ pa, m ≤ j := fun j hj => (hB.an j (inv.pas j hj)).1
    have hsome : ∃ j, m ≤ j ∧ j < n ∧ listed.getD j true = false := by
      cases pend with
      | cons h ps => exact ⟨h, (hB.hn h (inv.ph h (by simp))).1, (hB.hn h (inv.ph h (by simp))).2, unl h (hB.hn h (inv.ph h (by simp))).1 (hB.hn h (inv.ph h (by simp))).2 (by simp)⟩
      | nil =>
        cases pa with
        | cons t ms => exact ⟨t, hpam t (by simp), hpan t (by simp), unl t (hpam t (by simp)) (hpan t (by simp)) (by simp)⟩
        | nil =>
          cases mid with
          | cons t ms => exact ⟨t, (hB.cn t (hmC t (by simp))).1, (hB.cn t (hmC t (by simp))).2, unl t (hB.cn t (hmC t (by simp))).1 (hB.cn t (hmC t (by simp))).2 (by simp)⟩
          | nil => simp at hf
    refine ⟨fun h0 => ?_, fun i hi => ?_⟩
    · exfalso
      cases pend with
      | cons h ps =>
        have hH := inv.ph h (by simp)
        have hhn := (hB.hn h hH).2
        have hhm := (hB.hn h hH).1
        have : h ∈ Region.ready md ops listed := mem_ready.2 ⟨unl h hhm hhn (by simp), opAt ops h, hop h hhn, fun e he hb => by
          rcases hB.hcl h hH e he hb with h0 | ⟨h1, h2⟩
          · exact inv.old _ h0
          cases hg : listed.getD e.on false with
          | true => rfl
          | false =>
            rcases (inv.low e.on (hB.hn _ h1).1 (by omega)).1 hg with h3 | h3 | h3
            · rcases List.mem_cons.1 h3 with h4 | h4
              · omega
              · have := (List.pairwise_cons.1 inv.pp).1 _ h4; omega
            · exact (hB.part _ h1 (hmC _ h3)).elim
            · exact (hB.parta _ (inv.pas _ h3) (.inl h1)).elim⟩
        rw [h0] at this; cases this
      | nil =>
        cases pa with
        | cons t ms =>
          have htA := inv.pas t (by simp)
          have htn := (hB.an t htA).2
          have htm := (hB.an t htA).1
          have : t ∈ Region.ready md ops listed := mem_ready.2 ⟨unl t htm htn (by simp), opAt ops t, hop t htn, fun e he hb => by
            rcases hB.acl t htA e he hb with h0 | h1
            · exact inv.old _ h0
            cases hg : listed.getD e.on false with
            | true => rfl
            | false =>
              rcases (inv.low e.on (hB.hn _ h1).1 (hB.hn _ h1).2).1 hg with h3 | h3 | h3
              · cases h3
              · exact (hB.part _ h1 (hmC _ h3)).elim
              · exact (hB.parta _ (inv.pas _ h3) (.inl h1)).elim⟩
          rw [h0] at this; cases this
        | nil =>
        cases mid with
        | nil => simp at hf
        | cons t ms =>
          have htn := (hB.cn t (hmC t (by simp))).2
          have htm := (hB.cn t (hmC t (by simp))).1
          have hkl : k < C.length := by
            rcases Nat.lt_or_ge k C.length with h | h
            · exact h
            · rw [List.drop_eq_nil_of_le h] at hmid; cases hmid
          have htk : C.getD k 0 = t := by
            have := congrArg (fun l => l[0]?) hmid
            simp [List.getElem?_drop] at this
            simp [List.getD_eq_getElem?_getD, ← this]
          have : t ∈ Region.ready md ops listed := mem_ready.2 ⟨unl t htm htn (by simp), opAt ops t, hop t htn, fun e he hb => by
            rcases hB.ccl k hkl e (by rw [htk]; exact he) hb with h0 | h1
            · exact inv.old _ h0
            have hen : m ≤ e.on ∧ e.on < n := h1.elim (hB.hn _) (fun h => hB.cn _ (List.mem_of_mem_take h))
            cases hg : listed.getD e.on false with
            | true => rfl
            | false =>
              rcases (inv.low e.on hen.1 hen.2).1 hg with h3 | h3 | h3
              · cases h3
              · rcases h1 with h1 | h1
                · exact (hB.part _ h1 (hmC _ h3)).elim
                · rw [hmid] at h3
                  have := hB.cnd
                  rw [← List.take_append_drop k C, List.nodup_append] at this
                  exact (this.2.2 _ h1 _ h3 rfl).elim
              · cases h3⟩
          rw [h0] at this; cases this
    · have hir := mem_ready.1 hi
      have hin : i < n := by
        rcases Nat.lt_or_ge i n with h | h
        · exact h
        · obtain ⟨j, hmj, hj, hu⟩ := hsome
          have hsz : i < ops.size := (Array.getElem?_eq_some_iff.1 hir.2.choose_spec.1).1
          rcases hB.aw i hsz h j hmj hj with h1 | ⟨h1, h2⟩
          · rw [anc_ready inv.clo hi hu] at h1; cases h1
          · have hl : listed.getD (n - 1) false = true := by
              cases hg : listed.getD (n - 1) true with
              | true =>
                have hnl : n - 1 < listed.size := by rw [inv.size]; have := hB.nsz; omega
                simp [hnl] at hg ⊢; exact hg
              | false => rw [anc_ready inv.clo hi hg] at h1; cases h1
            have h3 := anc_listed inv.clo 6 (n - 1) hl h2
            rw [getD_both hu] at h3; cases h3
      have him : m ≤ i := by
        rcases Nat.lt_or_ge i m with h | h
        · have h1 := inv.old i h
          rw [getD_both hir.1] at h1; cases h1
        · exact h
      have hisz : i < listed.size := by rw [inv.size]; exact Nat.lt_of_lt_of_le hin hB.nsz
      have hlook : ∀ h ∈ pend, ∀ d, (opAt ops h).dst = some d → d ∉ (opAt ops i).looksAt ops := fun h hh => looksB_spec hB.lk hin (hB.hn h (inv.ph h hh)).2 (by
        cases hw : Region.waitsFor md ops i h with
        | false => rfl
        | true =>
          have := waits_listed hi hw
          have h2 := (inv.low h (hB.hn h (inv.ph h hh)).1 (hB.hn h (inv.ph h hh)).2).2 (.inl hh)
          rw [h2] at this; cases this)
      have hex : execOp F.eval (opAt ops i) = execOp a.eval (opAt ops i) := by rw [hF]; exact exec_fill (hB.sel i) pend a hlook
      have hwex : Region.wanted (opAt ops i) (yielded ops F.tmps) = Region.wanted (opAt ops i) (yielded ops a.tmps) := by rw [hF]; exact wanted_fill pend a hlook
      have hcase := (inv.low i him hin).1 (getD_false_true hisz hir.1)
      have hnoA : i ∈ pa → i ∉ pend ∧ i ∉ mid := fun h => ⟨fun h2 => hB.parta _ (inv.pas _ h) (.inl (inv.ph _ h2)), fun h2 => hB.parta _ (inv.pas _ h) (.inr (hmC _ h2))⟩
      unfold wpOp
      rw [hop i hin]
      simp only
      rcases hcase with hp | hm | hpa
      · have hgo : wpAny P md ops Q (f + (ops.size - n)) (listed.setIfInBounds i true) (a.put (opAt ops i).dst (val i)) w := by
          refine ih (pend.erase i) mid pa D _ _ F _ ?_ ⟨by simp [inv.size], fun j hj => getD_set_true (inv.old j hj), fun j hm' hj => ?_, fun j hj => ?_, fun h hh => inv.ph h (List.mem_of_mem_erase hh), inv.pp.sublist List.erase_sublist, ⟨k, hmid⟩, inv.pas, inv.pad, inv.clo.set hi⟩ ?_ hD (fun h hh => hV h (List.mem_of_mem_erase hh)) hx hT
          · rw [List.length_erase_of_mem hp]
            have := List.length_pos_of_mem hp
            omega
          · by_cases hji : j = i
            · subst hji
              rw [getD_set_same hisz]
              simp only [Bool.true_eq_false, false_iff, not_or]
              exact ⟨List.Nodup.not_mem_erase hpd, fun h => hB.part _ (inv.ph _ hp) (hmC _ h), fun h => (hnoA h).1 hp⟩
            · rw [getD_set_ne false (Ne.symm hji), inv.low j hm' hj, List.mem_erase_of_ne hji]
          · rw [getD_set_ne false (by omega)]; exact inv.high j hj
          · rw [hF]; exact (fill_erase hB.ds hin pend a (fun h hh => (hB.hn h (inv.ph h hh)).2) hp).symm
        rcases hV i hp with ⟨hw, hv⟩ | ⟨hw, hv⟩
        · rw [if_pos (by rw [← hwex]; exact hw)]
          refine .inl ?_
          unfold Oper.wp
          obtain ⟨d, hd⟩ := hx
          have hv := hv d
          rw [← hex, hd, hv]
          rw [hd] at hgo
          exact hgo
        · rw [if_neg (by rw [← hwex, hw]; exact Bool.false_ne_true)]
          rw [hv] at hgo
          exact hgo
      · cases mid with
        | nil => cases hm
        | cons t ms =>
          have hkl : k < C.length := by
            rcases Nat.lt_or_ge k C.length with h | h
            · exact h
            · rw [List.drop_eq_nil_of_le h] at hmid; cases hmid
          obtain rfl : i = t := by
            rcases List.mem_cons.1 hm with h | h
            · exact h
            · exfalso
              obtain ⟨m, hml, hmi⟩ := List.mem_iff_getElem.1 h
              have e1 : C[k + 1 + m]? = some i := by
                have := congrArg (fun l => l[m + 1]?) hmid
                simp only [List.getElem?_cons_succ, List.getElem?_drop] at this
                rw [List.getElem?_eq_getElem hml, hmi] at this
                rw [show k + 1 + m = k + (m + 1) by omega]; exact this.symm
              have e2 : ∃ x, C[k + m]? = some x ∧ x ∈ t :: ms := by
                have := congrArg (fun l => l[m]?) hmid
                simp only [List.getElem?_drop] at this
                have hml' : m < (t :: ms).length := by simp; omega
                rw [List.getElem?_eq_getElem hml'] at this
                exact ⟨_, this.symm, List.getElem_mem _⟩
              obtain ⟨x, hx1, hx2⟩ := e2
              have hl := (List.getElem?_eq_some_iff.1 e1).1
              have hch := hB.chain (k + m) (by omega)
              rw [show k + m + 1 = k + 1 + m by omega] at hch
              simp only [List.getD_eq_getElem?_getD, e1, hx1, Option.getD_some] at hch
              have h1 := waits_listed hi hch
              have h2 := (inv.low x (hB.cn x (hmC x hx2)).1 (hB.cn x (hmC x hx2)).2).2 (.inr (.inl hx2))
              rw [h2] at h1; cases h1
          have hms : ms = C.drop (k + 1) := by
            have := congrArg List.tail hmid
            simpa using this
          have hnd : (i :: ms).Nodup := by rw [hmid]; exact hB.cnd.sublist (List.drop_sublist _ _)
          have hcontrol : ∀ (v : Value) (w' : World), Ext w w' → wpX P ops W obj E pa D (ms.map (opAt ops)) (F.put (opAt ops i).dst v) w' → wpAny P md ops Q (f + (ops.size - n)) (listed.setIfInBounds i true) (a.put (opAt ops i).dst v) w' := fun v w' hx' hT' => by
            refine ih pend ms pa D _ _ (F.put (opAt ops i).dst v) w' (by simp at hf; omega) ⟨by simp [inv.size], fun j hj => getD_set_true (inv.old j hj), fun j hm' hj => ?_, fun j hj => ?_, inv.ph, inv.pp, ⟨k + 1, hms⟩, inv.pas, inv.pad, inv.clo.set hi⟩ ?_ (fun x hxD => Nat.lt_of_lt_of_le (hD x hxD) hx'.size) (fun h hh => ?_) (hx.trans hx') hT'
            · by_cases hji : j = i
              · subst hji
                rw [getD_set_same hisz]
                simp only [Bool.true_eq_false, false_iff, not_or]
                exact ⟨fun h => hB.part _ (inv.ph _ h) (hmC _ (by simp)), (List.nodup_cons.1 hnd).1, fun h => (hnoA h).2 (by simp)⟩
              · rw [getD_set_ne false (Ne.symm hji), inv.low j hm' hj, List.mem_cons]
                simp [hji]
            · rw [getD_set_ne false (by omega)]; exact inv.high j hj
            · rw [hF]
              exact (fill_put hB.ds hin v pend a (fun h hh => ⟨(hB.hn h (inv.ph h hh)).2, fun e => hB.part _ (inv.ph h hh) (by rw [e]; exact hmC _ (by simp))⟩)).symm
            · have hlk := (looksB_spec hB.lk (hB.hn h (inv.ph h hh)).2 hin (by
                cases hw : Region.waitsFor md ops h i with
                | false => rfl
                | true =>
                  obtain ⟨e, he, hb, hon⟩ := waitsFor_of (md := md) (e := default) (Nat.lt_of_lt_of_le (hB.hn h (inv.ph h hh)).2 hB.nsz) hw
                  rcases hB.hcl h (inv.ph h hh) e he hb with h0 | ⟨this, _⟩
                  · omega
                  · rw [hon] at this
                    exact (hB.part _ this (hmC _ (by simp))).elim))
              rw [execOp_put (opAt ops h) (hB.sel h) F _ _ hlk, wanted_put (opAt ops h) F _ _ hlk]
              exact hV h hh
          simp only [List.map_cons, wpX] at hT
          rw [hex, hwex] at hT
          rcases hT w (Ext.refl w) with ⟨hw, ⟨v, w', h1, hx', h2⟩ | ⟨fn, args, h1, hc⟩⟩ | ⟨hw, h2⟩
          · rw [if_pos hw]; refine .inl ?_; unfold Oper.wp; rw [h1]; exact hcontrol v w' hx' h2
          · rw [if_pos hw]; refine .inl ?_; unfold Oper.wp; rw [h1]
            exact hc.mono fun e w' ⟨v, he, hx', h2⟩ => by subst he; exact hcontrol v w' hx' h2
          · rw [if_neg (by rw [hw]; exact Bool.false_ne_true)]
            exact hcontrol undef w (Ext.refl w) h2
      · -- a new cell
        have hiA := inv.pas i hpa
        have hxa : Ext w (w.alloc (obj i)) := (Ext.refl w).alloc _
        rw [if_pos (by simp [Region.wanted, hB.ga i hiA])]
        refine .inl ?_
        unfold Oper.wp
        rw [hA0 i hiA a w]
        have hT' := wpX_alloc (P := P) (W := W) (obj := obj) (E := E) (D := D) hB.ds hB.lk hB.sel hin hpan hpa inv.pad hx.size (fun x hxD => Nat.ne_of_gt (hD x hxD)) mid F (w.alloc (obj i)) (fun c hc => ⟨(hB.cn c (hmC c hc)).2, fun e => (hnoA hpa).2 (e ▸ hc), by
          cases hw : Region.waitsFor md ops c i with
          | false => rfl
          | true =>
            exfalso
            have hcC := hmC c hc
            obtain ⟨m', hml, hmi⟩ := List.mem_iff_getElem.1 hcC
            obtain ⟨e, he, hb, hon⟩ := waitsFor_of (md := md) (e := default) (Nat.lt_of_lt_of_le (hB.cn c hcC).2 hB.nsz) hw
            have h1 := hB.ccl m' hml e (by rw [show C.getD m' 0 = c by simp [List.getD_eq_getElem?_getD, List.getElem?_eq_getElem hml, hmi]]; exact he) hb
            rw [hon] at h1
            rcases h1 with h0 | h1
            · omega
            · exact hB.parta _ hiA (h1.imp id (fun h => List.mem_of_mem_take h))⟩) (by unfold World.alloc; simp) (hT.mono hxa)
        refine ih pend mid (pa.erase i) (w.heap.size :: D) _ _ (F.put (opAt ops i).dst (ptrV w.heap.size)) (w.alloc (obj i)) ?_ ⟨by simp [inv.size], fun j hj => getD_set_true (inv.old j hj), fun j hm' hj => ?_, fun j hj => ?_, inv.ph, inv.pp, ⟨k, hmid⟩, fun j hj => inv.pas j (List.mem_of_mem_erase hj), inv.pad.erase i, inv.clo.set hi⟩ ?_ (fun x hxD => ?_) (fun h hh => ?_) (hx.trans hxa) hT'
        · rw [List.length_erase_of_mem hpa]
          have := List.length_pos_of_mem hpa
          omega
        · by_cases hji : j = i
          · subst hji
            rw [getD_set_same hisz]
            simp only [Bool.true_eq_false, false_iff, not_or]
            exact ⟨(hnoA hpa).1, (hnoA hpa).2, List.Nodup.not_mem_erase inv.pad⟩
          · rw [getD_set_ne false (Ne.symm hji), inv.low j hm' hj, List.mem_erase_of_ne hji]
        · rw [getD_set_ne false (by omega)]; exact inv.high j hj
        · rw [hF]
          exact (fill_put hB.ds hin _ pend a (fun h hh => ⟨(hB.hn h (inv.ph h hh)).2, fun e => (hnoA hpa).1 (e ▸ hh)⟩)).symm
        · rcases List.mem_cons.1 hxD with h | h
          · subst h; simp
          · have := hD x h; simp; omega
        · have hlk := (looksB_spec hB.lk (hB.hn h (inv.ph h hh)).2 hin (by
                cases hw : Region.waitsFor md ops h i with
                | false => rfl
                | true =>
                  obtain ⟨e, he, hb, hon⟩ := waitsFor_of (md := md) (e := default) (Nat.lt_of_lt_of_le (hB.hn h (inv.ph h hh)).2 hB.nsz) hw
                  rcases hB.hcl h (inv.ph h hh) e he hb with h0 | ⟨this, _⟩
                  · omega
                  · rw [hon] at this
                    exact (hB.parta _ hiA (.inl this)).elim))
          rw [execOp_put (opAt ops h) (hB.sel h) F _ _ hlk, wanted_put (opAt ops h) F _ _ hlk]
          exact hV h hh
/-- One phase, from what is behind it. -/
theorem wpAny_ph {Q : Exit → Act → World → Prop} {a : Act} {w : World} {l : List Oper} (m n : Nat) (H C A : List Nat) (obj : Nat → Obj) (hmn : m ≤ n) (hB : phB .any l.toArray m n H C A = true) (hcl : Clo .any l.toArray (firstN l.length m))
    (hA0 : ∀ j ∈ A, ∀ (a : Act) (w : World), (execOp a.eval (l.getD j default)).run P w = .ok (.value (ptrV w.heap.size)) (w.alloc (obj j)))
    (h : wpG P l.toArray w (H.map fun i => l.getD i default) a (fun F => ∀ d, wpX P l.toArray w obj (fun a' w' => wpAny P .any l.toArray Q (l.length - n) (firstN l.length n) a' w') A [] (C.map fun i => l.getD i default) F (grow w d))) :
    ∀ d, wpAny P .any l.toArray Q (l.length - m) (firstN l.length m) a (grow w d) := by
  intro d
  have hc := phB_spec hB
  have hgd : ∀ i, opAt l.toArray i = l.getD i default := fun i => by simp [opAt, Array.getD_eq_getD_getElem?, List.getD_eq_getElem?_getD]
  have hm1 : ∀ L : List Nat, (L.map fun i => l.getD i default) = L.map (opAt l.toArray) := fun L => List.map_congr_left fun i _ => (hgd i).symm
  rw [hm1] at h
  simp only [hm1 C] at h
  have hself : ∀ h ∈ H, ∀ j ∈ H, h ≤ j → Region.waitsFor .any l.toArray h j = false := fun x hx j hjH hj => by
    cases hw : Region.waitsFor .any l.toArray x j with
    | false => rfl
    | true =>
      obtain ⟨e, he, hb, hon⟩ := waitsFor_of (md := .any) (e := default) (Nat.lt_of_lt_of_le (hc.hn x hx).2 hc.nsz) hw
      have h1 := (hc.hn j hjH).1
      rcases hc.hcl x hx e he hb with h0 | h0
      · omega
      · omega
  obtain ⟨val, h1, h2⟩ := wpG_fill hc.sel hc.lk H a (hc.hp.imp fun h => Nat.ne_of_lt h) (fun h hh => (hc.hn h hh).2) (hc.hp.imp_of_mem fun ha hb hl => hself _ ha _ hb (by omega)) (fun x hx => hself x hx x hx (Nat.le_refl _)) h
  have hlen : H.length + C.length + A.length = n - m := by
    have hnd : ((H ++ C) ++ A).Nodup := List.nodup_append.2 ⟨List.nodup_append.2 ⟨hc.hp.imp fun h => Nat.ne_of_lt h, hc.cnd, fun x hx y hy hxy => hc.part x hx (hxy ▸ hy)⟩, hc.ad, fun x hx y hy hxy => hc.parta y hy (by rw [← hxy]; exact List.mem_append.1 hx)⟩
    have hp : ((H ++ C) ++ A).Perm (List.range' m (n - m)) := (List.perm_ext_iff_of_nodup hnd (List.nodup_range' ..)).2 fun x => by
      rw [List.mem_append, List.mem_append, List.mem_range'_1]
      refine ⟨fun h => ?_, fun h => ?_⟩
      · rcases h with (h | h) | h
        · have := hc.hn x h; omega
        · have := hc.cn x h; omega
        · have := hc.an x h; omega
      · rcases hc.all x (by omega) (by omega) with h | h | h
        · exact .inl (.inl h)
        · exact .inl (.inr h)
        · exact .inr h
    have := hp.length_eq
    simpa [Nat.add_assoc] using this
  have hnl : n ≤ l.length := by simpa using hc.nsz
  have hfs : (firstN l.length m).size = l.toArray.size := by simp [firstN]
  have hfd : ∀ i, (firstN l.length m).getD i false = decide (i < m ∧ i < l.length) := fun i => by
    simp only [firstN, Array.getD_eq_getD_getElem?, Array.getElem?_map, Array.getElem?_range]
    by_cases hi : i < l.length
    · simp [hi]
    · simp [hi]
  have := wpAny_of_ph (Q := Q) hc (obj := obj) (fun j hj a w => by rw [hgd]; exact hA0 j hj a w) hmn (fun a w h => by simpa using h) (H.length + C.length + A.length) H C A [] (firstN l.length m) a _ (grow w d) rfl
    ⟨hfs, fun i hi => by rw [hfd]; simp; omega, fun i hmi hi => by rw [hfd]; simp; exact ⟨fun _ => hc.all i hmi hi, fun _ => by omega⟩, fun i hi => by rw [hfd]; simp; omega, fun _ h => h, hc.hp, ⟨0, rfl⟩, fun _ h => h, hc.ad, hcl⟩ rfl (fun x hx => by cases hx) h2 ⟨d, rfl⟩ (h1 d)
  rw [hlen, show n - m + (l.toArray.size - n) = l.length - m by simp; omega] at this
  exact this
def cloB (md : Region.Mode) (ops : Array Oper) (m : Nat) : Bool :=
  (List.range m).all fun j => (opAt ops j).after.all fun e => !Region.binds md e || decide (e.on < m)
theorem clo_first {l : List Oper} {m : Nat} (hm : m ≤ l.length) (h : cloB .any l.toArray m = true) : Clo .any l.toArray (firstN l.length m) := by
  intro j oj hj hl e he hb
  have hfd : ∀ i, (firstN l.length m).getD i false = decide (i < m ∧ i < l.length) := fun i => by
    simp only [firstN, Array.getD_eq_getD_getElem?, Array.getElem?_map, Array.getElem?_range]
    by_cases hi : i < l.length
    · simp [hi]
    · simp [hi]
  rw [hfd] at hl ⊢
  have hjm : j < m := by simp at hl; omega
  simp only [cloB, List.all_eq_true, List.mem_range, Array.all_eq_true', Bool.or_eq_true, Bool.not_eq_true', decide_eq_true_eq] at h
  have h1 := h j hjm e (by rw [opAt_eq hj]; exact he)
  rcases h1 with h1 | h1
  · rw [hb] at h1; cases h1
  · simp; omega
/-- The first phase. -/
theorem wp_region_p {id : Nat} {Q : Exit → Act → World → Prop} {a : Act} {w : World} {l : List Oper} (hm : P.follows .mixedOrders = true)
    (h : ∀ d, wpAny P .any l.toArray Q (l.length - 0) (firstN l.length 0) a (grow w d)) : (Code.region id l.toArray true).wp P Q a w := by
  refine wp_region_any hm ?_
  have e : firstN l.length 0 = Array.replicate l.toArray.size false := by
    apply Array.ext <;> simp [firstN]
  have := h ⟨#[], fun k => k + 1⟩
  rw [e] at this
  simpa [grow] using this
theorem wp_region_p' {id : Nat} {Q : Exit → Act → World → Prop} {a : Act} {w : World} {e : Gr} {l : List Oper} (hm : P.follows .mixedOrders = true)
    (h : ∀ d, wpAny P .any l.toArray Q (l.length - 0) (firstN l.length 0) a (grow w d)) : (Code.region id l.toArray true).wp P Q a (grow w e) := by
  refine wp_region_any hm ?_
  have e' : firstN l.length 0 = Array.replicate l.toArray.size false := by
    apply Array.ext <;> simp [firstN]
  have := h ⟨e.obs, fun k => e.n k + 1⟩
  rw [e'] at this
  simpa [grow] using this
theorem wpAny_at {Q : Exit → Act → World → Prop} {a : Act} {w : World} {l : List Oper} {m : Nat} (h : ∀ d, wpAny P .any l.toArray Q (l.length - m) (firstN l.length m) a (grow w d)) : wpAny P .any l.toArray Q (l.length - m) (firstN l.length m) a w := by
  have := h ⟨#[], fun k => k⟩
  simpa [grow] using this
/-- The end: nothing, or a list in its order. -/
theorem wpAny_done {Q : Exit → Act → World → Prop} {a : Act} {w : World} {l : List Oper} {m : Nat} (hs : Region.seqB .any l.toArray (l.length - m) m (firstN l.length m) = true) (h : wpList P l.toArray Q (l.drop m) a w) : wpAny P .any l.toArray Q (l.length - m) (firstN l.length m) a w := by
  have := wpAny_of_seq (md := .any) (ops := l.toArray) (Q' := Q) (l.drop m) m (firstN l.length m) a w (fun j => by simp [List.getElem?_drop]) (by simpa using hs) h
  simpa using this
theorem wpG_nil {W : World} {a : Act} {F : Act → Prop} (h : F a) : wpG P ops W [] a F := h
theorem wpG_l {W : World} {o : Oper} {l : List Oper} {a : Act} {F : Act → Prop} (hw : Region.wanted o (yielded ops a.tmps) = true)
    (h : ∀ K : Act → Prop, (∀ a, wpG P ops W l a F → K a) → ∃ v, (∀ d, (execOp a.eval o).run P (grow W d) = .ok (.value v) (grow W d)) ∧ K (a.put o.dst v)) : wpG P ops W (o :: l) a F := by
  obtain ⟨v, h1, h2⟩ := h _ (fun _ h => h)
  exact ⟨v, .inl ⟨hw, h1⟩, h2⟩
theorem wpG_s {W : World} {o : Oper} {l : List Oper} {a : Act} {F : Act → Prop} (hw : Region.wanted o (yielded ops a.tmps) = false)
    (h : wpG P ops W l (a.put o.dst undef) F) : wpG P ops W (o :: l) a F := ⟨undef, .inr ⟨hw, rfl⟩, h⟩
section
variable {W : World} {obj : Nat → Obj} {E : Act → World → Prop} {pa D : List Nat} {o : Oper} {l : List Oper} {a : Act} {w : World}
theorem wpX_nil (h : ∀ w', Ext w w' → ∀ b, GoodP W w' obj pa D b → E (fill ops (fun j => ptrV (b j)) pa a) w') : wpX P ops W obj E pa D [] a w := h
theorem wpX_v (hw : Region.wanted o (yielded ops a.tmps) = true) (h : ∀ w', Ext w w' → ∀ K : Act → World → Prop, (∀ a w, wpX P ops W obj E pa D l a w → K a w) → ∃ v w'', (execOp a.eval o).run P w' = .ok (.value v) w'' ∧ Ext w' w'' ∧ K (a.put o.dst v) w'') : wpX P ops W obj E pa D (o :: l) a w :=
  fun w' hx => .inl ⟨hw, .inl (h w' hx _ fun _ _ h => h)⟩
theorem wpX_c (hw : Region.wanted o (yielded ops a.tmps) = true) (h : ∀ w', Ext w w' → ∀ K : Act → World → Prop, (∀ a w, wpX P ops W obj E pa D l a w → K a w) → ∃ f args, (execOp a.eval o).run P w' = .ok (.enter f args) w' ∧ Calls P f args w' fun e w'' => ∃ v, e = .returned v ∧ Ext w' w'' ∧ K (a.put o.dst v) w'') : wpX P ops W obj E pa D (o :: l) a w :=
  fun w' hx => .inl ⟨hw, .inr (h w' hx _ fun _ _ h => h)⟩
theorem wpX_s (hw : Region.wanted o (yielded ops a.tmps) = false) (h : ∀ w', Ext w w' → wpX P ops W obj E pa D l (a.put o.dst undef) w') : wpX P ops W obj E pa D (o :: l) a w :=
  fun w' hx => .inr ⟨hw, h w' hx⟩
end
end
end Go.Proofs.YtmopgcbhmkemjaaGreatDoor

namespace Go.Proofs.YtmopgcbhmkemjaaGreatDoor
open Go Go.RowKit
set_option linter.unusedSimpArgs false
set_option linter.unusedVariables false
set_option maxRecDepth 100000
set_option exponentiation.threshold 3000

set_option maxHeartbeats 8000000 in
theorem mid_any (a d S two M : Rt) (z : Int) (AD : AnsT 53 #[a.v, d.v] (.tuple #[S.v, .int .i64 0])) (O2 : Ans 33 #[.int .i64 2] two.v) (DV : AnsT 78 #[S.v, two.v] (.tuple #[M.v, .int .i64 z])) : AnsT 50 #[pV a d] (.tuple #[M.v, .int .i64 z]) := fun w hT => by
  have hx : Ext w w := Ext.refl w
  obtain ⟨s1, m1, t1, k1, _, _⟩ := a
  obtain ⟨s2, m2, t2, k2, _, _⟩ := d
  obtain ⟨s3, m3, t3, k3, _, _⟩ := S
  obtain ⟨s4, m4, t4, k4, _, _⟩ := two
  obtain ⟨s5, m5, t5, k5, _, _⟩ := M
  go_enter Tryz.func50, Tryz.ntmps50
  go_upto_region 2 with (go_at_call 53; (with_reducible refine (AD _ (hT.ext (hx.trans ext_auto))).mono ?_); rintro e y1 ⟨rfl, hz_⟩; have hxy : Ext w y1 := Ext.trans ext_auto hz_; have BO : Blk y1 (w.heap.size + 1) #[.bool false, .int .u64 0, .int .u64 0, .int .u64 0, .int .u64 0, .bool false, .int .u64 0, .int .u64 0, .int .u64 0, .int .u64 0] 29 := Blk.ext blk_auto hz_)
  go_upto_region 4 with fail
  refine wp_rebase fun v hv => ?_
  have hxv : Ext w v := by rw [hv]; exact ext_auto
  replace BO : Blk v (w.heap.size + 1) #[.bool false, .int .u64 0, .int .u64 0, .int .u64 0, .int .u64 0, .bool false, .int .u64 0, .int .u64 0, .int .u64 0, .int .u64 0] 29 := by rw [hv]; exact blk_auto
  have BS : Blk v y1.heap.size (ratsV s3 m3 t3 k3) 29 := by rw [hv]; exact blk_auto
  clear hv hz_
  have hl := BO.lt
  have hys := hxy.size
  have hx := hxv
  have lBO := BO.lt; have cBO := BO.cell; have fBO := BO.frozen; have lBS := BS.lt; have cBS := BS.cell; have fBS := BS.frozen
  (first | refine wp_region_p (by kernel_rfl) ?_ | refine wp_region_p' (by kernel_rfl) ?_); refine wpAny_ph 0 3 [0] [1, 2] [] (fun _ => .cells #[] 0) (by decide) (by kernel_rfl) (clo_first (Nat.le_of_ble_eq_true (by kernel_rfl)) (by kernel_rfl)) (fun j hj => by cases hj) ?_; simp only [List.map_cons, List.map_nil, List.getD_cons_succ, List.getD_cons_zero]; (refine wpG_l rfl (fun K hK => ?_); go_simp; refine hK _ ?_; clear hK K); refine wpG_nil ?_; intro d0; have hx0 : Ext v (grow v d0) := ⟨d0, rfl⟩; generalize grow v d0 = y0 at *; (refine wpX_c rfl (fun t0 ht K hK => ?_); have hx0 := hx0.trans ht; go_simp; refine ⟨_, _, ⟨rfl, rfl⟩, ?_⟩; (with_reducible refine (O2 _).mono ?_); rintro e y1 ⟨rfl, hz1⟩; have hx1 : Ext v y1 := hx0.trans hz1; refine ⟨_, rfl, hz1, hK _ _ ?_⟩; clear hK K); (refine wpX_c rfl (fun t1 ht K hK => ?_); have hx1 := hx1.trans ht; go_simp; refine ⟨_, _, ⟨rfl, rfl⟩, ?_⟩; (with_reducible refine (DV _ (hT.ext (hx.trans hx1))).mono ?_); rintro e y2 ⟨rfl, hz2⟩; have hx2 : Ext v y2 := hx1.trans hz2; refine ⟨_, rfl, hz2, hK _ _ ?_⟩; clear hK K); refine wpX_nil (fun y ht b hb => ?_); have hxv := hx2.trans ht; have hx := hx.trans hxv; simp only [fill]; clear hb; replace BO := BO.ext hxv; clear lBO cBO fBO; replace BS := BS.ext hxv; clear lBS cBS fBS; clear hxv ht b; obtain ⟨v, rfl⟩ : ∃ v', v' = y := ⟨_, rfl⟩; have lBO := BO.lt; have cBO := BO.cell; have fBO := BO.frozen; have lBS := BS.lt; have cBS := BS.cell; have fBS := BS.frozen; refine wpAny_at ?_; refine wpAny_ph 3 5 [3, 4] [] [] (fun _ => .cells #[] 0) (by decide) (by kernel_rfl) (clo_first (Nat.le_of_ble_eq_true (by kernel_rfl)) (by kernel_rfl)) (fun j hj => by cases hj) ?_; simp only [List.map_cons, List.map_nil, List.getD_cons_succ, List.getD_cons_zero]; (refine wpG_l rfl (fun K hK => ?_); go_simp; refine hK _ ?_; clear hK K); (refine wpG_l rfl (fun K hK => ?_); go_simp; refine hK _ ?_; clear hK K); refine wpG_nil ?_; intro d0; have hx2 : Ext v (grow v d0) := ⟨d0, rfl⟩; generalize grow v d0 = y2 at *; refine wpX_nil (fun y ht b hb => ?_); have hxv := hx2.trans ht; have hx := hx.trans hxv; simp only [fill]; clear hb; replace BO := BO.ext hxv; clear lBO cBO fBO; replace BS := BS.ext hxv; clear lBS cBS fBS; clear hxv ht b; obtain ⟨v, rfl⟩ : ∃ v', v' = y := ⟨_, rfl⟩; have lBO := BO.lt; have cBO := BO.cell; have fBO := BO.frozen; have lBS := BS.lt; have cBS := BS.cell; have fBS := BS.frozen; refine wpAny_done (by kernel_rfl) ?_; simp only [List.drop_succ_cons, List.drop_zero, List.drop_nil]
  go_wp2
  refine bp_rebase fun u hu => ?_
  have hy : Ext w u := by rw [hu]; exact ext_auto
  have BF : Blk u (w.heap.size + 1) (ratsV s5 m5 t5 k5) 29 := by rw [hu]; exact blk_auto
  clear hu
  have lBF := BF.lt; have cBF := BF.cell; have fBF := BF.frozen; clear BF
  exact bodyPost_ret (v := .tuple #[ratV s5 m5 t5 k5, .int .i64 z]) (by simp [results, Tryz.results50, go_sem, cBF]) rfl ⟨rfl, hy⟩
attribute [local go_sem ↓] storeP_eq storeR_eq storeE_eq
attribute [local go_sem] storeE_0 storeR_0 storeR_10 IsP.setRow IsP.setCell IsP.drew storeP_zero cell_setRow_z frozen_setRow_z cell_setRow_far
set_option maxHeartbeats 16000000 in
theorem Mid_yes (a b c d : Rt) (ha : a.pok = true) (hb : b.pok = true) (hc : c.pok = true) (hd : d.pok = true) (S1 S2 : Rt) (f1 : S1.pf = true) (f2 : S2.pf = true)
    (A1 : AnsT 50 #[pV a c] (.tuple #[S1.v, .int .i64 0])) (A2 : AnsT 50 #[pV b d] (.tuple #[S2.v, .int .i64 0])) :
    AnsT 22 #[pV a b, pV c d] (.tuple #[pV S1 S2, .int .i64 0]) := fun w hT => by
  have hmf : ∀ (fn : Fn) (first cap : Array Value) (w : World), (Instr.makeFunc fn first cap).run Tryz.prog w = .ok (.func fn first cap) w := fun _ _ _ _ => rfl
  have hx : Ext w w := Ext.refl w
  have P1 := pright_yes a b ha hb
  have P2 := pright_yes c d hc hd
  have EE := fun bb TT w hT h => each_mid a c b d S1 S2 f1 f2 A1 A2 bb TT w hT h
  clear ha hb hc hd f1 f2 A1 A2
  obtain ⟨s1, m1, t1, k1, _, _⟩ := a
  obtain ⟨s2, m2, t2, k2, _, _⟩ := b
  obtain ⟨s3, m3, t3, k3, _, _⟩ := c
  obtain ⟨s4, m4, t4, k4, _, _⟩ := d
  obtain ⟨s5, m5, t5, k5, _, _⟩ := S1
  obtain ⟨s6, m6, t6, k6, _, _⟩ := S2
  dsimp only at EE
  go_enter_defers Tryz.func22, Tryz.ntmps22
  go_upto_region 1 with fail
  refine wp_rebase fun v hv => ?_
  replace hx : Ext w v := by rw [hv]; exact ext_auto
  have BA : Blk v w.heap.size (ptsV s1 m1 t1 k1 s2 m2 t2 k2) 31 := by rw [hv]; exact blk_auto
  have BB : Blk v (w.heap.size + 1) (ptsV s3 m3 t3 k3 s4 m4 t4 k4) 31 := by rw [hv]; exact blk_auto
  have BO : Blk v (w.heap.size + 1 + 1) #[.bool false, .int .u64 0, .int .u64 0, .int .u64 0, .int .u64 0, .bool false, .int .u64 0, .int .u64 0, .int .u64 0, .int .u64 0, .bool false, .int .u64 0, .int .u64 0, .int .u64 0, .int .u64 0, .bool false, .int .u64 0, .int .u64 0, .int .u64 0, .int .u64 0] 31 := by rw [hv]; exact blk_auto
  have BE : Blk v (w.heap.size + 1 + 1 + 1) #[.int .i64 0] 33 := by rw [hv]; exact blk_auto
  clear hv
  have lBA := BA.lt; have cBA := BA.cell; have fBA := BA.frozen; have lBB := BB.lt; have cBB := BB.cell; have fBB := BB.frozen; have lBO := BO.lt; have cBO := BO.cell; have fBO := BO.frozen; have lBE := BE.lt; have cBE := BE.cell; have fBE := BE.frozen
  
  go_wp2_with (first | (go_at_call 46; (with_reducible refine (must_point_yes _ _).mono ?_); rintro e w2 ⟨rfl, h2_⟩; subst w2) | ((with_reducible apply wpList_load_row Tryz.isAgg31 Tryz.sizeOf31); (case hw => (simp [go_sem, Region.wanted, yielded]; done)); (case hs => exact rfl); (case hB => exact blk_auto); (case hc => rfl)) | (go_at_call 16; (with_reducible refine (P1 _).mono ?_); rintro e y1 ⟨rfl, hz_⟩; have hzz_ : Ext v y1 := Ext.trans ext_auto hz_; replace BA := BA.ext hzz_; clear lBA cBA fBA; replace BB := BB.ext hzz_; clear lBB cBB fBB; replace BO := BO.ext hzz_; clear lBO cBO fBO; replace BE := BE.ext hzz_; clear lBE cBE fBE; replace hx := hx.trans hzz_; clear hz_ hzz_; have lBA := BA.lt; have cBA := BA.cell; have fBA := BA.frozen; have lBB := BB.lt; have cBB := BB.cell; have fBB := BB.frozen; have lBO := BO.lt; have cBO := BO.cell; have fBO := BO.frozen; have lBE := BE.lt; have cBE := BE.cell; have fBE := BE.frozen))
  go_upto_region 3 with (first | (go_at_call 46; (with_reducible refine (must_point_yes _ _).mono ?_); rintro e w2 ⟨rfl, h2_⟩; subst w2) | ((with_reducible apply wpList_load_row Tryz.isAgg31 Tryz.sizeOf31); (case hw => (simp [go_sem, Region.wanted, yielded]; done)); (case hs => exact rfl); (case hB => exact blk_auto); (case hc => rfl)) | (go_at_call 16; (with_reducible refine (P2 _).mono ?_); rintro e y2 ⟨rfl, hz_⟩; have hxy : Ext y1 y2 := Ext.trans ext_auto hz_))
  replace BA := BA.ext hxy; replace BB := BB.ext hxy; replace BO := BO.ext hxy; replace BE := BE.ext hxy; replace hx := hx.trans hxy
  clear hxy hz_ lBA cBA fBA lBB cBB fBB lBO cBO fBO lBE cBE fBE
  obtain ⟨v, rfl⟩ : ∃ v', v' = y2 := ⟨_, rfl⟩
  have lBA := BA.lt; have cBA := BA.cell; have fBA := BA.frozen; have lBB := BB.lt; have cBB := BB.cell; have fBB := BB.frozen; have lBO := BO.lt; have cBO := BO.cell; have fBO := BO.frozen; have lBE := BE.lt; have cBE := BE.cell; have fBE := BE.frozen
  go_upto_region 4 with (go_at_call 49; (with_reducible refine (EE _ _ _ (hT.ext (hx.trans ext_auto)) (Blk.new _ _ _ rfl)).mono ?_); rintro e z ⟨⟨g, cap, hcap, hgs, rfl, hg1, hg2⟩, hz_⟩; have hbO := BO.lt; have hbE := BE.lt; have hgv : v.heap.size ≤ g := (by simp at hgs; omega); clear hgs; have hzz_ : Ext v z := Ext.trans ext_auto hz_)
  refine wp_rebase fun u hu => ?_
  have hxu : Ext v u := by rw [hu]; exact ext_auto
  have hxz : Ext z u := by rw [hu]; exact ext_auto
  clear hu
  replace BO := BO.ext hxu; replace BE := BE.ext hxu; replace hx := hx.trans hxu; replace hg1 := hg1.ext hxz; replace hg2 := hg2.ext hxz
  clear hxz hzz_ hz_ hxu lBA cBA fBA lBB cBB fBB lBO cBO fBO lBE cBE fBE
  have lBO := BO.lt; have cBO := BO.cell; have fBO := BO.frozen; have lBE := BE.lt; have cBE := BE.cell; have fBE := BE.frozen
  obtain ⟨lg, p0, p1, p2, p3, p4, p5, p6, p7, p8, p9⟩ := hg1
  obtain ⟨_, q0, q1, q2, q3, q4, q5, q6, q7, q8, q9⟩ := hg2
  simp only [Nat.zero_add, Nat.reduceAdd] at p0 p1 p2 p3 p4 p5 p6 p7 p8 p9 q0 q1 q2 q3 q4 q5 q6 q7 q8 q9
  generalize hNm50 : wn m5 0 = Nm50 at *
  generalize hNm51 : wn m5 1 = Nm51 at *
  generalize hNm52 : wn m5 2 = Nm52 at *
  generalize hNm53 : wn m5 3 = Nm53 at *
  generalize hNk50 : wn k5 0 = Nk50 at *
  generalize hNk51 : wn k5 1 = Nk51 at *
  generalize hNk52 : wn k5 2 = Nk52 at *
  generalize hNk53 : wn k5 3 = Nk53 at *
  generalize hNm60 : wn m6 0 = Nm60 at *
  generalize hNm61 : wn m6 1 = Nm61 at *
  generalize hNm62 : wn m6 2 = Nm62 at *
  generalize hNm63 : wn m6 3 = Nm63 at *
  generalize hNk60 : wn k6 0 = Nk60 at *
  generalize hNk61 : wn k6 1 = Nk61 at *
  generalize hNk62 : wn k6 2 = Nk62 at *
  generalize hNk63 : wn k6 3 = Nk63 at *
  have hf1 : ∀ (W : World) (i j : Nat) (x : Value), (W.setCell ⟨w.heap.size + 1 + 1, i, none⟩ x).cell? ⟨g, j, none⟩ = W.cell? ⟨g, j, none⟩ := fun W i j x => World.cell?_setCell_other _ _ _ _ (by intro e; cases e; omega)
  have hf2 : ∀ (W : World) (i j : Nat) (x : Value), (W.setCell ⟨w.heap.size + 1 + 1 + 1, i, none⟩ x).cell? ⟨g, j, none⟩ = W.cell? ⟨g, j, none⟩ := fun W i j x => World.cell?_setCell_other _ _ _ _ (by intro e; cases e; omega)
  have hIP : IsP u (w.heap.size + 1 + 1) := ⟨_, BO, rfl⟩
  have hIE : IsE u (w.heap.size + 1 + 1 + 1) := ⟨_, BE⟩
  have hgb : ¬ g = w.heap.size + 1 + 1 := by omega
  go_region_held3 (fun w' => IsP w' (w.heap.size + 1 + 1) ∧ IsE w' (w.heap.size + 1 + 1 + 1) ∧ w'.cell? ⟨g, 0, none⟩ = some (.bool s5) ∧ w'.cell? ⟨g, 1, none⟩ = some (q64 Nm50) ∧ w'.cell? ⟨g, 2, none⟩ = some (q64 Nm51) ∧ w'.cell? ⟨g, 3, none⟩ = some (q64 Nm52) ∧ w'.cell? ⟨g, 4, none⟩ = some (q64 Nm53) ∧ w'.cell? ⟨g, 5, none⟩ = some (.bool t5) ∧ w'.cell? ⟨g, 6, none⟩ = some (q64 Nk50) ∧ w'.cell? ⟨g, 7, none⟩ = some (q64 Nk51) ∧ w'.cell? ⟨g, 8, none⟩ = some (q64 Nk52) ∧ w'.cell? ⟨g, 9, none⟩ = some (q64 Nk53) ∧ w'.cell? ⟨g, 10, none⟩ = some (.bool s6) ∧ w'.cell? ⟨g, 11, none⟩ = some (q64 Nm60) ∧ w'.cell? ⟨g, 12, none⟩ = some (q64 Nm61) ∧ w'.cell? ⟨g, 13, none⟩ = some (q64 Nm62) ∧ w'.cell? ⟨g, 14, none⟩ = some (q64 Nm63) ∧ w'.cell? ⟨g, 15, none⟩ = some (.bool t6) ∧ w'.cell? ⟨g, 16, none⟩ = some (q64 Nk60) ∧ w'.cell? ⟨g, 17, none⟩ = some (q64 Nk61) ∧ w'.cell? ⟨g, 18, none⟩ = some (q64 Nk62) ∧ w'.cell? ⟨g, 19, none⟩ = some (q64 Nk63)) ((refine ⟨?_, ?_, ?_⟩; (· (repeat (with_reducible first | assumption | apply IsP.setCell | apply IsP.setRow | apply IsP.drew))); (· (repeat (with_reducible first | assumption | apply IsE.setCell | (apply IsE.setRow (by omega)) | apply IsE.drew))); (· simp only [hf1, hf2, cell_setRow_far, hgb, ne_eq, not_false_eq_true, *, p0, p1, p2, p3, p4, p5, p6, p7, p8, p9, q0, q1, q2, q3, q4, q5, q6, q7, q8, q9, World.cell?_drew, and_self]))) (fail)
  subst hNm50 hNm51 hNm52 hNm53 hNk50 hNk51 hNk52 hNk53 hNm60 hNm61 hNm62 hNm63 hNk60 hNk61 hNk62 hNk63
  have hE0 : Ext w (u.drew.setRow (w.heap.size + 1 + 1) zPt) := Ext.setRow hx.drew (by omega)
  have hB0 : Blk (u.drew.setRow (w.heap.size + 1 + 1) zPt) (w.heap.size + 1 + 1) zPt 31 := BO.drew.setRowSame
  have hG0 : Blk (u.drew.setRow (w.heap.size + 1 + 1) zPt) (w.heap.size + 1 + 1 + 1) #[.int .i64 0] 33 := BE.drew.setRowOther (by omega)
  generalize u.drew.setRow (w.heap.size + 1 + 1) zPt = u0 at *
  go_wp2
  refine lv_rebase fun r hr => ?_
  have hy : Ext w r := by rw [hr]; exact ext_auto
  have BF : Blk r (w.heap.size + 1 + 1) (ptsV s5 m5 t5 k5 s6 m6 t6 k6) 31 := by rw [hr]; exact blk_auto
  have BG : Blk r (w.heap.size + 1 + 1 + 1) #[.int .i64 0] 33 := by rw [hr]; exact blk_auto
  clear hr
  exact leaves_point (.tuple #[ptV s5 m5 t5 k5 s6 m6 t6 k6, .int .i64 0]) (results_pt_err Tryz.results22 rfl rfl BF rfl BG) ⟨rfl, hy⟩
end Go.Proofs.YtmopgcbhmkemjaaGreatDoor

namespace Go.Proofs.YtmopgcbhmkemjaaGreatDoor
open Go Go.RowKit
set_option linter.unusedSimpArgs false
set_option linter.unusedVariables false
set_option maxRecDepth 100000

theorem dg_len_add (m n k : Nat) (h1 : (dg m).length ≤ k) (h2 : (dg n).length ≤ k) : (dg (m + n)).length ≤ k + 1 := by
  rw [dg_len_le] at *
  rw [Nat.pow_succ]; omega
theorem dg_len_mono (m n : Nat) (h : m ≤ n) : (dg m).length ≤ (dg n).length := by
  rw [dg_len_le]
  exact Nat.lt_of_le_of_lt h ((dg_len_le n _).1 (Nat.le_refl _))
set_option maxHeartbeats 4000000 in
theorem bAdd (x y : Int) (v1 v2 : Value) (hx : Small x) (hy : Small y) (w : World) (h1 : BigV w v1 x) (h2 : BigV w v2 y) :
    Calls Tryz.prog 55 #[v1, v2] w (RetB (fun W r => BigV W r (x + y)) w) := by
  obtain ⟨t1, a1, n1, c1, rfl, e1, k1⟩ := h1.opened
  obtain ⟨t2, a2, n2, c2, rfl, e2, k2⟩ := h2.opened
  clear h1 h2
  unfold Small at hx hy
  by_cases hs : t1 = t2
  · have hb : (t1 == t2) = true := by simp [hs]
    have HZ : Hid (sv t1 (dval (dg (x.natAbs + y.natAbs))) = x + y) := Lib.hid (by
      have h1 := e1.out.1; have h2 := e2.out.1
      rw [dval_dg]
      by_cases a : x < 0 <;> by_cases b : y < 0 <;> simp [a, b] at h1 h2 <;> subst h1 h2 <;> simp at hs <;> simp [sv] <;> omega)
    have cp := fun w s1 s2 => plus_dg x.natAbs y.natAbs (.slice a1 n1 c1) (.slice a2 n2 c2) (by omega) (by omega) w s1 s2
    have co := fun r w h => of_ret t1 r (dg (x.natAbs + y.natAbs)) (by have := dg_len_add x.natAbs y.natAbs 100000 hx hy; omega) (digs_dg _) w h
    rw [HZ.out] at co
    clear HZ hs e1 e2 hx hy
    go_enter Tryz.func55, Tryz.ntmps55
    go_wp2
    refine wp_rebase fun v hv => ?_
    have hx : Ext w v := by rw [hv]; exact ext_auto
    have BA : Blk v w.heap.size #[.bool t1, .slice a1 n1 c1] 42 := by rw [hv]; exact blk_auto
    have BB : Blk v (w.heap.size + 1) #[.bool t2, .slice a2 n2 c2] 42 := by rw [hv]; exact blk_auto
    have BO : Blk v (w.heap.size + 1 + 1) #[.bool false, .slice none 0 0] 42 := by rw [hv]; exact blk_auto
    clear hv
    have lBA := BA.lt; have cBA := BA.cell; have fBA := BA.frozen; have lBB := BB.lt; have cBB := BB.cell; have fBB := BB.frozen; have lBO := BO.lt; have cBO := BO.cell; have fBO := BO.frozen
    (first | refine wp_region_h' 8 [0, 1, 2, 3, 4, 5] [6, 7] (by kernel_rfl) (by kernel_rfl) ?_ | refine wp_region_h 8 [0, 1, 2, 3, 4, 5] [6, 7] (by kernel_rfl) (by kernel_rfl) ?_); simp only [List.map_cons, List.map_nil, List.getD_cons_succ, List.getD_cons_zero]; (repeat (refine wpHL_l (fun K hK => ?_); go_simp; refine hK _ ?_; clear hK K)); refine wpHL_nil ?_; intro d0; have hx0 : Ext v (grow v d0) := ⟨d0, rfl⟩; generalize grow v d0 = y0 at *; (refine wpT_c (fun K hK => ?_); go_simp; refine ⟨_, _, ⟨rfl, rfl⟩, ?_⟩; (with_reducible refine (cp _ (k1.ext (hx.trans hx0)) (k2.ext (hx.trans hx0))).mono ?_); rintro e y1 ⟨r1, rfl, hr1, hz1⟩; have hx1 : Ext v y1 := hx0.trans hz1; refine ⟨_, rfl, hx1, hK _ _ ?_⟩; clear hK K); (refine wpT_c (fun K hK => ?_); go_simp; refine ⟨_, _, ⟨rfl, rfl⟩, ?_⟩; (with_reducible refine (co _ _ hr1).mono ?_); rintro e y2 ⟨r2, rfl, hr2, hz2⟩; have hx2 : Ext v y2 := hx1.trans hz2; refine ⟨_, rfl, hx2, hK _ _ ?_⟩; clear hK K); refine wpT_nil ?_; simp only [List.drop_succ_cons, List.drop_zero]
    obtain ⟨tr, ar, nr, cr, rfl, er, ks⟩ := hr2.opened; have hxn : Ext w y2 := hx.trans hx2; have BOn := BO.ext hx2; have lBOn := BOn.lt; have cBOn := BOn.cell; have fBOn := BOn.frozen; go_wp2; refine bp_rebase fun u hu => ?_; have hy : Ext w u := (by rw [hu]; exact ext_auto); have hsl := (ks.set (k := (w.heap.size + 1 + 1)) (j := 0) (x := .bool tr) BOn (by decide)).set (k := (w.heap.size + 1 + 1)) (j := 1) (x := .slice ar nr cr) BOn.setSame (by decide); rw [← hu] at hsl; have BF : Blk u (w.heap.size + 1 + 1) #[.bool tr, .slice ar nr cr] 42 := (by rw [hu]; exact blk_auto); clear hu; have lBF := BF.lt; have cBF := BF.cell; have fBF := BF.frozen; clear BF; exact bodyPost_ret (v := .agg #[.bool tr, .slice ar nr cr]) (by simp [results, Tryz.results55, go_sem, cBF]) rfl ⟨_, rfl, BigV.shut er hsl, hy⟩
  · have hb : (t1 == t2) = false := by simp [hs]
    have cm := fun w s1 s2 => mags_dg x.natAbs y.natAbs (.slice a1 n1 c1) (.slice a2 n2 c2) (by omega) (by omega) w s1 s2
    by_cases hge : y.natAbs ≤ x.natAbs
    · have hc : decide (cmp3 x.natAbs y.natAbs ≥ 0) = true := by
        have : ¬ x.natAbs < y.natAbs := by omega
        simp only [cmp3, if_neg this]; split <;> simp
      have HZ : Hid (sv t1 (dval (dg (x.natAbs - y.natAbs))) = x + y) := Lib.hid (by
        have h1 := e1.out.1; have h2 := e2.out.1
        rw [dval_dg]
        by_cases a : x < 0 <;> by_cases b : y < 0 <;> simp [a, b] at h1 h2 <;> subst h1 h2 <;> simp at hs <;> simp [sv] <;> omega)
      have cp := fun w s1 s2 => less_dg x.natAbs y.natAbs hge (.slice a1 n1 c1) (.slice a2 n2 c2) (by omega) (by omega) w s1 s2
      have co := fun r w h => of_ret t1 r (dg (x.natAbs - y.natAbs)) (by have := dg_len_mono (x.natAbs - y.natAbs) x.natAbs (by omega); omega) (digs_dg _) w h
      rw [HZ.out] at co
      generalize cmp3 x.natAbs y.natAbs = cz at *
      clear HZ hs e1 e2 hx hy hge
      go_enter Tryz.func55, Tryz.ntmps55
      go_wp2_with (go_at_call 90; refine (cm _ (k1.ext ext_auto) (k2.ext ext_auto)).mono ?_; rintro e w' ⟨rfl, dm, rfl⟩)
      refine wp_rebase fun v hv => ?_
      have hx : Ext w v := by rw [hv]; exact ext_auto
      have BA : Blk v w.heap.size #[.bool t1, .slice a1 n1 c1] 42 := by rw [hv]; exact blk_auto
      have BB : Blk v (w.heap.size + 1) #[.bool t2, .slice a2 n2 c2] 42 := by rw [hv]; exact blk_auto
      have BO : Blk v (w.heap.size + 1 + 1) #[.bool false, .slice none 0 0] 42 := by rw [hv]; exact blk_auto
      clear hv
      have lBA := BA.lt; have cBA := BA.cell; have fBA := BA.frozen; have lBB := BB.lt; have cBB := BB.cell; have fBB := BB.frozen; have lBO := BO.lt; have cBO := BO.cell; have fBO := BO.frozen
      (first | refine wp_region_h' 8 [0, 1, 2, 3, 4, 5] [6, 7] (by kernel_rfl) (by kernel_rfl) ?_ | refine wp_region_h 8 [0, 1, 2, 3, 4, 5] [6, 7] (by kernel_rfl) (by kernel_rfl) ?_); simp only [List.map_cons, List.map_nil, List.getD_cons_succ, List.getD_cons_zero]; (repeat (refine wpHL_l (fun K hK => ?_); go_simp; refine hK _ ?_; clear hK K)); refine wpHL_nil ?_; intro d0; have hx0 : Ext v (grow v d0) := ⟨d0, rfl⟩; generalize grow v d0 = y0 at *; (refine wpT_c (fun K hK => ?_); go_simp; refine ⟨_, _, ⟨rfl, rfl⟩, ?_⟩; (with_reducible refine (cp _ (k1.ext (hx.trans hx0)) (k2.ext (hx.trans hx0))).mono ?_); rintro e y1 ⟨r1, rfl, hr1, hz1⟩; have hx1 : Ext v y1 := hx0.trans hz1; refine ⟨_, rfl, hx1, hK _ _ ?_⟩; clear hK K); (refine wpT_c (fun K hK => ?_); go_simp; refine ⟨_, _, ⟨rfl, rfl⟩, ?_⟩; (with_reducible refine (co _ _ hr1).mono ?_); rintro e y2 ⟨r2, rfl, hr2, hz2⟩; have hx2 : Ext v y2 := hx1.trans hz2; refine ⟨_, rfl, hx2, hK _ _ ?_⟩; clear hK K); refine wpT_nil ?_; simp only [List.drop_succ_cons, List.drop_zero]
      obtain ⟨tr, ar, nr, cr, rfl, er, ks⟩ := hr2.opened; have hxn : Ext w y2 := hx.trans hx2; have BOn := BO.ext hx2; have lBOn := BOn.lt; have cBOn := BOn.cell; have fBOn := BOn.frozen; go_wp2; refine bp_rebase fun u hu => ?_; have hy : Ext w u := (by rw [hu]; exact ext_auto); have hsl := (ks.set (k := (w.heap.size + 1 + 1)) (j := 0) (x := .bool tr) BOn (by decide)).set (k := (w.heap.size + 1 + 1)) (j := 1) (x := .slice ar nr cr) BOn.setSame (by decide); rw [← hu] at hsl; have BF : Blk u (w.heap.size + 1 + 1) #[.bool tr, .slice ar nr cr] 42 := (by rw [hu]; exact blk_auto); clear hu; have lBF := BF.lt; have cBF := BF.cell; have fBF := BF.frozen; clear BF; exact bodyPost_ret (v := .agg #[.bool tr, .slice ar nr cr]) (by simp [results, Tryz.results55, go_sem, cBF]) rfl ⟨_, rfl, BigV.shut er hsl, hy⟩
    · have hc : decide (cmp3 x.natAbs y.natAbs ≥ 0) = false := by
        have : x.natAbs < y.natAbs := by omega
        simp [cmp3, if_pos this]
      have HZ : Hid (sv t2 (dval (dg (y.natAbs - x.natAbs))) = x + y) := Lib.hid (by
        have h1 := e1.out.1; have h2 := e2.out.1
        rw [dval_dg]
        by_cases a : x < 0 <;> by_cases b : y < 0 <;> simp [a, b] at h1 h2 <;> subst h1 h2 <;> simp at hs <;> simp [sv] <;> omega)
      have cp := fun w s1 s2 => less_dg y.natAbs x.natAbs (by omega) (.slice a2 n2 c2) (.slice a1 n1 c1) (by omega) (by omega) w s1 s2
      have co := fun r w h => of_ret t2 r (dg (y.natAbs - x.natAbs)) (by have := dg_len_mono (y.natAbs - x.natAbs) y.natAbs (by omega); omega) (digs_dg _) w h
      rw [HZ.out] at co
      generalize cmp3 x.natAbs y.natAbs = cz at *
      clear HZ hs e1 e2 hx hy hge
      go_enter Tryz.func55, Tryz.ntmps55
      go_wp2_with (go_at_call 90; refine (cm _ (k1.ext ext_auto) (k2.ext ext_auto)).mono ?_; rintro e w' ⟨rfl, dm, rfl⟩)
      refine wp_rebase fun v hv => ?_
      have hx : Ext w v := by rw [hv]; exact ext_auto
      have BA : Blk v w.heap.size #[.bool t1, .slice a1 n1 c1] 42 := by rw [hv]; exact blk_auto
      have BB : Blk v (w.heap.size + 1) #[.bool t2, .slice a2 n2 c2] 42 := by rw [hv]; exact blk_auto
      have BO : Blk v (w.heap.size + 1 + 1) #[.bool false, .slice none 0 0] 42 := by rw [hv]; exact blk_auto
      clear hv
      have lBA := BA.lt; have cBA := BA.cell; have fBA := BA.frozen; have lBB := BB.lt; have cBB := BB.cell; have fBB := BB.frozen; have lBO := BO.lt; have cBO := BO.cell; have fBO := BO.frozen
      (first | refine wp_region_h' 8 [0, 1, 2, 3, 4, 5] [6, 7] (by kernel_rfl) (by kernel_rfl) ?_ | refine wp_region_h 8 [0, 1, 2, 3, 4, 5] [6, 7] (by kernel_rfl) (by kernel_rfl) ?_); simp only [List.map_cons, List.map_nil, List.getD_cons_succ, List.getD_cons_zero]; (repeat (refine wpHL_l (fun K hK => ?_); go_simp; refine hK _ ?_; clear hK K)); refine wpHL_nil ?_; intro d0; have hx0 : Ext v (grow v d0) := ⟨d0, rfl⟩; generalize grow v d0 = y0 at *; (refine wpT_c (fun K hK => ?_); go_simp; refine ⟨_, _, ⟨rfl, rfl⟩, ?_⟩; (with_reducible refine (cp _ (k2.ext (hx.trans hx0)) (k1.ext (hx.trans hx0))).mono ?_); rintro e y1 ⟨r1, rfl, hr1, hz1⟩; have hx1 : Ext v y1 := hx0.trans hz1; refine ⟨_, rfl, hx1, hK _ _ ?_⟩; clear hK K); (refine wpT_c (fun K hK => ?_); go_simp; refine ⟨_, _, ⟨rfl, rfl⟩, ?_⟩; (with_reducible refine (co _ _ hr1).mono ?_); rintro e y2 ⟨r2, rfl, hr2, hz2⟩; have hx2 : Ext v y2 := hx1.trans hz2; refine ⟨_, rfl, hx2, hK _ _ ?_⟩; clear hK K); refine wpT_nil ?_; simp only [List.drop_succ_cons, List.drop_zero]
      obtain ⟨tr, ar, nr, cr, rfl, er, ks⟩ := hr2.opened; have hxn : Ext w y2 := hx.trans hx2; have BOn := BO.ext hx2; have lBOn := BOn.lt; have cBOn := BOn.cell; have fBOn := BOn.frozen; go_wp2; refine bp_rebase fun u hu => ?_; have hy : Ext w u := (by rw [hu]; exact ext_auto); have hsl := (ks.set (k := (w.heap.size + 1 + 1)) (j := 0) (x := .bool tr) BOn (by decide)).set (k := (w.heap.size + 1 + 1)) (j := 1) (x := .slice ar nr cr) BOn.setSame (by decide); rw [← hu] at hsl; have BF : Blk u (w.heap.size + 1 + 1) #[.bool tr, .slice ar nr cr] 42 := (by rw [hu]; exact blk_auto); clear hu; have lBF := BF.lt; have cBF := BF.cell; have fBF := BF.frozen; clear BF; exact bodyPost_ret (v := .agg #[.bool tr, .slice ar nr cr]) (by simp [results, Tryz.results55, go_sem, cBF]) rfl ⟨_, rfl, BigV.shut er hsl, hy⟩
end Go.Proofs.YtmopgcbhmkemjaaGreatDoor

namespace Go.Proofs.YtmopgcbhmkemjaaGreatDoor
open Go Go.RowKit
set_option linter.unusedSimpArgs false
set_option linter.unusedVariables false
set_option maxRecDepth 100000

theorem small_neg {x : Int} (h : Small x) : Small (-x) := by unfold Small at *; rwa [Int.natAbs_neg]
set_option maxHeartbeats 4000000 in
theorem word_dg (m : Nat) (v : Value) (h3 : (dg m).length ≤ 3) (w : World) (h : SlC w v (dg m)) :
    Calls Tryz.prog 117 #[v] w fun e w' => e = .returned (i64 m) ∧ w = w' := by
  have hm := (dg_len_le m 3).1 h3
  have t0 := at_dg m v (by omega) 0 (by omega) w h
  have t1 := at_dg m v (by omega) 1 (by omega) w h
  have t2 := at_dg m v (by omega) 2 (by omega) w h
  have b0 := wn_ltD m 0
  have b1 := wn_ltD m 1
  have b2 := wn_ltD m 2
  have hs : m = wnD m 0 + 65536 * (wnD m 1 + 65536 * wnD m 2) := by
    unfold wnD; rw [D_eq]; simp only [Nat.pow_zero, Nat.div_one, Nat.pow_one]; omega
  rw [D_eq] at b0 b1 b2
  generalize wnD m 0 = x0 at *
  generalize wnD m 1 = x1 at *
  generalize wnD m 2 = x2 at *
  have HS := Lib.hid hs
  clear hs hm h h3
  simp only [Int.natCast_zero, Int.natCast_one, show (((2 : Nat) : Int)) = 2 from rfl] at t0 t1 t2
  go_enter Tryz.func117, Tryz.ntmps117
  go_wp2_with (go_at_call 119; (first | (with_reducible refine t0.mono ?_) | (with_reducible refine t1.mono ?_) | (with_reducible refine t2.mono ?_)); rintro e w' ⟨rfl, rfl⟩)
  go_ret
  refine ⟨?_, rfl⟩
  rw [HS.out]
  exact congrArg Ending.returned (by simp)
theorem Blk.grown {W W' : World} {b : Nat} {cs : Array Value} {T : TypeId} {row : Option Nat} (h : Blk W b cs T) (hg : W.grownBy W' row) (hne : some b ≠ row) : Blk W' b cs T := by
  have hl := h.lt
  unfold Blk at h ⊢
  rw [hg.block _ hl hne, h]
theorem SlC.owned {W : World} {base k : Nat} {v : Value} {ds : List Nat} (h : W.ownsRow base 2 1 v k (ds.map i64)) (hk : k = ds.length) : SlC W v ds := by
  rcases h.2 with ⟨rfl, hn⟩ | ⟨g, cap, cur, rfl, _⟩
  · obtain rfl : ds = [] := List.length_eq_zero_iff.1 (by omega)
    exact ⟨.inl ⟨none, 0, rfl, rfl⟩, fun a n c h => by cases h; exact Nat.le_refl _⟩
  · exact SlC.own h hk
set_option maxHeartbeats 4000000 in
theorem Num_pos (n : Nat) (hn : n < 9223372036854775808) (w : World) :
    Calls Tryz.prog 57 #[.int .i64 (n : Int)] w (RetB (fun W r => BigV W r (n : Int)) w) := by
  have h1 : ((n : Int) == -9223372036854775808) = false := by simp
  have hneg : decide ((n : Int) < 0) = false := by simp
  obtain ⟨i0, hi, hz0, hz1, hz2⟩ := info_parts info_i64
  go_enter Tryz.func57, Tryz.ntmps57
  go_wp2
  go_loopw [0, 4] (fun nv out wr => ∃ k : Nat, nv = .int .i64 ((n / 65536 ^ k : Nat) : Int) ∧ wr.ownsRow (w.heap.size + 1) 2 1 out k ((dlist n k).map i64) ∧ Below w.heap.size w wr ∧ Blk wr w.heap.size #[.bool false, .slice none 0 0] 42 ∧ k ≤ 8) (fun nv _ _ => (intOf nv).toNat)
  case atStart => exact ⟨0, by simp, World.ownsRow_nil _ _ _ _, Below.alloc (Below.refl _ w) (Nat.le_refl _) _, Blk.new _ _ _ rfl, by omega⟩
  case round =>
    obtain ⟨k, rfl, hown, hnx, BO, hk8⟩ := hrel
    by_cases h0 : n / 65536 ^ k = 0
    · have hlt : n < 65536 ^ k := by
        have := (Nat.div_eq_zero_iff_lt (Nat.pow_pos (by omega : 0 < 65536))).1 h0
        exact this
      have hfin := of_ret false u4 (dlist n k) (by rw [dlist_len]; omega) (dlist_digs _ _) wr (SlC.owned hown (by rw [dlist_len]))
      rw [dlist_dval, Nat.mod_eq_of_lt hlt, sv_false] at hfin
      have hx : Ext w wr := Ext.of_below hnx
      have h0' : ((n / 65536 ^ k : Nat) : Int) = 0 := by rw [h0]; rfl
      rw [h0']
      clear hown hlt h0 h0'
      go_wp2_with (go_at_call 88; refine hfin.mono ?_; rintro e y1 ⟨r1, rfl, hr1, hx1⟩; obtain ⟨tr, ar, nr, cr, rfl, er, ks⟩ := hr1.opened; have hxn : Ext w y1 := hx.trans hx1; have BOn := BO.ext hx1; have lBOn := BOn.lt; have cBOn := BOn.cell; have fBOn := BOn.frozen)
      refine bp_rebase fun u hu => ?_; have hy : Ext w u := (by rw [hu]; exact ext_auto); have hsl := (ks.set (k := w.heap.size) (j := 0) (x := .bool tr) BOn (by decide)).set (k := w.heap.size) (j := 1) (x := .slice ar nr cr) BOn.setSame (by decide); rw [← hu] at hsl; have BF : Blk u w.heap.size #[.bool tr, .slice ar nr cr] 42 := (by rw [hu]; exact blk_auto); clear hu; have lBF := BF.lt; have cBF := BF.cell; have fBF := BF.frozen; clear BF; exact bodyPost_ret (v := .agg #[.bool tr, .slice ar nr cr]) (by simp [results, Tryz.results57, go_sem, cBF]) rfl ⟨_, rfl, BigV.shut er hsl, hy⟩
    · have hq : n / 65536 ^ k < 9223372036854775808 := Nat.lt_of_le_of_lt (Nat.div_le_self _ _) hn
      have hk : k < 8 := by
        rcases Nat.lt_or_ge k 8 with h | h
        · exact h
        · exfalso; apply h0
          exact Nat.div_eq_of_lt (Nat.lt_of_lt_of_le hn (Nat.le_trans (by decide : 9223372036854775808 ≤ 65536 ^ 8) (Nat.pow_le_pow_right (by omega) h)))
      have hdg : n / 65536 ^ k % 65536 = wnD n k := rfl
      have hdv : n / 65536 ^ k / 65536 = n / 65536 ^ (k + 1) := by rw [Nat.pow_succ, Nat.div_div_eq_div_mul]
      have HDG := Lib.hid hdg
      have HDV := Lib.hid hdv
      have HDS := Lib.hid (dlist_succ n k)
      clear hdg hdv
      generalize n / 65536 ^ k = q at *
      have hq0 : 0 < q := by omega
      clear h0
      have hbs : w.heap.size + 1 ≤ wr.heap.size := BO.lt
      have hlt := hown.lt
      have hdg' : (q : Int) % 65536 = ((wnD n k : Nat) : Int) := by have := HDG.out; omega
      go_wp2_with (at_builtin; refine wpList_append_own _ rfl (.tmp 16) (.tmp 19) 40 rfl (w.heap.size + 1) 2 i0 (.int .i64 0) 1 8 Tryz.underlying40 hi hz0 hz1 hz2 rfl (by decide) _ _ _ rfl (hown.alloc _) ⟨wr.heap.size, 0, none⟩ 1 1 [i64 (wnD n k)] rfl rfl ?c1 ?c2 ?c3 ?c4 ?c5 ?_)
      case c1 =>
        intro t u h
        rcases t with _ | t
        · cases h; simp [go_sem]
        · cases h
      case c2 => intro u h; simp at h; subst h; rfl
      case c3 => unfold maxLen; omega
      case c4 => omega
      case c5 => simp; omega
      intro v' w1 hown1 hgrow1 _
      go_wp2
      go_roundw
      case rel =>
        refine ⟨k + 1, by rw [← HDV.out]; simp, ?_, (hnx.alloc hnx.size _).grown hgrow1 (by simp; have := hnx.size; omega) (fun b hb => by have := hlt b hb; omega), ?_, by omega⟩
        · rw [HDS.out, List.map_append]; exact hown1
        · refine (BO.alloc _).grown hgrow1 (fun hb => ?_)
          have := hlt _ hb.symm; omega
      case measure => simp [intOf]; omega
end Go.Proofs.YtmopgcbhmkemjaaGreatDoor

namespace Go.Proofs.YtmopgcbhmkemjaaGreatDoor
open Go Go.RowKit
set_option linter.unusedSimpArgs false
set_option linter.unusedVariables false
set_option maxRecDepth 100000

set_option maxHeartbeats 4000000 in
theorem Num_neg (n : Nat) (hn : n < 9223372036854775808) (hn0 : 0 < n) (w : World) :
    Calls Tryz.prog 57 #[.int .i64 (-(n : Int))] w (RetB (fun W r => BigV W r (-(n : Int))) w) := by
  have h1 : (-(n : Int) == -9223372036854775808) = false := by simp; omega
  have hneg : decide (-(n : Int) < 0) = true := by simp; omega
  have hlo : -9223372036854775808 ≤ -(n : Int) := by omega
  have hhi : -(n : Int) ≤ 0 := by omega
  obtain ⟨i0, hi, hz0, hz1, hz2⟩ := info_parts info_i64
  go_enter Tryz.func57, Tryz.ntmps57
  go_wp2
  go_loopw [0, 4] (fun nv out wr => ∃ k : Nat, nv = .int .i64 ((n / 65536 ^ k : Nat) : Int) ∧ wr.ownsRow (w.heap.size + 1) 2 1 out k ((dlist n k).map i64) ∧ Below w.heap.size w wr ∧ Blk wr w.heap.size #[.bool false, .slice none 0 0] 42 ∧ k ≤ 8) (fun nv _ _ => (intOf nv).toNat)
  case atStart => exact ⟨0, by simp, World.ownsRow_nil _ _ _ _, Below.alloc (Below.refl _ w) (Nat.le_refl _) _, Blk.new _ _ _ rfl, by omega⟩
  case round =>
    obtain ⟨k, rfl, hown, hnx, BO, hk8⟩ := hrel
    by_cases h0 : n / 65536 ^ k = 0
    · have hlt : n < 65536 ^ k := by
        have := (Nat.div_eq_zero_iff_lt (Nat.pow_pos (by omega : 0 < 65536))).1 h0
        exact this
      have hfin := of_ret true u4 (dlist n k) (by rw [dlist_len]; omega) (dlist_digs _ _) wr (SlC.owned hown (by rw [dlist_len]))
      rw [dlist_dval, Nat.mod_eq_of_lt hlt, show sv true n = -(n : Int) from rfl] at hfin
      have hx : Ext w wr := Ext.of_below hnx
      have h0' : ((n / 65536 ^ k : Nat) : Int) = 0 := by rw [h0]; rfl
      rw [h0']
      clear hown hlt h0 h0'
      go_wp2_with (go_at_call 88; refine hfin.mono ?_; rintro e y1 ⟨r1, rfl, hr1, hx1⟩; obtain ⟨tr, ar, nr, cr, rfl, er, ks⟩ := hr1.opened; have hxn : Ext w y1 := hx.trans hx1; have BOn := BO.ext hx1; have lBOn := BOn.lt; have cBOn := BOn.cell; have fBOn := BOn.frozen)
      refine bp_rebase fun u hu => ?_; have hy : Ext w u := (by rw [hu]; exact ext_auto); have hsl := (ks.set (k := w.heap.size) (j := 0) (x := .bool tr) BOn (by decide)).set (k := w.heap.size) (j := 1) (x := .slice ar nr cr) BOn.setSame (by decide); rw [← hu] at hsl; have BF : Blk u w.heap.size #[.bool tr, .slice ar nr cr] 42 := (by rw [hu]; exact blk_auto); clear hu; have lBF := BF.lt; have cBF := BF.cell; have fBF := BF.frozen; clear BF; exact bodyPost_ret (v := .agg #[.bool tr, .slice ar nr cr]) (by simp [results, Tryz.results57, go_sem, cBF]) rfl ⟨_, rfl, BigV.shut er hsl, hy⟩
    · have hq : n / 65536 ^ k < 9223372036854775808 := Nat.lt_of_le_of_lt (Nat.div_le_self _ _) hn
      have hk : k < 8 := by
        rcases Nat.lt_or_ge k 8 with h | h
        · exact h
        · exfalso; apply h0
          exact Nat.div_eq_of_lt (Nat.lt_of_lt_of_le hn (Nat.le_trans (by decide : 9223372036854775808 ≤ 65536 ^ 8) (Nat.pow_le_pow_right (by omega) h)))
      have hdg : n / 65536 ^ k % 65536 = wnD n k := rfl
      have hdv : n / 65536 ^ k / 65536 = n / 65536 ^ (k + 1) := by rw [Nat.pow_succ, Nat.div_div_eq_div_mul]
      have HDG := Lib.hid hdg
      have HDV := Lib.hid hdv
      have HDS := Lib.hid (dlist_succ n k)
      clear hdg hdv
      generalize n / 65536 ^ k = q at *
      have hq0 : 0 < q := by omega
      clear h0
      have hbs : w.heap.size + 1 ≤ wr.heap.size := BO.lt
      have hlt := hown.lt
      have hdg' : (q : Int) % 65536 = ((wnD n k : Nat) : Int) := by have := HDG.out; omega
      go_wp2_with (at_builtin; refine wpList_append_own _ rfl (.tmp 16) (.tmp 19) 40 rfl (w.heap.size + 1) 2 i0 (.int .i64 0) 1 8 Tryz.underlying40 hi hz0 hz1 hz2 rfl (by decide) _ _ _ rfl (hown.alloc _) ⟨wr.heap.size, 0, none⟩ 1 1 [i64 (wnD n k)] rfl rfl ?c1 ?c2 ?c3 ?c4 ?c5 ?_)
      case c1 =>
        intro t u h
        rcases t with _ | t
        · cases h; simp [go_sem]
        · cases h
      case c2 => intro u h; simp at h; subst h; rfl
      case c3 => unfold maxLen; omega
      case c4 => omega
      case c5 => simp; omega
      intro v' w1 hown1 hgrow1 _
      go_wp2
      go_roundw
      case rel =>
        refine ⟨k + 1, by rw [← HDV.out]; simp, ?_, (hnx.alloc hnx.size _).grown hgrow1 (by simp; have := hnx.size; omega) (fun b hb => by have := hlt b hb; omega), ?_, by omega⟩
        · rw [HDS.out, List.map_append]; exact hown1
        · refine (BO.alloc _).grown hgrow1 (fun hb => ?_)
          have := hlt _ hb.symm; omega
      case measure => simp [intOf]; omega
theorem dg_min : dg 9223372036854775808 = [0, 0, 0, 32768] := by
  have := trim_eq_dg [0, 0, 0, 32768] (by intro d hd; simp at hd; omega)
  rw [show dval [0, 0, 0, 32768] = 9223372036854775808 from rfl] at this
  rw [← this]; rfl
set_option maxHeartbeats 4000000 in
theorem Num_min (w : World) :
    Calls Tryz.prog 57 #[.int .i64 (-9223372036854775808)] w (RetB (fun W r => BigV W r (-9223372036854775808)) w) := by
  go_enter Tryz.func57, Tryz.ntmps57
  go_wp2
  refine bp_rebase fun u hu => ?_
  have hy : Ext w u := by rw [hu]; exact ext_auto
  have BF : Blk u w.heap.size #[.bool true, .slice (some ⟨w.heap.size + 1, 0, none⟩) 4 4] 42 := by rw [hu]; exact blk_auto
  have BD : Blk u (w.heap.size + 1) #[.int .i64 0, .int .i64 0, .int .i64 0, .int .i64 32768] 2 := by rw [hu]; exact blk_auto
  clear hu
  have lBF := BF.lt; have cBF := BF.cell; have fBF := BF.frozen
  refine bodyPost_ret (v := .agg #[.bool true, .slice (some ⟨w.heap.size + 1, 0, none⟩) 4 4]) (by simp [results, Tryz.results57, go_sem, cBF]) rfl ⟨_, rfl, ⟨_, rfl, ?_⟩, hy⟩
  show SlC u _ (dg 9223372036854775808)
  rw [dg_min]
  refine ⟨.inr ⟨w.heap.size + 1, 0, 4, rfl, ⟨_, _, BD⟩, fun i hi => ?_⟩, fun a n c h => by cases h; exact Nat.le_refl _⟩
  rw [BD.cell]
  simp at hi
  rcases (by omega : i = 0 ∨ i = 1 ∨ i = 2 ∨ i = 3) with rfl | rfl | rfl | rfl <;> rfl
/-- A word's number. -/
theorem bNum (z : Int) (h1 : -9223372036854775808 ≤ z) (h2 : z < 9223372036854775808) (w : World) :
    Calls Tryz.prog 57 #[.int .i64 z] w (RetB (fun W r => BigV W r z) w) := by
  by_cases h : 0 ≤ z
  · obtain ⟨n, rfl⟩ := Int.eq_ofNat_of_zero_le h
    exact Num_pos n (by omega) w
  · by_cases hm : z = -9223372036854775808
    · subst hm; exact Num_min w
    · obtain ⟨n, hn⟩ : ∃ n : Nat, z = -(n : Int) := ⟨z.natAbs, by omega⟩
      subst hn
      exact Num_neg n (by omega) (by omega) w
end Go.Proofs.YtmopgcbhmkemjaaGreatDoor

namespace Go.Proofs.YtmopgcbhmkemjaaGreatDoor
open Go Go.RowKit
set_option linter.unusedSimpArgs false
set_option linter.unusedVariables false
set_option maxRecDepth 100000
set_option exponentiation.threshold 1000

theorem D4 : D ^ 4 = B := by rw [D_eq, B_eq]
theorem D_split (i : Nat) : 65536 ^ i = B ^ (i / 4) * 65536 ^ (i % 4) := by
  rw [← D4, ← Nat.pow_mul, D_eq, ← Nat.pow_add]; congr 1; omega
theorem B4_D : B4 = 65536 ^ 16 := by decide
theorem put16 (x d i j : Nat) (hx : x < 65536 ^ i) (hd : d < 65536) : wn (x + d * 65536 ^ i) j = if j = i / 4 then wn x j + d * 65536 ^ (i % 4) else wn x j := by
  have hp : ∀ k, 0 < B ^ k := fun k => Nat.pow_pos B_pos
  have hs := D_split i
  have hr : 65536 ^ (i % 4) * 65536 ≤ B := by
    rw [← D4, D_eq, ← Nat.pow_succ]; exact Nat.pow_le_pow_right (by omega) (by omega)
  by_cases hj : j = i / 4
  · subst hj
    rw [if_pos rfl]
    unfold wn
    have e1 : d * 65536 ^ i = B ^ (i / 4) * (d * 65536 ^ (i % 4)) := by rw [hs, Nat.mul_left_comm]
    have hq : x / B ^ (i / 4) < 65536 ^ (i % 4) := by
      rw [Nat.div_lt_iff_lt_mul (hp _), Nat.mul_comm]; rw [hs] at hx; exact hx
    have h2 : d * 65536 ^ (i % 4) + 65536 ^ (i % 4) ≤ 65536 ^ (i % 4) * 65536 := by
      rw [Nat.mul_comm _ 65536, ← Nat.succ_mul]; exact Nat.mul_le_mul_right _ (by omega)
    have hA : x / B ^ (i / 4) + d * 65536 ^ (i % 4) < B := by omega
    have hA' : x / B ^ (i / 4) < B := by omega
    rw [e1, Nat.add_mul_div_left _ _ (hp _), Nat.mod_eq_of_lt hA, Nat.mod_eq_of_lt hA']
  · rw [if_neg hj]
    rcases Nat.lt_or_gt_of_ne hj with h | h
    · obtain ⟨k, hk⟩ : ∃ k, i / 4 = j + 1 + k := ⟨i / 4 - (j + 1), by omega⟩
      unfold wn
      have e1 : d * 65536 ^ i = B ^ j * (B * (B ^ k * (d * 65536 ^ (i % 4)))) := by
        rw [hs, hk, Nat.pow_add, Nat.pow_succ]
        rw [Nat.mul_left_comm]; simp only [Nat.mul_assoc, Nat.mul_left_comm d]
      rw [e1, Nat.add_mul_div_left _ _ (hp _), Nat.add_mul_mod_self_left]
    · have h1 : x + d * 65536 ^ i < 65536 ^ i * 65536 := by
        have : d * 65536 ^ i + 65536 ^ i ≤ 65536 ^ i * 65536 := by rw [Nat.mul_comm _ 65536, ← Nat.succ_mul]; exact Nat.mul_le_mul_right _ (by omega)
        omega
      have h2 : 65536 ^ i * 65536 ≤ B ^ j := by
        rw [← Nat.pow_succ, ← D4, ← Nat.pow_mul, D_eq]; exact Nat.pow_le_pow_right (by omega) (by omega)
      have h3 : x < B ^ j := by have := Nat.le_mul_of_pos_right (65536 ^ i) (by omega : 0 < 65536); omega
      rw [wn_high _ _ (by omega), wn_high _ _ h3]
theorem or16 (x d i : Nat) (hx : x < 65536 ^ i) (hd : d < 65536) : bits .or .u64 ((wn x (i / 4) : Nat) : Int) ((d * 65536 ^ (i % 4) : Nat) : Int) = ((wn (x + d * 65536 ^ i) (i / 4) : Nat) : Int) := by
  have hl := wn_lt (x + d * 65536 ^ i) (i / 4)
  rw [put16 x d i _ hx hd, if_pos rfl] at hl
  have hl0 := wn_lt x (i / 4)
  have hq : wn x (i / 4) < 65536 ^ (i % 4) := by
    unfold wn
    refine Nat.lt_of_le_of_lt (Nat.mod_le _ _) ?_
    rw [Nat.div_lt_iff_lt_mul (Nat.pow_pos B_pos), Nat.mul_comm, ← D_split]; exact hx
  rw [B_eq] at hl hl0
  rw [(bits_nat .u64 64 (by decide) (fun n h0 h1 => by rw [IntKind.wrap_u64]; omega) (wn x (i / 4)) (d * 65536 ^ (i % 4)) (by omega) (by omega)).2]
  rw [put16 x d i _ hx hd, if_pos rfl]
  congr 1
  have e : 65536 ^ (i % 4) = 2 ^ (16 * (i % 4)) := by rw [Nat.pow_mul]
  rw [e] at hq ⊢
  have := Nat.two_pow_add_eq_or_of_lt hq d
  rw [Nat.or_comm, Nat.mul_comm d, ← this]; omega
def Holds5 (s : Bool) (f : Nat → Nat) (A : Array Value) : Prop := A.size = 5 ∧ A[0]? = some (.bool s) ∧ ∀ j, j < 4 → A[1 + j]? = some (q64 (f j))
theorem Holds5.lit {s : Bool} {f : Nat → Nat} {A : Array Value} (h : Holds5 s f A) : A = #[.bool s, q64 (f 0), q64 (f 1), q64 (f 2), q64 (f 3)] := by
  obtain ⟨h1, h2, h3⟩ := h
  apply Array.ext_getElem?
  intro i
  rcases i with _ | _ | _ | _ | _ | i
  · simpa using h2
  · simpa using h3 0 (by omega)
  · simpa using h3 1 (by omega)
  · simpa using h3 2 (by omega)
  · simpa using h3 3 (by omega)
  · rw [Array.getElem?_eq_none (by omega), Array.getElem?_eq_none (by simp)]
theorem Holds5.set {s : Bool} {f g : Nat → Nat} {A : Array Value} (h : Holds5 s f A) (i x : Nat) (hi : i < 4) (hx : g i = x) (hg : ∀ j, j < 4 → j ≠ i → g j = f j) : Holds5 s g (A.setIfInBounds (1 + i) (q64 x)) := by
  obtain ⟨h1, h2, h3⟩ := h
  refine ⟨by simp [h1], ?_, fun j hj => ?_⟩
  · rw [Array.getElem?_setIfInBounds_ne (by omega)]; exact h2
  · by_cases e : j = i
    · subst e; rw [Array.getElem?_setIfInBounds_self_of_lt (by omega), hx]
    · rw [Array.getElem?_setIfInBounds_ne (by omega), h3 j hj, hg j hj e]
theorem mod_step (n i : Nat) : n % 65536 ^ (i + 1) = n % 65536 ^ i + wnD n i * 65536 ^ i := by
  have := mod_succD n i; rw [D_eq] at this; omega
set_option maxHeartbeats 8000000 in
theorem bTo_yes (x : Int) (v1 : Value) (hx : x.natAbs < B4) (w : World) (h1 : BigV w v1 x) :
    Calls Tryz.prog 145 #[v1] w fun e w' => e = .returned (.tuple #[intV (decide (x < 0)) x.natAbs, .bool true]) ∧ Ext w w' := by
  obtain ⟨t1, a1, n1, c1, rfl, e1, k1⟩ := h1.opened
  obtain ⟨n, hn⟩ : ∃ n, n = x.natAbs := ⟨_, rfl⟩
  obtain ⟨h11, h12⟩ := e1.out
  rw [← hn] at k1 h12 hx ⊢
  rw [← h11]
  have hl : n1 ≤ 16 := by rw [h12, dg_len_le, ← B4_D]; exact hx
  have K1 : ∀ W, Ext w W → ∀ k, k < n1 → ∃ b o, a1 = some ⟨b, o, none⟩ ∧ b < W.heap.size ∧ W.cell? ⟨b, o + k, none⟩ = some (i64 (wnD n k)) := by
    intro W hxW k hk
    rcases k1.1 with ⟨a, cap, he, e⟩ | ⟨b, o, cap, he, hc⟩
    · rw [h12, e] at hk; exact absurd hk (by simp)
    · cases he
      refine ⟨b, o, rfl, (hc.ext hxW).lt, ?_⟩
      have := (hc.ext hxW).at' k (by omega)
      rwa [dg_digit] at this
  have HN := Lib.hid ((dg_len_le n n1).1 (by omega))
  clear e1 k1 h1 h11 h12 hx hn
  go_enter Tryz.func145, Tryz.ntmps145
  go_wp2
  go_loopg [5] n1 (fun g iv wr => ∃ (k : Nat) (A : Array Value) (d : Gr), g = n1 - k ∧ k ≤ n1 ∧ iv = .int .i64 k ∧ Holds5 t1 (wn (n % 65536 ^ k)) A ∧
      wr = grow (((w.alloc (.cells #[.bool t1, .slice a1 n1 c1] 42)).alloc (.cells #[.bool false, .int .u64 0, .int .u64 0, .int .u64 0, .int .u64 0] 27)).alloc (.cells A 27)) d)
  case atStart => exact ⟨0, _, ⟨#[], fun k => k⟩, by omega, Nat.zero_le _, rfl, ⟨rfl, rfl, fun j hj => by
      have h0 : wn (n % 65536 ^ 0) j = 0 := by rw [Nat.pow_zero, Nat.mod_one, wn_zero]
      rw [h0]
      rcases (by omega : j = 0 ∨ j = 1 ∨ j = 2 ∨ j = 3) with rfl | rfl | rfl | rfl <;> rfl⟩, (grow_none _).symm⟩
  case round =>
    obtain ⟨k, A, d, hg, hk, rfl, hA, rfl⟩ := hrel
    by_cases hlt : k < n1
    · obtain ⟨b, o, rfl, hbl, hcell⟩ := K1 w (Ext.refl w) k hlt
      have hkn : (k : Int) < (n1 : Int) := by omega
      have hk4 : k / 4 < 4 := by omega
      have hcA := hA.2.2 (k / 4) hk4
      have hsz := hA.1
      have h1 : IntKind.i64.wrap ((k : Int) / 4) = ((k / 4 : Nat) : Int) := by rw [IntKind.wrap_i64]; omega
      have h6 : ((k : Int) / 4).toNat = k / 4 := by omega
      have h7 : 0 ≤ (k : Int) / 4 := by omega
      have h8 : (k : Int) / 4 < 4 := by omega
      have h11 : ((k : Int)).tmod 4 = (k : Int) % 4 := by rw [Int.tmod_eq_emod_of_nonneg (by omega)]
      have hb1 : b < w.heap.size + 1 := by omega
      have hb2 : b < w.heap.size + 1 + 1 := by omega
      have hb3 : b < w.heap.size + 1 + 1 + 1 := by omega
      have h9 : 0 ≤ (k : Int) % 4 := by omega
      have h10 : (k : Int) % 4 < 4 := by omega
      have hwd : wnD n k < 65536 := wn_ltD n k
      have hor : bits BinOp.or IntKind.u64 ((wn (n % 65536 ^ k) (k / 4) : Nat) : Int) (IntKind.u64.wrap (IntKind.u64.wrap ((wnD n k : Nat) : Int) * 2 ^ min (IntKind.u64.wrap (IntKind.i64.wrap (16 * ((k : Int) % 4)))).toNat 64)) = ((wn (n % 65536 ^ (k + 1)) (k / 4) : Nat) : Int) := by
        have e1 : IntKind.i64.wrap (16 * ((k : Int) % 4)) = ((16 * (k % 4) : Nat) : Int) := by rw [IntKind.wrap_i64]; omega
        have e2 : IntKind.u64.wrap ((16 * (k % 4) : Nat) : Int) = ((16 * (k % 4) : Nat) : Int) := by rw [IntKind.wrap_u64]; omega
        have e3 : min (16 * (k % 4)) 64 = 16 * (k % 4) := by omega
        have e4 : IntKind.u64.wrap ((wnD n k : Nat) : Int) = ((wnD n k : Nat) : Int) := by rw [IntKind.wrap_u64]; omega
        have e5 : (2 : Int) ^ (16 * (k % 4)) = ((65536 ^ (k % 4) : Nat) : Int) := by rw [Int.pow_mul, Int.natCast_pow]; rfl
        have hb : wnD n k * 65536 ^ (k % 4) < 18446744073709551616 := by
          have h1 : wnD n k * 65536 ^ (k % 4) + 65536 ^ (k % 4) ≤ 65536 * 65536 ^ (k % 4) := by rw [← Nat.succ_mul]; exact Nat.mul_le_mul_right _ (by omega)
          have h2 : 65536 * 65536 ^ (k % 4) ≤ 65536 ^ 4 := by rw [Nat.mul_comm, ← Nat.pow_succ]; exact Nat.pow_le_pow_right (by omega) (by omega)
          have h3 : 0 < 65536 ^ (k % 4) := Nat.pow_pos (by omega)
          have h4 : (65536 : Nat) ^ 4 = 18446744073709551616 := by decide
          omega
        have e6 : IntKind.u64.wrap (((wnD n k : Nat) : Int) * ((65536 ^ (k % 4) : Nat) : Int)) = ((wnD n k * 65536 ^ (k % 4) : Nat) : Int) := by
          rw [← Int.natCast_mul, IntKind.wrap_u64]; omega
        rw [e1, e2, Int.toNat_natCast, e3, e4, e5, e6, or16 _ _ _ (Nat.mod_lt _ (Nat.pow_pos (by omega))) hwd, ← mod_step]
      have HP : ∀ j, wn (n % 65536 ^ (k + 1)) j = if j = k / 4 then wn (n % 65536 ^ k) j + wnD n k * 65536 ^ (k % 4) else wn (n % 65536 ^ k) j := fun j => by
        rw [mod_step]; exact put16 _ _ _ _ (Nat.mod_lt _ (Nat.pow_pos (by omega))) hwd
      have HP' := Lib.hid HP
      clear HP
      clear K1
      go_wp2
      (first | refine wp_region_k' [.p, .p, .p, .p, .p, .p, .r, .p, .r, .p, .p, .r, .p, .p, .p, .p, .p, .p, .p, .p, .p, .w] (by kernel_rfl) (by kernel_rfl) ?_ | refine wp_region_k [.p, .p, .p, .p, .p, .p, .r, .p, .r, .p, .p, .r, .p, .p, .p, .p, .p, .p, .p, .p, .p, .w] (by kernel_rfl) (by kernel_rfl) ?_); (repeat (first | (refine wpK_p rfl (fun K hK => ?_); go_simp; refine hK _ _ ?_; clear hK K) | (refine wpK_r rfl (fun K hK => ?_); go_simp; refine hK _ _ ?_; clear hK K) | (refine wpK_w rfl (fun K hK => ?_); go_simp; refine hK _ _ ?_; clear hK K))); refine wpK_nil ?_; intro d
      go_wp2
      go_roundg (n1 - (k + 1))
      case measure => omega
      case rel => exact ⟨k + 1, _, _, rfl, by omega, by go_num, hA.set (k / 4) _ hk4 rfl (fun j _ hne => by rw [HP'.out, if_neg hne]), rfl⟩
    · obtain rfl : k = n1 := by omega
      rw [Nat.mod_eq_of_lt HN.out] at hA
      have hlit := hA.lit
      subst hlit
      clear hA K1
      go_wp2
      refine bp_rebase fun u hu => ?_
      have hy : Ext w u := by rw [hu]; exact ext_auto
      have BF : Blk u (w.heap.size + 1) (ints1 t1 n) 27 := by rw [hu]; exact blk_auto
      clear hu
      have lBF := BF.lt; have cBF := BF.cell; have fBF := BF.frozen; clear BF
      exact bodyPost_ret (v := .tuple #[intV t1 n, .bool true]) (by simp [results, Tryz.results145, go_sem, cBF]) rfl ⟨rfl, hy⟩
set_option maxHeartbeats 8000000 in
theorem bTo_no (x : Int) (v1 : Value) (hx : ¬ x.natAbs < B4) (hs : Small x) (w : World) (h1 : BigV w v1 x) :
    Calls Tryz.prog 145 #[v1] w fun e w' => e = .returned (.tuple #[.agg #[.bool false, .int .u64 0, .int .u64 0, .int .u64 0, .int .u64 0], .bool false]) ∧ Ext w w' := by
  obtain ⟨t1, a1, n1, c1, rfl, e1, k1⟩ := h1.opened
  have hl : 16 < n1 := by
    rcases Nat.lt_or_ge 16 n1 with h | h
    · exact h
    · exfalso; apply hx; rw [B4_D, ← dg_len_le, ← e1.out.2]; exact h
  have hl2 : n1 ≤ 100000 := by rw [e1.out.2]; exact hs
  clear k1 e1 hx hs h1
  go_enter Tryz.func145, Tryz.ntmps145
  go_wp2
  exact bodyPost_ret (v := .tuple #[.agg #[.bool false, .int .u64 0, .int .u64 0, .int .u64 0, .int .u64 0], .bool false]) (by simp [results, Tryz.results145, go_sem]) rfl ⟨rfl, ext_auto⟩
end Go.Proofs.YtmopgcbhmkemjaaGreatDoor

namespace Go.Proofs.YtmopgcbhmkemjaaGreatDoor
open Go Go.RowKit
set_option linter.unusedSimpArgs false
set_option linter.unusedVariables false
set_option maxRecDepth 100000
set_option exponentiation.threshold 3000

set_option maxHeartbeats 4000000 in
theorem bRight (s : Bool) (m : Nat) (hm : m < B4) (w : World) :
    Calls Tryz.prog 70 #[intV s m] w fun e w' => e = .returned (.bool (!(badI s m))) ∧ Ext w w' := by
  have h0 := B4_pos
  cases s with
  | false =>
    rw [show (!(badI false m)) = true from rfl]
    go_enter Tryz.func70, Tryz.ntmps70
    go_wp2
    exact bodyPost_ret (v := .bool true) (by simp [results, Tryz.results70, go_sem]) rfl ⟨rfl, ext_auto⟩
  | true =>
    rw [show badI true m = decide (m = 0) by simp [badI]]
    have he := fun w => run_eq_mag23z m hm w
    generalize decide (m = 0) = z at *
    go_enter Tryz.func70, Tryz.ntmps70
    go_wp2
    exact bodyPost_ret (v := .bool (!z)) (by simp [results, Tryz.results70, go_sem]) rfl ⟨rfl, ext_auto⟩
theorem digit_of (m i k : Nat) (hk : k < 4) : wn m i / 65536 ^ k % 65536 = wnD m (4 * i + k) := by
  unfold wn wnD
  have e : D ^ (4 * i + k) = B ^ i * 65536 ^ k := by rw [← D4, ← Nat.pow_mul, Nat.pow_add, D_eq]
  have e2 : B = 65536 ^ k * 65536 ^ (4 - k) := by rw [← D4, D_eq, ← Nat.pow_add]; congr 1; omega
  rw [e, ← Nat.div_div_eq_div_mul]
  generalize m / B ^ i = x
  rw [D_eq]
  conv => lhs; rw [e2]
  rw [Nat.mod_mul_right_div_self]
  have h3 : (65536 : Nat) ^ (4 - k) = 65536 * 65536 ^ (3 - k) := by rw [Nat.mul_comm, ← Nat.pow_succ]; congr 1; omega
  rw [h3, Nat.mod_mul_right_mod]
set_option maxHeartbeats 4000000 in
theorem bFrom (s : Bool) (m : Nat) (hm : m < B4) (w : World) :
    Calls Tryz.prog 71 #[intV s m] w (RetB (fun W r => BigV W r (sv s m)) w) := by
  obtain ⟨i0, hi, hz0, hz1, hz2⟩ := info_parts info_i64
  have HM : Hid (m < 65536 ^ 16) := Lib.hid (by rw [← B4_D]; exact hm)
  clear hm
  go_enter Tryz.func71, Tryz.ntmps71
  go_wp2
  go_loopw [3, 4, 5] (fun out iv kv wr => ∃ i : Nat, i ≤ 4 ∧ iv = .int .i64 (i : Int) ∧ wr.ownsRow (w.heap.size + 1 + 1) 2 1 out (4 * i) ((dlist m (4 * i)).map i64) ∧ Below w.heap.size w wr ∧ Blk wr w.heap.size (ints1 s m) 27 ∧ Blk wr (w.heap.size + 1) #[.bool false, .slice none 0 0] 42) (fun _ iv _ _ => 4 - (intOf iv).toNat)
  case atStart => exact ⟨0, by omega, rfl, World.ownsRow_nil _ _ _ _, Below.alloc (Below.alloc (Below.refl _ w) (Nat.le_refl _) _) (by simp) _, (Blk.new _ _ _ rfl).alloc _, Blk.new _ _ _ (by simp)⟩
  case round =>
    obtain ⟨i, hi4, rfl, hown, hnx, BA, BO⟩ := hrel
    by_cases hlt : i < 4
    · have hi4' : (i : Int) < 4 := by omega
      go_wp2
      go_loopw [3, 5] (fun out kv wr => ∃ k : Nat, k ≤ 4 ∧ kv = .int .i64 (k : Int) ∧ wr.ownsRow (w.heap.size + 1 + 1) 2 1 out (4 * i + k) ((dlist m (4 * i + k)).map i64) ∧ Below w.heap.size w wr ∧ Blk wr w.heap.size (ints1 s m) 27 ∧ Blk wr (w.heap.size + 1) #[.bool false, .slice none 0 0] 42) (fun _ kv _ => 4 - (intOf kv).toNat)
      case atStart => exact ⟨0, by omega, rfl, hown, hnx, BA, BO⟩
      case round =>
        clear hown hnx BA BO
        obtain ⟨k, hk4, rfl, hown, hnx, BA, BO⟩ := hrel
        by_cases hk : k < 4
        · have hcell : wr.cell? ⟨w.heap.size, 1 + i, none⟩ = some (q64 (wn m i)) := by
            rw [BA.cell]
            rcases (by omega : i = 0 ∨ i = 1 ∨ i = 2 ∨ i = 3) with rfl | rfl | rfl | rfl <;> rfl
          have lBA := BA.lt
          have hv : wrap64 ((((wn m i : Nat) : Int) / 2 ^ (16 * k)).tmod 65536) = ((wnD m (4 * i + k) : Nat) : Int) := by
            have hd := wn_ltD m (4 * i + k)
            rw [D_eq] at hd
            have e1 : (((wn m i : Nat) : Int) / 2 ^ (16 * k)) = ((wn m i / 65536 ^ k : Nat) : Int) := by
              rw [show (2 : Int) ^ (16 * k) = ((65536 ^ k : Nat) : Int) by rw [Int.pow_mul, Int.natCast_pow]; rfl, Int.natCast_ediv]
            have hq := digit_of m i k hk
            rw [e1]
            generalize wn m i / 65536 ^ k = q at *
            rw [Int.tmod_eq_emod_of_nonneg (Int.natCast_nonneg _)]
            unfold wrap64; omega
          have HDS := Lib.hid (dlist_succ m (4 * i + k))
          have hlb := hown.lt
          have hbs : w.heap.size + 1 + 1 ≤ wr.heap.size := by have := BO.lt; omega
          go_wp2_with (at_builtin; refine wpList_append_own _ rfl (.tmp 14) (.tmp 25) 40 rfl (w.heap.size + 1 + 1) 2 i0 (.int .i64 0) 1 8 Tryz.underlying40 hi hz0 hz1 hz2 rfl (by decide) _ _ _ rfl (hown.alloc _) ⟨wr.heap.size, 0, none⟩ 1 1 [i64 (wnD m (4 * i + k))] rfl rfl ?c1 ?c2 ?c3 ?c4 ?c5 ?_)
          case c1 =>
            intro t u h
            rcases t with _ | t
            · cases h; simp [go_sem]
            · cases h
          case c2 => intro u h; simp at h; subst h; rfl
          case c3 => unfold maxLen; omega
          case c4 => omega
          case c5 => simp; omega
          intro v' w1 hown1 hgrow1 _
          go_wp2
          go_roundw
          case rel =>
            refine ⟨k + 1, by omega, by go_num, ?_, (hnx.alloc hnx.size _).grown hgrow1 (by simp; have := hnx.size; omega) (fun b hb => by have := hlb b hb; omega), (BA.alloc _).grown hgrow1 (fun hb => by have := hlb _ hb.symm; omega), (BO.alloc _).grown hgrow1 (fun hb => by have := hlb _ hb.symm; omega)⟩
            rw [← Nat.add_assoc, HDS.out, List.map_append]; exact hown1
          case measure => simp [intOf]; omega
        · obtain rfl : k = 4 := by omega
          go_wp2
          go_roundw
          case rel => exact ⟨i + 1, by omega, by go_num, hown, hnx, BA, BO⟩
          case measure => simp [intOf]; omega
    · obtain rfl : i = 4 := by omega
      have hfin := fun W (hx : Ext wr W) => of_ret s u3 (dlist m 16) (by rw [dlist_len]; omega) (dlist_digs _ _) W ((SlC.owned hown (by rw [dlist_len])).ext hx)
      rw [dlist_dval, Nat.mod_eq_of_lt HM.out] at hfin
      have hx : Ext w wr := Ext.of_below hnx
      have lBA := BA.lt; have cBA := BA.cell; have fBA := BA.frozen; have lBO := BO.lt; have cBO := BO.cell; have fBO := BO.frozen
      clear hown
      go_wp2_with (go_at_call 88; refine (hfin _ (Ext.refl _)).mono ?_; rintro e y1 ⟨r1, rfl, hr1, hx1⟩; obtain ⟨tr, ar, nr, cr, rfl, er, ks⟩ := hr1.opened; have hxn : Ext w y1 := hx.trans hx1; have BOn := BO.ext hx1; have lBOn := BOn.lt; have cBOn := BOn.cell; have fBOn := BOn.frozen)
      refine bp_rebase fun u hu => ?_; have hy : Ext w u := (by rw [hu]; exact ext_auto); have hsl := (ks.set (k := (w.heap.size + 1)) (j := 0) (x := .bool tr) BOn (by decide)).set (k := (w.heap.size + 1)) (j := 1) (x := .slice ar nr cr) BOn.setSame (by decide); rw [← hu] at hsl; have BF : Blk u (w.heap.size + 1) #[.bool tr, .slice ar nr cr] 42 := (by rw [hu]; exact blk_auto); clear hu; have lBF := BF.lt; have cBF := BF.cell; have fBF := BF.frozen; clear BF; exact bodyPost_ret (v := .agg #[.bool tr, .slice ar nr cr]) (by simp [results, Tryz.results71, go_sem, cBF]) rfl ⟨_, rfl, BigV.shut er hsl, hy⟩
end Go.Proofs.YtmopgcbhmkemjaaGreatDoor

namespace Go.Proofs.YtmopgcbhmkemjaaGreatDoor
open Go Go.RowKit
set_option linter.unusedSimpArgs false
set_option linter.unusedVariables false
set_option maxRecDepth 100000

def RetQ (x y : Int) (w : World) (e : Ending) (w' : World) : Prop := ∃ v1 v2, e = .returned (.tuple #[v1, v2]) ∧ BigV w' v1 (x.tdiv y) ∧ BigV w' v2 (x.tmod y) ∧ Ext w w'
theorem int_cases (x : Int) : (x = (x.natAbs : Int) ∧ decide (x < 0) = false) ∨ (x = -(x.natAbs : Int) ∧ decide (x < 0) = true) := by
  by_cases h : x < 0
  · exact .inr ⟨by omega, by simp [h]⟩
  · exact .inl ⟨by omega, by simp [h]⟩
theorem tdiv_nat (m n : Nat) : (m : Int).tdiv (n : Int) = ((m / n : Nat) : Int) := rfl
theorem tmod_nat (m n : Nat) : (m : Int).tmod (n : Int) = ((m % n : Nat) : Int) := rfl
theorem tdiv_sv (x y : Int) : x.tdiv y = sv (!(decide (x < 0) == decide (y < 0))) (x.natAbs / y.natAbs) := by
  rcases int_cases x with ⟨e1, d1⟩ | ⟨e1, d1⟩ <;> rcases int_cases y with ⟨e2, d2⟩ | ⟨e2, d2⟩ <;> rw [d1, d2] <;> conv => lhs; rw [e1, e2]
  · rw [tdiv_nat]; rfl
  · rw [Int.tdiv_neg, tdiv_nat]; rfl
  · rw [Int.neg_tdiv, tdiv_nat]; rfl
  · rw [Int.tdiv_neg, Int.neg_tdiv, tdiv_nat, Int.neg_neg]; rfl
theorem tmod_sv (x y : Int) : x.tmod y = sv (decide (x < 0)) (x.natAbs % y.natAbs) := by
  rcases int_cases x with ⟨e1, d1⟩ | ⟨e1, d1⟩ <;> rcases int_cases y with ⟨e2, d2⟩ | ⟨e2, d2⟩ <;> rw [d1] <;> conv => lhs; rw [e1, e2]
  · rw [tmod_nat]; rfl
  · rw [Int.tmod_neg, tmod_nat]; rfl
  · rw [Int.neg_tmod, tmod_nat]; rfl
  · rw [Int.tmod_neg, Int.neg_tmod, tmod_nat]; rfl
set_option maxHeartbeats 8000000 in
theorem bQuo_short (x y : Int) (v1 v2 : Value) (hx : (dg x.natAbs).length ≤ 3) (hy : (dg y.natAbs).length ≤ 3) (h0 : y ≠ 0) (w : World) (h1 : BigV w v1 x) (h2 : BigV w v2 y) :
    Calls Tryz.prog 87 #[v1, v2] w (RetQ x y w) := by
  obtain ⟨t1, a1, n1, c1, rfl, e1, k1⟩ := h1.opened
  obtain ⟨t2, a2, n2, c2, rfl, e2, k2⟩ := h2.opened
  have HQ1 := Lib.hid (tdiv_sv x y)
  have HQ2 := Lib.hid (tmod_sv x y)
  rw [← e1.out.1, ← e2.out.1] at HQ1
  rw [← e1.out.1] at HQ2
  have l1 : n1 ≤ 3 := by rw [e1.out.2]; exact hx
  have l2 : n2 ≤ 3 := by rw [e2.out.2]; exact hy
  have hm := (dg_len_le x.natAbs 3).1 hx
  have hn := (dg_len_le y.natAbs 3).1 hy
  have hn0 : y.natAbs ≠ 0 := by omega
  have w1 := fun w h => word_dg x.natAbs (.slice a1 n1 c1) hx w h
  have w2 := fun w h => word_dg y.natAbs (.slice a2 n2 c2) hy w h
  unfold RetQ
  rw [HQ1.out, HQ2.out]
  clear HQ1 HQ2 h1 h2 hx hy h0 e1 e2
  generalize x.natAbs = m at *
  generalize y.natAbs = n at *
  have hq : m / n < 281474976710656 := Nat.lt_of_le_of_lt (Nat.div_le_self _ _) (by omega)
  have hr : m % n < 281474976710656 := Nat.lt_of_le_of_lt (Nat.mod_le _ _) (by omega)
  have hd1 : IntKind.i64.wrap ((m : Int) / (n : Int)) = ((m / n : Nat) : Int) := by
    rw [← Int.natCast_ediv]; generalize m / n = z at *; exact wrap_i64_in _ (by omega) (by omega)
  have hd2 : ((m : Int)) % (n : Int) = ((m % n : Nat) : Int) := by omega
  have hd3 : ((m : Int)).tmod (n : Int) = ((m % n : Nat) : Int) := rfl
  have lq : (dg (m / n)).length ≤ 1000000 := Nat.le_trans ((dg_len_le (m / n) 3).2 hq) (by omega)
  have lr : (dg (m % n)).length ≤ 1000000 := Nat.le_trans ((dg_len_le (m % n) 3).2 hr) (by omega)
  generalize m / n = q at *
  generalize m % n = r at *
  have NQ := fun w => Num_pos q (by omega) w
  have NR := fun w => Num_pos r (by omega) w
  have OQ := fun w a n' c h => of_ret (!(t1 == t2)) (.slice a n' c) (dg q) lq (digs_dg _) w h
  have OR := fun w a n' c h => of_ret t1 (.slice a n' c) (dg r) lr (digs_dg _) w h
  simp only [dval_dg] at OQ OR
  clear hq hr hm hn lq lr
  have hfld : ∀ (s : Bool) (a : Option Addr) (n c : Nat) (w : World), (Instr.field 42 (.agg #[.bool s, .slice a n c]) 1).run Tryz.prog w = .ok (.slice a n c) w := fun _ _ _ _ _ => by kernel_rfl
  go_enter Tryz.func87, Tryz.ntmps87
  go_wp2
  refine wp_rebase fun v hv => ?_
  have hx : Ext w v := by rw [hv]; exact ext_auto
  have BA : Blk v w.heap.size #[.bool t1, .slice a1 n1 c1] 42 := by rw [hv]; exact blk_auto
  have BB : Blk v (w.heap.size + 1) #[.bool t2, .slice a2 n2 c2] 42 := by rw [hv]; exact blk_auto
  have BO : Blk v (w.heap.size + 1 + 1) #[.bool false, .slice none 0 0] 42 := by rw [hv]; exact blk_auto
  have BP : Blk v (w.heap.size + 1 + 1 + 1) #[.bool false, .slice none 0 0] 42 := by rw [hv]; exact blk_auto
  clear hv
  have lBA := BA.lt; have cBA := BA.cell; have fBA := BA.frozen; have lBB := BB.lt; have cBB := BB.cell; have fBB := BB.frozen; have lBO := BO.lt; have cBO := BO.cell; have fBO := BO.frozen; have lBP := BP.lt; have cBP := BP.cell; have fBP := BP.frozen
  have u1 : ∀ d, Calls Tryz.prog 117 #[.slice a1 n1 c1] (grow v d) fun e w' => e = .returned (i64 m) ∧ Ext (grow v d) w' := fun d => (w1 _ (k1.ext (hx.grow d))).mono fun e w' ⟨he, hw⟩ => ⟨he, by subst hw; exact Ext.refl _⟩
  have u2 : ∀ d, Calls Tryz.prog 117 #[.slice a2 n2 c2] (grow v d) fun e w' => e = .returned (i64 n) ∧ Ext (grow v d) w' := fun d => (w2 _ (k2.ext (hx.grow d))).mono fun e w' ⟨he, hw⟩ => ⟨he, by subst hw; exact Ext.refl _⟩
  (first | refine wp_region_k' [.p, .r, .r, .p, .r, .r, .p, .p] (by kernel_rfl) (by kernel_rfl) ?_ | refine wp_region_k [.p, .r, .r, .p, .r, .r, .p, .p] (by kernel_rfl) (by kernel_rfl) ?_); (repeat (first | (refine wpK_p rfl (fun K hK => ?_); go_simp; refine hK _ _ ?_; clear hK K) | (refine wpK_r rfl (fun K hK => ?_); go_simp; refine hK _ _ ?_; clear hK K) | (refine wpK_w rfl (fun K hK => ?_); go_simp; refine hK _ _ ?_; clear hK K) | (refine wpK_r rfl (fun K hK => ?_); go_simp; apply Exists.intro; refine ⟨fun d => ?_, hK _ _ ?_⟩; (first | (with_reducible exact Calls.calm (u1 _)) | (with_reducible exact Calls.calm (u2 _))); clear hK K))); refine wpK_nil ?_; intro d
  go_wp2
  refine wp_rebase fun v' hv => ?_
  have hx' : Ext v v' := by rw [hv]; exact ext_auto
  clear hv
  replace hx := hx.trans hx'
  replace BA := BA.ext hx'
  replace BB := BB.ext hx'
  replace BO := BO.ext hx'
  replace BP := BP.ext hx'
  clear u1 u2 w1 w2 lBA cBA fBA lBB cBB fBB lBO cBO fBO lBP cBP fBP hx'
  clear v
  obtain ⟨v, rfl⟩ : ∃ v, v = v' := ⟨_, rfl⟩
  have lBA := BA.lt; have cBA := BA.cell; have fBA := BA.frozen; have lBB := BB.lt; have cBB := BB.cell; have fBB := BB.frozen; have lBO := BO.lt; have cBO := BO.cell; have fBO := BO.frozen; have lBP := BP.lt; have cBP := BP.cell; have fBP := BP.frozen
  have hnz : ((n : Int) == 0) = false := by simp; exact hn0
  (first | refine wp_region_h' 19 [0, 1, 2, 3, 4, 5, 6, 7, 11, 12, 13, 14, 15] [8, 9, 10, 16, 17, 18] (by kernel_rfl) (by kernel_rfl) ?_ | refine wp_region_h 19 [0, 1, 2, 3, 4, 5, 6, 7, 11, 12, 13, 14, 15] [8, 9, 10, 16, 17, 18] (by kernel_rfl) (by kernel_rfl) ?_); simp only [List.map_cons, List.map_nil, List.getD_cons_succ, List.getD_cons_zero]; (repeat (refine wpHL_l (fun K hK => ?_); go_simp; refine hK _ ?_; clear hK K)); refine wpHL_nil ?_; intro d0; have hx0 : Ext v (grow v d0) := ⟨d0, rfl⟩; generalize grow v d0 = y0 at *; (refine wpT_c (fun K hK => ?_); go_simp; refine ⟨_, _, ⟨rfl, rfl⟩, ?_⟩; (with_reducible refine (NQ _).mono ?_); rintro e y1 ⟨r1, rfl, hr1, hz1⟩; have hx1 : Ext v y1 := hx0.trans hz1; obtain ⟨s1, a1, n1, c1, rfl, e1, k1⟩ := hr1.opened; refine ⟨_, rfl, hx1, hK _ _ ?_⟩; clear hK K); (refine wpT_v (fun K hK => ?_); go_simp; refine hK _ _ ?_; clear hK K); (refine wpT_c (fun K hK => ?_); go_simp; refine ⟨_, _, ⟨rfl, rfl⟩, ?_⟩; (with_reducible refine (OQ _ _ _ _ k1).mono ?_); rintro e y2 ⟨r2, rfl, hr2, hz2⟩; have hx2 : Ext v y2 := hx1.trans hz2; refine ⟨_, rfl, hx2, hK _ _ ?_⟩; clear hK K); (refine wpT_c (fun K hK => ?_); go_simp; refine ⟨_, _, ⟨rfl, rfl⟩, ?_⟩; (with_reducible refine (NR _).mono ?_); rintro e y3 ⟨r3, rfl, hr3, hz3⟩; have hx3 : Ext v y3 := hx2.trans hz3; obtain ⟨s3, a3, n3, c3, rfl, e3, k3⟩ := hr3.opened; refine ⟨_, rfl, hx3, hK _ _ ?_⟩; clear hK K); (refine wpT_v (fun K hK => ?_); go_simp; refine hK _ _ ?_; clear hK K); (refine wpT_c (fun K hK => ?_); go_simp; refine ⟨_, _, ⟨rfl, rfl⟩, ?_⟩; (with_reducible refine (OR _ _ _ _ k3).mono ?_); rintro e y4 ⟨r4, rfl, hr4, hz4⟩; have hx4 : Ext v y4 := hx3.trans hz4; refine ⟨_, rfl, hx4, hK _ _ ?_⟩; clear hK K); refine wpT_nil ?_; simp only [List.drop_succ_cons, List.drop_zero]
  obtain ⟨sa, aa, na, ca, rfl, ea, ka⟩ := (hr2.ext (hz3.trans hz4)).opened
  obtain ⟨sb, ab, nb, cb, rfl, eb, kb⟩ := hr4.opened
  have BO4 := BO.ext hx4
  have BP4 := BP.ext hx4
  have hxn : Ext w y4 := hx.trans hx4
  have lBO4 := BO4.lt; have cBO4 := BO4.cell; have fBO4 := BO4.frozen; have lBP4 := BP4.lt; have cBP4 := BP4.cell; have fBP4 := BP4.frozen
  go_wp2
  refine bp_rebase fun u hu => ?_
  have hy : Ext w u := by rw [hu]; exact ext_auto
  have BF : Blk u (w.heap.size + 1 + 1) #[.bool sa, .slice aa na ca] 42 := by rw [hu]; exact blk_auto
  have BG : Blk u (w.heap.size + 1 + 1 + 1) #[.bool sb, .slice ab nb cb] 42 := by rw [hu]; exact blk_auto
  have BP5 : Blk ((y4.setCell ⟨w.heap.size + 1 + 1, 0, none⟩ (.bool sa)).setCell ⟨w.heap.size + 1 + 1, 1, none⟩ (.slice aa na ca)) (w.heap.size + 1 + 1 + 1) _ _ := (BP4.setOther (by omega)).setOther (by omega)
  have hsa := (((ka.set (j := 0) (x := .bool sa) BO4 (by decide)).set (j := 1) (x := .slice aa na ca) BO4.setSame (by decide)).set (j := 0) (x := .bool sb) BP5 (by decide)).set (j := 1) (x := .slice ab nb cb) BP5.setSame (by decide)
  have hsb := (((kb.set (j := 0) (x := .bool sa) BO4 (by decide)).set (j := 1) (x := .slice aa na ca) BO4.setSame (by decide)).set (j := 0) (x := .bool sb) BP5 (by decide)).set (j := 1) (x := .slice ab nb cb) BP5.setSame (by decide)
  rw [← hu] at hsa hsb
  clear hu
  have lBF := BF.lt; have cBF := BF.cell; have fBF := BF.frozen; have lBG := BG.lt; have cBG := BG.cell; have fBG := BG.frozen; clear BF BG
  exact bodyPost_ret (v := .tuple #[.agg #[.bool sa, .slice aa na ca], .agg #[.bool sb, .slice ab nb cb]]) (by simp [results, Tryz.results87, go_sem, cBF, cBG]) rfl ⟨_, _, rfl, BigV.shut ea hsa, BigV.shut eb hsb, hy⟩
end Go.Proofs.YtmopgcbhmkemjaaGreatDoor
