/-
  Part 1 of the joined texts of the curves' laws: The logic of partial frames and heaps: a walk that names only the slots and blocks that matter.
  Conditions: those that each theorem states.
-/
import Derived.Orders
import Derived.Tactics
import Derived.Below
import Derived.KernelRfl
import Derived.Laws.CopyRow
import Derived.Laws.AppendOwn
import Derived.Laws.Cells
import Derived.StillTail
import Derived.Carry
import Derived.IntWalk
/- The logic of partial frames and heaps: a walk that names only the slots and blocks that matter. -/
namespace Go.Vm
open Go Go.RowKit

abbrev Fr := List (Nat × Value)
abbrev Hp := List (Nat × Obj)

def look : Fr → Nat → Option Value
  | [], _ => none
  | (s, v) :: r, t => match Nat.beq s t with | true => some v | false => look r t

theorem look_eq {s t : Nat} {v : Value} {r : Fr} : look ((s, v) :: r) t = if s = t then some v else look r t := by
  simp only [look]
  by_cases h : s = t
  · subst h; simp
  · have : Nat.beq s t = false := by cases hb : Nat.beq s t with | false => rfl | true => exact absurd (Nat.eq_of_beq_eq_true hb) h
    simp [this, h]

def ev (F : Fr) : Operand → Option Value
  | .tmp t => look F t
  | .const v => some v
  | .global g => some (.pointer (some ⟨g, 0, none⟩))
  | .func f => some (.func (.func f) #[] #[])

def Slots (F : Fr) (a : Act) : Prop := ∀ t v, look F t = some v → a.tmps[t]? = some v
def Blocks (H : Hp) (w : World) : Prop := ∀ p ∈ H, w.heap[p.1]? = some p.2

theorem Slots.ev {F : Fr} {a : Act} (h : Slots F a) {x : Operand} {v : Value} (hv : ev F x = some v) : a.eval x = v := by
  cases x with
  | tmp t => have := h t v hv; simp [Act.eval, this]
  | const u => simpa [Vm.ev, Act.eval] using hv
  | global g => simpa [Vm.ev, Act.eval] using hv
  | func f => simpa [Vm.ev, Act.eval] using hv

def Sub : Fr → Fr → Prop
  | [], _ => True
  | (s, v) :: r, F => look F s = some v ∧ Sub r F

theorem Sub.look {F' F : Fr} (h : Sub F' F) : ∀ t v, look F' t = some v → look F t = some v := by
  induction F' with
  | nil => intro t v ht; cases ht
  | cons p r ih =>
    obtain ⟨s, u⟩ := p
    obtain ⟨h1, h2⟩ := h
    intro t v ht
    rw [look_eq] at ht
    by_cases hs : s = t
    · subst hs; simp at ht; subst ht; exact h1
    · simp [hs] at ht; exact ih h2 t v ht

section
variable {P : Program} {n : Nat} {K : List Nat} {G : Hp} {w0 : World}

structure Old (K : List Nat) (G : Hp) (w0 w : World) : Prop where
  os : w.os = w0.os
  tape : w.tape = w0.tape
  output : w.output = w0.output
  size : w0.heap.size ≤ w.heap.size
  old : ∀ i, i < w0.heap.size → i ∉ K → w.heap[i]? = w0.heap[i]?
  ro : ∀ p ∈ G, w0.heap[p.1]? = some p.2 ∧ p.1 ∉ K

structure Rep (n : Nat) (K : List Nat) (G : Hp) (w0 : World) (F : Fr) (H : Hp) (a : Act) (w : World) : Prop where
  size : a.tmps.size = n
  defers : a.defers = []
  slots : Slots F a
  blocks : Blocks H w
  nodup : (H.map (·.1)).Nodup
  mine : ∀ p ∈ H, p.1 ∈ K ∨ w0.heap.size ≤ p.1
  old : Old K G w0 w

theorem lt_of_some {w : World} {b : Nat} {o : Obj} (h : w.heap[b]? = some o) : b < w.heap.size := (Array.getElem?_eq_some_iff.1 h).1

theorem Old.below {w w' : World} (h : Old K G w0 w) (hb : Below w.heap.size w w') : Old K G w0 w' :=
  ⟨hb.os.trans h.os, hb.tape.trans h.tape, hb.output.trans h.output, Nat.le_trans h.size hb.size,
   fun i hi hk => (hb.block i (Nat.lt_of_lt_of_le hi h.size)).trans (h.old i hi hk), h.ro⟩

theorem Old.look {w : World} (h : Old K G w0 w) {p : Nat × Obj} (hp : p ∈ G) : w.heap[p.1]? = some p.2 := by
  obtain ⟨h1, h2⟩ := h.ro p hp
  rw [h.old p.1 (lt_of_some h1) h2]; exact h1

theorem Blocks.below {H : Hp} {w w' : World} (h : Blocks H w) (hb : Below w.heap.size w w') : Blocks H w' :=
  fun p hp => (hb.block p.1 (lt_of_some (h p hp))).trans (h p hp)

theorem Slots.put {F : Fr} {a : Act} (h : Slots F a) {d : Nat} {v : Value} (hd : d < a.tmps.size) : Slots ((d, v) :: F) (a.put (some d) v) := by
  intro t u ht
  rw [look_eq] at ht
  simp only [Act.put, Array.getElem?_setIfInBounds]
  by_cases hs : d = t
  · subst hs; simp at ht; subst ht; simp [hd]
  · simp [hs] at ht ⊢; exact h t u ht

theorem Slots.sub {F F' : Fr} {a : Act} (h : Slots F a) (hs : Sub F' F) : Slots F' a := fun t v ht => h t v (hs.look t v ht)

theorem Rep.det {F : Fr} {H : Hp} {a : Act} {w w' : World} {d : Nat} {v : Value} (r : Rep n K G w0 F H a w) (hd : d < n) (hb : Below w.heap.size w w') :
    Rep n K G w0 ((d, v) :: F) H (a.put (some d) v) w' :=
  ⟨by simp [Act.put, r.size], by simp [Act.put, r.defers], r.slots.put (by rw [r.size]; exact hd), r.blocks.below hb, r.nodup, r.mine, r.old.below hb⟩

theorem Rep.put {F : Fr} {H : Hp} {a : Act} {w : World} {d : Nat} {v : Value} (r : Rep n K G w0 F H a w) (hd : d < n) :
    Rep n K G w0 ((d, v) :: F) H (a.put (some d) v) w := r.det hd (Below.refl _ _)

theorem below_alloc (w : World) (o : Obj) : Below w.heap.size w (w.alloc o) := (Below.refl _ _).alloc (Nat.le_refl _) o

theorem Rep.fresh {F : Fr} {H : Hp} {a : Act} {w : World} {d : Nat} {v : Value} {o : Obj} (r : Rep n K G w0 F H a w) (hd : d < n) :
    Rep n K G w0 ((d, v) :: F) ((w.heap.size, o) :: H) (a.put (some d) v) (w.alloc o) := by
  have hb := below_alloc w o
  have h := r.det (d := d) (v := v) hd hb
  refine ⟨h.size, h.defers, h.slots, ?_, ?_, ?_, h.old⟩
  · intro p hp
    rcases List.mem_cons.1 hp with rfl | hp
    · show (w.heap.push o)[w.heap.size]? = some o
      simp
    · exact h.blocks p hp
  · simp only [List.map_cons, List.nodup_cons]
    refine ⟨fun hm => ?_, r.nodup⟩
    obtain ⟨p, hp, he⟩ := List.mem_map.1 hm
    have := lt_of_some (r.blocks p hp)
    have he : p.1 = w.heap.size := he
    omega
  · intro p hp
    rcases List.mem_cons.1 hp with rfl | hp
    · exact Or.inr r.old.size
    · exact r.mine p hp

/-- An update of the block b in a heap. -/
inductive Upd : Hp → Nat → Obj → Obj → Hp → Prop
  | here {H : Hp} {b : Nat} {o o' : Obj} : Upd ((b, o) :: H) b o o' ((b, o') :: H)
  | there {H H' : Hp} {b : Nat} {o o' : Obj} {p : Nat × Obj} (h : Upd H b o o' H') : Upd (p :: H) b o o' (p :: H')

theorem Upd.mem {H H' : Hp} {b : Nat} {o o' : Obj} (h : Upd H b o o' H') : (b, o) ∈ H := by
  induction h with
  | here => exact List.mem_cons_self
  | there _ ih => exact List.mem_cons_of_mem _ ih
theorem Upd.keys {H H' : Hp} {b : Nat} {o o' : Obj} (h : Upd H b o o' H') : H'.map (·.1) = H.map (·.1) := by
  induction h with
  | here => rfl
  | there _ ih => simp [ih]
theorem Upd.mem' {H H' : Hp} {b : Nat} {o o' : Obj} (h : Upd H b o o' H') {p : Nat × Obj} (hp : p ∈ H') (hn : (H.map (·.1)).Nodup) : p = (b, o') ∨ (p ∈ H ∧ p.1 ≠ b) := by
  induction h with
  | here =>
    rcases List.mem_cons.1 hp with rfl | hp
    · exact .inl rfl
    · refine .inr ⟨List.mem_cons_of_mem _ hp, fun e => ?_⟩
      simp only [List.map_cons, List.nodup_cons] at hn
      exact hn.1 (List.mem_map.2 ⟨p, hp, e⟩)
  | there h' ih =>
    simp only [List.map_cons, List.nodup_cons] at hn
    rcases List.mem_cons.1 hp with rfl | hp
    · refine .inr ⟨List.mem_cons_self, fun e => ?_⟩
      exact hn.1 (List.mem_map.2 ⟨_, h'.mem, e.symm⟩)
    · rcases ih hp hn.2 with h1 | ⟨h1, h2⟩
      · exact .inl h1
      · exact .inr ⟨List.mem_cons_of_mem _ h1, h2⟩

/-- World w' is w but for block b, which holds o' now. -/
structure Wrote (w w' : World) (b : Nat) (o' : Obj) : Prop where
  os : w'.os = w.os
  tape : w'.tape = w.tape
  output : w'.output = w.output
  size : w'.heap.size = w.heap.size
  at_ : w'.heap[b]? = some o'
  other : ∀ i, i ≠ b → w'.heap[i]? = w.heap[i]?

theorem Rep.wrote {F : Fr} {H H' : Hp} {a : Act} {w w' : World} {b : Nat} {o o' : Obj} (r : Rep n K G w0 F H a w) (hu : Upd H b o o' H') (hw : Wrote w w' b o') :
    Rep n K G w0 F H' a w' := by
  refine ⟨r.size, r.defers, r.slots, ?_, by rw [hu.keys]; exact r.nodup, ?_, ?_⟩
  · intro p hp
    rcases hu.mem' hp r.nodup with rfl | ⟨h1, h2⟩
    · exact hw.at_
    · rw [hw.other _ h2]; exact r.blocks p h1
  · intro p hp
    rcases hu.mem' hp r.nodup with rfl | ⟨h1, h2⟩
    · exact r.mine (b, o) hu.mem
    · exact r.mine p h1
  · refine ⟨hw.os.trans r.old.os, hw.tape.trans r.old.tape, hw.output.trans r.old.output, by rw [hw.size]; exact r.old.size, ?_, r.old.ro⟩
    intro i hi hk
    have : i ≠ b := by
      rintro rfl
      rcases r.mine _ hu.mem with h | h
      · exact hk h
      · exact absurd hi (Nat.not_lt.2 h)
    rw [hw.other i this]; exact r.old.old i hi hk

/-! ### Code -/

def W (P : Program) (n : Nat) (K : List Nat) (G : Hp) (w0 : World) (c : Code) (Q : Exit → Fr → Hp → Prop) (F : Fr) (H : Hp) : Prop :=
  ∀ a w, Rep n K G w0 F H a w → c.wp P (fun e a' w' => ∃ F' H', Q e F' H' ∧ Rep n K G w0 F' H' a' w') a w

def andThen (P : Program) (n : Nat) (K : List Nat) (G : Hp) (w0 : World) (c : Code) (Q : Exit → Fr → Hp → Prop) : Exit → Fr → Hp → Prop
  | .normal, F, H => W P n K G w0 c Q F H
  | e, F, H => Q e F H

theorem W.mono {c : Code} {Q Q' : Exit → Fr → Hp → Prop} {F : Fr} {H : Hp} (h : W P n K G w0 c Q F H) (hq : ∀ e F H, Q e F H → Q' e F H) : W P n K G w0 c Q' F H :=
  fun a w r => wp_mono (h a w r) fun _ _ _ ⟨F', H', q, r'⟩ => ⟨F', H', hq _ _ _ q, r'⟩

theorem W.seq {x y : Code} {Q : Exit → Fr → Hp → Prop} {F : Fr} {H : Hp} (h : W P n K G w0 x (andThen P n K G w0 y Q) F H) : W P n K G w0 (x.seq y) Q F H := by
  intro a w r
  refine wp_seq (wp_mono (h a w r) ?_)
  rintro e a' w' ⟨F', H', q, r'⟩
  cases e with
  | normal => exact q a' w' r'
  | _ => exact ⟨F', H', q, r'⟩

theorem W.skip {Q : Exit → Fr → Hp → Prop} {F : Fr} {H : Hp} (h : Q .normal F H) : W P n K G w0 .skip Q F H := fun _ _ r => wp_skip ⟨F, H, h, r⟩
theorem W.ret {Q : Exit → Fr → Hp → Prop} {F : Fr} {H : Hp} (h : Q .ret F H) : W P n K G w0 .ret Q F H := fun _ _ r => wp_ret ⟨F, H, h, r⟩
theorem W.exit {id : Nat} {Q : Exit → Fr → Hp → Prop} {F : Fr} {H : Hp} (h : Q (.exit id) F H) : W P n K G w0 (.exit id) Q F H := fun _ _ r => wp_exit ⟨F, H, h, r⟩

def inBlk (id : Nat) (Q : Exit → Fr → Hp → Prop) : Exit → Fr → Hp → Prop
  | .exit id', F, H => match Nat.beq id' id with | true => Q .normal F H | false => Q (.exit id') F H
  | e, F, H => Q e F H

theorem W.block {id : Nat} {c : Code} {Q : Exit → Fr → Hp → Prop} {F : Fr} {H : Hp} (h : W P n K G w0 c (inBlk id Q) F H) : W P n K G w0 (.block id c) Q F H := by
  intro a w r
  refine wp_block (wp_mono (h a w r) ?_)
  rintro e a' w' ⟨F', H', q, r'⟩
  cases e with
  | exit id' =>
    simp only [Exit.inBlock]
    simp only [inBlk] at q
    by_cases hid : id' = id
    · subst hid; simp at q ⊢; exact ⟨F', H', q, r'⟩
    · have : Nat.beq id' id = false := by cases hb : Nat.beq id' id with | false => rfl | true => exact absurd (Nat.eq_of_beq_eq_true hb) hid
      simp [this] at q; simp [hid]; exact ⟨F', H', q, r'⟩
  | _ => exact ⟨F', H', q, r'⟩

theorem W.cond_true {c : Operand} {x y : Code} {Q : Exit → Fr → Hp → Prop} {F : Fr} {H : Hp} (hc : ev F c = some (.bool true)) (h : W P n K G w0 x Q F H) : W P n K G w0 (.cond c x y) Q F H :=
  fun a w r => wp_cond_true (r.slots.ev hc) (h a w r)
theorem W.cond_false {c : Operand} {x y : Code} {Q : Exit → Fr → Hp → Prop} {F : Fr} {H : Hp} (hc : ev F c = some (.bool false)) (h : W P n K G w0 y Q F H) : W P n K G w0 (.cond c x y) Q F H :=
  fun a w r => wp_cond_false (r.slots.ev hc) (h a w r)
theorem W.cond {c : Operand} {x y : Code} {Q : Exit → Fr → Hp → Prop} {F : Fr} {H : Hp} {t : Bool} (hc : ev F c = some (.bool t)) (ht : t = true → W P n K G w0 x Q F H) (hf : t = false → W P n K G w0 y Q F H) : W P n K G w0 (.cond c x y) Q F H :=
  fun a w r => wp_cond_split (r.slots.ev hc) (fun e => ht e a w r) (fun e => hf e a w r)

theorem Rep.less {F : Fr} {H H' : Hp} {a : Act} {w : World} (r : Rep n K G w0 F H a w) (hH : H'.Sublist H) : Rep n K G w0 F H' a w :=
  ⟨r.size, r.defers, r.slots, fun p hp => r.blocks p (hH.subset hp), (hH.map _).nodup r.nodup, fun p hp => r.mine p (hH.subset hp), r.old⟩

theorem Rep.sub {F F' : Fr} {H H' : Hp} {a : Act} {w : World} (r : Rep n K G w0 F H a w) (hF : Sub F' F) (hH : H'.Sublist H) : Rep n K G w0 F' H' a w :=
  ⟨r.size, r.defers, r.slots.sub hF, fun p hp => r.blocks p (hH.subset hp), (hH.map _).nodup r.nodup, fun p hp => r.mine p (hH.subset hp), r.old⟩

theorem Rep.perm {F : Fr} {H H' : Hp} {a : Act} {w : World} (r : Rep n K G w0 F H a w) (hH : H'.Perm H) : Rep n K G w0 F H' a w :=
  ⟨r.size, r.defers, r.slots, fun p hp => r.blocks p (hH.subset hp), ((hH.map _).nodup_iff).2 r.nodup, fun p hp => r.mine p (hH.subset hp), r.old⟩

theorem W.sub {F F' : Fr} {H H' : Hp} {c : Code} {Q : Exit → Fr → Hp → Prop} (hF : Sub F' F) (hH : H'.Sublist H) (h : W P n K G w0 c Q F' H') : W P n K G w0 c Q F H :=
  fun a w r => h a w (r.sub hF hH)
theorem W.keep {F F' : Fr} {H : Hp} {c : Code} {Q : Exit → Fr → Hp → Prop} (hF : Sub F' F) (h : W P n K G w0 c Q F' H) : W P n K G w0 c Q F H :=
  fun a w r => h a w (r.sub hF (List.Sublist.refl _))
theorem W.perm {F : Fr} {H H' : Hp} {c : Code} {Q : Exit → Fr → Hp → Prop} (hH : H'.Perm H) (h : W P n K G w0 c Q F H') : W P n K G w0 c Q F H :=
  fun a w r => h a w (r.perm hH)

/-- What a round of a loop has to show at its end. -/
def roundEnd {σ : Type} (FI : σ → Fr) (HI : σ → Hp) (ok : σ → Prop) (μ : σ → Nat) (s : σ) (Q : Exit → Fr → Hp → Prop) : Exit → Fr → Hp → Prop
  | .normal, F', H' => ∃ s', ok s' ∧ Sub (FI s') F' ∧ (HI s').Sublist H' ∧ μ s' < μ s
  | e, F', H' => Q e F' H'

theorem W.loop {σ : Type} (FI : σ → Fr) (HI : σ → Hp) (ok : σ → Prop) (μ : σ → Nat) {c : Code} {Q : Exit → Fr → Hp → Prop} {F : Fr} {H : Hp} (s0 : σ) (h0 : ok s0)
    (hF : Sub (FI s0) F) (hH : (HI s0).Sublist H) (round : ∀ s, ok s → W P n K G w0 c (roundEnd FI HI ok μ s Q) (FI s) (HI s)) : W P n K G w0 (.loop c) Q F H := by
  intro a w r
  -- the measure rides on the invariant
  let I : Nat → Act → World → Prop := fun m a w => ∃ s, ok s ∧ μ s = m ∧ Rep n K G w0 (FI s) (HI s) a w
  have key : ∀ m a w, I m a w → ∀ (b : Frame) (k : List Item) (cs : List Frame),
      ∃ e a' w', (∃ F' H', Q e F' H' ∧ Rep n K G w0 F' H' a' w') ∧ Arrives P (lone (b.at a (.code c :: .inLoop c :: k)) cs w) b k cs e a' w' := by
    intro m
    induction m using Nat.strongRecOn with
    | _ m ih =>
      rintro a w ⟨s, hs, hm, hr⟩ b k cs
      obtain ⟨e, a₁, w₁, ⟨F', H', hq, hr'⟩, harr⟩ := round s hs a w hr b (.inLoop c :: k) cs
      cases e with
      | normal =>
        obtain ⟨s', hs', hF', hH', hlt⟩ := hq
        obtain ⟨e₂, a₂, w₂, hq₂, harr₂⟩ := ih (μ s') (hm ▸ hlt) a₁ w₁ ⟨s', hs', rfl, hr'.sub hF' hH'⟩ b k cs
        exact ⟨e₂, a₂, w₂, hq₂, .of_steps (Steps.trans harr (.one step_inLoop)) harr₂⟩
      | exit id => exact ⟨_, a₁, w₁, ⟨F', H', hq, hr'⟩, .pass (x := .inLoop c) rfl (fun _ _ => .inl (by simp)) harr⟩
      | goto l => exact ⟨_, a₁, w₁, ⟨F', H', hq, hr'⟩, .pass (x := .inLoop c) rfl (fun _ _ => .inl (by simp)) harr⟩
      | ret => exact ⟨_, a₁, w₁, ⟨F', H', hq, hr'⟩, .pass (x := .inLoop c) rfl (fun _ _ => .inl (by simp)) harr⟩
      | panic ch => exact ⟨_, a₁, w₁, ⟨F', H', hq, hr'⟩, .pass (x := .inLoop c) rfl (fun _ _ => .inl (by simp)) harr⟩
      | outgrown => exact ⟨_, a₁, w₁, ⟨F', H', hq, hr'⟩, .pass (x := .inLoop c) rfl (fun _ _ => .inl (by simp)) harr⟩
  intro b k cs
  obtain ⟨e, a', w', hq, harr⟩ := key _ a w ⟨s0, h0, rfl, r.sub hF hH⟩ b k cs
  exact ⟨e, a', w', hq, .of_steps (.one step_loop) harr⟩

/-! ### Regions in the text's order -/

def OpsW (P : Program) (n : Nat) (K : List Nat) (G : Hp) (w0 : World) (ops : Array Oper) (l : List Oper) (R : Fr → Hp → Prop) (F : Fr) (H : Hp) : Prop :=
  ∀ a w Qx, Rep n K G w0 F H a w → (∀ F' H' a' w', R F' H' → Rep n K G w0 F' H' a' w' → Qx Exit.normal a' w') → wpList P ops Qx l a w

theorem W.region {id : Nat} {l : List Oper} {Q : Exit → Fr → Hp → Prop} {F : Fr} {H : Hp} (h : OpsW P n K G w0 l.toArray l (Q .normal) F H) :
    W P n K G w0 (.region id l.toArray false) Q F H :=
  fun a w r => wp_region_lit (h a w _ r fun F' H' _ _ q r' => ⟨F', H', q, r'⟩)

/-- In every act and world that bear F and H the operation leaves v in its slot, and new blocks at most. -/
def Det (P : Program) (K : List Nat) (G : Hp) (w0 : World) (o : Oper) (F : Fr) (H : Hp) (v : Value) : Prop :=
  ∀ a w, Slots F a → Blocks H w → Old K G w0 w → ∀ (next : Act → World → Prop) (Qx : Exit → Act → World → Prop),
    (∀ w', Below w.heap.size w w' → next (a.put o.dst v) w') → o.wp P a w next Qx

theorem OpsW.nil {ops : Array Oper} {R : Fr → Hp → Prop} {F : Fr} {H : Hp} (h : R F H) : OpsW P n K G w0 ops [] R F H :=
  fun _ _ _ r hq => wpList_nil (hq _ _ _ _ h r)

theorem wpList_any {ops : Array Oper} {Q : Exit → Act → World → Prop} {a : Act} {w : World} {rest : List Oper} {d : Option Tmp} {op : Op} {ty : TypeId} {pos : String} {after : Array Edge}
    (h : Oper.wp P ⟨d, op, ty, pos, after, none⟩ a w (wpList P ops Q rest) Q) : wpList P ops Q (⟨d, op, ty, pos, after, none⟩ :: rest) a w :=
  wpList_plain rfl fun _ hK => Oper.wp_mono hK h

theorem OpsW.det {ops : Array Oper} {rest : List Oper} {d : Nat} {op : Op} {ty : TypeId} {pos : String} {after : Array Edge} {R : Fr → Hp → Prop} {F : Fr} {H : Hp} {v : Value}
    (hdet : Det P K G w0 ⟨some d, op, ty, pos, after, none⟩ F H v) (hd : Nat.blt d n = true) (h : OpsW P n K G w0 ops rest R ((d, v) :: F) H) :
    OpsW P n K G w0 ops (⟨some d, op, ty, pos, after, none⟩ :: rest) R F H :=
  fun a w Qx r hq => wpList_any (hdet a w r.slots r.blocks r.old _ _ fun _ hb => h _ _ _ (r.det (of_decide_eq_true (by simpa using hd)) hb) hq)

/-- The operation makes one new block, and leaves what 'mk' says of its number. -/
def Fresh (P : Program) (K : List Nat) (G : Hp) (w0 : World) (o : Oper) (F : Fr) (mk : Nat → Value) (ob : Obj) : Prop :=
  ∀ a w, Slots F a → Old K G w0 w → (execOp a.eval o).run P w = .ok (.value (mk w.heap.size)) (w.alloc ob)

theorem OpsW.fresh {ops : Array Oper} {rest : List Oper} {d : Nat} {op : Op} {ty : TypeId} {pos : String} {after : Array Edge} {R : Fr → Hp → Prop} {F : Fr} {H : Hp} {mk : Nat → Value} {ob : Obj}
    (hf : Fresh P K G w0 ⟨some d, op, ty, pos, after, none⟩ F mk ob) (hd : Nat.blt d n = true) (h : ∀ b, OpsW P n K G w0 ops rest R ((d, mk b) :: F) ((b, ob) :: H)) :
    OpsW P n K G w0 ops (⟨some d, op, ty, pos, after, none⟩ :: rest) R F H :=
  fun a w Qx r hq => wpList_any (by
    unfold Oper.wp
    rw [hf a w r.slots r.old]
    exact h _ _ _ _ (r.fresh (of_decide_eq_true (by simpa using hd))) hq)

/-- What an operation that makes new blocks leaves: a block's number, a capacity, spare cells. -/
abbrev Prm := Nat × Nat × List Value

/-- The operation leaves 'mk p', and the new blocks 'ob p', for some p that is 'ok'. -/
def New (P : Program) (K : List Nat) (G : Hp) (w0 : World) (o : Oper) (F : Fr) (H : Hp) (mk : Prm → Value) (ob : Prm → Hp) (ok : Prm → Prop) : Prop :=
  ∀ a w, Slots F a → Blocks H w → Old K G w0 w → ∀ (next : Act → World → Prop) (Qx : Exit → Act → World → Prop),
    (∀ p w', ok p → Below w.heap.size w w' → Blocks (ob p) w' → ((ob p).map (·.1)).Nodup → (∀ q ∈ ob p, w.heap.size ≤ q.1) → next (a.put o.dst (mk p)) w') → o.wp P a w next Qx

theorem Rep.new {F : Fr} {H H' : Hp} {a : Act} {w w' : World} {d : Nat} {v : Value} (r : Rep n K G w0 F H a w) (hd : d < n) (hb : Below w.heap.size w w')
    (h1 : Blocks H' w') (h2 : (H'.map (·.1)).Nodup) (h3 : ∀ q ∈ H', w.heap.size ≤ q.1) : Rep n K G w0 ((d, v) :: F) (H' ++ H) (a.put (some d) v) w' := by
  have h := r.det (d := d) (v := v) hd hb
  refine ⟨h.size, h.defers, h.slots, ?_, ?_, ?_, h.old⟩
  · intro p hp
    rcases List.mem_append.1 hp with hp | hp
    · exact h1 p hp
    · exact h.blocks p hp
  · rw [List.map_append, List.nodup_append]
    refine ⟨h2, r.nodup, fun x hx y hy hxy => ?_⟩
    obtain ⟨p, hp, rfl⟩ := List.mem_map.1 hx
    obtain ⟨q, hq, rfl⟩ := List.mem_map.1 hy
    have := lt_of_some (r.blocks q hq)
    have := h3 p hp
    omega
  · intro p hp
    rcases List.mem_append.1 hp with hp | hp
    · exact Or.inr (Nat.le_trans r.old.size (h3 p hp))
    · exact r.mine p hp

theorem OpsW.new {ops : Array Oper} {rest : List Oper} {d : Nat} {op : Op} {ty : TypeId} {pos : String} {after : Array Edge} {R : Fr → Hp → Prop} {F : Fr} {H : Hp} {mk : Prm → Value} {ob : Prm → Hp} {ok : Prm → Prop}
    (hf : New P K G w0 ⟨some d, op, ty, pos, after, none⟩ F H mk ob ok) (hd : Nat.blt d n = true) (h : ∀ p, ok p → OpsW P n K G w0 ops rest R ((d, mk p) :: F) (ob p ++ H)) :
    OpsW P n K G w0 ops (⟨some d, op, ty, pos, after, none⟩ :: rest) R F H :=
  fun a w Qx r hq => wpList_any (hf a w r.slots r.blocks r.old _ _ fun p w' hp hb h1 h2 h3 => h p hp _ _ _ (r.new (of_decide_eq_true (by simpa using hd)) hb h1 h2 h3) hq)

theorem Fresh.new {o : Oper} {F : Fr} {H : Hp} {mk : Nat → Value} {ob : Obj} (h : Fresh P K G w0 o F mk ob) : New P K G w0 o F H (fun p => mk p.1) (fun p => [(p.1, ob)]) (fun _ => True) :=
  fun a w hs _ ho next Qx hn => by
    unfold Oper.wp
    rw [h a w hs ho]
    refine hn (w.heap.size, 0, []) _ trivial (below_alloc w ob) ?_ (by simp) (by simp)
    intro p hp
    simp only [List.mem_singleton] at hp
    subst hp
    show (w.heap.push ob)[w.heap.size]? = some ob
    simp

/-- The operation writes one block. -/
def Writes (P : Program) (o : Oper) (F : Fr) (H : Hp) (b : Nat) (ob ob' : Obj) : Prop :=
  ∀ a w, Slots F a → Blocks H w → w.heap[b]? = some ob → ∃ w', (execOp a.eval o).run P w = .ok .skip w' ∧ Wrote w w' b ob'

theorem OpsW.write {ops : Array Oper} {rest : List Oper} {op : Op} {ty : TypeId} {pos : String} {after : Array Edge} {R : Fr → Hp → Prop} {F : Fr} {H H' : Hp} {b : Nat} {ob ob' : Obj}
    (hf : Writes P ⟨none, op, ty, pos, after, none⟩ F H b ob ob') (hu : Upd H b ob ob' H') (h : OpsW P n K G w0 ops rest R F H') :
    OpsW P n K G w0 ops (⟨none, op, ty, pos, after, none⟩ :: rest) R F H :=
  fun a w Qx r hq => wpList_any (by
    obtain ⟨w', hr, hw⟩ := hf a w r.slots r.blocks (r.blocks _ hu.mem)
    unfold Oper.wp
    rw [hr]
    exact h _ _ _ (r.wrote hu hw) hq)

/-- A guarded operation whose guard is known. -/
theorem OpsW.guard_no {ops : Array Oper} {rest : List Oper} {d : Nat} {op : Op} {ty : TypeId} {pos : String} {after : Array Edge} {g : Nat} {t : Bool} {R : Fr → Hp → Prop} {F : Fr} {H : Hp} {s : Nat}
    (hg : (ops[g]?).bind (·.dst) = some s) (hv : look F s = some (.bool (!t))) (hd : Nat.blt d n = true) (h : OpsW P n K G w0 ops rest R ((d, undef) :: F) H) :
    OpsW P n K G w0 ops (⟨some d, op, ty, pos, after, some (g, t)⟩ :: rest) R F H :=
  fun a w Qx r hq => by
    have hy : Region.wanted ⟨some d, op, ty, pos, after, some (g, t)⟩ (yielded ops a.tmps) = false := by
      have := r.slots s _ hv
      cases t <;> simp [Region.wanted, yielded, hg, this]
    unfold wpList
    rw [hy]
    exact h _ _ _ (r.put (of_decide_eq_true (by simpa using hd))) hq

theorem OpsW.guard_yes {ops : Array Oper} {rest : List Oper} {d : Option Tmp} {op : Op} {ty : TypeId} {pos : String} {after : Array Edge} {g : Nat} {t : Bool} {R : Fr → Hp → Prop} {F : Fr} {H : Hp} {s : Nat}
    (hg : (ops[g]?).bind (·.dst) = some s) (hv : look F s = some (.bool t)) (h : OpsW P n K G w0 ops (⟨d, op, ty, pos, after, none⟩ :: rest) R F H) :
    OpsW P n K G w0 ops (⟨d, op, ty, pos, after, some (g, t)⟩ :: rest) R F H :=
  fun a w Qx r hq => by
    have hy : Region.wanted ⟨d, op, ty, pos, after, some (g, t)⟩ (yielded ops a.tmps) = true := by
      have := r.slots s _ hv
      cases t <;> simp [Region.wanted, yielded, hg, this]
    have h1 := h a w Qx r hq
    unfold wpList at h1 ⊢
    rw [hy]
    have hn : Region.wanted ⟨d, op, ty, pos, after, none⟩ (yielded ops a.tmps) = true := by simp [Region.wanted]
    rw [hn] at h1
    rcases h1 with h1 | ⟨h1, h2⟩
    · exact .inl h1
    · exact .inr ⟨h1, h2⟩

end
end Go.Vm

/- The operations' lemmas of the logic of partial frames and heaps. -/
namespace Go.Vm
open Go Go.RowKit

/-! ### Cells -/
abbrev blk (cs : List Value) (ty : TypeId) : Obj := .cells cs.toArray ty (0, 0)

def dropN : Nat → List Value → Option (List Value)
  | 0, l => some l
  | _ + 1, [] => none
  | n + 1, _ :: l => dropN n l
def takeN : Nat → List Value → Option (List Value)
  | 0, _ => some []
  | _ + 1, [] => none
  | n + 1, c :: l => match takeN n l with
    | some r => some (c :: r)
    | none => none
def cut (off n : Nat) (cs : List Value) : Option (List Value) :=
  match dropN off cs with
  | some l => takeN n l
  | none => none
def over : List Value → List Value → Option (List Value)
  | [], cs => some cs
  | _ :: _, [] => none
  | v :: r, _ :: cs => match over r cs with
    | some x => some (v :: x)
    | none => none
def splice : Nat → List Value → List Value → Option (List Value)
  | 0, new, cs => over new cs
  | _ + 1, _, [] => none
  | n + 1, new, c :: cs => match splice n new cs with
    | some x => some (c :: x)
    | none => none

theorem dropN_eq : ∀ {n : Nat} {l r : List Value}, dropN n l = some r → r = l.drop n ∧ n ≤ l.length
  | 0, l, r, h => by simp [dropN] at h; simp [h]
  | n + 1, [], r, h => by simp [dropN] at h
  | n + 1, c :: l, r, h => by
    have := dropN_eq (n := n) (l := l) (by simpa [dropN] using h)
    simp; exact this
theorem takeN_eq : ∀ {n : Nat} {l r : List Value}, takeN n l = some r → r = l.take n ∧ r.length = n
  | 0, l, r, h => by simp [takeN] at h; simp [← h]
  | n + 1, [], r, h => by simp [takeN] at h
  | n + 1, c :: l, r, h => by
    simp only [takeN] at h
    cases hq : takeN n l with
    | none => simp [hq] at h
    | some q =>
      have := takeN_eq hq
      simp [hq] at h
      subst h
      simp [this.1]
      have h2 := this.2
      rw [this.1] at h2
      simpa using h2
theorem cut_eq {off n : Nat} {cs l : List Value} (h : cut off n cs = some l) : l.length = n ∧ ∀ j u, l[j]? = some u → cs[off + j]? = some u := by
  unfold cut at h
  split at h
  · rename_i r hr
    have h1 := dropN_eq hr
    have h2 := takeN_eq h
    refine ⟨h2.2, fun j u hj => ?_⟩
    have hlt : j < n := by
      have := (List.getElem?_eq_some_iff.1 hj).1
      omega
    rw [h2.1, h1.1] at hj
    simpa [List.getElem?_take, hlt, List.getElem?_drop] using hj
  · cases h
theorem over_eq : ∀ {new cs r : List Value}, over new cs = some r → r = new ++ cs.drop new.length ∧ new.length ≤ cs.length
  | [], cs, r, h => by simp [over] at h; simp [h]
  | v :: new, [], r, h => by simp [over] at h
  | v :: new, c :: cs, r, h => by
    simp only [over] at h
    cases hq : over new cs with
    | none => simp [hq] at h
    | some q =>
      have := over_eq hq
      simp [hq] at h
      subst h
      simp [this.1]
      exact this.2
theorem splice_eq : ∀ {off : Nat} {new cs r : List Value}, splice off new cs = some r → r = cs.take off ++ new ++ cs.drop (off + new.length) ∧ off + new.length ≤ cs.length
  | 0, new, cs, r, h => by
    have := over_eq (by simpa [splice] using h)
    simp [this.1]; exact this.2
  | n + 1, new, [], r, h => by simp [splice] at h
  | n + 1, new, c :: cs, r, h => by
    simp only [splice] at h
    cases hq : splice n new cs with
    | none => simp [hq] at h
    | some q =>
      have := splice_eq hq
      simp [hq] at h
      subst h
      have e : n + 1 + new.length = (n + new.length) + 1 := by omega
      rw [e]
      simp [this.1]
      have := this.2
      omega

/-! ### Types -/
def aggOf (P : Program) (t : TypeId) : Option Bool := (P.underlying t).map fun | .struct _ => true | .array _ _ => true | _ => false
def sizeIn (P : Program) (t : TypeId) : Option Nat := (P.info? t).map (·.size)
structure TyA (P : Program) (t : TypeId) (s : Nat) : Prop where
  agg : aggOf P t = some true
  size : sizeIn P t = some s
structure TyC (P : Program) (t : TypeId) : Prop where
  agg : aggOf P t = some false
  size : sizeIn P t = some 1
/-- The zero value's cells. -/
structure TyZ (P : Program) (t : TypeId) (v : Value) (zs : List Value) : Prop where
  zero : ∀ w, (zeroValue t).run P w = .ok v w
  cells : v.cells = zs.toArray
/-- A field's place. -/
def fieldOf (P : Program) (s : TypeId) (f : Nat) : Option (Nat × TypeId) :=
  (P.underlying s).bind fun | .struct fs => (fs[f]?).map fun x => (x.offset, x.type) | _ => none
/-- Closed facts on operations, each behind a name of its own. -/
def ZeroTo (P : Program) (t : TypeId) (v : Value) : Prop := ∀ w, (Instr.build t #[]).run P w = .ok v w
def BuildTo (P : Program) (t : TypeId) (vs : List (Nat × Value)) (v : Value) : Prop := ∀ w, (Instr.build t vs.toArray).run P w = .ok v w
def FieldTo (P : Program) (t : TypeId) (u : Value) (f : Nat) (v : Value) : Prop := ∀ w, (Instr.field t u f).run P w = .ok v w
def IndexTo (P : Program) (t : TypeId) (u z v : Value) : Prop := ∀ w, (Instr.index t u z).run P w = .ok v w
def BinTo (P : Program) (op : BinOp) (t : TypeId) (x y : Operand) (u z v : Value) : Prop := (∀ w, (eqGuard op t x y u z).run P w = .ok () w) ∧ ∀ w, (binOp op t u z).run P w = .ok v w
def SliceTo (P : Program) (t len : Nat) (vs : List (Nat × Value)) (cs : List Value) (el : TypeId) : Prop := ∀ w, (Instr.buildSlice t len vs.toArray).run P w = .ok (.slice (some ⟨w.heap.size, 0, none⟩) len len) (w.alloc (blk cs el))
def ExternTo (P : Program) (f : FuncId) (vs : List Value) (v : Value) : Prop := ∀ w, (callFunc f vs.toArray).run P w = .ok (.value v) w
structure TyF (P : Program) (s : TypeId) (f off m : Nat) : Prop where
  field : ∃ ft, fieldOf P s f = some (off, ft) ∧ sizeIn P ft = some m
  pos : m ≠ 0

section
variable {P : Program} {n : Nat} {K : List Nat} {G : Hp} {w0 : World} {w : World}

theorem run_isAgg {t : TypeId} {b : Bool} (h : aggOf P t = some b) : (isAgg t).run P w = .ok b w := by
  unfold aggOf at h
  cases hu : P.underlying t with
  | none => simp [hu] at h
  | some d => cases d <;> simp [hu] at h <;> subst h <;> simp [isAgg, run_underlying hu]

theorem run_sizeOf {t : TypeId} {s : Nat} (h : sizeIn P t = some s) : (sizeOf t).run P w = .ok s w := by
  unfold sizeIn at h
  cases hi : P.info? t with
  | none => simp [hi] at h
  | some i => simp [hi] at h; subst h; simp [sizeOf, typeInfo, hi]

theorem add_off (b o j : Nat) : (⟨b, o, none⟩ : Addr).add j = ⟨b, o + j, none⟩ := by unfold Addr.add; split <;> simp_all

theorem cell_blk {b o : Nat} {cs : List Value} {ty : TypeId} {fr : Nat × Nat} (h : w.heap[b]? = some (.cells cs.toArray ty fr)) : w.cell? ⟨b, o, none⟩ = cs[o]? := by
  simp [World.cell?, h]

theorem run_loadA {t : TypeId} {s b o : Nat} {cs l : List Value} {ty : TypeId} {fr : Nat × Nat} (ht : TyA P t s) (h : w.heap[b]? = some (.cells cs.toArray ty fr)) (hl : cut o s cs = some l) :
    (loadVar t ⟨b, o, none⟩).run P w = .ok (.agg l.toArray) w := by
  obtain ⟨h1, h2⟩ := cut_eq hl
  have := run_loadCells_list (P := P) w ⟨b, o, none⟩ l (fun j v hj => by rw [add_off, cell_blk h]; exact h2 j v hj)
  rw [h1] at this
  simp only [loadVar, Sem.run_bind, run_isAgg ht.agg, Result.andThen_ok, if_true, run_sizeOf ht.size, this]
  rfl

theorem run_loadC {t : TypeId} {b o : Nat} {cs : List Value} {v : Value} {ty : TypeId} {fr : Nat × Nat} (ht : TyC P t) (h : w.heap[b]? = some (.cells cs.toArray ty fr)) (hl : cs[o]? = some v) :
    (loadVar t ⟨b, o, none⟩).run P w = .ok v w := by
  simp only [loadVar, Sem.run_bind, run_isAgg ht.agg, Result.andThen_ok, Bool.false_eq_true, if_false, load, Sem.run, cell_blk h, hl]

theorem setRow_wrote {b : Nat} {cs new : Array Value} {ty : TypeId} {fr : Nat × Nat} (h : w.heap[b]? = some (.cells cs ty fr)) : Wrote w (w.setRow b new) b (.cells new ty fr) :=
  ⟨rfl, rfl, rfl, by simp [World.setRow], setRow_heap w b cs new ty fr h, fun i hi => setRow_other w b i new (by simpa using hi)⟩

theorem run_storeA {t : TypeId} {s b o : Nat} {cs l cs' : List Value} {ty : TypeId} (hs : sizeIn P t = some s) (hlen : l.length = s) (h : w.heap[b]? = some (blk cs ty)) (hl : splice o l cs = some cs') (h1 : l.all (·.oneCell') = true) {v : Value} (hv : v.cells = l.toArray) :
    (storeVar t ⟨b, o, none⟩ v).run P w = .ok () (w.setRow b cs'.toArray) := by
  obtain ⟨h2, h3⟩ := splice_eq hl
  have := run_storeCells_at P b o ty l 0 cs.toArray w h (by simpa using h3) (fun v hv => by simpa using (List.all_eq_true.1 h1) v hv)
  simp only [Nat.add_zero] at this
  rw [h2]
  simp only [storeVar, Sem.run_bind, run_sizeOf hs, Result.andThen_ok, hv, List.size_toArray, hlen, ne_eq, not_true_eq_false, if_false, this]

/-! ### What only computes -/
theorem det_run {d : Option Tmp} {op : Op} {ty : TypeId} {pos : String} {after : Array Edge} {g : Option (Nat × Bool)} {F : Fr} {H : Hp} {v : Value}
    (h : ∀ a w, Slots F a → Blocks H w → Old K G w0 w → (execOp a.eval ⟨d, op, ty, pos, after, g⟩).run P w = .ok (.value v) w) : Det P K G w0 ⟨d, op, ty, pos, after, g⟩ F H v :=
  fun a w hs hb ho next Qx hn => by
    unfold Oper.wp
    rw [h a w hs hb ho]
    exact hn w (Below.refl _ _)

variable {d : Option Tmp} {ty : TypeId} {pos : String} {after : Array Edge} {g : Option (Nat × Bool)} {F : Fr} {H : Hp} {v : Value}

theorem det_move {x : Operand} (hx : ev F x = some v) : Det P K G w0 ⟨d, .move x, ty, pos, after, g⟩ F H v :=
  det_run fun a w hs _ _ => by simp [execOp, hs.ev hx]
theorem det_assign {x : Operand} (hx : ev F x = some v) : Det P K G w0 ⟨d, .assign x, ty, pos, after, g⟩ F H v :=
  det_run fun a w hs _ _ => by simp [execOp, hs.ev hx]
theorem det_pick {c x y : Operand} {t : Bool} (hc : ev F c = some (.bool t)) (hv : ev F (match t with | true => x | false => y) = some v) : Det P K G w0 ⟨d, .pick c x y, ty, pos, after, g⟩ F H v :=
  det_run fun a w hs _ _ => by cases t <;> simp [execOp, hs.ev hc, hs.ev hv, asBool]
theorem det_extract {x : Operand} {i : Nat} {l : List Value} (hx : ev F x = some (.tuple l.toArray)) (hv : l[i]? = some v) : Det P K G w0 ⟨d, .extract x i, ty, pos, after, g⟩ F H v :=
  det_run fun a w hs _ _ => by simp [execOp, hs.ev hx, Instr.extract, hv]

theorem det_bin {op : BinOp} {xt yt : TypeId} {x y : Operand} {u z : Value} (hx : ev F x = some u) (hy : ev F y = some z)
    (h : ∀ w, (eqGuard op xt x y u z).run P w = .ok () w) (hb : ∀ w, (binOp op xt u z).run P w = .ok v w) : Det P K G w0 ⟨d, .binOp op xt x y yt, ty, pos, after, g⟩ F H v :=
  det_run fun a w hs _ _ => by simp [execOp, hs.ev hx, hs.ev hy, h, hb, Result.andThen]

theorem det_binTo {op : BinOp} {xt yt : TypeId} {x y : Operand} {u z : Value} (hx : ev F x = some u) (hy : ev F y = some z) (h : BinTo P op xt x y u z v) : Det P K G w0 ⟨d, .binOp op xt x y yt, ty, pos, after, g⟩ F H v :=
  det_bin hx hy h.1 h.2
theorem guard_int {op : BinOp} {xt : TypeId} {x y : Operand} {k k' : IntKind} {a b : Int} (w : World) : (eqGuard op xt x y (.int k a) (.int k' b)).run P w = .ok () w := by
  unfold eqGuard; cases op <;> simp
theorem guard_bool {op : BinOp} {xt : TypeId} {x y : Operand} {a b : Bool} (w : World) : (eqGuard op xt x y (.bool a) (.bool b)).run P w = .ok () w := by
  unfold eqGuard; cases op <;> simp
theorem guard_string {op : BinOp} {xt : TypeId} {x y : Operand} {a b : ByteArray} (w : World) : (eqGuard op xt x y (.string a) (.string b)).run P w = .ok () w := by
  unfold eqGuard; cases op <;> simp

variable {x y : Operand} {xt yt : TypeId} {k : IntKind} {a b : Int}
theorem det_add (hx : ev F x = some (.int k a)) (hy : ev F y = some (.int k b)) : Det P K G w0 ⟨d, .binOp .add xt x y yt, ty, pos, after, g⟩ F H (.int k (k.wrap (a + b))) :=
  det_bin hx hy guard_int fun _ => by simp [binOp, Op.intArith]
theorem det_sub (hx : ev F x = some (.int k a)) (hy : ev F y = some (.int k b)) : Det P K G w0 ⟨d, .binOp .sub xt x y yt, ty, pos, after, g⟩ F H (.int k (k.wrap (a - b))) :=
  det_bin hx hy guard_int fun _ => by simp [binOp, Op.intArith]
theorem det_mul (hx : ev F x = some (.int k a)) (hy : ev F y = some (.int k b)) : Det P K G w0 ⟨d, .binOp .mul xt x y yt, ty, pos, after, g⟩ F H (.int k (k.wrap (a * b))) :=
  det_bin hx hy guard_int fun _ => by simp [binOp, Op.intArith]
theorem det_eql (hx : ev F x = some (.int k a)) (hy : ev F y = some (.int k b)) : Det P K G w0 ⟨d, .binOp .eql xt x y yt, ty, pos, after, g⟩ F H (.bool (a == b)) :=
  det_bin hx hy guard_int fun _ => by simp [binOp, Op.intCmp]
theorem det_neq (hx : ev F x = some (.int k a)) (hy : ev F y = some (.int k b)) : Det P K G w0 ⟨d, .binOp .neq xt x y yt, ty, pos, after, g⟩ F H (.bool (a != b)) :=
  det_bin hx hy guard_int fun _ => by simp [binOp, Op.intCmp]
theorem det_lss (hx : ev F x = some (.int k a)) (hy : ev F y = some (.int k b)) : Det P K G w0 ⟨d, .binOp .lss xt x y yt, ty, pos, after, g⟩ F H (.bool (decide (a < b))) :=
  det_bin hx hy guard_int fun _ => by simp [binOp, Op.intCmp]
theorem det_leq (hx : ev F x = some (.int k a)) (hy : ev F y = some (.int k b)) : Det P K G w0 ⟨d, .binOp .leq xt x y yt, ty, pos, after, g⟩ F H (.bool (decide (a ≤ b))) :=
  det_bin hx hy guard_int fun _ => by simp [binOp, Op.intCmp]
theorem det_gtr (hx : ev F x = some (.int k a)) (hy : ev F y = some (.int k b)) : Det P K G w0 ⟨d, .binOp .gtr xt x y yt, ty, pos, after, g⟩ F H (.bool (decide (b < a))) :=
  det_bin hx hy guard_int fun _ => by simp [binOp, Op.intCmp]
theorem det_geq (hx : ev F x = some (.int k a)) (hy : ev F y = some (.int k b)) : Det P K G w0 ⟨d, .binOp .geq xt x y yt, ty, pos, after, g⟩ F H (.bool (decide (b ≤ a))) :=
  det_bin hx hy guard_int fun _ => by simp [binOp, Op.intCmp]
theorem det_quo (hx : ev F x = some (.int k a)) (hy : ev F y = some (.int k b)) (h0 : b ≠ 0) : Det P K G w0 ⟨d, .binOp .quo xt x y yt, ty, pos, after, g⟩ F H (.int k (k.wrap (a.tdiv b))) :=
  det_bin hx hy guard_int fun _ => by simp [binOp, Op.intDiv, h0]
theorem det_rem (hx : ev F x = some (.int k a)) (hy : ev F y = some (.int k b)) (h0 : b ≠ 0) : Det P K G w0 ⟨d, .binOp .rem xt x y yt, ty, pos, after, g⟩ F H (.int k (a.tmod b)) :=
  det_bin hx hy guard_int fun _ => by simp [binOp, Op.intDiv, h0]
theorem det_shr {yk : IntKind} (hx : ev F x = some (.int k a)) (hy : ev F y = some (.int yk b)) (h0 : 0 ≤ b) : Det P K G w0 ⟨d, .binOp .shr xt x y yt, ty, pos, after, g⟩ F H (.int k (a.fdiv (2 ^ (min b.toNat k.bits)))) :=
  det_bin hx hy guard_int fun _ => by simp [binOp, Op.shift, Int.not_lt.2 h0]
theorem det_shl {yk : IntKind} (hx : ev F x = some (.int k a)) (hy : ev F y = some (.int yk b)) (h0 : 0 ≤ b) : Det P K G w0 ⟨d, .binOp .shl xt x y yt, ty, pos, after, g⟩ F H (.int k (k.wrap (a * 2 ^ (min b.toNat k.bits)))) :=
  det_bin hx hy guard_int fun _ => by simp [binOp, Op.shift, Int.not_lt.2 h0]
/-- Bits by what the model computes. -/
def bitsOf (op : BinOp) (k : IntKind) (a b : Int) : Int :=
  match op with
  | .and => k.wrap (BitVec.ofInt k.bits a &&& BitVec.ofInt k.bits b).toNat
  | .or => k.wrap (BitVec.ofInt k.bits a ||| BitVec.ofInt k.bits b).toNat
  | .xor => k.wrap (BitVec.ofInt k.bits a ^^^ BitVec.ofInt k.bits b).toNat
  | _ => k.wrap (BitVec.ofInt k.bits a &&& ~~~BitVec.ofInt k.bits b).toNat
theorem det_and (hx : ev F x = some (.int k a)) (hy : ev F y = some (.int k b)) : Det P K G w0 ⟨d, .binOp .and xt x y yt, ty, pos, after, g⟩ F H (.int k (bitsOf .and k a b)) :=
  det_bin hx hy guard_int fun _ => by simp [binOp, Op.intBits, bitsOf]
theorem det_or (hx : ev F x = some (.int k a)) (hy : ev F y = some (.int k b)) : Det P K G w0 ⟨d, .binOp .or xt x y yt, ty, pos, after, g⟩ F H (.int k (bitsOf .or k a b)) :=
  det_bin hx hy guard_int fun _ => by simp [binOp, Op.intBits, bitsOf]
theorem det_xor (hx : ev F x = some (.int k a)) (hy : ev F y = some (.int k b)) : Det P K G w0 ⟨d, .binOp .xor xt x y yt, ty, pos, after, g⟩ F H (.int k (bitsOf .xor k a b)) :=
  det_bin hx hy guard_int fun _ => by simp [binOp, Op.intBits, bitsOf]
theorem det_andNot (hx : ev F x = some (.int k a)) (hy : ev F y = some (.int k b)) : Det P K G w0 ⟨d, .binOp .andNot xt x y yt, ty, pos, after, g⟩ F H (.int k (bitsOf .andNot k a b)) :=
  det_bin hx hy guard_int fun _ => by simp [binOp, Op.intBits, bitsOf]
theorem det_not {t : Bool} (hx : ev F x = some (.bool t)) : Det P K G w0 ⟨d, .unOp .not xt x, ty, pos, after, g⟩ F H (.bool !t) :=
  det_run fun a w hs _ _ => by simp [execOp, hs.ev hx, Op.unary]
theorem det_negI (hx : ev F x = some (.int k a)) : Det P K G w0 ⟨d, .unOp .neg xt x, ty, pos, after, g⟩ F H (.int k (k.wrap (0 - a))) :=
  det_run fun a w hs _ _ => by simp [execOp, hs.ev hx, Op.unary, Op.intArith]
theorem det_conv {src dst : TypeId} {k' : IntKind} {ds : TypeDesc} (hs0 : P.underlying src = some ds) (hd : P.underlying dst = some (.int k')) (hx : ev F x = some (.int k a)) :
    Det P K G w0 ⟨d, .convert src dst x, ty, pos, after, g⟩ F H (.int k' (k'.wrap a)) :=
  det_run fun a w hs _ _ => by simp [execOp, hs.ev hx, convert, run_underlying hs0, run_underlying hd, Conv.intToInt]
/-- A struct's or an array's literal without parts. -/
theorem det_zero {t : TypeId} (hz : ZeroTo P t v) : Det P K G w0 ⟨d, .build t #[], ty, pos, after, g⟩ F H v :=
  det_run fun a w hs _ _ => by simp [execOp, hz w]
def evps (F : Fr) : List (Nat × Operand) → Option (List (Nat × Value))
  | [] => some []
  | (i, x) :: r => match ev F x with
    | some v => match evps F r with
      | some l => some ((i, v) :: l)
      | none => none
    | none => none
theorem evps_map {F : Fr} {a : Act} (hs : Slots F a) : ∀ {l : List (Nat × Operand)} {vs : List (Nat × Value)}, evps F l = some vs → l.map (fun p => (p.1, a.eval p.2)) = vs
  | [], vs, h => by simp [evps] at h; simp [h]
  | (i, x) :: r, vs, h => by
    simp only [evps] at h
    cases hx : ev F x with
    | none => simp [hx] at h
    | some v =>
      cases hr : evps F r with
      | none => simp [hx, hr] at h
      | some l =>
        simp [hx, hr] at h
        subst h
        simp [hs.ev hx, evps_map hs hr]
theorem det_build {t : TypeId} {ps : List (Nat × Operand)} {vs : List (Nat × Value)} (hx : evps F ps = some vs) (hb : BuildTo P t vs v) :
    Det P K G w0 ⟨d, .build t ps.toArray, ty, pos, after, g⟩ F H v :=
  det_run fun a w hs _ _ => by
    have := evps_map hs hx
    simp [execOp, this, hb w]
theorem det_field {t : TypeId} {f : Nat} {u : Value} (hx : ev F x = some u) (hf : FieldTo P t u f v) : Det P K G w0 ⟨d, .field t x f, ty, pos, after, g⟩ F H v :=
  det_run fun a w hs _ _ => by simp [execOp, hs.ev hx, hf w]
theorem det_index {t : TypeId} {u z : Value} (hx : ev F x = some u) (hy : ev F y = some z) (hf : IndexTo P t u z v) : Det P K G w0 ⟨d, .index t x y, ty, pos, after, g⟩ F H v :=
  det_run fun a w hs _ _ => by simp [execOp, hs.ev hx, hs.ev hy, hf w]
theorem det_func {f : FuncId} : Det P K G w0 ⟨d, .makeFunc (.func f) #[] #[], ty, pos, after, g⟩ F H (.func (.func f) #[] #[]) :=
  det_run fun a w hs _ _ => by simp [execOp, Instr.makeFunc]
theorem det_func1 {f : FuncId} (hx : ev F x = some v) : Det P K G w0 ⟨d, .makeFunc (.func f) #[] #[x], ty, pos, after, g⟩ F H (.func (.func f) #[] #[v]) :=
  det_run fun a w hs _ _ => by simp [execOp, Instr.makeFunc, hs.ev hx]

/-! ### Addresses -/
theorem det_fieldAddr {s : TypeId} {f off m b o : Nat} (hf : TyF P s f off m) (hx : ev F x = some (.pointer (some ⟨b, o, none⟩))) :
    Det P K G w0 ⟨d, .fieldAddr s x f, ty, pos, after, g⟩ F H (.pointer (some ⟨b, o + off, none⟩)) :=
  det_run fun a w hs _ _ => by
    obtain ⟨⟨ft, h1, h2⟩, hp⟩ := hf
    unfold fieldOf at h1
    cases hu : P.underlying s with
    | none => simp [hu] at h1
    | some q =>
      cases q <;> simp [hu] at h1
      rename_i fs
      obtain ⟨fd, hfd, rfl, rfl⟩ := h1
      simp [execOp, hs.ev hx, Instr.fieldAt, run_underlying hu, hfd, Instr.sureAddr, fieldPlace, run_sizeOf h2, hp, add_off]

theorem det_indexAddr_arr {t : TypeId} {len el s b o : Nat} {i : Int} {ki : IntKind} (hu : P.underlying t = some (.array len el)) (hs0 : sizeIn P el = some s)
    (hx : ev F x = some (.pointer (some ⟨b, o, none⟩))) (hy : ev F y = some (.int ki i)) (h0 : 0 ≤ i ∧ i < len) :
    Det P K G w0 ⟨d, .indexAddr t x y, ty, pos, after, g⟩ F H (.pointer (some ⟨b, o + i.toNat * s, none⟩)) :=
  det_run fun a w hs _ _ => by
    simp [execOp, hs.ev hx, hs.ev hy, Instr.indexAt, asIntOf, run_underlying hu, Instr.sureAddr, h0, run_sizeOf hs0, add_off]

theorem det_indexAddr_sl {t : TypeId} {el s b o : Nat} {len cap : Nat} {i : Int} {ki : IntKind} (hu : P.underlying t = some (.slice el)) (hs0 : sizeIn P el = some s)
    (hx : ev F x = some (.slice (some ⟨b, o, none⟩) len cap)) (hy : ev F y = some (.int ki i)) (h0 : 0 ≤ i ∧ i < len) :
    Det P K G w0 ⟨d, .indexAddr t x y, ty, pos, after, g⟩ F H (.pointer (some ⟨b, o + i.toNat * s, none⟩)) :=
  det_run fun a w hs _ _ => by
    simp [execOp, hs.ev hx, hs.ev hy, Instr.indexAt, asIntOf, run_underlying hu, h0, run_sizeOf hs0, add_off]

/-! ### Loads -/
theorem det_loadA {t : TypeId} {s b o : Nat} {cs l : List Value} {e : TypeId} {fr : Nat × Nat} (ht : TyA P t s) (hx : ev F x = some (.pointer (some ⟨b, o, none⟩))) (hm : (b, Obj.cells cs.toArray e fr) ∈ H) (hl : cut o s cs = some l) :
    Det P K G w0 ⟨d, .load t x, ty, pos, after, g⟩ F H (.agg l.toArray) :=
  det_run fun a w hs hb _ => by simp [execOp, hs.ev hx, Instr.loadAt, Instr.sureAddr, run_loadA ht (hb _ hm) hl]
theorem det_loadC {t : TypeId} {b o : Nat} {cs : List Value} {e : TypeId} {fr : Nat × Nat} (ht : TyC P t) (hx : ev F x = some (.pointer (some ⟨b, o, none⟩))) (hm : (b, Obj.cells cs.toArray e fr) ∈ H) (hl : cs[o]? = some v) :
    Det P K G w0 ⟨d, .load t x, ty, pos, after, g⟩ F H v :=
  det_run fun a w hs hb _ => by simp [execOp, hs.ev hx, Instr.loadAt, Instr.sureAddr, run_loadC ht (hb _ hm) hl]
/-- Out of a block that is read only. -/
theorem det_loadA_ro {t : TypeId} {s b o : Nat} {cs l : List Value} {e : TypeId} {fr : Nat × Nat} (ht : TyA P t s) (hx : ev F x = some (.pointer (some ⟨b, o, none⟩))) (hm : (b, Obj.cells cs.toArray e fr) ∈ G) (hl : cut o s cs = some l) :
    Det P K G w0 ⟨d, .load t x, ty, pos, after, g⟩ F H (.agg l.toArray) :=
  det_run fun a w hs hb ho => by simp [execOp, hs.ev hx, Instr.loadAt, Instr.sureAddr, run_loadA ht (ho.look hm) hl]
theorem det_loadC_ro {t : TypeId} {b o : Nat} {cs : List Value} {e : TypeId} {fr : Nat × Nat} (ht : TyC P t) (hx : ev F x = some (.pointer (some ⟨b, o, none⟩))) (hm : (b, Obj.cells cs.toArray e fr) ∈ G) (hl : cs[o]? = some v) :
    Det P K G w0 ⟨d, .load t x, ty, pos, after, g⟩ F H v :=
  det_run fun a w hs hb ho => by simp [execOp, hs.ev hx, Instr.loadAt, Instr.sureAddr, run_loadC ht (ho.look hm) hl]

/-! ### len -/
theorem det_len {t el : TypeId} {ad : Option Addr} {len cap : Nat} (hu : P.underlying t = some (.slice el)) (hx : ev F x = some (.slice ad len cap)) :
    Det P K G w0 ⟨d, .call { callee := .builtin .len, args := #[x], argTypes := #[t] }, ty, pos, after, g⟩ F H (.int .i64 len) :=
  det_run fun a w hs _ _ => by simp [execOp, hs.ev hx, resolve, invoke, builtin, Builtin.len_, run_underlying hu, goInt]
theorem det_len_str {t : TypeId} {s : ByteArray} (hu : P.underlying t = some .string) (hx : ev F x = some (.string s)) :
    Det P K G w0 ⟨d, .call { callee := .builtin .len, args := #[x], argTypes := #[t] }, ty, pos, after, g⟩ F H (.int .i64 s.size) :=
  det_run fun a w hs _ _ => by simp [execOp, hs.ev hx, resolve, invoke, builtin, Builtin.len_, run_underlying hu, goInt]

/-! ### Calls -/
def Enters (P : Program) (f : FuncId) : Prop := ∀ args w, (callFunc f args).run P w = .ok (.enter f args) w
/-- The call hands back v, and makes new blocks at most. -/
def Pure (P : Program) (f : FuncId) (args : Array Value) (w : World) (v : Value) : Prop :=
  Calls P f args w fun e w' => e = .returned v ∧ Below w.heap.size w w'

def evs (F : Fr) : List Operand → Option (List Value)
  | [] => some []
  | x :: r => match ev F x with
    | some v => match evs F r with
      | some l => some (v :: l)
      | none => none
    | none => none
theorem evs_map {F : Fr} {a : Act} (hs : Slots F a) : ∀ {l : List Operand} {vs : List Value}, evs F l = some vs → l.map a.eval = vs
  | [], vs, h => by simp [evs] at h; simp [h]
  | x :: r, vs, h => by
    simp only [evs] at h
    cases hx : ev F x with
    | none => simp [hx] at h
    | some v =>
      cases hr : evs F r with
      | none => simp [hx, hr] at h
      | some l =>
        simp [hx, hr] at h
        subst h
        simp [hs.ev hx, evs_map hs hr]

theorem det_call {f : FuncId} {xs : List Operand} {ats : Array TypeId} {vs : List Value} (he : Enters P f) (hx : evs F xs = some vs)
    (h : ∀ w, Blocks H w → Old K G w0 w → Pure P f vs.toArray w v) :
    Det P K G w0 ⟨d, .call { callee := .value (.func f), args := xs.toArray, argTypes := ats }, ty, pos, after, g⟩ F H v :=
  fun a w hs hb ho next Qx hn => by
    have hm := evs_map hs hx
    unfold Oper.wp
    have : (execOp a.eval ⟨d, .call { callee := .value (.func f), args := xs.toArray, argTypes := ats }, ty, pos, after, g⟩).run P w = .ok (.enter f vs.toArray) w := by
      simp [execOp, resolve, Deferred.ofValue, Act.eval, invoke, hm]; exact he _ _
    rw [this]
    refine (h w hb ho).mono ?_
    rintro e w' ⟨rfl, hw⟩
    exact hn w' hw

/-! ### New blocks -/
theorem fr_alloc {t : TypeId} {zs : List Value} (hz : TyZ P t v zs) : Fresh P K G w0 ⟨d, .alloc t, ty, pos, after, g⟩ F (fun b => .pointer (some ⟨b, 0, none⟩)) (blk zs t) :=
  fun a w hs _ => by simp [execOp, Instr.alloc, hz.zero, newVar, newRow, newObj, hz.cells, Sem.run, World.alloc_eq]
theorem fr_box {t : TypeId} {l : List Value} {u : Value} (hx : ev F x = some u) (hl : u.cells = l.toArray) : Fresh P K G w0 ⟨d, .box t x, ty, pos, after, g⟩ F (fun b => .pointer (some ⟨b, 0, none⟩)) (blk l t) :=
  fun a w hs _ => by simp [execOp, Instr.box, hs.ev hx, newVar, newRow, newObj, hl, Sem.run, World.alloc_eq]

/-! ### Stores -/
theorem wr_store {t : TypeId} {s b o : Nat} {cs l cs' : List Value} {e : TypeId} {u : Value} (ht : sizeIn P t = some s) (hx : ev F x = some (.pointer (some ⟨b, o, none⟩))) (hy : ev F y = some u)
    (hl : u.cells = l.toArray) (hlen : l.length = s) (h1 : l.all (·.oneCell') = true) (hs : splice o l cs = some cs') : Writes P ⟨none, .store t x y, ty, pos, after, g⟩ F H b (blk cs e) (blk cs' e) :=
  fun a w hsl _ hb => ⟨_, by simp [execOp, hsl.ev hx, hsl.ev hy, Instr.storeAt, Instr.sureAddr, run_storeA ht hlen hb hs h1 hl], setRow_wrote hb⟩

end
end Go.Vm

/- Regions that draw their order, in the logic of partial frames and heaps: whatever order is drawn, what is still at the head yields the same values, and the tail goes in the text's order. -/
namespace Go.Vm
open Go Go.RowKit

/-- What an operation at a region's head leaves. -/
inductive HE where
  | det (d : Nat) (v : Value)
  | flt (d : Nat) (v : Value)
  | fresh (d : Nat) (mk : Prm → Value) (ob : Prm → Hp) (ok : Prm → Prop)
  | dep (d : Nat) (ds : List Nat) (g : List Prm → Value)

def HE.dst : HE → Nat
  | .det d _ => d
  | .flt d _ => d
  | .fresh d _ _ _ => d
  | .dep d _ _ => d
/-- An operation that only computes, and for which the tail need not wait. -/
def HE.floats : HE → Bool
  | .flt _ _ => true
  | _ => false
def HE.val (β : Nat → Prm) : HE → Value
  | .det _ v => v
  | .flt _ v => v
  | .fresh d mk _ _ => mk (β d)
  | .dep _ ds g => g (ds.map β)

def allF (β : Nat → Prm) : List HE → Fr
  | [] => []
  | .det d v :: r => (d, v) :: allF β r
  | .flt d v :: r => (d, v) :: allF β r
  | .fresh d mk _ _ :: r => (d, mk (β d)) :: allF β r
  | .dep d ds g :: r => (d, g (ds.map β)) :: allF β r
def allH (β : Nat → Prm) : List HE → Hp
  | [] => []
  | .det _ _ :: r => allH β r
  | .flt _ _ :: r => allH β r
  | .fresh d _ ob _ :: r => ob (β d) ++ allH β r
  | .dep _ _ _ :: r => allH β r
def allOk (β : Nat → Prm) : List HE → Prop
  | [] => True
  | .det _ _ :: r => allOk β r
  | .flt _ _ :: r => allOk β r
  | .fresh d _ _ ok :: r => ok (β d) ∧ allOk β r
  | .dep _ _ _ :: r => allOk β r
/-- Of the entries those at some places. -/
def pickE (es : List HE) : List Nat → List HE
  | [] => []
  | j :: r => match es[j]? with
    | some e => e :: pickE es r
    | none => pickE es r
def avF (F0 : Fr) (es : List HE) (pl : List Nat) (β : Nat → Prm) : Fr := allF β (pickE es pl) ++ F0
def avH (H0 : Hp) (es : List HE) (pl : List Nat) (β : Nat → Prm) : Hp := allH β (pickE es pl) ++ H0

def clAt (cl : List (List Nat)) (k : Nat) : List Nat := cl.getD k []

/-- The head of a region, operation by operation. -/
inductive Head (P : Program) (K : List Nat) (G : Hp) (w0 : World) (ops : Array Oper) (cl : List (List Nat)) (F0 : Fr) (H0 : Hp) (fin : List HE → Prop) : Nat → List HE → Prop
  | done {k : Nat} {es : List HE} (h : fin es) : Head P K G w0 ops cl F0 H0 fin k es
  | det {k : Nat} {es : List HE} {d : Nat} {op : Op} {ty : TypeId} {pos : String} {after : Array Edge} {v : Value} (ho : ops[k]? = some ⟨some d, op, ty, pos, after, none⟩)
      (h : ∀ β, allOk β (pickE es (clAt cl k)) → Det P K G w0 ⟨some d, op, ty, pos, after, none⟩ (avF F0 es (clAt cl k) β) (avH H0 es (clAt cl k) β) v)
      (rest : Head P K G w0 ops cl F0 H0 fin (k + 1) (es ++ [.det d v])) : Head P K G w0 ops cl F0 H0 fin k es
  | dep {k : Nat} {es : List HE} {d : Nat} {op : Op} {ty : TypeId} {pos : String} {after : Array Edge} (ds : List Nat) (g : List Prm → Value) (ho : ops[k]? = some ⟨some d, op, ty, pos, after, none⟩)
      (h : ∀ β, allOk β (pickE es (clAt cl k)) → Det P K G w0 ⟨some d, op, ty, pos, after, none⟩ (avF F0 es (clAt cl k) β) (avH H0 es (clAt cl k) β) (g (ds.map β)))
      (rest : Head P K G w0 ops cl F0 H0 fin (k + 1) (es ++ [.dep d ds g])) : Head P K G w0 ops cl F0 H0 fin k es
  | flt {k : Nat} {es : List HE} {d : Nat} {op : Op} {ty : TypeId} {pos : String} {after : Array Edge} {v : Value} (ho : ops[k]? = some ⟨some d, op, ty, pos, after, none⟩)
      (h : ∀ β, allOk β (pickE es (clAt cl k)) → ∀ a w, Slots (avF F0 es (clAt cl k) β) a → (execOp a.eval ⟨some d, op, ty, pos, after, none⟩).run P w = .ok (.value v) w)
      (rest : Head P K G w0 ops cl F0 H0 fin (k + 1) (es ++ [.flt d v])) : Head P K G w0 ops cl F0 H0 fin k es
  | fresh {k : Nat} {es : List HE} {d : Nat} {op : Op} {ty : TypeId} {pos : String} {after : Array Edge} {mk : Prm → Value} {ob : Prm → Hp} {ok : Prm → Prop} (ho : ops[k]? = some ⟨some d, op, ty, pos, after, none⟩)
      (h : ∀ β, allOk β (pickE es (clAt cl k)) → New P K G w0 ⟨some d, op, ty, pos, after, none⟩ (avF F0 es (clAt cl k) β) (avH H0 es (clAt cl k) β) mk ob ok)
      (rest : Head P K G w0 ops cl F0 H0 fin (k + 1) (es ++ [.fresh d mk ob ok])) : Head P K G w0 ops cl F0 H0 fin k es
  | no {k : Nat} {es : List HE} {d : Nat} {op : Op} {ty : TypeId} {pos : String} {after : Array Edge} {g : Nat} {t : Bool} {s : Nat} (ho : ops[k]? = some ⟨some d, op, ty, pos, after, some (g, t)⟩)
      (hs : (ops[g]?).bind (·.dst) = some s) (h : ∀ β, allOk β (pickE es (clAt cl k)) → look (avF F0 es (clAt cl k) β) s = some (.bool (!t)))
      (rest : Head P K G w0 ops cl F0 H0 fin (k + 1) (es ++ [.det d undef])) : Head P K G w0 ops cl F0 H0 fin k es
  | un {k : Nat} {es : List HE} {d : Nat} {op : Op} {ty : TypeId} {pos : String} {after : Array Edge} {g : Nat} {t : Bool} {s : Nat} (ho : ops[k]? = some ⟨some d, op, ty, pos, after, some (g, t)⟩)
      (hs : (ops[g]?).bind (·.dst) = some s) (h : ∀ β, allOk β (pickE es (clAt cl k)) → look (avF F0 es (clAt cl k) β) s = some undef)
      (rest : Head P K G w0 ops cl F0 H0 fin (k + 1) (es ++ [.det d undef])) : Head P K G w0 ops cl F0 H0 fin k es
  | yes {k : Nat} {es : List HE} {d : Nat} {op : Op} {ty : TypeId} {pos : String} {after : Array Edge} {g : Nat} {t : Bool} {s : Nat} {v : Value} (ho : ops[k]? = some ⟨some d, op, ty, pos, after, some (g, t)⟩)
      (hs : (ops[g]?).bind (·.dst) = some s) (hl : ∀ β, allOk β (pickE es (clAt cl k)) → look (avF F0 es (clAt cl k) β) s = some (.bool t))
      (h : ∀ β, allOk β (pickE es (clAt cl k)) → Det P K G w0 ⟨some d, op, ty, pos, after, some (g, t)⟩ (avF F0 es (clAt cl k) β) (avH H0 es (clAt cl k) β) v)
      (rest : Head P K G w0 ops cl F0 H0 fin (k + 1) (es ++ [.det d v])) : Head P K G w0 ops cl F0 H0 fin k es
  | yesFresh {k : Nat} {es : List HE} {d : Nat} {op : Op} {ty : TypeId} {pos : String} {after : Array Edge} {g : Nat} {t : Bool} {s : Nat} {mk : Prm → Value} {ob : Prm → Hp} {ok : Prm → Prop} (ho : ops[k]? = some ⟨some d, op, ty, pos, after, some (g, t)⟩)
      (hs : (ops[g]?).bind (·.dst) = some s) (hl : ∀ β, allOk β (pickE es (clAt cl k)) → look (avF F0 es (clAt cl k) β) s = some (.bool t))
      (h : ∀ β, allOk β (pickE es (clAt cl k)) → New P K G w0 ⟨some d, op, ty, pos, after, some (g, t)⟩ (avF F0 es (clAt cl k) β) (avH H0 es (clAt cl k) β) mk ob ok)
      (rest : Head P K G w0 ops cl F0 H0 fin (k + 1) (es ++ [.fresh d mk ob ok])) : Head P K G w0 ops cl F0 H0 fin k es

def depsOf (ops : Array Oper) (k : Nat) : List Nat :=
  match ops[k]? with
  | some o => (o.after.toList.filter (Region.binds .any)).map (·.on)
  | none => []

def nodupB : List Nat → Bool
  | [] => true
  | x :: r => !r.contains x && nodupB r

def clOK (ops : Array Oper) (cl : List (List Nat)) : Bool :=
  (List.range ops.size).all fun k => (clAt cl k).all fun j => decide (j < k) && ((depsOf ops k).contains j || (depsOf ops k).any fun i => decide (i < k) && (clAt cl i).contains j)

def canon (m s : Nat) : Array Bool := ((List.range s).map fun i => decide (i < m)).toArray

def floatAt (es : List HE) (i : Nat) : Bool :=
  match es[i]? with
  | some e => e.floats
  | none => false
/-- All of the head but what floats. -/
def headOnly (es : List HE) (s : Nat) : Array Bool := ((List.range s).map fun i => decide (i < es.length) && !floatAt es i).toArray

/-- What an entry's value leans on has come up before it. -/
def depOK (cl : List (List Nat)) (es : List HE) : Bool :=
  (List.range es.length).all fun j => match es[j]? with
    | some (.dep _ ds _) => ds.all fun x => (clAt cl j).any fun i => match es[i]? with
      | some e => Nat.beq e.dst x
      | none => false
    | _ => true

def drawOK (n : Nat) (ops : Array Oper) (m : Nat) (cl : List (List Nat)) (F0 : Fr) (es : List HE) : Bool :=
  decide (es.length = m) && decide (m ≤ ops.size) && clOK ops cl && nodupB (es.map HE.dst) && (es.all fun e => decide (e.dst < n) && (look F0 e.dst).isNone) &&
  ((List.range ops.size).all fun k => decide (m ≤ k) || (depsOf ops k).all fun j => decide (j < k)) &&
  ((List.range ops.size).all fun t => decide (t < m) || (List.range m).all fun i => floatAt es i || (clAt cl t).contains i) &&
  Region.noSelect ops && ((List.range m).all fun i => !floatAt es i || Region.free .any ops (headOnly es ops.size) i) &&
  Region.seqB .any ops (ops.size - m) m (canon m ops.size) && depOK cl es

section
variable {P : Program} {n : Nat} {K : List Nat} {G : Hp} {w0 : World} {ops : Array Oper} {cl : List (List Nat)} {F0 : Fr} {H0 : Hp}

/-- Entry k is sound: wherever what it waits for is there, it may be carried out. -/
def EntOK (P : Program) (K : List Nat) (G : Hp) (w0 : World) (ops : Array Oper) (cl : List (List Nat)) (F0 : Fr) (H0 : Hp) (es : List HE) (k : Nat) : Prop :=
  ∃ e, es[k]? = some e ∧ (∀ β a w (next : Act → World → Prop) (Qx : Exit → Act → World → Prop), allOk β (pickE es (clAt cl k)) → Slots (avF F0 es (clAt cl k) β) a → Blocks (avH H0 es (clAt cl k) β) w → Old K G w0 w →
    (match e with
      | .det d v => ∀ w', Below w.heap.size w w' → next (a.put (some d) v) w'
      | .flt d v => ∀ w', Below w.heap.size w w' → next (a.put (some d) v) w'
      | .fresh d mk ob ok => ∀ p w', ok p → Below w.heap.size w w' → Blocks (ob p) w' → ((ob p).map (·.1)).Nodup → (∀ q ∈ ob p, w.heap.size ≤ q.1) → next (a.put (some d) (mk p)) w'
      | .dep d ds g => ∀ w', Below w.heap.size w w' → next (a.put (some d) (g (ds.map β))) w') → wpOp P ops Qx k next a w) ∧
    (∀ d v, e = .flt d v → ∃ oi, ops[k]? = some oi ∧ oi.dst = some d ∧ ∀ β a, allOk β (pickE es (clAt cl k)) → Slots (avF F0 es (clAt cl k) β) a → Yields P ops oi v a)

theorem pickE_mono {es es' : List HE} : ∀ {pl : List Nat}, (∀ j ∈ pl, es[j]? = es'[j]?) → pickE es pl = pickE es' pl
  | [], _ => rfl
  | j :: r, h => by
    simp only [pickE, h j (by simp)]
    rw [pickE_mono (pl := r) fun i hi => h i (by simp [hi])]

theorem wanted_of {a : Act} {o : Oper} {g s : Nat} {t u : Bool} (hg : o.guard = some (g, t)) (hs : (ops[g]?).bind (·.dst) = some s) (ha : a.tmps[s]? = some (.bool u)) :
    Region.wanted o (yielded ops a.tmps) = (u == t) := by
  simp [Region.wanted, hg, yielded, hs, ha]

theorem look_avF_slots {F : Fr} {a : Act} {s : Nat} {v : Value} (h : Slots F a) (hl : look F s = some v) : a.tmps[s]? = some v := h s v hl

/-- The derivation gives entries that are sound, and its end. -/
theorem Head.out {fin : List HE → Prop} {k : Nat} {es : List HE} (h : Head P K G w0 ops cl F0 H0 fin k es) (hk : k = es.length) (hcl : ∀ i, ∀ j ∈ clAt cl i, j < i)
    (hes : ∀ i, i < es.length → EntOK P K G w0 ops cl F0 H0 es i) :
    ∃ es', fin es' ∧ ∀ i, i < es'.length → EntOK P K G w0 ops cl F0 H0 es' i := by
  have grow : ∀ {es : List HE} {e : HE}, (∀ i, i < es.length → EntOK P K G w0 ops cl F0 H0 es i) → EntOK P K G w0 ops cl F0 H0 (es ++ [e]) es.length →
      ∀ i, i < (es ++ [e]).length → EntOK P K G w0 ops cl F0 H0 (es ++ [e]) i := by
    intro es e h1 h2 i hi
    rcases Nat.lt_or_ge i es.length with h | h
    · obtain ⟨e', he, H⟩ := h1 i h
      refine ⟨e', by rw [List.getElem?_append_left h]; exact he, ?_⟩
      have : pickE (es ++ [e]) (clAt cl i) = pickE es (clAt cl i) := pickE_mono fun j hj => by
        rw [List.getElem?_append_left (Nat.lt_trans (hcl i j hj) h)]
      unfold avF avH at H ⊢
      rw [this]
      exact H
    · have : i = es.length := by simp at hi; omega
      subst this
      exact h2
  have pick : ∀ (es : List HE) (e : HE), pickE (es ++ [e]) (clAt cl es.length) = pickE es (clAt cl es.length) := fun es e => pickE_mono fun j hj => by
    rw [List.getElem?_append_left (hcl _ j hj)]
  induction h with
  | done h => exact ⟨_, h, hes⟩
  | @det k es d op ty pos after v ho h rest ih =>
    subst hk
    refine ih (by simp) (grow hes ⟨.det d v, by simp, ?_, fun _ _ h => by cases h⟩)
    intro β a w next Qx hg hs hb hold hn
    unfold avF at hs
    unfold avH at hb
    rw [pick] at hg hs hb
    unfold wpOp
    simp only [ho, Region.wanted, if_true]
    exact .inl (h β hg a w hs hb hold _ _ hn)
  | @dep k es d op ty pos after ds g ho h rest ih =>
    subst hk
    refine ih (by simp) (grow hes ⟨.dep d ds g, by simp, ?_, fun _ _ h => by cases h⟩)
    intro β a w next Qx hg hs hb hold hn
    unfold avF at hs
    unfold avH at hb
    rw [pick] at hg hs hb
    unfold wpOp
    simp only [ho, Region.wanted, if_true]
    exact .inl (h β hg a w hs hb hold _ _ hn)
  | @flt k es d op ty pos after v ho h rest ih =>
    subst hk
    refine ih (by simp) (grow hes ⟨.flt d v, by simp, ?_, ?_⟩)
    · intro β a w next Qx hg hs hb hold hn
      unfold avF at hs
      rw [pick] at hg hs
      unfold wpOp
      simp only [ho, Region.wanted, if_true]
      refine .inl ?_
      unfold Oper.wp
      rw [h β hg a w hs]
      exact hn w (Below.refl _ _)
    · intro d' v' he
      injection he with e1 e2
      subst e1; subst e2
      refine ⟨_, ho, rfl, fun β a hg hs => .inl ⟨by simp [Region.wanted], fun w => ?_⟩⟩
      unfold avF at hs
      rw [pick] at hg hs
      exact h β hg a w hs
  | @fresh k es d op ty pos after mk ob ok ho h rest ih =>
    subst hk
    refine ih (by simp) (grow hes ⟨.fresh d mk ob ok, by simp, ?_, fun _ _ h => by cases h⟩)
    intro β a w next Qx hg hs hb hold hn
    unfold avF at hs
    unfold avH at hb
    rw [pick] at hg hs hb
    unfold wpOp
    simp only [ho, Region.wanted, if_true]
    exact .inl (h β hg a w hs hb hold _ _ hn)
  | @no k es d op ty pos after g t s ho hs0 h rest ih =>
    subst hk
    refine ih (by simp) (grow hes ⟨.det d undef, by simp, ?_, fun _ _ h => by cases h⟩)
    intro β a w next Qx hg hs hb hold hn
    unfold avF at hs
    unfold avH at hb
    rw [pick] at hg hs hb
    unfold wpOp
    have := wanted_of (ops := ops) (o := ⟨some d, op, ty, pos, after, some (g, t)⟩) rfl hs0 (hs s _ (h β hg))
    simp only [ho, this]
    have e : ((!t) == t) = false := by cases t <;> rfl
    rw [e]
    exact hn w (Below.refl _ _)
  | @un k es d op ty pos after g t s ho hs0 h rest ih =>
    subst hk
    refine ih (by simp) (grow hes ⟨.det d undef, by simp, ?_, fun _ _ h => by cases h⟩)
    intro β a w next Qx hg hs hb hold hn
    unfold avF at hs
    unfold avH at hb
    rw [pick] at hg hs hb
    unfold wpOp
    have hv := hs s _ (h β hg)
    have hy : Region.wanted ⟨some d, op, ty, pos, after, some (g, t)⟩ (yielded ops a.tmps) = false := by
      cases t <;> simp [Region.wanted, yielded, hs0, hv, undef]
    simp only [ho, hy]
    exact hn w (Below.refl _ _)
  | @yes k es d op ty pos after g t s v ho hs0 hl h rest ih =>
    subst hk
    refine ih (by simp) (grow hes ⟨.det d v, by simp, ?_, fun _ _ h => by cases h⟩)
    intro β a w next Qx hg hs hb hold hn
    unfold avF at hs
    unfold avH at hb
    rw [pick] at hg hs hb
    unfold wpOp
    have := wanted_of (ops := ops) (o := ⟨some d, op, ty, pos, after, some (g, t)⟩) rfl hs0 (hs s _ (hl β hg))
    simp only [ho, this, beq_self_eq_true, if_true]
    exact .inl (h β hg a w hs hb hold _ _ hn)
  | @yesFresh k es d op ty pos after g t s mk ob ok ho hs0 hl h rest ih =>
    subst hk
    refine ih (by simp) (grow hes ⟨.fresh d mk ob ok, by simp, ?_, fun _ _ h => by cases h⟩)
    intro β a w next Qx hg hs hb hold hn
    unfold avF at hs
    unfold avH at hb
    rw [pick] at hg hs hb
    unfold wpOp
    have := wanted_of (ops := ops) (o := ⟨some d, op, ty, pos, after, some (g, t)⟩) rfl hs0 (hs s _ (hl β hg))
    simp only [ho, this, beq_self_eq_true, if_true]
    exact .inl (h β hg a w hs hb hold _ _ hn)

theorem nodupB_eq : ∀ {l : List Nat}, nodupB l = true → l.Nodup
  | [], _ => List.nodup_nil
  | x :: r, h => by
    simp only [nodupB, Bool.and_eq_true, Bool.not_eq_true'] at h
    rw [List.nodup_cons]
    refine ⟨fun hm => ?_, nodupB_eq h.2⟩
    have := h.1
    simp [hm] at this

theorem look_allF {β : Nat → Prm} : ∀ {es : List HE} {s : Nat} {v : Value}, look (allF β es) s = some v → ∃ e ∈ es, e.dst = s ∧ e.val β = v
  | [], s, v, h => by cases h
  | .det d u :: r, s, v, h => by
    simp only [allF, look_eq] at h
    by_cases hd : d = s
    · simp [hd] at h; exact ⟨.det d u, by simp, hd, h⟩
    · simp [hd] at h
      obtain ⟨e, he, h1, h2⟩ := look_allF h
      exact ⟨e, by simp [he], h1, h2⟩
  | .flt d u :: r, s, v, h => by
    simp only [allF, look_eq] at h
    by_cases hd : d = s
    · simp [hd] at h; exact ⟨.flt d u, by simp, hd, h⟩
    · simp [hd] at h
      obtain ⟨e, he, h1, h2⟩ := look_allF h
      exact ⟨e, by simp [he], h1, h2⟩
  | .dep d ds g :: r, s, v, h => by
    simp only [allF, look_eq] at h
    by_cases hd : d = s
    · simp [hd] at h; exact ⟨.dep d ds g, by simp, hd, by simpa [HE.val] using h⟩
    · simp [hd] at h
      obtain ⟨e, he, h1, h2⟩ := look_allF h
      exact ⟨e, by simp [he], h1, h2⟩
  | .fresh d mk o ok :: r, s, v, h => by
    simp only [allF, look_eq] at h
    by_cases hd : d = s
    · simp [hd] at h; exact ⟨.fresh d mk o ok, by simp, hd, by simpa [HE.val, hd] using h⟩
    · simp [hd] at h
      obtain ⟨e, he, h1, h2⟩ := look_allF h
      exact ⟨e, by simp [he], h1, h2⟩

theorem look_append {A B : Fr} {s : Nat} {v : Value} (h : look (A ++ B) s = some v) : look A s = some v ∨ look B s = some v := by
  induction A with
  | nil => exact .inr h
  | cons p r ih =>
    obtain ⟨t, u⟩ := p
    simp only [List.cons_append, look_eq] at h ⊢
    by_cases ht : t = s
    · simp [ht] at h ⊢; exact .inl h
    · simp [ht] at h ⊢; exact ih h

theorem mem_pickE {es : List HE} {e : HE} : ∀ {pl : List Nat}, e ∈ pickE es pl → ∃ j ∈ pl, es[j]? = some e
  | [], h => by cases h
  | j :: r, h => by
    unfold pickE at h
    cases hj : es[j]? with
    | none => simp [hj] at h; obtain ⟨i, hi, he⟩ := mem_pickE h; exact ⟨i, by simp [hi], he⟩
    | some e' =>
      simp [hj] at h
      rcases h with rfl | h
      · exact ⟨j, by simp, hj⟩
      · obtain ⟨i, hi, he⟩ := mem_pickE h; exact ⟨i, by simp [hi], he⟩

theorem mem_allH {β : Nat → Prm} {p : Nat × Obj} : ∀ {es : List HE}, p ∈ allH β es → ∃ d mk ob ok, HE.fresh d mk ob ok ∈ es ∧ p ∈ ob (β d)
  | [], h => by cases h
  | .det d v :: r, h => by
    obtain ⟨d', mk, o, ok, h1, h2⟩ := mem_allH (es := r) h
    exact ⟨d', mk, o, ok, by simp [h1], h2⟩
  | .flt d v :: r, h => by
    obtain ⟨d', mk, o, ok, h1, h2⟩ := mem_allH (es := r) h
    exact ⟨d', mk, o, ok, by simp [h1], h2⟩
  | .dep d ds g :: r, h => by
    obtain ⟨d', mk, o, ok, h1, h2⟩ := mem_allH (es := r) h
    exact ⟨d', mk, o, ok, by simp [h1], h2⟩
  | .fresh d mk o ok :: r, h => by
    simp only [allH, List.mem_append] at h
    rcases h with h | h
    · exact ⟨d, mk, o, ok, by simp, h⟩
    · obtain ⟨d', mk', o', ok', h1, h2⟩ := mem_allH h
      exact ⟨d', mk', o', ok', by simp [h1], h2⟩

theorem allOk_of {β : Nat → Prm} : ∀ {es : List HE}, (∀ d mk ob ok, HE.fresh d mk ob ok ∈ es → ok (β d)) → allOk β es
  | [], _ => trivial
  | .det _ _ :: r, h => allOk_of (es := r) fun d mk ob ok hm => h d mk ob ok (by simp [hm])
  | .flt _ _ :: r, h => allOk_of (es := r) fun d mk ob ok hm => h d mk ob ok (by simp [hm])
  | .dep _ _ _ :: r, h => allOk_of (es := r) fun d mk ob ok hm => h d mk ob ok (by simp [hm])
  | .fresh d mk ob ok :: r, h => ⟨h d mk ob ok (by simp), allOk_of fun d' mk' ob' ok' hm => h d' mk' ob' ok' (by simp [hm])⟩

/-- Where we stand in a region's head: what has been carried out, and what that has left. -/
structure HInv (n : Nat) (K : List Nat) (G : Hp) (w0 : World) (ops : Array Oper) (m : Nat) (F0 : Fr) (H0 : Hp) (es : List HE) (listed : Array Bool) (β : Nat → Prm) (a : Act) (w : World) : Prop where
  lsize : listed.size = ops.size
  closed : ∀ j oj, ops[j]? = some oj → listed.getD j false = true → ∀ e ∈ oj.after, Region.binds .any e = true → listed.getD e.on false = true
  tail : ∀ t, m ≤ t → listed.getD t false = false
  size : a.tmps.size = n
  defers : a.defers = []
  slots : Slots F0 a
  vals : ∀ j e, es[j]? = some e → listed.getD j false = true → a.tmps[e.dst]? = some (e.val β)
  blocks : Blocks H0 w
  old : Old K G w0 w
  news : ∀ (j : Nat) d mk ob ok, es[j]? = some (HE.fresh d mk ob ok) → listed.getD j false = true →
    Blocks (ob (β d)) w ∧ ((ob (β d)).map (·.1)).Nodup ∧ ok (β d) ∧ ∀ q ∈ ob (β d), w0.heap.size ≤ q.1 ∧ ∀ p ∈ H0, p.1 ≠ q.1
  inj : ∀ (i j : Nat) d mk ob ok d' mk' ob' ok', es[i]? = some (HE.fresh d mk ob ok) → es[j]? = some (HE.fresh d' mk' ob' ok') → listed.getD i false = true → listed.getD j false = true → i ≠ j →
    ∀ p ∈ ob (β d), ∀ q ∈ ob' (β d'), p.1 ≠ q.1

theorem getD_set {listed : Array Bool} {i j : Nat} (hi : i < listed.size) : (listed.setIfInBounds i true).getD j false = (decide (i = j) || listed.getD j false) := by
  by_cases h : i = j
  · subst h; simp [hi]
  · rw [getD_set_ne false h]; simp [h]

theorem nodup_get {es : List HE} (hn : (es.map HE.dst).Nodup) {i j : Nat} {e e' : HE} (hi : es[i]? = some e) (hj : es[j]? = some e') (h : e.dst = e'.dst) : i = j := by
  have h1 : (es.map HE.dst)[i]? = some e.dst := by simp [hi]
  have h2 : (es.map HE.dst)[j]? = some e.dst := by simp [hj, h]
  have hil : i < (es.map HE.dst).length := (List.getElem?_eq_some_iff.1 h1).1
  have hjl : j < (es.map HE.dst).length := (List.getElem?_eq_some_iff.1 h2).1
  rw [List.getElem?_eq_getElem hil] at h1
  rw [List.getElem?_eq_getElem hjl] at h2
  exact (List.getElem_inj hn).1 ((Option.some.inj h1).trans (Option.some.inj h2).symm)

theorem HInv.closure {m : Nat} {es : List HE} {listed : Array Bool} {β : Nat → Prm} {a : Act} {w : World} (I : HInv n K G w0 ops m F0 H0 es listed β a w) (hc : clOK ops cl = true) :
    ∀ k, k < ops.size → (∀ e ∈ depsOf ops k, listed.getD e false = true) → ∀ j ∈ clAt cl k, listed.getD j false = true := by
  intro k
  induction k using Nat.strongRecOn with
  | _ k ih =>
    intro hk hd j hj
    have h1 := List.all_eq_true.1 (List.all_eq_true.1 hc k (List.mem_range.2 hk)) j hj
    simp only [Bool.and_eq_true, Bool.or_eq_true, decide_eq_true_eq] at h1
    rcases h1.2 with h2 | h2
    · exact hd j (by simpa using h2)
    · obtain ⟨i, hi, hi2⟩ := List.any_eq_true.1 h2
      simp only [Bool.and_eq_true, decide_eq_true_eq] at hi2
      refine ih i hi2.1 (by omega) (fun e he => ?_) j (by simpa using hi2.2)
      have hl := hd i hi
      unfold depsOf at he
      cases ho : ops[i]? with
      | none => simp [ho] at he
      | some o =>
        simp only [ho] at he
        obtain ⟨x, hx, rfl⟩ := List.mem_map.1 he
        rw [List.mem_filter] at hx
        exact I.closed i o ho hl x (by simpa using hx.1) hx.2

/-- One step of the head: entry i is carried out and leaves its value. -/
theorem HInv.step {m : Nat} {es : List HE} {listed : Array Bool} {β : Nat → Prm} {a : Act} {w w' : World} (I : HInv n K G w0 ops m F0 H0 es listed β a w) {i : Nat} {e : HE} {d : Nat} {v : Value}
    (he : es[i]? = some e) (hd : e.dst = d) (hv : e.val β = v) (hne : ∀ d mk ob ok, e ≠ .fresh d mk ob ok) (hnd : (es.map HE.dst).Nodup) (hfree : ∀ e ∈ es, e.dst < n ∧ look F0 e.dst = none) (him : i < m) (hil : i < ops.size)
    (hdeps : ∀ x ∈ depsOf ops i, listed.getD x false = true) (hb : Below w.heap.size w w') : HInv n K G w0 ops m F0 H0 es (listed.setIfInBounds i true) β (a.put (some d) v) w' := by
  subst hd
  have hils : i < listed.size := by rw [I.lsize]; exact hil
  have hlisted : ∀ j, (listed.setIfInBounds i true).getD j false = true → j = i ∨ listed.getD j false = true := fun j hj => by
    rw [getD_set hils] at hj
    simp at hj
    rcases hj with h | h
    · exact .inl h.symm
    · exact .inr (by simpa using h)
  have hdn : e.dst < n := (hfree e (List.mem_of_getElem? he)).1
  have hF0 : look F0 e.dst = none := (hfree e (List.mem_of_getElem? he)).2
  refine ⟨by simp [I.lsize], ?_, fun t ht => by rw [getD_set_ne false (by omega)]; exact I.tail t ht, by simp [Act.put, I.size], by simp [Act.put, I.defers], ?_, ?_, I.blocks.below hb, I.old.below hb, ?_, ?_⟩
  · intro j oj hj hl x hx hbd
    rcases hlisted j hl with rfl | hl
    · refine getD_set_true (hdeps x.on ?_)
      unfold depsOf
      rw [hj]
      exact List.mem_map.2 ⟨x, List.mem_filter.2 ⟨by simpa using hx, hbd⟩, rfl⟩
    · exact getD_set_true (I.closed j oj hj hl x hx hbd)
  · intro t u ht
    have hne : e.dst ≠ t := fun h => by rw [← h, hF0] at ht; cases ht
    simp [Act.put, hne]
    exact I.slots t u ht
  · intro j e' hj hl
    by_cases hji : j = i
    · subst hji
      have : e' = e := Option.some.inj (hj.symm.trans he)
      subst this
      show (a.tmps.setIfInBounds e'.dst v)[e'.dst]? = some (e'.val β)
      rw [Array.getElem?_setIfInBounds_self_of_lt (by rw [I.size]; exact hdn), hv]
    · have h1 := (hlisted j hl).resolve_left hji
      have hne : e'.dst ≠ e.dst := fun h => hji (nodup_get hnd hj he h)
      show (a.tmps.setIfInBounds e.dst v)[e'.dst]? = _
      rw [Array.getElem?_setIfInBounds_ne (fun h => hne h.symm)]
      exact I.vals j e' hj h1
  · intro j d' mk' o' ok' hj hl
    have hji : j ≠ i := by rintro rfl; rw [he] at hj; exact hne _ _ _ _ (Option.some.inj hj)
    have h1 := I.news j d' mk' o' ok' hj ((hlisted j hl).resolve_left hji)
    exact ⟨h1.1.below hb, h1.2⟩
  · intro i' j' d1 mk1 o1 ok1 d2 mk2 o2 ok2 h1 h2 l1 l2 hij
    have hi' : i' ≠ i := by rintro rfl; rw [he] at h1; exact hne _ _ _ _ (Option.some.inj h1)
    have hj' : j' ≠ i := by rintro rfl; rw [he] at h2; exact hne _ _ _ _ (Option.some.inj h2)
    exact I.inj i' j' d1 mk1 o1 ok1 d2 mk2 o2 ok2 h1 h2 ((hlisted _ l1).resolve_left hi') ((hlisted _ l2).resolve_left hj') hij

theorem HInv.avail {m : Nat} {es : List HE} {listed : Array Bool} {β : Nat → Prm} {a : Act} {w : World} (I : HInv n K G w0 ops m F0 H0 es listed β a w) {pl : List Nat} (hpl : ∀ j ∈ pl, listed.getD j false = true) :
    Slots (avF F0 es pl β) a ∧ Blocks (avH H0 es pl β) w ∧ allOk β (pickE es pl) := by
  refine ⟨?_, ?_, ?_⟩
  · intro t v ht
    rcases look_append ht with h1 | h1
    · obtain ⟨e', he', rfl, rfl⟩ := look_allF h1
      obtain ⟨j, hj, hje⟩ := mem_pickE he'
      exact I.vals j e' hje (hpl j hj)
    · exact I.slots t v h1
  · intro p hp
    rcases List.mem_append.1 hp with h1 | h1
    · obtain ⟨d, mk, o, ok, he', hpo⟩ := mem_allH h1
      obtain ⟨j, hj, hje⟩ := mem_pickE he'
      exact (I.news j d mk o ok hje (hpl j hj)).1 p hpo
    · exact I.blocks p h1
  · exact allOk_of fun d mk ob ok hm => by
      obtain ⟨j, hj, hje⟩ := mem_pickE hm
      exact (I.news j d mk ob ok hje (hpl j hj)).2.2.1

theorem least_unlisted {listed : Array Bool} {m : Nat} (h : ∃ i, i < m ∧ listed.getD i false = false) : ∃ k, k < m ∧ listed.getD k false = false ∧ ∀ j, j < k → listed.getD j false = true := by
  have hleast : ∀ (b : Nat), ∀ i, i ≤ b → i < m → listed.getD i false = false → ∃ k, k < m ∧ listed.getD k false = false ∧ ∀ j, j < k → listed.getD j false = true := by
    intro b
    induction b with
    | zero => intro i hi h1 h2; exact ⟨i, h1, h2, fun j hj => by omega⟩
    | succ b ihb =>
      intro i hi h1 h2
      by_cases hall : ∀ j, j < i → listed.getD j false = true
      · exact ⟨i, h1, h2, hall⟩
      · have : ∃ j, j < i ∧ listed.getD j false = false := by
          refine Classical.byContradiction fun hno => hall fun j hj => ?_
          cases hb : listed.getD j false with
          | true => rfl
          | false => exact absurd ⟨j, hj, hb⟩ hno
        obtain ⟨j, hj, hju⟩ := this
        exact ihb j (by omega) (by omega) hju
  obtain ⟨i, h1, h2⟩ := h
  exact hleast i i (Nat.le_refl _) h1 h2

theorem count_set {listed : Array Bool} {m i fuel : Nat} (him : i < m) (hil : i < listed.size) (hun : listed.getD i false = false) (hf : ((List.range m).filter fun j => !listed.getD j false).length = fuel + 1) :
    ((List.range m).filter fun j => !(listed.setIfInBounds i true).getD j false).length = fuel := by
  have e1 : ((List.range m).filter fun j => !(listed.setIfInBounds i true).getD j false) = ((List.range m).filter fun j => !listed.getD j false).filter (fun j => j != i) := by
    rw [List.filter_filter]
    apply List.filter_congr
    intro j _
    rw [getD_set hil]
    by_cases hij : i = j
    · subst hij; simp
    · have hji : (j != i) = true := by rw [bne_iff_ne]; exact fun h => hij h.symm
      simp [hij, hji]
  rw [e1]
  have hmem : i ∈ ((List.range m).filter fun j => !listed.getD j false) := List.mem_filter.2 ⟨List.mem_range.2 him, by simp [hun]⟩
  have hndr : ((List.range m).filter fun j => !listed.getD j false).Nodup := List.nodup_range.filter _
  have := hndr.erase_eq_filter i
  rw [← this, List.length_erase_of_mem hmem, hf]
  rfl

theorem canon_of {listed : Array Bool} {m s : Nat} (hs : listed.size = s) (hall : ∀ i, i < m → listed.getD i false = true) (htail : ∀ i, m ≤ i → listed.getD i false = false) : listed = canon m s := by
  apply Array.ext
  · simp [canon, hs]
  · intro i h1 h2
    simp only [canon, List.getElem_toArray, List.getElem_map, List.getElem_range]
    have e : listed[i] = listed.getD i false := by simp [h1]
    rw [e]
    by_cases him : i < m
    · simp [hall i him, him]
    · simp [htail i (by omega), him]

theorem W.draw {id : Nat} {l : List Oper} {Q : Exit → Fr → Hp → Prop} (hm : P.follows .mixedOrders = true) (m : Nat) (cl : List (List Nat)) (hlt : ∀ i, ∀ j ∈ clAt cl i, j < i)
    (h : Head P K G w0 l.toArray cl F0 H0 (fun es => drawOK n l.toArray m cl F0 es = true ∧ ∀ β, allOk β es → OpsW P n K G w0 l.toArray (l.drop m) (Q .normal) (allF β es ++ F0) (allH β es ++ H0)) 0 []) :
    W P n K G w0 (.region id l.toArray true) Q F0 H0 := by
  intro a w r
  obtain ⟨es, ⟨hok, htail⟩, hes⟩ := h.out rfl hlt (fun i hi => by simp at hi)
  simp only [drawOK, Bool.and_eq_true, decide_eq_true_eq] at hok
  obtain ⟨⟨⟨⟨⟨⟨⟨⟨⟨⟨hlen, hms⟩, hcl⟩, hnd⟩, hdst⟩, hdeps⟩, hsink⟩, hsel⟩, hfl⟩, hseq⟩, hdp⟩ := hok
  have hnd' := nodupB_eq hnd
  have hfree : ∀ e ∈ es, e.dst < n ∧ look F0 e.dst = none := fun e he => by
    have := List.all_eq_true.1 hdst e he
    simp at this; exact this
  refine wp_mono (Q := fun e a' w' => e = Exit.normal ∧ ∃ F' H', Q .normal F' H' ∧ Rep n K G w0 F' H' a' w') (wp_region_any hm ?_) (fun e a' w' ⟨he, F', H', q, r'⟩ => by subst he; exact ⟨F', H', q, r'⟩)
  have hdepsOf : ∀ k, k < m → ∀ j ∈ depsOf l.toArray k, j < k := fun k hk j hj => by
    have h1 := List.all_eq_true.1 hdeps k (List.mem_range.2 (by omega))
    simp only [Bool.or_eq_true, decide_eq_true_eq] at h1
    simpa using List.all_eq_true.1 (h1.resolve_left (by omega)) j hj
  -- the head is done but for what floats
  have fin : ∀ (fuel : Nat) (listed : Array Bool) (β : Nat → Prm) (a : Act) (w : World), HInv n K G w0 l.toArray m F0 H0 es listed β a w →
      (∀ i, i < m → floatAt es i = false → listed.getD i false = true) → ((List.range m).filter fun i => !listed.getD i false).length = fuel →
      wpAny P .any l.toArray (fun e a' w' => e = Exit.normal ∧ ∃ F' H', Q .normal F' H' ∧ Rep n K G w0 F' H' a' w') (fuel + (l.toArray.size - m)) listed a w := by
    intro fuel
    induction fuel with
    | zero =>
      intro listed β a w I _ hf
      have hall : ∀ i, i < m → listed.getD i false = true := fun i hi => by
        have h0 := List.eq_nil_of_length_eq_zero hf
        have := List.filter_eq_nil_iff.1 h0 i (List.mem_range.2 hi)
        simpa using this
      have hcan : listed = canon m l.toArray.size := canon_of I.lsize hall I.tail
      have hR : Rep n K G w0 (allF β es ++ F0) (allH β es ++ H0) a w := by
        refine ⟨I.size, I.defers, ?_, ?_, ?_, ?_, I.old⟩
        · intro t v ht
          rcases look_append ht with h1 | h1
          · obtain ⟨e, he, rfl, rfl⟩ := look_allF h1
            obtain ⟨j, hj, hje⟩ := List.getElem_of_mem he
            exact I.vals j e (by rw [List.getElem?_eq_getElem hj, hje]) (hall j (by omega))
          · exact I.slots t v h1
        · intro p hp
          rcases List.mem_append.1 hp with h1 | h1
          · obtain ⟨d, mk, o, ok, he, hpo⟩ := mem_allH h1
            obtain ⟨j, hj, hje⟩ := List.getElem_of_mem he
            exact (I.news j d mk o ok (by rw [List.getElem?_eq_getElem hj, hje]) (hall j (by omega))).1 p hpo
          · exact I.blocks p h1
        · rw [List.map_append, List.nodup_append]
          refine ⟨?_, r.nodup, ?_⟩
          · -- the new blocks are apart
            have key : ∀ (es' : List HE), (∀ e ∈ es', e ∈ es) → (es'.map HE.dst).Nodup → ((allH β es').map (·.1)).Nodup := by
              intro es' hsub hn'
              induction es' with
              | nil => simp [allH]
              | cons e r ih =>
                have ih' := ih (fun e he => hsub e (by simp [he])) (by simp at hn'; exact hn'.2)
                cases e with
                | det d v => exact ih'
                | flt d v => exact ih'
                | dep d ds g => exact ih'
                | fresh d mk o ok =>
                  obtain ⟨i, hi, hie⟩ := List.getElem_of_mem (hsub (.fresh d mk o ok) (by simp))
                  have hgi : es[i]? = some (.fresh d mk o ok) := by rw [List.getElem?_eq_getElem hi, hie]
                  simp only [allH, List.map_append, List.nodup_append]
                  refine ⟨(I.news i d mk o ok hgi (hall i (by omega))).2.1, ih', fun x hx y hy hxy => ?_⟩
                  obtain ⟨p, hp, rfl⟩ := List.mem_map.1 hx
                  obtain ⟨q, hq, rfl⟩ := List.mem_map.1 hy
                  obtain ⟨d', mk', o', ok', he', hqo⟩ := mem_allH hq
                  obtain ⟨j, hj, hje⟩ := List.getElem_of_mem (hsub (.fresh d' mk' o' ok') (by simp [he']))
                  have hne : i ≠ j := by
                    rintro rfl
                    have : HE.fresh d mk o ok = HE.fresh d' mk' o' ok' := hie.symm.trans hje
                    have hd : d = d' := by injection this
                    simp only [List.map_cons, List.nodup_cons] at hn'
                    exact hn'.1 (List.mem_map.2 ⟨_, he', by simp [HE.dst, hd]⟩)
                  exact I.inj i j d mk o ok d' mk' o' ok' hgi (by rw [List.getElem?_eq_getElem hj, hje]) (hall i (by omega)) (hall j (by omega)) hne p hp q hqo hxy
            exact key es (fun _ he => he) hnd'
          · intro x hx y hy hxy
            obtain ⟨p, hp, rfl⟩ := List.mem_map.1 hx
            obtain ⟨q, hq, rfl⟩ := List.mem_map.1 hy
            obtain ⟨d, mk, o, ok, he, hpo⟩ := mem_allH hp
            obtain ⟨j, hj, hje⟩ := List.getElem_of_mem he
            exact ((I.news j d mk o ok (by rw [List.getElem?_eq_getElem hj, hje]) (hall j (by omega))).2.2.2 p hpo).2 q hq hxy.symm
        · intro p hp
          rcases List.mem_append.1 hp with h1 | h1
          · obtain ⟨d, mk, o, ok, he, hpo⟩ := mem_allH h1
            obtain ⟨j, hj, hje⟩ := List.getElem_of_mem he
            exact .inr ((I.news j d mk o ok (by rw [List.getElem?_eq_getElem hj, hje]) (hall j (by omega))).2.2.2 p hpo).1
          · exact r.mine p h1
      have hOk : allOk β es := allOk_of fun d mk ob ok hm => by
        obtain ⟨j, hj, hje⟩ := List.getElem_of_mem hm
        exact (I.news j d mk ob ok (by rw [List.getElem?_eq_getElem hj, hje]) (hall j (by omega))).2.2.1
      have hdl : (l.drop m).length = l.toArray.size - m := by simp
      rw [Nat.zero_add, ← hdl]
      refine wpAny_of_seq (l.drop m) m listed a w (fun j => by simp [List.getElem?_drop]) (by rw [hdl, hcan]; exact hseq) ?_
      exact htail β hOk a w _ hR fun F' H' a' w' q r' => ⟨rfl, F', H', q, r'⟩
    | succ fuel ih =>
      intro listed β a w I hnf hf
      have hex : ∃ i, i < m ∧ listed.getD i false = false := by
        have hne : ((List.range m).filter fun i => !listed.getD i false) ≠ [] := fun h => by rw [h] at hf; simp at hf
        obtain ⟨i, hi⟩ := List.exists_mem_of_ne_nil _ hne
        rw [List.mem_filter, List.mem_range] at hi
        exact ⟨i, hi.1, by simpa using hi.2⟩
      obtain ⟨k, hkm, hku, hkall⟩ := least_unlisted hex
      have hks : k < l.toArray.size := by omega
      obtain ⟨e, he, -, hy⟩ := hes k (by omega)
      have hfk : floatAt es k = true := by
        cases hb : floatAt es k with
        | true => rfl
        | false => rw [hnf k hkm hb] at hku; cases hku
      have hef : ∃ d v, e = .flt d v := by
        unfold floatAt at hfk
        rw [he] at hfk
        cases e with
        | flt d v => exact ⟨d, v, rfl⟩
        | _ => simp [HE.floats] at hfk
      obtain ⟨d, v, rfl⟩ := hef
      obtain ⟨oi, hoi, hod, hyl⟩ := hy d v rfl
      have hd : ∀ x ∈ depsOf l.toArray k, listed.getD x false = true := fun x hx => hkall x (hdepsOf k hkm x hx)
      have hav := I.avail (I.closure hcl k hks hd)
      have hready : k ∈ Region.ready .any l.toArray listed := by
        rw [mem_ready]
        refine ⟨getD_in (by rw [I.lsize]; exact hks) hku, oi, hoi, fun x hx hb => hd _ ?_⟩
        unfold depsOf
        rw [hoi]
        exact List.mem_map.2 ⟨x, List.mem_filter.2 ⟨by simpa using hx, hb⟩, rfl⟩
      have hfree' := List.all_eq_true.1 hfl k (List.mem_range.2 hkm)
      simp only [hfk, Bool.not_true, Bool.false_or] at hfree'
      rw [show fuel + 1 + (l.toArray.size - m) = (fuel + (l.toArray.size - m)) + 1 by omega]
      refine wpAny_first hoi (Region.noSelect_spec hsel) (fun c a w h => by cases h.1) _ listed a w (fun j oj hj hne hun hno => ?_) hready (hyl β a hav.2.2 hav.1) ?_
      · refine Region.free_spec hoi hfree' j oj hj hne ?_ hno
        have hjs : j < l.toArray.size := (Array.getElem?_eq_some_iff.1 hj).1
        refine getD_in (by simp [headOnly]; simpa using hjs) ?_
        have e1 : (headOnly es l.toArray.size).getD j false = (decide (j < es.length) && !floatAt es j) := by
          have hjl : j < l.length := by simpa using hjs
          simp [headOnly, List.getElem?_range hjl]
        rw [e1]
        by_cases hjm : j < m
        · cases hb : floatAt es j with
          | true => simp
          | false => exact absurd ((hnf j hjm hb).symm.trans (getD_both hun)) (by simp)
        · simp [hlen, hjm]
      · rw [hod]
        refine ih _ β _ w (I.step he rfl rfl (fun _ _ _ _ h => by cases h) hnd' hfree hkm hks hd (Below.refl _ _)) (fun i hi hb => getD_set_true (hnf i hi hb)) (count_set hkm (by rw [I.lsize]; exact hks) hku hf)
  -- the head, in whatever order
  have main : ∀ (fuel : Nat) (listed : Array Bool) (β : Nat → Prm) (a : Act) (w : World), HInv n K G w0 l.toArray m F0 H0 es listed β a w →
      ((List.range m).filter fun i => !listed.getD i false).length = fuel →
      wpAny P .any l.toArray (fun e a' w' => e = Exit.normal ∧ ∃ F' H', Q .normal F' H' ∧ Rep n K G w0 F' H' a' w') (fuel + (l.toArray.size - m)) listed a w := by
    intro fuel
    induction fuel with
    | zero =>
      intro listed β a w I hf
      refine fin 0 listed β a w I (fun i hi _ => ?_) hf
      have h0 := List.eq_nil_of_length_eq_zero hf
      have := List.filter_eq_nil_iff.1 h0 i (List.mem_range.2 hi)
      simpa using this
    | succ fuel ih =>
      intro listed β a w I hf
      by_cases hnf : ∀ i, i < m → floatAt es i = false → listed.getD i false = true
      · exact fin _ listed β a w I hnf hf
      -- what may come up stands in the head
      have hin : ∀ i ∈ Region.ready .any l.toArray listed, i < m ∧ listed.getD i false = false ∧ i < l.toArray.size ∧ ∀ e ∈ depsOf l.toArray i, listed.getD e false = true := by
        intro i hi
        obtain ⟨hun, o, ho, hall⟩ := mem_ready.1 hi
        have hil : i < l.toArray.size := (Array.getElem?_eq_some_iff.1 ho).1
        have hd : ∀ e ∈ depsOf l.toArray i, listed.getD e false = true := fun e he => by
          unfold depsOf at he
          simp only [ho] at he
          obtain ⟨x, hx, rfl⟩ := List.mem_map.1 he
          rw [List.mem_filter] at hx
          exact hall x (by simpa using hx.1) hx.2
        refine ⟨?_, getD_both hun, hil, hd⟩
        rcases Nat.lt_or_ge i m with h | h
        · exact h
        · -- a tail operation waits for all of the head that does not float
          have h1 := List.all_eq_true.1 hsink i (List.mem_range.2 hil)
          simp only [Bool.or_eq_true, decide_eq_true_eq] at h1
          have h2 := h1.resolve_left (by omega)
          have hcl' := I.closure hcl i hil hd
          refine absurd (fun j hj hb => ?_) hnf
          have h3 := List.all_eq_true.1 h2 j (List.mem_range.2 hj)
          simp only [hb, Bool.false_or] at h3
          exact hcl' j (by simpa using h3)
      rw [show fuel + 1 + (l.toArray.size - m) = (fuel + (l.toArray.size - m)) + 1 by omega]
      refine ⟨fun h0 => ?_, fun i hi => ?_⟩
      · -- something may come up: the first that has not
        exfalso
        have hex : ∃ i, i < m ∧ listed.getD i false = false := by
          have hne : ((List.range m).filter fun i => !listed.getD i false) ≠ [] := fun h => by rw [h] at hf; simp at hf
          obtain ⟨i, hi⟩ := List.exists_mem_of_ne_nil _ hne
          rw [List.mem_filter, List.mem_range] at hi
          exact ⟨i, hi.1, by simpa using hi.2⟩
        obtain ⟨k, hkm, hku, hkall⟩ := least_unlisted hex
        have hks : k < l.toArray.size := by omega
        have : k ∈ Region.ready .any l.toArray listed := by
          rw [mem_ready]
          refine ⟨getD_in (by rw [I.lsize]; exact hks) hku, l.toArray[k], by simp, fun e he hb => hkall _ (hdepsOf k hkm _ ?_)⟩
          unfold depsOf
          simp only [show l.toArray[k]? = some l.toArray[k] from by simp]
          exact List.mem_map.2 ⟨e, List.mem_filter.2 ⟨by simpa using he, hb⟩, rfl⟩
        rw [h0] at this
        cases this
      · obtain ⟨him, hun, hil, hd⟩ := hin i hi
        obtain ⟨e, he, H, -⟩ := hes i (by omega)
        obtain ⟨hS, hB, hG⟩ := I.avail (I.closure hcl i hil hd)
        have hils : i < listed.size := by rw [I.lsize]; exact hil
        have hcount := count_set him hils hun hf
        have hlisted : ∀ j, (listed.setIfInBounds i true).getD j false = true → j = i ∨ listed.getD j false = true := fun j hj => by
          rw [getD_set hils] at hj
          simp at hj
          rcases hj with h | h
          · exact .inl h.symm
          · exact .inr (by simpa using h)
        have hdn : e.dst < n := (hfree e (List.mem_of_getElem? he)).1
        have hF0 : look F0 e.dst = none := (hfree e (List.mem_of_getElem? he)).2
        have slots' : ∀ v, Slots F0 (a.put (some e.dst) v) := fun v t u ht => by
          have hne : e.dst ≠ t := fun h => by rw [← h, hF0] at ht; cases ht
          simp [Act.put, hne]
          exact I.slots t u ht
        have closed' : ∀ j oj, l.toArray[j]? = some oj → (listed.setIfInBounds i true).getD j false = true → ∀ x ∈ oj.after, Region.binds .any x = true → (listed.setIfInBounds i true).getD x.on false = true := by
          intro j oj hj hl x hx hb
          rcases hlisted j hl with rfl | hl
          · refine getD_set_true (hd x.on ?_)
            unfold depsOf
            rw [hj]
            exact List.mem_map.2 ⟨x, List.mem_filter.2 ⟨by simpa using hx, hb⟩, rfl⟩
          · exact getD_set_true (I.closed j oj hj hl x hx hb)
        have tail' : ∀ t, m ≤ t → (listed.setIfInBounds i true).getD t false = false := fun t ht => by
          rw [getD_set_ne false (by omega)]; exact I.tail t ht
        have other : ∀ (j : Nat) (e' : HE), es[j]? = some e' → j ≠ i → e'.dst ≠ e.dst := fun j e' hj hne h => hne (nodup_get hnd' hj he h)
        refine H β a w _ _ hG hS hB I.old ?_
        cases e with
        | det d v => exact fun w' hb => ih _ β _ _ (I.step he rfl rfl (fun _ _ _ _ h => by cases h) hnd' hfree him hil hd hb) hcount
        | flt d v => exact fun w' hb => ih _ β _ _ (I.step he rfl rfl (fun _ _ _ _ h => by cases h) hnd' hfree him hil hd hb) hcount
        | dep d ds g => exact fun w' hb => ih _ β _ _ (I.step he rfl rfl (fun _ _ _ _ h => by cases h) hnd' hfree him hil hd hb) hcount
        | fresh d mk ob ok =>
          intro prm w' hok hb hbl hnod hnew
          let β' : Nat → Prm := fun x => if x = d then prm else β x
          have hβ : β' d = prm := by simp [β']
          have hβo : ∀ x, x ≠ d → β' x = β x := fun x hx => by simp [β', hx]
          have valo : ∀ (j : Nat) (e' : HE), es[j]? = some e' → listed.getD j false = true → e'.dst ≠ d → e'.val β' = e'.val β := fun j e' hj hl h => by
            cases e' with
            | det _ _ => rfl
            | flt _ _ => rfl
            | fresh d' mk' o' ok' => simp only [HE.val]; rw [hβo d' (by simpa [HE.dst] using h)]
            | dep d' ds g =>
              have hjl : j < es.length := (List.getElem?_eq_some_iff.1 hj).1
              have hjo : j < l.toArray.size := by omega
              have h1 := List.all_eq_true.1 hdp j (List.mem_range.2 hjl)
              simp only [hj] at h1
              have h2 : ∀ x ∈ ds, x ≠ d := fun x hx => by
                obtain ⟨i0, hi0, hx0⟩ := List.any_eq_true.1 (List.all_eq_true.1 h1 x hx)
                have hl0 := I.closure hcl j hjo (fun e0 he0 => by
                  unfold depsOf at he0
                  rw [show l.toArray[j]? = some l.toArray[j] from by simp] at he0
                  obtain ⟨y, hy, rfl⟩ := List.mem_map.1 he0
                  rw [List.mem_filter] at hy
                  exact I.closed j l.toArray[j] (by simp) hl y (by simpa using hy.1) hy.2) i0 hi0
                have hii : i0 ≠ i := by rintro rfl; rw [hun] at hl0; cases hl0
                cases h3 : es[i0]? with
                | none => rw [h3] at hx0; cases hx0
                | some e0 =>
                  rw [h3] at hx0
                  have h4 := other i0 e0 h3 hii
                  have h5 : e0.dst = x := Nat.eq_of_beq_eq_true hx0
                  rw [← h5]
                  simpa [HE.dst] using h4
              simp only [HE.val]
              congr 1
              exact List.map_congr_left fun x hx => hβo x (h2 x hx)
          refine ih _ β' _ _ ⟨by simp [I.lsize], closed', tail', by simp [Act.put, I.size], by simp [Act.put, I.defers], slots' _, ?_, I.blocks.below hb, I.old.below hb, ?_, ?_⟩ hcount
          · intro j e' hj hl
            by_cases hji : j = i
            · subst hji
              have : e' = .fresh d mk ob ok := Option.some.inj (hj.symm.trans he)
              subst this
              simp only [HE.val, hβ, HE.dst]
              show (a.tmps.setIfInBounds d _)[d]? = some _
              rw [Array.getElem?_setIfInBounds_self_of_lt (by rw [I.size]; exact hdn)]
            · have h1 := (hlisted j hl).resolve_left hji
              have hne := other j e' hj hji
              rw [valo j e' hj h1 (by simpa [HE.dst] using hne)]
              simp [Act.put, Array.getElem?_setIfInBounds, HE.dst] at hne ⊢
              rw [if_neg (fun h => hne h.symm)]
              exact I.vals j e' hj h1
          · intro j d' mk' o' ok' hj hl
            by_cases hji : j = i
            · subst hji
              have : HE.fresh d' mk' o' ok' = .fresh d mk ob ok := Option.some.inj (hj.symm.trans he)
              injection this with e1 e2 e3 e4
              subst e1; subst e3; subst e4
              rw [hβ]
              refine ⟨hbl, hnod, hok, fun q hq => ⟨Nat.le_trans I.old.size (hnew q hq), fun p hp => ?_⟩⟩
              have := lt_of_some (I.blocks p hp)
              have := hnew q hq
              omega
            · have h1 := I.news j d' mk' o' ok' hj ((hlisted j hl).resolve_left hji)
              have hne := other j _ hj hji
              rw [hβo d' (by simpa [HE.dst] using hne)]
              exact ⟨h1.1.below hb, h1.2⟩
          · intro i' j' d1 mk1 o1 ok1 d2 mk2 o2 ok2 h1 h2 l1 l2 hne
            by_cases hi' : i' = i
            · subst hi'
              have : HE.fresh d1 mk1 o1 ok1 = .fresh d mk ob ok := Option.some.inj (h1.symm.trans he)
              injection this with e1 e2 e3 e4
              subst e1; subst e3
              have hj' : j' ≠ i' := fun h => hne h.symm
              have h3 := I.news j' d2 mk2 o2 ok2 h2 ((hlisted _ l2).resolve_left hj')
              have hne' := other j' _ h2 hj'
              rw [hβ, hβo d2 (by simpa [HE.dst] using hne')]
              intro p hp q hq
              have := lt_of_some (h3.1 q hq)
              have := hnew p hp
              omega
            · have h3 := I.news i' d1 mk1 o1 ok1 h1 ((hlisted _ l1).resolve_left hi')
              have hne1 := other i' _ h1 hi'
              rw [hβo d1 (by simpa [HE.dst] using hne1)]
              by_cases hj' : j' = i
              · subst hj'
                have : HE.fresh d2 mk2 o2 ok2 = .fresh d mk ob ok := Option.some.inj (h2.symm.trans he)
                injection this with e1 e2 e3 e4
                subst e1; subst e3
                rw [hβ]
                intro p hp q hq
                have := lt_of_some (h3.1 p hp)
                have := hnew q hq
                omega
              · have hne2 := other j' _ h2 hj'
                rw [hβo d2 (by simpa [HE.dst] using hne2)]
                exact I.inj i' j' d1 mk1 o1 ok1 d2 mk2 o2 ok2 h1 h2 ((hlisted _ l1).resolve_left hi') ((hlisted _ l2).resolve_left hj') hne
  -- the beginning: nothing has come up
  have hrep : ∀ j, (Array.replicate l.toArray.size false).getD j false = false := fun j => getD_replicate_false _ _
  have hcnt : ((List.range m).filter fun i => !(Array.replicate l.toArray.size false).getD i false).length = m := by
    have : ((List.range m).filter fun i => !(Array.replicate l.toArray.size false).getD i false) = List.range m := List.filter_eq_self.2 fun i _ => by rw [hrep]; rfl
    rw [this, List.length_range]
  have := main m (Array.replicate l.toArray.size false) (fun _ => (0, 0, [])) a { w with drawn := w.drawn + 1 }
    ⟨by simp, fun j oj _ hl => absurd hl (by rw [hrep]; simp), fun t _ => hrep t, r.size, r.defers, r.slots, fun j e _ hl => absurd hl (by rw [hrep]; simp), r.blocks,
      ⟨r.old.os, r.old.tape, r.old.output, r.old.size, r.old.old, r.old.ro⟩, fun j d mk o ok _ hl => absurd hl (by rw [hrep]; simp), fun i j d mk o ok d' mk' o' ok' _ _ hl => absurd hl (by rw [hrep]; simp)⟩ hcnt
  rwa [show m + (l.toArray.size - m) = l.toArray.size by omega] at this

end
end Go.Vm

/- Functions, results, slices and calls in the logic of partial frames and heaps. -/
namespace Go.Vm
open Go Go.RowKit

section
variable {P : Program} {n : Nat} {K : List Nat} {G : Hp} {w0 : World}

def argF : Nat → List Value → Fr
  | _, [] => []
  | i, v :: r => (i, v) :: argF (i + 1) r

theorem look_argF : ∀ {l : List Value} {i t : Nat} {v : Value}, look (argF i l) t = some v → i ≤ t ∧ l[t - i]? = some v
  | [], i, t, v, h => by cases h
  | u :: r, i, t, v, h => by
    rw [argF, look_eq] at h
    by_cases hi : i = t
    · subst hi; simp at h ⊢; exact h
    · simp [hi] at h
      obtain ⟨h1, h2⟩ := look_argF h
      refine ⟨by omega, ?_⟩
      rw [show t - i = (t - (i + 1)) + 1 by omega]
      simpa using h2

/-- How a function may end: its results are v, and S holds of them and of the heap. -/
def Done (P : Program) (n : Nat) (K : List Nat) (G : Hp) (w0 : World) (fn : Func) (S : Value → Hp → Prop) : Exit → Fr → Hp → Prop
  | .normal, F, H => ∃ v, (∀ a w, Rep n K G w0 F H a w → (results fn a.tmps).run P w = .ok v w) ∧ S v H
  | .ret, F, H => ∃ v, (∀ a w, Rep n K G w0 F H a w → (results fn a.tmps).run P w = .ok v w) ∧ S v H
  | _, _, _ => False

theorem calls_of_W {f : FuncId} {fn : Func} {code : Code} {args : List Value} {w : World} {S : Value → Hp → Prop} {H0 : Hp} (hf : P.funcs[f]? = some fn) (hb : fn.body = some code) (hn : fn.ntmps = n) (hs : args.length ≤ n)
    (hG : ∀ p ∈ G, w.heap[p.1]? = some p.2 ∧ p.1 ∉ K) (hH : Blocks H0 w) (hd : (H0.map (·.1)).Nodup) (hm : ∀ p ∈ H0, p.1 ∈ K)
    (h : W P n K G w code (Done P n K G w fn S) (argF 0 args) H0) :
    Calls P f args.toArray w fun e w' => ∃ v H', e = .returned v ∧ S v H' ∧ Blocks H' w' ∧ (H'.map (·.1)).Nodup ∧ (∀ p ∈ H', p.1 ∈ K ∨ w.heap.size ≤ p.1) ∧ Old K G w w' := by
  subst hn
  refine calls_of_wp hf hb ?_
  refine wp_mono (h _ w ⟨by simp; omega, rfl, ?_, hH, hd, fun p hp => .inl (hm p hp), ⟨rfl, rfl, rfl, Nat.le_refl _, fun _ _ _ => rfl, hG⟩⟩) ?_
  · intro t v ht
    have := (look_argF ht).2
    simp only [Nat.sub_zero] at this
    have hlt : t < args.length := (List.getElem?_eq_some_iff.1 this).1
    simp [Array.getElem?_append, hlt]
    simpa [hlt] using this
  · rintro e a' w' ⟨F', H', q, r⟩
    cases e with
    | normal => obtain ⟨v, h1, h2⟩ := q; exact ⟨r.defers, v, h1 a' w' r, v, H', rfl, h2, r.blocks, r.nodup, r.mine, r.old⟩
    | ret => obtain ⟨v, h1, h2⟩ := q; exact ⟨r.defers, v, h1 a' w' r, v, H', rfl, h2, r.blocks, r.nodup, r.mine, r.old⟩
    | _ => exact q.elim

theorem Old.toBelow {G : Hp} {w w' : World} (h : Old [] G w w') : Below w.heap.size w w' := ⟨h.os, h.tape, h.output, h.size, fun k hk => h.old k hk (by simp)⟩

/-- A function that writes nothing that was there and hands back a value of its own. -/
theorem pure_of_W {f : FuncId} {fn : Func} {code : Code} {args : List Value} {w : World} {v : Value} (hf : P.funcs[f]? = some fn) (hb : fn.body = some code) (hn : fn.ntmps = n) (hs : args.length ≤ n)
    (hG : Blocks G w) (h : W P n [] G w code (Done P n [] G w fn fun v' _ => v' = v) (argF 0 args) []) : Pure P f args.toArray w v :=
  (calls_of_W hf hb hn hs (fun p hp => ⟨hG p hp, by simp⟩) (fun _ h => by cases h) (by simp) (fun _ h => by cases h) h).mono fun e w' ⟨v', H', he, hv, _, _, _, ho⟩ => ⟨by rw [he, hv], ho.toBelow⟩

/-- The call hands back 'mk p' with the new blocks 'ob p', for some p that is ok, and writes nothing that was there. -/
def Makes (P : Program) (f : FuncId) (args : Array Value) (w : World) (mk : Prm → Value) (ob : Prm → Hp) (ok : Prm → Prop) : Prop :=
  Calls P f args w fun e w' => ∃ p, ok p ∧ e = .returned (mk p) ∧ Blocks (ob p) w' ∧ ((ob p).map (·.1)).Nodup ∧ (∀ q ∈ ob p, w.heap.size ≤ q.1) ∧ Below w.heap.size w w'

theorem makes_of_W {f : FuncId} {fn : Func} {code : Code} {args : List Value} {w : World} {mk : Prm → Value} {ob : Prm → Hp} {ok : Prm → Prop} (hf : P.funcs[f]? = some fn) (hb : fn.body = some code) (hn : fn.ntmps = n) (hs : args.length ≤ n)
    (hG : Blocks G w) (h : W P n [] G w code (Done P n [] G w fn fun v' H' => ∃ p, ok p ∧ v' = mk p ∧ (ob p).Sublist H') (argF 0 args) []) : Makes P f args.toArray w mk ob ok :=
  (calls_of_W hf hb hn hs (fun p hp => ⟨hG p hp, by simp⟩) (fun _ h => by cases h) (by simp) (fun _ h => by cases h) h).mono fun e w' ⟨v', H', he, ⟨p, hp, hv, hsub⟩, h1, h2, h3, ho⟩ =>
    ⟨p, hp, by rw [he, hv], fun q hq => h1 q (hsub.subset hq), (hsub.map _).nodup h2, fun q hq => (h3 q (hsub.subset hq)).resolve_left (by simp), ho.toBelow⟩

/-! ### Results -/
def rvRun (tmps : Array Value) : ResultVar → Sem Value
  | .tmp t => pure (tmps.getD t undef)
  | .cell a t => do loadVar t (← asAddr (tmps.getD a undef))
def RV (P : Program) (n : Nat) (K : List Nat) (G : Hp) (w0 : World) (r : ResultVar) (F : Fr) (H : Hp) (v : Value) : Prop := ∀ a w, Rep n K G w0 F H a w → (rvRun a.tmps r).run P w = .ok v w

variable {F : Fr} {H : Hp} {v : Value}

theorem rv_tmp {t : Tmp} (h : look F t = some v) : RV P n K G w0 (.tmp t) F H v := fun a w r => by
  have := r.slots t v h
  simp [rvRun, this]
theorem rv_cellA {t : Tmp} {ty s b o : Nat} {cs l : List Value} {e : TypeId} {fr : Nat × Nat} (ht : TyA P ty s) (hx : look F t = some (.pointer (some ⟨b, o, none⟩))) (hm : (b, Obj.cells cs.toArray e fr) ∈ H) (hl : cut o s cs = some l) :
    RV P n K G w0 (.cell t ty) F H (.agg l.toArray) := fun a w r => by
  have := r.slots t _ hx
  simp only [rvRun, Sem.run_bind, Array.getD_eq_getD_getElem?, this, Option.getD_some, asAddr, Sem.run_pure, Result.andThen_ok, run_loadA ht (r.blocks _ hm) hl]
theorem rv_cellC {t : Tmp} {ty b o : Nat} {cs : List Value} {e : TypeId} {fr : Nat × Nat} (ht : TyC P ty) (hx : look F t = some (.pointer (some ⟨b, o, none⟩))) (hm : (b, Obj.cells cs.toArray e fr) ∈ H) (hl : cs[o]? = some v) :
    RV P n K G w0 (.cell t ty) F H v := fun a w r => by
  have := r.slots t _ hx
  simp only [rvRun, Sem.run_bind, Array.getD_eq_getD_getElem?, this, Option.getD_some, asAddr, Sem.run_pure, Result.andThen_ok, run_loadC ht (r.blocks _ hm) hl]

theorem results_eq (fn : Func) (tmps : Array Value) : results fn tmps = (do
    let vs ← fn.results.mapM (rvRun tmps)
    pure (if h : vs.size = 1 then vs[0] else .tuple vs)) := by
  unfold results
  congr 1

variable {fn : Func} {S : Value → Hp → Prop}
theorem done1 {r1 : ResultVar} (hr : fn.results = #[r1]) (h1 : RV P n K G w0 r1 F H v) (hS : S v H) : Done P n K G w0 fn S .ret F H :=
  ⟨v, fun a w r => by rw [results_eq, hr]; simp [h1 a w r], hS⟩
theorem done2 {r1 r2 : ResultVar} {v1 v2 : Value} (hr : fn.results = #[r1, r2]) (h1 : RV P n K G w0 r1 F H v1) (h2 : RV P n K G w0 r2 F H v2) (hS : S (.tuple #[v1, v2]) H) : Done P n K G w0 fn S .ret F H :=
  ⟨.tuple #[v1, v2], fun a w r => by rw [results_eq, hr]; simp [h1 a w r, h2 a w r], hS⟩
theorem done3 {r1 r2 r3 : ResultVar} {v1 v2 v3 : Value} (hr : fn.results = #[r1, r2, r3]) (h1 : RV P n K G w0 r1 F H v1) (h2 : RV P n K G w0 r2 F H v2) (h3 : RV P n K G w0 r3 F H v3) (hS : S (.tuple #[v1, v2, v3]) H) : Done P n K G w0 fn S .ret F H :=
  ⟨.tuple #[v1, v2, v3], fun a w r => by rw [results_eq, hr]; simp [h1 a w r, h2 a w r, h3 a w r], hS⟩
theorem done0 (hr : fn.results = #[]) (hS : S (.tuple #[]) H) : Done P n K G w0 fn S .normal F H :=
  ⟨.tuple #[], fun a w r => by rw [results_eq, hr]; simp, hS⟩
theorem done0r (hr : fn.results = #[]) (hS : S (.tuple #[]) H) : Done P n K G w0 fn S .ret F H :=
  ⟨.tuple #[], fun a w r => by rw [results_eq, hr]; simp, hS⟩

variable {d : Option Tmp} {ty : TypeId} {pos : String} {after : Array Edge} {g : Option (Nat × Bool)} {x y : Operand}

/-! ### Calls -/
/-- A call through a function value. -/
theorem det_callv {f : FuncId} {t : Operand} {xs : List Operand} {ats : Array TypeId} {vs caps : List Value} (he : Enters P f) (ht : ev F t = some (.func (.func f) #[] caps.toArray)) (hx : evs F xs = some vs)
    (h : ∀ w, Blocks H w → Old K G w0 w → Pure P f (vs ++ caps).toArray w v) :
    Det P K G w0 ⟨d, .call { callee := .value t, args := xs.toArray, argTypes := ats }, ty, pos, after, g⟩ F H v :=
  fun a w hs hb ho next Qx hn => by
    have hm := evs_map hs hx
    unfold Oper.wp
    have : (execOp a.eval ⟨d, .call { callee := .value t, args := xs.toArray, argTypes := ats }, ty, pos, after, g⟩).run P w = .ok (.enter f (vs ++ caps).toArray) w := by
      simp [execOp, resolve, Deferred.ofValue, hs.ev ht, invoke, hm]; exact he _ _
    rw [this]
    refine (h w hb ho).mono ?_
    rintro e w' ⟨rfl, hw⟩
    exact hn w' hw

theorem new_call {f : FuncId} {xs : List Operand} {ats : Array TypeId} {vs : List Value} {mk : Prm → Value} {ob : Prm → Hp} {ok : Prm → Prop} (he : Enters P f) (hx : evs F xs = some vs)
    (h : ∀ w, Blocks H w → Old K G w0 w → Makes P f vs.toArray w mk ob ok) :
    New P K G w0 ⟨d, .call { callee := .value (.func f), args := xs.toArray, argTypes := ats }, ty, pos, after, g⟩ F H mk ob ok :=
  fun a w hs hb ho next Qx hn => by
    have hm := evs_map hs hx
    unfold Oper.wp
    have : (execOp a.eval ⟨d, .call { callee := .value (.func f), args := xs.toArray, argTypes := ats }, ty, pos, after, g⟩).run P w = .ok (.enter f vs.toArray) w := by
      simp [execOp, resolve, Deferred.ofValue, Act.eval, invoke, hm]; exact he _ _
    rw [this]
    refine (h w hb ho).mono ?_
    rintro e w' ⟨p, hp, rfl, h1, h2, h3, h4⟩
    exact hn p w' hp h4 h1 h2 h3

/-- A call that may write blocks: of the heap H it takes Hf, and leaves H'. -/
def Changes (P : Program) (f : FuncId) (args : Array Value) (w : World) (Hf : Hp) (S : Value → Hp → Prop) : Prop :=
  Calls P f args w fun e w' => ∃ v H', e = .returned v ∧ S v H' ∧ Blocks H' w' ∧ (H'.map (·.1)).Nodup ∧ (∀ p ∈ H', p.1 ∈ Hf.map (·.1) ∨ w.heap.size ≤ p.1) ∧ Old (Hf.map (·.1)) [] w w'

theorem changes_of_W {f : FuncId} {code : Code} {args : List Value} {w : World} {Hf : Hp} (hf : P.funcs[f]? = some fn) (hb : fn.body = some code) (hn : fn.ntmps = n) (hs : args.length ≤ n)
    (hG : ∀ p ∈ G, w.heap[p.1]? = some p.2 ∧ p.1 ∉ Hf.map (·.1)) (hH : Blocks Hf w) (hd : (Hf.map (·.1)).Nodup)
    (h : W P n (Hf.map (·.1)) G w code (Done P n (Hf.map (·.1)) G w fn S) (argF 0 args) Hf) : Changes P f args.toArray w Hf S :=
  (calls_of_W hf hb hn hs hG hH hd (fun p hp => List.mem_map.2 ⟨p, hp, rfl⟩) h).mono fun e w' ⟨v', H', he, hv, h1, h2, h3, ho⟩ =>
    ⟨v', H', he, hv, h1, h2, h3, ⟨ho.os, ho.tape, ho.output, ho.size, ho.old, by simp⟩⟩

theorem Rep.changed {Hf H' : Hp} {a : Act} {w w' : World} (r : Rep n K G w0 F (Hf ++ H) a w) (h1 : Blocks H' w') (h2 : (H'.map (·.1)).Nodup) (h3 : ∀ p ∈ H', p.1 ∈ Hf.map (·.1) ∨ w.heap.size ≤ p.1)
    (ho : Old (Hf.map (·.1)) [] w w') : Rep n K G w0 F (H' ++ H) a w' := by
  have hnd := r.nodup
  rw [List.map_append, List.nodup_append] at hnd
  have hlt : ∀ p ∈ H, p.1 < w.heap.size := fun p hp => lt_of_some (r.blocks p (List.mem_append_right _ hp))
  have hap : ∀ p ∈ H, p.1 ∉ Hf.map (·.1) := fun p hp hm => hnd.2.2 p.1 hm p.1 (List.mem_map.2 ⟨p, hp, rfl⟩) rfl
  refine ⟨r.size, r.defers, r.slots, ?_, ?_, ?_, ?_⟩
  · intro p hp
    rcases List.mem_append.1 hp with hp | hp
    · exact h1 p hp
    · rw [ho.old p.1 (hlt p hp) (hap p hp)]; exact r.blocks p (List.mem_append_right _ hp)
  · rw [List.map_append, List.nodup_append]
    refine ⟨h2, hnd.2.1, fun x hx y hy hxy => ?_⟩
    obtain ⟨p, hp, rfl⟩ := List.mem_map.1 hx
    obtain ⟨q, hq, rfl⟩ := List.mem_map.1 hy
    rcases h3 p hp with h | h
    · exact hap q hq (hxy ▸ h)
    · have := hlt q hq; omega
  · intro p hp
    rcases List.mem_append.1 hp with hp | hp
    · rcases h3 p hp with h | h
      · obtain ⟨q, hq, he⟩ := List.mem_map.1 h
        rw [← he]; exact r.mine q (List.mem_append_left _ hq)
      · exact .inr (Nat.le_trans r.old.size h)
    · exact r.mine p (List.mem_append_right _ hp)
  · refine ⟨ho.os.trans r.old.os, ho.tape.trans r.old.tape, ho.output.trans r.old.output, Nat.le_trans r.old.size ho.size, fun i hi hk => ?_, r.old.ro⟩
    rw [ho.old i (Nat.lt_of_lt_of_le hi r.old.size) ?_]
    · exact r.old.old i hi hk
    · intro hm
      obtain ⟨q, hq, he⟩ := List.mem_map.1 hm
      rcases r.mine q (List.mem_append_left _ hq) with h | h
      · exact hk (he ▸ h)
      · omega

theorem OpsW.change {ops : Array Oper} {rest : List Oper} {dd : Nat} {f : FuncId} {xs : List Operand} {ats : Array TypeId} {vs : List Value} {R : Fr → Hp → Prop} {Hf : Hp} (he : Enters P f) (hx : evs F xs = some vs)
    (hc : ∀ w, Blocks (Hf ++ H) w → ((Hf ++ H).map (·.1)).Nodup → Old K G w0 w → (∀ p ∈ Hf, p.1 ∈ K ∨ w0.heap.size ≤ p.1) → Changes P f vs.toArray w Hf S) (hd : Nat.blt dd n = true)
    (h : ∀ v H', S v H' → OpsW P n K G w0 ops rest R ((dd, v) :: F) (H' ++ H)) :
    OpsW P n K G w0 ops (⟨some dd, .call { callee := .value (.func f), args := xs.toArray, argTypes := ats }, ty, pos, after, none⟩ :: rest) R F (Hf ++ H) :=
  fun a w Qx r hq => wpList_any (by
    have hm := evs_map r.slots hx
    unfold Oper.wp
    have : (execOp a.eval ⟨some dd, .call { callee := .value (.func f), args := xs.toArray, argTypes := ats }, ty, pos, after, none⟩).run P w = .ok (.enter f vs.toArray) w := by
      simp [execOp, resolve, Deferred.ofValue, Act.eval, invoke, hm]; exact he _ _
    rw [this]
    refine (hc w r.blocks r.nodup r.old (fun p hp => r.mine p (List.mem_append_left _ hp))).mono ?_
    rintro e w' ⟨v, H', rfl, hS, h1, h2, h3, ho⟩
    exact h v H' hS _ _ _ ((r.changed h1 h2 h3 ho).put (of_decide_eq_true (by simpa using hd))) hq)

theorem OpsW.perm {ops : Array Oper} {l : List Oper} {R : Fr → Hp → Prop} {H' : Hp} (hp : H'.Perm H) (h : OpsW P n K G w0 ops l R F H') : OpsW P n K G w0 ops l R F H :=
  fun a w Qx r hq => h a w Qx (r.perm hp) hq
theorem OpsW.sub {ops : Array Oper} {l : List Oper} {R : Fr → Hp → Prop} {F' : Fr} {H' : Hp} (hF : Sub F' F) (hp : H'.Sublist H) (h : OpsW P n K G w0 ops l R F' H') : OpsW P n K G w0 ops l R F H :=
  fun a w Qx r hq => h a w Qx (r.sub hF hp) hq
theorem OpsW.keep {ops : Array Oper} {l : List Oper} {R : Fr → Hp → Prop} {F' : Fr} (hF : Sub F' F) (h : OpsW P n K G w0 ops l R F' H) : OpsW P n K G w0 ops l R F H :=
  fun a w Qx r hq => h a w Qx (r.sub hF (List.Sublist.refl _)) hq
/-- What the frames and heaps that are there say may be used. -/
theorem OpsW.facts {ops : Array Oper} {l : List Oper} {R : Fr → Hp → Prop} (h : (H.map (·.1)).Nodup → (∀ p ∈ H, p.1 ∈ K ∨ w0.heap.size ≤ p.1) → OpsW P n K G w0 ops l R F H) : OpsW P n K G w0 ops l R F H :=
  fun a w Qx r hq => h r.nodup r.mine a w Qx r hq

/-! ### Slices -/
structure TyS (P : Program) (t el s bytes : Nat) (zs : List Value) : Prop where
  und : P.underlying t = some (.slice el)
  size : sizeIn P el = some s
  bytes : (P.info? el).map (·.bytes) = some bytes
  zero : ∃ z, (P.info? el).bind (·.zero) = some z ∧ z.cells = zs.toArray
  len : zs.length = s
  pos : 0 < s

theorem det_slice {t el s : Nat} {b o len cap l h : Nat} {lo hi : Option Operand} (hu : P.underlying t = some (.slice el)) (hs0 : sizeIn P el = some s) (hx : ev F x = some (.slice (some ⟨b, o, none⟩) len cap))
    (hlo : match lo with | none => l = 0 | some z => ∃ k, ev F z = some (.int k l)) (hhi : match hi with | none => h = len | some z => ∃ k, ev F z = some (.int k h)) (h1 : l ≤ h) (h2 : h ≤ cap) (hlen : len ≤ cap) :
    Det P K G w0 ⟨d, .slice t x lo hi none, ty, pos, after, g⟩ F H (.slice (some ⟨b, if cap = l then o else o + l * s, none⟩) (h - l) (cap - l)) :=
  det_run fun a w hs _ _ => by
    have key : (Instr.sliceAt t (.slice (some ⟨b, o, none⟩) len cap) (lo.map a.eval) (hi.map a.eval) none).run P w = .ok (.slice (some ⟨b, if cap = l then o else o + l * s, none⟩) (h - l) (cap - l)) w := by
      have e1 : ∀ z k, ev F z = some (.int k (l : Int)) → a.eval z = .int k l := fun z k hz => hs.ev hz
      have e2 : ∀ z k, ev F z = some (.int k (h : Int)) → a.eval z = .int k h := fun z k hz => hs.ev hz
      cases lo with
      | none =>
        subst hlo
        cases hi with
        | none => subst hhi; simp [Instr.sliceAt, Instr.slice, run_underlying hu, Instr.sliceBounds, run_sizeOf hs0, add_off]
        | some z =>
          obtain ⟨k, hk⟩ := hhi
          simp [Instr.sliceAt, Instr.slice, run_underlying hu, Instr.sliceBounds, Instr.sliceBound, asIntOf, run_sizeOf hs0, e2 z k hk, h2, add_off]
      | some z =>
        obtain ⟨k, hk⟩ := hlo
        cases hi with
        | none =>
          subst hhi
          simp [Instr.sliceAt, Instr.slice, run_underlying hu, Instr.sliceBounds, Instr.sliceBound, asIntOf, run_sizeOf hs0, e1 z k hk, h1, add_off]
          split <;> rfl
        | some z' =>
          obtain ⟨k', hk'⟩ := hhi
          simp [Instr.sliceAt, Instr.slice, run_underlying hu, Instr.sliceBounds, Instr.sliceBound, asIntOf, run_sizeOf hs0, e1 z k hk, e2 z' k' hk', h1, h2, add_off]
          split <;> rfl
    simp [execOp, hs.ev hx, key]

/-- A slice of an array behind an address. -/
theorem det_sliceArr {t el s : Nat} {b o len l h : Nat} {lo hi : Option Operand} (hu : P.underlying t = some (.array len el)) (hs0 : sizeIn P el = some s) (hx : ev F x = some (.pointer (some ⟨b, o, none⟩)))
    (hlo : match lo with | none => l = 0 | some z => ∃ k, ev F z = some (.int k l)) (hhi : match hi with | none => h = len | some z => ∃ k, ev F z = some (.int k h)) (h1 : l ≤ h) (h2 : h ≤ len) :
    Det P K G w0 ⟨d, .slice t x lo hi none, ty, pos, after, g⟩ F H (.slice (some ⟨b, if len = l then o else o + l * s, none⟩) (h - l) (len - l)) :=
  det_run fun a w hs _ _ => by
    have key : (Instr.sliceAt t (.pointer (some ⟨b, o, none⟩)) (lo.map a.eval) (hi.map a.eval) none).run P w = .ok (.slice (some ⟨b, if len = l then o else o + l * s, none⟩) (h - l) (len - l)) w := by
      have e1 : ∀ z k, ev F z = some (.int k (l : Int)) → a.eval z = .int k l := fun z k hz => hs.ev hz
      have e2 : ∀ z k, ev F z = some (.int k (h : Int)) → a.eval z = .int k h := fun z k hz => hs.ev hz
      cases lo with
      | none =>
        subst hlo
        cases hi with
        | none => subst hhi; simp [Instr.sliceAt, run_underlying hu, Instr.sureAddr, Instr.sliceBounds, run_sizeOf hs0, add_off]
        | some z =>
          obtain ⟨k, hk⟩ := hhi
          simp [Instr.sliceAt, run_underlying hu, Instr.sureAddr, Instr.sliceBounds, Instr.sliceBound, asIntOf, run_sizeOf hs0, e2 z k hk, h2, add_off]
      | some z =>
        obtain ⟨k, hk⟩ := hlo
        cases hi with
        | none =>
          subst hhi
          simp [Instr.sliceAt, run_underlying hu, Instr.sureAddr, Instr.sliceBounds, Instr.sliceBound, asIntOf, run_sizeOf hs0, e1 z k hk, h1, add_off]
          split <;> rfl
        | some z' =>
          obtain ⟨k', hk'⟩ := hhi
          simp [Instr.sliceAt, run_underlying hu, Instr.sureAddr, Instr.sliceBounds, Instr.sliceBound, asIntOf, run_sizeOf hs0, e1 z k hk, e2 z' k' hk', h1, h2, add_off]
          split <;> rfl
    simp [execOp, hs.ev hx, key]

/-- A slice's literal, laid whole by the model itself. -/
theorem fr_buildSlice {t el len : Nat} {ps : List (Nat × Operand)} {vs : List (Nat × Value)} {cs : List Value} (hx : evps F ps = some vs)
    (hb : SliceTo P t len vs cs el) :
    Fresh P K G w0 ⟨d, .buildSlice t len ps.toArray, ty, pos, after, g⟩ F (fun b => .slice (some ⟨b, 0, none⟩) len len) (blk cs el) :=
  fun a w hs _ => by
    have := evps_map hs hx
    simp [execOp, this, hb w]

/-- A slice that the function itself owns: nil, or at the head of a block whose cells are xs and some spare ones. -/
inductive IsSl (el s : Nat) : Value → Nat → Hp → List Value → Prop
  | nil : IsSl el s (.slice none 0 0) 0 [] []
  | at_ {b len cap : Nat} {xs spare : List Value} (h1 : xs.length = len * s) (h2 : (xs ++ spare).length = cap * s) (h3 : cap ≤ maxLen) : IsSl el s (.slice (some ⟨b, 0, none⟩) len cap) len [(b, blk (xs ++ spare) el)] xs

theorem IsSl.len {el s : Nat} {v : Value} {len : Nat} {hp : Hp} {xs : List Value} (h : IsSl el s v len hp xs) : xs.length = len * s := by
  cases h with
  | nil => simp
  | at_ h1 => exact h1
theorem IsSl.shape {el s : Nat} {v : Value} {len : Nat} {hp : Hp} {xs : List Value} (h : IsSl el s v len hp xs) : ∃ ad cap, v = .slice ad len cap := by
  cases h with
  | nil => exact ⟨none, 0, rfl⟩
  | at_ h1 => exact ⟨_, _, rfl⟩

theorem TyS.info {t el s bytes : Nat} {zs : List Value} (T : TyS P t el s bytes zs) : ∃ i z, P.info? el = some i ∧ i.zero = some z ∧ i.size = s ∧ i.bytes = bytes ∧ z.cells = zs.toArray := by
  obtain ⟨z, hz, hzc⟩ := T.zero
  have hsz := T.size
  have hby := T.bytes
  unfold sizeIn at hsz
  cases hi : P.info? el with
  | none => simp [hi] at hsz
  | some i =>
    simp only [hi, Option.map_some, Option.some.injEq, Option.bind_some] at hsz hby hz
    exact ⟨i, z, rfl, hz, hsz, hby, hzc⟩

/-- append of what lies in a block to a slice of the function's own. -/
theorem OpsW.append {ops : Array Oper} {rest : List Oper} {dd : Nat} {R : Fr → Hp → Prop} {t el s bytes : Nat} {zs : List Value} (T : TyS P t el s bytes zs) {v : Value} {len : Nat} {hp H' : Hp} {xs : List Value}
    (hx : ev F x = some v) (hv : IsSl el s v len hp xs) {b o m c : Nat} {cs news : List Value} {e : TypeId} {fr : Nat × Nat} (hy : ev F y = some (.slice (some ⟨b, o, none⟩) m c))
    (hm : (b, Obj.cells cs.toArray e fr) ∈ hp ++ H' ∨ (b, Obj.cells cs.toArray e fr) ∈ G) (hl : news.length = m * s) (hnews : ∀ j u, news[j]? = some u → cs[o + j]? = some u) (h1 : news.all (·.oneCell') = true)
    (h63 : len + m ≤ maxLen) (hbytes : (len + m) * bytes ≤ 140737488355328) (hd : Nat.blt dd n = true)
    (h : ∀ v' hp', IsSl el s v' (len + m) hp' (xs ++ news) → OpsW P n K G w0 ops rest R ((dd, v') :: F) (hp' ++ H')) :
    OpsW P n K G w0 ops (⟨some dd, .call { callee := .builtin .append, args := #[x, y], argTypes := #[t, t] }, ty, pos, after, none⟩ :: rest) R F (hp ++ H') := by
  intro a w Qx r hq
  refine wpList_any ?_
  have hdn : dd < n := of_decide_eq_true (by simpa using hd)
  obtain ⟨i, z, hi, hz, hsz, hby, hzc⟩ := T.info
  subst hsz
  subst hby
  have hzs : z.cells.size = i.size := by rw [hzc]; simp [T.len]
  have hcell : ∀ j u, news[j]? = some u → w.cell? ((⟨b, o, none⟩ : Addr).add j) = some u := fun j u hj => by
    rw [add_off]
    rcases hm with hm | hm
    · rw [cell_blk (r.blocks _ hm)]; exact hnews j u hj
    · rw [cell_blk (r.old.look hm)]; exact hnews j u hj
  have hsmall : len + m ≤ 9223372036854775807 := by simp only [maxLen] at h63; omega
  have hlen : (xs ++ news).length = (len + m) * i.size := by rw [List.length_append, hv.len, hl, Nat.add_mul]
  unfold Oper.wp
  have hrun : ∀ {u w'}, (Builtin.append_ #[t, t] ty #[v, .slice (some ⟨b, o, none⟩) m c]).run P w = .ok u w' →
      (execOp a.eval ⟨some dd, .call { callee := .builtin .append, args := #[x, y], argTypes := #[t, t] }, ty, pos, after, none⟩).run P w = .ok (.value u) w' := fun hr => by
    simp [execOp, resolve, r.slots.ev hx, r.slots.ev hy, invoke, builtin, hr]
  -- a new block
  have grown : ∀ (old : Nat), (Builtin.append_ #[t, t] ty #[v, .slice (some ⟨b, o, none⟩) m c]).run P w = .ok (.slice (some ⟨w.heap.size, 0, none⟩) (len + m) (grownCap w (len + m) old el))
      (w.drew.alloc (.cells (xs.toArray ++ news.toArray ++ Builtin.zeroCells z.cells (grownCap w (len + m) old el - (len + m))) el)) →
      Oper.upon P ⟨some dd, .call { callee := .builtin .append, args := #[x, y], argTypes := #[t, t] }, ty, pos, after, none⟩ a (wpList P ops Qx rest) Qx
        ((execOp a.eval ⟨some dd, .call { callee := .builtin .append, args := #[x, y], argTypes := #[t, t] }, ty, pos, after, none⟩).run P w) := by
    intro old hr
    rw [hrun hr]
    have hge := grownCap_ge w (len + m) old el
    have hcm := grownCap_le_maxLen w (len + m) old el h63
    have hsl : IsSl el i.size (.slice (some ⟨w.heap.size, 0, none⟩) (len + m) (grownCap w (len + m) old el)) (len + m)
        [(w.heap.size, blk ((xs ++ news) ++ (Builtin.zeroCells z.cells (grownCap w (len + m) old el - (len + m))).toList) el)] (xs ++ news) := by
      refine .at_ hlen ?_ hcm
      simp only [List.length_append, Array.length_toList, size_zeroCells, hzs] at hlen ⊢
      rw [hlen, ← Nat.add_mul]
      congr 1
      omega
    have hb : Below w.heap.size w (w.drew.alloc (.cells (xs.toArray ++ news.toArray ++ Builtin.zeroCells z.cells (grownCap w (len + m) old el - (len + m))) el)) :=
      ((Below.refl _ _).drew).alloc (Nat.le_refl _) _
    have hR := (r.less (H' := H') (List.sublist_append_right _ _)).new (d := dd) (v := .slice (some ⟨w.heap.size, 0, none⟩) (len + m) (grownCap w (len + m) old el)) hdn hb
      (H' := [(w.heap.size, blk ((xs ++ news) ++ (Builtin.zeroCells z.cells (grownCap w (len + m) old el - (len + m))).toList) el)]) (by
        intro p hp
        simp only [List.mem_singleton] at hp
        subst hp
        show (w.drew.heap.push _)[w.heap.size]? = some _
        have : w.drew.heap.size = w.heap.size := rfl
        rw [← this, Array.getElem?_push_size]
        congr 2
        apply Array.ext'
        simp) (by simp) (by simp)
    exact h _ _ hsl _ _ _ hR hq
  cases hv with
  | nil =>
    by_cases hm0 : m = 0
    · subst hm0
      have hn : news = [] := List.eq_nil_of_length_eq_zero (by simpa using hl)
      subst hn
      rw [hrun (u := .slice none 0 0) (w' := w) (by simp [Builtin.append_, run_underlying T.und, sizeOf, typeInfo, hi, Builtin.lenOf, Builtin.firstCells, loadCells, loadCellsFrom])]
      exact h _ _ .nil _ _ _ (r.put hdn) hq
    · have hr := run_append_nil (P := P) w t ty el i z T.und hi hz ⟨b, o, none⟩ m c news hl hcell (by omega) (by omega) (by have hb := hbytes; simp only [Nat.zero_add] at hb; omega)
      refine grown 0 ?_
      simp only [Nat.zero_add, Array.empty_append]
      exact hr
  | @at_ g _ cap _ spare h1' h2' h3' =>
    have hg := r.blocks (g, blk (xs ++ spare) el) (by simp)
    by_cases hroom : len + m ≤ cap
    · have hfit : len * i.size + news.length ≤ (xs ++ spare).toArray.size := by
        rw [List.size_toArray, h2', hl, ← Nat.add_mul]; exact Nat.mul_le_mul_right _ hroom
      have hr := run_append_room (P := P) (ty := ty) w t el i T.und hi g len cap (xs ++ spare).toArray hg ⟨b, o, none⟩ m c news hl hcell (fun u hu => (List.all_eq_true.1 h1) u hu) hroom hfit
      rw [hrun hr]
      have e1 : ((xs ++ spare).toArray.toList.take (len * i.size) ++ news ++ (xs ++ spare).toArray.toList.drop (len * i.size + news.length)).toArray = ((xs ++ news) ++ spare.drop news.length).toArray := by
        simp [← h1', List.drop_append]
      rw [e1]
      have hsl : IsSl el i.size (.slice (some ⟨g, 0, none⟩) (len + m) cap) (len + m) [(g, blk ((xs ++ news) ++ spare.drop news.length) el)] (xs ++ news) := by
        refine .at_ hlen ?_ h3'
        simp only [List.length_append, List.length_drop, List.size_toArray] at h2' hfit ⊢
        omega
      exact h _ _ hsl _ _ _ ((r.wrote (H' := (g, blk ((xs ++ news) ++ spare.drop news.length) el) :: H') (.here (H := H')) (setRow_wrote hg)).put hdn) hq
    · have holds : ∀ j u, xs[j]? = some u → w.cell? ((⟨g, 0, none⟩ : Addr).add j) = some u := fun j u hj => by
        rw [add_off, cell_blk hg, Nat.zero_add, List.getElem?_append_left (List.getElem?_eq_some_iff.1 hj).1]; exact hj
      exact grown cap (run_append_grow (P := P) w t ty el i z T.und hi hz ⟨g, 0, none⟩ len cap xs h1' holds ⟨b, o, none⟩ m c news hl hcell (by omega) (by omega) (growslice_fits (by omega) hbytes))

/-- make. -/
def zrep (zs : List Value) (c : Nat) : List Value := (List.replicate c zs).flatten
theorem zrep_length {zs : List Value} {c : Nat} : (zrep zs c).length = c * zs.length := by
  unfold zrep; rw [List.length_flatten]; simp
theorem zrep_get {zs : List Value} : ∀ {c i : Nat}, i < c * zs.length → (zrep zs c)[i]? = zs[i % zs.length]?
  | 0, i, h => by simp at h
  | c + 1, i, h => by
    unfold zrep
    rw [List.replicate_succ, List.flatten_cons]
    by_cases hi : i < zs.length
    · rw [List.getElem?_append_left hi, Nat.mod_eq_of_lt hi]
    · have hz : 0 < zs.length := by
        rcases Nat.eq_zero_or_pos zs.length with h0 | h0
        · rw [h0] at h; simp at h
        · exact h0
      rw [List.getElem?_append_right (by omega)]
      have := zrep_get (zs := zs) (c := c) (i := i - zs.length) (by rw [Nat.succ_mul] at h; omega)
      unfold zrep at this
      rw [this]
      congr 1
      rw [Nat.mod_eq_sub_mod (by omega : i ≥ zs.length)]

theorem fr_makeSlice {t el s bytes l c : Nat} {zs : List Value} (T : TyS P t el s bytes zs) {kl kc : IntKind} (hx : ev F x = some (.int kl (l : Int))) (hy : ev F y = some (.int kc (c : Int))) (hlc : l ≤ c) (hby : bytes * c ≤ 281474976710656) (h63 : c ≤ 9223372036854775807) :
    Fresh P K G w0 ⟨d, .makeSlice t x y, ty, pos, after, g⟩ F (fun b => .slice (some ⟨b, 0, none⟩) l c) (blk (zrep zs c) el) :=
  fun a w hs _ => by
    obtain ⟨i, z, hi, hz, hsz, hb, hzc⟩ := T.info
    subst hsz
    subst hb
    have w1 : IntKind.i64.wrap (l : Int) = l := IntWalk.i64_in _ (by omega)
    have w2 : IntKind.i64.wrap (c : Int) = c := IntWalk.i64_in _ (by omega)
    have hbig : ¬ (281474976710656 < (i.bytes : Int) * (c : Int)) := by
      have : ((i.bytes * c : Nat) : Int) ≤ 281474976710656 := Int.ofNat_le.2 hby
      rw [Int.natCast_mul] at this; omega
    have cells : ((Array.range (c * i.size)).map fun j => z.cells[j % z.cells.size]!) = (zrep zs c).toArray := by
      apply Array.ext'
      apply List.ext_getElem?
      intro j
      simp only [Array.toList_map, Array.toList_range, List.getElem?_map]
      by_cases hj : j < c * i.size
      · rw [List.getElem?_range hj, Option.map_some, hzc]
        rw [zrep_get (by rw [T.len]; exact hj)]
        have hlt : j % zs.length < zs.length := Nat.mod_lt _ (by rw [T.len]; exact T.pos)
        simp [hlt]
      · rw [List.getElem?_eq_none (by simp; omega), List.getElem?_eq_none (by rw [zrep_length, T.len]; omega)]
        rfl
    have e0 : ¬ ((l : Int) < 0) := by omega
    have e1 : ¬ ((c : Int) < 0) := by omega
    have e2 : ¬ ((c : Int) < (l : Int)) := by omega
    by_cases hn : c * i.size = 0
    · have hc0 : (zrep zs c) = [] := List.eq_nil_of_length_eq_zero (by rw [zrep_length, T.len]; exact hn)
      simp [execOp, hs.ev hx, hs.ev hy, Instr.makeSlice, run_underlying T.und, asInt, asIntOf, typeInfo, hi, w1, w2, hbig, sizeOf, hn, hc0, newRow, newObj, e0, e1, e2]
      rw [show Array.map (fun _ => (default : Value)) (Array.range 0) = #[] from by apply Array.ext'; simp]
      rfl
    · simp [execOp, hs.ev hx, hs.ev hy, Instr.makeSlice, run_underlying T.und, asInt, asIntOf, typeInfo, hi, hz, zeroValue, w1, w2, hbig, sizeOf, hn, cells, newRow, newObj, e0, e1, e2]
      rfl
end
end Go.Vm

/- Short steps for walks that are written by a program, in the logic of partial frames and heaps. -/
namespace Go.Vm
open Go Go.RowKit

section
variable {P : Program} {n : Nat} {K : List Nat} {G : Hp} {w0 : World} {Q : Exit → Fr → Hp → Prop} {F F' : Fr} {H H' : Hp}

/-- The codes that follow, one behind the other, and then Q. -/
def stk (P : Program) (n : Nat) (K : List Nat) (G : Hp) (w0 : World) : List Code → (Exit → Fr → Hp → Prop) → Exit → Fr → Hp → Prop
  | [], Q => Q
  | c :: r, Q => fun e F H => match e with
    | .normal => W P n K G w0 c (stk P n K G w0 r Q) F H
    | e => Q e F H

theorem stk_ret {r : List Code} (h : Q .ret F H) : stk P n K G w0 r Q .ret F H := by cases r <;> exact h
theorem stk_exit {r : List Code} {id : Nat} (h : Q (.exit id) F H) : stk P n K G w0 r Q (.exit id) F H := by cases r <;> exact h

theorem sStart {c : Code} (h : W P n K G w0 c (stk P n K G w0 [] Q) F H) : W P n K G w0 c Q F H := h
theorem sSeq {x y : Code} {r : List Code} (h : W P n K G w0 x (stk P n K G w0 (y :: r) Q) F H) : W P n K G w0 (.seq x y) (stk P n K G w0 r Q) F H := by
  refine W.seq (h.mono fun e F H q => ?_)
  cases e with
  | normal => exact q
  | ret => exact stk_ret q
  | exit id => exact stk_exit q
  | goto l => cases r <;> exact q
  | panic c => cases r <;> exact q
  | outgrown => cases r <;> exact q
theorem sSkip {c : Code} {r : List Code} (h : W P n K G w0 c (stk P n K G w0 r Q) F H) : W P n K G w0 .skip (stk P n K G w0 (c :: r) Q) F H := W.skip h
theorem sSkip0 (h : Q .normal F H) : W P n K G w0 .skip (stk P n K G w0 [] Q) F H := W.skip h
theorem sRet {r : List Code} (h : Q .ret F H) : W P n K G w0 .ret (stk P n K G w0 r Q) F H := W.ret (stk_ret h)
theorem sExit {r : List Code} {id : Nat} (h : Q (.exit id) F H) : W P n K G w0 (.exit id) (stk P n K G w0 r Q) F H := W.exit (stk_exit h)
theorem sBlock {id : Nat} {c : Code} {r : List Code} (h : W P n K G w0 c (stk P n K G w0 [] (inBlk id (stk P n K G w0 r Q))) F H) : W P n K G w0 (.block id c) (stk P n K G w0 r Q) F H := W.block h
theorem sLoop {σ : Type} (FI : σ → Fr) (HI : σ → Hp) (ok : σ → Prop) (μ : σ → Nat) {c : Code} {r : List Code} (s0 : σ) (h0 : ok s0)
    (hF : Sub (FI s0) F) (hH : (HI s0).Sublist H) (round : ∀ s, ok s → W P n K G w0 c (stk P n K G w0 [] (roundEnd FI HI ok μ s (stk P n K G w0 r Q))) (FI s) (HI s)) : W P n K G w0 (.loop c) (stk P n K G w0 r Q) F H :=
  W.loop FI HI ok μ s0 h0 hF hH round
/-- The end of a region with code behind it. -/
theorem sNext {ops : Array Oper} {c : Code} {r : List Code} (h : W P n K G w0 c (stk P n K G w0 r Q) F H) : OpsW P n K G w0 ops [] (stk P n K G w0 (c :: r) Q .normal) F H := OpsW.nil h
theorem sLast {ops : Array Oper} (h : Q .normal F H) : OpsW P n K G w0 ops [] (stk P n K G w0 [] Q .normal) F H := OpsW.nil h
/-- Out of a block by its own exit, to the code behind it. -/
theorem xHere {id : Nat} {c : Code} {r : List Code} (h : W P n K G w0 c (stk P n K G w0 r Q) F H) : inBlk id (stk P n K G w0 (c :: r) Q) (.exit id) F H := by
  simp only [inBlk, Nat.beq_refl]; exact h
theorem xHere0 {id : Nat} (h : Q .normal F H) : inBlk id (stk P n K G w0 [] Q) (.exit id) F H := by
  simp only [inBlk, Nat.beq_refl]; exact h
theorem xOther {id id' : Nat} {r : List Code} (hne : Nat.beq id' id = false) (h : Q (.exit id') F H) : inBlk id (stk P n K G w0 r Q) (.exit id') F H := by
  simp only [inBlk, hne]; exact stk_exit h
theorem xLoop {σ : Type} {FI : σ → Fr} {HI : σ → Hp} {ok : σ → Prop} {μ : σ → Nat} {s : σ} {id : Nat} {r : List Code} (h : Q (.exit id) F H) : roundEnd FI HI ok μ s (stk P n K G w0 r Q) (.exit id) F H := stk_exit (P := P) (r := r) h
/-- Off a block's end. -/
theorem bNext {id : Nat} {c : Code} {r : List Code} (h : W P n K G w0 c (stk P n K G w0 r Q) F H) : inBlk id (stk P n K G w0 (c :: r) Q) .normal F H := h
theorem bLast {id : Nat} (h : Q .normal F H) : inBlk id (stk P n K G w0 [] Q) .normal F H := h
/-- Returns. -/
theorem retLoop {σ : Type} {FI : σ → Fr} {HI : σ → Hp} {ok : σ → Prop} {μ : σ → Nat} {s : σ} {r : List Code} (h : Q .ret F H) : roundEnd FI HI ok μ s (stk P n K G w0 r Q) .ret F H := stk_ret (P := P) (r := r) h
theorem retBlk {id : Nat} {r : List Code} (h : Q .ret F H) : inBlk id (stk P n K G w0 r Q) .ret F H := stk_ret (P := P) (r := r) h
/-- A round's end. -/
theorem rEnd {σ : Type} {FI : σ → Fr} {HI : σ → Hp} {ok : σ → Prop} {μ : σ → Nat} {s : σ} (s' : σ) (h1 : ok s') (h2 : Sub (FI s') F) (h3 : (HI s').Sublist H) (h4 : μ s' < μ s) : roundEnd FI HI ok μ s Q .normal F H := ⟨s', h1, h2, h3, h4⟩

theorem OpsW.norm {ops : Array Oper} {l : List Oper} {R : Fr → Hp → Prop} (hF : F = F') (hH : H = H') (h : OpsW P n K G w0 ops l R F' H') : OpsW P n K G w0 ops l R F H := by
  subst hF; subst hH; exact h
theorem W.norm {c : Code} (hF : F = F') (hH : H = H') (h : W P n K G w0 c Q F' H') : W P n K G w0 c Q F H := by
  subst hF; subst hH; exact h

def clLt : Nat → List (List Nat) → Bool
  | _, [] => true
  | k, pl :: r => pl.all (fun j => decide (j < k)) && clLt (k + 1) r
theorem clLt_eq : ∀ {cl : List (List Nat)} {k : Nat}, clLt k cl = true → ∀ i, ∀ j ∈ clAt cl i, j < k + i
  | [], k, _, i, j, hj => by simp [clAt] at hj
  | pl :: r, k, h, i, j, hj => by
    simp only [clLt, Bool.and_eq_true] at h
    cases i with
    | zero => have := List.all_eq_true.1 h.1 j (by simpa [clAt] using hj); simpa using this
    | succ i => have := clLt_eq h.2 i j (by simpa [clAt] using hj); omega
theorem cl_lt {cl : List (List Nat)} (h : clLt 0 cl = true) : ∀ i, ∀ j ∈ clAt cl i, j < i := fun i j hj => by
  have := clLt_eq h i j hj; omega

theorem OpsW.store {ops : Array Oper} {rest : List Oper} {t : TypeId} {x y : Operand} {ty : TypeId} {pos : String} {after : Array Edge} {R : Fr → Hp → Prop} {s b o : Nat} {cs l cs' : List Value} {e : TypeId} {u : Value}
    (ht : sizeIn P t = some s) (hx : ev F x = some (.pointer (some ⟨b, o, none⟩))) (hy : ev F y = some u) (hl : u.cells = l.toArray) (hlen : l.length = s) (h1 : l.all (·.oneCell') = true)
    (hu : Upd H b (blk cs e) (blk cs' e) H') (hs : splice o l cs = some cs') (h : OpsW P n K G w0 ops rest R F H') :
    OpsW P n K G w0 ops (⟨none, .store t x y, ty, pos, after, none⟩ :: rest) R F H :=
  OpsW.write (wr_store ht hx hy hl hlen h1 hs) hu h

theorem flt_extract {d : Option Tmp} {ty : TypeId} {pos : String} {after : Array Edge} {g : Option (Nat × Bool)} {a : Act} {w : World} {x : Operand} {i : Nat} {l : List Value} {v : Value} (hs : Slots F a) (hx : ev F x = some (.tuple l.toArray)) (hv : l[i]? = some v) :
    (execOp a.eval ⟨d, .extract x i, ty, pos, after, g⟩).run P w = .ok (.value v) w := by simp [execOp, hs.ev hx, Instr.extract, hv]
theorem flt_move {d : Option Tmp} {ty : TypeId} {pos : String} {after : Array Edge} {g : Option (Nat × Bool)} {a : Act} {w : World} {x : Operand} {v : Value} (hs : Slots F a) (hx : ev F x = some v) :
    (execOp a.eval ⟨d, .move x, ty, pos, after, g⟩).run P w = .ok (.value v) w := by simp [execOp, hs.ev hx]
theorem flt_assign {d : Option Tmp} {ty : TypeId} {pos : String} {after : Array Edge} {g : Option (Nat × Bool)} {a : Act} {w : World} {x : Operand} {v : Value} (hs : Slots F a) (hx : ev F x = some v) :
    (execOp a.eval ⟨d, .assign x, ty, pos, after, g⟩).run P w = .ok (.value v) w := by simp [execOp, hs.ev hx]

theorem Old.blocks {w : World} (h : Old K G w0 w) : Blocks G w := fun _ hp => h.look hp
theorem Old.tail {q : Nat × Obj} {w : World} (h : Old K (q :: G) w0 w) : Old K G w0 w := ⟨h.os, h.tape, h.output, h.size, h.old, fun p hp => h.ro p (List.mem_cons_of_mem _ hp)⟩

/-- A function that the model itself carries out. -/
theorem det_extern {d : Option Tmp} {ty : TypeId} {pos : String} {after : Array Edge} {g : Option (Nat × Bool)} {f : FuncId} {xs : List Operand} {ats : Array TypeId} {vs : List Value} {v : Value} (hx : evs F xs = some vs)
    (h : ExternTo P f vs v) : Det P K G w0 ⟨d, .call { callee := .value (.func f), args := xs.toArray, argTypes := ats }, ty, pos, after, g⟩ F H v :=
  det_run fun a w hs _ _ => by
    have hm := evs_map hs hx
    simp [execOp, resolve, Deferred.ofValue, Act.eval, invoke, hm]
    exact h w
end
theorem Pure.of {P : Program} {f : FuncId} {args : Array Value} {w : World} {v : Value} (h : Calls P f args w fun e w' => e = .returned v ∧ Below w.heap.size w w') : Pure P f args w v := h
theorem Pure.out {P : Program} {f : FuncId} {args : Array Value} {w : World} {v : Value} (h : Pure P f args w v) : Calls P f args w fun e w' => e = .returned v ∧ Below w.heap.size w w' := h
theorem Pure.same {P : Program} {f : FuncId} {args : Array Value} {w : World} {v u : Value} (h : Pure P f args w v) (e : v = u) : Pure P f args w u := e ▸ h
theorem Enters.of {P : Program} {f : FuncId} (h : ∀ args w, (callFunc f args).run P w = .ok (.enter f args) w) : Enters P f := h
theorem ExternTo.of {P : Program} {f : FuncId} {vs : List Value} {v : Value} (h : ∀ w, (callFunc f vs.toArray).run P w = .ok (.value v) w) : ExternTo P f vs v := h
theorem BuildTo.of {P : Program} {t : TypeId} {vs : List (Nat × Value)} {v : Value} (h : ∀ w, (Instr.build t vs.toArray).run P w = .ok v w) : BuildTo P t vs v := h
theorem ZeroTo.of {P : Program} {t : TypeId} {v : Value} (h : ∀ w, (Instr.build t #[]).run P w = .ok v w) : ZeroTo P t v := h
theorem FieldTo.of {P : Program} {t : TypeId} {u : Value} {f : Nat} {v : Value} (h : ∀ w, (Instr.field t u f).run P w = .ok v w) : FieldTo P t u f v := h
theorem IndexTo.of {P : Program} {t : TypeId} {u z v : Value} (h : ∀ w, (Instr.index t u z).run P w = .ok v w) : IndexTo P t u z v := h
theorem BinTo.of {P : Program} {op : BinOp} {t : TypeId} {x y : Operand} {u z v : Value} (h1 : ∀ w, (eqGuard op t x y u z).run P w = .ok () w) (h2 : ∀ w, (binOp op t u z).run P w = .ok v w) : BinTo P op t x y u z v := ⟨h1, h2⟩
theorem SliceTo.of {P : Program} {t len : Nat} {vs : List (Nat × Value)} {cs : List Value} {el : TypeId} (h : ∀ w, (Instr.buildSlice t len vs.toArray).run P w = .ok (.slice (some ⟨w.heap.size, 0, none⟩) len len) (w.alloc (blk cs el))) : SliceTo P t len vs cs el := h
theorem Makes.of {P : Program} {f : FuncId} {args : Array Value} {w : World} {mk : Prm → Value} {ob : Prm → Hp} {ok : Prm → Prop}
    (h : Calls P f args w fun e w' => ∃ p, ok p ∧ e = .returned (mk p) ∧ Blocks (ob p) w' ∧ ((ob p).map (·.1)).Nodup ∧ (∀ q ∈ ob p, w.heap.size ≤ q.1) ∧ Below w.heap.size w w') : Makes P f args w mk ob ok := h
end Go.Vm
